/- DecTells, part 7 of 8 of its proof (no condition); names with a low line are shortened throughout. -/
import Derived.Test.YtjbjkmccfocikaaGreatDoorZDecTells5
import Derived.ChangeSlices
import Derived.ChangeArms
import Derived.Lib.SmallJoins
import Derived.Carry
set_option linter.unusedVariables false
set_option linter.unusedSimpArgs false
set_option maxRecDepth 100000
set_option maxHeartbeats 8000000
namespace Go.Proofs
section
namespace YtjbjkmccfocikaaGreatDoor.B
open Go.RowKit YtjbjkmccfocikaaGreatDoorW.PrintWords YtjbjkmccfocikaaGreatDoorW.PrintLast YtjbjkmccfocikaaGreatDoorW.PrintMore
attribute [local go_sem] Zb3 Zb5 Zcp Zcq Zbs Zbt Zb4 Zb6
def Ze.j0:Nat->Int->Bool->Bool->List Int->Int->Bool->List Int->Int->Bool->List Int->Int->Bool->List Int->Int->Option (Bool)
 | 0,_,_,_,_,_,_,_,_,_,_,_,_,_,_=>none
 | k+1,x2,qm6,qcs,qct,qcu,qf3,qf4,qf5,qcv,qcw,qcx,qf6,qf7,qf8=>if qm6=true then (some false) else ((Zea.f k qcv qcw qcx).bind fun qek=>((Zbr.f k qcs qct qcu).bind fun qel=>((Zds.f k qcv qcw qcx).bind fun qfg=>((Zx.f k qcs qct qcu).bind fun qfh=>((Zo.f k qek.1 qek.2.1 qek.2.2.1 qel.1 qel.2.1 qel.2.2.1).bind fun qfo=>(if qfo=true then ((Zae.f qek.2.2.2).bind fun qfp=>(if qfp=qel.2.2.2 then (if qfg.1=qfh.1 then (if (qfg.2.1 == qfh.2.1)=true then ((Zae.f qfg.2.2).bind fun qfq=>(if qfq=qfh.2.2 then ((Zbk.f k qcv qcw qcx).bind fun qff=>((Zae.f qff).bind fun qfr=>((Zn.f k qcs qct qcu).bind fun qfs=>(if qfr=qfs then ((Zey.f k x2).bind fun qfi=>((Zc9.f k x2).bind fun qfj=>((Zo.f k qfi.1 qfi.2.1 qfi.2.2 qfj.1 qfj.2.1 qfj.2.2).bind fun qfz=>(if qfz=true then ((Zo.f k qcv qcw qcx qcs qct qcu).bind fun qf0=>(if qf0=true then ((Zo.f k qf6 qf7 qf8 qf3 qf4 qf5).bind fun qf1=>(if qf1=true then ((Zb1.f k).bind fun qf2=>(some qf2)) else (some false))) else (some false))) else (some false))))) else (some false))))) else (some false))) else (some false)) else (some false)) else (some false))) else (some false)))))))
def Ze.f (k:Nat) (a0_0:Bool) (l0_1:List Int) (a0_2:Int) (a1_0:Bool) (l1_1:List Int) (a1_2:Int) (a2:Int):Option (Bool):=(Zcc.f a0_0 l0_1 a0_2).bind fun qr=>((Zcc.f a1_0 l1_1 a1_2).bind fun qs=>((Zbl.f k qr.1 qr.2.1 qr.2.2 qs.1 qs.2.1 qs.2.2).bind fun qef=>((Zbp.f k a0_0 l0_1 a0_2 a1_0 l1_1 a1_2).bind fun qeg=>((Zdq.f k qr.1 qr.2.1 qr.2.2 qs.1 qs.2.1 qs.2.2).bind fun qbb=>((Zaw.f k a0_0 l0_1 a0_2 a1_0 l1_1 a1_2).bind fun qbc=>((Zcz.f k qr.1 qr.2.1 qr.2.2 qs.1 qs.2.1 qs.2.2).bind fun qbd=>((Zax.f k a0_0 l0_1 a0_2 a1_0 l1_1 a1_2).bind fun qbe=>((Zcy.f k qr.1 qr.2.1 qr.2.2 qs.1 qs.2.1 qs.2.2).bind fun qbf=>((Zaf.f k a0_0 l0_1 a0_2 a1_0 l1_1 a1_2).bind fun qbg=>(if qef.1=qeg.1 then ((Zae.f qef.2).bind fun qe9=>(if qe9=qeg.2 then ((Zo.f k qbb.1 qbb.2.1 qbb.2.2.1 qbc.1 qbc.2.1 qbc.2.2.1).bind fun qfa=>(if qfa=true then ((Zae.f qbb.2.2.2).bind fun qfb=>(if qfb=qbc.2.2.2 then ((Zo.f k qbd.1 qbd.2.1 qbd.2.2.1 qbe.1 qbe.2.1 qbe.2.2.1).bind fun qfc=>(if qfc=true then ((Zae.f qbd.2.2.2).bind fun qfd=>(if qfd=qbe.2.2.2 then ((Zo.f k qbf.1 qbf.2.1 qbf.2.2.1 qbg.1 qbg.2.1 qbg.2.2.1).bind fun qfe=>(if qfe=true then ((Zae.f qbf.2.2.2).bind fun qej=>(Ze.j0 k a2 (qej != qbg.2.2.2) a0_0 l0_1 a0_2 a1_0 l1_1 a1_2 qr.1 qr.2.1 qr.2.2 qs.1 qs.2.1 qs.2.2)) else (Ze.j0 k a2 true a0_0 l0_1 a0_2 a1_0 l1_1 a1_2 qr.1 qr.2.1 qr.2.2 qs.1 qs.2.1 qs.2.2))) else (Ze.j0 k a2 true a0_0 l0_1 a0_2 a1_0 l1_1 a1_2 qr.1 qr.2.1 qr.2.2 qs.1 qs.2.1 qs.2.2))) else (Ze.j0 k a2 true a0_0 l0_1 a0_2 a1_0 l1_1 a1_2 qr.1 qr.2.1 qr.2.2 qs.1 qs.2.1 qs.2.2))) else (Ze.j0 k a2 true a0_0 l0_1 a0_2 a1_0 l1_1 a1_2 qr.1 qr.2.1 qr.2.2 qs.1 qs.2.1 qs.2.2))) else (Ze.j0 k a2 true a0_0 l0_1 a0_2 a1_0 l1_1 a1_2 qr.1 qr.2.1 qr.2.2 qs.1 qs.2.1 qs.2.2))) else (Ze.j0 k a2 true a0_0 l0_1 a0_2 a1_0 l1_1 a1_2 qr.1 qr.2.1 qr.2.2 qs.1 qs.2.1 qs.2.2))) else (Ze.j0 k a2 true a0_0 l0_1 a0_2 a1_0 l1_1 a1_2 qr.1 qr.2.1 qr.2.2 qs.1 qs.2.1 qs.2.2)))))))))))
def Ze.T1:Bool × List (List Nat × List Nat):=(true,[([],[]),([0],[0]),([],[]),([2,1],[2]),([],[]),([],[]),([4,1,3,0,1,4,5],[1,4]),([5,3,6,0,1,2,3,4,5,6],[3,5])])
def Ze.B1:List Nat:=[0,1,0,7,0,0,63,127]
theorem Ze.tab1:rtab .any (opsOf Tryz.f13 1)=Ze.T1:=by kernel_rfl
theorem Ze.bits1:waitsOk Ze.T1.2 Ze.B1=true:=by kernel_rfl
def Ze.T16:Bool × List (List Nat × List Nat):=(true,[([],[]),([],[]),([0,1],[0,1]),([2,2],[2]),([3],[3]),([4,3,3],[3,4]),([3],[3]),([5,6,3],[3,5,6]),([3,7],[3,7]),([8,5],[8]),([9],[9]),([9],[9]),([10,11,9],[9,10,11]),([9,12],[9,12]),([13,9],[13]),([14],[14]),([14],[14]),([15,16,14],[14,15,16]),([14,17],[14,17]),([18,14],[18]),([19],[19]),([20,19,19],[19,20]),([19],[19]),([21,22,19],[19,21,22]),([19,23],[19,23]),([24,21],[24]),([25],[25]),([26,25,25],[25,26]),([27,27,25],[25,27]),([25],[25]),([29,28,25],[25,29]),([28,30,25],[25,28,30]),([25,31],[25,31]),([32,30],[32]),([33],[33]),([34,33,33],[33,34]),([33],[33]),([36,35,33],[33,36]),([35,37,37,33],[33,35,37]),([33,38],[33,38]),([39,38],[39]),([40],[40]),([40],[40]),([41,42,40,40],[40,41,42]),([40,43],[40,43]),([44,43],[44]),([45],[45]),([45],[45]),([46,47,45,45],[45,46,47]),([45,48],[45,48]),([49,48],[49]),([50,50],[50]),([50,51],[50,51]),([52,51,0,1,2,3,4,5,6,7,8,9,10,11,12,13,14,15,16,17,18,19,20,21,22,23,24,25,26,27,28,29,30,31,32,33,34,35,36,37,38,39,40,41,42,43,44,45,46,47,48,49,50,51,52],[52])])
def Ze.B16:List Nat:=[0,0,3,7,15,31,15,127,255,511,1023,1023,4095,8191,16383,32767,32767,131071,262143,524287,1048575,2097151,1048575,8388607,16777215,33554431,67108863,134217727,268435455,67108863,1073741823,2147483647,4294967295,8589934591,17179869183,34359738367,17179869183,137438953471,274877906943,549755813887,1099511627775,2199023255551,2199023255551,8796093022207,17592186044415,35184372088831,70368744177663,70368744177663,281474976710655,562949953421311,1125899906842623,2251799813685247,4503599627370495,9007199254740991]
theorem Ze.tab16:rtab .any (opsOf Tryz.f13 16)=Ze.T16:=by kernel_rfl
theorem Ze.bits16:waitsOk Ze.T16.2 Ze.B16=true:=by kernel_rfl
theorem Ze.dead {k:Nat} {y0:Int} {y2:Bool} {y3:List Int} {y4:Int} {y5:Bool} {y6:List Int} {y7:Int} {y8:Bool} {y9:List Int} {y10:Int} {y11:Bool} {y12:List Int} {y13:Int} {r:Bool} (H:Ze.j0 k y0 true y2 y3 y4 y5 y6 y7 y8 y9 y10 y11 y12 y13=some r) (hr:r=true):False:=by
 subst hr
 cases k <;> simp [Ze.j0] at H
theorem Ze.calls (k:Nat) (a0_0:Bool) (A0_1:Option Addr) (c0_1:Nat) (l0_1:List Int) (a0_2:Int) (a1_0:Bool) (A1_1:Option Addr) (c1_1:Nat) (l1_1:List Int) (a1_2:Int) (a2:Int) (r:Bool) (w:World) (hr0_1:Kd.C (Kd.int .u32) w A0_1 l0_1.length l0_1) (hc0_1:l0_1.length<=c0_1) (hr1_1:Kd.C (Kd.int .u32) w A1_1 l1_1.length l1_1) (hc1_1:l1_1.length<=c1_1) (h:Ze.f k a0_0 l0_1 a0_2 a1_0 l1_1 a1_2 a2=some r) (hr:r=true) :
  Calls Tryz.prog 13 #[.agg #[.bool a0_0,.slice A0_1 l0_1.length c0_1,.int .i64 a0_2],.agg #[.bool a1_0,.slice A1_1 l1_1.length c1_1,.int .i64 a1_2],.int .i64 a2] w fun e w'=>e=.returned (.bool r)/\Below w.heap.size w w':=by
 have hu24:=Tryz.underlying24
 have HR0_1:=am hr0_1
 have HC0_1:=am hc0_1
 clear hr0_1 hc0_1
 have HR1_1:=am hr1_1
 have HC1_1:=am hc1_1
 clear hr1_1 hc1_1
 have HB:=am (Below.refl w.heap.size w)
 have H:((Zcc.f a0_0 l0_1 a0_2).bind fun qr=>((Zcc.f a1_0 l1_1 a1_2).bind fun qs=>((Zbl.f k qr.1 qr.2.1 qr.2.2 qs.1 qs.2.1 qs.2.2).bind fun qef=>((Zbp.f k a0_0 l0_1 a0_2 a1_0 l1_1 a1_2).bind fun qeg=>((Zdq.f k qr.1 qr.2.1 qr.2.2 qs.1 qs.2.1 qs.2.2).bind fun qbb=>((Zaw.f k a0_0 l0_1 a0_2 a1_0 l1_1 a1_2).bind fun qbc=>((Zcz.f k qr.1 qr.2.1 qr.2.2 qs.1 qs.2.1 qs.2.2).bind fun qbd=>((Zax.f k a0_0 l0_1 a0_2 a1_0 l1_1 a1_2).bind fun qbe=>((Zcy.f k qr.1 qr.2.1 qr.2.2 qs.1 qs.2.1 qs.2.2).bind fun qbf=>((Zaf.f k a0_0 l0_1 a0_2 a1_0 l1_1 a1_2).bind fun qbg=>(if qef.1=qeg.1 then ((Zae.f qef.2).bind fun qe9=>(if qe9=qeg.2 then ((Zo.f k qbb.1 qbb.2.1 qbb.2.2.1 qbc.1 qbc.2.1 qbc.2.2.1).bind fun qfa=>(if qfa=true then ((Zae.f qbb.2.2.2).bind fun qfb=>(if qfb=qbc.2.2.2 then ((Zo.f k qbd.1 qbd.2.1 qbd.2.2.1 qbe.1 qbe.2.1 qbe.2.2.1).bind fun qfc=>(if qfc=true then ((Zae.f qbd.2.2.2).bind fun qfd=>(if qfd=qbe.2.2.2 then ((Zo.f k qbf.1 qbf.2.1 qbf.2.2.1 qbg.1 qbg.2.1 qbg.2.2.1).bind fun qfe=>(if qfe=true then ((Zae.f qbf.2.2.2).bind fun qej=>(Ze.j0 k a2 (qej != qbg.2.2.2) a0_0 l0_1 a0_2 a1_0 l1_1 a1_2 qr.1 qr.2.1 qr.2.2 qs.1 qs.2.1 qs.2.2)) else (Ze.j0 k a2 true a0_0 l0_1 a0_2 a1_0 l1_1 a1_2 qr.1 qr.2.1 qr.2.2 qs.1 qs.2.1 qs.2.2))) else (Ze.j0 k a2 true a0_0 l0_1 a0_2 a1_0 l1_1 a1_2 qr.1 qr.2.1 qr.2.2 qs.1 qs.2.1 qs.2.2))) else (Ze.j0 k a2 true a0_0 l0_1 a0_2 a1_0 l1_1 a1_2 qr.1 qr.2.1 qr.2.2 qs.1 qs.2.1 qs.2.2))) else (Ze.j0 k a2 true a0_0 l0_1 a0_2 a1_0 l1_1 a1_2 qr.1 qr.2.1 qr.2.2 qs.1 qs.2.1 qs.2.2))) else (Ze.j0 k a2 true a0_0 l0_1 a0_2 a1_0 l1_1 a1_2 qr.1 qr.2.1 qr.2.2 qs.1 qs.2.1 qs.2.2))) else (Ze.j0 k a2 true a0_0 l0_1 a0_2 a1_0 l1_1 a1_2 qr.1 qr.2.1 qr.2.2 qs.1 qs.2.1 qs.2.2))) else (Ze.j0 k a2 true a0_0 l0_1 a0_2 a1_0 l1_1 a1_2 qr.1 qr.2.1 qr.2.2 qs.1 qs.2.1 qs.2.2))))))))))))=some r:=h
 clear h
 replace H:=ob H
 obtain ⟨⟨je,q0,jf⟩,A4,H⟩:=H;(try dsimp only at H)
 replace H:=ob H
 obtain ⟨⟨jq,q1,jt⟩,A5,H⟩:=H;(try dsimp only at H)
 replace H:=ob H
 obtain ⟨⟨qgq,qgb⟩,A6,H⟩:=H;(try dsimp only at H)
 replace H:=ob H
 obtain ⟨⟨qgr,qgs⟩,A7,H⟩:=H;(try dsimp only at H)
 replace H:=ob H
 obtain ⟨⟨qa9,jb,qba,qgc⟩,A8,H⟩:=H;(try dsimp only at H)
 replace H:=ob H
 obtain ⟨⟨qco,jg,qcp,qgt⟩,A9,H⟩:=H;(try dsimp only at H)
 replace H:=ob H
 obtain ⟨⟨qan,jh,qao,qgd⟩,A10,H⟩:=H;(try dsimp only at H)
 replace H:=ob H
 obtain ⟨⟨qbj,jr,qbk,qgu⟩,A11,H⟩:=H;(try dsimp only at H)
 replace H:=ob H
 obtain ⟨⟨qae,js,qaf,qge⟩,A12,H⟩:=H;(try dsimp only at H)
 replace H:=ob H
 obtain ⟨⟨qau,jw,qav,qgf⟩,A13,H⟩:=H;(try dsimp only at H)
 have HC14:=am H
 clear H
 go_enter Tryz.func13,Tryz.ntmps13
 try go_wp2_with (first|((with_reducible refine gd 3 ?_);refine bx 3 #[.bool a0_0,.slice A0_1 l0_1.length c0_1,.int .i64 a0_2] 24 (h:=?_);intro jc hg w15 hbox hb;have qa:=am hbox;have qho:=gW hg;replace HB:=bS hb;clear hb hbox hg)|((with_reducible refine gd 4 ?_);refine bx 4 #[.bool a1_0,.slice A1_1 l1_1.length c1_1,.int .i64 a1_2] 24 (h:=?_);intro jd hg w16 hbox hb;have qb:=am hbox;have qhp:=gW hg;have qc0:=nL hg qa;have qc3:=nG hg qa;replace qa:=bb qa hb;replace HB:=bS hb;clear hb hbox hg))
 replace qa:=am (Zay qa.o)
 replace qb:=am (Zay qb.o)
 replace HB:=am (Zbe HB.o)
 refine start_ (n:=8) (S:=fun w'=>w'.cell? ⟨jc,0,none⟩=some (.bool a0_0)/\w'.cell? ⟨jc,1,none⟩=some (.slice A0_1 l0_1.length c0_1)/\w'.cell? ⟨jc,2,none⟩=some (.int .i64 a0_2)/\w'.cell? ⟨jd,0,none⟩=some (.bool a1_0)/\w'.cell? ⟨jd,1,none⟩=some (.slice A1_1 l1_1.length c1_1)/\w'.cell? ⟨jd,2,none⟩=some (.int .i64 a1_2)) (ds:=[]) #[false,false,false,false,false,false,false,false] (by kernel_rfl) rfl rfl ⟨k0 qa 0,k0 qa 1,k0 qa 2,k0 qb 0,k0 qb 1,k0 qb 2⟩ (fun hHeld=>?_);refine Zch Ze.tab1 Ze.bits1 (fun HT_ HW_=>?_)
 generalize w16.drew=w17 at qa qb HB hHeld ⊢
 refine take_ (i:=0) (N:=some 35) (v:=?_) (a':=?_) #[true,false,false,false,false,false,false,false] rfl rfl (Za3 HT_.out HW_.out (by kernel_rfl)) (fun _ _ _ h=>h) (Or.inl ⟨by rfl,?_⟩) hHeld ?_ ?_
 rotate_left
 ·rintro w' ⟨s0,s1,s2,s3,s4,s5⟩
  go_simp
  with_reducible rfl
 rotate_left
 ·exact pP
 refine take_ (i:=2) (N:=some 37) (v:=?_) (a':=?_) #[true,false,true,false,false,false,false,false] rfl rfl (Za3 HT_.out HW_.out (by kernel_rfl)) (fun _ _ _ h=>h) (Or.inl ⟨by rfl,?_⟩) hHeld ?_ ?_
 rotate_left
 ·rintro w' ⟨s0,s1,s2,s3,s4,s5⟩
  go_simp
  with_reducible rfl
 rotate_left
 ·exact pP
 refine join_ (σ:=Value × Value × Nat × Nat) 2 #[true,true,true,true,true,true,false,false] (fun s_=>[(36,.agg #[.bool je,s_.1,.int .i64 jf]),(38,.agg #[.bool jq,s_.2.1,.int .i64 jt]),(7,.pointer (some ⟨s_.2.2.1,0,none⟩)),(8,.pointer (some ⟨s_.2.2.2,0,none⟩))]) (fun s_ w'=>(w'.cell? ⟨jc,0,none⟩=some (.bool a0_0)/\w'.cell? ⟨jc,1,none⟩=some (.slice A0_1 l0_1.length c0_1)/\w'.cell? ⟨jc,2,none⟩=some (.int .i64 a0_2)/\w'.cell? ⟨jd,0,none⟩=some (.bool a1_0)/\w'.cell? ⟨jd,1,none⟩=some (.slice A1_1 l1_1.length c1_1)/\w'.cell? ⟨jd,2,none⟩=some (.int .i64 a1_2))/\(Kd.R (Kd.int .u32) 85 w' w.heap.size (fun k_=>some k_ ≠ (s_.2.1:Value).ownBlock) s_.1 q0)/\(Kd.R (Kd.int .u32) 85 w' w.heap.size (fun k_=>some k_ ≠ (s_.1:Value).ownBlock) s_.2.1 q1)/\(w'.heap[jc]? = some (.cells #[.bool a0_0,.slice A0_1 l0_1.length c0_1,.int .i64 a0_2] 24 (0,0)))/\(w'.heap[jd]? = some (.cells #[.bool a1_0,.slice A1_1 l1_1.length c1_1,.int .i64 a1_2] 24 (0,0)))/\(w'.heap[s_.2.2.1]? = some (.cells #[.bool false,.slice none 0 0,.int .i64 0] 24 (0,0)))/\(w'.heap[s_.2.2.2]? = some (.cells #[.bool false,.slice none 0 0,.int .i64 0] 24 (0,0)))/\(w.heap.size<=s_.2.2.1)/\(w.heap.size<=s_.2.2.1)/\(jc ≠ s_.2.2.1)/\(s_.2.2.1 ≠ jc)/\(jd ≠ s_.2.2.1)/\(s_.2.2.1 ≠ jd)/\(s_.2.2.2 ≠ s_.2.2.1)/\(s_.2.2.1 ≠ s_.2.2.2)/\(w.heap.size<=s_.2.2.2)/\(w.heap.size<=s_.2.2.2)/\(jc ≠ s_.2.2.2)/\(s_.2.2.2 ≠ jc)/\(jd ≠ s_.2.2.2)/\(s_.2.2.2 ≠ jd)/\(Below w.heap.size w w')) ?_ ?_
 rotate_left
 ·intro hJ1_3_4_5
  refine pair2 1 3 4 5 36 38 7 8 w.heap.size (.bool je) (.int .i64 jf) (.bool jq) (.int .i64 jt) #[.bool false,.slice none 0 0,.int .i64 0] 24 (Zb HB.o) (fun w_ hb_=>⟨k0 (bb qa hb_) 0,k0 (bb qa hb_) 1,k0 (bb qa hb_) 2,k0 (bb qb hb_) 0,k0 (bb qb hb_) 1,k0 (bb qb hb_) 2⟩) (fun f_ w_ hb_ K_ hK_=>?_) (fun f_ w_ hb_ K_ hK_=>?_) (fun u1_ u3_ g4_ g5_ w_ hb_ r1_ r2_ q4_ q5_ m4_ m5_ hne_=>hJ1_3_4_5 (u1_,u3_,g4_,g5_) _ ⟨⟨k0 (bb qa hb_) 0,k0 (bb qa hb_) 1,k0 (bb qa hb_) 2,k0 (bb qb hb_) 0,k0 (bb qb hb_) 1,k0 (bb qb hb_) 2⟩,r1_,r2_,(bb qa hb_).out,(bb qb hb_).out,q4_,q5_,(Nat.le_trans (Zb HB.o) m4_),(Nat.le_trans (Zb HB.o) m4_),(nW qa m4_),(nV qa m4_),(nW qb m4_),(nV qb m4_),hne_.symm,hne_,(Nat.le_trans (Zb HB.o) m5_),(Nat.le_trans (Zb HB.o) m5_),(nW qa m5_),(nV qa m5_),(nW qb m5_),(nV qb m5_),(bS hb_).out⟩)
  ·have HB:=bS hb_
   refine goes_ Tryz.func42 (by kernel_rfl) rfl #[.agg #[.bool a0_0,.slice A0_1 l0_1.length c0_1,.int .i64 a0_2]] (by rfl) rfl rfl pA ?_
   with_reducible refine (Zcc.calls a0_0 _ _ l0_1 a0_2 je q0 jf _ ?side1 ?side2 A4.o).mono ?_
   (case side1=>exact cB HR0_1 HB)
   (case side2=>exact HC0_1.o)
   rintro e w18 ⟨qfk,rfl,ho0,hb2_⟩
   exact ⟨_,rfl,hK_ qfk _ _ ho0 hb2_⟩
  ·have HB:=bS hb_
   refine goes_ Tryz.func42 (by kernel_rfl) rfl #[.agg #[.bool a1_0,.slice A1_1 l1_1.length c1_1,.int .i64 a1_2]] (by rfl) rfl rfl pA ?_
   with_reducible refine (Zcc.calls a1_0 _ _ l1_1 a1_2 jq q1 jt _ ?side1 ?side2 A5.o).mono ?_
   (case side1=>exact cB HR1_1 HB)
   (case side2=>exact HC1_1.o)
   rintro e w20 ⟨qfl,rfl,ho0,hb2_⟩
   exact ⟨_,rfl,hK_ qfl _ _ ho0 hb2_⟩
 rintro ⟨qfk,qfl,qu,qv⟩ w22 ⟨hS_,h0_,h1_,h2_,h3_,h4_,h5_,h6_,h7_,h8_,h9_,h10_,h11_,h12_,h13_,h14_,h15_,h16_,h17_,h18_,h19_,h20_⟩
 have qy:Aside0 (Kd.R (Kd.int .u32) 85 w22 w.heap.size (fun k_=>some k_ ≠ (qfl:Value).ownBlock) qfk q0):=⟨h0_⟩
 have qz:Aside0 (Kd.R (Kd.int .u32) 85 w22 w.heap.size (fun k_=>some k_ ≠ (qfk:Value).ownBlock) qfl q1):=⟨h1_⟩
 have qc:Aside0 (w22.heap[qu]? = some (.cells #[.bool false,.slice none 0 0,.int .i64 0] 24 (0,0))):=⟨h4_⟩
 have qd:Aside0 (w22.heap[qv]? = some (.cells #[.bool false,.slice none 0 0,.int .i64 0] 24 (0,0))):=⟨h5_⟩
 have qhq:Aside0 (w.heap.size<=qu):=⟨h6_⟩
 have qhm:Aside0 (w.heap.size<=qu):=⟨h7_⟩
 have q3:Aside0 (jc ≠ qu):=⟨h8_⟩
 have qai:Aside0 (qu ≠ jc):=⟨h9_⟩
 have q5:Aside0 (jd ≠ qu):=⟨h10_⟩
 have qaj:Aside0 (qu ≠ jd):=⟨h11_⟩
 have jj:Aside0 (qv ≠ qu):=⟨h12_⟩
 have ji:Aside0 (qu ≠ qv):=⟨h13_⟩
 have qhr:Aside0 (w.heap.size<=qv):=⟨h14_⟩
 have qhn:Aside0 (w.heap.size<=qv):=⟨h15_⟩
 have q4:Aside0 (jc ≠ qv):=⟨h16_⟩
 have qak:Aside0 (qv ≠ jc):=⟨h17_⟩
 have q6:Aside0 (jd ≠ qv):=⟨h18_⟩
 have qa8:Aside0 (qv ≠ jd):=⟨h19_⟩
 replace qa:Aside0 (w22.heap[jc]? = some (.cells #[.bool a0_0,.slice A0_1 l0_1.length c0_1,.int .i64 a0_2] 24 (0,0))):=⟨h2_⟩
 replace qb:Aside0 (w22.heap[jd]? = some (.cells #[.bool a1_0,.slice A1_1 l1_1.length c1_1,.int .i64 a1_2] 24 (0,0))):=⟨h3_⟩
 replace HB:Aside0 (Below w.heap.size w w22):=⟨h20_⟩
 clear h0_ h1_ h2_ h3_ h4_ h5_ h6_ h7_ h8_ h9_ h10_ h11_ h12_ h13_ h14_ h15_ h16_ h17_ h18_ h19_ h20_
 have hHeld:w22.cell? ⟨jc,0,none⟩=some (.bool a0_0)/\w22.cell? ⟨jc,1,none⟩=some (.slice A0_1 l0_1.length c0_1)/\w22.cell? ⟨jc,2,none⟩=some (.int .i64 a0_2)/\w22.cell? ⟨jd,0,none⟩=some (.bool a1_0)/\w22.cell? ⟨jd,1,none⟩=some (.slice A1_1 l1_1.length c1_1)/\w22.cell? ⟨jd,2,none⟩=some (.int .i64 a1_2):=hS_
 obtain ⟨jl,jk,qgm⟩:=Kd.Zm qy.o
 (first|subst qgm|(injection qgm with f1_ f2_ f3_;have f4_:=f1_.symm;have f5_:=f3_.symm;clear f1_ f2_ f3_;subst f4_;subst f5_))
 obtain ⟨jn,jo,qgn⟩:=Kd.Zm qz.o
 (first|subst qgn|(injection qgn with f1_ f2_ f3_;have f4_:=f1_.symm;have f5_:=f3_.symm;clear f1_ f2_ f3_;subst f4_;subst f5_))
 refine norm_ (a':=?_) ?_ ?_
 rotate_left
 ·simp only [putAll,Act.put,List.setIfInBounds_toArray,List.set_cons_zero,List.set_cons_succ]
  rfl
 refine one_ (i:=6) (N:=none) #[true,true,true,true,true,true,true,false] rfl rfl (Za8 HT_.out (by kernel_rfl)) (by decide) (fun K hK=>?_)
 have hs23:w22.cell? ⟨qu,0,none⟩=some (.bool false):=k0 qc 0
 have hfs23:=Zaa qc.o 0
 have hns23_0:=q3.o
 have hns23_1:=q5.o
 have hns23_3:=jj.o
 have hms23_0:=qai.o
 have hms23_1:=qaj.o
 have hms23_3:=ji.o
 have hs25:w22.cell? ⟨qu,1,none⟩=some (.slice none 0 0):=k0 qc 1
 have hfs25:=Zaa qc.o 1
 have hns25_0:=q3.o
 have hns25_1:=q5.o
 have hns25_3:=jj.o
 have hms25_0:=qai.o
 have hms25_1:=qaj.o
 have hms25_3:=ji.o
 have hs26:w22.cell? ⟨qu,2,none⟩=some (.int .i64 0):=k0 qc 2
 have hfs26:=Zaa qc.o 2
 have hns26_0:=q3.o
 have hns26_1:=q5.o
 have hns26_3:=jj.o
 have hms26_0:=qai.o
 have hms26_1:=qaj.o
 have hms26_3:=ji.o
 refine skip_ (w1:=?_) (by rfl) rfl ?_ ?_
 rotate_left
 ·go_simp
  rfl
 refine hK.out _ _ ⟨((cell_far (p:=⟨qu,_,none⟩) q3.o _).trans (((cell_far (p:=⟨qu,_,none⟩) q3.o _).trans (((cell_far (p:=⟨qu,_,none⟩) q3.o _).trans (hHeld.1)))))),((cell_far (p:=⟨qu,_,none⟩) q3.o _).trans (((cell_far (p:=⟨qu,_,none⟩) q3.o _).trans (((cell_far (p:=⟨qu,_,none⟩) q3.o _).trans (hHeld.2.1)))))),((cell_far (p:=⟨qu,_,none⟩) q3.o _).trans (((cell_far (p:=⟨qu,_,none⟩) q3.o _).trans (((cell_far (p:=⟨qu,_,none⟩) q3.o _).trans (hHeld.2.2.1)))))),((cell_far (p:=⟨qu,_,none⟩) q5.o _).trans (((cell_far (p:=⟨qu,_,none⟩) q5.o _).trans (((cell_far (p:=⟨qu,_,none⟩) q5.o _).trans (hHeld.2.2.2.1)))))),((cell_far (p:=⟨qu,_,none⟩) q5.o _).trans (((cell_far (p:=⟨qu,_,none⟩) q5.o _).trans (((cell_far (p:=⟨qu,_,none⟩) q5.o _).trans (hHeld.2.2.2.2.1)))))),((cell_far (p:=⟨qu,_,none⟩) q5.o _).trans (((cell_far (p:=⟨qu,_,none⟩) q5.o _).trans (((cell_far (p:=⟨qu,_,none⟩) q5.o _).trans (hHeld.2.2.2.2.2))))))⟩ (fun hHeld=>?_)
 clear hK K
 refine one_ (i:=7) (N:=none) #[true,true,true,true,true,true,true,true] rfl rfl (Za8 HT_.out (by kernel_rfl)) (by decide) (fun K hK=>?_)
 have hs27:w22.cell? ⟨qv,0,none⟩=some (.bool false):=k0 qd 0
 have hfs27:=Zaa qd.o 0
 have hns27_0:=q4.o
 have hns27_1:=q6.o
 have hns27_2:=ji.o
 have hms27_0:=qak.o
 have hms27_1:=qa8.o
 have hms27_2:=jj.o
 have hs29:w22.cell? ⟨qv,1,none⟩=some (.slice none 0 0):=k0 qd 1
 have hfs29:=Zaa qd.o 1
 have hns29_0:=q4.o
 have hns29_1:=q6.o
 have hns29_2:=ji.o
 have hms29_0:=qak.o
 have hms29_1:=qa8.o
 have hms29_2:=jj.o
 have hs30:w22.cell? ⟨qv,2,none⟩=some (.int .i64 0):=k0 qd 2
 have hfs30:=Zaa qd.o 2
 have hns30_0:=q4.o
 have hns30_1:=q6.o
 have hns30_2:=ji.o
 have hms30_0:=qak.o
 have hms30_1:=qa8.o
 have hms30_2:=jj.o
 refine skip_ (w1:=?_) (by rfl) rfl ?_ ?_
 rotate_left
 ·go_simp
  rfl
 refine hK.out _ _ ⟨((cell_far (p:=⟨qv,_,none⟩) q4.o _).trans (((cell_far (p:=⟨qv,_,none⟩) q4.o _).trans (((cell_far (p:=⟨qv,_,none⟩) q4.o _).trans (hHeld.1)))))),((cell_far (p:=⟨qv,_,none⟩) q4.o _).trans (((cell_far (p:=⟨qv,_,none⟩) q4.o _).trans (((cell_far (p:=⟨qv,_,none⟩) q4.o _).trans (hHeld.2.1)))))),((cell_far (p:=⟨qv,_,none⟩) q4.o _).trans (((cell_far (p:=⟨qv,_,none⟩) q4.o _).trans (((cell_far (p:=⟨qv,_,none⟩) q4.o _).trans (hHeld.2.2.1)))))),((cell_far (p:=⟨qv,_,none⟩) q6.o _).trans (((cell_far (p:=⟨qv,_,none⟩) q6.o _).trans (((cell_far (p:=⟨qv,_,none⟩) q6.o _).trans (hHeld.2.2.2.1)))))),((cell_far (p:=⟨qv,_,none⟩) q6.o _).trans (((cell_far (p:=⟨qv,_,none⟩) q6.o _).trans (((cell_far (p:=⟨qv,_,none⟩) q6.o _).trans (hHeld.2.2.2.2.1)))))),((cell_far (p:=⟨qv,_,none⟩) q6.o _).trans (((cell_far (p:=⟨qv,_,none⟩) q6.o _).trans (((cell_far (p:=⟨qv,_,none⟩) q6.o _).trans (hHeld.2.2.2.2.2))))))⟩ (fun hHeld=>?_)
 clear hK K
 refine done_ (Zdg HT_.out (by kernel_rfl)) ?_
 have n0_:Aside0 (Kd.R (Kd.int .u32) 85 ((((((w22.setCell ⟨qu,0,none⟩ (.bool je)).setCell ⟨qu,1,none⟩ (.slice jl q0.length jk)).setCell ⟨qu,2,none⟩ (.int .i64 jf)).setCell ⟨qv,0,none⟩ (.bool jq)).setCell ⟨qv,1,none⟩ (.slice jn q1.length jo)).setCell ⟨qv,2,none⟩ (.int .i64 jt)) w.heap.size (fun k_=>some k_ ≠ (.slice jn q1.length jo:Value).ownBlock) (.slice jl q0.length jk) q0):=⟨by refine rp ?_;exact Kd.Zi (Kd.Zj (p:=⟨qv,2,none⟩) (Kd.Zj (p:=⟨qv,1,none⟩) (Kd.Zj (p:=⟨qv,0,none⟩) (Kd.Zj (p:=⟨qu,2,none⟩) (Kd.Zj (p:=⟨qu,1,none⟩) (Kd.Zj (p:=⟨qu,0,none⟩) (Kd.Zg (Kd.Zg qy.o qc.o (by decide)) qd.o (by decide)) (fun _ hk=>hk.1.2) (.bool je)) (fun _ hk=>hk.1.2) (.slice jl q0.length jk)) (fun _ hk=>hk.1.2) (.int .i64 jf)) (fun _ hk=>hk.2) (.bool jq)) (fun _ hk=>hk.2) (.slice jn q1.length jo)) (fun _ hk=>hk.2) (.int .i64 jt)) (fun _ hk=>hk.1.1)⟩
 have n1_:Aside0 (Kd.R (Kd.int .u32) 85 ((((((w22.setCell ⟨qu,0,none⟩ (.bool je)).setCell ⟨qu,1,none⟩ (.slice jl q0.length jk)).setCell ⟨qu,2,none⟩ (.int .i64 jf)).setCell ⟨qv,0,none⟩ (.bool jq)).setCell ⟨qv,1,none⟩ (.slice jn q1.length jo)).setCell ⟨qv,2,none⟩ (.int .i64 jt)) w.heap.size (fun k_=>some k_ ≠ (.slice jl q0.length jk:Value).ownBlock) (.slice jn q1.length jo) q1):=⟨by refine rp ?_;exact Kd.Zi (Kd.Zj (p:=⟨qv,2,none⟩) (Kd.Zj (p:=⟨qv,1,none⟩) (Kd.Zj (p:=⟨qv,0,none⟩) (Kd.Zj (p:=⟨qu,2,none⟩) (Kd.Zj (p:=⟨qu,1,none⟩) (Kd.Zj (p:=⟨qu,0,none⟩) (Kd.Zg (Kd.Zg qz.o qc.o (by decide)) qd.o (by decide)) (fun _ hk=>hk.1.2) (.bool je)) (fun _ hk=>hk.1.2) (.slice jl q0.length jk)) (fun _ hk=>hk.1.2) (.int .i64 jf)) (fun _ hk=>hk.2) (.bool jq)) (fun _ hk=>hk.2) (.slice jn q1.length jo)) (fun _ hk=>hk.2) (.int .i64 jt)) (fun _ hk=>hk.1.1)⟩
 have n2_:Aside0 (((((((w22.setCell ⟨qu,0,none⟩ (.bool je)).setCell ⟨qu,1,none⟩ (.slice jl q0.length jk)).setCell ⟨qu,2,none⟩ (.int .i64 jf)).setCell ⟨qv,0,none⟩ (.bool jq)).setCell ⟨qv,1,none⟩ (.slice jn q1.length jo)).setCell ⟨qv,2,none⟩ (.int .i64 jt)).heap[jc]? = some (.cells #[.bool a0_0,.slice A0_1 l0_1.length c0_1,.int .i64 a0_2] 24 (0,0))):=⟨by refine bq ?_ q4;refine bq ?_ q4;refine bq ?_ q4;refine bq ?_ q3;refine bq ?_ q3;refine bq ?_ q3;exact bp qa.o⟩
 have n3_:Aside0 (((((((w22.setCell ⟨qu,0,none⟩ (.bool je)).setCell ⟨qu,1,none⟩ (.slice jl q0.length jk)).setCell ⟨qu,2,none⟩ (.int .i64 jf)).setCell ⟨qv,0,none⟩ (.bool jq)).setCell ⟨qv,1,none⟩ (.slice jn q1.length jo)).setCell ⟨qv,2,none⟩ (.int .i64 jt)).heap[jd]? = some (.cells #[.bool a1_0,.slice A1_1 l1_1.length c1_1,.int .i64 a1_2] 24 (0,0))):=⟨by refine bq ?_ q6;refine bq ?_ q6;refine bq ?_ q6;refine bq ?_ q5;refine bq ?_ q5;refine bq ?_ q5;exact bp qb.o⟩
 have n4_:Aside0 (((((((w22.setCell ⟨qu,0,none⟩ (.bool je)).setCell ⟨qu,1,none⟩ (.slice jl q0.length jk)).setCell ⟨qu,2,none⟩ (.int .i64 jf)).setCell ⟨qv,0,none⟩ (.bool jq)).setCell ⟨qv,1,none⟩ (.slice jn q1.length jo)).setCell ⟨qv,2,none⟩ (.int .i64 jt)).heap[qu]? = some (.cells #[.bool je,.slice jl q0.length jk,.int .i64 jf] 24 (0,0))):=⟨by refine bq ?_ ji;refine bq ?_ ji;refine bq ?_ ji;exact p3 qc⟩
 have n5_:Aside0 (((((((w22.setCell ⟨qu,0,none⟩ (.bool je)).setCell ⟨qu,1,none⟩ (.slice jl q0.length jk)).setCell ⟨qu,2,none⟩ (.int .i64 jf)).setCell ⟨qv,0,none⟩ (.bool jq)).setCell ⟨qv,1,none⟩ (.slice jn q1.length jo)).setCell ⟨qv,2,none⟩ (.int .i64 jt)).heap[qv]? = some (.cells #[.bool jq,.slice jn q1.length jo,.int .i64 jt] 24 (0,0))):=⟨by refine bp ?_;refine Zab (cs:=#[.bool jq,.slice jn q1.length jo,.int .i64 0]) ?_ 2 _ rfl;refine bp ?_;refine Zab (cs:=#[.bool jq,.slice none 0 0,.int .i64 0]) ?_ 1 _ rfl;refine bp ?_;refine Zab (cs:=#[.bool false,.slice none 0 0,.int .i64 0]) ?_ 0 _ rfl;refine bq ?_ jj;refine bq ?_ jj;refine bq ?_ jj;exact bp qd.o⟩
 have n6_:Aside0 (Below w.heap.size w ((((((w22.setCell ⟨qu,0,none⟩ (.bool je)).setCell ⟨qu,1,none⟩ (.slice jl q0.length jk)).setCell ⟨qu,2,none⟩ (.int .i64 jf)).setCell ⟨qv,0,none⟩ (.bool jq)).setCell ⟨qv,1,none⟩ (.slice jn q1.length jo)).setCell ⟨qv,2,none⟩ (.int .i64 jt))):=⟨pB⟩
 generalize ((((((w22.setCell ⟨qu,0,none⟩ (.bool je)).setCell ⟨qu,1,none⟩ (.slice jl q0.length jk)).setCell ⟨qu,2,none⟩ (.int .i64 jf)).setCell ⟨qv,0,none⟩ (.bool jq)).setCell ⟨qv,1,none⟩ (.slice jn q1.length jo)).setCell ⟨qv,2,none⟩ (.int .i64 jt))=w31 at n0_ n1_ n2_ n3_ n4_ n5_ n6_ ⊢
 have qy:=n0_
 have qz:=n1_
 have qa:=n2_
 have qb:=n3_
 have qc:=n4_
 have qd:=n5_
 have HB:=n6_
 clear n0_ n1_ n2_ n3_ n4_ n5_ n6_
 have qm7:=qai.o
 have qn3:=q3.o
 have qm8:=qaj.o
 have qn4:=q5.o
 have qm9:=ji.o
 have qn5:=jj.o
 obtain ⟨_,_,_,_,_,_⟩:=cEc qc.o
 have qna:=qak.o
 have qn6:=q4.o
 have qnb:=qa8.o
 have qn7:=q6.o
 obtain ⟨_,_,_,_,_,_⟩:=cEc qd.o
 go_upto_region 10 with (first|(refine gL (some 42) Tryz.func48 #[.agg #[.bool je,.slice jl q0.length jk,.int .i64 jf],.agg #[.bool jq,.slice jn q1.length jo,.int .i64 jt]] (h:=?_);(with_reducible refine (Zbl.calls k je (fun k_=>some k_=(.slice jl q0.length jk:Value).ownBlock) _ _ q0 jf jq (fun k_=>some k_=(.slice jn q1.length jo:Value).ownBlock) _ _ q1 jt qgq qgb _ ?side1 ?side2 A6.o).mono ?_);(case side1=>exact Kd.R_V (Kd.Zbc rfl (Kd.Zg (Kd.Zg (Kd.Zg (Kd.Zg (qy.o) qa.o (by decide)) qb.o (by decide)) qc.o (by decide)) qd.o (by decide))));(case side2=>exact Kd.R_V (Kd.Zbc rfl (Kd.Zg (Kd.Zg (Kd.Zg (Kd.Zg (qz.o) qa.o (by decide)) qb.o (by decide)) qc.o (by decide)) qd.o (by decide))));rintro e w39 ⟨rfl,hb⟩;refine ⟨_,rfl,?_⟩;replace qy:=rbl qy hb;replace qz:=rbl qz hb;replace qa:=bb qa hb;replace qb:=bb qb hb;replace qc:=bb qc hb;replace qd:=bb qd hb;replace HB:=bS hb;have qnc:=qc0.o;have qn8:=qc3.o;obtain ⟨_,_,_,_,_,_⟩:=cEc qa.o;obtain ⟨_,_,_,_,_,_⟩:=cEc qb.o)|(refine gL (some 48) Tryz.func53 #[.agg #[.bool a0_0,.slice A0_1 l0_1.length c0_1,.int .i64 a0_2],.agg #[.bool a1_0,.slice A1_1 l1_1.length c1_1,.int .i64 a1_2]] (h:=?_);(with_reducible refine (Zbp.calls k a0_0 _ _ l0_1 a0_2 a1_0 _ _ l1_1 a1_2 qgr qgs _ ?side1 ?side2 ?side3 ?side4 A7.o).mono ?_);(case side1=>exact cB HR0_1 HB);(case side2=>exact HC0_1.o);(case side3=>exact cB HR1_1 HB);(case side4=>exact HC1_1.o);rintro e w43 ⟨rfl,hb⟩;refine ⟨_,rfl,?_⟩;replace qy:=rbl qy hb;replace qz:=rbl qz hb;replace qa:=bb qa hb;replace qb:=bb qb hb;replace qc:=bb qc hb;replace qd:=bb qd hb;replace HB:=bS hb;obtain ⟨_,_,_,_,_,_⟩:=cEc qc.o;obtain ⟨_,_,_,_,_,_⟩:=cEc qd.o)|(refine gL (some 54) Tryz.func43 #[.agg #[.bool je,.slice jl q0.length jk,.int .i64 jf],.agg #[.bool jq,.slice jn q1.length jo,.int .i64 jt]] (h:=?_);(with_reducible refine (Zdq.calls k je (fun k_=>some k_=(.slice jl q0.length jk:Value).ownBlock) _ _ q0 jf jq (fun k_=>some k_=(.slice jn q1.length jo:Value).ownBlock) _ _ q1 jt qa9 jb qba qgc _ ?side1 ?side2 A8.o).mono ?_);(case side1=>exact Kd.R_V (Kd.Zbc rfl (Kd.Zg (Kd.Zg (Kd.Zg (Kd.Zg (qy.o) qa.o (by decide)) qb.o (by decide)) qc.o (by decide)) qd.o (by decide))));(case side2=>exact Kd.R_V (Kd.Zbc rfl (Kd.Zg (Kd.Zg (Kd.Zg (Kd.Zg (qz.o) qa.o (by decide)) qb.o (by decide)) qc.o (by decide)) qd.o (by decide))));rintro e w46 ⟨qoz,rfl,ho0,hb⟩;refine ⟨_,rfl,?_⟩;have q2:=am (Kd.Zt (Kd.Zaj (Kd.Zaj (Kd.Zi (ok':=fun k_=>True) ho0 (fun _ hk_=>trivial)) (Kd.R_lt (Kd.Zc qy.o pl))) (Kd.R_lt (Kd.Zc qz.o pl))) (Zb pB));replace qy:=reR qy ho0 hb;replace qz:=reR qz ho0 hb;replace qa:=bb qa hb;replace qb:=bb qb hb;replace qc:=bb qc hb;replace qd:=bb qd hb;replace HB:=bS hb)|((with_reducible refine gd 13 ?_);refine bx 13 #[.bool false,.slice none 0 0,.int .i64 0] 24 (h:=?_);intro qcy hg w47 hbox hb;have qe:=am hbox;have qhs:=gW hg;have qaw:=nL hg qa;have qbx:=nG hg qa;have qbl:=nL hg qb;have qda:=nG hg qb;have qa2:=nL hg qc;have qby:=nG hg qc;have qbr:=nL hg qd;have qdb:=nG hg qd;replace qy:=rbl qy hb;replace qz:=rbl qz hb;replace q2:=rbl q2 hb;replace qa:=bb qa hb;replace qb:=bb qb hb;replace qc:=bb qc hb;replace qd:=bb qd hb;replace HB:=bS hb;clear hb hbox hg;have qnd:=qbx.o;have qn9:=qaw.o;have qne:=qda.o;have qoa:=qbl.o;have qnf:=qby.o;have qob:=qa2.o;have qng:=qdb.o;have qoc:=qbr.o;obtain ⟨_,_,_,_,_,_⟩:=cEc qe.o;obtain ⟨j6,j5,qh0⟩:=Kd.Zm q2.o;subst qh0;obtain ⟨_,_,_,_,_,_⟩:=cEc qa.o;obtain ⟨_,_,_,_,_,_⟩:=cEc qb.o)|(refine gL (some 60) Tryz.func27 #[.agg #[.bool a0_0,.slice A0_1 l0_1.length c0_1,.int .i64 a0_2],.agg #[.bool a1_0,.slice A1_1 l1_1.length c1_1,.int .i64 a1_2]] (h:=?_);(with_reducible refine (Zaw.calls k a0_0 _ _ l0_1 a0_2 a1_0 _ _ l1_1 a1_2 qco jg qcp qgt _ ?side1 ?side2 ?side3 ?side4 A9.o).mono ?_);(case side1=>exact Kd.Zv HR0_1.o pB);(case side2=>exact HC0_1.o);(case side3=>exact Kd.Zv HR1_1.o pB);(case side4=>exact HC1_1.o);rintro e w56 ⟨qo0,rfl,ho0,hb⟩;refine ⟨_,rfl,?_⟩;have q7:=am (Kd.Zt (Kd.Zaj (Kd.Zaj (Kd.Zaj ho0 (Kd.R_lt (Kd.Zc (z3 qy.o qe.o (by decide) (.bool qa9) (.slice j6 jb.length j5) (.int .i64 qba)) pl))) (Kd.R_lt (Kd.Zc (z3 qz.o qe.o (by decide) (.bool qa9) (.slice j6 jb.length j5) (.int .i64 qba)) pl))) (Kd.R_lt (Kd.Zc (z3 q2.o qe.o (by decide) (.bool qa9) (.slice j6 jb.length j5) (.int .i64 qba)) pl))) (Zb pB));replace qy:=am (Kd.Zbu (Kd.Zc (z3 qy.o qe.o (by decide) (.bool qa9) (.slice j6 jb.length j5) (.int .i64 qba)) pl) (Kd.Zbh ho0) hb);replace qz:=am (Kd.Zbu (Kd.Zc (z3 qz.o qe.o (by decide) (.bool qa9) (.slice j6 jb.length j5) (.int .i64 qba)) pl) (Kd.Zbh ho0) hb);replace q2:=am (Kd.Zbu (Kd.Zc (z3 q2.o qe.o (by decide) (.bool qa9) (.slice j6 jb.length j5) (.int .i64 qba)) pl) (Kd.Zbh ho0) hb);replace qa:=bfb qaw qa hb;replace qb:=bfb qbl qb hb;replace qc:=bfb qa2 qc hb;replace qd:=bfb qbr qd hb;replace qe:=am (Za (g:=qcy) (o:=.cells #[.bool qa9,.slice j6 jb.length j5,.int .i64 qba] 24 (0,0)) (by exact p3 qe) hb);replace HB:=bS hb)|((with_reducible refine gd 15 ?_);refine bx 15 #[.bool false,.slice none 0 0,.int .i64 0] 24 (h:=?_);intro jx hg w57 hbox hb;have qh:=am hbox;have qht:=gW hg;have qax:=nL hg qa;have qb4:=nG hg qa;have qbm:=nL hg qb;have qde:=nG hg qb;have qa3:=nL hg qc;have qb5:=nG hg qc;have qbs:=nL hg qd;have qdf:=nG hg qd;have qbz:=nL hg qe;have qdg:=nG hg qe;replace qy:=rbl qy hb;replace qz:=rbl qz hb;replace q2:=rbl q2 hb;replace q7:=rbl q7 hb;replace qa:=bb qa hb;replace qb:=bb qb hb;replace qc:=bb qc hb;replace qd:=bb qd hb;replace qe:=bb qe hb;replace HB:=bS hb;clear hb hbox hg;have qnh:=qb4.o;have qod:=qax.o;have qni:=qde.o;have qoe:=qbm.o;have qnj:=qb5.o;have qof:=qa3.o;have qnk:=qdf.o;have qog:=qbs.o;have qnl:=qdg.o;have qoh:=qbz.o;obtain ⟨_,_,_,_,_,_⟩:=cEc qh.o;obtain ⟨qac,j9,qh1⟩:=Kd.Zm q7.o;subst qh1)|((with_reducible refine Zcv (t:=24) (p:=15) rfl ?_);refine Zcj (t:=24) (p:=15) (v:=?vo_w65) (w1:=(((w57.setCell ⟨jx,0,none⟩ (.bool qco)).setCell ⟨jx,1,none⟩ (.slice qac jg.length j9)).setCell ⟨jx,2,none⟩ (.int .i64 qcp))) ?hg ?ho ?hn ?hr ?_;(case ho=>rfl);(case hg=>rfl);(case hn=>rfl);(case hr=>first|(go_simp;done)|(go_simp;rfl));intro w65 hw;replace qy:Aside0 (Kd.R (Kd.int .u32) 85 w65 w.heap.size (fun k_=>some k_ ≠ (.slice jn q1.length jo:Value).ownBlock/\some k_ ≠ (.slice j6 jb.length j5:Value).ownBlock/\some k_ ≠ (.slice qac jg.length j9:Value).ownBlock) (.slice jl q0.length jk) q0):=⟨(by rw [hw];exact (Kd.Zc (Kd.Zi (Kd.Zj (p:=⟨jx,2,none⟩) (Kd.Zj (p:=⟨jx,1,none⟩) (Kd.Zj (p:=⟨jx,0,none⟩) (Kd.Zg qy.o qh.o (by decide)) (fun _ hk=>hk.2) (.bool qco)) (fun _ hk=>hk.2) (.slice qac jg.length j9)) (fun _ hk=>hk.2) (.int .i64 qcp)) (fun _ hk=>⟨hk.1.1.1,⟨hk.1.1.2,hk.1.2⟩⟩)) pl))⟩;replace qz:Aside0 (Kd.R (Kd.int .u32) 85 w65 w.heap.size (fun k_=>some k_ ≠ (.slice jl q0.length jk:Value).ownBlock/\some k_ ≠ (.slice j6 jb.length j5:Value).ownBlock/\some k_ ≠ (.slice qac jg.length j9:Value).ownBlock) (.slice jn q1.length jo) q1):=⟨(by rw [hw];exact (Kd.Zc (Kd.Zi (Kd.Zj (p:=⟨jx,2,none⟩) (Kd.Zj (p:=⟨jx,1,none⟩) (Kd.Zj (p:=⟨jx,0,none⟩) (Kd.Zg qz.o qh.o (by decide)) (fun _ hk=>hk.2) (.bool qco)) (fun _ hk=>hk.2) (.slice qac jg.length j9)) (fun _ hk=>hk.2) (.int .i64 qcp)) (fun _ hk=>⟨hk.1.1.1,⟨hk.1.1.2,hk.1.2⟩⟩)) pl))⟩;replace q2:Aside0 (Kd.R (Kd.int .u32) 85 w65 w.heap.size (fun k_=>some k_ ≠ (.slice jl q0.length jk:Value).ownBlock/\some k_ ≠ (.slice jn q1.length jo:Value).ownBlock/\some k_ ≠ (.slice qac jg.length j9:Value).ownBlock) (.slice j6 jb.length j5) jb):=⟨(by rw [hw];exact (Kd.Zc (Kd.Zi (Kd.Zj (p:=⟨jx,2,none⟩) (Kd.Zj (p:=⟨jx,1,none⟩) (Kd.Zj (p:=⟨jx,0,none⟩) (Kd.Zg q2.o qh.o (by decide)) (fun _ hk=>hk.2) (.bool qco)) (fun _ hk=>hk.2) (.slice qac jg.length j9)) (fun _ hk=>hk.2) (.int .i64 qcp)) (fun _ hk=>⟨hk.1.1.1.2,⟨hk.1.1.2,hk.1.2⟩⟩)) pl))⟩;replace q7:Aside0 (Kd.R (Kd.int .u32) 85 w65 w.heap.size (fun k_=>some k_ ≠ (.slice jl q0.length jk:Value).ownBlock/\some k_ ≠ (.slice jn q1.length jo:Value).ownBlock/\some k_ ≠ (.slice j6 jb.length j5:Value).ownBlock) (.slice qac jg.length j9) jg):=⟨(by rw [hw];exact (Kd.Zc (Kd.Zi (Kd.Zj (p:=⟨jx,2,none⟩) (Kd.Zj (p:=⟨jx,1,none⟩) (Kd.Zj (p:=⟨jx,0,none⟩) (Kd.Zg q7.o qh.o (by decide)) (fun _ hk=>hk.2) (.bool qco)) (fun _ hk=>hk.2) (.slice qac jg.length j9)) (fun _ hk=>hk.2) (.int .i64 qcp)) (fun _ hk=>⟨hk.1.1.1.2,⟨hk.1.1.2,hk.1.2⟩⟩)) pl))⟩;replace qa:Aside0 (w65.heap[jc]? = some (.cells #[.bool a0_0,.slice A0_1 l0_1.length c0_1,.int .i64 a0_2] 24 (0,0))):=⟨(by rw [hw];exact (bf qax.o qa.o))⟩;replace qb:Aside0 (w65.heap[jd]? = some (.cells #[.bool a1_0,.slice A1_1 l1_1.length c1_1,.int .i64 a1_2] 24 (0,0))):=⟨(by rw [hw];exact (bf qbm.o qb.o))⟩;replace qc:Aside0 (w65.heap[qu]? = some (.cells #[.bool je,.slice jl q0.length jk,.int .i64 jf] 24 (0,0))):=⟨(by rw [hw];exact (bf qa3.o qc.o))⟩;replace qd:Aside0 (w65.heap[qv]? = some (.cells #[.bool jq,.slice jn q1.length jo,.int .i64 jt] 24 (0,0))):=⟨(by rw [hw];exact (bf qbs.o qd.o))⟩;replace qe:Aside0 (w65.heap[qcy]? = some (.cells #[.bool qa9,.slice j6 jb.length j5,.int .i64 qba] 24 (0,0))):=⟨(by rw [hw];exact (bf qbz.o qe.o))⟩;replace qh:Aside0 (w65.heap[jx]? = some (.cells #[.bool qco,.slice qac jg.length j9,.int .i64 qcp] 24 (0,0))):=⟨(by rw [hw];exact (by exact p3 qh))⟩;replace HB:Aside0 (Below w.heap.size w w65):=⟨(by rw [hw];exact pB)⟩;clear hw;obtain ⟨_,_,_,_,_,_⟩:=cEc qc.o;obtain ⟨_,_,_,_,_,_⟩:=cEc qd.o)|(refine gL (some 66) Tryz.func50 #[.agg #[.bool je,.slice jl q0.length jk,.int .i64 jf],.agg #[.bool jq,.slice jn q1.length jo,.int .i64 jt]] (h:=?_);(with_reducible refine (Zcz.calls k je (fun k_=>some k_=(.slice jl q0.length jk:Value).ownBlock) _ _ q0 jf jq (fun k_=>some k_=(.slice jn q1.length jo:Value).ownBlock) _ _ q1 jt qan jh qao qgd _ ?side1 ?side2 A10.o).mono ?_);(case side1=>exact Kd.R_V (Kd.Zbc rfl (Kd.Zg (Kd.Zg (Kd.Zg (Kd.Zg (Kd.Zg (Kd.Zg (qy.o) qa.o (by decide)) qb.o (by decide)) qc.o (by decide)) qd.o (by decide)) qe.o (by decide)) qh.o (by decide))));(case side2=>exact Kd.R_V (Kd.Zbc rfl (Kd.Zg (Kd.Zg (Kd.Zg (Kd.Zg (Kd.Zg (Kd.Zg (qz.o) qa.o (by decide)) qb.o (by decide)) qc.o (by decide)) qd.o (by decide)) qe.o (by decide)) qh.o (by decide))));rintro e w68 ⟨qo1,rfl,ho0,hb⟩;refine ⟨_,rfl,?_⟩;have ja:=am (Kd.Zt (Kd.Zaj (Kd.Zaj (Kd.Zaj (Kd.Zaj (Kd.Zi (ok':=fun k_=>True) ho0 (fun _ hk_=>trivial)) (Kd.R_lt (Kd.Zc qy.o pl))) (Kd.R_lt (Kd.Zc qz.o pl))) (Kd.R_lt (Kd.Zc q2.o pl))) (Kd.R_lt (Kd.Zc q7.o pl))) (Zb pB));replace qy:=reR qy ho0 hb;replace qz:=reR qz ho0 hb;replace q2:=reR q2 ho0 hb;replace q7:=reR q7 ho0 hb;replace qa:=bb qa hb;replace qb:=bb qb hb;replace qc:=bb qc hb;replace qd:=bb qd hb;replace qe:=bb qe hb;replace qh:=bb qh hb;replace HB:=bS hb)|((with_reducible refine gd 17 ?_);refine bx 17 #[.bool false,.slice none 0 0,.int .i64 0] 24 (h:=?_);intro qei hg w69 hbox hb;have qi:=am hbox;have qhu:=gW hg;have qay:=nL hg qa;have qca:=nG hg qa;have qbn:=nL hg qb;have qdj:=nG hg qb;have qa4:=nL hg qc;have qcb:=nG hg qc;have qbt:=nL hg qd;have qdk:=nG hg qd;have qb0:=nL hg qe;have qdl:=nG hg qe;have qb6:=nL hg qh;have qdm:=nG hg qh;replace qy:=rbl qy hb;replace qz:=rbl qz hb;replace q2:=rbl q2 hb;replace q7:=rbl q7 hb;replace ja:=rbl ja hb;replace qa:=bb qa hb;replace qb:=bb qb hb;replace qc:=bb qc hb;replace qd:=bb qd hb;replace qe:=bb qe hb;replace qh:=bb qh hb;replace HB:=bS hb;clear hb hbox hg;have qnm:=qca.o;have qoi:=qay.o;have qnn:=qdj.o;have qoj:=qbn.o;have qno:=qcb.o;have qok:=qa4.o;have qnp:=qdk.o;have qol:=qbt.o;have qnq:=qdl.o;have qom:=qb0.o;have qnr:=qdm.o;have qon:=qb6.o;obtain ⟨_,_,_,_,_,_⟩:=cEc qi.o;obtain ⟨j7,j8,qh2⟩:=Kd.Zm ja.o;subst qh2;obtain ⟨_,_,_,_,_,_⟩:=cEc qa.o;obtain ⟨_,_,_,_,_,_⟩:=cEc qb.o)|(refine gL (some 72) Tryz.func22 #[.agg #[.bool a0_0,.slice A0_1 l0_1.length c0_1,.int .i64 a0_2],.agg #[.bool a1_0,.slice A1_1 l1_1.length c1_1,.int .i64 a1_2]] (h:=?_);(with_reducible refine (Zax.calls k a0_0 _ _ l0_1 a0_2 a1_0 _ _ l1_1 a1_2 qbj jr qbk qgu _ ?side1 ?side2 ?side3 ?side4 A11.o).mono ?_);(case side1=>exact Kd.Zv HR0_1.o pB);(case side2=>exact HC0_1.o);(case side3=>exact Kd.Zv HR1_1.o pB);(case side4=>exact HC1_1.o);rintro e w80 ⟨qo2,rfl,ho0,hb⟩;refine ⟨_,rfl,?_⟩;have jp:=am (Kd.Zt (Kd.Zaj (Kd.Zaj (Kd.Zaj (Kd.Zaj (Kd.Zaj ho0 (Kd.R_lt (Kd.Zc (z3 qy.o qi.o (by decide) (.bool qan) (.slice j7 jh.length j8) (.int .i64 qao)) pl))) (Kd.R_lt (Kd.Zc (z3 qz.o qi.o (by decide) (.bool qan) (.slice j7 jh.length j8) (.int .i64 qao)) pl))) (Kd.R_lt (Kd.Zc (z3 q2.o qi.o (by decide) (.bool qan) (.slice j7 jh.length j8) (.int .i64 qao)) pl))) (Kd.R_lt (Kd.Zc (z3 q7.o qi.o (by decide) (.bool qan) (.slice j7 jh.length j8) (.int .i64 qao)) pl))) (Kd.R_lt (Kd.Zc (z3 ja.o qi.o (by decide) (.bool qan) (.slice j7 jh.length j8) (.int .i64 qao)) pl))) (Zb pB));replace qy:=am (Kd.Zbu (Kd.Zc (z3 qy.o qi.o (by decide) (.bool qan) (.slice j7 jh.length j8) (.int .i64 qao)) pl) (Kd.Zbh ho0) hb);replace qz:=am (Kd.Zbu (Kd.Zc (z3 qz.o qi.o (by decide) (.bool qan) (.slice j7 jh.length j8) (.int .i64 qao)) pl) (Kd.Zbh ho0) hb);replace q2:=am (Kd.Zbu (Kd.Zc (z3 q2.o qi.o (by decide) (.bool qan) (.slice j7 jh.length j8) (.int .i64 qao)) pl) (Kd.Zbh ho0) hb);replace q7:=am (Kd.Zbu (Kd.Zc (z3 q7.o qi.o (by decide) (.bool qan) (.slice j7 jh.length j8) (.int .i64 qao)) pl) (Kd.Zbh ho0) hb);replace ja:=am (Kd.Zbu (Kd.Zc (z3 ja.o qi.o (by decide) (.bool qan) (.slice j7 jh.length j8) (.int .i64 qao)) pl) (Kd.Zbh ho0) hb);replace qa:=bfb qay qa hb;replace qb:=bfb qbn qb hb;replace qc:=bfb qa4 qc hb;replace qd:=bfb qbt qd hb;replace qe:=bfb qb0 qe hb;replace qh:=bfb qb6 qh hb;replace qi:=am (Za (g:=qei) (o:=.cells #[.bool qan,.slice j7 jh.length j8,.int .i64 qao] 24 (0,0)) (by exact p3 qi) hb);replace HB:=bS hb)|((with_reducible refine gd 19 ?_);refine bx 19 #[.bool false,.slice none 0 0,.int .i64 0] 24 (h:=?_);intro jm hg w81 hbox hb;have qt:=am hbox;have qhv:=gW hg;have qaz:=nL hg qa;have qcf:=nG hg qa;have qbo:=nL hg qb;have qdp:=nG hg qb;have qa5:=nL hg qc;have qcg:=nG hg qc;have qbu:=nL hg qd;have qdq:=nG hg qd;have qb1:=nL hg qe;have qdr:=nG hg qe;have qb7:=nL hg qh;have qds:=nG hg qh;have qcc:=nL hg qi;have qdt:=nG hg qi;replace qy:=rbl qy hb;replace qz:=rbl qz hb;replace q2:=rbl q2 hb;replace q7:=rbl q7 hb;replace ja:=rbl ja hb;replace jp:=rbl jp hb;replace qa:=bb qa hb;replace qb:=bb qb hb;replace qc:=bb qc hb;replace qd:=bb qd hb;replace qe:=bb qe hb;replace qh:=bb qh hb;replace qi:=bb qi hb;replace HB:=bS hb;clear hb hbox hg;have qns:=qcf.o;have qoo:=qaz.o;have qnt:=qdp.o;have qop:=qbo.o;have qnu:=qcg.o;have qoq:=qa5.o;have qnv:=qdq.o;have qor:=qbu.o;have qnw:=qdr.o;have qos:=qb1.o;have qnx:=qds.o;have qot:=qb7.o;have qny:=qdt.o;have qou:=qcc.o;obtain ⟨_,_,_,_,_,_⟩:=cEc qt.o;obtain ⟨qag,qah,qh3⟩:=Kd.Zm jp.o;subst qh3)|((with_reducible refine Zcv (t:=24) (p:=19) rfl ?_);refine Zcj (t:=24) (p:=19) (v:=?vo_w91) (w1:=(((w81.setCell ⟨jm,0,none⟩ (.bool qbj)).setCell ⟨jm,1,none⟩ (.slice qag jr.length qah)).setCell ⟨jm,2,none⟩ (.int .i64 qbk))) ?hg ?ho ?hn ?hr ?_;(case ho=>rfl);(case hg=>rfl);(case hn=>rfl);(case hr=>first|(go_simp;done)|(go_simp;rfl));intro w91 hw;replace qy:Aside0 (Kd.R (Kd.int .u32) 85 w91 w.heap.size (fun k_=>some k_ ≠ (.slice jn q1.length jo:Value).ownBlock/\some k_ ≠ (.slice j6 jb.length j5:Value).ownBlock/\some k_ ≠ (.slice qac jg.length j9:Value).ownBlock/\some k_ ≠ (.slice j7 jh.length j8:Value).ownBlock/\some k_ ≠ (.slice qag jr.length qah:Value).ownBlock) (.slice jl q0.length jk) q0):=⟨(by rw [hw];exact (Kd.Zc (Kd.Zi (Kd.Zj (p:=⟨jm,2,none⟩) (Kd.Zj (p:=⟨jm,1,none⟩) (Kd.Zj (p:=⟨jm,0,none⟩) (Kd.Zg qy.o qt.o (by decide)) (fun _ hk=>hk.2) (.bool qbj)) (fun _ hk=>hk.2) (.slice qag jr.length qah)) (fun _ hk=>hk.2) (.int .i64 qbk)) (fun _ hk=>⟨hk.1.1.1.1,⟨hk.1.1.1.2.1,⟨hk.1.1.1.2.2,⟨hk.1.1.2,hk.1.2⟩⟩⟩⟩)) pl))⟩;replace qz:Aside0 (Kd.R (Kd.int .u32) 85 w91 w.heap.size (fun k_=>some k_ ≠ (.slice jl q0.length jk:Value).ownBlock/\some k_ ≠ (.slice j6 jb.length j5:Value).ownBlock/\some k_ ≠ (.slice qac jg.length j9:Value).ownBlock/\some k_ ≠ (.slice j7 jh.length j8:Value).ownBlock/\some k_ ≠ (.slice qag jr.length qah:Value).ownBlock) (.slice jn q1.length jo) q1):=⟨(by rw [hw];exact (Kd.Zc (Kd.Zi (Kd.Zj (p:=⟨jm,2,none⟩) (Kd.Zj (p:=⟨jm,1,none⟩) (Kd.Zj (p:=⟨jm,0,none⟩) (Kd.Zg qz.o qt.o (by decide)) (fun _ hk=>hk.2) (.bool qbj)) (fun _ hk=>hk.2) (.slice qag jr.length qah)) (fun _ hk=>hk.2) (.int .i64 qbk)) (fun _ hk=>⟨hk.1.1.1.1,⟨hk.1.1.1.2.1,⟨hk.1.1.1.2.2,⟨hk.1.1.2,hk.1.2⟩⟩⟩⟩)) pl))⟩;replace q2:Aside0 (Kd.R (Kd.int .u32) 85 w91 w.heap.size (fun k_=>some k_ ≠ (.slice jl q0.length jk:Value).ownBlock/\some k_ ≠ (.slice jn q1.length jo:Value).ownBlock/\some k_ ≠ (.slice qac jg.length j9:Value).ownBlock/\some k_ ≠ (.slice j7 jh.length j8:Value).ownBlock/\some k_ ≠ (.slice qag jr.length qah:Value).ownBlock) (.slice j6 jb.length j5) jb):=⟨(by rw [hw];exact (Kd.Zc (Kd.Zi (Kd.Zj (p:=⟨jm,2,none⟩) (Kd.Zj (p:=⟨jm,1,none⟩) (Kd.Zj (p:=⟨jm,0,none⟩) (Kd.Zg q2.o qt.o (by decide)) (fun _ hk=>hk.2) (.bool qbj)) (fun _ hk=>hk.2) (.slice qag jr.length qah)) (fun _ hk=>hk.2) (.int .i64 qbk)) (fun _ hk=>⟨hk.1.1.1.1,⟨hk.1.1.1.2.1,⟨hk.1.1.1.2.2,⟨hk.1.1.2,hk.1.2⟩⟩⟩⟩)) pl))⟩;replace q7:Aside0 (Kd.R (Kd.int .u32) 85 w91 w.heap.size (fun k_=>some k_ ≠ (.slice jl q0.length jk:Value).ownBlock/\some k_ ≠ (.slice jn q1.length jo:Value).ownBlock/\some k_ ≠ (.slice j6 jb.length j5:Value).ownBlock/\some k_ ≠ (.slice j7 jh.length j8:Value).ownBlock/\some k_ ≠ (.slice qag jr.length qah:Value).ownBlock) (.slice qac jg.length j9) jg):=⟨(by rw [hw];exact (Kd.Zc (Kd.Zi (Kd.Zj (p:=⟨jm,2,none⟩) (Kd.Zj (p:=⟨jm,1,none⟩) (Kd.Zj (p:=⟨jm,0,none⟩) (Kd.Zg q7.o qt.o (by decide)) (fun _ hk=>hk.2) (.bool qbj)) (fun _ hk=>hk.2) (.slice qag jr.length qah)) (fun _ hk=>hk.2) (.int .i64 qbk)) (fun _ hk=>⟨hk.1.1.1.1,⟨hk.1.1.1.2.1,⟨hk.1.1.1.2.2,⟨hk.1.1.2,hk.1.2⟩⟩⟩⟩)) pl))⟩;replace ja:Aside0 (Kd.R (Kd.int .u32) 85 w91 w.heap.size (fun k_=>some k_ ≠ (.slice jl q0.length jk:Value).ownBlock/\some k_ ≠ (.slice jn q1.length jo:Value).ownBlock/\some k_ ≠ (.slice j6 jb.length j5:Value).ownBlock/\some k_ ≠ (.slice qac jg.length j9:Value).ownBlock/\some k_ ≠ (.slice qag jr.length qah:Value).ownBlock) (.slice j7 jh.length j8) jh):=⟨(by rw [hw];exact (Kd.Zc (Kd.Zi (Kd.Zj (p:=⟨jm,2,none⟩) (Kd.Zj (p:=⟨jm,1,none⟩) (Kd.Zj (p:=⟨jm,0,none⟩) (Kd.Zg ja.o qt.o (by decide)) (fun _ hk=>hk.2) (.bool qbj)) (fun _ hk=>hk.2) (.slice qag jr.length qah)) (fun _ hk=>hk.2) (.int .i64 qbk)) (fun _ hk=>⟨hk.1.1.1.1.1.2,⟨hk.1.1.1.1.2,⟨hk.1.1.1.2,⟨hk.1.1.2,hk.1.2⟩⟩⟩⟩)) pl))⟩;replace jp:Aside0 (Kd.R (Kd.int .u32) 85 w91 w.heap.size (fun k_=>some k_ ≠ (.slice jl q0.length jk:Value).ownBlock/\some k_ ≠ (.slice jn q1.length jo:Value).ownBlock/\some k_ ≠ (.slice j6 jb.length j5:Value).ownBlock/\some k_ ≠ (.slice qac jg.length j9:Value).ownBlock/\some k_ ≠ (.slice j7 jh.length j8:Value).ownBlock) (.slice qag jr.length qah) jr):=⟨(by rw [hw];exact (Kd.Zc (Kd.Zi (Kd.Zj (p:=⟨jm,2,none⟩) (Kd.Zj (p:=⟨jm,1,none⟩) (Kd.Zj (p:=⟨jm,0,none⟩) (Kd.Zg jp.o qt.o (by decide)) (fun _ hk=>hk.2) (.bool qbj)) (fun _ hk=>hk.2) (.slice qag jr.length qah)) (fun _ hk=>hk.2) (.int .i64 qbk)) (fun _ hk=>⟨hk.1.1.1.1.1.2,⟨hk.1.1.1.1.2,⟨hk.1.1.1.2,⟨hk.1.1.2,hk.1.2⟩⟩⟩⟩)) pl))⟩;replace qa:Aside0 (w91.heap[jc]? = some (.cells #[.bool a0_0,.slice A0_1 l0_1.length c0_1,.int .i64 a0_2] 24 (0,0))):=⟨(by rw [hw];exact (bf qaz.o qa.o))⟩;replace qb:Aside0 (w91.heap[jd]? = some (.cells #[.bool a1_0,.slice A1_1 l1_1.length c1_1,.int .i64 a1_2] 24 (0,0))):=⟨(by rw [hw];exact (bf qbo.o qb.o))⟩;replace qc:Aside0 (w91.heap[qu]? = some (.cells #[.bool je,.slice jl q0.length jk,.int .i64 jf] 24 (0,0))):=⟨(by rw [hw];exact (bf qa5.o qc.o))⟩;replace qd:Aside0 (w91.heap[qv]? = some (.cells #[.bool jq,.slice jn q1.length jo,.int .i64 jt] 24 (0,0))):=⟨(by rw [hw];exact (bf qbu.o qd.o))⟩;replace qe:Aside0 (w91.heap[qcy]? = some (.cells #[.bool qa9,.slice j6 jb.length j5,.int .i64 qba] 24 (0,0))):=⟨(by rw [hw];exact (bf qb1.o qe.o))⟩;replace qh:Aside0 (w91.heap[jx]? = some (.cells #[.bool qco,.slice qac jg.length j9,.int .i64 qcp] 24 (0,0))):=⟨(by rw [hw];exact (bf qb7.o qh.o))⟩;replace qi:Aside0 (w91.heap[qei]? = some (.cells #[.bool qan,.slice j7 jh.length j8,.int .i64 qao] 24 (0,0))):=⟨(by rw [hw];exact (bf qcc.o qi.o))⟩;replace qt:Aside0 (w91.heap[jm]? = some (.cells #[.bool qbj,.slice qag jr.length qah,.int .i64 qbk] 24 (0,0))):=⟨(by rw [hw];exact (by exact p3 qt))⟩;replace HB:Aside0 (Below w.heap.size w w91):=⟨(by rw [hw];exact pB)⟩;clear hw;obtain ⟨_,_,_,_,_,_⟩:=cEc qc.o;obtain ⟨_,_,_,_,_,_⟩:=cEc qd.o)|(refine gL (some 78) Tryz.func49 #[.agg #[.bool je,.slice jl q0.length jk,.int .i64 jf],.agg #[.bool jq,.slice jn q1.length jo,.int .i64 jt]] (h:=?_);(with_reducible refine (Zcy.calls k je (fun k_=>some k_=(.slice jl q0.length jk:Value).ownBlock) _ _ q0 jf jq (fun k_=>some k_=(.slice jn q1.length jo:Value).ownBlock) _ _ q1 jt qae js qaf qge _ ?side1 ?side2 A12.o).mono ?_);(case side1=>exact Kd.R_V (Kd.Zbc rfl (Kd.Zg (Kd.Zg (Kd.Zg (Kd.Zg (Kd.Zg (Kd.Zg (Kd.Zg (Kd.Zg (qy.o) qa.o (by decide)) qb.o (by decide)) qc.o (by decide)) qd.o (by decide)) qe.o (by decide)) qh.o (by decide)) qi.o (by decide)) qt.o (by decide))));(case side2=>exact Kd.R_V (Kd.Zbc rfl (Kd.Zg (Kd.Zg (Kd.Zg (Kd.Zg (Kd.Zg (Kd.Zg (Kd.Zg (Kd.Zg (qz.o) qa.o (by decide)) qb.o (by decide)) qc.o (by decide)) qd.o (by decide)) qe.o (by decide)) qh.o (by decide)) qi.o (by decide)) qt.o (by decide))));rintro e w94 ⟨qo3,rfl,ho0,hb⟩;refine ⟨_,rfl,?_⟩;have j1:=am (Kd.Zt (Kd.Zaj (Kd.Zaj (Kd.Zaj (Kd.Zaj (Kd.Zaj (Kd.Zaj (Kd.Zi (ok':=fun k_=>True) ho0 (fun _ hk_=>trivial)) (Kd.R_lt (Kd.Zc qy.o pl))) (Kd.R_lt (Kd.Zc qz.o pl))) (Kd.R_lt (Kd.Zc q2.o pl))) (Kd.R_lt (Kd.Zc q7.o pl))) (Kd.R_lt (Kd.Zc ja.o pl))) (Kd.R_lt (Kd.Zc jp.o pl))) (Zb pB));replace qy:=reR qy ho0 hb;replace qz:=reR qz ho0 hb;replace q2:=reR q2 ho0 hb;replace q7:=reR q7 ho0 hb;replace ja:=reR ja ho0 hb;replace jp:=reR jp ho0 hb;replace qa:=bb qa hb;replace qb:=bb qb hb;replace qc:=bb qc hb;replace qd:=bb qd hb;replace qe:=bb qe hb;replace qh:=bb qh hb;replace qi:=bb qi hb;replace qt:=bb qt hb;replace HB:=bS hb)|((with_reducible refine gd 21 ?_);refine bx 21 #[.bool false,.slice none 0 0,.int .i64 0] 24 (h:=?_);intro qem hg w95 hbox hb;have qw:=am hbox;have qhw:=gW hg;have qa0:=nL hg qa;have qcj:=nG hg qa;have qbp:=nL hg qb;have qdw:=nG hg qb;have qa6:=nL hg qc;have qck:=nG hg qc;have qbv:=nL hg qd;have qdx:=nG hg qd;have qb2:=nL hg qe;have qdy:=nG hg qe;have qb8:=nL hg qh;have qdz:=nG hg qh;have qcd:=nL hg qi;have qd0:=nG hg qi;have qch:=nL hg qt;have qd1:=nG hg qt;replace qy:=rbl qy hb;replace qz:=rbl qz hb;replace q2:=rbl q2 hb;replace q7:=rbl q7 hb;replace ja:=rbl ja hb;replace jp:=rbl jp hb;replace j1:=rbl j1 hb;replace qa:=bb qa hb;replace qb:=bb qb hb;replace qc:=bb qc hb;replace qd:=bb qd hb;replace qe:=bb qe hb;replace qh:=bb qh hb;replace qi:=bb qi hb;replace qt:=bb qt hb;replace HB:=bS hb;clear hb hbox hg;have qnz:=qcj.o;have qov:=qa0.o;have qn0:=qdw.o;have qow:=qbp.o;have qn1:=qck.o;have qox:=qa6.o;have qn2:=qdx.o;have qoy:=qbv.o;have qh4:=qdy.o;have qkm:=qb2.o;have qh5:=qdz.o;have qkn:=qb8.o;have qh6:=qd0.o;have qko:=qcd.o;have qh7:=qd1.o;have qkp:=qch.o;obtain ⟨_,_,_,_,_,_⟩:=cEc qw.o;obtain ⟨ju,jv,qgk⟩:=Kd.Zm j1.o;subst qgk;obtain ⟨_,_,_,_,_,_⟩:=cEc qa.o;obtain ⟨_,_,_,_,_,_⟩:=cEc qb.o)|(refine gL (some 84) Tryz.func17 #[.agg #[.bool a0_0,.slice A0_1 l0_1.length c0_1,.int .i64 a0_2],.agg #[.bool a1_0,.slice A1_1 l1_1.length c1_1,.int .i64 a1_2]] (h:=?_);(with_reducible refine (Zaf.calls k a0_0 _ _ l0_1 a0_2 a1_0 _ _ l1_1 a1_2 qau jw qav qgf _ ?side1 ?side2 ?side3 ?side4 A13.o).mono ?_);(case side1=>exact Kd.Zv HR0_1.o pB);(case side2=>exact HC0_1.o);(case side3=>exact Kd.Zv HR1_1.o pB);(case side4=>exact HC1_1.o);rintro e qph ⟨qo4,rfl,ho0,hb⟩;refine ⟨_,rfl,?_⟩;have qam:=am (Kd.Zt (Kd.Zaj (Kd.Zaj (Kd.Zaj (Kd.Zaj (Kd.Zaj (Kd.Zaj (Kd.Zaj ho0 (Kd.R_lt (Kd.Zc (z3 qy.o qw.o (by decide) (.bool qae) (.slice ju js.length jv) (.int .i64 qaf)) pl))) (Kd.R_lt (Kd.Zc (z3 qz.o qw.o (by decide) (.bool qae) (.slice ju js.length jv) (.int .i64 qaf)) pl))) (Kd.R_lt (Kd.Zc (z3 q2.o qw.o (by decide) (.bool qae) (.slice ju js.length jv) (.int .i64 qaf)) pl))) (Kd.R_lt (Kd.Zc (z3 q7.o qw.o (by decide) (.bool qae) (.slice ju js.length jv) (.int .i64 qaf)) pl))) (Kd.R_lt (Kd.Zc (z3 ja.o qw.o (by decide) (.bool qae) (.slice ju js.length jv) (.int .i64 qaf)) pl))) (Kd.R_lt (Kd.Zc (z3 jp.o qw.o (by decide) (.bool qae) (.slice ju js.length jv) (.int .i64 qaf)) pl))) (Kd.R_lt (Kd.Zc (z3 j1.o qw.o (by decide) (.bool qae) (.slice ju js.length jv) (.int .i64 qaf)) pl))) (Zb pB));replace qy:=am (Kd.Zbu (Kd.Zc (z3 qy.o qw.o (by decide) (.bool qae) (.slice ju js.length jv) (.int .i64 qaf)) pl) (Kd.Zbh ho0) hb);replace qz:=am (Kd.Zbu (Kd.Zc (z3 qz.o qw.o (by decide) (.bool qae) (.slice ju js.length jv) (.int .i64 qaf)) pl) (Kd.Zbh ho0) hb);replace q2:=am (Kd.Zbu (Kd.Zc (z3 q2.o qw.o (by decide) (.bool qae) (.slice ju js.length jv) (.int .i64 qaf)) pl) (Kd.Zbh ho0) hb);replace q7:=am (Kd.Zbu (Kd.Zc (z3 q7.o qw.o (by decide) (.bool qae) (.slice ju js.length jv) (.int .i64 qaf)) pl) (Kd.Zbh ho0) hb);replace ja:=am (Kd.Zbu (Kd.Zc (z3 ja.o qw.o (by decide) (.bool qae) (.slice ju js.length jv) (.int .i64 qaf)) pl) (Kd.Zbh ho0) hb);replace jp:=am (Kd.Zbu (Kd.Zc (z3 jp.o qw.o (by decide) (.bool qae) (.slice ju js.length jv) (.int .i64 qaf)) pl) (Kd.Zbh ho0) hb);replace j1:=am (Kd.Zbu (Kd.Zc (z3 j1.o qw.o (by decide) (.bool qae) (.slice ju js.length jv) (.int .i64 qaf)) pl) (Kd.Zbh ho0) hb);replace qa:=bfb qa0 qa hb;replace qb:=bfb qbp qb hb;replace qc:=bfb qa6 qc hb;replace qd:=bfb qbv qd hb;replace qe:=bfb qb2 qe hb;replace qh:=bfb qb8 qh hb;replace qi:=bfb qcd qi hb;replace qt:=bfb qch qt hb;replace qw:=am (Za (g:=qem) (o:=.cells #[.bool qae,.slice ju js.length jv,.int .i64 qaf] 24 (0,0)) (by exact p3 qw) hb);replace HB:=bS hb)|((with_reducible refine gd 23 ?_);refine bx 23 #[.bool false,.slice none 0 0,.int .i64 0] 24 (h:=?_);intro qen hg qpi hbox hb;have qx:=am hbox;have qhx:=gW hg;have qa1:=nL hg qa;have qcm:=nG hg qa;have qbq:=nL hg qb;have qd4:=nG hg qb;have qa7:=nL hg qc;have qcn:=nG hg qc;have qbw:=nL hg qd;have qd5:=nG hg qd;have qb3:=nL hg qe;have qd6:=nG hg qe;have qb9:=nL hg qh;have qd7:=nG hg qh;have qce:=nL hg qi;have qd8:=nG hg qi;have qci:=nL hg qt;have qd9:=nG hg qt;have qcl:=nL hg qw;have qea:=nG hg qw;replace qy:=rbl qy hb;replace qz:=rbl qz hb;replace q2:=rbl q2 hb;replace q7:=rbl q7 hb;replace ja:=rbl ja hb;replace jp:=rbl jp hb;replace j1:=rbl j1 hb;replace qam:=rbl qam hb;replace qa:=bb qa hb;replace qb:=bb qb hb;replace qc:=bb qc hb;replace qd:=bb qd hb;replace qe:=bb qe hb;replace qh:=bb qh hb;replace qi:=bb qi hb;replace qt:=bb qt hb;replace qw:=bb qw hb;replace HB:=bS hb;clear hb hbox hg;have qh8:=qcm.o;have qkq:=qa1.o;have qh9:=qd4.o;have qkr:=qbq.o;have qia:=qcn.o;have qks:=qa7.o;have qib:=qd5.o;have qkt:=qbw.o;have qic:=qd6.o;have qku:=qb3.o;have qid:=qd7.o;have qkv:=qb9.o;have qie:=qd8.o;have qkw:=qce.o;have qif:=qd9.o;have qkx:=qci.o;have qig:=qea.o;have qky:=qcl.o;obtain ⟨_,_,_,_,_,_⟩:=cEc qx.o;obtain ⟨jy,jz,qgl⟩:=Kd.Zm qam.o;subst qgl))
 (try simp only [Act.put,List.setIfInBounds_toArray,List.set_cons_zero,List.set_cons_succ])
 go_cut [131] (fun qm4 wc => ∃ (kq:Nat) (qee:Bool),qm4=.bool qee/\Aside0 (Ze.j0 kq a2 qee a0_0 l0_1 a0_2 a1_0 l1_1 a1_2 je q0 jf jq q1 jt=some r)/\Aside0 (kq<=k)/\Aside0 (Kd.R (Kd.int .u32) 85 wc w.heap.size (fun k_=>some k_ ≠ ((.slice jn q1.length jo):Value).ownBlock/\some k_ ≠ ((.slice j6 jb.length j5):Value).ownBlock/\some k_ ≠ ((.slice qac jg.length j9):Value).ownBlock/\some k_ ≠ ((.slice j7 jh.length j8):Value).ownBlock/\some k_ ≠ ((.slice qag jr.length qah):Value).ownBlock/\some k_ ≠ ((.slice ju js.length jv):Value).ownBlock/\some k_ ≠ ((.slice jy jw.length jz):Value).ownBlock) (.slice jl q0.length jk) q0)/\Aside0 (Kd.R (Kd.int .u32) 85 wc w.heap.size (fun k_=>some k_ ≠ ((.slice jl q0.length jk):Value).ownBlock/\some k_ ≠ ((.slice j6 jb.length j5):Value).ownBlock/\some k_ ≠ ((.slice qac jg.length j9):Value).ownBlock/\some k_ ≠ ((.slice j7 jh.length j8):Value).ownBlock/\some k_ ≠ ((.slice qag jr.length qah):Value).ownBlock/\some k_ ≠ ((.slice ju js.length jv):Value).ownBlock/\some k_ ≠ ((.slice jy jw.length jz):Value).ownBlock) (.slice jn q1.length jo) q1)/\Aside0 (Kd.R (Kd.int .u32) 85 wc w.heap.size (fun k_=>some k_ ≠ ((.slice jl q0.length jk):Value).ownBlock/\some k_ ≠ ((.slice jn q1.length jo):Value).ownBlock/\some k_ ≠ ((.slice qac jg.length j9):Value).ownBlock/\some k_ ≠ ((.slice j7 jh.length j8):Value).ownBlock/\some k_ ≠ ((.slice qag jr.length qah):Value).ownBlock/\some k_ ≠ ((.slice ju js.length jv):Value).ownBlock/\some k_ ≠ ((.slice jy jw.length jz):Value).ownBlock) (.slice j6 jb.length j5) jb)/\Aside0 (Kd.R (Kd.int .u32) 85 wc w.heap.size (fun k_=>some k_ ≠ ((.slice jl q0.length jk):Value).ownBlock/\some k_ ≠ ((.slice jn q1.length jo):Value).ownBlock/\some k_ ≠ ((.slice j6 jb.length j5):Value).ownBlock/\some k_ ≠ ((.slice j7 jh.length j8):Value).ownBlock/\some k_ ≠ ((.slice qag jr.length qah):Value).ownBlock/\some k_ ≠ ((.slice ju js.length jv):Value).ownBlock/\some k_ ≠ ((.slice jy jw.length jz):Value).ownBlock) (.slice qac jg.length j9) jg)/\Aside0 (Kd.R (Kd.int .u32) 85 wc w.heap.size (fun k_=>some k_ ≠ ((.slice jl q0.length jk):Value).ownBlock/\some k_ ≠ ((.slice jn q1.length jo):Value).ownBlock/\some k_ ≠ ((.slice j6 jb.length j5):Value).ownBlock/\some k_ ≠ ((.slice qac jg.length j9):Value).ownBlock/\some k_ ≠ ((.slice qag jr.length qah):Value).ownBlock/\some k_ ≠ ((.slice ju js.length jv):Value).ownBlock/\some k_ ≠ ((.slice jy jw.length jz):Value).ownBlock) (.slice j7 jh.length j8) jh)/\Aside0 (Kd.R (Kd.int .u32) 85 wc w.heap.size (fun k_=>some k_ ≠ ((.slice jl q0.length jk):Value).ownBlock/\some k_ ≠ ((.slice jn q1.length jo):Value).ownBlock/\some k_ ≠ ((.slice j6 jb.length j5):Value).ownBlock/\some k_ ≠ ((.slice qac jg.length j9):Value).ownBlock/\some k_ ≠ ((.slice j7 jh.length j8):Value).ownBlock/\some k_ ≠ ((.slice ju js.length jv):Value).ownBlock/\some k_ ≠ ((.slice jy jw.length jz):Value).ownBlock) (.slice qag jr.length qah) jr)/\Aside0 (Kd.R (Kd.int .u32) 85 wc w.heap.size (fun k_=>some k_ ≠ ((.slice jl q0.length jk):Value).ownBlock/\some k_ ≠ ((.slice jn q1.length jo):Value).ownBlock/\some k_ ≠ ((.slice j6 jb.length j5):Value).ownBlock/\some k_ ≠ ((.slice qac jg.length j9):Value).ownBlock/\some k_ ≠ ((.slice j7 jh.length j8):Value).ownBlock/\some k_ ≠ ((.slice qag jr.length qah):Value).ownBlock/\some k_ ≠ ((.slice jy jw.length jz):Value).ownBlock) (.slice ju js.length jv) js)/\Aside0 (Kd.R (Kd.int .u32) 85 wc w.heap.size (fun k_=>some k_ ≠ ((.slice jl q0.length jk):Value).ownBlock/\some k_ ≠ ((.slice jn q1.length jo):Value).ownBlock/\some k_ ≠ ((.slice j6 jb.length j5):Value).ownBlock/\some k_ ≠ ((.slice qac jg.length j9):Value).ownBlock/\some k_ ≠ ((.slice j7 jh.length j8):Value).ownBlock/\some k_ ≠ ((.slice qag jr.length qah):Value).ownBlock/\some k_ ≠ ((.slice ju js.length jv):Value).ownBlock) (.slice jy jw.length jz) jw)/\Aside0 (wc.heap[jc]? = some (.cells #[.bool a0_0,(.slice A0_1 l0_1.length c0_1),.int .i64 a0_2] 24 (0,0)))/\Aside0 (wc.heap[jd]? = some (.cells #[.bool a1_0,(.slice A1_1 l1_1.length c1_1),.int .i64 a1_2] 24 (0,0)))/\Aside0 (wc.heap[qu]? = some (.cells #[.bool je,(.slice jl q0.length jk),.int .i64 jf] 24 (0,0)))/\Aside0 (wc.heap[qv]? = some (.cells #[.bool jq,(.slice jn q1.length jo),.int .i64 jt] 24 (0,0)))/\Aside0 (wc.heap[qcy]? = some (.cells #[.bool qa9,(.slice j6 jb.length j5),.int .i64 qba] 24 (0,0)))/\Aside0 (wc.heap[jx]? = some (.cells #[.bool qco,(.slice qac jg.length j9),.int .i64 qcp] 24 (0,0)))/\Aside0 (wc.heap[qei]? = some (.cells #[.bool qan,(.slice j7 jh.length j8),.int .i64 qao] 24 (0,0)))/\Aside0 (wc.heap[jm]? = some (.cells #[.bool qbj,(.slice qag jr.length qah),.int .i64 qbk] 24 (0,0)))/\Aside0 (wc.heap[qem]? = some (.cells #[.bool qae,(.slice ju js.length jv),.int .i64 qaf] 24 (0,0)))/\Aside0 (wc.heap[qen]? = some (.cells #[.bool qau,(.slice jy jw.length jz),.int .i64 qav] 24 (0,0)))/\Aside0 (Below w.heap.size w wc))
 case first =>
  have H:=HC14.o
  clear HC14
  replace H:=eI H
  rcases H with ⟨c121b0,c121b1,H⟩|⟨qo9,c121b0,c121b1,H⟩
  ·(first|rw [c121b0]|(simp only [Zc5,Zdv];rw [c121b0])|skip)
   replace H:=ob H
   obtain ⟨qe9,qgz,H⟩:=H
   replace H:=eI H
   rcases H with ⟨c123b0,c123b1,H⟩|⟨qpa,c123b0,c123b1,H⟩
   ·replace H:=ob H
    obtain ⟨qfa,qg0,H⟩:=H
    replace H:=tI (t:=qfa) H
    rcases H with ⟨rfl,H⟩|⟨rfl,H⟩
    ·replace H:=ob H
     obtain ⟨qfb,qg1,H⟩:=H
     replace H:=eI H
     rcases H with ⟨c127b0,c127b1,H⟩|⟨qpb,c127b0,c127b1,H⟩
     ·replace H:=ob H
      obtain ⟨qfc,qg2,H⟩:=H
      replace H:=tI (t:=qfc) H
      rcases H with ⟨rfl,H⟩|⟨rfl,H⟩
      ·replace H:=ob H
       obtain ⟨qfd,qg3,H⟩:=H
       replace H:=eI H
       rcases H with ⟨c131b0,c131b1,H⟩|⟨qpc,c131b0,c131b1,H⟩
       ·replace H:=ob H
        obtain ⟨qfe,qg4,H⟩:=H
        replace H:=tI (t:=qfe) H
        rcases H with ⟨rfl,H⟩|⟨rfl,H⟩
        ·replace H:=ob H
         obtain ⟨qej,qg5,H⟩:=H
         have H':=am H
         clear H
         go_wp2_with (first|(go_at_call 47;(with_reducible refine (Zae.calls qgb qe9 _ qgz.o).mono ?_);rintro e w' ⟨rfl,⟨nd,rfl⟩⟩;have qih:=qbx.o;have qkz:=qaw.o;have qii:=qda.o;have qk0:=qbl.o;have qij:=qby.o;have qk1:=qa2.o;have qik:=qdb.o;have qk2:=qbr.o;have qil:=qbz.o;have qk3:=qdg.o;have qim:=qb0.o;have qk4:=qdl.o;have qin:=qb1.o;have qk5:=qdr.o;have qio:=qb2.o;have qk6:=qdy.o;have qip:=qb3.o;have qk7:=qd6.o;obtain ⟨_,_,_,_,_,_⟩:=cEc qe.o;have qiq:=qb4.o;have qk8:=qax.o;have qir:=qde.o;have qk9:=qbm.o;have qis:=qb5.o;have qla:=qa3.o;have qit:=qdf.o;have qlb:=qbs.o;have qiu:=qb6.o;have qlc:=qdm.o;have qiv:=qb7.o;have qld:=qds.o;have qiw:=qb8.o;have qle:=qdz.o;have qix:=qb9.o;have qlf:=qd7.o;obtain ⟨_,_,_,_,_,_⟩:=cEc qh.o)|(go_at_call 21;(with_reducible refine (Zo.calls k qa9 _ _ jb qba qco _ _ jg qcp true _ ?side1 ?side2 ?side3 ?side4 qg0.o).mono ?_);(case side1=>refine (Kd.Zf (e:=85) (base:=w.heap.size) (ok:=fun k_=>(((some k_ ≠ (.slice jl q0.length jk:Value).ownBlock/\(some k_ ≠ (.slice jn q1.length jo:Value).ownBlock/\(some k_ ≠ (.slice qac jg.length j9:Value).ownBlock/\(some k_ ≠ (.slice j7 jh.length j8:Value).ownBlock/\some k_ ≠ (.slice qag jr.length qah:Value).ownBlock))))/\some k_ ≠ (.slice ju js.length jv:Value).ownBlock)/\some k_ ≠ (.slice jy jw.length jz:Value).ownBlock)) (n:=jb.length) (c:=j5) ?_).2.2;exact (Kd.Zc (z3 q2.o qx.o (by decide) (.bool qau) (.slice jy jw.length jz) (.int .i64 qav)) pl));(case side2=>exact (Kd.Zf q2.o).2.1);(case side3=>refine (Kd.Zf (e:=85) (base:=w.heap.size) (ok:=fun k_=>(((some k_ ≠ (.slice jl q0.length jk:Value).ownBlock/\(some k_ ≠ (.slice jn q1.length jo:Value).ownBlock/\(some k_ ≠ (.slice j6 jb.length j5:Value).ownBlock/\(some k_ ≠ (.slice j7 jh.length j8:Value).ownBlock/\some k_ ≠ (.slice qag jr.length qah:Value).ownBlock))))/\some k_ ≠ (.slice ju js.length jv:Value).ownBlock)/\some k_ ≠ (.slice jy jw.length jz:Value).ownBlock)) (n:=jg.length) (c:=j9) ?_).2.2;exact (Kd.Zc (z3 q7.o qx.o (by decide) (.bool qau) (.slice jy jw.length jz) (.int .i64 qav)) pl));(case side4=>exact (Kd.Zf q7.o).2.1);rintro e qpj ⟨rfl,hb⟩;replace qy:=am (Kd.Zc (Kd.Zc (z3 qy.o qx.o (by decide) (.bool qau) (.slice jy jw.length jz) (.int .i64 qav)) pl) hb);replace qz:=am (Kd.Zc (Kd.Zc (z3 qz.o qx.o (by decide) (.bool qau) (.slice jy jw.length jz) (.int .i64 qav)) pl) hb);replace q2:=am (Kd.Zc (Kd.Zc (z3 q2.o qx.o (by decide) (.bool qau) (.slice jy jw.length jz) (.int .i64 qav)) pl) hb);replace q7:=am (Kd.Zc (Kd.Zc (z3 q7.o qx.o (by decide) (.bool qau) (.slice jy jw.length jz) (.int .i64 qav)) pl) hb);replace ja:=am (Kd.Zc (Kd.Zc (z3 ja.o qx.o (by decide) (.bool qau) (.slice jy jw.length jz) (.int .i64 qav)) pl) hb);replace jp:=am (Kd.Zc (Kd.Zc (z3 jp.o qx.o (by decide) (.bool qau) (.slice jy jw.length jz) (.int .i64 qav)) pl) hb);replace j1:=am (Kd.Zc (Kd.Zc (z3 j1.o qx.o (by decide) (.bool qau) (.slice jy jw.length jz) (.int .i64 qav)) pl) hb);replace qam:=am (Kd.Zc (Kd.Zc (z3 qam.o qx.o (by decide) (.bool qau) (.slice jy jw.length jz) (.int .i64 qav)) pl) hb);replace qa:=bfb qa1 qa hb;replace qb:=bfb qbq qb hb;replace qc:=bfb qa7 qc hb;replace qd:=bfb qbw qd hb;replace qe:=bfb qb3 qe hb;replace qh:=bfb qb9 qh hb;replace qi:=bfb qce qi hb;replace qt:=bfb qci qt hb;replace qw:=bfb qcl qw hb;replace qx:=am (Za (g:=qen) (o:=.cells #[.bool qau,.slice jy jw.length jz,.int .i64 qav] 24 (0,0)) (by exact p3 qx) hb);replace HB:=bS hb)|(go_at_call 47;(with_reducible refine (Zae.calls qgc qfb _ qg1.o).mono ?_);rintro e w' ⟨rfl,⟨nd,rfl⟩⟩;have qiy:=qca.o;have qlg:=qay.o;have qiz:=qdj.o;have qlh:=qbn.o;have qi0:=qcb.o;have qli:=qa4.o;have qi1:=qdk.o;have qlj:=qbt.o;have qi2:=qcc.o;have qlk:=qdt.o;have qi3:=qcd.o;have qll:=qd0.o;have qi4:=qce.o;have qlm:=qd8.o;obtain ⟨_,_,_,_,_,_⟩:=cEc qi.o;have qi5:=qcf.o;have qln:=qaz.o;have qi6:=qdp.o;have qlo:=qbo.o;have qi7:=qcg.o;have qlp:=qa5.o;have qi8:=qdq.o;have qlq:=qbu.o;have qi9:=qch.o;have qlr:=qd1.o;have qja:=qci.o;have qls:=qd9.o;obtain ⟨_,_,_,_,_,_⟩:=cEc qt.o)|(go_at_call 21;(with_reducible refine (Zo.calls k qan _ _ jh qao qbj _ _ jr qbk true _ ?side1 ?side2 ?side3 ?side4 qg2.o).mono ?_);(case side1=>exact Kd.Zv (Kd.Zf ja.o).2.2 pl);(case side2=>exact (Kd.Zf ja.o).2.1);(case side3=>exact Kd.Zv (Kd.Zf jp.o).2.2 pl);(case side4=>exact (Kd.Zf jp.o).2.1);rintro e qpk ⟨rfl,hb⟩;replace qy:=rbl qy hb;replace qz:=rbl qz hb;replace q2:=rbl q2 hb;replace q7:=rbl q7 hb;replace ja:=rbl ja hb;replace jp:=rbl jp hb;replace j1:=rbl j1 hb;replace qam:=rbl qam hb;replace qa:=bb qa hb;replace qb:=bb qb hb;replace qc:=bb qc hb;replace qd:=bb qd hb;replace qe:=bb qe hb;replace qh:=bb qh hb;replace qi:=bb qi hb;replace qt:=bb qt hb;replace qw:=bb qw hb;replace qx:=bb qx hb;replace HB:=bS hb)|(go_at_call 47;(with_reducible refine (Zae.calls qgd qfd _ qg3.o).mono ?_);rintro e w' ⟨rfl,⟨nd,rfl⟩⟩;have qjb:=qcj.o;have qlt:=qa0.o;have qjc:=qdw.o;have qlu:=qbp.o;have qjd:=qck.o;have qlv:=qa6.o;have qje:=qdx.o;have qlw:=qbv.o;have qjf:=qcl.o;have qlx:=qea.o;obtain ⟨_,_,_,_,_,_⟩:=cEc qw.o;have qjg:=qcm.o;have qly:=qa1.o;have qjh:=qd4.o;have qlz:=qbq.o;have qji:=qcn.o;have ql0:=qa7.o;have qjj:=qd5.o;have ql1:=qbw.o;obtain ⟨_,_,_,_,_,_⟩:=cEc qx.o)|(go_at_call 21;(with_reducible refine (Zo.calls k qae _ _ js qaf qau _ _ jw qav true _ ?side1 ?side2 ?side3 ?side4 qg4.o).mono ?_);(case side1=>exact Kd.Zv (Kd.Zf j1.o).2.2 pl);(case side2=>exact (Kd.Zf j1.o).2.1);(case side3=>exact Kd.Zv (Kd.Zf qam.o).2.2 pl);(case side4=>exact (Kd.Zf qam.o).2.1);rintro e qpl ⟨rfl,hb⟩;replace qy:=rbl qy hb;replace qz:=rbl qz hb;replace q2:=rbl q2 hb;replace q7:=rbl q7 hb;replace ja:=rbl ja hb;replace jp:=rbl jp hb;replace j1:=rbl j1 hb;replace qam:=rbl qam hb;replace qa:=bb qa hb;replace qb:=bb qb hb;replace qc:=bb qc hb;replace qd:=bb qd hb;replace qe:=bb qe hb;replace qh:=bb qh hb;replace qi:=bb qi hb;replace qt:=bb qt hb;replace qw:=bb qw hb;replace qx:=bb qx hb;replace HB:=bS hb)|(go_at_call 47;(with_reducible refine (Zae.calls qge qej _ qg5.o).mono ?_);rintro e w' ⟨rfl,⟨nd,rfl⟩⟩))
         go_meet
         case rel=>exact ⟨_,((qej != qgf)),pR,H',pJ,⟨by refine rp ?_;exact Kd.Zi qy.o (fun _ hk=>⟨hk.1.1.1,⟨hk.1.1.2.1,⟨hk.1.1.2.2.1,⟨hk.1.1.2.2.2.1,⟨hk.1.1.2.2.2.2,⟨hk.1.2,hk.2⟩⟩⟩⟩⟩⟩)⟩,⟨by refine rp ?_;exact Kd.Zi qz.o (fun _ hk=>⟨hk.1.1.1,⟨hk.1.1.2.1,⟨hk.1.1.2.2.1,⟨hk.1.1.2.2.2.1,⟨hk.1.1.2.2.2.2,⟨hk.1.2,hk.2⟩⟩⟩⟩⟩⟩)⟩,⟨by refine rp ?_;exact Kd.Zi q2.o (fun _ hk=>⟨hk.1.1.1,⟨hk.1.1.2.1,⟨hk.1.1.2.2.1,⟨hk.1.1.2.2.2.1,⟨hk.1.1.2.2.2.2,⟨hk.1.2,hk.2⟩⟩⟩⟩⟩⟩)⟩,⟨by refine rp ?_;exact Kd.Zi q7.o (fun _ hk=>⟨hk.1.1.1,⟨hk.1.1.2.1,⟨hk.1.1.2.2.1,⟨hk.1.1.2.2.2.1,⟨hk.1.1.2.2.2.2,⟨hk.1.2,hk.2⟩⟩⟩⟩⟩⟩)⟩,⟨by refine rp ?_;exact Kd.Zi ja.o (fun _ hk=>⟨hk.1.1.1,⟨hk.1.1.2.1,⟨hk.1.1.2.2.1,⟨hk.1.1.2.2.2.1,⟨hk.1.1.2.2.2.2,⟨hk.1.2,hk.2⟩⟩⟩⟩⟩⟩)⟩,⟨by refine rp ?_;exact Kd.Zi jp.o (fun _ hk=>⟨hk.1.1.1,⟨hk.1.1.2.1,⟨hk.1.1.2.2.1,⟨hk.1.1.2.2.2.1,⟨hk.1.1.2.2.2.2,⟨hk.1.2,hk.2⟩⟩⟩⟩⟩⟩)⟩,⟨by refine rp ?_;exact Kd.Zi j1.o (fun _ hk=>⟨hk.1.1.1.1.1.1.2,⟨hk.1.1.1.1.1.2,⟨hk.1.1.1.1.2,⟨hk.1.1.1.2,⟨hk.1.1.2,⟨hk.1.2,hk.2⟩⟩⟩⟩⟩⟩)⟩,⟨by refine rp ?_;exact Kd.Zi qam.o (fun _ hk=>⟨hk.1.1.1.1.1.1.2,⟨hk.1.1.1.1.1.2,⟨hk.1.1.1.1.2,⟨hk.1.1.1.2,⟨hk.1.1.2,⟨hk.1.2,hk.2⟩⟩⟩⟩⟩⟩)⟩,⟨Za qa.o pl⟩,⟨Za qb.o pl⟩,⟨Za qc.o pl⟩,⟨Za qd.o pl⟩,⟨Za qe.o pl⟩,⟨Za qh.o pl⟩,⟨Za qi.o pl⟩,⟨Za qt.o pl⟩,⟨Za qw.o pl⟩,⟨Za qx.o pl⟩,⟨pB⟩⟩
        ·exact (Ze.dead H hr).elim
       ·exact (Ze.dead H hr).elim
      ·exact (Ze.dead H hr).elim
     ·exact (Ze.dead H hr).elim
    ·exact (Ze.dead H hr).elim
   ·exact (Ze.dead H hr).elim
  ·exact (Ze.dead H hr).elim
 case rest =>
  clear HC14
  obtain ⟨kq,qee,rfl,HA,HJ13,qf,qj,ql,qm,qn,qo,qp,qq,qa,qb,qc,qd,qe,qh,qi,qt,qw,qx,HB⟩:=hcut
  cases kq with
  | zero=>exact absurd HA.out (by simp [Ze.j0])
  | succ qcz =>
   have H:=HA.out
   clear HA
   simp only [Ze.j0] at H
   replace H:=tI (t:=qee) H
   rcases H with ⟨rfl,H⟩|⟨rfl,H⟩
   ·exact absurd ((Option.some.inj H).trans hr) Bool.false_ne_true
   ·replace H:=ob H
    obtain ⟨⟨j2,j3,j4,qfm⟩,qg6,H⟩:=H;(try dsimp only at H)
    replace H:=ob H
    obtain ⟨⟨qap,qal,qaq,qgv⟩,qg7,H⟩:=H;(try dsimp only at H)
    replace H:=ob H
    obtain ⟨⟨qgw,qcq,qfn⟩,qg8,H⟩:=H;(try dsimp only at H)
    replace H:=ob H
    obtain ⟨⟨qgx,qcr,qgy⟩,qg9,H⟩:=H;(try dsimp only at H)
    replace H:=ob H
    obtain ⟨qfo,qha,H⟩:=H
    replace H:=tI (t:=qfo) H
    rcases H with ⟨rfl,H⟩|⟨rfl,H⟩
    ·replace H:=ob H
     obtain ⟨qfp,qhb,H⟩:=H
     replace H:=eI H
     rcases H with ⟨c351b0,c351b1,H⟩|⟨qpd,c351b0,c351b1,H⟩
     ·replace H:=eI H
      rcases H with ⟨c352b0,c352b1,H⟩|⟨qpe,c352b0,c352b1,H⟩
      ·by_cases qeh:(qcq == qcr)=true
       ·rw [if_pos qeh] at H
        have c353b0:(qcq == qcr)=true:=qeh
        (try (have c353b1:decide (qcq=qcr)=true:=by simpa using qeh))
        (try (have c353b2:(qcq == qcr)=true:=by simpa using qeh))
        clear qeh
        replace H:=ob H
        obtain ⟨qfq,qhc,H⟩:=H
        replace H:=eI H
        rcases H with ⟨c355b0,c355b1,H⟩|⟨qpf,c355b0,c355b1,H⟩
        ·replace H:=ob H
         obtain ⟨qff,qhd,H⟩:=H
         replace H:=ob H
         obtain ⟨qfr,qhe,H⟩:=H
         replace H:=ob H
         obtain ⟨qfs,qhf,H⟩:=H
         replace H:=eI H
         rcases H with ⟨c359b0,c359b1,H⟩|⟨qpg,c359b0,c359b1,H⟩
         ·replace H:=ob H
          obtain ⟨⟨qft,qfu,qfv⟩,qhg,H⟩:=H;(try dsimp only at H)
          replace H:=ob H
          obtain ⟨⟨qfw,qfx,qfy⟩,qhh,H⟩:=H;(try dsimp only at H)
          replace H:=ob H
          obtain ⟨qfz,qhi,H⟩:=H
          replace H:=tI (t:=qfz) H
          rcases H with ⟨rfl,H⟩|⟨rfl,H⟩
          ·replace H:=ob H
           obtain ⟨qf0,qhj,H⟩:=H
           replace H:=tI (t:=qf0) H
           rcases H with ⟨rfl,H⟩|⟨rfl,H⟩
           ·replace H:=ob H
            obtain ⟨qf1,qhk,H⟩:=H
            replace H:=tI (t:=qf1) H
            rcases H with ⟨rfl,H⟩|⟨rfl,H⟩
            ·replace H:=ob H
             obtain ⟨qf2,qhl,H⟩:=H
             obtain rfl:=Option.some.inj H
             have qjk:=qai.o
             have ql2:=q3.o
             have qjl:=qaj.o
             have ql3:=q5.o
             have qjm:=ji.o
             have ql4:=jj.o
             have qjn:=qa2.o
             have ql5:=qby.o
             have qjo:=qa3.o
             have ql6:=qb5.o
             have qjp:=qa4.o
             have ql7:=qcb.o
             have qjq:=qa5.o
             have ql8:=qcg.o
             have qjr:=qa6.o
             have ql9:=qck.o
             have qjs:=qa7.o
             have qma:=qcn.o
             obtain ⟨_,_,_,_,_,_⟩:=cEc qc.o
             try go_wp2_with (first|(refine gL (some 134) Tryz.func44 #[.agg #[.bool je,.slice jl q0.length jk,.int .i64 jf]] (h:=?_);(with_reducible refine (Zea.calls qcz je _ _ q0 jf j2 j3 j4 qfm _ ?side1 ?side2 qg6.o).mono ?_);(case side1=>exact Kd.Zv (Kd.Zf qf.o).2.2 pl);(case side2=>exact (Kd.Zf qf.o).2.1);rintro e qpm ⟨qo5,rfl,ho0,hb⟩;refine ⟨_,rfl,?_⟩;have q8:=am (Kd.Zex (Kd.Zr (ok':=fun k_=>some k_ ≠ (.slice jl q0.length jk:Value).ownBlock/\some k_ ≠ (.slice jn q1.length jo:Value).ownBlock/\some k_ ≠ (.slice j6 jb.length j5:Value).ownBlock/\some k_ ≠ (.slice qac jg.length j9:Value).ownBlock/\some k_ ≠ (.slice j7 jh.length j8:Value).ownBlock/\some k_ ≠ (.slice qag jr.length qah:Value).ownBlock/\some k_ ≠ (.slice ju js.length jv:Value).ownBlock/\some k_ ≠ (.slice jy jw.length jz:Value).ownBlock/\k_ ≠ jc/\k_ ≠ jd/\k_ ≠ qu/\k_ ≠ qv/\k_ ≠ qcy/\k_ ≠ jx/\k_ ≠ qei/\k_ ≠ jm/\k_ ≠ qem/\k_ ≠ qen) ho0 (fun k_ hk_=>⟨(Kd.fresh' (Kd.R_lt (Kd.Zc qf.o pl)) k_ hk_),(Kd.fresh' (Kd.R_lt (Kd.Zc qj.o pl)) k_ hk_),(Kd.fresh' (Kd.R_lt (Kd.Zc ql.o pl)) k_ hk_),(Kd.fresh' (Kd.R_lt (Kd.Zc qm.o pl)) k_ hk_),(Kd.fresh' (Kd.R_lt (Kd.Zc qn.o pl)) k_ hk_),(Kd.fresh' (Kd.R_lt (Kd.Zc qo.o pl)) k_ hk_),(Kd.fresh' (Kd.R_lt (Kd.Zc qp.o pl)) k_ hk_),(Kd.fresh' (Kd.R_lt (Kd.Zc qq.o pl)) k_ hk_),(Kd.freshB (g:=jc) (o:=.cells #[.bool a0_0,.slice A0_1 l0_1.length c0_1,.int .i64 a0_2] 24 (0,0)) (Za qa.o pl) k_ hk_),(Kd.freshB (g:=jd) (o:=.cells #[.bool a1_0,.slice A1_1 l1_1.length c1_1,.int .i64 a1_2] 24 (0,0)) (Za qb.o pl) k_ hk_),(Kd.freshB (g:=qu) (o:=.cells #[.bool je,.slice jl q0.length jk,.int .i64 jf] 24 (0,0)) (Za qc.o pl) k_ hk_),(Kd.freshB (g:=qv) (o:=.cells #[.bool jq,.slice jn q1.length jo,.int .i64 jt] 24 (0,0)) (Za qd.o pl) k_ hk_),(Kd.freshB (g:=qcy) (o:=.cells #[.bool qa9,.slice j6 jb.length j5,.int .i64 qba] 24 (0,0)) (Za qe.o pl) k_ hk_),(Kd.freshB (g:=jx) (o:=.cells #[.bool qco,.slice qac jg.length j9,.int .i64 qcp] 24 (0,0)) (Za qh.o pl) k_ hk_),(Kd.freshB (g:=qei) (o:=.cells #[.bool qan,.slice j7 jh.length j8,.int .i64 qao] 24 (0,0)) (Za qi.o pl) k_ hk_),(Kd.freshB (g:=jm) (o:=.cells #[.bool qbj,.slice qag jr.length qah,.int .i64 qbk] 24 (0,0)) (Za qt.o pl) k_ hk_),(Kd.freshB (g:=qem) (o:=.cells #[.bool qae,.slice ju js.length jv,.int .i64 qaf] 24 (0,0)) (Za qw.o pl) k_ hk_),(Kd.freshB (g:=qen) (o:=.cells #[.bool qau,.slice jy jw.length jz,.int .i64 qav] 24 (0,0)) (Za qx.o pl) k_ hk_)⟩)) (Zb pB));replace qf:=rbl qf hb;replace qj:=rbl qj hb;replace ql:=rbl ql hb;replace qm:=rbl qm hb;replace qn:=rbl qn hb;replace qo:=rbl qo hb;replace qp:=rbl qp hb;replace qq:=rbl qq hb;replace qa:=bb qa hb;replace qb:=bb qb hb;replace qc:=bb qc hb;replace qd:=bb qd hb;replace qe:=bb qe hb;replace qh:=bb qh hb;replace qi:=bb qi hb;replace qt:=bb qt hb;replace qw:=bb qw hb;replace qx:=bb qx hb;replace HB:=bS hb)|((with_reducible refine gd 25 ?_);refine bx 25 #[.bool false,.slice none 0 0,.int .i64 0] 24 (h:=?_);intro qbh hg qpn hbox hb;have qg:=am hbox;have qhy:=gW hg;have qc1:=nL hg qa;have qeo:=nG hg qa;have qc4:=nL hg qb;have qep:=nG hg qb;have qc6:=nL hg qc;have qeq:=nG hg qc;have qc8:=nL hg qd;have qer:=nG hg qd;have qdc:=nL hg qe;have qes:=nG hg qe;have qdh:=nL hg qh;have qet:=nG hg qh;have qdn:=nL hg qi;have qeu:=nG hg qi;have qdu:=nL hg qt;have qev:=nG hg qt;have qd2:=nL hg qw;have qew:=nG hg qw;have qeb:=nL hg qx;have qex:=nG hg qx;replace qf:=rbl qf hb;replace qj:=rbl qj hb;replace ql:=rbl ql hb;replace qm:=rbl qm hb;replace qn:=rbl qn hb;replace qo:=rbl qo hb;replace qp:=rbl qp hb;replace qq:=rbl qq hb;replace q8:=vE q8 qbh hg hb;replace qa:=bb qa hb;replace qb:=bb qb hb;replace qc:=bb qc hb;replace qd:=bb qd hb;replace qe:=bb qe hb;replace qh:=bb qh hb;replace qi:=bb qi hb;replace qt:=bb qt hb;replace qw:=bb qw hb;replace qx:=bb qx hb;replace HB:=bS hb;clear hb hbox hg;have qjt:=qeo.o;have qmb:=qc1.o;have qju:=qep.o;have qmc:=qc4.o;have qjv:=qeq.o;have qmd:=qc6.o;have qjw:=qer.o;have qme:=qc8.o;have qjx:=qes.o;have qmf:=qdc.o;have qjy:=qet.o;have qmg:=qdh.o;have qjz:=qeu.o;have qmh:=qdn.o;have qj0:=qev.o;have qmi:=qdu.o;have qj1:=qew.o;have qmj:=qd2.o;have qj2:=qex.o;have qmk:=qeb.o;obtain ⟨_,_,_,_,_,_⟩:=cEc qg.o;obtain ⟨qaa,qab,qgo⟩:=Kd.Zdu q8.o;subst qgo;have qj3:=qc0.o;have qml:=qc3.o;have qj4:=q4.o;have qmm:=qak.o;have qj5:=qaw.o;have qmn:=qbx.o;have qj6:=qax.o;have qmo:=qb4.o;have qj7:=qay.o;have qmp:=qca.o;have qj8:=qaz.o;have qmq:=qcf.o;have qj9:=qa0.o;have qmr:=qcj.o;have qka:=qa1.o;have qms:=qcm.o;obtain ⟨_,_,_,_,_,_⟩:=cEc qa.o)|(refine gL (some 139) Tryz.func46 #[.agg #[.bool a0_0,.slice A0_1 l0_1.length c0_1,.int .i64 a0_2]] (h:=?_);(with_reducible refine (Zbr.calls qcz a0_0 _ _ l0_1 a0_2 qap qal qaq qgv _ ?side1 ?side2 qg7.o).mono ?_);(case side1=>exact Kd.Zv HR0_1.o pB);(case side2=>exact HC0_1.o);rintro e qpo ⟨qo6,rfl,ho0,hb⟩;refine ⟨_,rfl,?_⟩;have q9:=am (Kd.Zt (Kd.Zaj (Kd.Zaj (Kd.Zaj (Kd.Zaj (Kd.Zaj (Kd.Zaj (Kd.Zaj (Kd.Zaj ho0 (Kd.R_lt (Kd.Zc (z3 qf.o qg.o (by decide) (.bool j2) (.slice qaa j3.length qab) (.int .i64 j4)) pl))) (Kd.R_lt (Kd.Zc (z3 qj.o qg.o (by decide) (.bool j2) (.slice qaa j3.length qab) (.int .i64 j4)) pl))) (Kd.R_lt (Kd.Zc (z3 ql.o qg.o (by decide) (.bool j2) (.slice qaa j3.length qab) (.int .i64 j4)) pl))) (Kd.R_lt (Kd.Zc (z3 qm.o qg.o (by decide) (.bool j2) (.slice qaa j3.length qab) (.int .i64 j4)) pl))) (Kd.R_lt (Kd.Zc (z3 qn.o qg.o (by decide) (.bool j2) (.slice qaa j3.length qab) (.int .i64 j4)) pl))) (Kd.R_lt (Kd.Zc (z3 qo.o qg.o (by decide) (.bool j2) (.slice qaa j3.length qab) (.int .i64 j4)) pl))) (Kd.R_lt (Kd.Zc (z3 qp.o qg.o (by decide) (.bool j2) (.slice qaa j3.length qab) (.int .i64 j4)) pl))) (Kd.R_lt (Kd.Zc (z3 qq.o qg.o (by decide) (.bool j2) (.slice qaa j3.length qab) (.int .i64 j4)) pl))) (Zb pB));replace qf:=am (Kd.Zbu (Kd.Zc (z3 qf.o qg.o (by decide) (.bool j2) (.slice qaa j3.length qab) (.int .i64 j4)) pl) (Kd.Zbh ho0) hb);replace qj:=am (Kd.Zbu (Kd.Zc (z3 qj.o qg.o (by decide) (.bool j2) (.slice qaa j3.length qab) (.int .i64 j4)) pl) (Kd.Zbh ho0) hb);replace ql:=am (Kd.Zbu (Kd.Zc (z3 ql.o qg.o (by decide) (.bool j2) (.slice qaa j3.length qab) (.int .i64 j4)) pl) (Kd.Zbh ho0) hb);replace qm:=am (Kd.Zbu (Kd.Zc (z3 qm.o qg.o (by decide) (.bool j2) (.slice qaa j3.length qab) (.int .i64 j4)) pl) (Kd.Zbh ho0) hb);replace qn:=am (Kd.Zbu (Kd.Zc (z3 qn.o qg.o (by decide) (.bool j2) (.slice qaa j3.length qab) (.int .i64 j4)) pl) (Kd.Zbh ho0) hb);replace qo:=am (Kd.Zbu (Kd.Zc (z3 qo.o qg.o (by decide) (.bool j2) (.slice qaa j3.length qab) (.int .i64 j4)) pl) (Kd.Zbh ho0) hb);replace qp:=am (Kd.Zbu (Kd.Zc (z3 qp.o qg.o (by decide) (.bool j2) (.slice qaa j3.length qab) (.int .i64 j4)) pl) (Kd.Zbh ho0) hb);replace qq:=am (Kd.Zbu (Kd.Zc (z3 qq.o qg.o (by decide) (.bool j2) (.slice qaa j3.length qab) (.int .i64 j4)) pl) (Kd.Zbh ho0) hb);replace q8:=am (Kd.Zbn (Kd.Zam (Kd.Zr (Kd.Zav (p:=⟨qbh,2,none⟩) (Kd.Zav (p:=⟨qbh,1,none⟩) (Kd.Zav (p:=⟨qbh,0,none⟩) (Kd.Zr q8.o (fun k_ hk=>(⟨hk,hk.2⟩:_/\k_ ≠ qbh))) (fun _ hk=>hk.2) (.bool j2)) (fun _ hk=>hk.2) (.slice qaa j3.length qab)) (fun _ hk=>hk.2) (.int .i64 j4)) (fun _ h_=>h_.1)) pl) (Kd.Zbh ho0) hb);replace qa:=bfb qc1 qa hb;replace qb:=bfb qc4 qb hb;replace qc:=bfb qc6 qc hb;replace qd:=bfb qc8 qd hb;replace qe:=bfb qdc qe hb;replace qh:=bfb qdh qh hb;replace qi:=bfb qdn qi hb;replace qt:=bfb qdu qt hb;replace qw:=bfb qd2 qw hb;replace qx:=bfb qeb qx hb;replace qg:=am (Za (g:=qbh) (o:=.cells #[.bool j2,.slice qaa j3.length qab,.int .i64 j4] 24 (0,0)) (by exact p3 qg) hb);replace HB:=bS hb)|((with_reducible refine gd 27 ?_);refine bx 27 #[.bool false,.slice none 0 0,.int .i64 0] 24 (h:=?_);intro qbi hg qpp hbox hb;have qk:=am hbox;have qhz:=gW hg;have qc2:=nL hg qa;have qey:=nG hg qa;have qc5:=nL hg qb;have qez:=nG hg qb;have qc7:=nL hg qc;have qe0:=nG hg qc;have qc9:=nL hg qd;have qe1:=nG hg qd;have qdd:=nL hg qe;have qe2:=nG hg qe;have qdi:=nL hg qh;have qe3:=nG hg qh;have qdo:=nL hg qi;have qe4:=nG hg qi;have qdv:=nL hg qt;have qe5:=nG hg qt;have qd3:=nL hg qw;have qe6:=nG hg qw;have qec:=nL hg qx;have qe7:=nG hg qx;have qed:=nL hg qg;have qe8:=nG hg qg;replace qf:=rbl qf hb;replace qj:=rbl qj hb;replace ql:=rbl ql hb;replace qm:=rbl qm hb;replace qn:=rbl qn hb;replace qo:=rbl qo hb;replace qp:=rbl qp hb;replace qq:=rbl qq hb;replace q8:=vE q8 qbi hg hb;replace q9:=rbl q9 hb;replace qa:=bb qa hb;replace qb:=bb qb hb;replace qc:=bb qc hb;replace qd:=bb qd hb;replace qe:=bb qe hb;replace qh:=bb qh hb;replace qi:=bb qi hb;replace qt:=bb qt hb;replace qw:=bb qw hb;replace qx:=bb qx hb;replace qg:=bb qg hb;replace HB:=bS hb;clear hb hbox hg;have qkb:=qey.o;have qmt:=qc2.o;have qkc:=qez.o;have qmu:=qc5.o;have qkd:=qe0.o;have qmv:=qc7.o;have qke:=qe1.o;have qmw:=qc9.o;have qkf:=qe2.o;have qmx:=qdd.o;have qkg:=qe3.o;have qmy:=qdi.o;have qkh:=qe4.o;have qmz:=qdo.o;have qki:=qe5.o;have qm0:=qdv.o;have qkj:=qe6.o;have qm1:=qd3.o;have qkk:=qe7.o;have qm2:=qec.o;have qkl:=qe8.o;have qm3:=qed.o;obtain ⟨_,_,_,_,_,_⟩:=cEc qk.o;obtain ⟨qar,qat,qgp⟩:=Kd.Zm q9.o;subst qgp;obtain ⟨_,_,_,_,_,_⟩:=cEc qc.o)|(refine gL (some 144) Tryz.func52 #[.agg #[.bool je,.slice jl q0.length jk,.int .i64 jf]] (h:=?_);(with_reducible refine (Zds.calls qcz je _ _ q0 jf qgw qcq qfn _ ?side1 ?side2 qg8.o).mono ?_);(case side1=>refine (Kd.Zf (e:=85) (base:=w.heap.size) (ok:=fun k_=>((some k_ ≠ (.slice jn q1.length jo:Value).ownBlock/\(some k_ ≠ (.slice j6 jb.length j5:Value).ownBlock/\(some k_ ≠ (.slice qac jg.length j9:Value).ownBlock/\(some k_ ≠ (.slice j7 jh.length j8:Value).ownBlock/\(some k_ ≠ (.slice qag jr.length qah:Value).ownBlock/\(some k_ ≠ (.slice ju js.length jv:Value).ownBlock/\some k_ ≠ (.slice jy jw.length jz:Value).ownBlock))))))/\some k_ ≠ (.slice qar qal.length qat:Value).ownBlock)) (n:=q0.length) (c:=jk) ?_).2.2;exact (Kd.Zc (z3 qf.o qk.o (by decide) (.bool qap) (.slice qar qal.length qat) (.int .i64 qaq)) pl));(case side2=>exact (Kd.Zf qf.o).2.1);rintro e qpq ⟨rfl,hb⟩;refine ⟨_,rfl,?_⟩;replace qf:=am (Kd.Zc (Kd.Zc (z3 qf.o qk.o (by decide) (.bool qap) (.slice qar qal.length qat) (.int .i64 qaq)) pl) hb);replace qj:=am (Kd.Zc (Kd.Zc (z3 qj.o qk.o (by decide) (.bool qap) (.slice qar qal.length qat) (.int .i64 qaq)) pl) hb);replace ql:=am (Kd.Zc (Kd.Zc (z3 ql.o qk.o (by decide) (.bool qap) (.slice qar qal.length qat) (.int .i64 qaq)) pl) hb);replace qm:=am (Kd.Zc (Kd.Zc (z3 qm.o qk.o (by decide) (.bool qap) (.slice qar qal.length qat) (.int .i64 qaq)) pl) hb);replace qn:=am (Kd.Zc (Kd.Zc (z3 qn.o qk.o (by decide) (.bool qap) (.slice qar qal.length qat) (.int .i64 qaq)) pl) hb);replace qo:=am (Kd.Zc (Kd.Zc (z3 qo.o qk.o (by decide) (.bool qap) (.slice qar qal.length qat) (.int .i64 qaq)) pl) hb);replace qp:=am (Kd.Zc (Kd.Zc (z3 qp.o qk.o (by decide) (.bool qap) (.slice qar qal.length qat) (.int .i64 qaq)) pl) hb);replace qq:=am (Kd.Zc (Kd.Zc (z3 qq.o qk.o (by decide) (.bool qap) (.slice qar qal.length qat) (.int .i64 qaq)) pl) hb);replace q8:=am (Kd.Zam (Kd.Zam (Kd.Zr (Kd.Zav (p:=⟨qbi,2,none⟩) (Kd.Zav (p:=⟨qbi,1,none⟩) (Kd.Zav (p:=⟨qbi,0,none⟩) (Kd.Zr q8.o (fun k_ hk=>(⟨hk,hk.2⟩:_/\k_ ≠ qbi))) (fun _ hk=>hk.2) (.bool qap)) (fun _ hk=>hk.2) (.slice qar qal.length qat)) (fun _ hk=>hk.2) (.int .i64 qaq)) (fun _ h_=>h_.1)) pl) hb);replace q9:=am (Kd.Zc (Kd.Zc (z3 q9.o qk.o (by decide) (.bool qap) (.slice qar qal.length qat) (.int .i64 qaq)) pl) hb);replace qa:=bfb qc2 qa hb;replace qb:=bfb qc5 qb hb;replace qc:=bfb qc7 qc hb;replace qd:=bfb qc9 qd hb;replace qe:=bfb qdd qe hb;replace qh:=bfb qdi qh hb;replace qi:=bfb qdo qi hb;replace qt:=bfb qdv qt hb;replace qw:=bfb qd3 qw hb;replace qx:=bfb qec qx hb;replace qg:=bfb qed qg hb;replace qk:=am (Za (g:=qbi) (o:=.cells #[.bool qap,.slice qar qal.length qat,.int .i64 qaq] 24 (0,0)) (by exact p3 qk) hb);replace HB:=bS hb;obtain ⟨_,_,_,_,_,_⟩:=cEc qa.o)|(refine gL (some 150) Tryz.func54 #[.agg #[.bool a0_0,.slice A0_1 l0_1.length c0_1,.int .i64 a0_2]] (h:=?_);(with_reducible refine (Zx.calls qcz a0_0 _ _ l0_1 a0_2 qgx qcr qgy _ ?side1 ?side2 qg9.o).mono ?_);(case side1=>exact cB HR0_1 HB);(case side2=>exact HC0_1.o);rintro e qm5 ⟨rfl,hb⟩;refine ⟨_,rfl,?_⟩;replace qf:=rbl qf hb;replace qj:=rbl qj hb;replace ql:=rbl ql hb;replace qm:=rbl qm hb;replace qn:=rbl qn hb;replace qo:=rbl qo hb;replace qp:=rbl qp hb;replace qq:=rbl qq hb;replace q8:=vbl q8 hb;replace q9:=rbl q9 hb;replace qa:=bb qa hb;replace qb:=bb qb hb;replace qc:=bb qc hb;replace qd:=bb qd hb;replace qe:=bb qe hb;replace qh:=bb qh hb;replace qi:=bb qi hb;replace qt:=bb qt hb;replace qw:=bb qw hb;replace qx:=bb qx hb;replace qg:=bb qg hb;replace qk:=bb qk hb;replace HB:=bS hb))
             replace qf:=am (Kd.Zdz qf.o)
             replace qj:=am (Kd.Zdz qj.o)
             replace ql:=am (Kd.Zdz ql.o)
             replace qm:=am (Kd.Zdz qm.o)
             replace qn:=am (Kd.Zdz qn.o)
             replace qo:=am (Kd.Zdz qo.o)
             replace qp:=am (Kd.Zdz qp.o)
             replace qq:=am (Kd.Zdz qq.o)
             replace q8:=am (Kd.Zgy q8.o)
             replace q9:=am (Kd.Zdz q9.o)
             replace qa:=am (Zay qa.o)
             replace qb:=am (Zay qb.o)
             replace qc:=am (Zay qc.o)
             replace qd:=am (Zay qd.o)
             replace qe:=am (Zay qe.o)
             replace qh:=am (Zay qh.o)
             replace qi:=am (Zay qi.o)
             replace qt:=am (Zay qt.o)
             replace qw:=am (Zay qw.o)
             replace qx:=am (Zay qx.o)
             replace qg:=am (Zay qg.o)
             replace qk:=am (Zay qk.o)
             replace HB:=am (Zbe HB.o)
             refine start_ (n:=54) (S:=fun w'=>w'.cell? ⟨qbh,0,none⟩=some (.bool j2)/\w'.cell? ⟨qbh,1,none⟩=some (.slice qaa j3.length qab)/\w'.cell? ⟨qbh,2,none⟩=some (.int .i64 j4)/\w'.cell? ⟨qbi,0,none⟩=some (.bool qap)/\w'.cell? ⟨qbi,1,none⟩=some (.slice qar qal.length qat)/\w'.cell? ⟨qbi,2,none⟩=some (.int .i64 qaq)/\w'.cell? ⟨qu,0,none⟩=some (.bool je)/\w'.cell? ⟨qu,1,none⟩=some (.slice jl q0.length jk)/\w'.cell? ⟨qu,2,none⟩=some (.int .i64 jf)/\w'.cell? ⟨jc,0,none⟩=some (.bool a0_0)/\w'.cell? ⟨jc,1,none⟩=some (.slice A0_1 l0_1.length c0_1)/\w'.cell? ⟨jc,2,none⟩=some (.int .i64 a0_2)/\w'.cell? ⟨qv,0,none⟩=some (.bool jq)/\w'.cell? ⟨qv,1,none⟩=some (.slice jn q1.length jo)/\w'.cell? ⟨qv,2,none⟩=some (.int .i64 jt)/\w'.cell? ⟨jd,0,none⟩=some (.bool a1_0)/\w'.cell? ⟨jd,1,none⟩=some (.slice A1_1 l1_1.length c1_1)/\w'.cell? ⟨jd,2,none⟩=some (.int .i64 a1_2)) (ds:=[]) #[false,false,false,false,false,false,false,false,false,false,false,false,false,false,false,false,false,false,false,false,false,false,false,false,false,false,false,false,false,false,false,false,false,false,false,false,false,false,false,false,false,false,false,false,false,false,false,false,false,false,false,false,false,false] (by kernel_rfl) rfl rfl ⟨k0 qg 0,k0 qg 1,k0 qg 2,k0 qk 0,k0 qk 1,k0 qk 2,k0 qc 0,k0 qc 1,k0 qc 2,k0 qa 0,k0 qa 1,k0 qa 2,k0 qd 0,k0 qd 1,k0 qd 2,k0 qb 0,k0 qb 1,k0 qb 2⟩ (fun hHeld=>?_);refine Zch Ze.tab16 Ze.bits16 (fun HT_ HW_=>?_)
             generalize qm5.drew=qpr at qf qj ql qm qn qo qp qq q8 q9 qa qb qc qd qe qh qi qt qw qx qg qk HB hHeld ⊢
             refine take_ (i:=0) (N:=some 154) (v:=?_) (a':=?_) #[true,false,false,false,false,false,false,false,false,false,false,false,false,false,false,false,false,false,false,false,false,false,false,false,false,false,false,false,false,false,false,false,false,false,false,false,false,false,false,false,false,false,false,false,false,false,false,false,false,false,false,false,false,false] rfl rfl (Za3 HT_.out HW_.out (by kernel_rfl)) (fun _ _ _ h=>h) (Or.inl ⟨by rfl,?_⟩) hHeld ?_ ?_
             rotate_left
             ·rintro w' ⟨s0,s1,s2,s3,s4,s5,s6,s7,s8,s9,s10,s11,s12,s13,s14,s15,s16,s17⟩
              go_simp
              with_reducible rfl
             rotate_left
             ·exact pP
             refine take_ (i:=1) (N:=some 155) (v:=?_) (a':=?_) #[true,true,false,false,false,false,false,false,false,false,false,false,false,false,false,false,false,false,false,false,false,false,false,false,false,false,false,false,false,false,false,false,false,false,false,false,false,false,false,false,false,false,false,false,false,false,false,false,false,false,false,false,false,false] rfl rfl (Za3 HT_.out HW_.out (by kernel_rfl)) (fun _ _ _ h=>h) (Or.inl ⟨by rfl,?_⟩) hHeld ?_ ?_
             rotate_left
             ·rintro w' ⟨s0,s1,s2,s3,s4,s5,s6,s7,s8,s9,s10,s11,s12,s13,s14,s15,s16,s17⟩
              go_simp
              with_reducible rfl
             rotate_left
             ·exact pP
             refine one_ (i:=2) (N:=some 156) #[true,true,true,false,false,false,false,false,false,false,false,false,false,false,false,false,false,false,false,false,false,false,false,false,false,false,false,false,false,false,false,false,false,false,false,false,false,false,false,false,false,false,false,false,false,false,false,false,false,false,false,false,false,false] rfl rfl (Za8 HT_.out (by kernel_rfl)) (by decide) (fun K hK=>?_)
             refine goes_ Tryz.func21 (by kernel_rfl) rfl #[.agg #[.bool j2,.slice qaa j3.length qab,.int .i64 j4],.agg #[.bool qap,.slice qar qal.length qat,.int .i64 qaq]] (by rfl) rfl rfl pA ?_
             with_reducible refine (Zo.calls qcz j2 _ _ j3 j4 qap _ _ qal qaq true _ ?side1 ?side2 ?side3 ?side4 qha.o).mono ?_
             (case side1=>exact Kd.Zv (Kd.Zai q8.o).2.2 pl)
             (case side2=>exact (Kd.Zai q8.o).2.1)
             (case side3=>exact Kd.Zv (Kd.Zf q9.o).2.2 pl)
             (case side4=>exact (Kd.Zf q9.o).2.1)
             rintro e qps ⟨rfl,hb⟩
             refine ⟨_,rfl,?_⟩
             replace qf:=rbl qf hb
             replace qj:=rbl qj hb
             replace ql:=rbl ql hb
             replace qm:=rbl qm hb
             replace qn:=rbl qn hb
             replace qo:=rbl qo hb
             replace qp:=rbl qp hb
             replace qq:=rbl qq hb
             replace q8:=vbl q8 hb
             replace q9:=rbl q9 hb
             replace qa:=bb qa hb
             replace qb:=bb qb hb
             replace qc:=bb qc hb
             replace qd:=bb qd hb
             replace qe:=bb qe hb
             replace qh:=bb qh hb
             replace qi:=bb qi hb
             replace qt:=bb qt hb
             replace qw:=bb qw hb
             replace qx:=bb qx hb
             replace qg:=bb qg hb
             replace qk:=bb qk hb
             replace HB:=bS hb
             refine hK.out _ _ ⟨k0 qg 0,k0 qg 1,k0 qg 2,k0 qk 0,k0 qk 1,k0 qk 2,k0 qc 0,k0 qc 1,k0 qc 2,k0 qa 0,k0 qa 1,k0 qa 2,k0 qd 0,k0 qd 1,k0 qd 2,k0 qb 0,k0 qb 1,k0 qb 2⟩ (fun hHeld=>?_)
             clear hK K
             refine norm_ (a':=?_) ?_ ?_
             rotate_left
             ·show Act.put _ (some 156) _=_
              exact pP
             refine pu 3 (some 157) #[true,true,true,true,false,false,false,false,false,false,false,false,false,false,false,false,false,false,false,false,false,false,false,false,false,false,false,false,false,false,false,false,false,false,false,false,false,false,false,false,false,false,false,false,false,false,false,false,false,false,false,false,false,false] (h:=?_)
             refine pu 4 (some 158) #[true,true,true,true,true,false,false,false,false,false,false,false,false,false,false,false,false,false,false,false,false,false,false,false,false,false,false,false,false,false,false,false,false,false,false,false,false,false,false,false,false,false,false,false,false,false,false,false,false,false,false,false,false,false] (h:=?_)
             refine pu 6 (some 160) #[true,true,true,true,true,false,true,false,false,false,false,false,false,false,false,false,false,false,false,false,false,false,false,false,false,false,false,false,false,false,false,false,false,false,false,false,false,false,false,false,false,false,false,false,false,false,false,false,false,false,false,false,false,false] (h:=?_)
             refine one_ (i:=5) (N:=some 159) #[true,true,true,true,true,true,true,false,false,false,false,false,false,false,false,false,false,false,false,false,false,false,false,false,false,false,false,false,false,false,false,false,false,false,false,false,false,false,false,false,false,false,false,false,false,false,false,false,false,false,false,false,false,false] rfl rfl (Za8 HT_.out (by kernel_rfl)) (by decide) (fun K hK=>?_)
             refine goes_ Tryz.func47 (by kernel_rfl) rfl #[.int .i64 qfm] (by rfl) rfl rfl pA ?_
             with_reducible refine (Zae.calls qfm qfp _ qhb.o).mono ?_
             rintro e w' ⟨rfl,⟨nd,rfl⟩⟩
             refine ⟨_,rfl,?_⟩
             refine hK.out _ _ ⟨k0 qg 0,k0 qg 1,k0 qg 2,k0 qk 0,k0 qk 1,k0 qk 2,k0 qc 0,k0 qc 1,k0 qc 2,k0 qa 0,k0 qa 1,k0 qa 2,k0 qd 0,k0 qd 1,k0 qd 2,k0 qb 0,k0 qb 1,k0 qb 2⟩ (fun hHeld=>?_)
             clear hK K
             refine norm_ (a':=?_) ?_ ?_
             rotate_left
             ·show Act.put _ (some 159) _=_
              exact pP
             refine pu 7 (some 161) #[true,true,true,true,true,true,true,true,false,false,false,false,false,false,false,false,false,false,false,false,false,false,false,false,false,false,false,false,false,false,false,false,false,false,false,false,false,false,false,false,false,false,false,false,false,false,false,false,false,false,false,false,false,false] (h:=?_)
             refine pu 8 (some 162) #[true,true,true,true,true,true,true,true,true,false,false,false,false,false,false,false,false,false,false,false,false,false,false,false,false,false,false,false,false,false,false,false,false,false,false,false,false,false,false,false,false,false,false,false,false,false,false,false,false,false,false,false,false,false] (h:=?_)
             refine pu 9 (some 163) #[true,true,true,true,true,true,true,true,true,true,false,false,false,false,false,false,false,false,false,false,false,false,false,false,false,false,false,false,false,false,false,false,false,false,false,false,false,false,false,false,false,false,false,false,false,false,false,false,false,false,false,false,false,false] (h:=?_)
             refine pu 10 (some 164) #[true,true,true,true,true,true,true,true,true,true,true,false,false,false,false,false,false,false,false,false,false,false,false,false,false,false,false,false,false,false,false,false,false,false,false,false,false,false,false,false,false,false,false,false,false,false,false,false,false,false,false,false,false,false] (h:=?_)
             refine pu 11 (some 165) #[true,true,true,true,true,true,true,true,true,true,true,true,false,false,false,false,false,false,false,false,false,false,false,false,false,false,false,false,false,false,false,false,false,false,false,false,false,false,false,false,false,false,false,false,false,false,false,false,false,false,false,false,false,false] (h:=?_)
             refine pu 12 (some 166) #[true,true,true,true,true,true,true,true,true,true,true,true,true,false,false,false,false,false,false,false,false,false,false,false,false,false,false,false,false,false,false,false,false,false,false,false,false,false,false,false,false,false,false,false,false,false,false,false,false,false,false,false,false,false] (h:=?_)
             refine pu 13 (some 167) #[true,true,true,true,true,true,true,true,true,true,true,true,true,true,false,false,false,false,false,false,false,false,false,false,false,false,false,false,false,false,false,false,false,false,false,false,false,false,false,false,false,false,false,false,false,false,false,false,false,false,false,false,false,false] (h:=?_)
             refine pu 14 (some 168) #[true,true,true,true,true,true,true,true,true,true,true,true,true,true,true,false,false,false,false,false,false,false,false,false,false,false,false,false,false,false,false,false,false,false,false,false,false,false,false,false,false,false,false,false,false,false,false,false,false,false,false,false,false,false] (h:=?_)
             refine pu 15 (some 169) #[true,true,true,true,true,true,true,true,true,true,true,true,true,true,true,true,false,false,false,false,false,false,false,false,false,false,false,false,false,false,false,false,false,false,false,false,false,false,false,false,false,false,false,false,false,false,false,false,false,false,false,false,false,false] (h:=?_)
             refine pu 16 (some 170) #[true,true,true,true,true,true,true,true,true,true,true,true,true,true,true,true,true,false,false,false,false,false,false,false,false,false,false,false,false,false,false,false,false,false,false,false,false,false,false,false,false,false,false,false,false,false,false,false,false,false,false,false,false,false] (h:=?_)
             refine pu 17 (some 171) #[true,true,true,true,true,true,true,true,true,true,true,true,true,true,true,true,true,true,false,false,false,false,false,false,false,false,false,false,false,false,false,false,false,false,false,false,false,false,false,false,false,false,false,false,false,false,false,false,false,false,false,false,false,false] (h:=?_)
             refine pu 18 (some 172) #[true,true,true,true,true,true,true,true,true,true,true,true,true,true,true,true,true,true,true,false,false,false,false,false,false,false,false,false,false,false,false,false,false,false,false,false,false,false,false,false,false,false,false,false,false,false,false,false,false,false,false,false,false,false] (h:=?_)
             refine pu 19 (some 173) #[true,true,true,true,true,true,true,true,true,true,true,true,true,true,true,true,true,true,true,true,false,false,false,false,false,false,false,false,false,false,false,false,false,false,false,false,false,false,false,false,false,false,false,false,false,false,false,false,false,false,false,false,false,false] (h:=?_)
             refine pu 20 (some 174) #[true,true,true,true,true,true,true,true,true,true,true,true,true,true,true,true,true,true,true,true,true,false,false,false,false,false,false,false,false,false,false,false,false,false,false,false,false,false,false,false,false,false,false,false,false,false,false,false,false,false,false,false,false,false] (h:=?_)
             refine pu 22 (some 176) #[true,true,true,true,true,true,true,true,true,true,true,true,true,true,true,true,true,true,true,true,true,false,true,false,false,false,false,false,false,false,false,false,false,false,false,false,false,false,false,false,false,false,false,false,false,false,false,false,false,false,false,false,false,false] (h:=?_)
             refine one_ (i:=21) (N:=some 175) #[true,true,true,true,true,true,true,true,true,true,true,true,true,true,true,true,true,true,true,true,true,true,true,false,false,false,false,false,false,false,false,false,false,false,false,false,false,false,false,false,false,false,false,false,false,false,false,false,false,false,false,false,false,false] rfl rfl (Za8 HT_.out (by kernel_rfl)) (by decide) (fun K hK=>?_)
             refine goes_ Tryz.func47 (by kernel_rfl) rfl #[.int .i64 qfn] (by rfl) rfl rfl pA ?_
             with_reducible refine (Zae.calls qfn qfq _ qhc.o).mono ?_
             rintro e w' ⟨rfl,⟨nd,rfl⟩⟩
             refine ⟨_,rfl,?_⟩
             refine hK.out _ _ ⟨k0 qg 0,k0 qg 1,k0 qg 2,k0 qk 0,k0 qk 1,k0 qk 2,k0 qc 0,k0 qc 1,k0 qc 2,k0 qa 0,k0 qa 1,k0 qa 2,k0 qd 0,k0 qd 1,k0 qd 2,k0 qb 0,k0 qb 1,k0 qb 2⟩ (fun hHeld=>?_)
             clear hK K
             refine norm_ (a':=?_) ?_ ?_
             rotate_left
             ·show Act.put _ (some 175) _=_
              exact pP
             refine pu 23 (some 177) #[true,true,true,true,true,true,true,true,true,true,true,true,true,true,true,true,true,true,true,true,true,true,true,true,false,false,false,false,false,false,false,false,false,false,false,false,false,false,false,false,false,false,false,false,false,false,false,false,false,false,false,false,false,false] (h:=?_)
             refine pu 24 (some 178) #[true,true,true,true,true,true,true,true,true,true,true,true,true,true,true,true,true,true,true,true,true,true,true,true,true,false,false,false,false,false,false,false,false,false,false,false,false,false,false,false,false,false,false,false,false,false,false,false,false,false,false,false,false,false] (h:=?_)
             refine pu 25 (some 179) #[true,true,true,true,true,true,true,true,true,true,true,true,true,true,true,true,true,true,true,true,true,true,true,true,true,true,false,false,false,false,false,false,false,false,false,false,false,false,false,false,false,false,false,false,false,false,false,false,false,false,false,false,false,false] (h:=?_)
             refine take_ (i:=26) (N:=some 180) (v:=?_) (a':=?_) #[true,true,true,true,true,true,true,true,true,true,true,true,true,true,true,true,true,true,true,true,true,true,true,true,true,true,true,false,false,false,false,false,false,false,false,false,false,false,false,false,false,false,false,false,false,false,false,false,false,false,false,false,false,false] rfl rfl (Za3 HT_.out HW_.out (by kernel_rfl)) (fun _ _ _ h=>h) (Or.inl ⟨by rfl,?_⟩) hHeld ?_ ?_
             rotate_left
             ·rintro w' ⟨s0,s1,s2,s3,s4,s5,s6,s7,s8,s9,s10,s11,s12,s13,s14,s15,s16,s17⟩
              go_simp
              with_reducible rfl
             rotate_left
             ·exact pP
             refine take_ (i:=29) (N:=some 183) (v:=?_) (a':=?_) #[true,true,true,true,true,true,true,true,true,true,true,true,true,true,true,true,true,true,true,true,true,true,true,true,true,true,true,false,false,true,false,false,false,false,false,false,false,false,false,false,false,false,false,false,false,false,false,false,false,false,false,false,false,false] rfl rfl (Za3 HT_.out HW_.out (by kernel_rfl)) (fun _ _ _ h=>h) (Or.inl ⟨by rfl,?_⟩) hHeld ?_ ?_
             rotate_left
             ·rintro w' ⟨s0,s1,s2,s3,s4,s5,s6,s7,s8,s9,s10,s11,s12,s13,s14,s15,s16,s17⟩
              go_simp
              with_reducible rfl
             rotate_left
             ·exact pP
             refine one_ (i:=27) (N:=some 181) #[true,true,true,true,true,true,true,true,true,true,true,true,true,true,true,true,true,true,true,true,true,true,true,true,true,true,true,true,false,true,false,false,false,false,false,false,false,false,false,false,false,false,false,false,false,false,false,false,false,false,false,false,false,false] rfl rfl (Za8 HT_.out (by kernel_rfl)) (by decide) (fun K hK=>?_)
             refine goes_ Tryz.func55 (by kernel_rfl) rfl #[.agg #[.bool je,.slice jl q0.length jk,.int .i64 jf]] (by rfl) rfl rfl pA ?_
             with_reducible refine (Zbk.calls qcz je _ _ q0 jf qff _ ?side1 ?side2 qhd.o).mono ?_
             (case side1=>exact Kd.Zv (Kd.Zf qf.o).2.2 pl)
             (case side2=>exact (Kd.Zf qf.o).2.1)
             rintro e qpt ⟨rfl,hb⟩
             refine ⟨_,rfl,?_⟩
             replace qf:=rbl qf hb
             replace qj:=rbl qj hb
             replace ql:=rbl ql hb
             replace qm:=rbl qm hb
             replace qn:=rbl qn hb
             replace qo:=rbl qo hb
             replace qp:=rbl qp hb
             replace qq:=rbl qq hb
             replace q8:=vbl q8 hb
             replace q9:=rbl q9 hb
             replace qa:=bb qa hb
             replace qb:=bb qb hb
             replace qc:=bb qc hb
             replace qd:=bb qd hb
             replace qe:=bb qe hb
             replace qh:=bb qh hb
             replace qi:=bb qi hb
             replace qt:=bb qt hb
             replace qw:=bb qw hb
             replace qx:=bb qx hb
             replace qg:=bb qg hb
             replace qk:=bb qk hb
             replace HB:=bS hb
             refine hK.out _ _ ⟨k0 qg 0,k0 qg 1,k0 qg 2,k0 qk 0,k0 qk 1,k0 qk 2,k0 qc 0,k0 qc 1,k0 qc 2,k0 qa 0,k0 qa 1,k0 qa 2,k0 qd 0,k0 qd 1,k0 qd 2,k0 qb 0,k0 qb 1,k0 qb 2⟩ (fun hHeld=>?_)
             clear hK K
             refine norm_ (a':=?_) ?_ ?_
             rotate_left
             ·show Act.put _ (some 181) _=_
              exact pP
             refine one_ (i:=28) (N:=some 182) #[true,true,true,true,true,true,true,true,true,true,true,true,true,true,true,true,true,true,true,true,true,true,true,true,true,true,true,true,true,true,false,false,false,false,false,false,false,false,false,false,false,false,false,false,false,false,false,false,false,false,false,false,false,false] rfl rfl (Za8 HT_.out (by kernel_rfl)) (by decide) (fun K hK=>?_)
             refine goes_ Tryz.func47 (by kernel_rfl) rfl #[.int .i64 qff] (by rfl) rfl rfl pA ?_
             with_reducible refine (Zae.calls qff qfr _ qhe.o).mono ?_
             rintro e w' ⟨rfl,⟨nd,rfl⟩⟩
             refine ⟨_,rfl,?_⟩
             refine hK.out _ _ ⟨k0 qg 0,k0 qg 1,k0 qg 2,k0 qk 0,k0 qk 1,k0 qk 2,k0 qc 0,k0 qc 1,k0 qc 2,k0 qa 0,k0 qa 1,k0 qa 2,k0 qd 0,k0 qd 1,k0 qd 2,k0 qb 0,k0 qb 1,k0 qb 2⟩ (fun hHeld=>?_)
             clear hK K
             refine norm_ (a':=?_) ?_ ?_
             rotate_left
             ·show Act.put _ (some 182) _=_
              exact pP
             refine one_ (i:=30) (N:=some 184) #[true,true,true,true,true,true,true,true,true,true,true,true,true,true,true,true,true,true,true,true,true,true,true,true,true,true,true,true,true,true,true,false,false,false,false,false,false,false,false,false,false,false,false,false,false,false,false,false,false,false,false,false,false,false] rfl rfl (Za8 HT_.out (by kernel_rfl)) (by decide) (fun K hK=>?_)
             refine goes_ Tryz.func33 (by kernel_rfl) rfl #[.agg #[.bool a0_0,.slice A0_1 l0_1.length c0_1,.int .i64 a0_2]] (by rfl) rfl rfl pA ?_
             with_reducible refine (Zn.calls qcz a0_0 _ _ l0_1 a0_2 qfs _ ?side1 ?side2 qhf.o).mono ?_
             (case side1=>refine cp ?_;exact (Kd.Zv HR0_1.o pB))
             (case side2=>exact HC0_1.o)
             rintro e qpu ⟨rfl,hb⟩
             refine ⟨_,rfl,?_⟩
             replace qf:=rbl qf hb
             replace qj:=rbl qj hb
             replace ql:=rbl ql hb
             replace qm:=rbl qm hb
             replace qn:=rbl qn hb
             replace qo:=rbl qo hb
             replace qp:=rbl qp hb
             replace qq:=rbl qq hb
             replace q8:=vbl q8 hb
             replace q9:=rbl q9 hb
             replace qa:=bb qa hb
             replace qb:=bb qb hb
             replace qc:=bb qc hb
             replace qd:=bb qd hb
             replace qe:=bb qe hb
             replace qh:=bb qh hb
             replace qi:=bb qi hb
             replace qt:=bb qt hb
             replace qw:=bb qw hb
             replace qx:=bb qx hb
             replace qg:=bb qg hb
             replace qk:=bb qk hb
             replace HB:=bS hb
             refine hK.out _ _ ⟨k0 qg 0,k0 qg 1,k0 qg 2,k0 qk 0,k0 qk 1,k0 qk 2,k0 qc 0,k0 qc 1,k0 qc 2,k0 qa 0,k0 qa 1,k0 qa 2,k0 qd 0,k0 qd 1,k0 qd 2,k0 qb 0,k0 qb 1,k0 qb 2⟩ (fun hHeld=>?_)
             clear hK K
             refine norm_ (a':=?_) ?_ ?_
             rotate_left
             ·show Act.put _ (some 184) _=_
              exact pP
             refine pu 31 (some 185) #[true,true,true,true,true,true,true,true,true,true,true,true,true,true,true,true,true,true,true,true,true,true,true,true,true,true,true,true,true,true,true,true,false,false,false,false,false,false,false,false,false,false,false,false,false,false,false,false,false,false,false,false,false,false] (h:=?_)
             refine pu 32 (some 186) #[true,true,true,true,true,true,true,true,true,true,true,true,true,true,true,true,true,true,true,true,true,true,true,true,true,true,true,true,true,true,true,true,true,false,false,false,false,false,false,false,false,false,false,false,false,false,false,false,false,false,false,false,false,false] (h:=?_)
             refine pu 33 (some 187) #[true,true,true,true,true,true,true,true,true,true,true,true,true,true,true,true,true,true,true,true,true,true,true,true,true,true,true,true,true,true,true,true,true,true,false,false,false,false,false,false,false,false,false,false,false,false,false,false,false,false,false,false,false,false] (h:=?_)
             refine pu 34 (some 188) #[true,true,true,true,true,true,true,true,true,true,true,true,true,true,true,true,true,true,true,true,true,true,true,true,true,true,true,true,true,true,true,true,true,true,true,false,false,false,false,false,false,false,false,false,false,false,false,false,false,false,false,false,false,false] (h:=?_)
             refine pu 36 (some 190) #[true,true,true,true,true,true,true,true,true,true,true,true,true,true,true,true,true,true,true,true,true,true,true,true,true,true,true,true,true,true,true,true,true,true,true,false,true,false,false,false,false,false,false,false,false,false,false,false,false,false,false,false,false,false] (h:=?_)
             refine one_ (i:=35) (N:=some 189) #[true,true,true,true,true,true,true,true,true,true,true,true,true,true,true,true,true,true,true,true,true,true,true,true,true,true,true,true,true,true,true,true,true,true,true,true,true,false,false,false,false,false,false,false,false,false,false,false,false,false,false,false,false,false] rfl rfl (Za8 HT_.out (by kernel_rfl)) (by decide) (fun K hK=>?_)
             refine goes_ Tryz.func51 (by kernel_rfl) rfl #[.int .i64 a2] (by rfl) rfl rfl pA ?_
             with_reducible refine (Zey.calls qcz a2 qft qfu qfv _ qhg.o).mono ?_
             rintro e qpv ⟨qo7,rfl,ho0,hb⟩
             refine ⟨_,rfl,?_⟩
             have qad:=am (Kd.Zt (Kd.Zaj (Kd.Zaj (Kd.Zaj (Kd.Zaj (Kd.Zaj (Kd.Zaj (Kd.Zaj (Kd.Zaj (Kd.Zaj ho0 (Kd.R_lt (Kd.Zc qf.o pl))) (Kd.R_lt (Kd.Zc qj.o pl))) (Kd.R_lt (Kd.Zc ql.o pl))) (Kd.R_lt (Kd.Zc qm.o pl))) (Kd.R_lt (Kd.Zc qn.o pl))) (Kd.R_lt (Kd.Zc qo.o pl))) (Kd.R_lt (Kd.Zc qp.o pl))) (Kd.R_lt (Kd.Zc qq.o pl))) (Kd.R_lt (Kd.Zc q9.o pl))) (Zb pB))
             replace qf:=reR qf ho0 hb
             replace qj:=reR qj ho0 hb
             replace ql:=reR ql ho0 hb
             replace qm:=reR qm ho0 hb
             replace qn:=reR qn ho0 hb
             replace qo:=reR qo ho0 hb
             replace qp:=reR qp ho0 hb
             replace qq:=reR qq ho0 hb
             replace q8:=am (Kd.Zbn (Kd.Zam q8.o pl) (Kd.Zbh ho0) hb)
             replace q9:=reR q9 ho0 hb
             replace qa:=bb qa hb
             replace qb:=bb qb hb
             replace qc:=bb qc hb
             replace qd:=bb qd hb
             replace qe:=bb qe hb
             replace qh:=bb qh hb
             replace qi:=bb qi hb
             replace qt:=bb qt hb
             replace qw:=bb qw hb
             replace qx:=bb qx hb
             replace qg:=bb qg hb
             replace qk:=bb qk hb
             replace HB:=bS hb
             refine hK.out _ _ ⟨k0 qg 0,k0 qg 1,k0 qg 2,k0 qk 0,k0 qk 1,k0 qk 2,k0 qc 0,k0 qc 1,k0 qc 2,k0 qa 0,k0 qa 1,k0 qa 2,k0 qd 0,k0 qd 1,k0 qd 2,k0 qb 0,k0 qb 1,k0 qb 2⟩ (fun hHeld=>?_)
             clear hK K
             refine norm_ (a':=?_) ?_ ?_
             rotate_left
             ·show Act.put _ (some 189) _=_
              exact pP
             refine one_ (i:=37) (N:=some 191) #[true,true,true,true,true,true,true,true,true,true,true,true,true,true,true,true,true,true,true,true,true,true,true,true,true,true,true,true,true,true,true,true,true,true,true,true,true,true,false,false,false,false,false,false,false,false,false,false,false,false,false,false,false,false] rfl rfl (Za8 HT_.out (by kernel_rfl)) (by decide) (fun K hK=>?_)
             refine goes_ Tryz.func29 (by kernel_rfl) rfl #[.int .i64 a2] (by rfl) rfl rfl pA ?_
             with_reducible refine (Zc9.calls qcz a2 qfw qfx qfy _ qhh.o).mono ?_
             rintro e qpw ⟨qo8,rfl,ho0,hb⟩
             refine ⟨_,rfl,?_⟩
             have qas:=am (Kd.Zt (Kd.Zaj (Kd.Zaj (Kd.Zaj (Kd.Zaj (Kd.Zaj (Kd.Zaj (Kd.Zaj (Kd.Zaj (Kd.Zaj (Kd.Zaj ho0 (Kd.R_lt (Kd.Zc qf.o pl))) (Kd.R_lt (Kd.Zc qj.o pl))) (Kd.R_lt (Kd.Zc ql.o pl))) (Kd.R_lt (Kd.Zc qm.o pl))) (Kd.R_lt (Kd.Zc qn.o pl))) (Kd.R_lt (Kd.Zc qo.o pl))) (Kd.R_lt (Kd.Zc qp.o pl))) (Kd.R_lt (Kd.Zc qq.o pl))) (Kd.R_lt (Kd.Zc q9.o pl))) (Kd.R_lt (Kd.Zc qad.o pl))) (Zb pB))
             replace qf:=reR qf ho0 hb
             replace qj:=reR qj ho0 hb
             replace ql:=reR ql ho0 hb
             replace qm:=reR qm ho0 hb
             replace qn:=reR qn ho0 hb
             replace qo:=reR qo ho0 hb
             replace qp:=reR qp ho0 hb
             replace qq:=reR qq ho0 hb
             replace q8:=am (Kd.Zbn (Kd.Zam q8.o pl) (Kd.Zbh ho0) hb)
             replace q9:=reR q9 ho0 hb
             replace qad:=reR qad ho0 hb
             replace qa:=bb qa hb
             replace qb:=bb qb hb
             replace qc:=bb qc hb
             replace qd:=bb qd hb
             replace qe:=bb qe hb
             replace qh:=bb qh hb
             replace qi:=bb qi hb
             replace qt:=bb qt hb
             replace qw:=bb qw hb
             replace qx:=bb qx hb
             replace qg:=bb qg hb
             replace qk:=bb qk hb
             replace HB:=bS hb
             obtain ⟨qgg,qgi,qf9⟩:=Kd.Zm qad.o
             (first|subst qf9|(injection qf9 with f1_ f2_ f3_;have f4_:=f1_.symm;have f5_:=f3_.symm;clear f1_ f2_ f3_;subst f4_;subst f5_))
             obtain ⟨qgh,qgj,qga⟩:=Kd.Zm qas.o
             (first|subst qga|(injection qga with f1_ f2_ f3_;have f4_:=f1_.symm;have f5_:=f3_.symm;clear f1_ f2_ f3_;subst f4_;subst f5_))
             refine hK.out _ _ ⟨k0 qg 0,k0 qg 1,k0 qg 2,k0 qk 0,k0 qk 1,k0 qk 2,k0 qc 0,k0 qc 1,k0 qc 2,k0 qa 0,k0 qa 1,k0 qa 2,k0 qd 0,k0 qd 1,k0 qd 2,k0 qb 0,k0 qb 1,k0 qb 2⟩ (fun hHeld=>?_)
             clear hK K
             refine norm_ (a':=?_) ?_ ?_
             rotate_left
             ·show Act.put _ (some 191) _=_
              exact pP
             refine one_ (i:=38) (N:=some 192) #[true,true,true,true,true,true,true,true,true,true,true,true,true,true,true,true,true,true,true,true,true,true,true,true,true,true,true,true,true,true,true,true,true,true,true,true,true,true,true,false,false,false,false,false,false,false,false,false,false,false,false,false,false,false] rfl rfl (Za8 HT_.out (by kernel_rfl)) (by decide) (fun K hK=>?_)
             refine goes_ Tryz.func21 (by kernel_rfl) rfl #[.agg #[.bool qft,.slice qgg qfu.length qgi,.int .i64 qfv],.agg #[.bool qfw,.slice qgh qfx.length qgj,.int .i64 qfy]] (by rfl) rfl rfl pA ?_
             with_reducible refine (Zo.calls qcz qft _ _ qfu qfv qfw _ _ qfx qfy true _ ?side1 ?side2 ?side3 ?side4 qhi.o).mono ?_
             (case side1=>exact Kd.Zv (Kd.Zf qad.o).2.2 pl)
             (case side2=>exact (Kd.Zf qad.o).2.1)
             (case side3=>exact Kd.Zv (Kd.Zf qas.o).2.2 pl)
             (case side4=>exact (Kd.Zf qas.o).2.1)
             rintro e qpx ⟨rfl,hb⟩
             refine ⟨_,rfl,?_⟩
             replace qf:=rbl qf hb
             replace qj:=rbl qj hb
             replace ql:=rbl ql hb
             replace qm:=rbl qm hb
             replace qn:=rbl qn hb
             replace qo:=rbl qo hb
             replace qp:=rbl qp hb
             replace qq:=rbl qq hb
             replace q8:=vbl q8 hb
             replace q9:=rbl q9 hb
             replace qad:=rbl qad hb
             replace qas:=rbl qas hb
             replace qa:=bb qa hb
             replace qb:=bb qb hb
             replace qc:=bb qc hb
             replace qd:=bb qd hb
             replace qe:=bb qe hb
             replace qh:=bb qh hb
             replace qi:=bb qi hb
             replace qt:=bb qt hb
             replace qw:=bb qw hb
             replace qx:=bb qx hb
             replace qg:=bb qg hb
             replace qk:=bb qk hb
             replace HB:=bS hb
             refine hK.out _ _ ⟨k0 qg 0,k0 qg 1,k0 qg 2,k0 qk 0,k0 qk 1,k0 qk 2,k0 qc 0,k0 qc 1,k0 qc 2,k0 qa 0,k0 qa 1,k0 qa 2,k0 qd 0,k0 qd 1,k0 qd 2,k0 qb 0,k0 qb 1,k0 qb 2⟩ (fun hHeld=>?_)
             clear hK K
             refine norm_ (a':=?_) ?_ ?_
             rotate_left
             ·show Act.put _ (some 192) _=_
              exact pP
             refine pu 39 (some 193) #[true,true,true,true,true,true,true,true,true,true,true,true,true,true,true,true,true,true,true,true,true,true,true,true,true,true,true,true,true,true,true,true,true,true,true,true,true,true,true,true,false,false,false,false,false,false,false,false,false,false,false,false,false,false] (h:=?_)
             refine pu 40 (some 194) #[true,true,true,true,true,true,true,true,true,true,true,true,true,true,true,true,true,true,true,true,true,true,true,true,true,true,true,true,true,true,true,true,true,true,true,true,true,true,true,true,true,false,false,false,false,false,false,false,false,false,false,false,false,false] (h:=?_)
             refine take_ (i:=41) (N:=some 195) (v:=?_) (a':=?_) #[true,true,true,true,true,true,true,true,true,true,true,true,true,true,true,true,true,true,true,true,true,true,true,true,true,true,true,true,true,true,true,true,true,true,true,true,true,true,true,true,true,true,false,false,false,false,false,false,false,false,false,false,false,false] rfl rfl (Za3 HT_.out HW_.out (by kernel_rfl)) (fun _ _ _ h=>h) (Or.inl ⟨by rfl,?_⟩) hHeld ?_ ?_
             rotate_left
             ·rintro w' ⟨s0,s1,s2,s3,s4,s5,s6,s7,s8,s9,s10,s11,s12,s13,s14,s15,s16,s17⟩
              go_simp
              with_reducible rfl
             rotate_left
             ·exact pP
             refine take_ (i:=42) (N:=some 196) (v:=?_) (a':=?_) #[true,true,true,true,true,true,true,true,true,true,true,true,true,true,true,true,true,true,true,true,true,true,true,true,true,true,true,true,true,true,true,true,true,true,true,true,true,true,true,true,true,true,true,false,false,false,false,false,false,false,false,false,false,false] rfl rfl (Za3 HT_.out HW_.out (by kernel_rfl)) (fun _ _ _ h=>h) (Or.inl ⟨by rfl,?_⟩) hHeld ?_ ?_
             rotate_left
             ·rintro w' ⟨s0,s1,s2,s3,s4,s5,s6,s7,s8,s9,s10,s11,s12,s13,s14,s15,s16,s17⟩
              go_simp
              with_reducible rfl
             rotate_left
             ·exact pP
             refine one_ (i:=43) (N:=some 197) #[true,true,true,true,true,true,true,true,true,true,true,true,true,true,true,true,true,true,true,true,true,true,true,true,true,true,true,true,true,true,true,true,true,true,true,true,true,true,true,true,true,true,true,true,false,false,false,false,false,false,false,false,false,false] rfl rfl (Za8 HT_.out (by kernel_rfl)) (by decide) (fun K hK=>?_)
             refine goes_ Tryz.func21 (by kernel_rfl) rfl #[.agg #[.bool je,.slice jl q0.length jk,.int .i64 jf],.agg #[.bool a0_0,.slice A0_1 l0_1.length c0_1,.int .i64 a0_2]] (by rfl) rfl rfl pA ?_
             with_reducible refine (Zo.calls qcz je _ _ q0 jf a0_0 _ _ l0_1 a0_2 true _ ?side1 ?side2 ?side3 ?side4 qhj.o).mono ?_
             (case side1=>exact Kd.Zv (Kd.Zf qf.o).2.2 pl)
             (case side2=>exact (Kd.Zf qf.o).2.1)
             (case side3=>exact cB HR0_1 HB)
             (case side4=>exact HC0_1.o)
             rintro e qpy ⟨rfl,hb⟩
             refine ⟨_,rfl,?_⟩
             replace qf:=rbl qf hb
             replace qj:=rbl qj hb
             replace ql:=rbl ql hb
             replace qm:=rbl qm hb
             replace qn:=rbl qn hb
             replace qo:=rbl qo hb
             replace qp:=rbl qp hb
             replace qq:=rbl qq hb
             replace q8:=vbl q8 hb
             replace q9:=rbl q9 hb
             replace qad:=rbl qad hb
             replace qas:=rbl qas hb
             replace qa:=bb qa hb
             replace qb:=bb qb hb
             replace qc:=bb qc hb
             replace qd:=bb qd hb
             replace qe:=bb qe hb
             replace qh:=bb qh hb
             replace qi:=bb qi hb
             replace qt:=bb qt hb
             replace qw:=bb qw hb
             replace qx:=bb qx hb
             replace qg:=bb qg hb
             replace qk:=bb qk hb
             replace HB:=bS hb
             refine hK.out _ _ ⟨k0 qg 0,k0 qg 1,k0 qg 2,k0 qk 0,k0 qk 1,k0 qk 2,k0 qc 0,k0 qc 1,k0 qc 2,k0 qa 0,k0 qa 1,k0 qa 2,k0 qd 0,k0 qd 1,k0 qd 2,k0 qb 0,k0 qb 1,k0 qb 2⟩ (fun hHeld=>?_)
             clear hK K
             refine norm_ (a':=?_) ?_ ?_
             rotate_left
             ·show Act.put _ (some 197) _=_
              exact pP
             refine pu 44 (some 198) #[true,true,true,true,true,true,true,true,true,true,true,true,true,true,true,true,true,true,true,true,true,true,true,true,true,true,true,true,true,true,true,true,true,true,true,true,true,true,true,true,true,true,true,true,true,false,false,false,false,false,false,false,false,false] (h:=?_)
             refine pu 45 (some 199) #[true,true,true,true,true,true,true,true,true,true,true,true,true,true,true,true,true,true,true,true,true,true,true,true,true,true,true,true,true,true,true,true,true,true,true,true,true,true,true,true,true,true,true,true,true,true,false,false,false,false,false,false,false,false] (h:=?_)
             refine take_ (i:=46) (N:=some 200) (v:=?_) (a':=?_) #[true,true,true,true,true,true,true,true,true,true,true,true,true,true,true,true,true,true,true,true,true,true,true,true,true,true,true,true,true,true,true,true,true,true,true,true,true,true,true,true,true,true,true,true,true,true,true,false,false,false,false,false,false,false] rfl rfl (Za3 HT_.out HW_.out (by kernel_rfl)) (fun _ _ _ h=>h) (Or.inl ⟨by rfl,?_⟩) hHeld ?_ ?_
             rotate_left
             ·rintro w' ⟨s0,s1,s2,s3,s4,s5,s6,s7,s8,s9,s10,s11,s12,s13,s14,s15,s16,s17⟩
              go_simp
              with_reducible rfl
             rotate_left
             ·exact pP
             refine take_ (i:=47) (N:=some 201) (v:=?_) (a':=?_) #[true,true,true,true,true,true,true,true,true,true,true,true,true,true,true,true,true,true,true,true,true,true,true,true,true,true,true,true,true,true,true,true,true,true,true,true,true,true,true,true,true,true,true,true,true,true,true,true,false,false,false,false,false,false] rfl rfl (Za3 HT_.out HW_.out (by kernel_rfl)) (fun _ _ _ h=>h) (Or.inl ⟨by rfl,?_⟩) hHeld ?_ ?_
             rotate_left
             ·rintro w' ⟨s0,s1,s2,s3,s4,s5,s6,s7,s8,s9,s10,s11,s12,s13,s14,s15,s16,s17⟩
              go_simp
              with_reducible rfl
             rotate_left
             ·exact pP
             refine one_ (i:=48) (N:=some 202) #[true,true,true,true,true,true,true,true,true,true,true,true,true,true,true,true,true,true,true,true,true,true,true,true,true,true,true,true,true,true,true,true,true,true,true,true,true,true,true,true,true,true,true,true,true,true,true,true,true,false,false,false,false,false] rfl rfl (Za8 HT_.out (by kernel_rfl)) (by decide) (fun K hK=>?_)
             refine goes_ Tryz.func21 (by kernel_rfl) rfl #[.agg #[.bool jq,.slice jn q1.length jo,.int .i64 jt],.agg #[.bool a1_0,.slice A1_1 l1_1.length c1_1,.int .i64 a1_2]] (by rfl) rfl rfl pA ?_
             with_reducible refine (Zo.calls qcz jq _ _ q1 jt a1_0 _ _ l1_1 a1_2 true _ ?side1 ?side2 ?side3 ?side4 qhk.o).mono ?_
             (case side1=>exact Kd.Zv (Kd.Zf qj.o).2.2 pl)
             (case side2=>exact (Kd.Zf qj.o).2.1)
             (case side3=>exact cB HR1_1 HB)
             (case side4=>exact HC1_1.o)
             rintro e qpz ⟨rfl,hb⟩
             refine ⟨_,rfl,?_⟩
             replace qf:=rbl qf hb
             replace qj:=rbl qj hb
             replace ql:=rbl ql hb
             replace qm:=rbl qm hb
             replace qn:=rbl qn hb
             replace qo:=rbl qo hb
             replace qp:=rbl qp hb
             replace qq:=rbl qq hb
             replace q8:=vbl q8 hb
             replace q9:=rbl q9 hb
             replace qad:=rbl qad hb
             replace qas:=rbl qas hb
             replace qa:=bb qa hb
             replace qb:=bb qb hb
             replace qc:=bb qc hb
             replace qd:=bb qd hb
             replace qe:=bb qe hb
             replace qh:=bb qh hb
             replace qi:=bb qi hb
             replace qt:=bb qt hb
             replace qw:=bb qw hb
             replace qx:=bb qx hb
             replace qg:=bb qg hb
             replace qk:=bb qk hb
             replace HB:=bS hb
             refine hK.out _ _ ⟨k0 qg 0,k0 qg 1,k0 qg 2,k0 qk 0,k0 qk 1,k0 qk 2,k0 qc 0,k0 qc 1,k0 qc 2,k0 qa 0,k0 qa 1,k0 qa 2,k0 qd 0,k0 qd 1,k0 qd 2,k0 qb 0,k0 qb 1,k0 qb 2⟩ (fun hHeld=>?_)
             clear hK K
             refine norm_ (a':=?_) ?_ ?_
             rotate_left
             ·show Act.put _ (some 202) _=_
              exact pP
             refine pu 49 (some 203) #[true,true,true,true,true,true,true,true,true,true,true,true,true,true,true,true,true,true,true,true,true,true,true,true,true,true,true,true,true,true,true,true,true,true,true,true,true,true,true,true,true,true,true,true,true,true,true,true,true,true,false,false,false,false] (h:=?_)
             refine pu 50 (some 204) #[true,true,true,true,true,true,true,true,true,true,true,true,true,true,true,true,true,true,true,true,true,true,true,true,true,true,true,true,true,true,true,true,true,true,true,true,true,true,true,true,true,true,true,true,true,true,true,true,true,true,true,false,false,false] (h:=?_)
             refine one_ (i:=51) (N:=some 205) #[true,true,true,true,true,true,true,true,true,true,true,true,true,true,true,true,true,true,true,true,true,true,true,true,true,true,true,true,true,true,true,true,true,true,true,true,true,true,true,true,true,true,true,true,true,true,true,true,true,true,true,true,false,false] rfl rfl (Za8 HT_.out (by kernel_rfl)) (by decide) (fun K hK=>?_)
             refine goes_ Tryz.func41 (by kernel_rfl) rfl #[] (by rfl) rfl rfl pA ?_
             with_reducible refine (Zb1.calls qcz  qf2 _ qhl.o).mono ?_
             rintro e qp0 ⟨rfl,hb⟩
             refine ⟨_,rfl,?_⟩
             replace qf:=rbl qf hb
             replace qj:=rbl qj hb
             replace ql:=rbl ql hb
             replace qm:=rbl qm hb
             replace qn:=rbl qn hb
             replace qo:=rbl qo hb
             replace qp:=rbl qp hb
             replace qq:=rbl qq hb
             replace q8:=vbl q8 hb
             replace q9:=rbl q9 hb
             replace qad:=rbl qad hb
             replace qas:=rbl qas hb
             replace qa:=bb qa hb
             replace qb:=bb qb hb
             replace qc:=bb qc hb
             replace qd:=bb qd hb
             replace qe:=bb qe hb
             replace qh:=bb qh hb
             replace qi:=bb qi hb
             replace qt:=bb qt hb
             replace qw:=bb qw hb
             replace qx:=bb qx hb
             replace qg:=bb qg hb
             replace qk:=bb qk hb
             replace HB:=bS hb
             refine hK.out _ _ ⟨k0 qg 0,k0 qg 1,k0 qg 2,k0 qk 0,k0 qk 1,k0 qk 2,k0 qc 0,k0 qc 1,k0 qc 2,k0 qa 0,k0 qa 1,k0 qa 2,k0 qd 0,k0 qd 1,k0 qd 2,k0 qb 0,k0 qb 1,k0 qb 2⟩ (fun hHeld=>?_)
             clear hK K
             refine norm_ (a':=?_) ?_ ?_
             rotate_left
             ·show Act.put _ (some 205) _=_
              exact pP
             refine pu 52 (some 206) #[true,true,true,true,true,true,true,true,true,true,true,true,true,true,true,true,true,true,true,true,true,true,true,true,true,true,true,true,true,true,true,true,true,true,true,true,true,true,true,true,true,true,true,true,true,true,true,true,true,true,true,true,true,false] (h:=?_)
             refine pu 53 (some 6) #[true,true,true,true,true,true,true,true,true,true,true,true,true,true,true,true,true,true,true,true,true,true,true,true,true,true,true,true,true,true,true,true,true,true,true,true,true,true,true,true,true,true,true,true,true,true,true,true,true,true,true,true,true,true] (h:=?_)
             refine done_ (Zdg HT_.out (by kernel_rfl)) ?_
             try go_wp2
             go_ret
             exact ⟨pE,pB⟩
            ·exact absurd ((Option.some.inj H).trans hr) Bool.false_ne_true
           ·exact absurd ((Option.some.inj H).trans hr) Bool.false_ne_true
          ·exact absurd ((Option.some.inj H).trans hr) Bool.false_ne_true
         ·exact absurd ((Option.some.inj H).trans hr) Bool.false_ne_true
        ·exact absurd ((Option.some.inj H).trans hr) Bool.false_ne_true
       ·rw [if_neg qeh] at H
        have c353b0:(qcq == qcr)=false:=by simpa using qeh
        (try (have c353b1:decide (qcq=qcr)=false:=by simpa using qeh))
        (try (have c353b2:(qcq == qcr)=false:=by simpa using qeh))
        (try (have c353b3:¬ (qcq=qcr):=by simpa using qeh))
        clear qeh
        exact absurd ((Option.some.inj H).trans hr) Bool.false_ne_true
      ·exact absurd ((Option.some.inj H).trans hr) Bool.false_ne_true
     ·exact absurd ((Option.some.inj H).trans hr) Bool.false_ne_true
    ·exact absurd ((Option.some.inj H).trans hr) Bool.false_ne_true
end YtjbjkmccfocikaaGreatDoor.B
end
section
namespace YtjbjkmccfocikaaGreatDoor.P.Nm
open Go.RowKit YtjbjkmccfocikaaGreatDoorW.PrintWords YtjbjkmccfocikaaGreatDoor.B YtjbjkmccfocikaaGreatDoor.P
theorem wf64 {n:Int} (h:(Lit.int .i64 n).wf=true) : -9223372036854775808<=n/\n<=9223372036854775807:=by
 have e1:IntKind.i64.min = -9223372036854775808:=by decide
 have e2:IntKind.i64.max=9223372036854775807:=by decide
 simp only [Lit.wf,e1,e2,Bool.and_eq_true,decide_eq_true_eq] at h
 exact h
theorem Zlb {a:Bool} {l:List Int} {e:Int} (h:l.length<=35184372087808):Tells (fun k=>Zo.f k a l e a l e) true :=
 (Zic a l e a l e (by omega)).val (Zj8.2 ⟨rfl,rfl,rfl⟩)
theorem Zh0 {a b:Bool} {l m:List Int} {e f n:Int} (hl:RawD l) (hm:RawD m) (zl:l.length<=35184372087808) (zm:m.length<=35184372087808) (hn : -9223372036854775808<=n/\n<=9223372036854775807):Tells (fun k=>Ze.f k a l e b m f n) true:=by
 obtain ⟨C,c1,c2⟩:=CompareY (a:=a) (b:=b) (e:=e) (g:=f) hl hm
 obtain ⟨D,hD,d1,d2⟩:=AddX (a:=a) (b:=b) (e:=e) (g:=f) hl hm
 obtain ⟨S,hS,s1,s2⟩:=SubY (a:=a) (b:=b) (e:=e) (g:=f) hl hm
 obtain ⟨M,hM,m1,m2⟩:=MulY (a:=a) (b:=b) (e:=e) (g:=f) hl hm
 obtain ⟨E,hE,e1,e2⟩:=NegX (a:=a) (e:=e) hl
 obtain ⟨W,w1,w2⟩:=WholeY (a:=a) (e:=e) hl
 have k1:=Zd7 a l e hl.dg hl.len
 have k2:=Zdx a l e hl.dg hl.len
 have i1:=Zl5 n hn.1 hn.2
 have i2:=Zl9 n hn.1 hn.2
 have oi:=(Zr2 (n:=n) hn.1 hn.2).1
 have hj:Tells (fun k=>Ze.j0 k n false a l e b m f a l e b m f) true:=by
  refine Tells.succ ?_
  simp only [Ze.j0]
  refine Tells.ifn (by decide) (e1.bind (e2.bind (w1.bind (w2.bind ((Ze8 E.1 (by omega)).bind (Tells.ifp rfl ?_))))))
  unfold Zae.f
  refine (Tells.pure _).bind (Tells.ifp rfl (Tells.ifp rfl (Tells.ifp (beq_self_eq_true _) ((Tells.pure _).bind (Tells.ifp rfl (k1.bind ((Tells.pure _).bind (k2.bind (Tells.ifp rfl (i1.bind (i2.bind ?_)))))))))))
  exact (Ze8 (intD n) (by have := oi.len;omega)).bind (Tells.ifp rfl ((Zlb zl).bind (Tells.ifp rfl ((Zlb zm).bind (Tells.ifp rfl (alive02.bind (Tells.pure _)))))))
 unfold Ze.f Zcc.f Zae.f
 rw [Zh6 zl,Zh6 zm]
 refine ((Tells.pure _).bind (Tells.pure _)).bind (((Tells.pure _).bind (Tells.pure _)).bind (c1.bind (c2.bind (d1.bind (d2.bind (s1.bind (s2.bind (m1.bind (m2.bind ?_)))))))))
 refine Tells.ifp rfl ((Tells.pure _).bind (Tells.ifp rfl ((Ze8 D.1 (by omega)).bind (Tells.ifp rfl ((Tells.pure _).bind (Tells.ifp rfl ((Ze8 S.1 (by omega)).bind (Tells.ifp rfl ((Tells.pure _).bind (Tells.ifp rfl ((Ze8 M.1 (by omega)).bind (Tells.ifp rfl ((Tells.pure _).bind ?_)))))))))))))
 refine hj.congr fun k=>?_
 rw [show (((outD M).2.2.2:Int) != (outD M).2.2.2)=false from bne_self_eq_false _]
end YtjbjkmccfocikaaGreatDoor.P.Nm
end
section
namespace YtjbjkmccfocikaaGreatDoor.R
open Go.ChangeShapes Go.WideShapes Go.ChangeAt Go.RowKit Go.Joins YtjbjkmccfocikaaGreatDoorW.PrintWords YtjbjkmccfocikaaGreatDoor.P.Nm
theorem laidOut:laidOutB Tryz.prog=true:=by kernel_rfl
theorem cellsD:Tryz.prog.cellsOf 24=3:=by kernel_rfl
theorem cellsU:Tryz.prog.cellsOf 85=1:=by kernel_rfl
theorem wf32 {n:Int} (h:(Lit.int .u32 n).wf=true):0<=n/\n < 4294967296:=by
 have e1:IntKind.u32.min=0:=by decide
 have e2:IntKind.u32.max=4294967295:=by decide
 simp only [Lit.wf,e1,e2,Bool.and_eq_true,decide_eq_true_eq] at h
 omega
theorem Zmk {H:Type} {enc:TypeId × Value->H} {W:World} {v:Value} {fuel:Nat} {x:DataW H × List MemPlace}
  (hf:DataW.trod enc Tryz.prog W 0 (fun _=>true) true fuel 22 [v]=some x) :
  ∃ (A:Option Addr) (c:Nat) (l:List Int),v=.slice A l.length c/\l.length<=c/\Kd.C (Kd.int .u32) W A l.length l/\RawD l/\((x.1=.nil/\l=[]) \/ ∃ spare,x.1=.slice (lits .u32 l) spare):=by
 rcases open_ints Tryz.underlying22 Tryz.underlying85 cellsU hf with ⟨hcs,hx⟩|⟨a,len,cap,zs,hcs,_,hl,hm,hz,hx,hcell,hwf⟩
 ·simp at hcs
  subst hcs hx
  exact ⟨none,0,[],rfl,Nat.le_refl _,Kd.Zgf (enc:=Value.int .u32) (d:=0) ⟨rfl,by simp,fun h=>absurd h (by simp)⟩,RawD.nil,.inl ⟨rfl,rfl⟩⟩
 ·simp at hcs
  subst hcs hx
  simp only [if_true] at hz
  have hlen:(zs.take len).length=len:=by simp;omega
  refine ⟨some a,cap,zs.take len,by rw [hlen],by omega,Kd.Zgf (enc:=Value.int .u32) (d:=0) ⟨rfl,by unfold maxLen at hm;simp;omega,fun _=>⟨a,rfl,fun j hj=>?_⟩⟩,⟨fun y hy=>wf32 (hwf y (List.mem_of_mem_take hy)),by unfold maxLen at hm;omega⟩,.inr ⟨_,rfl⟩⟩
  have hj':j < len:=by simp at hj;omega
  rw [hcell j (by omega)]
  simp [List.getD,List.getElem?_take_of_lt hj']
theorem Zio {H:Type} {P:Program} {ts:List TypeId} {ds:List (DataW H)} {j:Nat} {t:TypeId} {d:DataW H} (h:(DataW.weightsEach P ts ds).all (· <= reachBytes)=true) (ht:ts[j]? = some t) (hd:ds[j]? = some d) :
  (d.weights P t).all (· <= reachBytes)=true :=
 List.all_eq_true.2 fun n hn=>List.all_eq_true.1 h n (DataW.weights_mem_each ht hd n hn)
theorem bytesU:Tryz.prog.bytesOf 85=4:=by kernel_rfl
theorem Zkp {H:Type} {x:DataW H} {l:List Int} (h:(x=.nil/\l=[]) \/ ∃ spare,x=.slice (lits .u32 l) spare) (hw:(x.weights Tryz.prog 22).all (· <= reachBytes)=true):l.length<=35184372087808:=by
 rcases h with ⟨rfl,rfl⟩|⟨sp,rfl⟩
 ·simp
 ·have := List.all_eq_true.1 hw (((lits .u32 l:List (DataW H)).length+sp.length)*Tryz.prog.bytesOf 85) (by simp [DataW.weights,Tryz.underlying22])
  rw [bytesU] at this
  have hl:(lits .u32 l:List (DataW H)).length=l.length:=by simp [lits]
  rw [hl] at this
  have hb:reachBytes=140737488351232:=by decide
  rw [decide_eq_true_eq,hb] at this
  omega
theorem Zlv {H:Type} {enc:TypeId × Value->H} {W:World} {base:Nat} {v:Value} {d:DataW H} {p:List MemPlace} (hv:Value.okWide Tryz.prog W .any base 24 v)
  (h:DataW.Trod enc Tryz.prog W 0 (fun _=>true) true 24 v d p) :
  ∃ (n:Bool) (A:Option Addr) (c:Nat) (l:List Int) (e:Int),v=.agg #[.bool n,.slice A l.length c,.int .i64 e]/\l.length<=c/\Kd.C (Kd.int .u32) W A l.length l/\RawD l/\(Lit.int .i64 e).wf=true /\
   ((d.weights Tryz.prog 24).all (· <= reachBytes)=true->l.length<=35184372087808):=by
 obtain ⟨c0,c1,c2,y0,y1,y2,m,rfl,rfl,rfl,hy0,hy1,hy2⟩:=open_agg3 Tryz.underlying24 (by kernel_rfl) cellsD hv h
 obtain ⟨n,e0,_⟩:=DataW.trod_bool Tryz.underlying4 hy0
 obtain ⟨A,c,l,e1,h1,h2,h3,h4⟩:=Zmk hy1
 obtain ⟨e,e2,_,we⟩:=DataW.trod_int Tryz.underlying3 hy2
 simp at e0 e2
 subst e0 e1 e2
 refine ⟨n,A,c,l,e,rfl,h1,h2,h3,we,fun hw=>Zkp h4 (List.all_eq_true.2 fun z hz=>List.all_eq_true.1 hw z ?_)⟩
 simp only [DataW.weights,Tryz.underlying24,List.map_cons,List.map_nil,DataW.weightsEach,List.mem_append]
 exact .inr (.inl hz)
end YtjbjkmccfocikaaGreatDoor.R
end
end Go.Proofs
