/- QuotNear, part 5 of 8 of its proof (no condition); names with a low line are shortened throughout. -/
import Derived.Test.YtjbjkmccfocikaaGreatDoorZQuotNear3
import Derived.WalkKit
import Derived.Lib.Hide
import Derived.Outline
import Derived.Deep.DeepFit
import Derived.Laws.Rows
import Derived.Lib.TrimByte
import Derived.Shelf.Strings.MapAny
import Derived.Shelf.Strings.SlTrimAscii
set_option linter.unusedVariables false
set_option linter.unusedSimpArgs false
set_option maxRecDepth 100000
set_option maxHeartbeats 8000000
namespace Go.Proofs
section
namespace YtjbjkmccfocikaaGreatDoor.B
open Go.RowKit YtjbjkmccfocikaaGreatDoorW.PrintWords YtjbjkmccfocikaaGreatDoorW.PrintLast YtjbjkmccfocikaaGreatDoorW.PrintMore
attribute [local go_sem] Zb7 Zb9 Zcr Zcs Zbp Zbq Zb8 Zca
def Ze3.f (k:Nat) (a0_0:Bool) (l0_1:List Int) (a0_2:Int):Option (Bool):=(Zbg.f k a0_0 l0_1 a0_2).bind fun qb=>(some (qb != 0))
theorem Ze3.calls (k:Nat) (a0_0:Bool) (A0_1:Option Addr) (c0_1:Nat) (l0_1:List Int) (a0_2:Int) (r:Bool) (w:World) (hr0_1:Kd.C (Kd.int .u32) w A0_1 l0_1.length l0_1) (hc0_1:l0_1.length<=c0_1) (h:Ze3.f k a0_0 l0_1 a0_2=some r) :
  Calls Tryz.prog 124 #[.agg #[.bool a0_0,.slice A0_1 l0_1.length c0_1,.int .i64 a0_2]] w fun e w'=>e=.returned (.bool r)/\Below w.heap.size w w':=by
 have hu24:=Tryz.underlying24
 have HR0_1:=am hr0_1
 have HC0_1:=am hc0_1
 clear hr0_1 hc0_1
 have HB:=am (Below.refl w.heap.size w)
 have H:((Zbg.f k a0_0 l0_1 a0_2).bind fun qb=>(some (qb != 0)))=some r:=h
 clear h
 obtain ⟨qb,A2,H⟩:=ob H
 obtain rfl:=Option.some.inj H
 go_enter Tryz.func124,Tryz.ntmps124
 go_wp2_with (first|((with_reducible refine gd 1 ?_);refine bx 1 #[.bool a0_0,.slice A0_1 l0_1.length c0_1,.int .i64 a0_2] 24 (h:=?_);intro qd hg w3 hbox hb;have qa:=am hbox;have qc:=gW hg;replace HB:=bS hb;clear hb hbox hg;obtain ⟨_,_,_,_,_,_⟩:=cEc qa.o)|(refine gL (some 4) Tryz.func55 #[.agg #[.bool a0_0,.slice A0_1 l0_1.length c0_1,.int .i64 a0_2]] (h:=?_);(with_reducible refine (Zbg.calls k a0_0 _ _ l0_1 a0_2 qb _ ?side1 ?side2 A2.o).mono ?_);(case side1=>exact cB HR0_1 HB);(case side2=>exact HC0_1.o);rintro e w5 ⟨rfl,hb⟩;refine ⟨_,rfl,?_⟩;replace qa:=bb qa hb;replace HB:=bS hb))
 go_ret
 exact ⟨pE,pB⟩
end YtjbjkmccfocikaaGreatDoor.B
end
section
namespace YtjbjkmccfocikaaGreatDoor.B
open Go.RowKit YtjbjkmccfocikaaGreatDoorW.PrintWords YtjbjkmccfocikaaGreatDoor.P
def Zcu.f (k:Nat) (l:List S24):Option Bool:=anyO (fun x=>Ze3.f k x.f0 x.f1 x.f2) l
theorem Zcu.index (k:Nat) (A0:Option Addr) (c0:Nat) (l0:List S24) (b:Bool) (w:World) (hr0:Kd.C k24 w A0 l0.length l0) (hc0:l0.length<=c0) (h:Zcu.f k l0=some b) :
  Calls Tryz.prog 154 #[.slice A0 l0.length c0,.func (.func 124) #[] #[]] w fun e w'=>IdxR b e/\Below w.heap.size w w':=by
 have hm:l0.length<=9223372036854775807:=Kd.Zr0 hr0
 have HR:=Aside0.mk hr0
 have HC:=Aside0.mk hc0
 unfold Zcu.f at h
 have H0:=Aside0.mk h
 obtain ⟨n,hn⟩:∃ n,l0.length=n:=⟨_,rfl⟩
 rw [hn] at hm
 have HN:=Aside0.mk hn
 clear h hr0 hc0
 rw [hn]
 clear hn
 go_enter Tryz.func154,Tryz.ntmps154
 go_wp2
 go_loopw [8] (fun i wr => ∃ k_:Nat,k_<=n/\i=.int .i64 k_/\Aside0 (anyO (fun x=>Ze3.f k x.f0 x.f1 x.f2) (l0.drop k_)=some b)/\Below w.heap.size w wr) (fun i _=>n - (intOf i).toNat)
 case atStart=>exact ⟨0,Nat.zero_le _,rfl,⟨H0.out⟩,Below.refl _ _⟩
 case round =>
  obtain ⟨q,hq,rfl,HP,hb⟩:=hrel
  by_cases hlt:q < n
  ·have hlt':(q:Int) < (n:Int):=by omega
   have hdrop:l0.drop q=(l0.getD q z24) :: l0.drop (q+1):=Zl3 (by have := HN.out;omega)
   obtain ⟨x,hx⟩:∃ x,l0.getD q z24=x:=⟨_,rfl⟩
   have h1:=HP.out
   rw [hdrop,hx] at h1
   obtain ⟨t,ht,h2⟩:=Zjp h1
   obtain ⟨ad,c,hA,_,hK,hcc⟩:=Kd.Znb HR.out z24 (q:Int) (by omega) (by have := HN.out;omega)
   have hx':l0.getD (q:Int).toNat z24=x:=by rw [Int.toNat_natCast];exact hx
   rw [hx'] at hK
   obtain ⟨A1,c1,rfl,hl1,hg1⟩:=Zl6 hK
   have hcell0:=hcc 0 _ rfl
   have hcell1:=hcc 1 _ rfl
   have hcell2:=hcc 2 _ rfl
   obtain ⟨ad',c',hA',_,hK',hcc'⟩:=Kd.Znb HR.out z24 (0:Int) (by omega) (by have := HN.out;omega)
   obtain ⟨_,_,rfl,_⟩:=Zl6 hK'
   have hfirst:=hcc' 0 _ rfl
   obtain rfl:ad=ad':=Option.some.inj (hA.symm.trans hA')
   subst hA
   obtain ⟨b_,o_,rfl⟩:=Zlt (show w.cell? ad=_ from hfirst)
   have hck0:wr.cell? ⟨b_,o_+q*3,none⟩=some (.bool x.f0):=by
    have h3:=Zc8 hb hcell0
    rw [Ziy] at h3
    simpa [show k24.sz=3 from rfl,Nat.add_assoc] using h3
   have hck1:wr.cell? ⟨b_,o_+q*3+1,none⟩=some (.slice A1 x.f1.length c1):=by
    have h3:=Zc8 hb hcell1
    rw [Ziy] at h3
    simpa [show k24.sz=3 from rfl,Nat.add_assoc] using h3
   have hck2:wr.cell? ⟨b_,o_+q*3+2,none⟩=some (.int .i64 x.f2):=by
    have h3:=Zc8 hb hcell2
    rw [Ziy] at h3
    simpa [show k24.sz=3 from rfl,Nat.add_assoc] using h3
   have hgw:Kd.C (Kd.int .u32) wr A1 x.f1.length x.f1:=Kd.Zn hg1 hb
   have cF:=Ze3.calls k x.f0 A1 c1 x.f1 x.f2 t wr hgw hl1 ht
   obtain ⟨y0,hy0⟩:∃ y,x.f0=y:=⟨_,rfl⟩
   obtain ⟨y1,hy1⟩:∃ y,x.f1.length=y:=⟨_,rfl⟩
   obtain ⟨y2,hy2⟩:∃ y,x.f2=y:=⟨_,rfl⟩
   rw [hy0] at hck0 cF
   rw [hy1] at hck1 cF
   rw [hy2] at hck2 cF
   have HF:=Aside0.mk h2
   clear h1 hdrop hx hx' ht hcc hcell0 hcell1 hcell2 HP h2 hK hl1 hg1 hgw hy0 hy1 hy2 hfirst hcc' hA' hK'
   cases t with
   | true =>
    have HF1:=Aside0.mk (HF.out.1 rfl)
    clear HF
    go_wp2_with (go_at_call 124;refine (cF).mono ?_;rintro e w1 ⟨rfl,hb1⟩)
    go_ret
    exact ⟨Zod HF1.out q,hb.trans (hb1.mono hb.size)⟩
   | false =>
    have HF1:=Aside0.mk (HF.out.2 rfl)
    clear HF
    go_wp2_with (go_at_call 124;refine (cF).mono ?_;rintro e w1 ⟨rfl,hb1⟩)
    go_roundw
    case rel=>exact ⟨q+1,by omega,by go_num,HF1,hb.trans (hb1.mono hb.size)⟩
    case measure=>simp [intOf];omega
  ·obtain rfl:q=n:=by omega
   have h1:=HP.out
   rw [List.drop_of_length_le (by have := HN.out;omega)] at h1
   have h2:=Aside0.mk (Zlv h1)
   clear h1
   go_wp2
   go_ret
   exact ⟨Zjw h2.out,hb⟩
theorem Zcu.calls (k:Nat) (A0:Option Addr) (c0:Nat) (l0:List S24) (r:Bool) (w:World) (hr0:Kd.C k24 w A0 l0.length l0) (hc0:l0.length<=c0) (h:Zcu.f k l0=some r) :
  Calls Tryz.prog 123 #[.slice A0 l0.length c0,.func (.func 124) #[] #[]] w fun e w'=>e=.returned (.bool r)/\Below w.heap.size w w':=by
 have cI:=Zcu.index k A0 c0 l0 r w hr0 hc0 h
 clear h hr0 hc0
 go_enter Tryz.func123,Tryz.ntmps123
 go_wp2_with (go_at_call 154;refine cI.mono ?_;rintro e w1 ⟨⟨i,rfl,hi⟩,hb1⟩)
 go_ret
 exact ⟨by rw [<- hi];first|rfl|simp,hb1⟩
end YtjbjkmccfocikaaGreatDoor.B
end
section
namespace YtjbjkmccfocikaaGreatDoor.B
open Go.RowKit YtjbjkmccfocikaaGreatDoorW.PrintWords YtjbjkmccfocikaaGreatDoorW.PrintLast YtjbjkmccfocikaaGreatDoorW.PrintMore
attribute [local go_sem] Zb7 Zb9 Zcr Zcs Zbp Zbq Zb8 Zca
def Zcl.f (a0_0:Bool) (l0_1:List Int) (a0_2:Int):Option (Bool):=some ((l0_1.length:Int) == 0)
theorem Zcl.calls (a0_0:Bool) (A0_1:Option Addr) (c0_1:Nat) (l0_1:List Int) (a0_2:Int) (r:Bool) (w:World) (hr0_1:Kd.C (Kd.int .u32) w A0_1 l0_1.length l0_1) (hc0_1:l0_1.length<=c0_1) (h:Zcl.f a0_0 l0_1 a0_2=some r) :
  Calls Tryz.prog 104 #[.agg #[.bool a0_0,.slice A0_1 l0_1.length c0_1,.int .i64 a0_2]] w fun e w'=>e=.returned (.bool r)/\Below w.heap.size w w':=by
 have qd:=Tryz.underlying106
 have HR0_1:=am hr0_1
 have HC0_1:=am hc0_1
 clear hr0_1 hc0_1
 have HB:=am (Below.refl w.heap.size w)
 have H:(some ((l0_1.length:Int) == 0))=some r:=h
 clear h
 obtain rfl:=Option.some.inj H
 go_enter Tryz.func104,Tryz.ntmps104
 go_wp2_with (first|((with_reducible refine gd 1 ?_);refine bx 1 #[.bool a0_0,.slice A0_1 l0_1.length c0_1,.int .i64 a0_2] 106 (h:=?_);intro qc hg w2 hbox hb;have qa:=am hbox;have qb:=gW hg;replace HB:=bS hb;clear hb hbox hg;obtain ⟨_,_,_,_,_,_⟩:=cEc qa.o))
 go_ret
 exact ⟨pE,pB⟩
def Zfo.f (l0:List Int) (a1:Int):Option (List Int):=some l0
theorem Zfo.calls (P0_:Nat->Prop) (u9000_:Value) (l0:List Int) (a1:Int) (r:List Int) (w0 w:World) (hB:Below w0.heap.size w0 w) (ho0:Kd.R (Kd.int .u32) 85 w w0.heap.size P0_ u9000_ l0) (h:Zfo.f l0 a1=some r) :
  Calls Tryz.prog 105 #[u9000_,.int .i64 a1] w fun e w' => ∃ v0_:Value,e=.returned (v0_)/\Kd.R (Kd.int .u32) 85 w' w0.heap.size (fun k_=>(P0_ k_\/w.heap.size<=k_)) v0_ r/\Below w0.heap.size w0 w'/\Kept w w' (fun k_=>P0_ k_):=by
 have HO0:=am (show Kd.R (Kd.int .u32) 85 w w0.heap.size (fun k_=>(P0_ k_\/w.heap.size<=k_)) u9000_ l0 from Kd.Zh ho0 (fun k_ hk=>(.inl hk)))
 have HK:=am (Kept.refl w (fun k_=>P0_ k_))
 have HW0:=am hB.size
 have HB:=am hB
 clear hB
 have H:(some l0)=some r:=h
 clear h
 obtain rfl:=Option.some.inj H
 go_enter Tryz.func105,Tryz.ntmps105
 go_wp2
 go_ret
 exact ⟨_,pE,by refine rp ?_;exact HO0.o,pB,by repeat (first|(with_reducible first|exact HK.out|apply Kept.alloc|apply Kept.drewN|apply Kept.drew)|exact HK.out)⟩
def Zey.f (a0:ByteArray) (a1:Int):Option (ByteArray):=some a0
theorem Zey.calls (a0:ByteArray) (a1:Int) (r:ByteArray) (w:World) (h:Zey.f a0 a1=some r) :
  Calls Tryz.prog 111 #[.string a0,.int .i64 a1] w fun e w'=>e=.returned (.string r)/\Drawn0 w w':=by
 have H:(some a0)=some r:=h
 clear h
 obtain rfl:=Option.some.inj H
 go_enter Tryz.func111,Tryz.ntmps111
 go_wp2
 go_ret
 exact ⟨pR,pD⟩
def Zce.l0:Nat->Int->List Int->Int->Int->Option (Int)
 | 0,_,_,_,_=>none
 | k+1,x3,x7,x8,x9=>if x9 < x8 then (if 0<=x9 then (if x9 < (x7.length:Int) then (Zce.l0 k ((((x3*10) % 4294967296)+(((rd x7 x9) - 48) % 256)) % 4294967296) x7 x8 (wrap64 (x9+1))) else (none)) else (none)) else (some x3)
def Zce.f (k:Nat) (a0:ByteArray):Option (Int):=(Zcc.f a0).bind fun qa=>(Zce.l0 k 0 qa (qa.length:Int) 0)
theorem Zce.calls (k:Nat) (a0:ByteArray) (r:Int) (w:World) (h:Zce.f k a0=some r) :
  Calls Tryz.prog 152 #[.string a0] w fun e w'=>e=.returned (.int .u32 r)/\Below w.heap.size w w':=by
 have HB:=am (Below.refl w.heap.size w)
 have H:((Zcc.f a0).bind fun qa=>(Zce.l0 k 0 qa (qa.length:Int) 0))=some r:=h
 clear h
 obtain ⟨qa,A2,H⟩:=ob H
 have H':=am H
 clear H
 go_enter Tryz.func152,Tryz.ntmps152
 go_wp2_with (first|((with_reducible refine gd 7 ?_);refine Zcc.op _ _ _ rfl rfl rfl A2.o ?_;intro qh w3 ho0 hb;have qb:=am (Kd.Znv (Kd.Zdu (ok':=fun k_=>True) ho0 (fun k_ hk_=>trivial)) (Zd pB));replace HB:=bS hb;obtain ⟨Ao4,co4,eo4⟩:=Kd.Zhn qb.o;subst eo4))
 go_loopg [3,9] k (fun kq v3 v9 w' => ∃ (x3_1:Int) (x9_1:Int),v3=.int .u32 x3_1/\v9=.int .i64 x9_1/\Aside0 (Zce.l0 kq x3_1 qa (qa.length:Int) x9_1=some r)/\Aside0 (kq<=k)/\Aside0 (Kd.V (Kd.int .u8) 5 w' w.heap.size (fun _=>True) (.slice Ao4 qa.length co4) qa)/\Aside0 (Below w.heap.size w w'))
 case atStart=>exact ⟨(0),(0),pR,pR,H',⟨Nat.le_refl _⟩,⟨by refine vp ?_;exact qb.o⟩,⟨pB⟩⟩
 case round =>
  clear H'
  obtain ⟨x3_1,x9_1,rfl,rfl,HA,HK1,HO_7,HB⟩:=hrel
  cases gk with
  | zero=>exact absurd HA.out (by simp [Zce.l0])
  | succ k1 =>
   have H:=HA.out
   clear HA
   simp only [Zce.l0] at H
   by_cases c5:x9_1 < (qa.length:Int)
   ·rw [if_pos c5] at H
    have c5b0:decide (x9_1 < (qa.length:Int))=true:=decide_eq_true c5
    clear c5
    by_cases c6:0<=x9_1
    ·rw [if_pos c6] at H
     have c6b0:decide (0<=x9_1)=true:=decide_eq_true c6
     clear c6
     by_cases c7:x9_1 < (qa.length:Int)
     ·rw [if_pos c7] at H
      have c7b0:decide (x9_1 < (qa.length:Int))=true:=decide_eq_true c7
      clear c7
      have H':=am H
      clear H
      have qc:0<=(x9_1:Int):=of_decide_eq_true pQ
      have qd:x9_1 < (qa.length:Int):=of_decide_eq_true pQ
      obtain ⟨qg,qf,qe⟩:=Kd.Za5 (Kd.Zci HO_7.o).2.2 x9_1 qc qd
      cases qf
      replace qc:=eq_true qc
      replace qd:=eq_true qd
      go_wp2
      go_roundg k1
      case measure=>have := HK1.out;omega
      case rel=>exact ⟨((((x3_1*10) % 4294967296)+(((rd qa x9_1) - 48) % 256)) % 4294967296),(wrap64 (x9_1+1)),pR,pR,H',⟨by have := HK1.out;omega⟩,⟨by refine vp ?_;exact HO_7.o⟩,⟨pB⟩⟩
     ·rw [if_neg c7] at H
      exact absurd H (by simp)
    ·rw [if_neg c6] at H
     exact absurd H (by simp)
   ·rw [if_neg c5] at H
    have c5b0:decide (x9_1 < (qa.length:Int))=false:=decide_eq_false c5
    clear c5
    obtain rfl:=Option.some.inj H
    go_wp2
    go_ret
    exact ⟨pE,pB⟩
def Zd6.f (a0:Int):Option (Bool):=if a0 < 48 then (some true) else (some (decide (a0 > 57)))
theorem Zd6.calls (a0:Int) (r:Bool) (w:World) (h:Zd6.f a0=some r) :
  Calls Tryz.prog 151 #[.int .u8 a0] w fun e w'=>e=.returned (.bool r)/\Drawn0 w w':=by
 have H:(if a0 < 48 then (some true) else (some (decide (a0 > 57))))=some r:=h
 clear h
 by_cases c2:a0 < 48
 ·rw [if_pos c2] at H
  have c2b0:decide (a0 < 48)=true:=decide_eq_true c2
  clear c2
  obtain rfl:=Option.some.inj H
  go_enter Tryz.func151,Tryz.ntmps151
  go_wp2
  go_ret
  exact ⟨pR,pD⟩
 ·rw [if_neg c2] at H
  have c2b0:decide (a0 < 48)=false:=decide_eq_false c2
  clear c2
  obtain rfl:=Option.some.inj H
  go_enter Tryz.func151,Tryz.ntmps151
  go_wp2
  go_ret
  exact ⟨pR,pD⟩
end YtjbjkmccfocikaaGreatDoor.B
end
section
namespace YtjbjkmccfocikaaGreatDoor.B
open Go.RowKit YtjbjkmccfocikaaGreatDoorW.PrintWords YtjbjkmccfocikaaGreatDoor.P
def Zb2.f (l:List Int):Option Bool:=anyO (fun x=>Zd6.f x) l
theorem Zb2.index (A0:Option Addr) (c0:Nat) (l0:List Int) (b:Bool) (w:World) (hr0:Kd.C (Kd.int .u8) w A0 l0.length l0) (hc0:l0.length<=c0) (h:Zb2.f l0=some b) :
  Calls Tryz.prog 182 #[.slice A0 l0.length c0,.func (.func 151) #[] #[]] w fun e w'=>IdxR b e/\Below w.heap.size w w':=by
 have hm:l0.length<=9223372036854775807:=Kd.Zr0 hr0
 have HR:=Aside0.mk hr0
 have HC:=Aside0.mk hc0
 unfold Zb2.f at h
 have H0:=Aside0.mk h
 obtain ⟨n,hn⟩:∃ n,l0.length=n:=⟨_,rfl⟩
 rw [hn] at hm
 have HN:=Aside0.mk hn
 clear h hr0 hc0
 rw [hn]
 clear hn
 go_enter Tryz.func182,Tryz.ntmps182
 go_wp2
 go_loopw [8] (fun i wr => ∃ k_:Nat,k_<=n/\i=.int .i64 k_/\Aside0 (anyO (fun x=>Zd6.f x) (l0.drop k_)=some b)/\Below w.heap.size w wr) (fun i _=>n - (intOf i).toNat)
 case atStart=>exact ⟨0,Nat.zero_le _,rfl,⟨H0.out⟩,Below.refl _ _⟩
 case round =>
  obtain ⟨q,hq,rfl,HP,hb⟩:=hrel
  by_cases hlt:q < n
  ·have hlt':(q:Int) < (n:Int):=by omega
   have hdrop:l0.drop q=(l0.getD q (0:Int)) :: l0.drop (q+1):=Zl3 (by have := HN.out;omega)
   obtain ⟨x,hx⟩:∃ x,l0.getD q (0:Int)=x:=⟨_,rfl⟩
   have h1:=HP.out
   rw [hdrop,hx] at h1
   obtain ⟨t,ht,h2⟩:=Zjp h1
   obtain ⟨ad,c,hA,_,hK,hcc⟩:=Kd.Znb HR.out (0:Int) (q:Int) (by omega) (by have := HN.out;omega)
   have hx':l0.getD (q:Int).toNat 0=x:=by rw [Int.toNat_natCast];exact hx
   obtain rfl:c=[.int .u8 (l0.getD (q:Int).toNat 0)]:=hK
   rw [hx'] at hcc
   have hcell0:=hcc 0 _ rfl
   obtain ⟨ad',c',hA',_,hK',hcc'⟩:=Kd.Znb HR.out (0:Int) (0:Int) (by omega) (by have := HN.out;omega)
   obtain rfl:c'=[.int .u8 (l0.getD (0:Int).toNat 0)]:=hK'
   have hfirst:=hcc' 0 _ rfl
   obtain rfl:ad=ad':=Option.some.inj (hA.symm.trans hA')
   subst hA
   obtain ⟨b_,o_,rfl⟩:=Zlt (show w.cell? ad=_ from hfirst)
   have hck:wr.cell? ⟨b_,o_+q,none⟩=some (.int .u8 x):=by
    have h3:=Zc8 hb hcell0
    rw [Ziy] at h3
    simpa [show (Kd.int .u8).sz=1 from rfl] using h3
   have cF:=fun W:World=>Zd6.calls x t W ht
   have HF:=Aside0.mk h2
   clear h1 hdrop hx hx' ht hcc hcell0 HP h2 hfirst hcc' hA'
   cases t with
   | true =>
    have HF1:=Aside0.mk (HF.out.1 rfl)
    clear HF
    go_wp2_with (go_at_call 151;refine (cF _).mono ?_;rintro e w1 ⟨rfl,hb1⟩)
    go_ret
    exact ⟨Zod HF1.out q,hb.trans (hb1.below.mono hb.size)⟩
   | false =>
    have HF1:=Aside0.mk (HF.out.2 rfl)
    clear HF
    go_wp2_with (go_at_call 151;refine (cF _).mono ?_;rintro e w1 ⟨rfl,hb1⟩)
    go_roundw
    case rel=>exact ⟨q+1,by omega,by go_num,HF1,hb.trans (hb1.below.mono hb.size)⟩
    case measure=>simp [intOf];omega
  ·obtain rfl:q=n:=by omega
   have h1:=HP.out
   rw [List.drop_of_length_le (by have := HN.out;omega)] at h1
   have h2:=Aside0.mk (Zlv h1)
   clear h1
   go_wp2
   go_ret
   exact ⟨Zjw h2.out,hb⟩
theorem Zb2.calls (A0:Option Addr) (c0:Nat) (l0:List Int) (r:Bool) (w:World) (hr0:Kd.C (Kd.int .u8) w A0 l0.length l0) (hc0:l0.length<=c0) (h:Zb2.f l0=some r) :
  Calls Tryz.prog 150 #[.slice A0 l0.length c0,.func (.func 151) #[] #[]] w fun e w'=>e=.returned (.bool r)/\Below w.heap.size w w':=by
 have cI:=Zb2.index A0 c0 l0 r w hr0 hc0 h
 clear h hr0 hc0
 go_enter Tryz.func150,Tryz.ntmps150
 go_wp2_with (go_at_call 182;refine cI.mono ?_;rintro e w1 ⟨⟨i,rfl,hi⟩,hb1⟩)
 go_ret
 exact ⟨by rw [<- hi];first|rfl|simp,hb1⟩
end YtjbjkmccfocikaaGreatDoor.B
end
section
namespace YtjbjkmccfocikaaGreatDoor.B
open Go.RowKit YtjbjkmccfocikaaGreatDoorW.PrintWords YtjbjkmccfocikaaGreatDoorW.PrintLast YtjbjkmccfocikaaGreatDoorW.PrintMore
attribute [local go_sem] Zb7 Zb9 Zcr Zcs Zbp Zbq Zb8 Zca
def Za4.l0:Nat->ByteArray->List Int->Option (List Int × Int)
 | 0,_,_=>none
 | k+1,x0,x4=>if x0.toList=([]:List UInt8) then (some (x4,0)) else ((Zad.f k x4 (([1000000000]:List Int))).bind fun qw=>(if 0<=(wrap64 ((Int.tmod (wrap64 ((x0.size:Int) - 1)) 9)+1)) then (if (wrap64 ((Int.tmod (wrap64 ((x0.size:Int) - 1)) 9)+1))<=(x0.size:Int) then ((Zce.f k (x0.extract 0 ((wrap64 ((Int.tmod (wrap64 ((x0.size:Int) - 1)) 9)+1)):Int).toNat)).bind fun qx=>((Zv.f k (([qx]:List Int))).bind fun qy=>((Zac.f k qw qy).bind fun qz=>(Za4.l0 k (x0.extract ((wrap64 ((Int.tmod (wrap64 ((x0.size:Int) - 1)) 9)+1)):Int).toNat x0.size) qz)))) else (none)) else (none)))
def Za4.f (k:Nat) (a0:ByteArray):Option (List Int × Int):=if (a0.size:Int)=0 then (some (([]:List Int),8)) else (if (a0.size:Int) > 2400 then (some (([]:List Int),5)) else ((Zcc.f a0).bind fun qd=>((Zb2.f qd).bind fun ql=>(if ql=true then (some (([]:List Int),32)) else (Za4.l0 k a0 ([]:List Int))))))
def Za4.T10:Bool × List (List Nat × List Nat):=(true,[([],[]),([],[]),([0,1],[0,1]),([],[]),([],[]),([3,4],[3,4]),([5,2],[5]),([6],[6]),([7,6],[7]),([2,8,8],[2,8]),([9,9,0,1,2,3,4,5,6,7,8,9],[0,9])])
def Za4.B10:List Nat:=[0,0,3,0,0,24,63,127,255,511,1023]
theorem Za4.tab10:rtab .any (opsOf Tryz.f116 10)=Za4.T10:=by kernel_rfl
theorem Za4.bits10:waitsOk Za4.T10.2 Za4.B10=true:=by kernel_rfl
theorem Za4.leaf {P:Prop} (h:P:=by
 go_enter Tryz.func116,Tryz.ntmps116
 go_wp2_with (first|((with_reducible refine gd 16 ?_);refine Zcc.op _ _ _ rfl rfl rfl A4.o ?_;intro v0z w1z ho2z hb;have HO3z:=am (Kd.Znv (Kd.Zdu (ok':=fun k_=>True) ho2z (fun k_ hk_=>trivial)) (Zd pB));replace HB:=bS hb;obtain ⟨Ao4z,co5z,eo6z⟩:=Kd.Zhn HO3z.o;subst eo6z)|(refine gL (some 17) Tryz.func150 #[.slice Ao4z qd.length co5z,.func (.func 151) #[] #[]] (h:=?_);(with_reducible refine (Zb2.calls _ _ qd true _ ?side1 ?side2 A5.o).mono ?_);(case side1=>exact Kd.Zn (Kd.Zci HO3z.o).2.2 pl);(case side2=>exact (Kd.Zci HO3z.o).2.1);rintro e w7z ⟨rfl,hb⟩;refine ⟨_,rfl,?_⟩;replace HO3z:=vbl HO3z hb;replace HB:=bS hb)|(refine gL (some 17) Tryz.func150 #[.slice Ao4z qd.length co5z,.func (.func 151) #[] #[]] (h:=?_);(with_reducible refine (Zb2.calls _ _ qd false _ ?side1 ?side2 A5.o).mono ?_);(case side1=>exact Kd.Zn (Kd.Zci HO3z.o).2.2 pl);(case side2=>exact (Kd.Zci HO3z.o).2.1);rintro e w7z ⟨rfl,hb⟩;refine ⟨_,rfl,?_⟩;replace HO3z:=vbl HO3z hb;replace HB:=bS hb))
 first
  | have q_:=A5;have q_:Aside0 (_=some false):=A5
    go_loopg [0,4] k (fun kq v8z v9z w' => ∃ (x10z:ByteArray) (x11z:List Int),v8z=.string x10z/\Aside0 (Za4.l0 kq x10z x11z=some (r1,r2))/\Aside0 (kq<=k)/\Aside0 (Kd.R (Kd.int .u32) 85 w' w.heap.size (fun _=>True) v9z x11z)/\Aside0 (Below w.heap.size w w'))
    case atStart=>exact ⟨(a0),(([]:List Int)),pR,H',⟨Nat.le_refl _⟩,⟨pN⟩,⟨pB⟩⟩
    case round =>
     clear H'
     obtain ⟨x10z,x11z,rfl,HA,HK12z,HO_4,HB⟩:=hrel
     cases gk with
     | zero=>exact absurd HA.out (by simp [Za4.l0])
     | succ k1 =>
      have H:=HA.out
      clear HA
      simp only [Za4.l0] at H
      by_cases c13z:x10z.toList=([]:List UInt8)
      ·rw [if_pos c13z] at H
       have c14z:(x10z.toList == ([]:List UInt8))=true:=beq_iff_eq.mpr c13z
       have c15z:(x10z.toList != ([]:List UInt8))=false:=bne_eq_false_iff_eq.mpr c13z
       clear c13z
       simp only [Option.some.injEq,Prod.mk.injEq] at H
       obtain ⟨rfl,rfl⟩:=H
       go_wp2
       go_ret2
       exact ⟨_,pE,by refine rp ?_;exact HO_4.o,pB⟩
      ·rw [if_neg c13z] at H
       have c14z:(x10z.toList == ([]:List UInt8))=false:=beq_eq_false_iff_ne.mpr c13z
       have c15z:(x10z.toList != ([]:List UInt8))=true:=bne_iff_ne.mpr c13z
       obtain ⟨y16z,hy17z⟩:∃ y_:List Int,y_=(([1000000000]:List Int)):=⟨_,rfl⟩
       replace H:((Zad.f k1 x11z y16z).bind fun t18z=>(if 0<=(wrap64 ((Int.tmod (wrap64 ((x10z.size:Int) - 1)) 9)+1)) then (if (wrap64 ((Int.tmod (wrap64 ((x10z.size:Int) - 1)) 9)+1))<=(x10z.size:Int) then ((Zce.f k1 (x10z.extract 0 ((wrap64 ((Int.tmod (wrap64 ((x10z.size:Int) - 1)) 9)+1)):Int).toNat)).bind fun t19z=>((Zv.f k1 (([t19z]:List Int))).bind fun t20z=>((Zac.f k1 t18z t20z).bind fun t21z=>(Za4.l0 k1 (x10z.extract ((wrap64 ((Int.tmod (wrap64 ((x10z.size:Int) - 1)) 9)+1)):Int).toNat x10z.size) t21z)))) else (none)) else (none)))=some (r1,r2):=by have hy_:=hy17z;exact pH
       have Ny22z:=am hy17z
       clear hy17z
       obtain ⟨t18z,A23z,H⟩:=ob H
       obtain ⟨ji24z,hji25z⟩:∃ j_:Int,(wrap64 ((Int.tmod (wrap64 ((x10z.size:Int) - 1)) 9)+1))=j_:=⟨_,rfl⟩
       replace H:(if 0<=(ji24z) then (if (ji24z)<=(x10z.size:Int) then ((Zce.f k1 (x10z.extract 0 ((ji24z):Int).toNat)).bind fun t19z=>((Zv.f k1 (([t19z]:List Int))).bind fun t20z=>((Zac.f k1 t18z t20z).bind fun t21z=>(Za4.l0 k1 (x10z.extract ((ji24z):Int).toNat x10z.size) t21z)))) else (none)) else (none))=some (r1,r2):=by first|(rw [hji25z] at H;exact H)|(simp only [hji25z] at H ⊢;exact H)
       (try rw [hji25z] at A23z)
       have hji26z:(IntKind.i64.wrap ((Int.tmod (wrap64 ((x10z.size:Int) - 1)) 9)+1))=ji24z:=(Zcd _).trans hji25z
       by_cases c27z:0<=(ji24z)
       ·rw [if_pos c27z] at H
        have c28z:=eq_true c27z
        have c29z:decide (0<=(ji24z))=true:=decide_eq_true c27z
        clear c27z
        by_cases c30z:(ji24z)<=(x10z.size:Int)
        ·rw [if_pos c30z] at H
         have c31z:=eq_true c30z
         have c32z:decide ((ji24z)<=(x10z.size:Int))=true:=decide_eq_true c30z
         clear c30z
         obtain ⟨t19z,A33z,H⟩:=ob H
         obtain ⟨y34z,hy35z⟩:∃ y_:List Int,y_=(([t19z]:List Int)):=⟨_,rfl⟩
         replace H:((Zv.f k1 y34z).bind fun t20z=>((Zac.f k1 t18z t20z).bind fun t21z=>(Za4.l0 k1 (x10z.extract ((ji24z):Int).toNat x10z.size) t21z)))=some (r1,r2):=by have hy_:=hy35z;exact pH
         have Ny36z:=am hy35z
         clear hy35z
         obtain ⟨t20z,A37z,H⟩:=ob H
         obtain ⟨t21z,A38z,H⟩:=ob H
         have c39z:=eq_true (of_decide_eq_true pQ:0<=(ji24z))
         have c40z:=eq_true (of_decide_eq_true pQ:(ji24z)<=(x10z.size:Int))
         have H':=am H
         clear H
         try go_wp2
         replace HO_4:=am (Kd.Zc1 HO_4.o)
         replace HB:=am (Zav HB.o)
         refine start_ (n:=11) (S:=fun w'=>True) (ds:=[]) #[false,false,false,false,false,false,false,false,false,false,false] (by kernel_rfl) rfl rfl trivial (fun hHeld=>?_);refine Zb6 Za4.tab10 Za4.bits10 (fun HT_ HW_=>?_)
         generalize wr.drew=w41z at HO_4 HB hHeld ⊢
         refine pu 0 (some 25) #[true,false,false,false,false,false,false,false,false,false,false] (h:=?_)
         refine pu 3 (some 28) #[true,false,false,true,false,false,false,false,false,false,false] (h:=?_)
         refine pu 4 (some 29) #[true,false,false,true,true,false,false,false,false,false,false] (h:=?_)
         refine pu 5 (some 30) #[true,false,false,true,true,true,false,false,false,false,false] (h:=?_)
         refine one_ (i:=1) (N:=some 26) #[true,true,false,true,true,true,false,false,false,false,false] rfl rfl (Zbh HT_.out (by kernel_rfl)) (by decide) (fun K hK=>?_)
         refine Kd.Zig (Kd.int .u32) _ 85 ?hg (N:=26) ?hd (xs:=([1000000000]:List Int)) (inner:=[.int .u32 1000000000]) (ok:=fun _=>True) (okp:=fun _=>True) ?hr ?hp (fun _ hk=>hk) trivial (Below.refl _ _) (Nat.le_refl _) (by simp) ?_;(case hd=>rfl);(case hg=>rfl);(case hr=>first|(go_simp;done)|(go_simp;rfl));(case hp=>exact (Reps.one (show Kd.M (Kd.int .u32) _ _ _ 1000000000 [.int .u32 1000000000] from rfl) (Reps.none _ _)))
         intro v42z w43z ho44z hb hg_ hnew_
         clear hg_ hnew_
         (first|rw [<- Ny22z.out] at ho44z|(simp only [Int.reduceToNat] at ho44z;rw [<- Ny22z.out] at ho44z))
         have qa:=am (Kd.Zo (Kd.Zs ho44z (Kd.R_lt (Kd.Za HO_4.o pl))) (Zd pB))
         replace HO_4:=reR HO_4 ho44z hb
         replace HB:=bS hb
         clear hb ho44z
         obtain ⟨qe,qg,qm⟩:=Kd.Zj HO_4.o
         (first|subst qm|(injection qm with f1_ f2_ f3_;have f4_:=f1_.symm;have f5_:=f3_.symm;clear f1_ f2_ f3_;subst f4_;subst f5_))
         obtain ⟨qf,qh,qn⟩:=Kd.Zj qa.o
         (first|subst qn|(injection qn with f1_ f2_ f3_;have f4_:=f1_.symm;have f5_:=f3_.symm;clear f1_ f2_ f3_;subst f4_;subst f5_))
         refine hK.out _ _ trivial (fun hHeld=>?_)
         clear hK K
         refine norm_ (a':=?_) ?_ ?_
         rotate_left
         ·show Act.put _ (some 26) _=_
          exact pP
         refine one_ (i:=2) (N:=some 27) #[true,true,true,true,true,true,false,false,false,false,false] rfl rfl (Zbh HT_.out (by kernel_rfl)) (by decide) (fun K hK=>?_)
         refine goes_ Tryz.func129 (by kernel_rfl) rfl #[.slice qe x11z.length qg,.slice qf y16z.length qh] (by rfl) rfl rfl pA ?_
         with_reducible refine (Zad.calls k1 _ _ x11z _ _ y16z t18z _ ?side1 ?side2 ?side3 ?side4 A23z.o).mono ?_
         (case side1=>exact Kd.Zn (Kd.Zc HO_4.o).2.2 pl)
         (case side2=>exact (Kd.Zc HO_4.o).2.1)
         (case side3=>exact Kd.Zn (Kd.Zc qa.o).2.2 pl)
         (case side4=>exact (Kd.Zc qa.o).2.1)
         rintro e w52z ⟨v53z,rfl,ho2z,hb⟩
         refine ⟨_,rfl,?_⟩
         have qb:=am (Kd.Zo (Kd.Zs (Kd.Zs ho2z (Kd.R_lt (Kd.Za HO_4.o pl))) (Kd.R_lt (Kd.Za qa.o pl))) (Zd pB))
         replace HO_4:=reR HO_4 ho2z hb
         replace qa:=reR qa ho2z hb
         replace HB:=bS hb
         refine hK.out _ _ trivial (fun hHeld=>?_)
         clear hK K
         refine norm_ (a':=?_) ?_ ?_
         rotate_left
         ·show Act.put _ (some 27) _=_
          exact pP
         refine one_ (i:=6) (N:=some 31) #[true,true,true,true,true,true,true,false,false,false,false] rfl rfl (Zbh HT_.out (by kernel_rfl)) (by decide) (fun K hK=>?_)
         refine goes_ Tryz.func152 (by kernel_rfl) rfl #[.string (x10z.extract 0 ((ji24z):Int).toNat)] (by rfl) rfl rfl (by (try simp only [List.map_toArray,List.map_cons,List.map_nil]);first|done|(simp only [hji25z];rfl)|rfl|(simp only [List.length_drop,List.length_take];rfl)) ?_
         with_reducible refine (Zce.calls k1 (x10z.extract 0 ((ji24z):Int).toNat) t19z _ A33z.o).mono ?_
         rintro e w55z ⟨rfl,hb⟩
         refine ⟨_,rfl,?_⟩
         replace HO_4:=rbl HO_4 hb
         replace qa:=rbl qa hb
         replace qb:=rbl qb hb
         replace HB:=bS hb
         refine hK.out _ _ trivial (fun hHeld=>?_)
         clear hK K
         refine norm_ (a':=?_) ?_ ?_
         rotate_left
         ·show Act.put _ (some 31) _=_
          exact pP
         refine one_ (i:=7) (N:=some 32) #[true,true,true,true,true,true,true,true,false,false,false] rfl rfl (Zbh HT_.out (by kernel_rfl)) (by decide) (fun K hK=>?_)
         refine Kd.Zig (Kd.int .u32) _ 85 ?hg (N:=32) ?hd (xs:=([t19z]:List Int)) (inner:=[.int .u32 t19z]) (ok:=fun _=>True) (okp:=fun _=>True) ?hr ?hp (fun _ hk=>hk) trivial (Below.refl _ _) (Nat.le_refl _) (by simp) ?_;(case hd=>rfl);(case hg=>rfl);(case hr=>first|(go_simp;done)|(go_simp;rfl));(case hp=>exact (Reps.one (show Kd.M (Kd.int .u32) _ _ _ t19z [.int .u32 t19z] from rfl) (Reps.none _ _)))
         intro v56z w57z ho58z hb hg_ hnew_
         clear hg_ hnew_
         (first|rw [<- Ny36z.out] at ho58z|(simp only [Int.reduceToNat] at ho58z;rw [<- Ny36z.out] at ho58z))
         have qj:=am (Kd.Zo (Kd.Zs (Kd.Zs (Kd.Zs ho58z (Kd.R_lt (Kd.Za HO_4.o pl))) (Kd.R_lt (Kd.Za qa.o pl))) (Kd.R_lt (Kd.Za qb.o pl))) (Zd pB))
         replace HO_4:=reR HO_4 ho58z hb
         replace qa:=reR qa ho58z hb
         replace qb:=reR qb ho58z hb
         replace HB:=bS hb
         clear hb ho58z
         obtain ⟨qi,qk,qo⟩:=Kd.Zj qj.o
         (first|subst qo|(injection qo with f1_ f2_ f3_;have f4_:=f1_.symm;have f5_:=f3_.symm;clear f1_ f2_ f3_;subst f4_;subst f5_))
         refine hK.out _ _ trivial (fun hHeld=>?_)
         clear hK K
         refine norm_ (a':=?_) ?_ ?_
         rotate_left
         ·show Act.put _ (some 32) _=_
          exact pP
         refine one_ (i:=8) (N:=some 33) #[true,true,true,true,true,true,true,true,true,false,false] rfl rfl (Zbh HT_.out (by kernel_rfl)) (by decide) (fun K hK=>?_)
         refine goes_ Tryz.func132 (by kernel_rfl) rfl #[.slice qi y34z.length qk] (by rfl) rfl rfl pA ?_
         with_reducible refine (Zv.calls k1 (fun k_=>some k_=(.slice qi y34z.length qk:Value).ownBlock) (.slice qi y34z.length qk) y34z t20z w _ ?side1 ?side2 A37z.o).mono ?_
         (case side1=>exact pB)
         (case side2=>exact Kd.Zbj rfl qj.o)
         rintro e w63z ⟨v64z,rfl,ho2z,hb,hkp⟩
         refine ⟨_,rfl,?_⟩
         have qc:=am (Kd.Zh (ok':=fun k_=>some k_ ≠ (.slice qe x11z.length qg:Value).ownBlock/\some k_ ≠ (.slice qf y16z.length qh:Value).ownBlock/\some k_ ≠ (v53z:Value).ownBlock) ho2z (fun k_ hk_=>⟨Or.elim hk_ (fun hs_=>fun e_=>(((HO_4.o).1 k_ e_.symm).2) hs_) (fun hn_=>(Kd.fresh' (Kd.R_lt (Kd.Za HO_4.o pl)) k_ hn_)),Or.elim hk_ (fun hs_=>fun e_=>(((qa.o).1 k_ e_.symm).2) hs_) (fun hn_=>(Kd.fresh' (Kd.R_lt (Kd.Za qa.o pl)) k_ hn_)),Or.elim hk_ (fun hs_=>fun e_=>(((qb.o).1 k_ e_.symm).2) hs_) (fun hn_=>(Kd.fresh' (Kd.R_lt (Kd.Za qb.o pl)) k_ hn_))⟩))
         replace HO_4:=am (Kd.Zh (ok':=fun k_=>some k_ ≠ (.slice qf y16z.length qh:Value).ownBlock/\some k_ ≠ (v53z:Value).ownBlock/\some k_ ≠ (v64z:Value).ownBlock) (Kd.Zcb (HO_4.o) hkp (fun k_ hk_ hs_=>(hk_.2) hs_)) (fun k_ hk_=>⟨hk_.1.1.1.2,hk_.1.1.2,fun e_=>Or.elim (ho2z.1 k_ e_.symm) (fun hs_=>hk_.2.1 hs_) (fun hn_=>Nat.not_le.2 hk_.2.2 hn_)⟩))
         replace qa:=am (Kd.Zh (ok':=fun k_=>some k_ ≠ (.slice qe x11z.length qg:Value).ownBlock/\some k_ ≠ (v53z:Value).ownBlock/\some k_ ≠ (v64z:Value).ownBlock) (Kd.Zcb (qa.o) hkp (fun k_ hk_ hs_=>(hk_.2) hs_)) (fun k_ hk_=>⟨hk_.1.1.1.2,hk_.1.1.2,fun e_=>Or.elim (ho2z.1 k_ e_.symm) (fun hs_=>hk_.2.1 hs_) (fun hn_=>Nat.not_le.2 hk_.2.2 hn_)⟩))
         replace qb:=am (Kd.Zh (ok':=fun k_=>some k_ ≠ (.slice qe x11z.length qg:Value).ownBlock/\some k_ ≠ (.slice qf y16z.length qh:Value).ownBlock/\some k_ ≠ (v64z:Value).ownBlock) (Kd.Zcb (qb.o) hkp (fun k_ hk_ hs_=>(hk_.2) hs_)) (fun k_ hk_=>⟨hk_.1.1.1.2,hk_.1.1.2,fun e_=>Or.elim (ho2z.1 k_ e_.symm) (fun hs_=>hk_.2.1 hs_) (fun hn_=>Nat.not_le.2 hk_.2.2 hn_)⟩))
         replace HB:=am hb
         clear qj
         obtain ⟨qr,qu,qp⟩:=Kd.Zj qb.o
         (first|subst qp|(injection qp with f1_ f2_ f3_;have f4_:=f1_.symm;have f5_:=f3_.symm;clear f1_ f2_ f3_;subst f4_;subst f5_))
         obtain ⟨qs,qv,qq⟩:=Kd.Zj qc.o
         (first|subst qq|(injection qq with f1_ f2_ f3_;have f4_:=f1_.symm;have f5_:=f3_.symm;clear f1_ f2_ f3_;subst f4_;subst f5_))
         refine hK.out _ _ trivial (fun hHeld=>?_)
         clear hK K
         refine norm_ (a':=?_) ?_ ?_
         rotate_left
         ·show Act.put _ (some 33) _=_
          exact pP
         refine one_ (i:=9) (N:=some 34) #[true,true,true,true,true,true,true,true,true,true,false] rfl rfl (Zbh HT_.out (by kernel_rfl)) (by decide) (fun K hK=>?_)
         refine goes_ Tryz.func131 (by kernel_rfl) rfl #[.slice qr t18z.length qu,.slice qs t20z.length qv] (by rfl) rfl rfl pA ?_
         with_reducible refine (Zac.calls k1 _ _ t18z _ _ t20z t21z _ ?side1 ?side2 ?side3 ?side4 A38z.o).mono ?_
         (case side1=>exact Kd.Zn (Kd.Zc qb.o).2.2 pl)
         (case side2=>exact (Kd.Zc qb.o).2.1)
         (case side3=>exact Kd.Zn (Kd.Zc qc.o).2.2 pl)
         (case side4=>exact (Kd.Zc qc.o).2.1)
         rintro e w72z ⟨v73z,rfl,ho2z,hb⟩
         refine ⟨_,rfl,?_⟩
         have qt:=am (Kd.Zo (Kd.Zs (Kd.Zs (Kd.Zs (Kd.Zs ho2z (Kd.R_lt (Kd.Za HO_4.o pl))) (Kd.R_lt (Kd.Za qa.o pl))) (Kd.R_lt (Kd.Za qb.o pl))) (Kd.R_lt (Kd.Za qc.o pl))) (Zd pB))
         replace HO_4:=reR HO_4 ho2z hb
         replace qa:=reR qa ho2z hb
         replace qb:=reR qb ho2z hb
         replace qc:=reR qc ho2z hb
         replace HB:=bS hb
         refine hK.out _ _ trivial (fun hHeld=>?_)
         clear hK K
         refine norm_ (a':=?_) ?_ ?_
         rotate_left
         ·show Act.put _ (some 34) _=_
          exact pP
         refine pu 10 (some 4) #[true,true,true,true,true,true,true,true,true,true,true] (h:=?_)
         refine done_ (Zde HT_.out (by kernel_rfl)) ?_
         try go_wp2
         go_roundg k1
         case measure=>have := HK12z.out;omega
         case rel=>exact ⟨(x10z.extract ((ji24z):Int).toNat x10z.size),(t21z),(by first|rfl|(simp;done)|(simp only [<- hji25z] <;> (first|rfl|simp))|(simp [*];done)),(by first|exact H'|(have H_:=H'.out;simp only [<- hji25z] at H_;exact ⟨H_⟩)|(refine ⟨?_⟩;have H_:=H'.out;simp only [<- hji25z] at H_ ⊢;exact H_)),⟨by have := HK12z.out;omega⟩,⟨by refine rp ?_;exact Kd.Zh qt.o (fun _ hk=>trivial)⟩,⟨pB⟩⟩
        ·rw [if_neg c30z] at H
         exact absurd H (by simp)
       ·rw [if_neg c27z] at H
        exact absurd H (by simp)
  | go_ret2
    exact ⟨_,pE,pN,pB⟩):P:=h
theorem Za4.calls (k:Nat) (a0:ByteArray) (r1:List Int) (r2:Int) (w:World) (h:Za4.f k a0=some (r1,r2)) :
  Calls Tryz.prog 116 #[.string a0] w fun e w' => ∃ v0_:Value,e=.returned (.tuple #[v0_,.int .i64 r2])/\Kd.R (Kd.int .u32) 85 w' w.heap.size (fun _=>True) v0_ r1/\Below w.heap.size w w':=by
 have HB:=am (Below.refl w.heap.size w)
 have H:(if (a0.size:Int)=0 then (some (([]:List Int),8)) else (if (a0.size:Int) > 2400 then (some (([]:List Int),5)) else ((Zcc.f a0).bind fun qd=>((Zb2.f qd).bind fun ql=>(if ql=true then (some (([]:List Int),32)) else (Za4.l0 k a0 ([]:List Int)))))))=some (r1,r2):=h
 clear h
 by_cases c2:(a0.size:Int)=0
 ·rw [if_pos c2] at H
  have c2b0:((a0.size:Int) == 0)=true:=beq_iff_eq.mpr c2
  have c2b1:((a0.size:Int) != 0)=false:=bne_eq_false_iff_eq.mpr c2
  clear c2
  simp only [Option.some.injEq,Prod.mk.injEq] at H
  obtain ⟨rfl,rfl⟩:=H
  exact Za4.leaf
 ·rw [if_neg c2] at H
  have c2b0:((a0.size:Int) == 0)=false:=beq_eq_false_iff_ne.mpr c2
  have c2b1:((a0.size:Int) != 0)=true:=bne_iff_ne.mpr c2
  by_cases c3:(a0.size:Int) > 2400
  ·rw [if_pos c3] at H
   have c3b0:decide (2400 < (a0.size:Int))=true:=decide_eq_true c3
   have c3b1:decide (2400 < a0.size)=true:=decide_eq_true (by omega)
   clear c3
   simp only [Option.some.injEq,Prod.mk.injEq] at H
   obtain ⟨rfl,rfl⟩:=H
   exact Za4.leaf
  ·rw [if_neg c3] at H
   have c3b0:decide (2400 < (a0.size:Int))=false:=decide_eq_false c3
   have c3b1:decide (2400 < a0.size)=false:=decide_eq_false (by omega)
   clear c3
   obtain ⟨qd,A4,H⟩:=ob H
   obtain ⟨ql,A5,H⟩:=ob H
   by_cases c6:ql=true
   ·subst c6
    rw [if_pos rfl] at H
    simp only [Option.some.injEq,Prod.mk.injEq] at H
    obtain ⟨rfl,rfl⟩:=H
    exact Za4.leaf
   ·replace c6:=Bool.eq_false_iff.mpr c6
    subst c6
    rw [if_neg (show ¬ (false=true) by decide)] at H
    have H':=am H
    clear H
    exact Za4.leaf
end YtjbjkmccfocikaaGreatDoor.B
end
section
namespace YtjbjkmccfocikaaGreatDoor.B
open Go.RowKit Go.Shelf YtjbjkmccfocikaaGreatDoorW.PrintWords
def Zb5.f (s t:ByteArray):Option ByteArray:=if t=⟨#[48]⟩/\s.size<=9223372036854775807 then some ⟨(Lib.trimRightB s.data.toList 48).toArray⟩ else none
theorem Zb5.calls (a0 a1:ByteArray) (r:ByteArray) (w:World) (h:Zb5.f a0 a1=some r) :
  Calls Tryz.prog 167 #[.string a0,.string a1] w fun e w'=>e=.returned (.string r)/\Below w.heap.size w w':=by
 unfold Zb5.f at h
 split at h
 ·rename_i hh
  obtain ⟨rfl,hs⟩:=hh
  obtain rfl:=Option.some.inj h
  exact (Tryz.strings_TrimRight_one a0 48 (by decide) w hs).mono fun e w' ⟨he,hw⟩=>⟨he,by subst hw;exact Below.refl _ _⟩
 ·cases h
end YtjbjkmccfocikaaGreatDoor.B
end
section
namespace YtjbjkmccfocikaaGreatDoor.B
open Go.RowKit YtjbjkmccfocikaaGreatDoorW.PrintWords YtjbjkmccfocikaaGreatDoorW.PrintLast YtjbjkmccfocikaaGreatDoorW.PrintMore
attribute [local go_sem] Zb7 Zb9 Zcr Zcs Zbp Zbq Zb8 Zca
def Zby.f (k:Nat) (a0_0:Bool) (l0_1:List Int) (a0_2:Int):Option (Bool × List Int × Int):=(Zat.f k l0_1).bind fun qg=>((Zey.f qg.1 qg.2).bind fun qb=>((Zb5.f qb (⟨#[48]⟩:ByteArray)).bind fun qc=>(if (qc.size:Int)=(qb.size:Int) then (some (a0_0,l0_1,a0_2)) else ((Za4.f k qc).bind fun qh=>((Zfo.f qh.1 qh.2).bind fun qf=>(some (a0_0,qf,wrap64 (a0_2+(wrap64 ((qb.size:Int) - (qc.size:Int)))))))))))
theorem Zby.leaf {P:Prop} (h:P:=by
 obtain ⟨Ao0z,co1z,eo2z⟩:=Kd.Zj HO0_1.o
 subst eo2z
 go_enter Tryz.func140,Tryz.ntmps140
 go_wp2_with (first|((with_reducible refine gd 1 ?_);refine bx 1 #[.bool a0_0,.slice Ao0z l0_1.length co1z,.int .i64 a0_2] 106 (h:=?_);intro gb3z hg w4z hbox hb;have BK5z:=am hbox;have GW6z:=am ((by rw [hg];exact (by first|exact HK.out.1|exact (show Kept w _ (fun k_=>P0_1_ k_) from by repeat (first|(with_reducible first|exact HK.out|apply Kept.alloc|apply Kept.drewN|apply Kept.drew)|exact HK.out)).1):w.heap.size<=gb3z));have GE7z:=am ((gw hg pB:w0.heap.size<=gb3z));replace HO0_1:=rbl HO0_1 hb;replace HK:=am (Kept.below (S:=(fun k_=>P0_1_ k_)) (by repeat (first|(with_reducible first|exact HK.out|apply Kept.alloc|apply Kept.drewN|apply Kept.drew)|exact HK.out)) hb);replace HB:=bS hb;clear hb hbox hg)|((with_reducible refine gd 2 ?_);refine bx 2 #[.bool false,.slice none 0 0,.int .i64 0] 106 (h:=?_);intro gb8z hg w9z hbox hb;have qa:=am hbox;have qd:=am ((by rw [hg];exact (by first|exact HK.out.1|exact (show Kept w _ (fun k_=>P0_1_ k_) from by repeat (first|(with_reducible first|exact HK.out|apply Kept.alloc|apply Kept.drewN|apply Kept.drew|refine Kept.setCell ?_ (.inr GW6z.o) _)|exact HK.out)).1):w.heap.size<=gb8z));have qx:=am ((gw hg pB:w0.heap.size<=gb8z));have qs:=nL hg BK5z;have ql:=nG hg BK5z;replace HO0_1:=rbl HO0_1 hb;replace BK5z:=bb BK5z hb;replace HK:=am (Kept.below (S:=(fun k_=>P0_1_ k_)) (by repeat (first|(with_reducible first|exact HK.out|apply Kept.alloc|apply Kept.drewN|apply Kept.drew|refine Kept.setCell ?_ (.inr GW6z.o) _)|exact HK.out)) hb);replace HB:=bS hb;clear hb hbox hg;have qv:=qs.o;have qw:=ql.o;obtain ⟨_,_,_,_,_,_⟩:=cEc BK5z.o)|(refine gL (some 8) Tryz.func112 #[.slice Ao0z l0_1.length co1z] (h:=?_);(with_reducible refine (Zat.calls k (fun k_=>some k_=(.slice Ao0z l0_1.length co1z:Value).ownBlock) _ _ l0_1 qp qq _ ?side1 A2.o).mono ?_);(case side1=>exact Kd.R_V (Kd.Zbj rfl (Kd.Zaa (Kd.Zaa (HO0_1.o) BK5z.o (by decide)) qa.o (by decide))));rintro e w23z ⟨rfl,hb⟩;refine ⟨_,rfl,?_⟩;replace HO0_1:=rbl HO0_1 hb;replace BK5z:=bb BK5z hb;replace qa:=bb qa hb;replace HK:=am (Kept.below (S:=(fun k_=>P0_1_ k_)) (by repeat (first|(with_reducible first|exact HK.out|apply Kept.alloc|apply Kept.drewN|apply Kept.drew|refine Kept.setCell ?_ (.inr GW6z.o) _|refine Kept.setCell ?_ (.inr qd.o) _)|exact HK.out)) hb);replace HB:=bS hb)|(refine gL (some 11) Tryz.func111 #[.string qp,.int .i64 qq] (h:=?_);(with_reducible refine (Zey.calls qp qq qb _ A3.o).mono ?_);rintro e w' ⟨rfl,⟨nd,rfl⟩⟩;refine ⟨_,rfl,?_⟩;(try (rw [Zgr w23z];generalize hq_:World.drewN w23z _=w23z;replace HO0_1:Aside0 (Kd.R (Kd.int .u32) 85 w23z w0.heap.size (fun k_=>(P0_1_ k_\/w.heap.size<=k_)) (.slice Ao0z l0_1.length co1z) l0_1):=⟨by rw [<- hq_];exact (Kd.Za HO0_1.o pl)⟩;replace BK5z:Aside0 (w23z.heap[gb3z]? = some (.cells #[.bool a0_0,.slice Ao0z l0_1.length co1z,.int .i64 a0_2] 106 (0,0))):=⟨by rw [<- hq_];exact (Zb BK5z.o pl)⟩;replace qa:Aside0 (w23z.heap[gb8z]? = some (.cells #[.bool false,.slice none 0 0,.int .i64 0] 106 (0,0))):=⟨by rw [<- hq_];exact (Zb qa.o pl)⟩;replace HK:Aside0 (Kept w w23z (fun k_=>P0_1_ k_)):=⟨by rw [<- hq_];exact (by repeat (first|(with_reducible first|exact HK.out|apply Kept.alloc|apply Kept.drewN|apply Kept.drew|refine Kept.setCell ?_ (.inr GW6z.o) _|refine Kept.setCell ?_ (.inr qd.o) _)|exact HK.out))⟩;replace HB:Aside0 (Below w0.heap.size w0 w23z):=⟨by rw [<- hq_];exact pB⟩;clear hq_)))|((have q_:=A16;clear q_);refine gL (some 13) Tryz.func167 #[.string qb,.string (⟨#[48]⟩:ByteArray)] (h:=?_);(with_reducible refine (Zb5.calls qb (⟨#[48]⟩:ByteArray) qc _ A4.o).mono ?_);rintro e w24z ⟨rfl,hb⟩;refine ⟨_,rfl,?_⟩;replace HO0_1:=rbl HO0_1 hb;replace BK5z:=bb BK5z hb;replace qa:=bb qa hb;replace HK:=am (Kept.below (S:=(fun k_=>P0_1_ k_)) (by repeat (first|(with_reducible first|exact HK.out|apply Kept.alloc|apply Kept.drewN|apply Kept.drew|refine Kept.setCell ?_ (.inr GW6z.o) _|refine Kept.setCell ?_ (.inr qd.o) _)|exact HK.out)) hb);replace HB:=bS hb)|(refine gL (some 21) Tryz.func116 #[.string qc] (h:=?_);(with_reducible refine (Za4.calls k qc qn qr _ A15.o).mono ?_);rintro e w25z ⟨v26z,rfl,ho27z,hb⟩;refine ⟨_,rfl,?_⟩;have qe:=am (Kd.Zo (Kd.Zs (Kd.Zex (M:=fun k_=>(P0_1_ k_\/w.heap.size<=k_)) ho27z (by first|exact HK.out.1|exact (show Kept w _ (fun k_=>P0_1_ k_) from by repeat (first|(with_reducible first|exact HK.out|apply Kept.alloc|apply Kept.drewN|apply Kept.drew|refine Kept.setCell ?_ (.inr GW6z.o) _|refine Kept.setCell ?_ (.inr qd.o) _)|exact HK.out)).1) (fun k_ h_=>.inr h_)) (Kd.R_lt (Kd.Za HO0_1.o pl))) (Zd pB));replace HO0_1:=reR HO0_1 ho27z hb;replace BK5z:=bb BK5z hb;replace qa:=bb qa hb;replace HK:=am (Kept.below (S:=(fun k_=>P0_1_ k_)) (by repeat (first|(with_reducible first|exact HK.out|apply Kept.alloc|apply Kept.drewN|apply Kept.drew|refine Kept.setCell ?_ (.inr GW6z.o) _|refine Kept.setCell ?_ (.inr qd.o) _)|exact HK.out)) hb);replace HB:=bS hb;obtain ⟨qk,qm,qt⟩:=Kd.Zj qe.o;subst qt)|(refine gL (some 24) Tryz.func105 #[.slice qk qn.length qm,.int .i64 qr] (h:=?_);(with_reducible refine (Zfo.calls (fun k_=>some k_=(.slice qk qn.length qm:Value).ownBlock) (.slice qk qn.length qm) qn qr qf w0 _ ?side1 ?side2 A16.o).mono ?_);(case side1=>exact pB);(case side2=>exact Kd.Zbj rfl qe.o);rintro e w32z ⟨v33z,rfl,ho27z,hb,hkp⟩;refine ⟨_,rfl,?_⟩;have qo:=am (Kd.Zh (ok':=fun k_=>(P0_1_ k_\/w.heap.size<=k_)/\some k_ ≠ (.slice Ao0z l0_1.length co1z:Value).ownBlock) ho27z (fun k_ hk_=>⟨Or.elim hk_ (fun hs_=>(qe.o.1 k_ (hs_).symm).1.1) (fun hn_=>(.inr (Nat.le_trans (by first|exact HK.out.1|exact (show Kept w _ (fun k_=>P0_1_ k_) from by repeat (first|(with_reducible first|exact HK.out|apply Kept.alloc|apply Kept.drewN|apply Kept.drew|refine Kept.setCell ?_ (.inr GW6z.o) _|refine Kept.setCell ?_ (.inr qd.o) _)|exact HK.out)).1) hn_))),Or.elim hk_ (fun hs_=>fun e_=>(((HO0_1.o).1 k_ e_.symm).2) hs_) (fun hn_=>(Kd.fresh' (Kd.R_lt (Kd.Za HO0_1.o pl)) k_ hn_))⟩));replace HO0_1:=am (Kd.Zh (ok':=fun k_=>(P0_1_ k_\/w.heap.size<=k_)/\some k_ ≠ (v33z:Value).ownBlock) (Kd.Zcb (HO0_1.o) hkp (fun k_ hk_ hs_=>(hk_.2) hs_)) (fun k_ hk_=>⟨hk_.1.1,fun e_=>Or.elim (ho27z.1 k_ e_.symm) (fun hs_=>hk_.2.1 hs_) (fun hn_=>Nat.not_le.2 hk_.2.2 hn_)⟩));replace BK5z:=am (Za0 (Zb BK5z.o pl) hkp (fun e_=>Kd.R_ne qe.o BK5z.o (by decide) e_));replace qa:=am (Za0 (Zb qa.o pl) hkp (fun e_=>Kd.R_ne qe.o qa.o (by decide) e_));replace HK:=am (Kept.then_ (S:=(fun k_=>P0_1_ k_)) (by repeat (first|(with_reducible first|exact HK.out|apply Kept.alloc|apply Kept.drewN|apply Kept.drew|refine Kept.setCell ?_ (.inr GW6z.o) _|refine Kept.setCell ?_ (.inr qd.o) _)|exact HK.out)) hkp (fun k_ hs_=>(fun e_=>(qe.o.1 k_ e_.symm).1.1) hs_));replace HB:=am hb;clear qe;obtain ⟨qi,qj,qu⟩:=Kd.Zj qo.o;subst qu;obtain ⟨_,_,_,_,_,_⟩:=cEc BK5z.o;obtain ⟨_,_,_,_,_,_⟩:=cEc qa.o)|((have q_:(qc.size == qb.size)=true:=c5b2;clear q_);refine gL (some 13) Tryz.func167 #[.string qb,.string (⟨#[48]⟩:ByteArray)] (h:=?_);(with_reducible refine (Zb5.calls qb (⟨#[48]⟩:ByteArray) qc _ A4.o).mono ?_);rintro e w24z ⟨rfl,hb⟩;refine ⟨_,rfl,?_⟩;replace HO0_1:=rbl HO0_1 hb;replace BK5z:=bb BK5z hb;replace qa:=bb qa hb;replace HK:=am (Kept.below (S:=(fun k_=>P0_1_ k_)) (by repeat (first|(with_reducible first|exact HK.out|apply Kept.alloc|apply Kept.drewN|apply Kept.drew|refine Kept.setCell ?_ (.inr GW6z.o) _|refine Kept.setCell ?_ (.inr qd.o) _)|exact HK.out)) hb);replace HB:=bS hb;obtain ⟨_,_,_,_,_,_⟩:=cEc BK5z.o;obtain ⟨_,_,_,_,_,_⟩:=cEc qa.o))
 first
  | have q_:=A16
    refine bodyPost_ret (results_cell_row rfl _ _ gb8z 106 #[.bool a0_0,.slice qi qf.length qj,.int .i64 (wrap64 (a0_2+(wrap64 ((qb.size:Int) - (qc.size:Int)))))] (0,0) _ rfl (by refine bp ?_;refine Za2 (cs:=#[.bool a0_0,.slice qi qf.length qj,.int .i64 0]) ?_ 2 _ rfl;refine bp ?_;refine Za2 (cs:=#[.bool a0_0,.slice none 0 0,.int .i64 0]) ?_ 1 _ rfl;refine bp ?_;refine Za2 (cs:=#[.bool false,.slice none 0 0,.int .i64 0]) ?_ 0 _ rfl;refine bq ?_ ql;refine bq ?_ ql;exact bp qa.o) Tryz.underlying106 rfl (by kernel_rfl)) rfl ?_
    exact ⟨_,pE,by refine rp ?_;exact Kd.Zh (Kd.Zr (p:=⟨gb8z,2,none⟩) (Kd.Zr (p:=⟨gb8z,1,none⟩) (Kd.Zr (p:=⟨gb8z,0,none⟩) (Kd.Zr (p:=⟨gb3z,2,none⟩) (Kd.Zr (p:=⟨gb3z,1,none⟩) (Kd.Zaa (Kd.Zaa qo.o BK5z.o (by decide)) qa.o (by decide)) (fun _ hk=>hk.1.2) (.slice qi qf.length qj)) (fun _ hk=>hk.1.2) (.int .i64 (wrap64 (a0_2+(wrap64 ((qb.size:Int) - (qc.size:Int))))))) (fun _ hk=>hk.2) (.bool a0_0)) (fun _ hk=>hk.2) (.slice qi qf.length qj)) (fun _ hk=>hk.2) (.int .i64 (wrap64 (a0_2+(wrap64 ((qb.size:Int) - (qc.size:Int))))))) (fun _ hk=>hk.1.1.1),pB,by repeat (first|(with_reducible first|exact HK.out|apply Kept.alloc|apply Kept.drewN|apply Kept.drew|refine Kept.setCell ?_ (.inr GW6z.o) _|refine Kept.setCell ?_ (.inr qd.o) _)|exact HK.out)⟩
  | refine bodyPost_ret (results_cell_row rfl _ _ gb8z 106 #[.bool a0_0,.slice Ao0z l0_1.length co1z,.int .i64 a0_2] (0,0) _ rfl (by exact p3 qa) Tryz.underlying106 rfl (by kernel_rfl)) rfl ?_
    exact ⟨_,pE,by refine rp ?_;exact Kd.Zh (Kd.Zr (p:=⟨gb8z,2,none⟩) (Kd.Zr (p:=⟨gb8z,1,none⟩) (Kd.Zr (p:=⟨gb8z,0,none⟩) (Kd.Zaa HO0_1.o qa.o (by decide)) (fun _ hk=>hk.2) (.bool a0_0)) (fun _ hk=>hk.2) (.slice Ao0z l0_1.length co1z)) (fun _ hk=>hk.2) (.int .i64 a0_2)) (fun _ hk=>hk.1),pB,by repeat (first|(with_reducible first|exact HK.out|apply Kept.alloc|apply Kept.drewN|apply Kept.drew|refine Kept.setCell ?_ (.inr GW6z.o) _|refine Kept.setCell ?_ (.inr qd.o) _)|exact HK.out)⟩):P:=h
theorem Zby.calls (k:Nat) (a0_0:Bool) (P0_1_:Nat->Prop) (u9000_:Value) (l0_1:List Int) (a0_2:Int) (r1:Bool) (r2:List Int) (r3:Int) (w0 w:World) (hB:Below w0.heap.size w0 w) (ho0_1:Kd.R (Kd.int .u32) 85 w w0.heap.size P0_1_ u9000_ l0_1) (h:Zby.f k a0_0 l0_1 a0_2=some (r1,r2,r3)) :
  Calls Tryz.prog 140 #[.agg #[.bool a0_0,u9000_,.int .i64 a0_2]] w fun e w' => ∃ v1_:Value,e=.returned (.agg #[.bool r1,v1_,.int .i64 r3])/\Kd.R (Kd.int .u32) 85 w' w0.heap.size (fun k_=>(P0_1_ k_\/w.heap.size<=k_)) v1_ r2/\Below w0.heap.size w0 w'/\Kept w w' (fun k_=>P0_1_ k_):=by
 have qy:=Tryz.underlying106
 have HO0_1:=am (show Kd.R (Kd.int .u32) 85 w w0.heap.size (fun k_=>(P0_1_ k_\/w.heap.size<=k_)) u9000_ l0_1 from Kd.Zh ho0_1 (fun k_ hk=>(.inl hk)))
 have HK:=am (Kept.refl w (fun k_=>P0_1_ k_))
 have HW0:=am hB.size
 have HB:=am hB
 clear hB
 have H:((Zat.f k l0_1).bind fun qg=>((Zey.f qg.1 qg.2).bind fun qb=>((Zb5.f qb (⟨#[48]⟩:ByteArray)).bind fun qc=>(if (qc.size:Int)=(qb.size:Int) then (some (a0_0,l0_1,a0_2)) else ((Za4.f k qc).bind fun qh=>((Zfo.f qh.1 qh.2).bind fun qf=>(some (a0_0,qf,wrap64 (a0_2+(wrap64 ((qb.size:Int) - (qc.size:Int))))))))))))=some (r1,r2,r3):=h
 clear h
 obtain ⟨⟨qp,qq⟩,A2,H⟩:=ob H;(try dsimp only at H)
 obtain ⟨qb,A3,H⟩:=ob H
 obtain ⟨qc,A4,H⟩:=ob H
 by_cases c5:(qc.size:Int)=(qb.size:Int)
 ·rw [if_pos c5] at H
  have c5b0:((qc.size:Int) == (qb.size:Int))=true:=beq_iff_eq.mpr c5
  have c5b1:((qc.size:Int) != (qb.size:Int))=false:=bne_eq_false_iff_eq.mpr c5
  have c5b2:(qc.size == qb.size)=true:=by first|simpa using c5|(simp at c5 ⊢;omega)
  clear c5
  simp only [Option.some.injEq,Prod.mk.injEq] at H
  obtain ⟨rfl,rfl,rfl⟩:=H
  exact Zby.leaf
 ·rw [if_neg c5] at H
  have c5b0:((qc.size:Int) == (qb.size:Int))=false:=beq_eq_false_iff_ne.mpr c5
  have c5b1:((qc.size:Int) != (qb.size:Int))=true:=bne_iff_ne.mpr c5
  have c5b2:(qc.size == qb.size)=false:=by first|simpa using c5|(simp at c5 ⊢;omega)
  obtain ⟨⟨qn,qr⟩,A15,H⟩:=ob H;(try dsimp only at H)
  obtain ⟨qf,A16,H⟩:=ob H
  simp only [Option.some.injEq,Prod.mk.injEq] at H
  obtain ⟨rfl,rfl,rfl⟩:=H
  exact Zby.leaf
def Zc3.f (k:Nat) (a0_0:Bool) (l0_1:List Int) (a0_2:Int):Option (Bool × List Int × Int × Int):=(Zcl.f a0_0 l0_1 a0_2).bind fun ql=>(if ql=true then (some (false,([]:List Int),0,0)) else ((Zby.f k a0_0 l0_1 a0_2).bind fun qb=>((Zcv.f k qb.2.1).bind fun qi=>(if qi > 300 then (some (false,([]:List Int),0,51)) else (if qb.2.2 < (-1000) then (some (false,([]:List Int),0,52)) else (if qb.2.2 > 1000 then (some (false,([]:List Int),0,52)) else (some (qb.1,qb.2.1,qb.2.2,0))))))))
theorem Zc3.leaf {P:Prop} (h:P:=by
 obtain ⟨Ao0z,co1z,eo2z⟩:=Kd.Zj HO0_1.o
 subst eo2z
 go_enter Tryz.func100,Tryz.ntmps100
 go_wp2_with (first|((with_reducible refine gd 1 ?_);refine bx 1 #[.bool a0_0,.slice Ao0z l0_1.length co1z,.int .i64 a0_2] 106 (h:=?_);intro gb3z hg w4z hbox hb;have BK5z:=am hbox;have GW6z:=am ((by rw [hg];exact (by first|exact HK.out.1|exact (show Kept w _ (fun k_=>P0_1_ k_) from by repeat (first|(with_reducible first|exact HK.out|apply Kept.alloc|apply Kept.drewN|apply Kept.drew)|exact HK.out)).1):w.heap.size<=gb3z));have GE7z:=am ((gw hg pB:w0.heap.size<=gb3z));replace HO0_1:=rbl HO0_1 hb;replace HK:=am (Kept.below (S:=(fun k_=>P0_1_ k_)) (by repeat (first|(with_reducible first|exact HK.out|apply Kept.alloc|apply Kept.drewN|apply Kept.drew)|exact HK.out)) hb);replace HB:=bS hb;clear hb hbox hg)|((with_reducible refine gd 2 ?_);refine bx 2 #[.bool false,.slice none 0 0,.int .i64 0] 24 (h:=?_);intro gb8z hg w9z hbox hb;have qa:=am hbox;have qh:=am ((by rw [hg];exact (by first|exact HK.out.1|exact (show Kept w _ (fun k_=>P0_1_ k_) from by repeat (first|(with_reducible first|exact HK.out|apply Kept.alloc|apply Kept.drewN|apply Kept.drew|refine Kept.setCell ?_ (.inr GW6z.o) _)|exact HK.out)).1):w.heap.size<=gb8z));have q2:=am ((gw hg pB:w0.heap.size<=gb8z));have qy:=nL hg BK5z;have qk:=nG hg BK5z;replace HO0_1:=rbl HO0_1 hb;replace BK5z:=bb BK5z hb;replace HK:=am (Kept.below (S:=(fun k_=>P0_1_ k_)) (by repeat (first|(with_reducible first|exact HK.out|apply Kept.alloc|apply Kept.drewN|apply Kept.drew|refine Kept.setCell ?_ (.inr GW6z.o) _)|exact HK.out)) hb);replace HB:=bS hb;clear hb hbox hg;have q0:=qy.o;have q1:=qk.o;obtain ⟨_,_,_,_,_,_⟩:=cEc BK5z.o)|(refine gL (some 5) Tryz.func104 #[.agg #[.bool a0_0,.slice Ao0z l0_1.length co1z,.int .i64 a0_2]] (h:=?_);(with_reducible refine (Zcl.calls a0_0 _ _ l0_1 a0_2 false _ ?side1 ?side2 A2.o).mono ?_);(case side1=>exact Kd.Zn (Kd.Zc HO0_1.o).2.2 pl);(case side2=>exact (Kd.Zc HO0_1.o).2.1);rintro e w23z ⟨rfl,hb⟩;refine ⟨_,rfl,?_⟩;replace HO0_1:=rbl HO0_1 hb;replace BK5z:=bb BK5z hb;replace qa:=bb qa hb;replace HK:=am (Kept.below (S:=(fun k_=>P0_1_ k_)) (by repeat (first|(with_reducible first|exact HK.out|apply Kept.alloc|apply Kept.drewN|apply Kept.drew|refine Kept.setCell ?_ (.inr GW6z.o) _|refine Kept.setCell ?_ (.inr qh.o) _)|exact HK.out)) hb);replace HB:=bS hb;obtain ⟨qm,qn,qo,qs,qt,qu⟩:=cEc BK5z.o)|(refine gL (some 8) Tryz.func140 #[.agg #[.bool a0_0,.slice Ao0z l0_1.length co1z,.int .i64 a0_2]] (h:=?_);(with_reducible refine (Zby.calls k a0_0 (fun k_=>some k_=(.slice Ao0z l0_1.length co1z:Value).ownBlock) (.slice Ao0z l0_1.length co1z) l0_1 a0_2 qj qg qd w0 _ ?side1 ?side2 A11.o).mono ?_);(case side1=>exact pB);(case side2=>exact Kd.Zbj rfl HO0_1.o);rintro e w30z ⟨v31z,rfl,ho32z,hb,hkp⟩;refine ⟨_,rfl,?_⟩;have qf:=am (Kd.Zh (ok':=fun k_=>(P0_1_ k_\/w.heap.size<=k_)) ho32z (fun k_ hk_=>Or.elim hk_ (fun hs_=>(HO0_1.o.1 k_ (hs_).symm)) (fun hn_=>(.inr (Nat.le_trans (by first|exact HK.out.1|exact (show Kept w _ (fun k_=>P0_1_ k_) from by repeat (first|(with_reducible first|exact HK.out|apply Kept.alloc|apply Kept.drewN|apply Kept.drew|refine Kept.setCell ?_ (.inr GW6z.o) _|refine Kept.setCell ?_ (.inr qh.o) _)|exact HK.out)).1) hn_)))));replace BK5z:=am (Za0 (Zb BK5z.o pl) hkp (fun e_=>Kd.R_ne HO0_1.o BK5z.o (by decide) e_));replace qa:=am (Za0 (Zb qa.o pl) hkp (fun e_=>Kd.R_ne HO0_1.o qa.o (by decide) e_));replace HK:=am (Kept.then_ (S:=(fun k_=>P0_1_ k_)) (by repeat (first|(with_reducible first|exact HK.out|apply Kept.alloc|apply Kept.drewN|apply Kept.drew|refine Kept.setCell ?_ (.inr GW6z.o) _|refine Kept.setCell ?_ (.inr qh.o) _)|exact HK.out)) hkp (fun k_ hs_=>(fun e_=>(HO0_1.o.1 k_ e_.symm)) hs_));replace HB:=am hb;clear HO0_1;obtain ⟨_,_,_,_,_,_⟩:=cEc BK5z.o;obtain ⟨qe,qc,qz⟩:=Kd.Zj qf.o;subst qz)|((have q_:decide (300 < qi)=true:=c13b0;clear q_);refine gL (some 13) Tryz.func110 #[.slice qe qg.length qc] (h:=?_);(with_reducible refine (Zcv.calls k _ _ qg qi _ ?side1 ?side2 A12.o).mono ?_);(case side1=>refine (Kd.Zc (e:=85) (base:=w0.heap.size) (ok:=fun k_=>(P0_1_ k_\/w.heap.size<=k_)) (n:=qg.length) (c:=qc) ?_).2.2;exact (Kd.Za (z3 qf.o BK5z.o (by decide) (.bool qj) (.slice qe qg.length qc) (.int .i64 qd)) pl));(case side2=>exact (Kd.Zc qf.o).2.1);rintro e w43z ⟨rfl,hb⟩;refine ⟨_,rfl,?_⟩;replace qf:=am (Kd.Za (Kd.Za (z3 qf.o BK5z.o (by decide) (.bool qj) (.slice qe qg.length qc) (.int .i64 qd)) pl) hb);replace BK5z:=am (Zb (g:=gb3z) (o:=.cells #[.bool qj,.slice qe qg.length qc,.int .i64 qd] 106 (0,0)) (by exact p3 BK5z) hb);replace qa:=bfb qk qa hb;replace HK:=am (Kept.below (S:=(fun k_=>P0_1_ k_)) (by repeat (first|(with_reducible first|exact HK.out|apply Kept.alloc|apply Kept.drewN|apply Kept.drew|refine Kept.setCell ?_ (.inr GW6z.o) _|refine Kept.setCell ?_ (.inr qh.o) _)|exact HK.out)) hb);replace HB:=bS hb;obtain ⟨qp,qq,qr,qv,qw,qx⟩:=cEc qa.o)|((have q_:decide (300 < qi)=false:=c13b0;clear q_);refine gL (some 13) Tryz.func110 #[.slice qe qg.length qc] (h:=?_);(with_reducible refine (Zcv.calls k _ _ qg qi _ ?side1 ?side2 A12.o).mono ?_);(case side1=>refine (Kd.Zc (e:=85) (base:=w0.heap.size) (ok:=fun k_=>(P0_1_ k_\/w.heap.size<=k_)) (n:=qg.length) (c:=qc) ?_).2.2;exact (Kd.Za (z3 qf.o BK5z.o (by decide) (.bool qj) (.slice qe qg.length qc) (.int .i64 qd)) pl));(case side2=>exact (Kd.Zc qf.o).2.1);rintro e w43z ⟨rfl,hb⟩;refine ⟨_,rfl,?_⟩;replace qf:=am (Kd.Za (Kd.Za (z3 qf.o BK5z.o (by decide) (.bool qj) (.slice qe qg.length qc) (.int .i64 qd)) pl) hb);replace BK5z:=am (Zb (g:=gb3z) (o:=.cells #[.bool qj,.slice qe qg.length qc,.int .i64 qd] 106 (0,0)) (by exact p3 BK5z) hb);replace qa:=bfb qk qa hb;replace HK:=am (Kept.below (S:=(fun k_=>P0_1_ k_)) (by repeat (first|(with_reducible first|exact HK.out|apply Kept.alloc|apply Kept.drewN|apply Kept.drew|refine Kept.setCell ?_ (.inr GW6z.o) _|refine Kept.setCell ?_ (.inr qh.o) _)|exact HK.out)) hb);replace HB:=bS hb;obtain ⟨qp,qq,qr,qv,qw,qx⟩:=cEc BK5z.o;obtain ⟨_,_,_,_,_,_⟩:=cEc qa.o)|(refine gL (some 5) Tryz.func104 #[.agg #[.bool a0_0,.slice Ao0z l0_1.length co1z,.int .i64 a0_2]] (h:=?_);(with_reducible refine (Zcl.calls a0_0 _ _ l0_1 a0_2 true _ ?side1 ?side2 A2.o).mono ?_);(case side1=>exact Kd.Zn (Kd.Zc HO0_1.o).2.2 pl);(case side2=>exact (Kd.Zc HO0_1.o).2.1);rintro e w23z ⟨rfl,hb⟩;refine ⟨_,rfl,?_⟩;replace HO0_1:=rbl HO0_1 hb;replace BK5z:=bb BK5z hb;replace qa:=bb qa hb;replace HK:=am (Kept.below (S:=(fun k_=>P0_1_ k_)) (by repeat (first|(with_reducible first|exact HK.out|apply Kept.alloc|apply Kept.drewN|apply Kept.drew|refine Kept.setCell ?_ (.inr GW6z.o) _|refine Kept.setCell ?_ (.inr qh.o) _)|exact HK.out)) hb);replace HB:=bS hb;obtain ⟨qm,qn,qo,qs,qt,qu⟩:=cEc qa.o))
 first
  | have q_:=A12;have q_:decide (1000 < qd)=false:=c40b0
    refine bodyPost_ret (Za1 rfl _ _ gb8z 24 #[.bool qj,.slice qe qg.length qc,.int .i64 qd] (0,0) _ rfl (by exact p3 qa) Tryz.underlying24 rfl (by kernel_rfl)) rfl ?_
    exact ⟨_,pE,by refine rp ?_;exact Kd.Zh (Kd.Zr (p:=⟨gb8z,2,none⟩) (Kd.Zr (p:=⟨gb8z,1,none⟩) (Kd.Zr (p:=⟨gb8z,0,none⟩) (Kd.Zaa qf.o qa.o (by decide)) (fun _ hk=>hk.2) (.bool qj)) (fun _ hk=>hk.2) (.slice qe qg.length qc)) (fun _ hk=>hk.2) (.int .i64 qd)) (fun _ hk=>hk.1),pB,by repeat (first|(with_reducible first|exact HK.out|apply Kept.alloc|apply Kept.drewN|apply Kept.drew|refine Kept.setCell ?_ (.inr GW6z.o) _|refine Kept.setCell ?_ (.inr qh.o) _)|exact HK.out)⟩
  | refine bodyPost_ret (Za1 rfl _ _ gb8z 24 #[.bool false,.slice none 0 0,.int .i64 0] (0,0) _ rfl (by exact p3 qa) Tryz.underlying24 rfl (by kernel_rfl)) rfl ?_
    exact ⟨_,pE,pN,pB,by repeat (first|(with_reducible first|exact HK.out|apply Kept.alloc|apply Kept.drewN|apply Kept.drew|refine Kept.setCell ?_ (.inr GW6z.o) _|refine Kept.setCell ?_ (.inr qh.o) _)|exact HK.out)⟩):P:=h
theorem Zc3.calls (k:Nat) (a0_0:Bool) (P0_1_:Nat->Prop) (u9000_:Value) (l0_1:List Int) (a0_2:Int) (r1:Bool) (r2:List Int) (r3:Int) (r4:Int) (w0 w:World) (hB:Below w0.heap.size w0 w) (ho0_1:Kd.R (Kd.int .u32) 85 w w0.heap.size P0_1_ u9000_ l0_1) (h:Zc3.f k a0_0 l0_1 a0_2=some (r1,r2,r3,r4)) :
  Calls Tryz.prog 100 #[.agg #[.bool a0_0,u9000_,.int .i64 a0_2]] w fun e w' => ∃ v1_:Value,e=.returned (.tuple #[.agg #[.bool r1,v1_,.int .i64 r3],.int .i64 r4])/\Kd.R (Kd.int .u32) 85 w' w0.heap.size (fun k_=>(P0_1_ k_\/w.heap.size<=k_)) v1_ r2/\Below w0.heap.size w0 w'/\Kept w w' (fun k_=>P0_1_ k_):=by
 have q3:=Tryz.underlying106
 have hu24:=Tryz.underlying24
 have HO0_1:=am (show Kd.R (Kd.int .u32) 85 w w0.heap.size (fun k_=>(P0_1_ k_\/w.heap.size<=k_)) u9000_ l0_1 from Kd.Zh ho0_1 (fun k_ hk=>(.inl hk)))
 have HK:=am (Kept.refl w (fun k_=>P0_1_ k_))
 have HW0:=am hB.size
 have HB:=am hB
 clear hB
 have H:((Zcl.f a0_0 l0_1 a0_2).bind fun ql=>(if ql=true then (some (false,([]:List Int),0,0)) else ((Zby.f k a0_0 l0_1 a0_2).bind fun qb=>((Zcv.f k qb.2.1).bind fun qi=>(if qi > 300 then (some (false,([]:List Int),0,51)) else (if qb.2.2 < (-1000) then (some (false,([]:List Int),0,52)) else (if qb.2.2 > 1000 then (some (false,([]:List Int),0,52)) else (some (qb.1,qb.2.1,qb.2.2,0)))))))))=some (r1,r2,r3,r4):=h
 clear h
 obtain ⟨ql,A2,H⟩:=ob H
 by_cases c3:ql=true
 ·subst c3
  rw [if_pos rfl] at H
  simp only [Option.some.injEq,Prod.mk.injEq] at H
  obtain ⟨rfl,rfl,rfl,rfl⟩:=H
  exact Zc3.leaf
 ·replace c3:=Bool.eq_false_iff.mpr c3
  subst c3
  rw [if_neg (show ¬ (false=true) by decide)] at H
  obtain ⟨⟨qj,qg,qd⟩,A11,H⟩:=ob H;(try dsimp only at H)
  obtain ⟨qi,A12,H⟩:=ob H
  by_cases c13:qi > 300
  ·rw [if_pos c13] at H
   have c13b0:decide (300 < qi)=true:=decide_eq_true c13
   clear c13
   simp only [Option.some.injEq,Prod.mk.injEq] at H
   obtain ⟨rfl,rfl,rfl,rfl⟩:=H
   exact Zc3.leaf
  ·rw [if_neg c13] at H
   have c13b0:decide (300 < qi)=false:=decide_eq_false c13
   clear c13
   by_cases c26:qd < (-1000)
   ·rw [if_pos c26] at H
    have c26b0:decide (qd < (-1000))=true:=decide_eq_true c26
    clear c26
    simp only [Option.some.injEq,Prod.mk.injEq] at H
    obtain ⟨rfl,rfl,rfl,rfl⟩:=H
    exact Zc3.leaf
   ·rw [if_neg c26] at H
    have c26b0:decide (qd < (-1000))=false:=decide_eq_false c26
    clear c26
    by_cases c40:qd > 1000
    ·rw [if_pos c40] at H
     have c40b0:decide (1000 < qd)=true:=decide_eq_true c40
     clear c40
     simp only [Option.some.injEq,Prod.mk.injEq] at H
     obtain ⟨rfl,rfl,rfl,rfl⟩:=H
     exact Zc3.leaf
    ·rw [if_neg c40] at H
     have c40b0:decide (1000 < qd)=false:=decide_eq_false c40
     clear c40
     simp only [Option.some.injEq,Prod.mk.injEq] at H
     obtain ⟨rfl,rfl,rfl,rfl⟩:=H
     exact Zc3.leaf
def Zaq.j0:Nat->Bool->List Int->Int->Bool->Option (Bool × List Int × Int × Int)
 | 0,_,_,_,_=>none
 | k+1,x0,x1,x2,x20=>if x20=true then (some (false,([]:List Int),0,52)) else ((Zaf.f x1).bind fun qd=>((Zc3.f k x0 qd x2).bind fun qf=>(some (qf.1,qf.2.1,qf.2.2.1,qf.2.2.2))))
def Zaq.f (k:Nat) (a0:Bool) (l1:List Int) (a2:Int):Option (Bool × List Int × Int × Int):=(Za3.f l1).bind fun qc=>(if qc=0 then (if a2 < (-4000) then (Zaq.j0 k a0 l1 a2 true) else (Zaq.j0 k a0 l1 a2 (decide (a2 > 4000)))) else (some (false,([]:List Int),0,qc)))
theorem Zaq.calls (k:Nat) (a0:Bool) (A1:Option Addr) (c1:Nat) (l1:List Int) (a2:Int) (r1:Bool) (r2:List Int) (r3:Int) (r4:Int) (w:World) (hr1:Kd.C (Kd.int .u32) w A1 l1.length l1) (hc1:l1.length<=c1) (h:Zaq.f k a0 l1 a2=some (r1,r2,r3,r4)) :
  Calls Tryz.prog 60 #[.bool a0,.slice A1 l1.length c1,.int .i64 a2] w fun e w' => ∃ v1_:Value,e=.returned (.tuple #[.agg #[.bool r1,v1_,.int .i64 r3],.int .i64 r4])/\Kd.R (Kd.int .u32) 85 w' w.heap.size (fun _=>True) v1_ r2/\Below w.heap.size w w':=by
 have hu24:=Tryz.underlying24
 have qt:=Tryz.underlying106
 have HR1:=am hr1
 have HC1:=am hc1
 clear hr1 hc1
 have HB:=am (Below.refl w.heap.size w)
 have H:((Za3.f l1).bind fun qc=>(if qc=0 then (if a2 < (-4000) then (Zaq.j0 k a0 l1 a2 true) else (Zaq.j0 k a0 l1 a2 (decide (a2 > 4000)))) else (some (false,([]:List Int),0,qc))))=some (r1,r2,r3,r4):=h
 clear h
 obtain ⟨qc,A4,H⟩:=ob H
 by_cases c5:qc=0
 ·rw [if_pos c5] at H
  have c5b0:(qc == 0)=true:=beq_iff_eq.mpr c5
  have c5b1:(qc != 0)=false:=bne_eq_false_iff_eq.mpr c5
  clear c5
  have HC6:=am H
  clear H
  go_enter Tryz.func60,Tryz.ntmps60
  go_upto_region 4 with (first|((with_reducible refine gd 6 ?_);refine bx 6 #[.bool false,.slice none 0 0,.int .i64 0] 24 (h:=?_);intro qb hg w7 hbox hb;have qa:=am hbox;have qo:=gW hg;have qn:=gW hg;replace HB:=bS hb;clear hb hbox hg)|(refine gL (some 10) Tryz.func108 #[.slice A1 l1.length c1] (h:=?_);(with_reducible refine (Za3.calls _ _ l1 qc _ ?side1 ?side2 A4.o).mono ?_);(case side1=>exact cB HR1 HB);(case side2=>exact HC1.o);rintro e w' ⟨rfl,⟨nd,rfl⟩⟩;refine ⟨_,rfl,?_⟩))
  (try simp only [Act.put,List.setIfInBounds_toArray,List.set_cons_zero,List.set_cons_succ])
  go_cut [20] (fun v20 wc => ∃ (kq:Nat) (x20_5:Bool),v20=.bool x20_5/\Aside0 (Zaq.j0 kq a0 l1 a2 x20_5=some (r1,r2,r3,r4))/\Aside0 (kq<=k)/\Aside0 (wc.heap[qb]? = some (.cells #[.bool false,(.slice none 0 0),.int .i64 0] 24 (0,0)))/\Aside0 (Below w.heap.size w wc))
  case first =>
   have H:=HC6.o
   clear HC6
   by_cases c8:a2 < (-4000)
   ·rw [if_pos c8] at H
    have c8b0:decide (a2 < (-4000))=true:=decide_eq_true c8
    clear c8
    (first|rw [c8b0]|(simp only [Zcd,Zdb];rw [c8b0])|skip)
    have H':=am H
    clear H
    go_wp2
    go_meet
    case rel=>exact ⟨_,(true),pR,H',⟨by first|omega|exact Nat.le_refl _⟩,⟨Zb qa.o pl⟩,⟨pB⟩⟩
   ·rw [if_neg c8] at H
    have c8b0:decide (a2 < (-4000))=false:=decide_eq_false c8
    clear c8
    (first|rw [c8b0]|(simp only [Zcd,Zdb];rw [c8b0])|skip)
    have H':=am H
    clear H
    go_wp2
    go_meet
    case rel=>exact ⟨_,(decide (a2 > 4000)),pR,H',⟨by first|omega|exact Nat.le_refl _⟩,⟨Zb qa.o pl⟩,⟨pB⟩⟩
  case rest =>
   clear HC6
   obtain ⟨kq,x20_5,rfl,HA,HJ5,qa,HB⟩:=hcut
   cases kq with
   | zero=>exact absurd HA.out (by simp [Zaq.j0])
   | succ kj5 =>
    have H:=HA.out
    clear HA
    simp only [Zaq.j0] at H
    by_cases c9:x20_5=true
    ·subst c9
     rw [if_pos rfl] at H
     simp only [Option.some.injEq,Prod.mk.injEq] at H
     obtain ⟨rfl,rfl,rfl,rfl⟩:=H
     obtain ⟨_,_,_,_,_,_⟩:=cEc qa.o
     go_wp2
     refine bodyPost_ret (Za1 rfl _ _ qb 24 #[.bool false,.slice none 0 0,.int .i64 0] (0,0) _ rfl (by exact p3 qa) Tryz.underlying24 rfl (by kernel_rfl)) rfl ?_
     exact ⟨_,pE,pN,pB⟩
    ·replace c9:=Bool.eq_false_iff.mpr c9
     subst c9
     rw [if_neg (show ¬ (false=true) by decide)] at H
     obtain ⟨qd,A11,H⟩:=ob H
     obtain ⟨⟨qj,qk,ql,qs⟩,A12,H⟩:=ob H;(try dsimp only at H)
     simp only [Option.some.injEq,Prod.mk.injEq] at H
     obtain ⟨rfl,rfl,rfl,rfl⟩:=H
     go_wp2_with (first|(refine gL (some 24) Tryz.func102 #[.slice A1 l1.length c1] (h:=?_);(with_reducible refine (Zaf.calls _ _ l1 qd _ ?side1 ?side2 A11.o).mono ?_);(case side1=>exact cB HR1 HB);(case side2=>exact HC1.o);rintro e w13 ⟨qu,rfl,ho0,hb⟩;refine ⟨_,rfl,?_⟩;have qe:=am (Kd.Zo ho0 (Zd pB));replace qa:=bb qa hb;replace HB:=bS hb;obtain ⟨qh,qi,qq⟩:=Kd.Zj qe.o;subst qq)|(refine gL (some 28) Tryz.func100 #[.agg #[.bool a0,.slice qh qd.length qi,.int .i64 a2]] (h:=?_);(with_reducible refine (Zc3.calls kj5 a0 (fun k_=>some k_=(.slice qh qd.length qi:Value).ownBlock) (.slice qh qd.length qi) qd a2 qj qk ql qs w _ ?side1 ?side2 A12.o).mono ?_);(case side1=>exact pB);(case side2=>exact Kd.Zbj rfl qe.o);rintro e w15 ⟨qv,rfl,ho0,hb,hkp⟩;refine ⟨_,rfl,?_⟩;have qg:=am (Kd.Zh (ok':=fun k_=>True) ho0 (fun k_ hk_=>trivial));replace qa:=am (Za0 (Zb qa.o pl) hkp (fun e_=>Kd.R_ne qe.o qa.o (by decide) e_));replace HB:=am hb;clear qe;obtain ⟨_,_,_,_,_,_⟩:=cEc qa.o;obtain ⟨qm,qp,qr⟩:=Kd.Zj qg.o;subst qr))
     refine bodyPost_ret (Za1 rfl _ _ qb 24 #[.bool qj,.slice qm qk.length qp,.int .i64 ql] (0,0) _ rfl (by exact p3 qa) Tryz.underlying24 rfl (by kernel_rfl)) rfl ?_
     exact ⟨_,pE,by refine rp ?_;exact Kd.Zh (Kd.Zr (p:=⟨qb,2,none⟩) (Kd.Zr (p:=⟨qb,1,none⟩) (Kd.Zr (p:=⟨qb,0,none⟩) (Kd.Zaa qg.o qa.o (by decide)) (fun _ hk=>hk.2) (.bool qj)) (fun _ hk=>hk.2) (.slice qm qk.length qp)) (fun _ hk=>hk.2) (.int .i64 ql)) (fun _ hk=>trivial),pB⟩
 ·rw [if_neg c5] at H
  have c5b0:(qc == 0)=false:=beq_eq_false_iff_ne.mpr c5
  have c5b1:(qc != 0)=true:=bne_iff_ne.mpr c5
  simp only [Option.some.injEq,Prod.mk.injEq] at H
  obtain ⟨rfl,rfl,rfl,rfl⟩:=H
  go_enter Tryz.func60,Tryz.ntmps60
  go_wp2_with (first|((with_reducible refine gd 6 ?_);refine bx 6 #[.bool false,.slice none 0 0,.int .i64 0] 24 (h:=?_);intro qb hg w18 hbox hb;have qa:=am hbox;have qo:=gW hg;have qn:=gW hg;replace HB:=bS hb;clear hb hbox hg)|(refine gL (some 10) Tryz.func108 #[.slice A1 l1.length c1] (h:=?_);(with_reducible refine (Za3.calls _ _ l1 qc _ ?side1 ?side2 A4.o).mono ?_);(case side1=>exact cB HR1 HB);(case side2=>exact HC1.o);rintro e w' ⟨rfl,⟨nd,rfl⟩⟩;refine ⟨_,rfl,?_⟩;(try (rw [Zgr w18];generalize hq_:World.drewN w18 _=w18;replace qa:Aside0 (w18.heap[qb]? = some (.cells #[.bool false,.slice none 0 0,.int .i64 0] 24 (0,0))):=⟨by rw [<- hq_];exact (Zb qa.o pl)⟩;replace HB:Aside0 (Below w.heap.size w w18):=⟨by rw [<- hq_];exact pB⟩;clear hq_));obtain ⟨_,_,_,_,_,_⟩:=cEc qa.o))
  refine bodyPost_ret (Za1 rfl _ _ qb 24 #[.bool false,.slice none 0 0,.int .i64 0] (0,0) _ rfl (by exact p3 qa) Tryz.underlying24 rfl (by kernel_rfl)) rfl ?_
  exact ⟨_,pE,pN,pB⟩
end YtjbjkmccfocikaaGreatDoor.B
end
section
namespace YtjbjkmccfocikaaGreatDoor.P
open Go.RowKit YtjbjkmccfocikaaGreatDoor.B YtjbjkmccfocikaaGreatDoorW.PrintWords YtjbjkmccfocikaaGreatDoorW.PrintLast YtjbjkmccfocikaaGreatDoorW.PrintMore YtjbjkmccfocikaaGreatDoor.P.Nm
def chr (d:Int):UInt8:=UInt8.ofNat (48+d.toNat)
theorem Zfd {n:Nat} (h:n ≠ 0):(decT n).data.toList=(digs n).reverse.map chr:=by
 unfold decT;rw [if_neg h];rfl
theorem Zks {d:Int} (h0:0<=d) (h1:d < 10):(chr d).toNat=48+d.toNat:=by
 unfold chr;simp;omega
theorem Zf6 (n:Nat):(decT n).size=if n=0 then 1 else nd n:=by
 by_cases h:n=0
 ·subst h;rfl
 ·rw [if_neg h]
  show (decT n).data.size=_
  rw [<- Array.length_toList,Zfd h];simp [nd]
theorem Zrn {b:ByteArray} {l:List UInt8} (h:b.data.toList=l):b=⟨l.toArray⟩:=by
 cases b with|mk d=>subst h;rfl
theorem Zpd {n:Nat} (h:n ≠ 0):(⟨(Lib.trimRightB (decT n).data.toList 48).toArray⟩:ByteArray)=decT (core n):=by
 obtain ⟨h1,h2⟩:=Zki h
 have hc:=Zi1 h
 symm
 refine Zrn ?_
 rw [Zfd hc,Zfd h]
 unfold Lib.trimRightB
 rw [<- List.map_reverse,List.reverse_reverse]
 have hd:digs n=List.replicate (tz n) 0++digs (core n):=by
  conv=>lhs;rw [h1]
  exact Zgq hc _
 rw [hd,List.map_append,List.map_replicate,Zd0 hc,List.map_cons]
 have e0:chr 0=48:=rfl
 have e1:(chr ((core n % 10:Nat):Int) == 48)=false:=by
  refine beq_eq_false_iff_ne.2 (fun q=>?_)
  have := congrArg UInt8.toNat q
  rw [Zks (by omega) (by omega)] at this
  have e48:(48:UInt8).toNat=48:=rfl
  rw [e48] at this
  omega
 have drop:∀ k (l:List UInt8),(List.replicate k (48:UInt8)++l).dropWhile (· == 48)=l.dropWhile (· == 48):=fun k l=>by
  induction k with
  | zero=>rfl
  | succ k ih=>rw [List.replicate_succ,List.cons_append,List.dropWhile_cons_of_pos (by rfl),ih]
 rw [e0,drop,List.dropWhile_cons_of_neg (by rw [e1];simp),List.map_reverse,List.map_cons]
theorem Zon (n:Nat):numT (decT n)=n:=by
 by_cases h:n=0
 ·subst h;rfl
 ·unfold numT
  rw [Zfd h]
  have key:∀ l:List Int,Dg 10 l->(((l.reverse.map chr).foldl (fun n c=>n*10+(c.toNat - 48)) 0:Nat):Int)=val 10 l:=fun l=>by
   induction l with
   | nil=>intro _;rfl
   | cons x l ih =>
    intro hd
    have hx:=hd.head
    rw [List.reverse_cons,List.map_append,List.foldl_append,List.map_cons,List.map_nil,List.foldl_cons,List.foldl_nil,Zks hx.1 hx.2,Zb3,<- ih hd.tail]
    omega
  have := key (digs n) (Zdk n)
  rw [Zdc] at this
  exact_mod_cast this
theorem Zps (n:Nat):(decT n).data.toList.all isDig=true:=by
 by_cases h:n=0
 ·subst h;rfl
 ·rw [Zfd h,List.all_eq_true]
  intro c hc
  obtain ⟨d,hd,rfl⟩:=List.mem_map.1 hc
  have hx:=Zdk n d (List.mem_reverse.1 hd)
  unfold isDig
  rw [Zks hx.1 hx.2]
  simp;omega
theorem Zl4 (s:ByteArray) (a b:Nat):(s.extract a b).data.toList=(s.data.toList.drop a).take (b - a):=by
 rw [ByteArray.data_extract,Array.toList_extract]
def numF (v:Nat) (l:List UInt8):Nat:=l.foldl (fun n c=>n*10+(c.toNat - 48)) v
theorem Zp4 (v:Nat):numF v []=v:=rfl
theorem Zhy (v:Nat) (c:UInt8) (l:List UInt8):numF v (c :: l)=numF (v*10+(c.toNat - 48)) l:=by unfold numF;rw [List.foldl_cons]
theorem Zp3 (v:Nat) (l m:List UInt8):numF v (l++m)=numF (numF v l) m:=by unfold numF;rw [List.foldl_append]
theorem Zha:∀ (l:List UInt8) (v:Nat),numF v l=v*10 ^ l.length+numF 0 l
 | [],v=>by simp [numF]
 | c :: l,v=>by
  rw [Zhy,Zhy,Zha l (v*10+_),Zha l (0*10+_),List.length_cons,Nat.pow_succ,Nat.add_mul,Nat.zero_mul,Nat.zero_add,Nat.mul_assoc v 10,Nat.mul_comm 10]
  omega
theorem Zhv {c:UInt8}:isDig c=true ↔ 48<=c.toNat/\c.toNat<=57:=by unfold isDig;simp
theorem Zom:∀ (l:List UInt8),l.all isDig=true->numF 0 l < 10 ^ l.length
 | [],_=>by simp [numF]
 | c :: l,h=>by
  rw [List.all_cons,Bool.and_eq_true] at h
  have h1:=Zom l h.2
  have h2:=Zhv.1 h.1
  rw [Zhy,Zha,List.length_cons,Nat.pow_succ]
  have := Nat.mul_le_mul_right (10 ^ l.length) (show 0*10+(c.toNat - 48)<=9 by omega)
  omega
theorem Zqr (s:ByteArray) (h:s.size<=9223372036854775807):Zcc.f s=some (bytesOf s):=by unfold Zcc.f;rw [if_pos h]
theorem Zjs (s:ByteArray) (i:Nat) (c:UInt8) (r:List UInt8) (h:s.data.toList.drop i=c :: r):(bytesOf s).getD i 0=(c.toNat:Int):=by
 unfold bytesOf
 have h2:s.data.toList[i]? = some c:=by
  have := List.getElem?_drop (xs:=s.data.toList) (i:=i) (j:=0)
  rw [h] at this
  simpa using this.symm
 rw [List.getD,List.getElem?_map,h2];rfl
theorem Zmd (s:ByteArray) (hs:s.data.toList.all isDig=true) (hl:s.data.toList.length<=9):∀ (r:List UInt8) (i v:Nat),s.data.toList.drop i=r->i<=s.data.toList.length->v < 10 ^ i->Tells (fun k=>Zce.l0 k (v:Int) (bytesOf s) ((bytesOf s).length:Int) (i:Int)) (numF v r:Int)
 | [],i,v,hr,hi,hv=>by
  have hlen:(bytesOf s).length=s.data.toList.length:=by unfold bytesOf;rw [List.length_map]
  have hge:s.data.toList.length<=i:=List.drop_eq_nil_iff.1 hr
  refine Tells.succ ?_
  simp only [Zce.l0]
  exact Tells.ifn (by omega) (Tells.pure _)
 | c :: r,i,v,hr,hi,hv=>by
  have hlen:(bytesOf s).length=s.data.toList.length:=by unfold bytesOf;rw [List.length_map]
  have hlt:i < s.data.toList.length:=by
   have := congrArg List.length hr
   rw [List.length_drop,List.length_cons] at this
   omega
  have hc:isDig c=true:=List.all_eq_true.1 hs c (List.mem_of_mem_drop (by rw [hr];exact List.mem_cons_self))
  have hc2:=Zhv.1 hc
  have hv9:v < 100000000:=Nat.lt_of_lt_of_le hv (Nat.le_trans (Nat.pow_le_pow_right (by omega) (show i<=8 by omega)) (by decide))
  have ih:=Zmd s hs hl r (i+1) (v*10+(c.toNat - 48)) (by rw [<- List.drop_drop,hr];rfl) (by omega) (by rw [Nat.pow_succ];omega)
  have c1:(i:Int) < ((bytesOf s).length:Int):=by omega
  have c2:(0:Int)<=(i:Int):=by omega
  have e1:(((v:Int)*10) % 4294967296+(((c.toNat:Int) - 48) % 256)) % 4294967296=((v*10+(c.toNat - 48):Nat):Int):=by omega
  refine Tells.succ ?_
  simp only [Zce.l0]
  rw [rd_n,Zjs s i c r hr,e1,w64s (by omega)]
  exact Tells.ifp c1 (Tells.ifp c2 (Tells.ifp c1 ih))
theorem Zk5 (s:ByteArray) (hs:s.data.toList.all isDig=true) (hl:s.data.toList.length<=9):Tells (fun k=>Zce.f k s) (numF 0 s.data.toList:Int):=by
 unfold Zce.f
 have hsz:s.size=s.data.toList.length:=by rw [Array.length_toList];rfl
 rw [Zqr s (by omega)]
 exact (Tells.pure _).bind (Zmd s hs hl s.data.toList 0 0 rfl (by omega) (by simp))
theorem Zi6:([1000000000]:List Int)=limbs 1000000000:=by decide +kernel
theorem Zqh (n:Nat) (h:n < 4294967296):Tells (fun k=>Zv.f k [(n:Int)]) (limbs n) :=
 Zdt (Dg.one (by omega) (by omega)) (by rw [val_one]) (by simp)
theorem Zpl {l:List UInt8} (h:l.all isDig=true) (n:Nat):(l.drop n).all isDig=true:=List.all_eq_true.2 fun x hx=>List.all_eq_true.1 h x (List.mem_of_mem_drop hx)
theorem Zlu {l:List UInt8} (h:l.all isDig=true) (n:Nat):(l.take n).all isDig=true:=List.all_eq_true.2 fun x hx=>List.all_eq_true.1 h x (List.mem_of_mem_take hx)
theorem Zlo:∀ (f:Nat) (s:ByteArray) (v:Nat),s.data.toList.length<=f->s.data.toList.all isDig=true->(v=0\/s.data.toList.length % 9=0)->nd v+s.data.toList.length<=100000 ->
  Tells (fun k=>Za4.l0 k s (limbs v)) (limbs (numF v s.data.toList),0)
 | f,s,v,hf,hs,hv,hl=>by
  have hsz:s.size=s.data.toList.length:=by rw [Array.length_toList];rfl
  by_cases h0:s.data.toList=[]
  ·refine Tells.succ ?_
   simp only [Za4.l0]
   refine Tells.ifp (by rw [<- h0];exact (Lib.toList_data s)) ((Tells.pure _).val ?_)
   rw [h0,Zp4]
  ·have hpos:0 < s.data.toList.length:=List.length_pos_iff.2 h0
   obtain ⟨f,rfl⟩:∃ g,f=g+1:=⟨f - 1,by omega⟩
   obtain ⟨n,hn⟩:∃ n,(s.data.toList.length - 1) % 9+1=n:=⟨_,rfl⟩
   have hn9:n<=9:=by omega
   have hnl:n<=s.data.toList.length:=by omega
   have hT:(s.extract 0 n).data.toList=s.data.toList.take n:=by rw [Zl4];simp
   have hD:(s.extract n s.size).data.toList=s.data.toList.drop n:=by
    rw [Zl4,hsz,List.take_of_length_le (by rw [List.length_drop];omega)]
   have hp:=Zk5 (s.extract 0 n) (by rw [hT];exact Zlu hs n) (by rw [hT,List.length_take];omega)
   rw [hT] at hp
   have hpl:=Zom (s.data.toList.take n) (Zlu hs n)
   obtain ⟨p,hpp⟩:∃ p,numF 0 (s.data.toList.take n)=p:=⟨_,rfl⟩
   rw [hpp] at hp hpl
   rw [List.length_take,Nat.min_eq_left hnl] at hpl
   have hp9:p < 1000000000:=Nat.lt_of_lt_of_le hpl (Nat.le_trans (Nat.pow_le_pow_right (by omega) hn9) (by decide))
   have hv2:v*1000000000+p=numF v (s.data.toList.take n):=by
    rw [Zha,hpp,List.length_take,Nat.min_eq_left hnl]
    rcases hv with h|h
    ·rw [h];simp
    ·rw [show n=9 by omega]
   have hndv:nd (v*1000000000+p)<=nd v+9:=by
    refine Zgt ?_
    have := Zj0 v
    rw [Nat.pow_add]
    have h9:(10:Nat) ^ 9=1000000000:=by decide
    rw [h9]
    have := Nat.mul_le_mul_right 1000000000 (show v+1<=10 ^ nd v by omega)
    omega
   have hv0:v=0->nd (v*1000000000+p)<=n:=fun e=>by
    subst e
    rw [Nat.zero_mul,Nat.zero_add]
    exact Zgt hpl
   have hndb:nd 1000000000<=10:=Zgt (by decide)
   have hndp:nd p<=9:=Zgt hp9
   have hm:=Zgb (m:=v) (n:=1000000000) (by omega) (by omega)
   have ha:=Zjo (m:=v*1000000000) (n:=p) (Nat.le_trans (Zev (Nat.le_add_right _ p)) (by omega)) (by omega)
   have ih:=Zlo f (s.extract n s.size) (v*1000000000+p) (by rw [hD,List.length_drop];omega) (by rw [hD];exact Zpl hs n) (.inr (by rw [hD,List.length_drop];omega)) (by
    rw [hD,List.length_drop]
    rcases hv with h|h
    ·have := hv0 h;omega
    ·have:n=9:=by omega
     omega)
   rw [hD] at ih
   have ih:=ih.val (u:=(limbs (numF v s.data.toList),0)) (by rw [hv2,<- Zp3,List.take_append_drop])
   have e1:(s.size:Int) - 1=((s.data.toList.length - 1:Nat):Int):=by omega
   have e2:Int.tmod ((s.data.toList.length - 1:Nat):Int) 9=(((s.data.toList.length - 1) % 9:Nat):Int):=by rw [Int.tmod_eq_emod_of_nonneg (by omega)];omega
   have c1:(0:Int)<=(n:Int):=by omega
   have c2:(n:Int)<=(s.size:Int):=by omega
   refine Tells.succ ?_
   simp only [Za4.l0]
   rw [e1,w64c (by omega),e2,w64s (by omega),hn,Int.toNat_natCast,Zi6]
   refine Tells.ifn (fun q=>h0 (by rw [<- Lib.toList_data s];exact q)) (hm.bind (Tells.ifp c1 (Tells.ifp c2 (hp.bind ((Zqh p (by omega)).bind (ha.bind ih))))))
theorem Zmv (s:ByteArray) (h:s.data.toList.all isDig=true):Zb2.f (bytesOf s)=some false:=by
 unfold Zb2.f
 rw [Zjq (fun x=>decide (x < 48) || decide (57 < x)) (bytesOf s) (fun x _=>by
  unfold Zd6.f
  by_cases h1:x < 48
  ·rw [if_pos h1,decide_eq_true h1];rfl
  ·rw [if_neg h1,decide_eq_false h1];rfl)]
 congr 1
 rw [List.any_eq_false]
 intro x hx
 unfold bytesOf at hx
 obtain ⟨c,hc,rfl⟩:=List.mem_map.1 hx
 have := Zhv.1 (List.all_eq_true.1 h c hc)
 simp;omega
theorem Zko (s:ByteArray) (h:s.data.toList.all isDig=true) (h0:0 < s.size) (h1:s.size<=2400):Tells (fun k=>Za4.f k s) (limbs (numF 0 s.data.toList),0):=by
 have hsz:s.size=s.data.toList.length:=by rw [Array.length_toList];rfl
 unfold Za4.f
 rw [Zqr s (by omega)]
 refine Tells.ifn (by omega) (Tells.ifn (by omega) ((Tells.pure _).bind ?_))
 rw [Zmv s h]
 exact (Tells.pure _).bind (Tells.ifn (by simp) (Zlo _ s 0 (Nat.le_refl _) h (.inl rfl) (by rw [Zok];omega)))
theorem Zmr {n:Nat} (h:nd n<=2400):Tells (fun k=>Za4.f k (decT n)) (limbs n,0):=by
 have hs:=Zf6 n
 have hpos:0 < (decT n).size:=by
  rw [hs];split
  ·omega
  ·rename_i h0;exact Zio h0
 have hle:(decT n).size<=2400:=by rw [hs];split <;> omega
 refine (Zko (decT n) (Zps n) hpos hle).val ?_
 rw [show numF 0 (decT n).data.toList=n from Zon n]
theorem Zsx (a:Bool) (n:Nat) (e:Int):Zcl.f a (limbs n) e=some (decide (n=0)):=by
 unfold Zcl.f
 congr 1
 by_cases h:n=0
 ·subst h;rfl
 ·have:0 < (limbs n).length:=List.length_pos_iff.2 (Zeq h)
  rw [decide_eq_false h]
  exact beq_eq_false_iff_ne.2 (by omega)
theorem Zg3 {n:Nat} (h:(limbs n).length<=256):Tells (fun k=>Zcv.f k (limbs n)) (nd n:Int):=by
 unfold Zcv.f
 refine (Zhh h).bind ?_
 by_cases h0:n=0
 ·subst h0
  exact Tells.ifp rfl (Tells.pure _)
 ·have hl:0 < (limbs n).length:=List.length_pos_iff.2 (Zeq h0)
  refine Tells.ifn (by omega) ((Tells.pure _).val ?_)
  rw [Zf6,if_neg h0]
theorem Zpq {n:Nat} (h:(limbs n).length<=256):(limbs (core n)).length<=256:=by
 refine Zep (Nat.lt_of_le_of_lt (Zrf n) (Nat.lt_of_lt_of_le (Zl7 n) (Nat.pow_le_pow_right (by omega) h)))
theorem Zld (a:Bool) {n:Nat} (e:Int) (h0:n ≠ 0) (h:(limbs n).length<=256) (hd:nd n<=2400) (he1 : -1000000000<=e) (he2:e<=1000000000):Tells (fun k=>Zby.f k a (limbs n) e) (a,limbs (core n),e+tz n):=by
 have hs:=Zf6 n
 have hs2:=Zf6 (core n)
 have hnc:=Zk0 h0
 rw [if_neg h0] at hs
 rw [if_neg (Zi1 h0)] at hs2
 unfold Zby.f Zey.f Zfo.f Zb5.f
 refine (Zhh h).bind ((Tells.pure _).bind ?_)
 rw [if_pos ⟨rfl,by show (decT n).size<=_;omega⟩]
 refine (Tells.pure _).bind ?_
 simp only [Zpd h0]
 by_cases ht:tz n=0
 ·have hc:core n=n:=by
   have := (Zki h0).1
   rw [ht,Nat.pow_zero,Nat.mul_one] at this
   exact this.symm
  refine Tells.ifp (by rw [hc]) ((Tells.pure _).val ?_)
  rw [hc,ht];simp
 ·refine Tells.ifn (by omega) ?_
  have e1:((decT n).size:Int) - ((decT (core n)).size:Int)=(tz n:Int):=by omega
  refine (Zmr (by omega)).bind ((Tells.pure _).bind ((Tells.pure _).val ?_))
  rw [e1,w64c (m:=tz n) (by omega),w64n (by omega) (by omega)]
theorem Zkf (a:Bool) {n:Nat} (e:Int) (h:(limbs n).length<=256) (hd:nd n<=2400) (he1 : -1000000000<=e) (he2:e<=1000000000):Tells (fun k=>Zc3.f k a (limbs n) e) (outD (settleD ⟨a,n,e⟩)):=by
 unfold Zc3.f settleD
 rw [Zsx]
 refine (Tells.pure _).bind ?_
 simp only
 by_cases h0:n=0
 ·subst h0
  exact Tells.ifp rfl (Tells.pure _)
 ·rw [if_neg h0]
  have hcd:=Zk0 h0
  refine Tells.ifn (by simp [h0]) ((Zld a e h0 h hd he1 he2).bind ((Zg3 (Zpq h)).bind ?_))
  dsimp only
  by_cases h3:300 < nd (core n)
  ·rw [if_pos h3]
   exact Tells.ifp (by omega) (Tells.pure _)
  ·rw [if_neg h3]
   refine Tells.ifn (by omega) ?_
   by_cases h4:e+tz n < -1000
   ·exact (Tells.ifp h4 (Tells.pure _)).val (by rw [if_pos (Or.inl h4)];rfl)
   ·refine Tells.ifn h4 ?_
    by_cases h5:1000 < e+tz n
    ·exact (Tells.ifp h5 (Tells.pure _)).val (by rw [if_pos (Or.inr h5)];rfl)
    ·exact (Tells.ifn h5 (Tells.pure _)).val (by rw [if_neg (by omega)])
theorem Zpc {n:Nat} (h:(limbs n).length<=256):Tells (fun k=>Zet.f k (limbs n)) (limbs (n / 10),decide (n % 10=0)):=by
 unfold Zet.f
 have h10:(limbs 10).length<=256:=by decide +kernel
 refine (Zgl 10 (by omega)).bind ((Zjf h h10).bind ((Tells.pure _).val ?_))
 rw [if_neg (by omega)]
 dsimp only
 congr 1
 by_cases h0:n % 10=0
 ·rw [h0];rfl
 ·have:0 < (limbs (n % 10)).length:=List.length_pos_iff.2 (Zeq h0)
  rw [decide_eq_false h0]
  exact beq_eq_false_iff_ne.2 (by omega)
theorem Zgz (a:Bool) (l:List Int) (e:Int) (hd:Dg 4294967296 l) (hl:l.length<=9223372036854775807):Tells (fun k=>Zbg.f k a l e) (chk a l e):=by
 unfold Zbg.f
 rw [Zhd l hl]
 refine (Tells.pure _).bind ?_
 have bad:chk a l e=9->Tells (fun k=>Zbg.j0 k true a l e) (chk a l e):=fun h=>by
  rw [h]
  refine Tells.succ ?_
  simp only [Zbg.j0]
  exact Tells.ifp trivial (Tells.pure _)
 by_cases hc:chkL l=0
 ·refine Tells.ifp hc ?_
  by_cases h40:l.length<=40
  ·rw [decide_eq_false (show ¬ ((l.length:Int) > 40) by omega)]
   have hok:=(Zkr hd).1 hc
   obtain ⟨n,hn⟩:∃ n,num l=n:=⟨_,rfl⟩
   have hln:l=limbs n:=by rw [<- hn];exact (Zjz hok).symm
   have hchk:chk a l e=if okB ⟨a,n,e⟩=true then 0 else 9:=by
    unfold chk
    rw [hn]
    by_cases h:okB ⟨a,n,e⟩=true
    ·rw [if_pos ⟨hc,h40,h⟩,if_pos h]
    ·rw [if_neg (fun q=>h q.2.2),if_neg h]
   rw [hchk]
   subst hln
   have h256:(limbs n).length<=256:=by omega
   unfold okB
   simp only
   refine Tells.succ ?_
   simp only [Zbg.j0]
   refine Tells.ifn (by simp) ?_
   by_cases h0:n=0
   ·subst h0
    rw [if_pos rfl]
    refine Tells.ifp rfl ?_
    cases a
    ·refine Tells.ifn (by simp) ?_
     by_cases he:e=0
     ·subst he;exact Tells.ifp rfl (Tells.pure _)
     ·refine Tells.ifn he ((Tells.pure _).val ?_)
      simp [he]
    ·exact Tells.ifp rfl (Tells.pure _)
   ·have hpos:0 < (limbs n).length:=List.length_pos_iff.2 (Zeq h0)
    rw [if_neg h0]
    refine Tells.ifn (by omega) ((Zpc h256).bind ?_)
    dsimp only
    by_cases hz:n % 10=0
    ·rw [decide_eq_false (not_not_intro hz)]
     exact Tells.ifp (decide_eq_true hz) (Tells.pure _)
    ·rw [decide_eq_true hz]
     refine Tells.ifn (by simp [hz]) ((Zg3 h256).bind ?_)
     by_cases h3:nd n<=300
     ·rw [decide_eq_true h3]
      refine Tells.ifn (by omega) ?_
      by_cases h4:e < -1000
      ·rw [decide_eq_false (show ¬ (-1000<=e) by omega)]
       exact Tells.ifp h4 (Tells.pure _)
      ·rw [decide_eq_true (show -1000<=e by omega)]
       refine Tells.ifn h4 ?_
       by_cases h5:1000 < e
       ·rw [decide_eq_false (show ¬ (e<=1000) by omega)]
        exact Tells.ifp h5 (Tells.pure _)
       ·rw [decide_eq_true (show e<=1000 by omega)]
        exact Tells.ifn h5 (Tells.pure _)
     ·rw [decide_eq_false h3]
      exact Tells.ifp (by omega) (Tells.pure _)
  ·rw [decide_eq_true (show ((l.length:Int) > 40) by omega)]
   exact bad (by unfold chk;rw [if_neg (fun q=>h40 q.2.1)])
 ·exact Tells.ifn hc (bad (by unfold chk;rw [if_neg (fun q=>hc q.1)]))
theorem DCheck (D:Dm) (h:OkD D):Tells (fun k=>Zbg.f k D.neg (limbs D.n) D.e) 0:=by
 have h1:=Zfg h
 have := Zgz D.neg (limbs D.n) D.e (Zc7 _) (by omega)
 rw [Zly h] at this
 exact this
theorem Zfb {n:Nat} (h:nd n<=2304):(limbs n).length<=256:=Zim (by omega)
theorem Zrb (l:List Int) (h:l.length<=10000):Zaf.f l=some l:=by unfold Zaf.f;rw [if_pos (by omega)]
theorem Zit (s:Bool) (n:Nat) (e:Int) (h:(limbs n).length<=256) (hd:nd n<=2400):Tells (fun k=>Zaq.f k s (limbs n) e) (if e < -4000\/4000 < e then (false,[],0,52) else outD (settleD ⟨s,n,e⟩)):=by
 have bad:Tells (fun k=>Zaq.j0 k s (limbs n) e true) (false,[],0,52):=by
  refine Tells.succ ?_
  simp only [Zaq.j0]
  exact Tells.ifp trivial (Tells.pure _)
 unfold Zaq.f
 rw [chkN h]
 refine (Tells.pure _).bind (Tells.ifp rfl ?_)
 by_cases h1:e < -4000
 ·rw [if_pos (.inl h1)]
  exact Tells.ifp h1 bad
 ·refine Tells.ifn h1 ?_
  by_cases h2:4000 < e
  ·rw [if_pos (.inr h2),decide_eq_true (show e > 4000 from h2)]
   exact bad
  ·rw [if_neg (by omega),decide_eq_false (show ¬ (e > 4000) from h2)]
   refine Tells.succ ?_
   simp only [Zaq.j0]
   rw [Zrb _ (by omega)]
   exact Tells.ifn (by simp) ((Tells.pure _).bind ((Zkf s e h hd (by omega) (by omega)).bind (Tells.pure _)))
end YtjbjkmccfocikaaGreatDoor.P
end
section
namespace YtjbjkmccfocikaaGreatDoor.B
open Go.RowKit Go.Shelf YtjbjkmccfocikaaGreatDoorW.PrintWords
theorem Zf3 (b o j:Nat):(⟨b,o,none⟩:Addr).add j=⟨b,o+j,none⟩:=by unfold Addr.add;split <;> simp_all
end YtjbjkmccfocikaaGreatDoor.B
end
section
namespace YtjbjkmccfocikaaGreatDoor.B
open Go.RowKit YtjbjkmccfocikaaGreatDoorW.PrintWords YtjbjkmccfocikaaGreatDoorW.PrintLast YtjbjkmccfocikaaGreatDoorW.PrintMore
attribute [local go_sem] Zb7 Zb9 Zcr Zcs Zbp Zbq Zb8 Zca
def Zaj.f (a0:ByteArray) (a1:Int):Option (Bool):=if a1 < (a0.size:Int) then (if 0<=a1 then (if (bt a0 a1) >= 48 then (some (decide ((bt a0 a1)<=57))) else (some false)) else (none)) else (some false)
theorem Zaj.calls (a0:ByteArray) (a1:Int) (r:Bool) (w:World) (h:Zaj.f a0 a1=some r) :
  Calls Tryz.prog 153 #[.string a0,.int .i64 a1] w fun e w'=>e=.returned (.bool r)/\Drawn0 w w':=by
 have H:(if a1 < (a0.size:Int) then (if 0<=a1 then (if (bt a0 a1) >= 48 then (some (decide ((bt a0 a1)<=57))) else (some false)) else (none)) else (some false))=some r:=h
 clear h
 by_cases c3:a1 < (a0.size:Int)
 ·rw [if_pos c3] at H
  have c3b0:decide (a1 < (a0.size:Int))=true:=decide_eq_true c3
  clear c3
  by_cases c4:0<=a1
  ·rw [if_pos c4] at H
   have c4b0:decide (0<=a1)=true:=decide_eq_true c4
   clear c4
   by_cases c6:(bt a0 a1) >= 48
   ·rw [if_pos c6] at H
    have c6b0:decide (48<=(bt a0 a1))=true:=decide_eq_true c6
    clear c6
    obtain rfl:=Option.some.inj H
    have p5:0<=(a1:Int):=of_decide_eq_true pQ
    have q5:a1 < (a0.size:Int):=of_decide_eq_true pQ
    have hx5:=Zdv a0 a1
    replace p5:=eq_true p5
    replace q5:=eq_true q5
    have p7:0<=(a1:Int):=of_decide_eq_true pQ
    have q7:a1 < (a0.size:Int):=of_decide_eq_true pQ
    have hx7:=Zdv a0 a1
    replace p7:=eq_true p7
    replace q7:=eq_true q7
    go_enter Tryz.func153,Tryz.ntmps153
    go_wp2
    go_ret
    exact ⟨pR,pD⟩
   ·rw [if_neg c6] at H
    have c6b0:decide (48<=(bt a0 a1))=false:=decide_eq_false c6
    clear c6
    obtain rfl:=Option.some.inj H
    have p5:0<=(a1:Int):=of_decide_eq_true pQ
    have q5:a1 < (a0.size:Int):=of_decide_eq_true pQ
    have hx5:=Zdv a0 a1
    replace p5:=eq_true p5
    replace q5:=eq_true q5
    go_enter Tryz.func153,Tryz.ntmps153
    go_wp2
    go_ret
    exact ⟨pR,pD⟩
  ·rw [if_neg c4] at H
   exact absurd H (by simp)
 ·rw [if_neg c3] at H
  have c3b0:decide (a1 < (a0.size:Int))=false:=decide_eq_false c3
  clear c3
  obtain rfl:=Option.some.inj H
  go_enter Tryz.func153,Tryz.ntmps153
  go_wp2
  go_ret
  exact ⟨pR,pD⟩
mutual
def Ze.j0:Nat->ByteArray->Int->Bool->Option (Int × Bool)
 | 0,_,_,_=>none
 | k+1,x0,x1,x15=>if x15=true then (Ze.j1 k x0 (wrap64 (x1+1))) else (Ze.j1 k x0 x1)
def Ze.j1:Nat->ByteArray->Int->Option (Int × Bool)
 | 0,_,_=>none
 | k+1,x0,x1=>(Zaj.f x0 x1).bind fun qc=>(if qc=true then (if 0<=x1 then (if x1 < (x0.size:Int) then (if (bt x0 x1)=48 then (Ze.j3 k x0 (wrap64 (x1+1))) else (Ze.l0 k x0 x1)) else (none)) else (none)) else (some (x1,false)))
def Ze.j3:Nat->ByteArray->Int->Option (Int × Bool)
 | 0,_,_=>none
 | k+1,x0,x1=>if x1 < (x0.size:Int) then (if 0<=x1 then (Ze.j4 k x0 x1 ((bt x0 x1) == 46)) else (none)) else (Ze.j4 k x0 x1 false)
def Ze.j4:Nat->ByteArray->Int->Bool->Option (Int × Bool)
 | 0,_,_,_=>none
 | k+1,x0,x1,x43=>if x43=true then ((Zaj.f x0 (wrap64 (x1+1))).bind fun qe=>(if qe=true then (Ze.l1 k x0 (wrap64 (x1+1))) else (some (wrap64 (x1+1),false)))) else (Ze.j6 k x0 x1)
def Ze.j6:Nat->ByteArray->Int->Option (Int × Bool)
 | 0,_,_=>none
 | k+1,x0,x1=>if x1 < (x0.size:Int) then (if 0<=x1 then (if (bt x0 x1)=101 then (Ze.j7 k x0 x1 true) else (Ze.j7 k x0 x1 ((bt x0 x1) == 69))) else (none)) else (Ze.j7 k x0 x1 false)
def Ze.j7:Nat->ByteArray->Int->Bool->Option (Int × Bool)
 | 0,_,_,_=>none
 | k+1,x0,x1,x71=>if x71=true then (if (wrap64 (x1+1)) < (x0.size:Int) then (if 0<=(wrap64 (x1+1)) then (if (bt x0 (wrap64 (x1+1)))=43 then (Ze.j8 k x0 (wrap64 (x1+1)) true) else (Ze.j8 k x0 (wrap64 (x1+1)) ((bt x0 (wrap64 (x1+1))) == 45))) else (none)) else (Ze.j8 k x0 (wrap64 (x1+1)) false)) else (some (x1,true))
def Ze.j8:Nat->ByteArray->Int->Bool->Option (Int × Bool)
 | 0,_,_,_=>none
 | k+1,x0,x1,x89=>if x89=true then (Ze.j9 k x0 (wrap64 (x1+1))) else (Ze.j9 k x0 x1)
def Ze.j9:Nat->ByteArray->Int->Option (Int × Bool)
 | 0,_,_=>none
 | k+1,x0,x1=>(Zaj.f x0 x1).bind fun qg=>(if qg=true then (Ze.l2 k x0 x1) else (some (x1,false)))
def Ze.l2:Nat->ByteArray->Int->Option (Int × Bool)
 | 0,_,_=>none
 | k+1,x0,x1=>(Zaj.f x0 x1).bind fun qh=>(if qh=true then (Ze.l2 k x0 (wrap64 (x1+1))) else (some (x1,true)))
def Ze.l1:Nat->ByteArray->Int->Option (Int × Bool)
 | 0,_,_=>none
 | k+1,x0,x1=>(Zaj.f x0 x1).bind fun qf=>(if qf=true then (Ze.l1 k x0 (wrap64 (x1+1))) else (Ze.j6 k x0 x1))
def Ze.l0:Nat->ByteArray->Int->Option (Int × Bool)
 | 0,_,_=>none
 | k+1,x0,x1=>(Zaj.f x0 x1).bind fun qd=>(if qd=true then (Ze.l0 k x0 (wrap64 (x1+1))) else (Ze.j3 k x0 x1))
end
def Ze.f (k:Nat) (a0:ByteArray) (a1:Int):Option (Int × Bool):=if a1 < (a0.size:Int) then (if 0<=a1 then (Ze.j0 k a0 a1 ((bt a0 a1) == 45)) else (none)) else (Ze.j0 k a0 a1 false)
theorem Ze.calls (k:Nat) (a0:ByteArray) (a1:Int) (r1:Int) (r2:Bool) (w:World) (h:Ze.f k a0 a1=some (r1,r2)) :
  Calls Tryz.prog 117 #[.string a0,.int .i64 a1] w fun e w'=>e=.returned (.tuple #[.int .i64 r1,.bool r2])/\Drawn0 w w':=by
 have H:(if a1 < (a0.size:Int) then (if 0<=a1 then (Ze.j0 k a0 a1 ((bt a0 a1) == 45)) else (none)) else (Ze.j0 k a0 a1 false))=some (r1,r2):=h
 clear h
 have HC3:=am H
 clear H
 go_enter Tryz.func117,Tryz.ntmps117
 go_upto_region 1 with (fail)
 go_cut [15] (fun v15 wc => ∃ (kq:Nat) (x15_2:Bool),v15=.bool x15_2/\Aside0 (Ze.j0 kq a0 a1 x15_2=some (r1,r2))/\Aside0 (kq<=k)/\Drawn0 w wc)
 case first =>
  have H:=HC3.o
  clear HC3
  by_cases c4:a1 < (a0.size:Int)
  ·rw [if_pos c4] at H
   have c4b0:decide (a1 < (a0.size:Int))=true:=decide_eq_true c4
   clear c4
   (first|rw [c4b0]|(simp only [Zcd,Zdb];rw [c4b0])|skip)
   by_cases c5:0<=a1
   ·rw [if_pos c5] at H
    have c5b0:decide (0<=a1)=true:=decide_eq_true c5
    clear c5
    have H':=am H
    clear H
    have p6:0<=(a1:Int):=of_decide_eq_true pQ
    have q6:a1 < (a0.size:Int):=of_decide_eq_true pQ
    have hx6:=Zdv a0 a1
    replace p6:=eq_true p6
    replace q6:=eq_true q6
    go_wp2
    go_meet
    case rel=>exact ⟨_,(((bt a0 a1) == 45)),pR,H',⟨by first|omega|exact Nat.le_refl _⟩,pD⟩
   ·rw [if_neg c5] at H
    exact absurd H (by simp)
  ·rw [if_neg c4] at H
   have c4b0:decide (a1 < (a0.size:Int))=false:=decide_eq_false c4
   clear c4
   (first|rw [c4b0]|(simp only [Zcd,Zdb];rw [c4b0])|skip)
   have H':=am H
   clear H
   go_wp2
   go_meet
   case rel=>exact ⟨_,(false),pR,H',⟨by first|omega|exact Nat.le_refl _⟩,pD⟩
 case rest =>
  clear HC3
  obtain ⟨kq,x15_2,rfl,HA,HJ2,⟨mc2,rfl⟩⟩:=hcut
  cases kq with
  | zero=>exact absurd HA.out (by simp [Ze.j0])
  | succ kj2 =>
   have H:=HA.out
   clear HA
   simp only [Ze.j0] at H
   have HC7:=am H
   clear H
   go_upto_if 15 with (fail)
   go_cut [1] (fun v1 wc => ∃ (kq:Nat) (x1_6:Int),v1=.int .i64 x1_6/\Aside0 (Ze.j1 kq a0 x1_6=some (r1,r2))/\Aside0 (kq<=kj2)/\Drawn0 w wc)
   case first =>
    have H:=HC7.o
    clear HC7
    by_cases c8:x15_2=true
    ·subst c8
     rw [if_pos rfl] at H
     have H':=am H
     clear H
     go_wp2
     go_meet
     case rel=>exact ⟨_,(wrap64 (a1+1)),pR,H',⟨by have := HJ2.o;first|omega|exact Nat.le_refl _⟩,pD⟩
    ·replace c8:=Bool.eq_false_iff.mpr c8
     subst c8
     rw [if_neg (show ¬ (false=true) by decide)] at H
     have H':=am H
     clear H
     go_wp2
     go_meet
     case rel=>exact ⟨_,(a1),pR,H',⟨by have := HJ2.o;first|omega|exact Nat.le_refl _⟩,pD⟩
   case rest =>
    clear HC7
    obtain ⟨kq,x1_6,rfl,HA,HJ6,⟨mc6,rfl⟩⟩:=hcut
    cases kq with
    | zero=>exact absurd HA.out (by simp [Ze.j1])
    | succ kj6 =>
     have H:=HA.out
     clear HA
     simp only [Ze.j1] at H
     obtain ⟨qc,A9,H⟩:=ob H
     by_cases c10:qc=true
     ·subst c10
      rw [if_pos rfl] at H
      by_cases c11:0<=x1_6
      ·rw [if_pos c11] at H
       have c11b0:decide (0<=x1_6)=true:=decide_eq_true c11
       clear c11
       by_cases c12:x1_6 < (a0.size:Int)
       ·rw [if_pos c12] at H
        have c12b0:decide (x1_6 < (a0.size:Int))=true:=decide_eq_true c12
        clear c12
        have HC14:=am H
        clear H
        go_upto_if 26 with (first|(refine gL (some 20) Tryz.func153 #[.string a0,.int .i64 x1_6] (h:=?_);(with_reducible refine (Zaj.calls a0 x1_6 true _ A9.o).mono ?_);rintro e w' ⟨rfl,⟨nd,rfl⟩⟩;refine ⟨_,rfl,?_⟩;have p13:0<=(x1_6:Int):=of_decide_eq_true pQ;have q13:x1_6 < (a0.size:Int):=of_decide_eq_true pQ;have hx13:=Zdv a0 x1_6;replace p13:=eq_true p13;replace q13:=eq_true q13))
        (try simp only [Act.put,List.setIfInBounds_toArray,List.set_cons_zero,List.set_cons_succ])
        go_cut [1] (fun v1 wc => ∃ (kq:Nat) (x1_13:Int),v1=.int .i64 x1_13/\Aside0 (Ze.j3 kq a0 x1_13=some (r1,r2))/\Aside0 (kq<=kj6)/\Drawn0 w wc)
        case first =>
         have H:=HC14.o
         clear HC14
         by_cases c15:(bt a0 x1_6)=48
         ·rw [if_pos c15] at H
          have c15b0:((bt a0 x1_6) == 48)=true:=beq_iff_eq.mpr c15
          have c15b1:((bt a0 x1_6) != 48)=false:=bne_eq_false_iff_eq.mpr c15
          clear c15
          (first|rw [c15b0]|(simp only [Zcd,Zdb];rw [c15b0])|skip)
          have H':=am H
          clear H
          go_wp2
          go_meet
          case rel=>exact ⟨_,(wrap64 (x1_6+1)),pR,H',⟨by have := HJ2.o;have := HJ6.o;first|omega|exact Nat.le_refl _⟩,pD⟩
         ·rw [if_neg c15] at H
          have c15b0:((bt a0 x1_6) == 48)=false:=beq_eq_false_iff_ne.mpr c15
          have c15b1:((bt a0 x1_6) != 48)=true:=bne_iff_ne.mpr c15
          (first|rw [c15b0]|(simp only [Zcd,Zdb];rw [c15b0])|skip)
          have H':=am H
          clear H
          go_wp2
          go_loopg [1] kj6 (fun kq v1 w' => ∃ (x1_3:Int),v1=.int .i64 x1_3/\Aside0 (Ze.l0 kq a0 x1_3=some (r1,r2))/\Aside0 (kq<=kj6)/\Drawn0 w w')
          case atStart=>exact ⟨(x1_6),pR,H',⟨Nat.le_refl _⟩,pD⟩
          case round =>
           clear H'
           obtain ⟨x1_3,rfl,HA,HK3,⟨m3,rfl⟩⟩:=hrel
           cases gk with
           | zero=>exact absurd HA.out (by simp [Ze.l0])
           | succ k3 =>
            have H:=HA.out
            clear HA
            simp only [Ze.l0] at H
            obtain ⟨qd,A16,H⟩:=ob H
            by_cases c17:qd=true
            ·subst c17
             rw [if_pos rfl] at H
             have H':=am H
             clear H
             go_wp2_with (first|(refine gL (some 31) Tryz.func153 #[.string a0,.int .i64 x1_3] (h:=?_);(with_reducible refine (Zaj.calls a0 x1_3 true _ A16.o).mono ?_);rintro e w' ⟨rfl,⟨nd,rfl⟩⟩;refine ⟨_,rfl,?_⟩))
             go_roundg k3
             case measure=>have := HJ2.o;have := HJ6.o;have := HK3.out;omega
             case rel=>exact ⟨(wrap64 (x1_3+1)),pR,H',⟨by have := HJ2.o;have := HJ6.o;have := HK3.out;omega⟩,pD⟩
            ·replace c17:=Bool.eq_false_iff.mpr c17
             subst c17
             rw [if_neg (show ¬ (false=true) by decide)] at H
             have H':=am H
             clear H
             go_wp2_with (first|(refine gL (some 31) Tryz.func153 #[.string a0,.int .i64 x1_3] (h:=?_);(with_reducible refine (Zaj.calls a0 x1_3 false _ A16.o).mono ?_);rintro e w' ⟨rfl,⟨nd,rfl⟩⟩;refine ⟨_,rfl,?_⟩))
             go_meet
             case rel=>exact ⟨_,(x1_3),pR,H',⟨by have := HJ2.o;have := HJ6.o;have := HK3.out;first|omega|exact Nat.le_refl _⟩,pD⟩
        case rest =>
         clear HC14
         obtain ⟨kq,x1_13,rfl,HA,HJ13,⟨mc13,rfl⟩⟩:=hcut
         cases kq with
         | zero=>exact absurd HA.out (by simp [Ze.j3])
         | succ qj =>
          have H:=HA.out
          clear HA
          simp only [Ze.j3] at H
          have HC18:=am H
          clear H
          go_upto_region 9 with (fail)
          go_cut [43] (fun v43 wc => ∃ (kq:Nat) (x43_17:Bool),v43=.bool x43_17/\Aside0 (Ze.j4 kq a0 x1_13 x43_17=some (r1,r2))/\Aside0 (kq<=qj)/\Drawn0 w wc)
          case first =>
           have H:=HC18.o
           clear HC18
           by_cases c19:x1_13 < (a0.size:Int)
           ·rw [if_pos c19] at H
            have c19b0:decide (x1_13 < (a0.size:Int))=true:=decide_eq_true c19
            clear c19
            (first|rw [c19b0]|(simp only [Zcd,Zdb];rw [c19b0])|skip)
            by_cases c20:0<=x1_13
            ·rw [if_pos c20] at H
             have c20b0:decide (0<=x1_13)=true:=decide_eq_true c20
             clear c20
             have H':=am H
             clear H
             have p21:0<=(x1_13:Int):=of_decide_eq_true pQ
             have q21:x1_13 < (a0.size:Int):=of_decide_eq_true pQ
             have hx21:=Zdv a0 x1_13
             replace p21:=eq_true p21
             replace q21:=eq_true q21
             go_wp2
             go_meet
             case rel=>exact ⟨_,(((bt a0 x1_13) == 46)),pR,H',⟨by have := HJ2.o;have := HJ6.o;have := HJ13.o;first|omega|exact Nat.le_refl _⟩,pD⟩
            ·rw [if_neg c20] at H
             exact absurd H (by simp)
           ·rw [if_neg c19] at H
            have c19b0:decide (x1_13 < (a0.size:Int))=false:=decide_eq_false c19
            clear c19
            (first|rw [c19b0]|(simp only [Zcd,Zdb];rw [c19b0])|skip)
            have H':=am H
            clear H
            go_wp2
            go_meet
            case rel=>exact ⟨_,(false),pR,H',⟨by have := HJ2.o;have := HJ6.o;have := HJ13.o;first|omega|exact Nat.le_refl _⟩,pD⟩
          case rest =>
           clear HC18
           obtain ⟨kq,x43_17,rfl,HA,HJ17,⟨mc17,rfl⟩⟩:=hcut
           cases kq with
           | zero=>exact absurd HA.out (by simp [Ze.j4])
           | succ qa =>
            have H:=HA.out
            clear HA
            simp only [Ze.j4] at H
            have HC22:=am H
            clear H
            go_upto_if 43 with (fail)
            go_cut [1] (fun v1 wc => ∃ (kq:Nat) (x1_21:Int),v1=.int .i64 x1_21/\Aside0 (Ze.j6 kq a0 x1_21=some (r1,r2))/\Aside0 (kq<=qa)/\Drawn0 w wc)
            case first =>
             have H:=HC22.o
             clear HC22
             by_cases c23:x43_17=true
             ·subst c23
              rw [if_pos rfl] at H
              obtain ⟨qe,A24,H⟩:=ob H
              by_cases c25:qe=true
              ·subst c25
               rw [if_pos rfl] at H
               have H':=am H
               clear H
               go_wp2_with (first|(refine gL (some 48) Tryz.func153 #[.string a0,.int .i64 (wrap64 (x1_13+1))] (h:=?_);(with_reducible refine (Zaj.calls a0 (wrap64 (x1_13+1)) true _ A24.o).mono ?_);rintro e w' ⟨rfl,⟨nd,rfl⟩⟩;refine ⟨_,rfl,?_⟩))
               go_loopg [1] qa (fun kq v1 w' => ∃ (x1_5:Int),v1=.int .i64 x1_5/\Aside0 (Ze.l1 kq a0 x1_5=some (r1,r2))/\Aside0 (kq<=qa)/\Drawn0 w w')
               case atStart=>exact ⟨(wrap64 (x1_13+1)),pR,H',⟨Nat.le_refl _⟩,pD⟩
               case round =>
                clear H'
                obtain ⟨x1_5,rfl,HA,HK5,⟨m5,rfl⟩⟩:=hrel
                cases gk with
                | zero=>exact absurd HA.out (by simp [Ze.l1])
                | succ k5 =>
                 have H:=HA.out
                 clear HA
                 simp only [Ze.l1] at H
                 obtain ⟨qf,A26,H⟩:=ob H
                 by_cases c27:qf=true
                 ·subst c27
                  rw [if_pos rfl] at H
                  have H':=am H
                  clear H
                  go_wp2_with (first|(refine gL (some 53) Tryz.func153 #[.string a0,.int .i64 x1_5] (h:=?_);(with_reducible refine (Zaj.calls a0 x1_5 true _ A26.o).mono ?_);rintro e w' ⟨rfl,⟨nd,rfl⟩⟩;refine ⟨_,rfl,?_⟩))
                  go_roundg k5
                  case measure=>have := HJ2.o;have := HJ6.o;have := HJ13.o;have := HJ17.o;have := HK5.out;omega
                  case rel=>exact ⟨(wrap64 (x1_5+1)),pR,H',⟨by have := HJ2.o;have := HJ6.o;have := HJ13.o;have := HJ17.o;have := HK5.out;omega⟩,pD⟩
                 ·replace c27:=Bool.eq_false_iff.mpr c27
                  subst c27
                  rw [if_neg (show ¬ (false=true) by decide)] at H
                  have H':=am H
                  clear H
                  go_wp2_with (first|(refine gL (some 53) Tryz.func153 #[.string a0,.int .i64 x1_5] (h:=?_);(with_reducible refine (Zaj.calls a0 x1_5 false _ A26.o).mono ?_);rintro e w' ⟨rfl,⟨nd,rfl⟩⟩;refine ⟨_,rfl,?_⟩))
                  go_meet
                  case rel=>exact ⟨_,(x1_5),pR,H',⟨by have := HJ2.o;have := HJ6.o;have := HJ13.o;have := HJ17.o;have := HK5.out;first|omega|exact Nat.le_refl _⟩,pD⟩
              ·replace c25:=Bool.eq_false_iff.mpr c25
               subst c25
               rw [if_neg (show ¬ (false=true) by decide)] at H
               simp only [Option.some.injEq,Prod.mk.injEq] at H
               obtain ⟨rfl,rfl⟩:=H
               go_wp2_with (first|(refine gL (some 48) Tryz.func153 #[.string a0,.int .i64 (wrap64 (x1_13+1))] (h:=?_);(with_reducible refine (Zaj.calls a0 (wrap64 (x1_13+1)) false _ A24.o).mono ?_);rintro e w' ⟨rfl,⟨nd,rfl⟩⟩;refine ⟨_,rfl,?_⟩))
               go_ret2
               exact ⟨pR,pD⟩
             ·replace c23:=Bool.eq_false_iff.mpr c23
              subst c23
              rw [if_neg (show ¬ (false=true) by decide)] at H
              have H':=am H
              clear H
              go_wp2
              go_meet
              case rel=>exact ⟨_,(x1_13),pR,H',⟨by have := HJ2.o;have := HJ6.o;have := HJ13.o;have := HJ17.o;first|omega|exact Nat.le_refl _⟩,pD⟩
            case rest =>
             clear HC22
             obtain ⟨kq,x1_21,rfl,HA,HJ21,⟨mc21,rfl⟩⟩:=hcut
             cases kq with
             | zero=>exact absurd HA.out (by simp [Ze.j6])
             | succ qk =>
              have H:=HA.out
              clear HA
              simp only [Ze.j6] at H
              have HC28:=am H
              clear H
              go_upto_region 15 with (fail)
              go_cut [71] (fun v71 wc => ∃ (kq:Nat) (x71_27:Bool),v71=.bool x71_27/\Aside0 (Ze.j7 kq a0 x1_21 x71_27=some (r1,r2))/\Aside0 (kq<=qk)/\Drawn0 w wc)
              case first =>
               have H:=HC28.o
               clear HC28
               by_cases c29:x1_21 < (a0.size:Int)
               ·rw [if_pos c29] at H
                have c29b0:decide (x1_21 < (a0.size:Int))=true:=decide_eq_true c29
                clear c29
                (first|rw [c29b0]|(simp only [Zcd,Zdb];rw [c29b0])|skip)
                by_cases c30:0<=x1_21
                ·rw [if_pos c30] at H
                 have c30b0:decide (0<=x1_21)=true:=decide_eq_true c30
                 clear c30
                 by_cases c32:(bt a0 x1_21)=101
                 ·rw [if_pos c32] at H
                  have c32b0:((bt a0 x1_21) == 101)=true:=beq_iff_eq.mpr c32
                  have c32b1:((bt a0 x1_21) != 101)=false:=bne_eq_false_iff_eq.mpr c32
                  clear c32
                  have H':=am H
                  clear H
                  have p31:0<=(x1_21:Int):=of_decide_eq_true pQ
                  have q31:x1_21 < (a0.size:Int):=of_decide_eq_true pQ
                  have hx31:=Zdv a0 x1_21
                  replace p31:=eq_true p31
                  replace q31:=eq_true q31
                  go_wp2
                  go_meet
                  case rel=>exact ⟨_,(true),pR,H',⟨by have := HJ2.o;have := HJ6.o;have := HJ13.o;have := HJ17.o;have := HJ21.o;first|omega|exact Nat.le_refl _⟩,pD⟩
                 ·rw [if_neg c32] at H
                  have c32b0:((bt a0 x1_21) == 101)=false:=beq_eq_false_iff_ne.mpr c32
                  have c32b1:((bt a0 x1_21) != 101)=true:=bne_iff_ne.mpr c32
                  have H':=am H
                  clear H
                  have p31:0<=(x1_21:Int):=of_decide_eq_true pQ
                  have q31:x1_21 < (a0.size:Int):=of_decide_eq_true pQ
                  have hx31:=Zdv a0 x1_21
                  replace p31:=eq_true p31
                  replace q31:=eq_true q31
                  have p33:0<=(x1_21:Int):=of_decide_eq_true pQ
                  have q33:x1_21 < (a0.size:Int):=of_decide_eq_true pQ
                  have hx33:=Zdv a0 x1_21
                  replace p33:=eq_true p33
                  replace q33:=eq_true q33
                  go_wp2
                  go_meet
                  case rel=>exact ⟨_,(((bt a0 x1_21) == 69)),pR,H',⟨by have := HJ2.o;have := HJ6.o;have := HJ13.o;have := HJ17.o;have := HJ21.o;first|omega|exact Nat.le_refl _⟩,pD⟩
                ·rw [if_neg c30] at H
                 exact absurd H (by simp)
               ·rw [if_neg c29] at H
                have c29b0:decide (x1_21 < (a0.size:Int))=false:=decide_eq_false c29
                clear c29
                (first|rw [c29b0]|(simp only [Zcd,Zdb];rw [c29b0])|skip)
                have H':=am H
                clear H
                go_wp2
                go_meet
                case rel=>exact ⟨_,(false),pR,H',⟨by have := HJ2.o;have := HJ6.o;have := HJ13.o;have := HJ17.o;have := HJ21.o;first|omega|exact Nat.le_refl _⟩,pD⟩
              case rest =>
               clear HC28
               obtain ⟨kq,x71_27,rfl,HA,HJ27,⟨mc27,rfl⟩⟩:=hcut
               cases kq with
               | zero=>exact absurd HA.out (by simp [Ze.j7])
               | succ qb =>
                have H:=HA.out
                clear HA
                simp only [Ze.j7] at H
                by_cases c34:x71_27=true
                ·subst c34
                 rw [if_pos rfl] at H
                 have HC35:=am H
                 clear H
                 go_upto_region 17 with (fail)
                 go_cut [89] (fun v89 wc => ∃ (kq:Nat) (x89_34:Bool),v89=.bool x89_34/\Aside0 (Ze.j8 kq a0 (wrap64 (x1_21+1)) x89_34=some (r1,r2))/\Aside0 (kq<=qb)/\Drawn0 w wc)
                 case first =>
                  have H:=HC35.o
                  clear HC35
                  by_cases c36:(wrap64 (x1_21+1)) < (a0.size:Int)
                  ·rw [if_pos c36] at H
                   have c36b0:decide ((wrap64 (x1_21+1)) < (a0.size:Int))=true:=decide_eq_true c36
                   clear c36
                   (first|rw [c36b0]|(simp only [Zcd,Zdb];rw [c36b0])|skip)
                   obtain ⟨ji37,hji37⟩:∃ j_:Int,(wrap64 (x1_21+1))=j_:=⟨_,rfl⟩
                   replace H:(if 0<=(ji37) then (if (bt a0 (ji37))=43 then (Ze.j8 qb a0 ji37 true) else (Ze.j8 qb a0 ji37 ((bt a0 (ji37)) == 45))) else (none))=some (r1,r2):=by first|(rw [hji37] at H;exact H)|(simp only [hji37] at H ⊢;exact H)
                   (try rw [hji37] at c36b0)
                   have hji37w:(IntKind.i64.wrap (x1_21+1))=ji37:=(Zcd _).trans hji37
                   by_cases c38:0<=(ji37)
                   ·rw [if_pos c38] at H
                    have c38b0:decide (0<=(ji37))=true:=decide_eq_true c38
                    clear c38
                    by_cases c40:(bt a0 (ji37))=43
                    ·rw [if_pos c40] at H
                     have c40b0:((bt a0 (ji37)) == 43)=true:=beq_iff_eq.mpr c40
                     have c40b1:((bt a0 (ji37)) != 43)=false:=bne_eq_false_iff_eq.mpr c40
                     clear c40
                     have H':=am H
                     clear H
                     have p39:0<=((ji37):Int):=of_decide_eq_true pQ
                     have q39:(ji37) < (a0.size:Int):=of_decide_eq_true pQ
                     have hx39:=Zdv a0 (ji37)
                     replace p39:=eq_true p39
                     replace q39:=eq_true q39
                     go_wp2
                     go_meet
                     case rel=>exact ⟨_,(true),pR,(by first|exact H'|(have H_:=H'.out;simp only [<- hji37] at H_;exact ⟨H_⟩)|(refine ⟨?_⟩;have H_:=H'.out;simp only [<- hji37] at H_ ⊢;exact H_)),⟨by have := HJ2.o;have := HJ6.o;have := HJ13.o;have := HJ17.o;have := HJ21.o;have := HJ27.o;first|omega|exact Nat.le_refl _⟩,pD⟩
                    ·rw [if_neg c40] at H
                     have c40b0:((bt a0 (ji37)) == 43)=false:=beq_eq_false_iff_ne.mpr c40
                     have c40b1:((bt a0 (ji37)) != 43)=true:=bne_iff_ne.mpr c40
                     have H':=am H
                     clear H
                     have p39:0<=((ji37):Int):=of_decide_eq_true pQ
                     have q39:(ji37) < (a0.size:Int):=of_decide_eq_true pQ
                     have hx39:=Zdv a0 (ji37)
                     replace p39:=eq_true p39
                     replace q39:=eq_true q39
                     have p41:0<=((ji37):Int):=of_decide_eq_true pQ
                     have q41:(ji37) < (a0.size:Int):=of_decide_eq_true pQ
                     have hx41:=Zdv a0 (ji37)
                     replace p41:=eq_true p41
                     replace q41:=eq_true q41
                     go_wp2
                     go_meet
                     case rel=>exact ⟨_,(((bt a0 (ji37)) == 45)),(by first|rfl|(simp;done)|(simp only [<- hji37] <;> (first|rfl|simp))|(simp [*];done)),(by first|exact H'|(have H_:=H'.out;simp only [<- hji37] at H_;exact ⟨H_⟩)|(refine ⟨?_⟩;have H_:=H'.out;simp only [<- hji37] at H_ ⊢;exact H_)),⟨by have := HJ2.o;have := HJ6.o;have := HJ13.o;have := HJ17.o;have := HJ21.o;have := HJ27.o;first|omega|exact Nat.le_refl _⟩,pD⟩
                   ·rw [if_neg c38] at H
                    exact absurd H (by simp)
                  ·rw [if_neg c36] at H
                   have c36b0:decide ((wrap64 (x1_21+1)) < (a0.size:Int))=false:=decide_eq_false c36
                   clear c36
                   (first|rw [c36b0]|(simp only [Zcd,Zdb];rw [c36b0])|skip)
                   have H':=am H
                   clear H
                   go_wp2
                   go_meet
                   case rel=>exact ⟨_,(false),pR,H',⟨by have := HJ2.o;have := HJ6.o;have := HJ13.o;have := HJ17.o;have := HJ21.o;have := HJ27.o;first|omega|exact Nat.le_refl _⟩,pD⟩
                 case rest =>
                  clear HC35
                  obtain ⟨kq,x89_34,rfl,HA,HJ34,⟨mc34,rfl⟩⟩:=hcut
                  cases kq with
                  | zero=>exact absurd HA.out (by simp [Ze.j8])
                  | succ ql =>
                   have H:=HA.out
                   clear HA
                   simp only [Ze.j8] at H
                   have HC42:=am H
                   clear H
                   go_upto_if 89 with (fail)
                   go_cut [1] (fun v1 wc => ∃ (kq:Nat) (x1_41:Int),v1=.int .i64 x1_41/\Aside0 (Ze.j9 kq a0 x1_41=some (r1,r2))/\Aside0 (kq<=ql)/\Drawn0 w wc)
                   case first =>
                    have H:=HC42.o
                    clear HC42
                    by_cases c43:x89_34=true
                    ·subst c43
                     rw [if_pos rfl] at H
                     have H':=am H
                     clear H
                     go_wp2
                     go_meet
                     case rel=>exact ⟨_,(wrap64 ((wrap64 (x1_21+1))+1)),pR,H',⟨by have := HJ2.o;have := HJ6.o;have := HJ13.o;have := HJ17.o;have := HJ21.o;have := HJ27.o;have := HJ34.o;first|omega|exact Nat.le_refl _⟩,pD⟩
                    ·replace c43:=Bool.eq_false_iff.mpr c43
                     subst c43
                     rw [if_neg (show ¬ (false=true) by decide)] at H
                     have H':=am H
                     clear H
                     go_wp2
                     go_meet
                     case rel=>exact ⟨_,((wrap64 (x1_21+1))),pR,H',⟨by have := HJ2.o;have := HJ6.o;have := HJ13.o;have := HJ17.o;have := HJ21.o;have := HJ27.o;have := HJ34.o;first|omega|exact Nat.le_refl _⟩,pD⟩
                   case rest =>
                    clear HC42
                    obtain ⟨kq,x1_41,rfl,HA,HJ41,⟨mc41,rfl⟩⟩:=hcut
                    cases kq with
                    | zero=>exact absurd HA.out (by simp [Ze.j9])
                    | succ qi =>
                     have H:=HA.out
                     clear HA
                     simp only [Ze.j9] at H
                     obtain ⟨qg,A44,H⟩:=ob H
                     by_cases c45:qg=true
                     ·subst c45
                      rw [if_pos rfl] at H
                      have H':=am H
                      clear H
                      go_wp2_with (first|(refine gL (some 94) Tryz.func153 #[.string a0,.int .i64 x1_41] (h:=?_);(with_reducible refine (Zaj.calls a0 x1_41 true _ A44.o).mono ?_);rintro e w' ⟨rfl,⟨nd,rfl⟩⟩;refine ⟨_,rfl,?_⟩))
                      go_loopg [1] qi (fun kq v1 w' => ∃ (x1_9:Int),v1=.int .i64 x1_9/\Aside0 (Ze.l2 kq a0 x1_9=some (r1,r2))/\Aside0 (kq<=qi)/\Drawn0 w w')
                      case atStart=>exact ⟨(x1_41),pR,H',⟨Nat.le_refl _⟩,pD⟩
                      case round =>
                       clear H'
                       obtain ⟨x1_9,rfl,HA,HK9,⟨m9,rfl⟩⟩:=hrel
                       cases gk with
                       | zero=>exact absurd HA.out (by simp [Ze.l2])
                       | succ k9 =>
                        have H:=HA.out
                        clear HA
                        simp only [Ze.l2] at H
                        obtain ⟨qh,A46,H⟩:=ob H
                        by_cases c47:qh=true
                        ·subst c47
                         rw [if_pos rfl] at H
                         have H':=am H
                         clear H
                         go_wp2_with (first|(refine gL (some 99) Tryz.func153 #[.string a0,.int .i64 x1_9] (h:=?_);(with_reducible refine (Zaj.calls a0 x1_9 true _ A46.o).mono ?_);rintro e w' ⟨rfl,⟨nd,rfl⟩⟩;refine ⟨_,rfl,?_⟩))
                         go_roundg k9
                         case measure=>have := HJ2.o;have := HJ6.o;have := HJ13.o;have := HJ17.o;have := HJ21.o;have := HJ27.o;have := HJ34.o;have := HJ41.o;have := HK9.out;omega
                         case rel=>exact ⟨(wrap64 (x1_9+1)),pR,H',⟨by have := HJ2.o;have := HJ6.o;have := HJ13.o;have := HJ17.o;have := HJ21.o;have := HJ27.o;have := HJ34.o;have := HJ41.o;have := HK9.out;omega⟩,pD⟩
                        ·replace c47:=Bool.eq_false_iff.mpr c47
                         subst c47
                         rw [if_neg (show ¬ (false=true) by decide)] at H
                         simp only [Option.some.injEq,Prod.mk.injEq] at H
                         obtain ⟨rfl,rfl⟩:=H
                         go_wp2_with (first|(refine gL (some 99) Tryz.func153 #[.string a0,.int .i64 x1_9] (h:=?_);(with_reducible refine (Zaj.calls a0 x1_9 false _ A46.o).mono ?_);rintro e w' ⟨rfl,⟨nd,rfl⟩⟩;refine ⟨_,rfl,?_⟩))
                         go_ret2
                         exact ⟨pR,pD⟩
                     ·replace c45:=Bool.eq_false_iff.mpr c45
                      subst c45
                      rw [if_neg (show ¬ (false=true) by decide)] at H
                      simp only [Option.some.injEq,Prod.mk.injEq] at H
                      obtain ⟨rfl,rfl⟩:=H
                      go_wp2_with (first|(refine gL (some 94) Tryz.func153 #[.string a0,.int .i64 x1_41] (h:=?_);(with_reducible refine (Zaj.calls a0 x1_41 false _ A44.o).mono ?_);rintro e w' ⟨rfl,⟨nd,rfl⟩⟩;refine ⟨_,rfl,?_⟩))
                      go_ret2
                      exact ⟨pR,pD⟩
                ·replace c34:=Bool.eq_false_iff.mpr c34
                 subst c34
                 rw [if_neg (show ¬ (false=true) by decide)] at H
                 simp only [Option.some.injEq,Prod.mk.injEq] at H
                 obtain ⟨rfl,rfl⟩:=H
                 go_wp2
                 go_ret2
                 exact ⟨pR,pD⟩
       ·rw [if_neg c12] at H
        exact absurd H (by simp)
      ·rw [if_neg c11] at H
       exact absurd H (by simp)
     ·replace c10:=Bool.eq_false_iff.mpr c10
      subst c10
      rw [if_neg (show ¬ (false=true) by decide)] at H
      simp only [Option.some.injEq,Prod.mk.injEq] at H
      obtain ⟨rfl,rfl⟩:=H
      go_wp2_with (first|(refine gL (some 20) Tryz.func153 #[.string a0,.int .i64 x1_6] (h:=?_);(with_reducible refine (Zaj.calls a0 x1_6 false _ A9.o).mono ?_);rintro e w' ⟨rfl,⟨nd,rfl⟩⟩;refine ⟨_,rfl,?_⟩))
      go_ret2
      exact ⟨pR,pD⟩
mutual
def Zi.j0:Nat->ByteArray->Bool->Option (Bool × List Int × Int × Int)
 | 0,_,_=>none
 | k+1,x0,x18=>if x18=true then (some (false,([]:List Int),0,32)) else (if (x0.size:Int) > 2000 then (some (false,([]:List Int),0,5)) else (if 0 < (x0.size:Int) then (Zi.l0 k x0 ([]:List Int) false 0 ((bt x0 0) == 45) 0) else (none)))
def Zi.l0:Nat->ByteArray->List Int->Bool->Int->Bool->Int->Option (Bool × List Int × Int × Int)
 | 0,_,_,_,_,_,_=>none
 | k+1,x0,x7,x8,x9,qe,qf=>if x9 < (x0.size:Int) then (if 0<=x9 then (if (bt x0 x9)=101 then (Zi.j2 k x0 x7 x8 x9 false qe qf) else (Zi.j2 k x0 x7 x8 x9 ((bt x0 x9) != 69) qe qf)) else (none)) else (Zi.j2 k x0 x7 x8 x9 false qe qf)
def Zi.j2:Nat->ByteArray->List Int->Bool->Int->Bool->Bool->Int->Option (Bool × List Int × Int × Int)
 | 0,_,_,_,_,_,_,_=>none
 | k+1,x0,x7,x8,x9,x52,qe,qf=>if x52=true then (if 0<=x9 then (if x9 < (x0.size:Int) then (if (bt x0 x9)=46 then (Zi.l0 k x0 x7 true (wrap64 (x9+1)) qe qf) else (if (bt x0 x9)=45 then (Zi.l0 k x0 x7 x8 (wrap64 (x9+1)) qe qf) else ((some (([((bt x0 x9) - 48) % 256]:List Int):List Int)).bind fun qp=>(if qp.length+x7.length < 17592186044416 then ((some (qp++x7:List Int)).bind fun qo=>(if x8=true then (Zi.l0 k x0 qo x8 (wrap64 (x9+1)) qe (wrap64 (qf - 1))) else (Zi.l0 k x0 qo x8 (wrap64 (x9+1)) qe qf))) else (none))))) else (none)) else (none)) else (if x9 < (x0.size:Int) then (Zi.l1 k x0 x7 (wrap64 (x9+1)) false 0 0 qe qf) else ((Zq.f k qe x7 qf).bind fun q0=>(some (q0.1,q0.2.1,q0.2.2.1,q0.2.2.2))))
def Zi.l1:Nat->ByteArray->List Int->Int->Bool->Int->Int->Bool->Int->Option (Bool × List Int × Int × Int)
 | 0,_,_,_,_,_,_,_,_=>none
 | k+1,x0,x7,x9,x10,x11,x12,qe,qf=>if x9 < (x0.size:Int) then (if 0<=x9 then (if (bt x0 x9)=45 then (Zi.l1 k x0 x7 (wrap64 (x9+1)) true x11 x12 qe qf) else (if (bt x0 x9)=43 then (Zi.l1 k x0 x7 (wrap64 (x9+1)) x10 x11 x12 qe qf) else (if x11 > 0 then (Zi.j4 k x0 x7 x9 x10 x11 x12 true qe qf) else (Zi.j4 k x0 x7 x9 x10 x11 x12 ((bt x0 x9) != 48) qe qf)))) else (none)) else (if x10=true then ((Zq.f k qe x7 (wrap64 (qf+(wrap64 (-x11))))).bind fun qy=>(some (qy.1,qy.2.1,qy.2.2.1,qy.2.2.2))) else ((Zq.f k qe x7 (wrap64 (qf+x11))).bind fun qz=>(some (qz.1,qz.2.1,qz.2.2.1,qz.2.2.2))))
def Zi.j4:Nat->ByteArray->List Int->Int->Bool->Int->Int->Bool->Bool->Int->Option (Bool × List Int × Int × Int)
 | 0,_,_,_,_,_,_,_,_,_=>none
 | k+1,x0,x7,x9,x10,x11,x12,qab,qe,qf=>if qab=true then (if (wrap64 (x12+1)) > 6 then (some (false,([]:List Int),0,52)) else (if 0<=x9 then (if x9 < (x0.size:Int) then (Zi.l1 k x0 x7 (wrap64 (x9+1)) x10 (wrap64 ((wrap64 (10*x11))+(((bt x0 x9) - 48) % 256))) (wrap64 (x12+1)) qe qf) else (none)) else (none))) else (if x12 > 6 then (some (false,([]:List Int),0,52)) else (if 0<=x9 then (if x9 < (x0.size:Int) then (Zi.l1 k x0 x7 (wrap64 (x9+1)) x10 (wrap64 ((wrap64 (10*x11))+(((bt x0 x9) - 48) % 256))) x12 qe qf) else (none)) else (none)))
end
def Zi.f (k:Nat) (a0:ByteArray):Option (Bool × List Int × Int × Int):=(Ze.f k a0 0).bind fun qq=>(if qq.2=true then (Zi.j0 k a0 (qq.1 != (a0.size:Int))) else (Zi.j0 k a0 true))
theorem Zi.calls (k:Nat) (a0:ByteArray) (r1:Bool) (r2:List Int) (r3:Int) (r4:Int) (w:World) (h:Zi.f k a0=some (r1,r2,r3,r4)) :
  Calls Tryz.prog 58 #[.string a0] w fun e w' => ∃ v1_:Value,e=.returned (.tuple #[.agg #[.bool r1,v1_,.int .i64 r3],.int .i64 r4])/\Kd.R (Kd.int .u32) 85 w' w.heap.size (fun _=>True) v1_ r2/\Below w.heap.size w w':=by
 have hu24:=Tryz.underlying24
 have hu30:=Tryz.underlying30
 have HB:=am (Below.refl w.heap.size w)
 have H:((Ze.f k a0 0).bind fun qq=>(if qq.2=true then (Zi.j0 k a0 (qq.1 != (a0.size:Int))) else (Zi.j0 k a0 true)))=some (r1,r2,r3,r4):=h
 clear h
 obtain ⟨⟨jp,jq⟩,A2,H⟩:=ob H;(try dsimp only at H)
 have HC3:=am H
 clear H
 go_enter Tryz.func58,Tryz.ntmps58
 go_upto_region 2 with (first|((with_reducible refine gd 2 ?_);(try (refine Zau (by rfl) ?_;dsimp only));refine bx 2 #[.bool false,.slice none 0 0,.int .i64 0] 24 (h:=?_);intro qg hg w4 hbox hb;have qb:=am hbox;have qac:=gW hg;replace HB:=bS hb;clear hb hbox hg)|(refine gL (some 15) Tryz.func117 #[.string a0,.int .i64 0] (h:=?_);(with_reducible refine (Ze.calls k a0 0 jp jq _ A2.o).mono ?_);rintro e w' ⟨rfl,⟨nd,rfl⟩⟩;refine ⟨_,rfl,?_⟩))
 (try simp only [Act.put,List.setIfInBounds_toArray,List.set_cons_zero,List.set_cons_succ])
 go_cut [18] (fun v18 wc => ∃ (kq:Nat) (x18_2:Bool),v18=.bool x18_2/\Aside0 (Zi.j0 kq a0 x18_2=some (r1,r2,r3,r4))/\Aside0 (kq<=k)/\Aside0 (wc.heap[qg]? = some (.cells #[.bool false,(.slice none 0 0),.int .i64 0] 24 (0,0)))/\Aside0 (Below w.heap.size w wc))
 case first =>
  have H:=HC3.o
  clear HC3
  by_cases c5:jq=true
  ·subst c5
   rw [if_pos rfl] at H
   have H':=am H
   clear H
   go_wp2
   go_meet
   case rel=>exact ⟨_,((jp != (a0.size:Int))),pR,H',⟨by first|omega|exact Nat.le_refl _⟩,⟨Zb qb.o pl⟩,⟨pB⟩⟩
  ·replace c5:=Bool.eq_false_iff.mpr c5
   subst c5
   rw [if_neg (show ¬ (false=true) by decide)] at H
   have H':=am H
   clear H
   go_wp2
   go_meet
   case rel=>exact ⟨_,(true),pR,H',⟨by first|omega|exact Nat.le_refl _⟩,⟨Zb qb.o pl⟩,⟨pB⟩⟩
 case rest =>
  clear HC3
  obtain ⟨kq,x18_2,rfl,HA,HJ2,qb,HB⟩:=hcut
  cases kq with
  | zero=>exact absurd HA.out (by simp [Zi.j0])
  | succ kj2 =>
   have H:=HA.out
   clear HA
   simp only [Zi.j0] at H
   by_cases c6:x18_2=true
   ·subst c6
    rw [if_pos rfl] at H
    simp only [Option.some.injEq,Prod.mk.injEq] at H
    obtain ⟨rfl,rfl,rfl,rfl⟩:=H
    obtain ⟨_,_,_,_,_,_⟩:=cEc qb.o
    go_wp2
    refine bodyPost_ret (Za1 rfl _ _ qg 24 #[.bool false,.slice none 0 0,.int .i64 0] (0,0) _ rfl (by exact p3 qb) Tryz.underlying24 rfl (by kernel_rfl)) rfl ?_
    exact ⟨_,pE,pN,pB⟩
   ·replace c6:=Bool.eq_false_iff.mpr c6
    subst c6
    rw [if_neg (show ¬ (false=true) by decide)] at H
    by_cases c8:(a0.size:Int) > 2000
    ·rw [if_pos c8] at H
     have c8b0:decide (2000 < (a0.size:Int))=true:=decide_eq_true c8
     have c8b1:decide (2000 < a0.size)=true:=decide_eq_true (by omega)
     clear c8
     simp only [Option.some.injEq,Prod.mk.injEq] at H
     obtain ⟨rfl,rfl,rfl,rfl⟩:=H
     obtain ⟨_,_,_,_,_,_⟩:=cEc qb.o
     go_wp2
     refine bodyPost_ret (Za1 rfl _ _ qg 24 #[.bool false,.slice none 0 0,.int .i64 0] (0,0) _ rfl (by exact p3 qb) Tryz.underlying24 rfl (by kernel_rfl)) rfl ?_
     exact ⟨_,pE,pN,pB⟩
    ·rw [if_neg c8] at H
     have c8b0:decide (2000 < (a0.size:Int))=false:=decide_eq_false c8
     have c8b1:decide (2000 < a0.size)=false:=decide_eq_false (by omega)
     clear c8
     by_cases c10:0 < (a0.size:Int)
     ·rw [if_pos c10] at H
      have c10b0:decide (0 < (a0.size:Int))=true:=decide_eq_true c10
      have c10b1:decide (0 < a0.size)=true:=decide_eq_true (by omega)
      clear c10
      have H':=am H
      clear H
      have p11:0<=(0:Int):=(by omega)
      have q11:0 < a0.size:=(by have:(0:Int) < (a0.size:Int):=of_decide_eq_true pQ;omega)
      have hx11:∀ h:0 < a0.size,((a0[0]'h).toNat:Int)=bt a0 0:=Zdv a0 0
      clear p11
      have qi11:(0 < (a0.size:Int))=True:=eq_true (of_decide_eq_true pQ)
      replace q11:=eq_true q11
      go_wp2_with (first|((with_reducible refine gd 6 ?_);(try (refine Zau (by rfl) ?_;dsimp only));refine bx 6 #[.bool false,.slice none 0 0,.int .i64 0] 30 (h:=?_);intro qj hg w12 hbox hb;have qc:=am hbox;have qad:=gW hg;have qd:=nL hg qb;have qk:=nG hg qb;replace qb:=bb qb hb;replace HB:=bS hb;clear hb hbox hg;have qae:=qk.o;have qal:=qd.o;obtain ⟨_,_,_,_,_,_⟩:=cEc qc.o))
      go_loopg [7,8,9] kj2 (fun kq v7 v8 v9 w' => ∃ (x7_2:List Int) (x8_2:Bool) (x9_2:Int) (qa:Int),v8=.bool x8_2/\v9=.int .i64 x9_2/\Aside0 (Zi.l0 kq a0 x7_2 x8_2 x9_2 ((bt a0 0) == 45) qa=some (r1,r2,r3,r4))/\Aside0 (kq<=kj2)/\Aside0 (Kd.R (Kd.int .i64) 3 w' w.heap.size (fun _=>True) v7 x7_2)/\Aside0 (w'.heap[qg]? = some (.cells #[.bool false,(.slice none 0 0),.int .i64 0] 24 (0,0)))/\Aside0 (w'.heap[qj]? = some (.cells #[.bool ((bt a0 0) == 45),(.slice none 0 0),.int .i64 qa] 30 (0,0)))/\Aside0 (Below w.heap.size w w'))
      case atStart=>exact ⟨(([]:List Int)),(false),(0),(0),pR,pR,H',⟨Nat.le_refl _⟩,⟨pN⟩,⟨bf qd.o qb.o⟩,⟨by exact p3 qc⟩,⟨pB⟩⟩
      case round =>
       clear H'
       obtain ⟨x7_2,x8_2,x9_2,qa,rfl,rfl,HA,HK2,HO_7,qb,qc,HB⟩:=hrel
       cases gk with
       | zero=>exact absurd HA.out (by simp [Zi.l0])
       | succ k2 =>
        have H:=HA.out
        clear HA
        simp only [Zi.l0] at H
        have HC15:=am H
        clear H
        go_upto_region 10 with (fail)
        go_cut [52] (fun v52 wc => ∃ (kq:Nat) (x52_14:Bool),v52=.bool x52_14/\Aside0 (Zi.j2 kq a0 x7_2 x8_2 x9_2 x52_14 ((bt a0 0) == 45) qa=some (r1,r2,r3,r4))/\Aside0 (kq<=k2)/\Aside0 (Kd.R (Kd.int .i64) 3 wc w.heap.size (fun _=>True) u7 x7_2)/\Aside0 (wc.heap[qg]? = some (.cells #[.bool false,(.slice none 0 0),.int .i64 0] 24 (0,0)))/\Aside0 (wc.heap[qj]? = some (.cells #[.bool ((bt a0 0) == 45),(.slice none 0 0),.int .i64 qa] 30 (0,0)))/\Aside0 (Below w.heap.size w wc))
        case first =>
         have H:=HC15.o
         clear HC15
         by_cases c16:x9_2 < (a0.size:Int)
         ·rw [if_pos c16] at H
          have c16b0:decide (x9_2 < (a0.size:Int))=true:=decide_eq_true c16
          clear c16
          (first|rw [c16b0]|(simp only [Zcd,Zdb];rw [c16b0])|skip)
          by_cases c17:0<=x9_2
          ·rw [if_pos c17] at H
           have c17b0:decide (0<=x9_2)=true:=decide_eq_true c17
           clear c17
           by_cases c19:(bt a0 x9_2)=101
           ·rw [if_pos c19] at H
            have c19b0:((bt a0 x9_2) == 101)=true:=beq_iff_eq.mpr c19
            have c19b1:((bt a0 x9_2) != 101)=false:=bne_eq_false_iff_eq.mpr c19
            clear c19
            have H':=am H
            clear H
            have p18:0<=(x9_2:Int):=of_decide_eq_true pQ
            have q18:x9_2 < (a0.size:Int):=of_decide_eq_true pQ
            have hx18:=Zdv a0 x9_2
            replace p18:=eq_true p18
            replace q18:=eq_true q18
            go_wp2
            go_meet
            case rel=>exact ⟨_,(false),pR,H',⟨by have := HJ2.o;have := HK2.out;first|omega|exact Nat.le_refl _⟩,⟨by refine rp ?_;exact HO_7.o⟩,⟨Zb qb.o pl⟩,⟨Zb qc.o pl⟩,⟨pB⟩⟩
           ·rw [if_neg c19] at H
            have c19b0:((bt a0 x9_2) == 101)=false:=beq_eq_false_iff_ne.mpr c19
            have c19b1:((bt a0 x9_2) != 101)=true:=bne_iff_ne.mpr c19
            have H':=am H
            clear H
            have p18:0<=(x9_2:Int):=of_decide_eq_true pQ
            have q18:x9_2 < (a0.size:Int):=of_decide_eq_true pQ
            have hx18:=Zdv a0 x9_2
            replace p18:=eq_true p18
            replace q18:=eq_true q18
            have p20:0<=(x9_2:Int):=of_decide_eq_true pQ
            have q20:x9_2 < (a0.size:Int):=of_decide_eq_true pQ
            have hx20:=Zdv a0 x9_2
            replace p20:=eq_true p20
            replace q20:=eq_true q20
            go_wp2
            go_meet
            case rel=>exact ⟨_,(((bt a0 x9_2) != 69)),pR,H',⟨by have := HJ2.o;have := HK2.out;first|omega|exact Nat.le_refl _⟩,⟨by refine rp ?_;exact HO_7.o⟩,⟨Zb qb.o pl⟩,⟨Zb qc.o pl⟩,⟨pB⟩⟩
          ·rw [if_neg c17] at H
           exact absurd H (by simp)
         ·rw [if_neg c16] at H
          have c16b0:decide (x9_2 < (a0.size:Int))=false:=decide_eq_false c16
          clear c16
          (first|rw [c16b0]|(simp only [Zcd,Zdb];rw [c16b0])|skip)
          have H':=am H
          clear H
          go_wp2
          go_meet
          case rel=>exact ⟨_,(false),pR,H',⟨by have := HJ2.o;have := HK2.out;first|omega|exact Nat.le_refl _⟩,⟨by refine rp ?_;exact HO_7.o⟩,⟨Zb qb.o pl⟩,⟨Zb qc.o pl⟩,⟨pB⟩⟩
        case rest =>
         clear HC15
         obtain ⟨kq,x52_14,rfl,HA,HJ14,HO_7,qb,qc,HB⟩:=hcut
         cases kq with
         | zero=>exact absurd HA.out (by simp [Zi.j2])
         | succ qn =>
          have H:=HA.out
          clear HA
          simp only [Zi.j2] at H
          by_cases c21:x52_14=true
          ·subst c21
           rw [if_pos rfl] at H
           by_cases c22:0<=x9_2
           ·rw [if_pos c22] at H
            have c22b0:decide (0<=x9_2)=true:=decide_eq_true c22
            clear c22
            by_cases c23:x9_2 < (a0.size:Int)
            ·rw [if_pos c23] at H
             have c23b0:decide (x9_2 < (a0.size:Int))=true:=decide_eq_true c23
             clear c23
             by_cases c25:(bt a0 x9_2)=46
             ·rw [if_pos c25] at H
              have c25b0:((bt a0 x9_2) == 46)=true:=beq_iff_eq.mpr c25
              have c25b1:((bt a0 x9_2) != 46)=false:=bne_eq_false_iff_eq.mpr c25
              clear c25
              have H':=am H
              clear H
              have p24:0<=(x9_2:Int):=of_decide_eq_true pQ
              have q24:x9_2 < (a0.size:Int):=of_decide_eq_true pQ
              have hx24:=Zdv a0 x9_2
              replace p24:=eq_true p24
              replace q24:=eq_true q24
              go_wp2
              go_roundg qn
              case measure=>have := HJ2.o;have := HK2.out;have := HJ14.o;omega
              case rel=>exact ⟨(x7_2),(true),(wrap64 (x9_2+1)),(qa),pR,pR,H',⟨by have := HJ2.o;have := HK2.out;have := HJ14.o;omega⟩,⟨by refine rp ?_;exact HO_7.o⟩,⟨Zb qb.o pl⟩,⟨Zb qc.o pl⟩,⟨pB⟩⟩
             ·rw [if_neg c25] at H
              have c25b0:((bt a0 x9_2) == 46)=false:=beq_eq_false_iff_ne.mpr c25
              have c25b1:((bt a0 x9_2) != 46)=true:=bne_iff_ne.mpr c25
              by_cases c27:(bt a0 x9_2)=45
              ·rw [if_pos c27] at H
               have c27b0:((bt a0 x9_2) == 45)=true:=beq_iff_eq.mpr c27
               have c27b1:((bt a0 x9_2) != 45)=false:=bne_eq_false_iff_eq.mpr c27
               clear c27
               have H':=am H
               clear H
               have p24:0<=(x9_2:Int):=of_decide_eq_true pQ
               have q24:x9_2 < (a0.size:Int):=of_decide_eq_true pQ
               have hx24:=Zdv a0 x9_2
               replace p24:=eq_true p24
               replace q24:=eq_true q24
               have p26:0<=(x9_2:Int):=of_decide_eq_true pQ
               have q26:x9_2 < (a0.size:Int):=of_decide_eq_true pQ
               have hx26:=Zdv a0 x9_2
               replace p26:=eq_true p26
               replace q26:=eq_true q26
               go_wp2
               go_roundg qn
               case measure=>have := HJ2.o;have := HK2.out;have := HJ14.o;omega
               case rel=>exact ⟨(x7_2),(x8_2),(wrap64 (x9_2+1)),(qa),pR,pR,H',⟨by have := HJ2.o;have := HK2.out;have := HJ14.o;omega⟩,⟨by refine rp ?_;exact HO_7.o⟩,⟨Zb qb.o pl⟩,⟨Zb qc.o pl⟩,⟨pB⟩⟩
              ·rw [if_neg c27] at H
               have c27b0:((bt a0 x9_2) == 45)=false:=beq_eq_false_iff_ne.mpr c27
               have c27b1:((bt a0 x9_2) != 45)=true:=bne_iff_ne.mpr c27
               obtain ⟨qp,q2⟩:∃ y_:List Int,y_=(([((bt a0 x9_2) - 48) % 256]:List Int)):=⟨_,rfl⟩
               replace H:(if qp.length+x7_2.length < 17592186044416 then ((some (qp++x7_2:List Int)).bind fun qo=>(if x8_2=true then (Zi.l0 qn a0 qo x8_2 (wrap64 (x9_2+1)) ((bt a0 0) == 45) (wrap64 (qa - 1))) else (Zi.l0 qn a0 qo x8_2 (wrap64 (x9_2+1)) ((bt a0 0) == 45) qa))) else (none))=some (r1,r2,r3,r4):=by have hy_:=q2;exact pH
               have qx:=am q2
               clear q2
               by_cases c29:qp.length+x7_2.length < 17592186044416
               ·rw [if_pos c29] at H
                have LMc29:=am c29
                clear c29
                obtain ⟨qo,q3⟩:∃ y_:List Int,y_=(qp++x7_2):=⟨_,rfl⟩
                replace H:(if x8_2=true then (Zi.l0 qn a0 qo x8_2 (wrap64 (x9_2+1)) ((bt a0 0) == 45) (wrap64 (qa - 1))) else (Zi.l0 qn a0 qo x8_2 (wrap64 (x9_2+1)) ((bt a0 0) == 45) qa))=some (r1,r2,r3,r4):=by have hy_:=q3;exact pH
                have q7:=am q3
                clear q3
                by_cases c30:x8_2=true
                ·subst c30
                 rw [if_pos rfl] at H
                 have H':=am H
                 clear H
                 have p24:0<=(x9_2:Int):=of_decide_eq_true pQ
                 have q24:x9_2 < (a0.size:Int):=of_decide_eq_true pQ
                 have hx24:=Zdv a0 x9_2
                 replace p24:=eq_true p24
                 replace q24:=eq_true q24
                 have p26:0<=(x9_2:Int):=of_decide_eq_true pQ
                 have q26:x9_2 < (a0.size:Int):=of_decide_eq_true pQ
                 have hx26:=Zdv a0 x9_2
                 replace p26:=eq_true p26
                 replace q26:=eq_true q26
                 have p28:0<=(x9_2:Int):=of_decide_eq_true pQ
                 have q28:x9_2 < (a0.size:Int):=of_decide_eq_true pQ
                 have hx28:=Zdv a0 x9_2
                 replace p28:=eq_true p28
                 replace q28:=eq_true q28
                 go_wp2_with (first|((with_reducible refine gd 70 ?_);(try (refine Zau (by rfl) ?_;dsimp only));refine Kd.Zf1 (Kd.int .i64) _ 3 ?hg (N:=70) ?hd (xs:=([((bt a0 x9_2) - 48) % 256]:List Int)) (inner:=[.int .i64 (((bt a0 x9_2) - 48) % 256)]) (ok:=fun _=>True) (okp:=fun _=>True) ?hr ?hp (fun _ hk=>hk) trivial (Below.refl _ _) (Nat.le_refl _) (by simp) ?_;(case hd=>rfl);(case hg=>rfl);(case hr=>first|(go_simp;done)|(go_simp;rfl));(case hp=>exact (Reps.one (show Kd.M (Kd.int .i64) _ _ _ (((bt a0 x9_2) - 48) % 256) [.int .i64 (((bt a0 x9_2) - 48) % 256)] from rfl) (Reps.none _ _)));intro jh w31 ho32 hb hg_ hnew_;clear hg_ hnew_;(first|rw [<- qx.out] at ho32|(simp only [Int.reduceToNat] at ho32;rw [<- qx.out] at ho32));have ql:=am (Kd.Zo (Kd.Zs ho32 (Kd.R_lt (Kd.Za HO_7.o pl))) (Zd pB));replace HO_7:=reR HO_7 ho32 hb;replace qb:=bb qb hb;replace qc:=bb qc hb;replace HB:=bS hb;clear hb ho32;obtain ⟨jr,jt,jv⟩:=Kd.Zj HO_7.o;subst jv)|((with_reducible refine Zam (b:=.append) (xs:=#[.tmp 70,.tmp 71]) rfl ?_);(try (refine Zau (by rfl) ?_;dsimp only));at_builtin;refine Kd.Zeg (Kd.int .i64) (w0:=w) w.heap.size rfl (.tmp 70) (.tmp 71) 28 3 (.int .i64 0) 8 rfl Tryz.underlying28 info3 rfl (by decide) (by omega) jh qp x7_2 _ _ _ (fun k_=>some k_ ≠ (.slice jr x7_2.length jt:Value).ownBlock) (fun _=>False) rfl rfl ?aO ?aR (fun _ _ h=>h) (fun _ h=>h.elim) ?aF ?aB ?aS ?aL ?_;(case aR=>exact Kd.Zn (Kd.Zc HO_7.o).2.2 pl);(case aB=>exact pB);(case aF=>exact (fun k_ hk=>Kd.fresh' (Kd.R_lt (Kd.Za HO_7.o pl)) k_ hk));(case aO=>exact (Kd.Za (Kd.Zh ql.o (fun _ hk=>hk.2)) pl));(case aS=>exact (Zd pB));(case aL=>have := LMc29.o;omega);intro qaa w33 ho hb hg hat;rw [<- q7.out] at ho;have q1:=am ho;replace HO_7:=am (Kd.Znp (ok:=(fun _=>True)) (Kd.Za HO_7.o pl) hg hat);replace qb:=am (Zf4 (g:=qg) (o:=.cells #[.bool false,.slice none 0 0,.int .i64 0] 24 (0,0)) (Zb qb.o pl) hg (Kd.R_ne ql.o qb.o (by decide)));replace qc:=am (Zf4 (g:=qj) (o:=.cells #[.bool ((bt a0 0) == 45),.slice none 0 0,.int .i64 qa] 30 (0,0)) (Zb qc.o pl) hg (Kd.R_ne ql.o qc.o (by decide)));replace HB:=am hb;clear ql ho hb hg hat;have qaf:=qk.o;have qam:=qd.o;obtain ⟨_,_,_,_,_,_⟩:=cEc qc.o))
                 go_roundg qn
                 case measure=>have := HJ2.o;have := HK2.out;have := HJ14.o;omega
                 case rel=>exact ⟨(qo),(true),(wrap64 (x9_2+1)),(wrap64 (qa - 1)),pR,pR,H',⟨by have := HJ2.o;have := HK2.out;have := HJ14.o;omega⟩,⟨by refine rp ?_;exact Kd.Zh (Kd.Zr (p:=⟨qj,2,none⟩) (Kd.Zaa q1.o qc.o (by decide)) (fun _ hk=>hk.2) (.int .i64 (wrap64 (qa - 1)))) (fun _ hk=>trivial)⟩,⟨bf qd.o qb.o⟩,⟨by refine bp ?_;refine Za2 (cs:=#[.bool ((bt a0 0) == 45),.slice none 0 0,.int .i64 qa]) ?_ 2 _ rfl;exact bp qc.o⟩,⟨pB⟩⟩
                ·replace c30:=Bool.eq_false_iff.mpr c30
                 subst c30
                 rw [if_neg (show ¬ (false=true) by decide)] at H
                 have H':=am H
                 clear H
                 have p24:0<=(x9_2:Int):=of_decide_eq_true pQ
                 have q24:x9_2 < (a0.size:Int):=of_decide_eq_true pQ
                 have hx24:=Zdv a0 x9_2
                 replace p24:=eq_true p24
                 replace q24:=eq_true q24
                 have p26:0<=(x9_2:Int):=of_decide_eq_true pQ
                 have q26:x9_2 < (a0.size:Int):=of_decide_eq_true pQ
                 have hx26:=Zdv a0 x9_2
                 replace p26:=eq_true p26
                 replace q26:=eq_true q26
                 have p28:0<=(x9_2:Int):=of_decide_eq_true pQ
                 have q28:x9_2 < (a0.size:Int):=of_decide_eq_true pQ
                 have hx28:=Zdv a0 x9_2
                 replace p28:=eq_true p28
                 replace q28:=eq_true q28
                 go_wp2_with (first|((with_reducible refine gd 70 ?_);(try (refine Zau (by rfl) ?_;dsimp only));refine Kd.Zf1 (Kd.int .i64) _ 3 ?hg (N:=70) ?hd (xs:=([((bt a0 x9_2) - 48) % 256]:List Int)) (inner:=[.int .i64 (((bt a0 x9_2) - 48) % 256)]) (ok:=fun _=>True) (okp:=fun _=>True) ?hr ?hp (fun _ hk=>hk) trivial (Below.refl _ _) (Nat.le_refl _) (by simp) ?_;(case hd=>rfl);(case hg=>rfl);(case hr=>first|(go_simp;done)|(go_simp;rfl));(case hp=>exact (Reps.one (show Kd.M (Kd.int .i64) _ _ _ (((bt a0 x9_2) - 48) % 256) [.int .i64 (((bt a0 x9_2) - 48) % 256)] from rfl) (Reps.none _ _)));intro jh w37 ho38 hb hg_ hnew_;clear hg_ hnew_;(first|rw [<- qx.out] at ho38|(simp only [Int.reduceToNat] at ho38;rw [<- qx.out] at ho38));have ql:=am (Kd.Zo (Kd.Zs ho38 (Kd.R_lt (Kd.Za HO_7.o pl))) (Zd pB));replace HO_7:=reR HO_7 ho38 hb;replace qb:=bb qb hb;replace qc:=bb qc hb;replace HB:=bS hb;clear hb ho38;obtain ⟨js,ju,jw⟩:=Kd.Zj HO_7.o;subst jw)|((with_reducible refine Zam (b:=.append) (xs:=#[.tmp 70,.tmp 71]) rfl ?_);(try (refine Zau (by rfl) ?_;dsimp only));at_builtin;refine Kd.Zeg (Kd.int .i64) (w0:=w) w.heap.size rfl (.tmp 70) (.tmp 71) 28 3 (.int .i64 0) 8 rfl Tryz.underlying28 info3 rfl (by decide) (by omega) jh qp x7_2 _ _ _ (fun k_=>some k_ ≠ (.slice js x7_2.length ju:Value).ownBlock) (fun _=>False) rfl rfl ?aO ?aR (fun _ _ h=>h) (fun _ h=>h.elim) ?aF ?aB ?aS ?aL ?_;(case aR=>exact Kd.Zn (Kd.Zc HO_7.o).2.2 pl);(case aB=>exact pB);(case aF=>exact (fun k_ hk=>Kd.fresh' (Kd.R_lt (Kd.Za HO_7.o pl)) k_ hk));(case aO=>exact (Kd.Za (Kd.Zh ql.o (fun _ hk=>hk.2)) pl));(case aS=>exact (Zd pB));(case aL=>have := LMc29.o;omega);intro qaa w39 ho hb hg hat;rw [<- q7.out] at ho;have q1:=am ho;replace HO_7:=am (Kd.Znp (ok:=(fun _=>True)) (Kd.Za HO_7.o pl) hg hat);replace qb:=am (Zf4 (g:=qg) (o:=.cells #[.bool false,.slice none 0 0,.int .i64 0] 24 (0,0)) (Zb qb.o pl) hg (Kd.R_ne ql.o qb.o (by decide)));replace qc:=am (Zf4 (g:=qj) (o:=.cells #[.bool ((bt a0 0) == 45),.slice none 0 0,.int .i64 qa] 30 (0,0)) (Zb qc.o pl) hg (Kd.R_ne ql.o qc.o (by decide)));replace HB:=am hb;clear ql ho hb hg hat))
                 go_roundg qn
                 case measure=>have := HJ2.o;have := HK2.out;have := HJ14.o;omega
                 case rel=>exact ⟨(qo),(false),(wrap64 (x9_2+1)),(qa),pR,pR,H',⟨by have := HJ2.o;have := HK2.out;have := HJ14.o;omega⟩,⟨by refine rp ?_;exact Kd.Zh q1.o (fun _ hk=>trivial)⟩,⟨Zb qb.o pl⟩,⟨Zb qc.o pl⟩,⟨pB⟩⟩
               ·rw [if_neg c29] at H
                exact absurd H (by simp)
            ·rw [if_neg c23] at H
             exact absurd H (by simp)
           ·rw [if_neg c22] at H
            exact absurd H (by simp)
          ·replace c21:=Bool.eq_false_iff.mpr c21
           subst c21
           rw [if_neg (show ¬ (false=true) by decide)] at H
           by_cases c41:x9_2 < (a0.size:Int)
           ·rw [if_pos c41] at H
            have c41b0:decide (x9_2 < (a0.size:Int))=true:=decide_eq_true c41
            clear c41
            have H':=am H
            clear H
            go_wp2
            go_loopg [9,10,11,12] qn (fun kq v9 v10 v11 v12 w' => ∃ (x9_4:Int) (x10_4:Bool) (x11_4:Int) (x12_4:Int) (qh:Bool) (qi:Int),v9=.int .i64 x9_4/\v10=.bool x10_4/\v11=.int .i64 x11_4/\v12=.int .i64 x12_4/\Aside0 (Zi.l1 kq a0 x7_2 x9_4 x10_4 x11_4 x12_4 ((bt a0 0) == 45) qa=some (r1,r2,r3,r4))/\Aside0 (kq<=qn)/\Aside0 (Kd.R (Kd.int .i64) 3 w' w.heap.size (fun _=>True) u7 x7_2)/\Aside0 (w'.heap[qg]? = some (.cells #[.bool qh,(.slice none 0 0),.int .i64 qi] 24 (0,0)))/\Aside0 (w'.heap[qj]? = some (.cells #[.bool ((bt a0 0) == 45),(.slice none 0 0),.int .i64 qa] 30 (0,0)))/\Aside0 (Below w.heap.size w w'))
            case atStart=>exact ⟨(wrap64 (x9_2+1)),(false),(0),(0),(false),(0),pR,pR,pR,pR,H',⟨Nat.le_refl _⟩,⟨by refine rp ?_;exact HO_7.o⟩,⟨Zb qb.o pl⟩,⟨Zb qc.o pl⟩,⟨pB⟩⟩
            case round =>
             clear H'
             obtain ⟨x9_4,x10_4,x11_4,x12_4,qh,qi,rfl,rfl,rfl,rfl,HA,HK4,HO_7,qb,qc,HB⟩:=hrel
             cases gk with
             | zero=>exact absurd HA.out (by simp [Zi.l1])
             | succ k4 =>
              have H:=HA.out
              clear HA
              simp only [Zi.l1] at H
              by_cases c42:x9_4 < (a0.size:Int)
              ·rw [if_pos c42] at H
               have c42b0:decide (x9_4 < (a0.size:Int))=true:=decide_eq_true c42
               clear c42
               by_cases c43:0<=x9_4
               ·rw [if_pos c43] at H
                have c43b0:decide (0<=x9_4)=true:=decide_eq_true c43
                clear c43
                by_cases c45:(bt a0 x9_4)=45
                ·rw [if_pos c45] at H
                 have c45b0:((bt a0 x9_4) == 45)=true:=beq_iff_eq.mpr c45
                 have c45b1:((bt a0 x9_4) != 45)=false:=bne_eq_false_iff_eq.mpr c45
                 clear c45
                 have H':=am H
                 clear H
                 have p44:0<=(x9_4:Int):=of_decide_eq_true pQ
                 have q44:x9_4 < (a0.size:Int):=of_decide_eq_true pQ
                 have hx44:=Zdv a0 x9_4
                 replace p44:=eq_true p44
                 replace q44:=eq_true q44
                 go_wp2
                 go_roundg k4
                 case measure=>have := HJ2.o;have := HK2.out;have := HJ14.o;have := HK4.out;omega
                 case rel=>exact ⟨(wrap64 (x9_4+1)),(true),(x11_4),(x12_4),(qh),(qi),pR,pR,pR,pR,H',⟨by have := HJ2.o;have := HK2.out;have := HJ14.o;have := HK4.out;omega⟩,⟨by refine rp ?_;exact HO_7.o⟩,⟨Zb qb.o pl⟩,⟨Zb qc.o pl⟩,⟨pB⟩⟩
                ·rw [if_neg c45] at H
                 have c45b0:((bt a0 x9_4) == 45)=false:=beq_eq_false_iff_ne.mpr c45
                 have c45b1:((bt a0 x9_4) != 45)=true:=bne_iff_ne.mpr c45
                 by_cases c47:(bt a0 x9_4)=43
                 ·rw [if_pos c47] at H
                  have c47b0:((bt a0 x9_4) == 43)=true:=beq_iff_eq.mpr c47
                  have c47b1:((bt a0 x9_4) != 43)=false:=bne_eq_false_iff_eq.mpr c47
                  clear c47
                  have H':=am H
                  clear H
                  have p44:0<=(x9_4:Int):=of_decide_eq_true pQ
                  have q44:x9_4 < (a0.size:Int):=of_decide_eq_true pQ
                  have hx44:=Zdv a0 x9_4
                  replace p44:=eq_true p44
                  replace q44:=eq_true q44
                  have p46:0<=(x9_4:Int):=of_decide_eq_true pQ
                  have q46:x9_4 < (a0.size:Int):=of_decide_eq_true pQ
                  have hx46:=Zdv a0 x9_4
                  replace p46:=eq_true p46
                  replace q46:=eq_true q46
                  go_wp2
                  go_roundg k4
                  case measure=>have := HJ2.o;have := HK2.out;have := HJ14.o;have := HK4.out;omega
                  case rel=>exact ⟨(wrap64 (x9_4+1)),(x10_4),(x11_4),(x12_4),(qh),(qi),pR,pR,pR,pR,H',⟨by have := HJ2.o;have := HK2.out;have := HJ14.o;have := HK4.out;omega⟩,⟨by refine rp ?_;exact HO_7.o⟩,⟨Zb qb.o pl⟩,⟨Zb qc.o pl⟩,⟨pB⟩⟩
                 ·rw [if_neg c47] at H
                  have c47b0:((bt a0 x9_4) == 43)=false:=beq_eq_false_iff_ne.mpr c47
                  have c47b1:((bt a0 x9_4) != 43)=true:=bne_iff_ne.mpr c47
                  have HC48:=am H
                  clear H
                  have p44:0<=(x9_4:Int):=of_decide_eq_true pQ
                  have q44:x9_4 < (a0.size:Int):=of_decide_eq_true pQ
                  have hx44:=Zdv a0 x9_4
                  replace p44:=eq_true p44
                  replace q44:=eq_true q44
                  have p46:0<=(x9_4:Int):=of_decide_eq_true pQ
                  have q46:x9_4 < (a0.size:Int):=of_decide_eq_true pQ
                  have hx46:=Zdv a0 x9_4
                  replace p46:=eq_true p46
                  replace q46:=eq_true q46
                  go_upto_region 26 with (fail)
                  go_cut [107] (fun j9 wc => ∃ (kq:Nat) (qm:Bool),j9=.bool qm/\Aside0 (Zi.j4 kq a0 x7_2 x9_4 x10_4 x11_4 x12_4 qm ((bt a0 0) == 45) qa=some (r1,r2,r3,r4))/\Aside0 (kq<=k4)/\Aside0 (Kd.R (Kd.int .i64) 3 wc w.heap.size (fun _=>True) u7 x7_2)/\Aside0 (wc.heap[qg]? = some (.cells #[.bool qh,(.slice none 0 0),.int .i64 qi] 24 (0,0)))/\Aside0 (wc.heap[qj]? = some (.cells #[.bool ((bt a0 0) == 45),(.slice none 0 0),.int .i64 qa] 30 (0,0)))/\Aside0 (Below w.heap.size w wc))
                  case first =>
                   have H:=HC48.o
                   clear HC48
                   by_cases c49:x11_4 > 0
                   ·rw [if_pos c49] at H
                    have c49b0:decide (0 < x11_4)=true:=decide_eq_true c49
                    clear c49
                    (first|rw [c49b0]|(simp only [Zcd,Zdb];rw [c49b0])|skip)
                    have H':=am H
                    clear H
                    go_wp2
                    go_meet
                    case rel=>exact ⟨_,(true),pR,H',⟨by have := HJ2.o;have := HK2.out;have := HJ14.o;have := HK4.out;first|omega|exact Nat.le_refl _⟩,⟨by refine rp ?_;exact HO_7.o⟩,⟨Zb qb.o pl⟩,⟨Zb qc.o pl⟩,⟨pB⟩⟩
                   ·rw [if_neg c49] at H
                    have c49b0:decide (0 < x11_4)=false:=decide_eq_false c49
                    clear c49
                    (first|rw [c49b0]|(simp only [Zcd,Zdb];rw [c49b0])|skip)
                    have H':=am H
                    clear H
                    have p50:0<=(x9_4:Int):=of_decide_eq_true pQ
                    have q50:x9_4 < (a0.size:Int):=of_decide_eq_true pQ
                    have hx50:=Zdv a0 x9_4
                    replace p50:=eq_true p50
                    replace q50:=eq_true q50
                    go_wp2
                    go_meet
                    case rel=>exact ⟨_,(((bt a0 x9_4) != 48)),pR,H',⟨by have := HJ2.o;have := HK2.out;have := HJ14.o;have := HK4.out;first|omega|exact Nat.le_refl _⟩,⟨by refine rp ?_;exact HO_7.o⟩,⟨Zb qb.o pl⟩,⟨Zb qc.o pl⟩,⟨pB⟩⟩
                  case rest =>
                   clear HC48
                   obtain ⟨kq,qm,rfl,HA,HJ47,HO_7,qb,qc,HB⟩:=hcut
                   cases kq with
                   | zero=>exact absurd HA.out (by simp [Zi.j4])
                   | succ jo =>
                    have H:=HA.out
                    clear HA
                    simp only [Zi.j4] at H
                    by_cases c51:qm=true
                    ·subst c51
                     rw [if_pos rfl] at H
                     by_cases c52:(wrap64 (x12_4+1)) > 6
                     ·rw [if_pos c52] at H
                      have c52b0:decide (6 < (wrap64 (x12_4+1)))=true:=decide_eq_true c52
                      clear c52
                      simp only [Option.some.injEq,Prod.mk.injEq] at H
                      obtain ⟨rfl,rfl,rfl,rfl⟩:=H
                      have qag:=qd.o
                      have qan:=qk.o
                      obtain ⟨_,_,_,_,_,_⟩:=cEc qb.o
                      go_wp2
                      refine bodyPost_ret (Za1 rfl _ _ qg 24 #[.bool false,.slice none 0 0,.int .i64 0] (0,0) _ rfl (by exact p3 qb) Tryz.underlying24 rfl (by kernel_rfl)) rfl ?_
                      exact ⟨_,pE,pN,pB⟩
                     ·rw [if_neg c52] at H
                      have c52b0:decide (6 < (wrap64 (x12_4+1)))=false:=decide_eq_false c52
                      clear c52
                      by_cases c55:0<=x9_4
                      ·rw [if_pos c55] at H
                       have c55b0:decide (0<=x9_4)=true:=decide_eq_true c55
                       clear c55
                       by_cases c56:x9_4 < (a0.size:Int)
                       ·rw [if_pos c56] at H
                        have c56b0:decide (x9_4 < (a0.size:Int))=true:=decide_eq_true c56
                        clear c56
                        have H':=am H
                        clear H
                        have p57:0<=(x9_4:Int):=of_decide_eq_true pQ
                        have q57:x9_4 < (a0.size:Int):=of_decide_eq_true pQ
                        have hx57:=Zdv a0 x9_4
                        replace p57:=eq_true p57
                        replace q57:=eq_true q57
                        go_wp2
                        go_roundg jo
                        case measure=>have := HJ2.o;have := HK2.out;have := HJ14.o;have := HK4.out;have := HJ47.o;omega
                        case rel=>exact ⟨(wrap64 (x9_4+1)),(x10_4),(wrap64 ((wrap64 (10*x11_4))+(((bt a0 x9_4) - 48) % 256))),(wrap64 (x12_4+1)),(qh),(qi),pR,pR,pR,pR,H',⟨by have := HJ2.o;have := HK2.out;have := HJ14.o;have := HK4.out;have := HJ47.o;omega⟩,⟨by refine rp ?_;exact HO_7.o⟩,⟨Zb qb.o pl⟩,⟨Zb qc.o pl⟩,⟨pB⟩⟩
                       ·rw [if_neg c56] at H
                        exact absurd H (by simp)
                      ·rw [if_neg c55] at H
                       exact absurd H (by simp)
                    ·replace c51:=Bool.eq_false_iff.mpr c51
                     subst c51
                     rw [if_neg (show ¬ (false=true) by decide)] at H
                     by_cases c58:x12_4 > 6
                     ·rw [if_pos c58] at H
                      have c58b0:decide (6 < x12_4)=true:=decide_eq_true c58
                      clear c58
                      simp only [Option.some.injEq,Prod.mk.injEq] at H
                      obtain ⟨rfl,rfl,rfl,rfl⟩:=H
                      have qah:=qd.o
                      have qao:=qk.o
                      obtain ⟨_,_,_,_,_,_⟩:=cEc qb.o
                      go_wp2
                      refine bodyPost_ret (Za1 rfl _ _ qg 24 #[.bool false,.slice none 0 0,.int .i64 0] (0,0) _ rfl (by exact p3 qb) Tryz.underlying24 rfl (by kernel_rfl)) rfl ?_
                      exact ⟨_,pE,pN,pB⟩
                     ·rw [if_neg c58] at H
                      have c58b0:decide (6 < x12_4)=false:=decide_eq_false c58
                      clear c58
                      by_cases c61:0<=x9_4
                      ·rw [if_pos c61] at H
                       have c61b0:decide (0<=x9_4)=true:=decide_eq_true c61
                       clear c61
                       by_cases c62:x9_4 < (a0.size:Int)
                       ·rw [if_pos c62] at H
                        have c62b0:decide (x9_4 < (a0.size:Int))=true:=decide_eq_true c62
                        clear c62
                        have H':=am H
                        clear H
                        have p63:0<=(x9_4:Int):=of_decide_eq_true pQ
                        have q63:x9_4 < (a0.size:Int):=of_decide_eq_true pQ
                        have hx63:=Zdv a0 x9_4
                        replace p63:=eq_true p63
                        replace q63:=eq_true q63
                        go_wp2
                        go_roundg jo
                        case measure=>have := HJ2.o;have := HK2.out;have := HJ14.o;have := HK4.out;have := HJ47.o;omega
                        case rel=>exact ⟨(wrap64 (x9_4+1)),(x10_4),(wrap64 ((wrap64 (10*x11_4))+(((bt a0 x9_4) - 48) % 256))),(x12_4),(qh),(qi),pR,pR,pR,pR,H',⟨by have := HJ2.o;have := HK2.out;have := HJ14.o;have := HK4.out;have := HJ47.o;omega⟩,⟨by refine rp ?_;exact HO_7.o⟩,⟨Zb qb.o pl⟩,⟨Zb qc.o pl⟩,⟨pB⟩⟩
                       ·rw [if_neg c62] at H
                        exact absurd H (by simp)
                      ·rw [if_neg c61] at H
                       exact absurd H (by simp)
               ·rw [if_neg c43] at H
                exact absurd H (by simp)
              ·rw [if_neg c42] at H
               have c42b0:decide (x9_4 < (a0.size:Int))=false:=decide_eq_false c42
               clear c42
               by_cases c64:x10_4=true
               ·subst c64
                rw [if_pos rfl] at H
                obtain ⟨⟨q8,q9,ja,j6⟩,A65,H⟩:=ob H;(try dsimp only at H)
                simp only [Option.some.injEq,Prod.mk.injEq] at H
                obtain ⟨rfl,rfl,rfl,rfl⟩:=H
                have qai:=qk.o
                have qap:=qd.o
                obtain ⟨_,_,_,_,_,_⟩:=cEc qc.o
                go_wp2_with (first|((with_reducible refine Zc4 (t:=3) (p:=128) rfl ?_);refine Zcp (t:=3) (p:=128) (v:=?vo_w68) (w1:=(wr.setCell ⟨qj,2,none⟩ (.int .i64 (wrap64 (qa+(wrap64 (-x11_4))))))) ?hg ?ho ?hn ?hr ?_;(case ho=>rfl);(case hg=>rfl);(case hn=>rfl);(case hr=>first|(go_simp;done)|(go_simp;rfl));intro w68 hw;replace HO_7:Aside0 (Kd.R (Kd.int .i64) 3 w68 w.heap.size (fun _=>True) u7 x7_2):=⟨(by rw [hw];exact (Kd.Za (Kd.Zh (Kd.Zr (p:=⟨qj,2,none⟩) (Kd.Zaa HO_7.o qc.o (by decide)) (fun _ hk=>hk.2) (.int .i64 (wrap64 (qa+(wrap64 (-x11_4)))))) (fun _ hk=>trivial)) pl))⟩;replace qb:Aside0 (w68.heap[qg]? = some (.cells #[.bool qh,.slice none 0 0,.int .i64 qi] 24 (0,0))):=⟨(by rw [hw];exact (bf qd.o qb.o))⟩;replace qc:Aside0 (w68.heap[qj]? = some (.cells #[.bool ((bt a0 0) == 45),.slice none 0 0,.int .i64 (wrap64 (qa+(wrap64 (-x11_4))))] 30 (0,0))):=⟨(by rw [hw];exact (by refine bp ?_;refine Za2 (cs:=#[.bool ((bt a0 0) == 45),.slice none 0 0,.int .i64 qa]) ?_ 2 _ rfl;exact bp qc.o))⟩;replace HB:Aside0 (Below w.heap.size w w68):=⟨(by rw [hw];exact pB)⟩;clear hw;obtain ⟨qr,qu,jx⟩:=Kd.Zj HO_7.o;subst jx;obtain ⟨_,_,_,_,_,_⟩:=cEc qc.o)|((with_reducible refine Zc4 (t:=28) (p:=130) rfl ?_);refine Zcp (t:=28) (p:=130) (v:=?vo_w71) (w1:=(w68.setCell ⟨qj,1,none⟩ (.slice qr x7_2.length qu))) ?hg ?ho ?hn ?hr ?_;(case ho=>rfl);(case hg=>rfl);(case hn=>rfl);(case hr=>first|(go_simp;done)|(go_simp;rfl));intro w71 hw;replace HO_7:Aside0 (Kd.R (Kd.int .i64) 3 w71 w.heap.size (fun _=>True) (.slice qr x7_2.length qu) x7_2):=⟨(by rw [hw];exact (Kd.Za (Kd.Zh (Kd.Zr (p:=⟨qj,1,none⟩) (Kd.Zaa HO_7.o qc.o (by decide)) (fun _ hk=>hk.2) (.slice qr x7_2.length qu)) (fun _ hk=>trivial)) pl))⟩;replace qb:Aside0 (w71.heap[qg]? = some (.cells #[.bool qh,.slice none 0 0,.int .i64 qi] 24 (0,0))):=⟨(by rw [hw];exact (bf qd.o qb.o))⟩;replace qc:Aside0 (w71.heap[qj]? = some (.cells #[.bool ((bt a0 0) == 45),.slice qr x7_2.length qu,.int .i64 (wrap64 (qa+(wrap64 (-x11_4))))] 30 (0,0))):=⟨(by rw [hw];exact (by refine bp ?_;refine Za2 (cs:=#[.bool ((bt a0 0) == 45),.slice none 0 0,.int .i64 (wrap64 (qa+(wrap64 (-x11_4))))]) ?_ 1 _ rfl;exact bp qc.o))⟩;replace HB:Aside0 (Below w.heap.size w w71):=⟨(by rw [hw];exact pB)⟩;clear hw;obtain ⟨_,_,_,_,_,_⟩:=cEc qc.o)|(refine gL (some 132) Tryz.func23 #[.agg #[.bool ((bt a0 0) == 45),.slice qr x7_2.length qu,.int .i64 (wrap64 (qa+(wrap64 (-x11_4))))]] (h:=?_);(with_reducible refine (Zq.calls k4 ((bt a0 0) == 45) (fun k_=>some k_=(.slice qr x7_2.length qu:Value).ownBlock) (.slice qr x7_2.length qu) x7_2 (wrap64 (qa+(wrap64 (-x11_4)))) q8 q9 ja j6 w _ ?side1 ?side2 A65.o).mono ?_);(case side1=>exact pB);(case side2=>exact Kd.Zbj rfl HO_7.o);rintro e w73 ⟨qas,rfl,ho0,hb,hkp⟩;refine ⟨_,rfl,?_⟩;have q4:=am (Kd.Zh (ok':=fun k_=>True) ho0 (fun k_ hk_=>trivial));replace qb:=am (Za0 (Zb qb.o pl) hkp (fun e_=>Kd.R_ne HO_7.o qb.o (by decide) e_));replace qc:=am (Za0 (Zb qc.o pl) hkp (fun e_=>Kd.R_ne HO_7.o qc.o (by decide) e_));replace HB:=am hb;clear HO_7;obtain ⟨_,_,_,_,_,_⟩:=cEc qb.o;obtain ⟨ji,jl,jy⟩:=Kd.Zj q4.o;subst jy))
                refine bodyPost_ret (Za1 rfl _ _ qg 24 #[.bool q8,.slice ji q9.length jl,.int .i64 ja] (0,0) _ rfl (by exact p3 qb) Tryz.underlying24 rfl (by kernel_rfl)) rfl ?_
                exact ⟨_,pE,by refine rp ?_;exact Kd.Zh (Kd.Zr (p:=⟨qg,2,none⟩) (Kd.Zr (p:=⟨qg,1,none⟩) (Kd.Zr (p:=⟨qg,0,none⟩) (Kd.Zaa q4.o qb.o (by decide)) (fun _ hk=>hk.2) (.bool q8)) (fun _ hk=>hk.2) (.slice ji q9.length jl)) (fun _ hk=>hk.2) (.int .i64 ja)) (fun _ hk=>trivial),pB⟩
               ·replace c64:=Bool.eq_false_iff.mpr c64
                subst c64
                rw [if_neg (show ¬ (false=true) by decide)] at H
                obtain ⟨⟨jb,jc,jd,j7⟩,A76,H⟩:=ob H;(try dsimp only at H)
                simp only [Option.some.injEq,Prod.mk.injEq] at H
                obtain ⟨rfl,rfl,rfl,rfl⟩:=H
                have qaj:=qk.o
                have qaq:=qd.o
                obtain ⟨_,_,_,_,_,_⟩:=cEc qc.o
                go_wp2_with (first|((with_reducible refine Zc4 (t:=3) (p:=128) rfl ?_);refine Zcp (t:=3) (p:=128) (v:=?vo_w79) (w1:=(wr.setCell ⟨qj,2,none⟩ (.int .i64 (wrap64 (qa+x11_4))))) ?hg ?ho ?hn ?hr ?_;(case ho=>rfl);(case hg=>rfl);(case hn=>rfl);(case hr=>first|(go_simp;done)|(go_simp;rfl));intro w79 hw;replace HO_7:Aside0 (Kd.R (Kd.int .i64) 3 w79 w.heap.size (fun _=>True) u7 x7_2):=⟨(by rw [hw];exact (Kd.Za (Kd.Zh (Kd.Zr (p:=⟨qj,2,none⟩) (Kd.Zaa HO_7.o qc.o (by decide)) (fun _ hk=>hk.2) (.int .i64 (wrap64 (qa+x11_4)))) (fun _ hk=>trivial)) pl))⟩;replace qb:Aside0 (w79.heap[qg]? = some (.cells #[.bool qh,.slice none 0 0,.int .i64 qi] 24 (0,0))):=⟨(by rw [hw];exact (bf qd.o qb.o))⟩;replace qc:Aside0 (w79.heap[qj]? = some (.cells #[.bool ((bt a0 0) == 45),.slice none 0 0,.int .i64 (wrap64 (qa+x11_4))] 30 (0,0))):=⟨(by rw [hw];exact (by refine bp ?_;refine Za2 (cs:=#[.bool ((bt a0 0) == 45),.slice none 0 0,.int .i64 qa]) ?_ 2 _ rfl;exact bp qc.o))⟩;replace HB:Aside0 (Below w.heap.size w w79):=⟨(by rw [hw];exact pB)⟩;clear hw;obtain ⟨qs,qv,jz⟩:=Kd.Zj HO_7.o;subst jz;obtain ⟨_,_,_,_,_,_⟩:=cEc qc.o)|((with_reducible refine Zc4 (t:=28) (p:=130) rfl ?_);refine Zcp (t:=28) (p:=130) (v:=?vo_w82) (w1:=(w79.setCell ⟨qj,1,none⟩ (.slice qs x7_2.length qv))) ?hg ?ho ?hn ?hr ?_;(case ho=>rfl);(case hg=>rfl);(case hn=>rfl);(case hr=>first|(go_simp;done)|(go_simp;rfl));intro w82 hw;replace HO_7:Aside0 (Kd.R (Kd.int .i64) 3 w82 w.heap.size (fun _=>True) (.slice qs x7_2.length qv) x7_2):=⟨(by rw [hw];exact (Kd.Za (Kd.Zh (Kd.Zr (p:=⟨qj,1,none⟩) (Kd.Zaa HO_7.o qc.o (by decide)) (fun _ hk=>hk.2) (.slice qs x7_2.length qv)) (fun _ hk=>trivial)) pl))⟩;replace qb:Aside0 (w82.heap[qg]? = some (.cells #[.bool qh,.slice none 0 0,.int .i64 qi] 24 (0,0))):=⟨(by rw [hw];exact (bf qd.o qb.o))⟩;replace qc:Aside0 (w82.heap[qj]? = some (.cells #[.bool ((bt a0 0) == 45),.slice qs x7_2.length qv,.int .i64 (wrap64 (qa+x11_4))] 30 (0,0))):=⟨(by rw [hw];exact (by refine bp ?_;refine Za2 (cs:=#[.bool ((bt a0 0) == 45),.slice none 0 0,.int .i64 (wrap64 (qa+x11_4))]) ?_ 1 _ rfl;exact bp qc.o))⟩;replace HB:Aside0 (Below w.heap.size w w82):=⟨(by rw [hw];exact pB)⟩;clear hw;obtain ⟨_,_,_,_,_,_⟩:=cEc qc.o)|(refine gL (some 132) Tryz.func23 #[.agg #[.bool ((bt a0 0) == 45),.slice qs x7_2.length qv,.int .i64 (wrap64 (qa+x11_4))]] (h:=?_);(with_reducible refine (Zq.calls k4 ((bt a0 0) == 45) (fun k_=>some k_=(.slice qs x7_2.length qv:Value).ownBlock) (.slice qs x7_2.length qv) x7_2 (wrap64 (qa+x11_4)) jb jc jd j7 w _ ?side1 ?side2 A76.o).mono ?_);(case side1=>exact pB);(case side2=>exact Kd.Zbj rfl HO_7.o);rintro e w84 ⟨qat,rfl,ho0,hb,hkp⟩;refine ⟨_,rfl,?_⟩;have q5:=am (Kd.Zh (ok':=fun k_=>True) ho0 (fun k_ hk_=>trivial));replace qb:=am (Za0 (Zb qb.o pl) hkp (fun e_=>Kd.R_ne HO_7.o qb.o (by decide) e_));replace qc:=am (Za0 (Zb qc.o pl) hkp (fun e_=>Kd.R_ne HO_7.o qc.o (by decide) e_));replace HB:=am hb;clear HO_7;obtain ⟨_,_,_,_,_,_⟩:=cEc qb.o;obtain ⟨jj,jm,j1⟩:=Kd.Zj q5.o;subst j1))
                refine bodyPost_ret (Za1 rfl _ _ qg 24 #[.bool jb,.slice jj jc.length jm,.int .i64 jd] (0,0) _ rfl (by exact p3 qb) Tryz.underlying24 rfl (by kernel_rfl)) rfl ?_
                exact ⟨_,pE,by refine rp ?_;exact Kd.Zh (Kd.Zr (p:=⟨qg,2,none⟩) (Kd.Zr (p:=⟨qg,1,none⟩) (Kd.Zr (p:=⟨qg,0,none⟩) (Kd.Zaa q5.o qb.o (by decide)) (fun _ hk=>hk.2) (.bool jb)) (fun _ hk=>hk.2) (.slice jj jc.length jm)) (fun _ hk=>hk.2) (.int .i64 jd)) (fun _ hk=>trivial),pB⟩
           ·rw [if_neg c41] at H
            have c41b0:decide (x9_2 < (a0.size:Int))=false:=decide_eq_false c41
            clear c41
            obtain ⟨⟨je,jf,jg,j8⟩,A87,H⟩:=ob H;(try dsimp only at H)
            simp only [Option.some.injEq,Prod.mk.injEq] at H
            obtain ⟨rfl,rfl,rfl,rfl⟩:=H
            obtain ⟨qt,qw,j3⟩:=Kd.Zj HO_7.o
            subst j3
            have qak:=qk.o
            have qar:=qd.o
            obtain ⟨_,_,_,_,_,_⟩:=cEc qc.o
            go_wp2_with (first|((with_reducible refine Zc4 (t:=28) (p:=130) rfl ?_);refine Zcp (t:=28) (p:=130) (v:=?vo_w91) (w1:=(wc.setCell ⟨qj,1,none⟩ (.slice qt x7_2.length qw))) ?hg ?ho ?hn ?hr ?_;(case ho=>rfl);(case hg=>rfl);(case hn=>rfl);(case hr=>first|(go_simp;done)|(go_simp;rfl));intro w91 hw;replace HO_7:Aside0 (Kd.R (Kd.int .i64) 3 w91 w.heap.size (fun _=>True) (.slice qt x7_2.length qw) x7_2):=⟨(by rw [hw];exact (Kd.Za (Kd.Zh (Kd.Zr (p:=⟨qj,1,none⟩) (Kd.Zaa HO_7.o qc.o (by decide)) (fun _ hk=>hk.2) (.slice qt x7_2.length qw)) (fun _ hk=>trivial)) pl))⟩;replace qb:Aside0 (w91.heap[qg]? = some (.cells #[.bool false,.slice none 0 0,.int .i64 0] 24 (0,0))):=⟨(by rw [hw];exact (bf qd.o qb.o))⟩;replace qc:Aside0 (w91.heap[qj]? = some (.cells #[.bool ((bt a0 0) == 45),.slice qt x7_2.length qw,.int .i64 qa] 30 (0,0))):=⟨(by rw [hw];exact (by refine bp ?_;refine Za2 (cs:=#[.bool ((bt a0 0) == 45),.slice none 0 0,.int .i64 qa]) ?_ 1 _ rfl;exact bp qc.o))⟩;replace HB:Aside0 (Below w.heap.size w w91):=⟨(by rw [hw];exact pB)⟩;clear hw;obtain ⟨_,_,_,_,_,_⟩:=cEc qc.o)|(refine gL (some 132) Tryz.func23 #[.agg #[.bool ((bt a0 0) == 45),.slice qt x7_2.length qw,.int .i64 qa]] (h:=?_);(with_reducible refine (Zq.calls qn ((bt a0 0) == 45) (fun k_=>some k_=(.slice qt x7_2.length qw:Value).ownBlock) (.slice qt x7_2.length qw) x7_2 qa je jf jg j8 w _ ?side1 ?side2 A87.o).mono ?_);(case side1=>exact pB);(case side2=>exact Kd.Zbj rfl HO_7.o);rintro e w93 ⟨qau,rfl,ho0,hb,hkp⟩;refine ⟨_,rfl,?_⟩;have q6:=am (Kd.Zh (ok':=fun k_=>True) ho0 (fun k_ hk_=>trivial));replace qb:=am (Za0 (Zb qb.o pl) hkp (fun e_=>Kd.R_ne HO_7.o qb.o (by decide) e_));replace qc:=am (Za0 (Zb qc.o pl) hkp (fun e_=>Kd.R_ne HO_7.o qc.o (by decide) e_));replace HB:=am hb;clear HO_7;obtain ⟨_,_,_,_,_,_⟩:=cEc qb.o;obtain ⟨jk,jn,j5⟩:=Kd.Zj q6.o;subst j5))
            refine bodyPost_ret (Za1 rfl _ _ qg 24 #[.bool je,.slice jk jf.length jn,.int .i64 jg] (0,0) _ rfl (by exact p3 qb) Tryz.underlying24 rfl (by kernel_rfl)) rfl ?_
            exact ⟨_,pE,by refine rp ?_;exact Kd.Zh (Kd.Zr (p:=⟨qg,2,none⟩) (Kd.Zr (p:=⟨qg,1,none⟩) (Kd.Zr (p:=⟨qg,0,none⟩) (Kd.Zaa q6.o qb.o (by decide)) (fun _ hk=>hk.2) (.bool je)) (fun _ hk=>hk.2) (.slice jk jf.length jn)) (fun _ hk=>hk.2) (.int .i64 jg)) (fun _ hk=>trivial),pB⟩
     ·rw [if_neg c10] at H
      exact absurd H (by simp)
def Zb0.f (k:Nat) (a0:ByteArray):Option (Bool × List Int × Int):=(Zi.f k a0).bind fun qc=>(some (qc.1,qc.2.1,qc.2.2.1))
theorem Zb0.calls (k:Nat) (a0:ByteArray) (r1:Bool) (r2:List Int) (r3:Int) (w:World) (h:Zb0.f k a0=some (r1,r2,r3)) :
  Calls Tryz.prog 62 #[.string a0] w fun e w' => ∃ v1_:Value,e=.returned (.agg #[.bool r1,v1_,.int .i64 r3])/\Kd.R (Kd.int .u32) 85 w' w.heap.size (fun _=>True) v1_ r2/\Below w.heap.size w w':=by
 have hu24:=Tryz.underlying24
 have HB:=am (Below.refl w.heap.size w)
 have H:((Zi.f k a0).bind fun qc=>(some (qc.1,qc.2.1,qc.2.2.1)))=some (r1,r2,r3):=h
 clear h
 obtain ⟨⟨qg,qi,qj,ql⟩,A2,H⟩:=ob H;(try dsimp only at H)
 simp only [Option.some.injEq,Prod.mk.injEq] at H
 obtain ⟨rfl,rfl,rfl⟩:=H
 go_enter Tryz.func62,Tryz.ntmps62
 go_wp2_with (first|((with_reducible refine gd 2 ?_);refine bx 2 #[.bool false,.slice none 0 0,.int .i64 0] 24 (h:=?_);intro qe hg w3 hbox hb;have qb:=am hbox;have qm:=gW hg;replace HB:=bS hb;clear hb hbox hg)|(refine gL (some 7) Tryz.func58 #[.string a0] (h:=?_);(with_reducible refine (Zi.calls k a0 qg qi qj ql _ A2.o).mono ?_);rintro e w4 ⟨qo,rfl,ho0,hb⟩;refine ⟨_,rfl,?_⟩;have qd:=am (Kd.Zo ho0 (Zd pB));replace qb:=bb qb hb;replace HB:=bS hb)|((with_reducible refine gd 3 ?_);refine bx 3 #[.bool false,.slice none 0 0,.int .i64 0] 24 (h:=?_);intro qh hg w5 hbox hb;have qk:=am hbox;have qn:=gW hg;have qa:=nL hg qb;have qf:=nG hg qb;replace qd:=rbl qd hb;replace qb:=bb qb hb;replace HB:=bS hb;clear hb hbox hg;have hnb6:=qf.o;have hnc6:=qa.o;obtain ⟨_,_,_,_,_,_⟩:=cEc qk.o;obtain ⟨Ao8,co8,eo8⟩:=Kd.Zj qd.o;subst eo8;obtain ⟨_,_,_,_,_,_⟩:=cEc qb.o))
 refine bodyPost_ret (results_cell_row rfl _ _ qe 24 #[.bool qg,.slice Ao8 qi.length co8,.int .i64 qj] (0,0) _ rfl (by refine bp ?_;refine Za2 (cs:=#[.bool qg,.slice Ao8 qi.length co8,.int .i64 0]) ?_ 2 _ rfl;refine bp ?_;refine Za2 (cs:=#[.bool qg,.slice none 0 0,.int .i64 0]) ?_ 1 _ rfl;refine bp ?_;refine Za2 (cs:=#[.bool false,.slice none 0 0,.int .i64 0]) ?_ 0 _ rfl;refine bq ?_ qa;refine bq ?_ qa;refine bq ?_ qa;exact bp qb.o) Tryz.underlying24 rfl (by kernel_rfl)) rfl ?_
 exact ⟨_,pE,by refine rp ?_;exact Kd.Zh (Kd.Zr (p:=⟨qe,2,none⟩) (Kd.Zr (p:=⟨qe,1,none⟩) (Kd.Zr (p:=⟨qe,0,none⟩) (Kd.Zr (p:=⟨qh,2,none⟩) (Kd.Zr (p:=⟨qh,1,none⟩) (Kd.Zr (p:=⟨qh,0,none⟩) (Kd.Zaa (Kd.Zaa qd.o qk.o (by decide)) qb.o (by decide)) (fun _ hk=>hk.1.2) (.bool qg)) (fun _ hk=>hk.1.2) (.slice Ao8 qi.length co8)) (fun _ hk=>hk.1.2) (.int .i64 qj)) (fun _ hk=>hk.2) (.bool qg)) (fun _ hk=>hk.2) (.slice Ao8 qi.length co8)) (fun _ hk=>hk.2) (.int .i64 qj)) (fun _ hk=>trivial),pB⟩
end YtjbjkmccfocikaaGreatDoor.B
end
section
namespace YtjbjkmccfocikaaGreatDoor.P.Nm
open Go.RowKit YtjbjkmccfocikaaGreatDoorW.PrintWords YtjbjkmccfocikaaGreatDoor.B YtjbjkmccfocikaaGreatDoor.P
structure RawD (l:List Int):Prop where
 dg:Dg 4294967296 l
 len:l.length<=9223372036854775807
theorem RawD.nil:RawD []:=⟨(fun x h=>absurd h (by simp)),(by simp)⟩
end YtjbjkmccfocikaaGreatDoor.P.Nm
end
section
namespace YtjbjkmccfocikaaGreatDoor.P.Nm
theorem Zsv (K:Int) (n:Nat) (e:Int):sc K ⟨false,n,e⟩=((n*10 ^ (e+K).toNat:Nat):Int):=by unfold sc;simp
end YtjbjkmccfocikaaGreatDoor.P.Nm
end
section
namespace YtjbjkmccfocikaaGreatDoor.B
open Go.RowKit YtjbjkmccfocikaaGreatDoorW.PrintWords YtjbjkmccfocikaaGreatDoorW.PrintLast YtjbjkmccfocikaaGreatDoorW.PrintMore
attribute [local go_sem] Zb7 Zb9 Zcr Zcs Zbp Zbq Zb8 Zca
def Zes.f (k:Nat) (l0:List (S24)):Option (Int):=(Zcu.f k l0).bind fun qa=>(if qa=true then (some 9) else (some 0))
theorem Zes.calls (k:Nat) (A0:Option Addr) (c0:Nat) (l0:List (S24)) (r:Int) (w:World) (hr0:Kd.C k24 w A0 l0.length l0) (hc0:l0.length<=c0) (h:Zes.f k l0=some r) :
  Calls Tryz.prog 67 #[.slice A0 l0.length c0] w fun e w'=>e=.returned (.int .i64 r)/\Below w.heap.size w w':=by
 have HR0:=am hr0
 have HC0:=am hc0
 clear hr0 hc0
 have HB:=am (Below.refl w.heap.size w)
 have H:((Zcu.f k l0).bind fun qa=>(if qa=true then (some 9) else (some 0)))=some r:=h
 clear h
 obtain ⟨qa,A2,H⟩:=ob H
 by_cases c3:qa=true
 ·subst c3
  rw [if_pos rfl] at H
  obtain rfl:=Option.some.inj H
  go_enter Tryz.func67,Tryz.ntmps67
  go_wp2_with (first|(refine gL (some 4) Tryz.func123 #[.slice A0 l0.length c0,.func (.func 124) #[] #[]] (h:=?_);(with_reducible refine (Zcu.calls k _ _ l0 true _ ?side1 ?side2 A2.o).mono ?_);(case side1=>refine cp ?_;exact HR0.o);(case side2=>exact HC0.o);rintro e w4 ⟨rfl,hb⟩;refine ⟨_,rfl,?_⟩;replace HB:=bS hb))
  go_ret
  exact ⟨pE,pB⟩
 ·replace c3:=Bool.eq_false_iff.mpr c3
  subst c3
  rw [if_neg (show ¬ (false=true) by decide)] at H
  obtain rfl:=Option.some.inj H
  go_enter Tryz.func67,Tryz.ntmps67
  go_wp2_with (first|(refine gL (some 4) Tryz.func123 #[.slice A0 l0.length c0,.func (.func 124) #[] #[]] (h:=?_);(with_reducible refine (Zcu.calls k _ _ l0 false _ ?side1 ?side2 A2.o).mono ?_);(case side1=>refine cp ?_;exact HR0.o);(case side2=>exact HC0.o);rintro e w5 ⟨rfl,hb⟩;refine ⟨_,rfl,?_⟩;replace HB:=bS hb))
  go_ret
  exact ⟨pE,pB⟩
def Zdg.f (a0:ByteArray) (a1:Int):Option (ByteArray):=some a0
theorem Zdg.calls (a0:ByteArray) (a1:Int) (r:ByteArray) (w:World) (h:Zdg.f a0 a1=some r) :
  Calls Tryz.prog 125 #[.string a0,.int .i64 a1] w fun e w'=>e=.returned (.string r)/\Drawn0 w w':=by
 have H:(some a0)=some r:=h
 clear h
 obtain rfl:=Option.some.inj H
 go_enter Tryz.func125,Tryz.ntmps125
 go_wp2
 go_ret
 exact ⟨pR,pD⟩
def Zbz.f (k:Nat) (l0:List Int):Option (Int):=(Zat.f k l0).bind fun qa=>((Zdg.f qa.1 qa.2).bind fun qb=>(some (qb.size:Int)))
theorem Zbz.calls (k:Nat) (A0:Option Addr) (c0:Nat) (l0:List Int) (r:Int) (w:World) (hr0:Kd.C (Kd.int .u32) w A0 l0.length l0) (hc0:l0.length<=c0) (h:Zbz.f k l0=some r) :
  Calls Tryz.prog 68 #[.slice A0 l0.length c0] w fun e w'=>e=.returned (.int .i64 r)/\Below w.heap.size w w':=by
 have HR0:=am hr0
 have HC0:=am hc0
 clear hr0 hc0
 have HB:=am (Below.refl w.heap.size w)
 have H:((Zat.f k l0).bind fun qa=>((Zdg.f qa.1 qa.2).bind fun qb=>(some (qb.size:Int))))=some r:=h
 clear h
 obtain ⟨⟨qc,qd⟩,A2,H⟩:=ob H;(try dsimp only at H)
 obtain ⟨qb,A3,H⟩:=ob H
 obtain rfl:=Option.some.inj H
 go_enter Tryz.func68,Tryz.ntmps68
 go_wp2_with (first|(refine gL (some 4) Tryz.func112 #[.slice A0 l0.length c0] (h:=?_);(with_reducible refine (Zat.calls k (fun k_=>k_ < w.heap.size) _ _ l0 qc qd _ ?side1 A2.o).mono ?_);(case side1=>exact Kd.V_mk HC0.o (Kd.Zhe (Kd.C_F (Kd.Zi5 .u32) HR0.o) pB));rintro e w4 ⟨rfl,hb⟩;refine ⟨_,rfl,?_⟩;replace HB:=bS hb)|(refine gL (some 7) Tryz.func125 #[.string qc,.int .i64 qd] (h:=?_);(with_reducible refine (Zdg.calls qc qd qb _ A3.o).mono ?_);rintro e w' ⟨rfl,⟨nd,rfl⟩⟩;refine ⟨_,rfl,?_⟩))
 go_ret
 exact ⟨pE,pB⟩
def Zp.f (l0:List Int) (a1:Int):Option (List Int):=some l0
theorem Zp.calls (P0_:Nat->Prop) (u9000_:Value) (l0:List Int) (a1:Int) (r:List Int) (w0 w:World) (hB:Below w0.heap.size w0 w) (ho0:Kd.R (Kd.int .u32) 85 w w0.heap.size P0_ u9000_ l0) (h:Zp.f l0 a1=some r) :
  Calls Tryz.prog 70 #[u9000_,.int .i64 a1] w fun e w' => ∃ v0_:Value,e=.returned (v0_)/\Kd.R (Kd.int .u32) 85 w' w0.heap.size (fun k_=>(P0_ k_\/w.heap.size<=k_)) v0_ r/\Below w0.heap.size w0 w'/\Kept w w' (fun k_=>P0_ k_):=by
 have HO0:=am (show Kd.R (Kd.int .u32) 85 w w0.heap.size (fun k_=>(P0_ k_\/w.heap.size<=k_)) u9000_ l0 from Kd.Zh ho0 (fun k_ hk=>(.inl hk)))
 have HK:=am (Kept.refl w (fun k_=>P0_ k_))
 have HW0:=am hB.size
 have HB:=am hB
 clear hB
 have H:(some l0)=some r:=h
 clear h
 obtain rfl:=Option.some.inj H
 go_enter Tryz.func70,Tryz.ntmps70
 go_wp2
 go_ret
 exact ⟨_,pE,by refine rp ?_;exact HO0.o,pB,by repeat (first|(with_reducible first|exact HK.out|apply Kept.alloc|apply Kept.drewN|apply Kept.drew)|exact HK.out)⟩
def Zbs.f (k:Nat) (a0:Int):Option (List Int):=(Zfy.f k a0).bind fun qa=>((Zp.f qa.1 qa.2).bind fun qd=>(some qd))
theorem Zbs.calls (k:Nat) (a0:Int) (r:List Int) (w:World) (h:Zbs.f k a0=some r) :
  Calls Tryz.prog 72 #[.int .i64 a0] w fun e w' => ∃ v0_:Value,e=.returned (v0_)/\Kd.R (Kd.int .u32) 85 w' w.heap.size (fun _=>True) v0_ r/\Below w.heap.size w w':=by
 have HB:=am (Below.refl w.heap.size w)
 have H:((Zfy.f k a0).bind fun qa=>((Zp.f qa.1 qa.2).bind fun qd=>(some qd)))=some r:=h
 clear h
 obtain ⟨⟨qc,qe⟩,A2,H⟩:=ob H;(try dsimp only at H)
 obtain ⟨qd,A3,H⟩:=ob H
 obtain rfl:=Option.some.inj H
 go_enter Tryz.func72,Tryz.ntmps72
 go_wp2_with (first|(refine gL (some 4) Tryz.func130 #[.int .i64 a0] (h:=?_);(with_reducible refine (Zfy.calls k a0 qc qe _ A2.o).mono ?_);rintro e w4 ⟨qg,rfl,ho0,hb⟩;refine ⟨_,rfl,?_⟩;have qb:=am (Kd.Zo ho0 (Zd pB));replace HB:=bS hb;obtain ⟨Ao5,co5,eo5⟩:=Kd.Zj qb.o;subst eo5)|(refine gL (some 7) Tryz.func70 #[.slice Ao5 qc.length co5,.int .i64 qe] (h:=?_);(with_reducible refine (Zp.calls (fun k_=>some k_=(.slice Ao5 qc.length co5:Value).ownBlock) (.slice Ao5 qc.length co5) qc qe qd w _ ?side1 ?side2 A3.o).mono ?_);(case side1=>exact pB);(case side2=>exact Kd.Zbj rfl qb.o);rintro e w6 ⟨qh,rfl,ho0,hb,hkp⟩;refine ⟨_,rfl,?_⟩;have qf:=am (Kd.Zh (ok':=fun k_=>True) ho0 (fun k_ hk_=>trivial));replace HB:=am hb;clear qb))
 go_ret
 exact ⟨_,pE,by refine rp ?_;exact qf.o,pB⟩
def Zco.f (k:Nat) (l0:List Int) (a1:Int):Option (List Int × List Int × Int):=(Zbz.f k l0).bind fun qc=>((Zbs.f k (mx (wrap64 (qc - a1)) 0)).bind fun qd=>((Zdi.f k l0 qd).bind fun qa=>(some (qa.1,qa.2.1,mx (wrap64 (qc - a1)) 0))))
theorem Zco.calls (k:Nat) (A0:Option Addr) (c0:Nat) (l0:List Int) (a1:Int) (r1:List Int) (r2:List Int) (r3:Int) (w:World) (hr0:Kd.C (Kd.int .u32) w A0 l0.length l0) (hc0:l0.length<=c0) (h:Zco.f k l0 a1=some (r1,r2,r3)) :
  Calls Tryz.prog 73 #[.slice A0 l0.length c0,.int .i64 a1] w fun e w' => ∃ v0_ v1_:Value,e=.returned (.tuple #[v0_,v1_,.int .i64 r3])/\Kd.R (Kd.int .u32) 85 w' w.heap.size (fun k_=>some k_ ≠ (v1_:Value).ownBlock) v0_ r1/\Kd.R (Kd.int .u32) 85 w' w.heap.size (fun k_=>some k_ ≠ (v0_:Value).ownBlock) v1_ r2/\Below w.heap.size w w':=by
 have HR0:=am hr0
 have HC0:=am hc0
 clear hr0 hc0
 have HB:=am (Below.refl w.heap.size w)
 have H:((Zbz.f k l0).bind fun qc=>((Zbs.f k (mx (wrap64 (qc - a1)) 0)).bind fun qd=>((Zdi.f k l0 qd).bind fun qa=>(some (qa.1,qa.2.1,mx (wrap64 (qc - a1)) 0)))))=some (r1,r2,r3):=h
 clear h
 obtain ⟨qc,A3,H⟩:=ob H
 obtain ⟨ji4,hji4⟩:∃ j_:Int,(mx (wrap64 (qc - a1)) 0)=j_:=⟨_,rfl⟩
 replace H:((Zbs.f k (ji4)).bind fun qd=>((Zdi.f k l0 qd).bind fun qa=>(some (qa.1,qa.2.1,ji4))))=some (r1,r2,r3):=by first|(rw [hji4] at H;exact H)|(simp only [hji4] at H ⊢;exact H)
 (try rw [hji4] at A3)
 (try (have hji4l:0<=ji4:=by (rw [<- hji4];unfold mx;(repeat' split) <;> omega)))
 (try (have hji4m:0<=ji4:=by omega))
 have hji4_:(if (wrap64 (qc - a1)) < 0 then 0 else (wrap64 (qc - a1)))=ji4:=hji4
 obtain ⟨qd,A5,H⟩:=ob H
 obtain ⟨⟨qg,qh,qi⟩,A6,H⟩:=ob H;(try dsimp only at H)
 simp only [Option.some.injEq,Prod.mk.injEq] at H
 obtain ⟨rfl,rfl,rfl⟩:=H
 go_enter Tryz.func73,Tryz.ntmps73
 go_wp2_with (first|(refine gL (some 8) Tryz.func68 #[.slice A0 l0.length c0] (h:=?_);(with_reducible refine (Zbz.calls k _ _ l0 qc _ ?side1 ?side2 A3.o).mono ?_);(case side1=>refine cp ?_;exact HR0.o);(case side2=>exact HC0.o);rintro e w7 ⟨rfl,hb⟩;refine ⟨_,rfl,?_⟩;replace HB:=bS hb)|((with_reducible refine Zd5 (f:=72) rfl ?_);refine goesL_ (some 15) rfl rfl Tryz.func72 (by kernel_rfl) rfl #[.int .i64 ji4] rfl (by (try simp only [List.map_toArray,List.map_cons,List.map_nil]);first|done|(simp only [hji4];rfl)|rfl|(simp only [List.length_drop,List.length_take];rfl)) ?_;(with_reducible refine (Zbs.calls k ji4 qd _ A5.o).mono ?_);rintro e w8 ⟨qj,rfl,ho0,hb⟩;refine ⟨_,rfl,?_⟩;have qb:=am (Kd.Zo ho0 (Zd pB));replace HB:=bS hb;obtain ⟨Ao9,co9,eo9⟩:=Kd.Zj qb.o;subst eo9)|(refine gL (some 16) Tryz.func69 #[.slice A0 l0.length c0,.slice Ao9 qd.length co9] (h:=?_);(with_reducible refine (Zdi.calls k _ _ l0 _ _ qd qg qh qi _ ?side1 ?side2 ?side3 ?side4 A6.o).mono ?_);(case side1=>exact cB HR0 HB);(case side2=>exact HC0.o);(case side3=>exact Kd.Zn (Kd.Zc qb.o).2.2 pl);(case side4=>exact (Kd.Zc qb.o).2.1);rintro e w10 ⟨qk,ql,rfl,ho0,ho1,hb⟩;refine ⟨_,rfl,?_⟩;have qe:=am (Kd.Zo (Kd.Zs ho0 (Kd.R_lt (Kd.Za qb.o pl))) (Zd pB));have qf:=am (Kd.Zo (Kd.Zs ho1 (Kd.R_lt (Kd.Za qb.o pl))) (Zd pB));replace qb:=am (Kd.Zh (Kd.Zda (Kd.Zda (Kd.Zf2 (Kd.Za qb.o pl) hb) (Kd.Zaz ho0)) (Kd.Zaz ho1)) (fun _ h_=>h_.1));replace HB:=bS hb))
 go_ret3
 exact ⟨_,_,by first|rfl|(simp [Zak,Zal] <;> rfl)|(simp only [<- hji4];first|rfl|(simp [Zak,Zal] <;> rfl))|(simp [*,Zak,Zal] <;> rfl),by refine rp ?_;exact Kd.Zh qe.o (fun _ hk=>hk.1),by refine rp ?_;exact Kd.Zh qf.o (fun _ hk=>hk.1),pB⟩
def Zbk.f (k:Nat) (l0:List Int) (l1:List Int) (a2:Int) (a3:Bool):Option (Bool):=if a2=0 then (some false) else ((Zbs.f k (wrap64 (a2 - 1))).bind fun qd=>((Zcj.f k 5).bind fun qe=>((Zc2.f k qd qe).bind fun qg=>((Zp.f qg.1 qg.2).bind fun qf=>((Zcy.f k l1 qf).bind fun qc=>(if (l0.length:Int) > 0 then (if 0 < (l0.length:Int) then (if qc.1 > 0 then (some true) else (if qc.1=0 then (if a3=true then (some true) else (some ((Int.tmod (rd l0 0) 2) == 1))) else (some false))) else (none)) else (if qc.1 > 0 then (some true) else (if qc.1=0 then (if a3=true then (some true) else (some false)) else (some false)))))))))
theorem Zbk.leaf {P:Prop} (h:P:=by
 go_enter Tryz.func74,Tryz.ntmps74
 go_wp2_with (first|(refine gL (some 17) Tryz.func72 #[.int .i64 (wrap64 (a2 - 1))] (h:=?_);(with_reducible refine (Zbs.calls k (wrap64 (a2 - 1)) qd _ A6.o).mono ?_);rintro e w0z ⟨v1z,rfl,ho2z,hb⟩;refine ⟨_,rfl,?_⟩;have HO3z:=am (Kd.Zo ho2z (Zd pB));replace HB:=bS hb)|(refine gL (some 18) Tryz.func76 #[.int .u64 5] (h:=?_);(with_reducible refine (Zcj.calls k 5 qe _ A7.o).mono ?_);rintro e w4z ⟨v5z,rfl,ho2z,hb⟩;refine ⟨_,rfl,?_⟩;have HO6z:=am (Kd.Zo (Kd.Zs ho2z (Kd.R_lt (Kd.Za HO3z.o pl))) (Zd pB));replace HO3z:=reR HO3z ho2z hb;replace HB:=bS hb;obtain ⟨Ao7z,co8z,eo9z⟩:=Kd.Zj HO3z.o;subst eo9z;obtain ⟨qh,qk,qq⟩:=Kd.Zj HO6z.o;subst qq)|(refine gL (some 19) Tryz.func71 #[.slice Ao7z qd.length co8z,.slice qh qe.length qk] (h:=?_);(with_reducible refine (Zc2.calls k _ _ qd _ _ qe qm qp _ ?side1 ?side2 ?side3 ?side4 A8.o).mono ?_);(case side1=>exact Kd.Zn (Kd.Zc HO3z.o).2.2 pl);(case side2=>exact (Kd.Zc HO3z.o).2.1);(case side3=>exact Kd.Zn (Kd.Zc HO6z.o).2.2 pl);(case side4=>exact (Kd.Zc HO6z.o).2.1);rintro e w13z ⟨v14z,rfl,ho2z,hb⟩;refine ⟨_,rfl,?_⟩;have qj:=am (Kd.Zo (Kd.Zs (Kd.Zs ho2z (Kd.R_lt (Kd.Za HO3z.o pl))) (Kd.R_lt (Kd.Za HO6z.o pl))) (Zd pB));replace HO3z:=reR HO3z ho2z hb;replace HO6z:=reR HO6z ho2z hb;replace HB:=bS hb;obtain ⟨qi,ql,qr⟩:=Kd.Zj qj.o;subst qr)|(refine gL (some 22) Tryz.func70 #[.slice qi qm.length ql,.int .i64 qp] (h:=?_);(with_reducible refine (Zp.calls (fun k_=>some k_=(.slice qi qm.length ql:Value).ownBlock) (.slice qi qm.length ql) qm qp qf w _ ?side1 ?side2 A9.o).mono ?_);(case side1=>exact pB);(case side2=>exact Kd.Zbj rfl qj.o);rintro e w19z ⟨v20z,rfl,ho2z,hb,hkp⟩;refine ⟨_,rfl,?_⟩;have qb:=am (Kd.Zh (ok':=fun k_=>some k_ ≠ (.slice Ao7z qd.length co8z:Value).ownBlock/\some k_ ≠ (.slice qh qe.length qk:Value).ownBlock) ho2z (fun k_ hk_=>⟨Or.elim hk_ (fun hs_=>fun e_=>(((HO3z.o).1 k_ e_.symm).2) hs_) (fun hn_=>(Kd.fresh' (Kd.R_lt (Kd.Za HO3z.o pl)) k_ hn_)),Or.elim hk_ (fun hs_=>fun e_=>(((HO6z.o).1 k_ e_.symm).2) hs_) (fun hn_=>(Kd.fresh' (Kd.R_lt (Kd.Za HO6z.o pl)) k_ hn_))⟩));replace HO3z:=am (Kd.Zh (ok':=fun k_=>some k_ ≠ (.slice qh qe.length qk:Value).ownBlock/\some k_ ≠ (v20z:Value).ownBlock) (Kd.Zcb (HO3z.o) hkp (fun k_ hk_ hs_=>(hk_.2) hs_)) (fun k_ hk_=>⟨hk_.1.1.2,fun e_=>Or.elim (ho2z.1 k_ e_.symm) (fun hs_=>hk_.2.1 hs_) (fun hn_=>Nat.not_le.2 hk_.2.2 hn_)⟩));replace HO6z:=am (Kd.Zh (ok':=fun k_=>some k_ ≠ (.slice Ao7z qd.length co8z:Value).ownBlock/\some k_ ≠ (v20z:Value).ownBlock) (Kd.Zcb (HO6z.o) hkp (fun k_ hk_ hs_=>(hk_.2) hs_)) (fun k_ hk_=>⟨hk_.1.1.2,fun e_=>Or.elim (ho2z.1 k_ e_.symm) (fun hs_=>hk_.2.1 hs_) (fun hn_=>Nat.not_le.2 hk_.2.2 hn_)⟩));replace HB:=am hb;clear qj;obtain ⟨qn,qo,qs⟩:=Kd.Zj qb.o;subst qs)|((have q_:decide (0 < l0.length)=true:=c12b1;clear q_);refine gL (some 26) Tryz.func90 #[.slice A1 l1.length c1,.slice qn qf.length qo] (h:=?_);(with_reducible refine (Zcy.calls k _ _ l1 _ _ qf qa qt _ ?side1 ?side2 ?side3 ?side4 A10.o).mono ?_);(case side1=>exact cB HR1 HB);(case side2=>exact HC1.o);(case side3=>exact Kd.Zn (Kd.Zc qb.o).2.2 pl);(case side4=>exact (Kd.Zc qb.o).2.1);rintro e w25z ⟨rfl,hb⟩;refine ⟨_,rfl,?_⟩;replace HO3z:=rbl HO3z hb;replace HO6z:=rbl HO6z hb;replace qb:=rbl qb hb;replace HB:=bS hb;have p26z:0<=(0:Int):=(by omega);have q27z:0 < (l0.length:Int):=of_decide_eq_true pQ;obtain ⟨ad28z,e29z,hx30z⟩:=Kd.Za5 HR0.o 0 p26z q27z;cases e29z;have qi31z:(0 < l0.length)=True:=eq_true (by omega);(try rw [show ((0:Int)).toNat=0 from rfl] at hx30z);(try rw [Addr.add_zero'] at hx30z);replace hx30z:=(HB.o.cell (World.block_lt_of_cell? w _ hx30z)).trans hx30z;replace p26z:=eq_true p26z;replace q27z:=eq_true q27z)|((have q_:decide (0 < l0.length)=false:=c11b1;clear q_);refine gL (some 26) Tryz.func90 #[.slice A1 l1.length c1,.slice qn qf.length qo] (h:=?_);(with_reducible refine (Zcy.calls k _ _ l1 _ _ qf qa qt _ ?side1 ?side2 ?side3 ?side4 A10.o).mono ?_);(case side1=>exact cB HR1 HB);(case side2=>exact HC1.o);(case side3=>exact Kd.Zn (Kd.Zc qb.o).2.2 pl);(case side4=>exact (Kd.Zc qb.o).2.1);rintro e w25z ⟨rfl,hb⟩;refine ⟨_,rfl,?_⟩;replace HO3z:=rbl HO3z hb;replace HO6z:=rbl HO6z hb;replace qb:=rbl qb hb;replace HB:=bS hb))
 go_ret
 exact ⟨pE,pB⟩):P:=h
theorem Zbk.calls (k:Nat) (A0:Option Addr) (c0:Nat) (l0:List Int) (A1:Option Addr) (c1:Nat) (l1:List Int) (a2:Int) (a3:Bool) (r:Bool) (w:World) (hr0:Kd.C (Kd.int .u32) w A0 l0.length l0) (hc0:l0.length<=c0) (hr1:Kd.C (Kd.int .u32) w A1 l1.length l1) (hc1:l1.length<=c1) (h:Zbk.f k l0 l1 a2 a3=some r) :
  Calls Tryz.prog 74 #[.slice A0 l0.length c0,.slice A1 l1.length c1,.int .i64 a2,.bool a3] w fun e w'=>e=.returned (.bool r)/\Below w.heap.size w w':=by
 have HR0:=am hr0
 have HC0:=am hc0
 clear hr0 hc0
 have HR1:=am hr1
 have HC1:=am hc1
 clear hr1 hc1
 have HB:=am (Below.refl w.heap.size w)
 have H:(if a2=0 then (some false) else ((Zbs.f k (wrap64 (a2 - 1))).bind fun qd=>((Zcj.f k 5).bind fun qe=>((Zc2.f k qd qe).bind fun qg=>((Zp.f qg.1 qg.2).bind fun qf=>((Zcy.f k l1 qf).bind fun qc=>(if (l0.length:Int) > 0 then (if 0 < (l0.length:Int) then (if qc.1 > 0 then (some true) else (if qc.1=0 then (if a3=true then (some true) else (some ((Int.tmod (rd l0 0) 2) == 1))) else (some false))) else (none)) else (if qc.1 > 0 then (some true) else (if qc.1=0 then (if a3=true then (some true) else (some false)) else (some false))))))))))=some r:=h
 clear h
 by_cases c5:a2=0
 ·rw [if_pos c5] at H
  have c5b0:(a2 == 0)=true:=beq_iff_eq.mpr c5
  have c5b1:(a2 != 0)=false:=bne_eq_false_iff_eq.mpr c5
  clear c5
  obtain rfl:=Option.some.inj H
  exact Zbk.leaf
 ·rw [if_neg c5] at H
  have c5b0:(a2 == 0)=false:=beq_eq_false_iff_ne.mpr c5
  have c5b1:(a2 != 0)=true:=bne_iff_ne.mpr c5
  obtain ⟨qd,A6,H⟩:=ob H
  obtain ⟨qe,A7,H⟩:=ob H
  obtain ⟨⟨qm,qp⟩,A8,H⟩:=ob H;(try dsimp only at H)
  obtain ⟨qf,A9,H⟩:=ob H
  obtain ⟨⟨qa,qt⟩,A10,H⟩:=ob H;(try dsimp only at H)
  by_cases c11:(l0.length:Int) > 0
  ·rw [if_pos c11] at H
   have c11b0:decide (0 < (l0.length:Int))=true:=decide_eq_true c11
   have c11b1:decide (0 < l0.length)=true:=decide_eq_true (by omega)
   clear c11
   by_cases c12:0 < (l0.length:Int)
   ·rw [if_pos c12] at H
    have c12b0:decide (0 < (l0.length:Int))=true:=decide_eq_true c12
    have c12b1:decide (0 < l0.length)=true:=decide_eq_true (by omega)
    clear c12
    by_cases c13:qa > 0
    ·rw [if_pos c13] at H
     have c13b0:decide (0 < qa)=true:=decide_eq_true c13
     clear c13
     obtain rfl:=Option.some.inj H
     exact Zbk.leaf
    ·rw [if_neg c13] at H
     have c13b0:decide (0 < qa)=false:=decide_eq_false c13
     clear c13
     by_cases c23:qa=0
     ·rw [if_pos c23] at H
      have c23b0:(qa == 0)=true:=beq_iff_eq.mpr c23
      have c23b1:(qa != 0)=false:=bne_eq_false_iff_eq.mpr c23
      clear c23
      by_cases c24:a3=true
      ·subst c24
       rw [if_pos rfl] at H
       obtain rfl:=Option.some.inj H
       exact Zbk.leaf
      ·replace c24:=Bool.eq_false_iff.mpr c24
       subst c24
       rw [if_neg (show ¬ (false=true) by decide)] at H
       obtain rfl:=Option.some.inj H
       exact Zbk.leaf
     ·rw [if_neg c23] at H
      have c23b0:(qa == 0)=false:=beq_eq_false_iff_ne.mpr c23
      have c23b1:(qa != 0)=true:=bne_iff_ne.mpr c23
      obtain rfl:=Option.some.inj H
      exact Zbk.leaf
   ·rw [if_neg c12] at H
    exact absurd H (by simp)
  ·rw [if_neg c11] at H
   have c11b0:decide (0 < (l0.length:Int))=false:=decide_eq_false c11
   have c11b1:decide (0 < l0.length)=false:=decide_eq_false (by omega)
   clear c11
   by_cases c52:qa > 0
   ·rw [if_pos c52] at H
    have c52b0:decide (0 < qa)=true:=decide_eq_true c52
    clear c52
    obtain rfl:=Option.some.inj H
    exact Zbk.leaf
   ·rw [if_neg c52] at H
    have c52b0:decide (0 < qa)=false:=decide_eq_false c52
    clear c52
    by_cases c62:qa=0
    ·rw [if_pos c62] at H
     have c62b0:(qa == 0)=true:=beq_iff_eq.mpr c62
     have c62b1:(qa != 0)=false:=bne_eq_false_iff_eq.mpr c62
     clear c62
     by_cases c63:a3=true
     ·subst c63
      rw [if_pos rfl] at H
      obtain rfl:=Option.some.inj H
      exact Zbk.leaf
     ·replace c63:=Bool.eq_false_iff.mpr c63
      subst c63
      rw [if_neg (show ¬ (false=true) by decide)] at H
      obtain rfl:=Option.some.inj H
      exact Zbk.leaf
    ·rw [if_neg c62] at H
     have c62b0:(qa == 0)=false:=beq_eq_false_iff_ne.mpr c62
     have c62b1:(qa != 0)=true:=bne_iff_ne.mpr c62
     obtain rfl:=Option.some.inj H
     exact Zbk.leaf
end YtjbjkmccfocikaaGreatDoor.B
end
end Go.Proofs
