/- QuotNear, part 3 of 8 of its proof (no condition); names with a low line are shortened throughout. -/
import Derived.Test.YtjbjkmccfocikaaGreatDoorZQuotNear1
import Derived.Lib.BitFns
set_option linter.unusedVariables false
set_option linter.unusedSimpArgs false
set_option maxRecDepth 100000
set_option maxHeartbeats 8000000
namespace Go.Proofs
section
namespace YtjbjkmccfocikaaGreatDoor.B
open Go.RowKit YtjbjkmccfocikaaGreatDoorW.PrintWords YtjbjkmccfocikaaGreatDoorW.PrintLast YtjbjkmccfocikaaGreatDoorW.PrintMore
attribute [local go_sem] Zb7 Zb9 Zcr Zcs Zbp Zbq Zb8 Zca
def Zc6.f (a0:Int) (a1:Int):Option (Int):=(Zap.f a0).bind fun qb=>((Zap.f a1).bind fun qa=>(if qb=true then (if qa=true then (some 0) else (some (-1))) else (if qa=true then (some 1) else (if a0 < a1 then (some (-1)) else (if a0 > a1 then (some 1) else (some 0))))))
theorem Zc6.calls (a0:Int) (a1:Int) (r:Int) (w:World) (h:Zc6.f a0 a1=some r) :
  Calls Tryz.prog 166 #[.int .u32 a0,.int .u32 a1] w fun e w'=>e=.returned (.int .i64 r)/\Drawn0 w w':=by
 have H:((Zap.f a0).bind fun qb=>((Zap.f a1).bind fun qa=>(if qb=true then (if qa=true then (some 0) else (some (-1))) else (if qa=true then (some 1) else (if a0 < a1 then (some (-1)) else (if a0 > a1 then (some 1) else (some 0)))))))=some r:=h
 clear h
 obtain ⟨qb,A3,H⟩:=ob H
 obtain ⟨qa,A4,H⟩:=ob H
 by_cases c5:qb=true
 ·subst c5
  rw [if_pos rfl] at H
  by_cases c6:qa=true
  ·subst c6
   rw [if_pos rfl] at H
   obtain rfl:=Option.some.inj H
   go_enter Tryz.func166,Tryz.ntmps166
   go_wp2_with (first|(refine gL (some 8) Tryz.func187 #[.int .u32 a0] (h:=?_);(with_reducible refine (Zap.calls a0 true _ A3.o).mono ?_);rintro e w' ⟨rfl,⟨nd,rfl⟩⟩;refine ⟨_,rfl,?_⟩)|(refine gL (some 10) Tryz.func187 #[.int .u32 a1] (h:=?_);(with_reducible refine (Zap.calls a1 true _ A4.o).mono ?_);rintro e w' ⟨rfl,⟨nd,rfl⟩⟩;refine ⟨_,rfl,?_⟩))
   go_ret
   exact ⟨pR,pD⟩
  ·replace c6:=Bool.eq_false_iff.mpr c6
   subst c6
   rw [if_neg (show ¬ (false=true) by decide)] at H
   obtain rfl:=Option.some.inj H
   go_enter Tryz.func166,Tryz.ntmps166
   go_wp2_with (first|(refine gL (some 8) Tryz.func187 #[.int .u32 a0] (h:=?_);(with_reducible refine (Zap.calls a0 true _ A3.o).mono ?_);rintro e w' ⟨rfl,⟨nd,rfl⟩⟩;refine ⟨_,rfl,?_⟩)|(refine gL (some 10) Tryz.func187 #[.int .u32 a1] (h:=?_);(with_reducible refine (Zap.calls a1 false _ A4.o).mono ?_);rintro e w' ⟨rfl,⟨nd,rfl⟩⟩;refine ⟨_,rfl,?_⟩))
   go_ret
   exact ⟨pR,pD⟩
 ·replace c5:=Bool.eq_false_iff.mpr c5
  subst c5
  rw [if_neg (show ¬ (false=true) by decide)] at H
  by_cases c7:qa=true
  ·subst c7
   rw [if_pos rfl] at H
   obtain rfl:=Option.some.inj H
   go_enter Tryz.func166,Tryz.ntmps166
   go_wp2_with (first|(refine gL (some 8) Tryz.func187 #[.int .u32 a0] (h:=?_);(with_reducible refine (Zap.calls a0 false _ A3.o).mono ?_);rintro e w' ⟨rfl,⟨nd,rfl⟩⟩;refine ⟨_,rfl,?_⟩)|(refine gL (some 10) Tryz.func187 #[.int .u32 a1] (h:=?_);(with_reducible refine (Zap.calls a1 true _ A4.o).mono ?_);rintro e w' ⟨rfl,⟨nd,rfl⟩⟩;refine ⟨_,rfl,?_⟩))
   go_ret
   exact ⟨pR,pD⟩
  ·replace c7:=Bool.eq_false_iff.mpr c7
   subst c7
   rw [if_neg (show ¬ (false=true) by decide)] at H
   by_cases c8:a0 < a1
   ·rw [if_pos c8] at H
    have c8b0:decide (a0 < a1)=true:=decide_eq_true c8
    clear c8
    obtain rfl:=Option.some.inj H
    go_enter Tryz.func166,Tryz.ntmps166
    go_wp2_with (first|(refine gL (some 8) Tryz.func187 #[.int .u32 a0] (h:=?_);(with_reducible refine (Zap.calls a0 false _ A3.o).mono ?_);rintro e w' ⟨rfl,⟨nd,rfl⟩⟩;refine ⟨_,rfl,?_⟩)|(refine gL (some 10) Tryz.func187 #[.int .u32 a1] (h:=?_);(with_reducible refine (Zap.calls a1 false _ A4.o).mono ?_);rintro e w' ⟨rfl,⟨nd,rfl⟩⟩;refine ⟨_,rfl,?_⟩))
    go_ret
    exact ⟨pR,pD⟩
   ·rw [if_neg c8] at H
    have c8b0:decide (a0 < a1)=false:=decide_eq_false c8
    clear c8
    by_cases c9:a0 > a1
    ·rw [if_pos c9] at H
     have c9b0:decide (a1 < a0)=true:=decide_eq_true c9
     clear c9
     obtain rfl:=Option.some.inj H
     go_enter Tryz.func166,Tryz.ntmps166
     go_wp2_with (first|(refine gL (some 8) Tryz.func187 #[.int .u32 a0] (h:=?_);(with_reducible refine (Zap.calls a0 false _ A3.o).mono ?_);rintro e w' ⟨rfl,⟨nd,rfl⟩⟩;refine ⟨_,rfl,?_⟩)|(refine gL (some 10) Tryz.func187 #[.int .u32 a1] (h:=?_);(with_reducible refine (Zap.calls a1 false _ A4.o).mono ?_);rintro e w' ⟨rfl,⟨nd,rfl⟩⟩;refine ⟨_,rfl,?_⟩))
     go_ret
     exact ⟨pR,pD⟩
    ·rw [if_neg c9] at H
     have c9b0:decide (a1 < a0)=false:=decide_eq_false c9
     clear c9
     obtain rfl:=Option.some.inj H
     go_enter Tryz.func166,Tryz.ntmps166
     go_wp2_with (first|(refine gL (some 8) Tryz.func187 #[.int .u32 a0] (h:=?_);(with_reducible refine (Zap.calls a0 false _ A3.o).mono ?_);rintro e w' ⟨rfl,⟨nd,rfl⟩⟩;refine ⟨_,rfl,?_⟩)|(refine gL (some 10) Tryz.func187 #[.int .u32 a1] (h:=?_);(with_reducible refine (Zap.calls a1 false _ A4.o).mono ?_);rintro e w' ⟨rfl,⟨nd,rfl⟩⟩;refine ⟨_,rfl,?_⟩))
     go_ret
     exact ⟨pR,pD⟩
end YtjbjkmccfocikaaGreatDoor.B
end
section
namespace YtjbjkmccfocikaaGreatDoor.B
open Go.RowKit Go.Shelf YtjbjkmccfocikaaGreatDoorW.PrintWords YtjbjkmccfocikaaGreatDoor.P.Nm
attribute [local go_sem] Oper.semAt_some
def cmpI (x y:Int):Int:=if x < y then -1 else if y < x then 1 else 0
theorem Zhs (x:Int):cmpI x x=0:=by simp [cmpI]
theorem Zrc (x y:Int):cmp_Compare_int.f x y=some (cmpI x y):=by
 unfold cmp_Compare_int.f cmp_isNaN_int.f cmpI
 simp
 split
 ·rfl
 ·split <;> rfl
theorem Zre (x y:Int):Zc6.f x y=some (cmpI x y):=by
 unfold Zc6.f Zap.f cmpI
 simp
 split
 ·rfl
 ·split <;> rfl
theorem Zlz {i:Nat} {a b:List Int} (ha:Dg 4294967296 a) (hb:Dg 4294967296 b) (hl:a.length=b.length) (hi:i < a.length) (hd:a.drop (i+1)=b.drop (i+1)) (h:a.getD i 0 < b.getD i 0):val 4294967296 a < val 4294967296 b:=by
 have e:∀ (l:List Int),i < l.length->val 4294967296 l=val 4294967296 (l.take i)+pw 4294967296 i*(l.getD i 0+4294967296*val 4294967296 (l.drop (i+1))):=fun l hl=>by
  conv=>lhs;rw [<- List.take_append_drop i l,List.drop_eq_getElem_cons hl]
  rw [Zfz,Zb3,List.length_take,Nat.min_eq_left (by omega)]
  simp [List.getD,List.getElem?_eq_getElem hl]
 rw [e a hi,e b (by omega),hd]
 have h1:=Zdz (b:=4294967296) (by omega) (ha.take i)
 have h2:=Zbt (b:=4294967296) (by omega) (hb.take i)
 rw [List.length_take,Nat.min_eq_left (by omega)] at h1
 have hp:=Zer (b:=4294967296) (by omega) i
 obtain ⟨T,hT⟩:∃ T,4294967296*val 4294967296 (b.drop (i+1))=T:=⟨_,rfl⟩
 rw [hT]
 have h3:=Int.mul_le_mul_of_nonneg_left (show a.getD i 0+T+1<=b.getD i 0+T by omega) (Int.le_of_lt hp)
 rw [Int.mul_add] at h3
 omega
theorem Zpp {a b:List Int} (hl:a.length=b.length) (h:∀ i,i < a.length->a.getD i 0=b.getD i 0):a=b:=by
 apply List.ext_getElem hl
 intro i h1 h2
 have := h i h1
 simpa [List.getD,List.getElem?_eq_getElem h1,List.getElem?_eq_getElem h2] using this
theorem Zpo {a b:List Int} {k:Nat} (hl:a.length=b.length) (h:∀ i,k<=i->i < a.length->a.getD i 0=b.getD i 0):a.drop k=b.drop k:=by
 apply List.ext_getElem (by simp [hl])
 intro i h1 h2
 rw [List.length_drop] at h1 h2
 have := h (k+i) (by omega) (by omega)
 simpa [List.getD,List.getElem?_eq_getElem (show k+i < a.length by omega),List.getElem?_eq_getElem (show k+i < b.length by omega)] using this
theorem Zsh {i:Nat} {a b:List Int} (ha:Dg 4294967296 a) (hb:Dg 4294967296 b) (hl:a.length=b.length) (hi:i < a.length) (hd:∀ j,i+1<=j->j < a.length->a.getD j 0=b.getD j 0) (h:a.getD i 0 ≠ b.getD i 0):cmpI (a.getD i 0) (b.getD i 0)=cmpI (num a) (num b):=by
 have hd':=Zpo hl hd
 rw [Zdj ha,Zdj hb]
 unfold cmpI
 rcases Int.lt_trichotomy (a.getD i 0) (b.getD i 0) with h1|h1|h1
 ·have := Zlz ha hb hl hi hd' h1
  rw [if_pos h1,if_pos this]
 ·exact absurd h1 h
 ·have := Zlz hb ha hl.symm (by omega) hd'.symm h1
  rw [if_neg (by omega),if_pos h1,if_neg (by omega),if_pos this]
theorem Zrd {a b:List Int} (ha:Dg 4294967296 a) (hb:Dg 4294967296 b) (na:Nz a) (nb:Nz b) (h:a.length ≠ b.length):cmpI a.length b.length=cmpI (num a) (num b):=by
 rw [Zdj ha,Zdj hb]
 unfold cmpI
 rcases Nat.lt_trichotomy a.length b.length with h1|h1|h1
 ·have := Zel (b:=4294967296) (by omega) ha hb nb h1
  rw [if_pos (by omega),if_pos this]
 ·exact absurd h1 h
 ·have := Zel (b:=4294967296) (by omega) hb ha na h1
  rw [if_neg (by omega),if_pos (by omega),if_neg (by omega),if_pos this]
theorem Zft {w:World} {A:Option Addr} {l:List Int} (h:Kd.C (Kd.int .u32) w A l.length l):RdW A l.length (fun j x=>x=l.getD j 0) w:=by
 have hR:ReadsOf (Value.int .u32) 0 w A l.length l:=Kd.Zfu h
 rcases Nat.eq_zero_or_pos l.length with h0|h0
 ·exact .inl h0
 ·obtain ⟨ad,rfl,hc⟩:=hR.2.2 h0
  obtain ⟨b,o,rfl⟩:=Ziz (show w.cell? ad=_ from hc 0 h0)
  refine .inr ⟨b,o,rfl,fun j hj=>⟨_,?_,rfl⟩⟩
  have := hc j hj
  rwa [Zsf] at this
structure CmpI (w:World) (A0 A1:Option Addr) (m c0 c1:Nat) (l0 l1:List Int) (pre:List (Nat × Int)) (W:World):Prop where
 a:Boxed W w.heap.size 134 (.slice A0 m c0)
 b:Boxed W (w.heap.size+1) 134 (.slice A1 m c1)
 r:Boxed W (w.heap.size+1+1) 3 (.int .i64 0)
 s:∃ u,Boxed W (w.heap.size+1+1+1) 134 u
 low:Below w.heap.size w W
 same:∀ x ∈ pre,l0.getD x.1 0=l1.getD x.1 0
structure CmpX (w:World) (R:Int) (c:Code) (pre:List (Nat × Int)) (W:World):Prop where
 c:c=.ret
 r:Boxed W (w.heap.size+1+1) 3 (.int .i64 R)
 low:Below w.heap.size w W
theorem not_row {A:World} {row:Option Nat} {n:Nat} (hr:∀ r,row=some r->n<=r /\ ∃ o:Obj,A.heap[r]? = some o/\o.isCells=false) {k t:Nat} {u:Value} (hk:Boxed A k t u):some k ≠ row:=fun e=>by
 obtain ⟨_,o,ho,hc⟩:=hr k e.symm
 rw [show A.heap[k]? = _ from hk] at ho
 obtain rfl:=Option.some.inj ho
 cases hc
theorem CmpI.own {w:World} {A0 A1:Option Addr} {m c0 c1:Nat} {l0 l1:List Int} {n:Nat} (hn:w.heap.size<=n):OwnFrom n (CmpI w A0 A1 m c0 c1 l0 l1):=by
 rintro pre A W row ⟨a,b,r,⟨u,s⟩,hb,hs⟩ hg hr
 exact ⟨a.kept hg (not_row hr a),b.kept hg (not_row hr b),r.kept hg (not_row hr r),⟨u,s.kept hg (not_row hr s)⟩,(ownFrom_below (Nat.le_refl _) hn:OwnFrom _ (fun _:List (Nat × Int)=>Below w.heap.size w)) pre A W row hb hg hr,hs⟩
theorem CmpX.own {w:World} {R:Int} {n:Nat} (hn:w.heap.size<=n) (c:Code):OwnFrom n (CmpX w R c):=by
 rintro pre A W row ⟨hc,r,hb⟩ hg hr
 exact ⟨hc,r.kept hg (not_row hr r),(ownFrom_below (Nat.le_refl _) hn:OwnFrom _ (fun _:List (Nat × Int)=>Below w.heap.size w)) pre A W row hb hg hr⟩
theorem CmpI.minds {w:World} {A0 A1:Option Addr} {m c0 c1:Nat} {l0 l1:List Int}:Minds (w.heap.size+1+1+1) (CmpI w A0 A1 m c0 c1 l0 l1):=by
 rintro pre W u ⟨a,b,r,⟨v,s⟩,hb,hs⟩
 exact ⟨(Zbn W _ u _ (by omega)).trans a,(Zbn W _ u _ (by omega)).trans b,(Zbn W _ u _ (by omega)).trans r,⟨u,s.set u⟩,hb.setCell (p:=⟨w.heap.size+1+1+1,0,none⟩) (by simp;omega) u,hs⟩
theorem Zk2 (A0:Option Addr) (c0:Nat) (l0:List Int) (A1:Option Addr) (c1:Nat) (l1:List Int) (w:World) (hr0:Kd.C (Kd.int .u32) w A0 l0.length l0) (hc0:l0.length<=c0) (hr1:Kd.C (Kd.int .u32) w A1 l1.length l1) (hc1:l1.length<=c1)
  (hd0:Dg 4294967296 l0) (hd1:Dg 4294967296 l1) (hn0:Nz l0) (hn1:Nz l1) (hz0:l0.length<=1000000) (hz1:l1.length<=1000000) :
  Calls Tryz.prog 138 #[.slice A0 l0.length c0,.slice A1 l1.length c1] w fun e w'=>e=.returned (.int .i64 (cmpI (num l0) (num l1)))/\Below w.heap.size w w':=by
 have cI:=fun W:World=>cmp_Compare_int.calls l0.length l1.length _ W (Zrc _ _)
 obtain ⟨R,hR⟩:∃ R,cmpI (num l0) (num l1)=R:=⟨_,rfl⟩
 have HRes:=Lib.hid hR
 rw [hR]
 clear hR
 refine (callsIn_wide (n:=4)).1 ?_
 refine callsIn_of_wp_marks Tryz.func138 rfl trivial ?_ rfl
 simp only [Tryz.ntmps138,List.size_toArray,List.length_cons,List.length_nil,Nat.reduceAdd,Nat.reduceSub,Array.replicate_succ,Array.replicate_zero,List.push_toArray,List.append_toArray,List.nil_append,List.cons_append]
 have e0:=Zft hr0
 have e1:=Zft hr1
 have E0:=Lib.hid e0
 have E1:=Lib.hid e1
 clear e0 e1 hr0 hr1
 obtain ⟨q,hq⟩:∃ q,cmpI l0.length l1.length=q:=⟨_,rfl⟩
 rw [hq] at cI
 have HQ:=Lib.hid hq
 clear hq
 by_cases hlen:l0.length=l1.length
 ·have hq0:q=0:=by rw [<- HQ.out,hlen,Zhs]
  subst hq0
  obtain ⟨m,hm⟩:∃ m,l0.length=m:=⟨_,rfl⟩
  have hm1:l1.length=m:=by omega
  rw [hm] at E0 hz0 hc0 cI ⊢
  rw [hm1] at E1 hz1 hc1 cI ⊢
  have HM:=Lib.hid hm
  have HM1:=Lib.hid hm1
  clear hm hm1 hlen
  gi_wp2_with (first|(refine ⟨trivial,?_⟩;gi_at_call 165;refine (callsIn_wide.2 (cI _)).mono ?_;rintro e w' ⟨rfl,nq,rfl⟩)|(refine ⟨trivial,?_⟩;gi_at_call 158;refine (Zkq _ _ _ _ _).mono ?_;rintro e w' ⟨rfl,rfl⟩))
  have bA:=(Zpn (((Boxed.new w 134 (.slice A0 m c0)).alloc (.cells #[.slice A1 m c1] 134)).alloc (.cells #[.int .i64 0] 3)) nq).alloc (.cells #[.slice A0 m c0] 134)
  have bB:=(Zpn ((Boxed.new (w.alloc (.cells #[.slice A0 m c0] 134)) 134 (.slice A1 m c1)).alloc (.cells #[.int .i64 0] 3)) nq).alloc (.cells #[.slice A0 m c0] 134)
  have bR:=(Zpn (Boxed.new ((w.alloc (.cells #[.slice A0 m c0] 134)).alloc (.cells #[.slice A1 m c1] 134)) 3 (.int .i64 0)) nq).alloc (.cells #[.slice A0 m c0] 134)
  have bS:=Boxed.new ((((w.alloc (.cells #[.slice A0 m c0] 134)).alloc (.cells #[.slice A1 m c1] 134)).alloc (.cells #[.int .i64 0] 3)).drewN nq) 134 (.slice A0 m c0)
  have hB0:Below w.heap.size w (((((w.alloc (.cells #[.slice A0 m c0] 134)).alloc (.cells #[.slice A1 m c1] 134)).alloc (.cells #[.int .i64 0] 3)).drewN nq).alloc (.cells #[.slice A0 m c0] 134)) :=
   (Za6 ((((Below.refl _ w).alloc (Nat.le_refl _) _).alloc (by simp) _).alloc (by simp;omega) _) nq).alloc (by simp;omega) _
  simp only [World.size_alloc,Zle] at bB bR bS
  have hle:c0=c0:=rfl
  obtain ⟨B,hB⟩:∃ B,w.heap.size=B:=⟨_,rfl⟩
  rw [hB] at bA bB bR bS ⊢
  refine Zdy (b:=B+1+1+1) rfl (by decide) (gf:=184) (lb:=#[.pointer (some ⟨B+1+1+1,0,none⟩)]) rfl trivial (enters_of Tryz.func184 (by kernel_rfl) rfl)
   (Zgo 3 (by omega) (B+1+1+1) A0 m c0 (fun j x=>x=l0.getD j 0) (by omega) _ bS (E0.out.below hB0)) (by simp [Zle];omega) (fun h k=>h.trans k)
   (fun W l o o' hl ho hc hw=>KpB.put (by simp [Zle] at hl;omega) ho hc) (Below.refl _ _) (fun _=>rfl)
   (CmpI w A0 A1 m c0 c1 l0 l1) (CmpX w R) (CmpI.own (by simp [Zle];omega)) (CmpX.own (by simp [Zle];omega)) (by rw [<- hB];exact CmpI.minds) ?start
   (fun x=>{ tmps:=#[.slice A0 m c0,.slice A1 m c1,.pointer (some ⟨B,0,none⟩),.pointer (some ⟨B+1,0,none⟩),.pointer (some ⟨B+1+1,0,none⟩),.int .i64 0,.int .i64 x.1,undef,.slice A0 m c0,.int .i64 m,.slice A1 m c1,.int .i64 m,.int .i64 0,.int .i64 0,.bool false,undef,.slice A0 m c0,
    .func (.func 184) #[] #[.pointer (some ⟨B+1+1+1,0,none⟩)],.int .i64 x.1,.int .u32 x.2,undef,undef,undef,undef,undef,undef,undef,undef,undef,undef,undef,undef],defers:=[] }) ?assign ?body ?done ?stop
  case start=>exact ⟨by rw [hB];exact bA,by rw [hB];exact bB,by rw [hB];exact bR,⟨_,by rw [hB];exact bS⟩,hB0,fun x h=>by cases h⟩
  case assign =>
   intro l x W K hK
   gi_wp2
   exact hK
  case body =>
   rintro l pre x W ⟨a,b,r,⟨u,s⟩,hb,hs⟩ hlen hsp
   obtain ⟨hx1,hx2⟩:=hsp.2 pre.length x (by simp)
   obtain ⟨i,y⟩:=x
   simp only at hx1 hx2
   have hi:i < m:=by omega
   obtain ⟨b0,o0,x0,hA0,hc0',hx0⟩:=(E0.out.below hb).at hi
   obtain ⟨b1,o1,x1,hA1,hc1',hx1'⟩:=(E1.out.below hb).at hi
   subst hA0 hA1
   rw [hB] at a b r s
   have ha:=a.cell
   have hbc:=b.cell
   have hi0:(0:Int)<=(i:Int):=by omega
   have hi1:(i:Int) < (m:Int):=by omega
   have cU:=fun W:World=>Zc6.calls x0 x1 _ W (Zre _ _)
   obtain ⟨q,hq⟩:∃ q,cmpI x0 x1=q:=⟨_,rfl⟩
   rw [hq] at cU
   have HQx:=Lib.hid hq
   have HX0:=Lib.hid hx0
   have HX1:=Lib.hid hx1'
   have HRb:=Lib.hid r
   have HSb:=Lib.hid s
   have HAb:=Lib.hid a
   have HBb:=Lib.hid b
   have HB:=Lib.hid hb
   have HS:=Lib.hid hs
   have HI:=Lib.hid hx1
   have HP:=Lib.hid (show BkP (fun j x=>x=l0.getD j 0) m (pre ++ [(i,y)]) from hsp)
   have hrc:=r.cell
   have hrf:=r.frozen
   clear hq hx0 hx1' r s a b hb hs hx1 hx2 hsp
   by_cases hq0:q=0
   ·subst hq0
    gi_wp2
    rename_i K hK
    refine Zef (by kernel_rfl) (by kernel_rfl) (fun h=>by obtain ⟨_,_,h⟩:=h;exact h) (by kernel_rfl) ?_
    repeat (go_big_quiet_step ((go_at_call 166;exact Zfx (cU _))))
    refine wpQuiet_nil ?_
    rintro _ ⟨nq2,rfl⟩
    refine hK _ _ ?_
    gi_wp2
    have hxx:x0=x1:=by
     have := HQx.out;unfold cmpI at this
     split at this
     ·cases this
     ·split at this
      ·cases this
      ·omega
    exact ⟨⟨Nat.le_refl _,fun k o _ h _=>h⟩,⟨rfl,fun h=>h⟩,⟨by rw [hB];exact HAb.out,by rw [hB];exact HBb.out,by rw [hB];exact HRb.out,⟨u,by rw [hB];exact HSb.out⟩,Za6 HB.out nq2,fun z hz=>by
     rcases List.mem_append.1 hz with h|h
     ·exact HS.out z h
     ·rw [List.mem_singleton.1 h];exact HX0.out.symm.trans (hxx.trans HX1.out)⟩⟩
   ·have hqt:(q != 0)=true:=by rw [bne_iff_ne];exact hq0
    clear hq0
    gi_wp2
    rename_i K hK
    refine Zef (by kernel_rfl) (by kernel_rfl) (fun h=>by obtain ⟨_,_,h⟩:=h;exact h) (by kernel_rfl) ?_
    repeat (go_big_quiet_step ((go_at_call 166;exact Zfx (cU _))))
    refine wpQuiet_nil ?_
    rintro _ ⟨nq2,rfl⟩
    refine hK _ _ ?_
    gi_wp2
    have hne:x0 ≠ x1:=fun e=>by
     have := HQx.out;rw [e,Zhs] at this
     rw [<- this] at hqt;cases hqt
    have hqR:q=R:=by
     rw [<- HQx.out,<- HRes.out,HX0.out,HX1.out]
     refine Zsh hd0 hd1 (by have := HM.out;have := HM1.out;omega) (by have := HM.out;omega) (fun j hj hj2=>?_) (by rw [<- HX0.out,<- HX1.out];exact hne)
     have hjm:j < m:=by have := HM.out;omega
     have hk:m - 1 - j < pre.length:=by have := HI.out;omega
     have h2:=HP.out.2 (m - 1 - j) (pre[m - 1 - j]'hk) (by rw [List.getElem?_append_left hk];exact List.getElem?_eq_getElem hk)
     have h3:=HS.out _ (List.getElem_mem hk)
     rw [h2.1,show m - 1 - (m - 1 - j)=j by omega] at h3
     exact h3
    subst hqR
    refine ⟨(KeepsOthers.trans (A:=W) (B:=W.drewN nq2) ⟨Nat.le_refl _,fun k o h _=>h⟩ (KeepsOthers.setCell (W.drewN nq2) _ _)).from _,⟨rfl,?_,?_⟩⟩
    ·rw [hB];exact Boxed.set _ HRb.out
    ·exact (Za6 HB.out nq2).setCell (p:=⟨B+1+1,0,none⟩) (by simp;omega) _
  case done =>
   rintro D ys W hD ⟨hp,hpl⟩ ⟨a,b,r,_,hb,hs⟩ hK
   have hR0:R=0:=by
    rw [<- HRes.out,Zpp (a:=l0) (b:=l1) (by have := HM.out;have := HM1.out;omega) (fun i hi=>by
     have him:i < m:=by have := HM.out;omega
     have hk:m - 1 - i < ys.length:=by omega
     have h2:=hp.2 (m - 1 - i) (ys[m - 1 - i]'hk) (List.getElem?_eq_getElem hk)
     have h3:=hs _ (List.getElem_mem hk)
     rw [h2.1,show m - 1 - (m - 1 - i)=i by omega] at h3
     exact h3),Zhs]
   subst hR0
   rw [hB] at r
   have hrc:=r.cell
   have hrf:=r.frozen
   have HRb:=Lib.hid r
   have HB:=Lib.hid hb
   have HK:=Lib.hid hK
   clear hp hpl a b r hb hs hK
   gi_wp2
   have hK':=(KeepsOthers.setCell W ⟨B+1+1,0,none⟩ (.int .i64 0)).same D _ HK.out rfl
   refine ⟨by simp,.inl ⟨_,_,rfl,run_takeDeferred hK',?_⟩⟩
   have hc5:=cell_kept (Boxed.set (.int .i64 0) HRb.out).cell (grownBy_putObj' _ D (.deferred none)) (fun r e=>by cases e;exact ⟨_,hK',rfl⟩)
   exact ⟨.int .i64 0,by simp [results,Tryz.f138,go_sem,hc5],rfl,hB ▸ ((HB.out.setCell (p:=⟨w.heap.size+1+1,0,none⟩) (by simp;omega) _).trans (belowK_b (w:=w) (Nat.le_refl _) _ D _ _ (by simp [Zle] at hD;omega) (by rw [hB];exact hK') rfl rfl))⟩
  case stop =>
   rintro D c pre W hD hpre ⟨rfl,r,hb⟩ hK
   rw [hB] at r
   gi_wp2
   refine ⟨by simp,.inl ⟨_,_,rfl,run_takeDeferred hK,?_⟩⟩
   have hc5:=cell_kept r.cell (grownBy_putObj' _ D (.deferred none)) (fun r e=>by cases e;exact ⟨_,hK,rfl⟩)
   exact ⟨.int .i64 R,by simp [results,Tryz.f138,go_sem,hc5],rfl,hB ▸ (hb.trans (belowK_b (w:=w) (Nat.le_refl _) W D _ _ (by simp [Zle] at hD;omega) hK rfl rfl))⟩
 ·have hq0:(q != 0)=true:=by
   rw [bne_iff_ne];intro e;subst e
   have := HQ.out;unfold cmpI at this;split at this
   ·cases this
   ·split at this
    ·cases this
    ·omega
  have hqR:q=R:=by rw [<- HQ.out,<- HRes.out];exact Zrd hd0 hd1 hn0 hn1 hlen
  subst hqR
  clear hlen
  gi_wp2_with (refine ⟨trivial,?_⟩;gi_at_call 165;refine (callsIn_wide.2 (cI _)).mono ?_;rintro e w' ⟨rfl,nq,rfl⟩)
  have hbx:=Zpn (Boxed.new ((w.alloc (.cells #[.slice A0 l0.length c0] 134)).alloc (.cells #[.slice A1 l1.length c1] 134)) 3 (.int .i64 0)) nq
  simp only [World.size_alloc] at hbx
  have hc5:=(Boxed.set (.int .i64 q) hbx).cell
  exact ⟨.int .i64 q,by simp [results,Tryz.f138,go_sem,hc5],rfl,(Za6 ((((Below.refl _ w).alloc (Nat.le_refl _) _).alloc (by simp) _).alloc (by simp;omega) _) nq).setCell (p:=⟨w.heap.size+1+1,0,none⟩) (by simp;omega) _⟩
def Zax.f (l0 l1:List Int):Option Int:=if okW l0 && okW l1 then some (cmpI (num l0) (num l1)) else none
theorem Zax.calls (A0:Option Addr) (c0:Nat) (l0:List Int) (A1:Option Addr) (c1:Nat) (l1:List Int) (r:Int) (w:World) (hr0:Kd.C (Kd.int .u32) w A0 l0.length l0) (hc0:l0.length<=c0) (hr1:Kd.C (Kd.int .u32) w A1 l1.length l1) (hc1:l1.length<=c1) (h:Zax.f l0 l1=some r) :
  Calls Tryz.prog 138 #[.slice A0 l0.length c0,.slice A1 l1.length c1] w fun e w'=>e=.returned (.int .i64 r)/\Below w.heap.size w w':=by
 unfold Zax.f at h
 split at h
 case isFalse=>cases h
 case isTrue hk =>
 rw [Bool.and_eq_true,Zee,Zee] at hk
 obtain rfl:=Option.some.inj h
 exact Zk2 A0 c0 l0 A1 c1 l1 w hr0 hc0 hr1 hc1 hk.1.dg hk.2.dg hk.1.nz hk.2.nz hk.1.len hk.2.len
end YtjbjkmccfocikaaGreatDoor.B
end
section
namespace YtjbjkmccfocikaaGreatDoor.B
open Go.RowKit YtjbjkmccfocikaaGreatDoorW.PrintWords YtjbjkmccfocikaaGreatDoorW.PrintLast YtjbjkmccfocikaaGreatDoorW.PrintMore
attribute [local go_sem] Zb7 Zb9 Zcr Zcs Zbp Zbq Zb8 Zca
def Zl.l0:Nat->List Int->Int->Int->Option (List Int)
 | 0,_,_,_=>none
 | k+1,x0,x2,x3=>if x2 < x3 then (if 0<=x3 then (if x3 < (x0.length:Int) then (if 0<=x2 then (if x2 < (x0.length:Int) then (Zl.l0 k ((x0.set (x2:Int).toNat (rd x0 x3)).set (x3:Int).toNat (rd x0 x2)) (wrap64 (x2+1)) (wrap64 (x3 - 1))) else (none)) else (none)) else (none)) else (none)) else (some x0)
def Zl.f (k:Nat) (l0:List Int):Option (List Int):=Zl.l0 k l0 0 (wrap64 ((l0.length:Int) - 1))
def Zl.T3:Bool × List (List Nat × List Nat):=(true,[([],[]),([],[]),([],[]),([],[]),([],[]),([],[]),([4,5],[4,5]),([6],[6]),([],[]),([],[]),([8,9],[8,9]),([10],[10]),([0,1,0,1,4,5,6,7,11],[0,1]),([12,7,0,1,4,5,6,7,11],[7,12]),([2,3,0,1,2,3,4,5,6,7,8,9,10,11,12,13],[2,3]),([14,11,13,0,1,2,3,4,5,6,7,8,9,10,11,12,13],[11,14])])
def Zl.B3:List Nat:=[0,0,0,0,0,0,48,112,0,0,768,1792,4083,8179,16383,32767]
theorem Zl.tab3:rtab .any (opsOf Tryz.f144 3)=Zl.T3:=by kernel_rfl
theorem Zl.bits3:waitsOk Zl.T3.2 Zl.B3=true:=by kernel_rfl
theorem Zl.calls (k:Nat) (P0_:Nat->Prop) (u9000_:Value) (l0:List Int) (r:List Int) (w0 w:World) (hB:Below w0.heap.size w0 w) (ho0:Kd.R (Kd.int .u8) 5 w w0.heap.size P0_ u9000_ l0) (h:Zl.f k l0=some r) :
  Calls Tryz.prog 144 #[u9000_] w fun e w'=>e=.returned (.tuple #[])/\Kd.R (Kd.int .u8) 5 w' w0.heap.size (fun k_=>(P0_ k_\/w.heap.size<=k_)) u9000_ r/\Below w0.heap.size w0 w'/\Kept w w' (fun k_=>P0_ k_):=by
 have HO0:=am (show Kd.R (Kd.int .u8) 5 w w0.heap.size (fun k_=>(P0_ k_\/w.heap.size<=k_)) u9000_ l0 from Kd.Zh ho0 (fun k_ hk=>(.inl hk)))
 have HK:=am (Kept.refl w (fun k_=>P0_ k_))
 have HW0:=am hB.size
 have HB:=am hB
 clear hB
 have H:(Zl.l0 k l0 0 (wrap64 ((l0.length:Int) - 1)))=some r:=h
 clear h
 have H':=am H
 clear H
 obtain ⟨Ao2,co2,eo2⟩:=Kd.Zj HO0.o
 subst eo2
 go_enter Tryz.func144,Tryz.ntmps144
 go_wp2
 go_loopg [2,3] k (fun kq v2 v3 w' => ∃ (x0_1:List Int) (x2_1:Int) (x3_1:Int),v2=.int .i64 x2_1/\v3=.int .i64 x3_1/\Aside0 (Zl.l0 kq x0_1 x2_1 x3_1=some r)/\Aside0 (kq<=k)/\Aside0 (Kd.R (Kd.int .u8) 5 w' w0.heap.size (fun k_=>(P0_ k_\/w.heap.size<=k_)) (.slice Ao2 l0.length co2) x0_1)/\Aside0 (Kept w w' (fun k_=>P0_ k_))/\Aside0 (Below w0.heap.size w0 w'))
 case atStart=>exact ⟨(l0),(0),(wrap64 ((l0.length:Int) - 1)),pR,pR,H',⟨Nat.le_refl _⟩,⟨by refine rp ?_;exact HO0.o⟩,⟨by repeat (first|(with_reducible first|exact HK.out|apply Kept.alloc|apply Kept.drewN|apply Kept.drew)|exact HK.out)⟩,⟨pB⟩⟩
 case round =>
  clear H'
  obtain ⟨x0_1,x2_1,x3_1,rfl,rfl,HA,HK1,HO_0,HK,HB⟩:=hrel
  have hl0_1:=(Kd.Zc HO_0.o).1
  rw [hl0_1] at HO_0
  (try simp only [hl0_1])
  cases gk with
  | zero=>exact absurd HA.out (by simp [Zl.l0])
  | succ k1 =>
   have H:=HA.out
   clear HA
   simp only [Zl.l0] at H
   by_cases c3:x2_1 < x3_1
   ·rw [if_pos c3] at H
    have c3b0:decide (x2_1 < x3_1)=true:=decide_eq_true c3
    clear c3
    by_cases c4:0<=x3_1
    ·rw [if_pos c4] at H
     have c4b0:decide (0<=x3_1)=true:=decide_eq_true c4
     clear c4
     by_cases c5:x3_1 < (x0_1.length:Int)
     ·rw [if_pos c5] at H
      have c5b0:decide (x3_1 < (x0_1.length:Int))=true:=decide_eq_true c5
      clear c5
      by_cases c6:0<=x2_1
      ·rw [if_pos c6] at H
       have c6b0:decide (0<=x2_1)=true:=decide_eq_true c6
       clear c6
       by_cases c7:x2_1 < (x0_1.length:Int)
       ·rw [if_pos c7] at H
        have c7b0:decide (x2_1 < (x0_1.length:Int))=true:=decide_eq_true c7
        clear c7
        obtain ⟨qm,qc⟩:∃ y_:List Int,y_=(x0_1.set (x2_1:Int).toNat (rd x0_1 x3_1)):=⟨_,rfl⟩
        replace H:(Zl.l0 k1 (qm.set (x3_1:Int).toNat (rd x0_1 x2_1)) (wrap64 (x2_1+1)) (wrap64 (x3_1 - 1)))=some r:=by have hy_:=qc;exact pH
        have qi:=am qc
        clear qc
        obtain ⟨qn,qd⟩:∃ y_:List Int,y_=(qm.set (x3_1:Int).toNat (rd x0_1 x2_1)):=⟨_,rfl⟩
        replace H:(Zl.l0 k1 qn (wrap64 (x2_1+1)) (wrap64 (x3_1 - 1)))=some r:=by have hy_:=qd;exact pH
        have qj:=am qd
        clear qd
        have H':=am H
        clear H
        try go_wp2
        replace HO_0:=am (Kd.Zc1 HO_0.o)
        replace HK:=am (Kept.drew HK.out)
        replace HB:=am (Zav HB.o)
        have qe:0<=(x3_1:Int):=of_decide_eq_true pQ
        have qg:x3_1 < (x0_1.length:Int):=of_decide_eq_true pQ
        obtain ⟨qk,qo,qa⟩:=Kd.Za5 (Kd.Zc HO_0.o).2.2 x3_1 qe qg
        cases qo
        replace qe:=eq_true qe
        replace qg:=eq_true qg
        have qf:0<=(x2_1:Int):=of_decide_eq_true pQ
        have qh:x2_1 < (x0_1.length:Int):=of_decide_eq_true pQ
        obtain ⟨ql,qp,qb⟩:=Kd.Za5 (Kd.Zc HO_0.o).2.2 x2_1 qf qh
        obtain rfl:qk=ql:=(by injection qp)
        replace qf:=eq_true qf
        replace qh:=eq_true qh
        have p8:0<=(x2_1:Int):=of_decide_eq_true pQ
        have q8:(x2_1:Int) < ((x0_1.length:Int):Int):=of_decide_eq_true pQ
        obtain ⟨go8,co8,eo8,gb8,gl8,cl8,HG8⟩:=Kd.Zif HO_0.o (by omega)
        (first|cases eo8|(injection eo8 with ea_ en_ ec_;(first|subst ea_|(injection ea_ with ea_;subst ea_));subst ec_;clear en_))
        have GB8:=am gb8
        have GG8:=am HG8
        clear gb8 gl8 HG8
        have HMgo8:=am (show (P0_ go8\/w.heap.size<=go8) from (HO_0.o.1 _ rfl))
        (first|simp only [add_plain] at qa|skip)
        (first|simp only [add_plain] at qb|skip)
        obtain ⟨hx8_0,hf8_0⟩:=Kd.Zfc 0 HO_0.o (x2_1:Int) p8 q8
        replace p8:=eq_true p8
        replace q8:=eq_true q8
        have HP11:=Kd.Znq HO_0.o (x2_1:Int) (rd x0_1 x3_1)
        rw [<- qi.out] at HP11
        have HQ11:=am HP11
        clear HP11
        have p9:0<=(x3_1:Int):=of_decide_eq_true pQ
        have q9:(x3_1:Int) < ((x0_1.length:Int):Int):=of_decide_eq_true pQ
        obtain ⟨hx9_0,hf9_0⟩:=Kd.Zfc 0 HQ11.out (x3_1:Int) p9 q9
        replace p9:=eq_true p9
        replace q9:=eq_true q9
        have HP12:=Kd.Znq HQ11.out (x3_1:Int) (rd x0_1 x2_1)
        rw [<- qj.out] at HP12
        have HQ12:=am HP12
        clear HP12
        refine start_ (n:=16) (S:=fun w'=>w'.cell? ⟨go8,(x3_1).toNat,none⟩=some (.int .u8 (rd x0_1 x3_1))/\w'.cell? ⟨go8,(x2_1).toNat,none⟩=some (.int .u8 (rd x0_1 x2_1))) (ds:=[13,15]) #[false,false,false,false,false,false,false,false,false,false,false,false,false,false,false,false] (by kernel_rfl) rfl rfl ⟨qa,qb⟩ (fun hHeld=>?_);refine Zb6 Zl.tab3 Zl.bits3 (fun HT_ HW_=>?_)
        generalize wr.drew=w10 at HO_0 HK HB GG8 HQ11 HQ12 hf8_0 hf9_0 qa qb hx8_0 hx9_0 hHeld ⊢
        refine pu 0 (some 14) #[true,false,false,false,false,false,false,false,false,false,false,false,false,false,false,false] (h:=?_)
        refine pu 1 (some 15) #[true,true,false,false,false,false,false,false,false,false,false,false,false,false,false,false] (h:=?_)
        refine pu 2 (some 16) #[true,true,true,false,false,false,false,false,false,false,false,false,false,false,false,false] (h:=?_)
        refine pu 3 (some 17) #[true,true,true,true,false,false,false,false,false,false,false,false,false,false,false,false] (h:=?_)
        refine pu 4 (some 18) #[true,true,true,true,true,false,false,false,false,false,false,false,false,false,false,false] (h:=?_)
        refine pu 5 (some 19) #[true,true,true,true,true,true,false,false,false,false,false,false,false,false,false,false] (h:=?_)
        refine pu 6 (some 20) #[true,true,true,true,true,true,true,false,false,false,false,false,false,false,false,false] (h:=?_)
        refine pu 8 (some 22) #[true,true,true,true,true,true,true,false,true,false,false,false,false,false,false,false] (h:=?_)
        refine pu 9 (some 23) #[true,true,true,true,true,true,true,false,true,true,false,false,false,false,false,false] (h:=?_)
        refine pu 10 (some 24) #[true,true,true,true,true,true,true,false,true,true,true,false,false,false,false,false] (h:=?_)
        refine take_ (i:=7) (N:=some 21) (v:=?_) (a':=?_) #[true,true,true,true,true,true,true,true,true,true,true,false,false,false,false,false] rfl rfl (Zay HT_.out HW_.out (by kernel_rfl)) (fun _ _ _ h=>h) (Or.inl ⟨by rfl,?_⟩) hHeld ?_ ?_
        rotate_left
        ·rintro w' ⟨s0,s1⟩
         go_simp
         with_reducible rfl
        rotate_left
        ·exact pP
        refine take_ (i:=11) (N:=some 25) (v:=?_) (a':=?_) #[true,true,true,true,true,true,true,true,true,true,true,true,false,false,false,false] rfl rfl (Zay HT_.out HW_.out (by kernel_rfl)) (fun _ _ _ h=>h) (Or.inl ⟨by rfl,?_⟩) hHeld ?_ ?_
        rotate_left
        ·rintro w' ⟨s0,s1⟩
         go_simp
         with_reducible rfl
        rotate_left
        ·exact pP
        refine pu 12 (some 26) #[true,true,true,true,true,true,true,true,true,true,true,true,true,false,false,false] (h:=?_)
        refine last_ (i:=13) (N:=none) #[true,true,true,true,true,true,true,true,true,true,true,true,true,true,false,false] rfl rfl (Zbh HT_.out (by kernel_rfl)) (by decide) (fun K hK=>?_)
        refine skip_ (w1:=?_) (by rfl) rfl ?_ ?_
        rotate_left
        ·go_simp
         rfl
        refine hK.out _ _ ?_
        clear hK K
        refine pu 14 (some 27) #[true,true,true,true,true,true,true,true,true,true,true,true,true,true,true,false] (h:=?_)
        refine last_ (i:=15) (N:=none) #[true,true,true,true,true,true,true,true,true,true,true,true,true,true,true,true] rfl rfl (Zbh HT_.out (by kernel_rfl)) (by decide) (fun K hK=>?_)
        refine skip_ (w1:=?_) (by rfl) rfl ?_ ?_
        rotate_left
        ·go_simp
         rfl
        refine hK.out _ _ ?_
        clear hK K
        refine done_ (Zde HT_.out (by kernel_rfl)) ?_
        try go_wp2
        (try simp only [<- hl0_1])
        go_roundg k1
        case measure=>have := HK1.out;omega
        case rel=>exact ⟨(qn),(wrap64 (x2_1+1)),(wrap64 (x3_1 - 1)),pR,pR,H',⟨by have := HK1.out;omega⟩,⟨by (try simp only [hl0_1]);refine rp ?_;exact HQ12.out⟩,⟨by repeat (first|(with_reducible first|exact HK.out|apply Kept.alloc|apply Kept.drewN|apply Kept.drew|refine Kept.setCell ?_ HMgo8.out _|refine Kept.setCell ?_ HMgo8.out _)|exact HK.out)⟩,⟨by repeat (first|(with_reducible first|exact HB.o|apply Zcw|apply Za6|apply Zav|refine Zdn ?_ GB8.out|refine Zdn ?_ GB8.out)|exact HB.o)⟩⟩
       ·rw [if_neg c7] at H
        exact absurd H (by simp)
      ·rw [if_neg c6] at H
       exact absurd H (by simp)
     ·rw [if_neg c5] at H
      exact absurd H (by simp)
    ·rw [if_neg c4] at H
     exact absurd H (by simp)
   ·rw [if_neg c3] at H
    have c3b0:decide (x2_1 < x3_1)=false:=decide_eq_false c3
    clear c3
    obtain rfl:=Option.some.inj H
    go_wp2
    first|go_end0|((try simp only [Exit.inBlock,Exit.then]);refine bodyPost_ret (results_none rfl _ _ _) rfl ?_)
    exact ⟨pE,(by first|exact (Kd.Za HO_0.o pl)|(simp only [hl0_1];exact (Kd.Za HO_0.o pl))),pB,by repeat (first|(with_reducible first|exact HK.out|apply Kept.alloc|apply Kept.drewN|apply Kept.drew)|exact HK.out)⟩
end YtjbjkmccfocikaaGreatDoor.B
end
section
namespace YtjbjkmccfocikaaGreatDoor.B
open Go.RowKit YtjbjkmccfocikaaGreatDoorW.PrintWords YtjbjkmccfocikaaGreatDoor.P.Nm
attribute [local go_sem] Oper.semAt_some
theorem Zrt (h l:Int) (h1:0<=h) (h2:h < 4294967296) (h3:0<=l) (h4:l < 4294967296):bits .or .u64 (h*4294967296) l=h*4294967296+l:=by
 obtain ⟨A,rfl⟩:=Int.eq_ofNat_of_zero_le h1
 obtain ⟨B,rfl⟩:=Int.eq_ofNat_of_zero_le h3
 have e:(A:Int)*4294967296=((A*4294967296:Nat):Int):=by omega
 rw [e,bits_or_u64_nat (A*4294967296) B (by omega) (by omega),show A*4294967296=2 ^ 32*A by omega,<- Nat.two_pow_add_eq_or_of_lt (by omega:B < 2 ^ 32)]
 omega
theorem div32 (a0 a1 a2:Int) (w:World) (h1:0<=a0) (h2:a0 < a2) (h3:0<=a1) (h4:a1 < 4294967296) (h5:a2 < 4294967296) :
  Calls Tryz.prog 169 #[.int .u32 a0,.int .u32 a1,.int .u32 a2] w fun e w'=>e=.returned (.tuple #[.int .u32 ((a0*4294967296+a1) / a2),.int .u32 ((a0*4294967296+a1) % a2)])/\Drawn0 w w':=by
 have b1:(a2 != 0)=true:=bne_iff_ne.2 (by omega)
 have b1':decide (a2 ≠ 0)=true:=decide_eq_true (by omega)
 have b2:decide (a2<=a0)=false:=decide_eq_false (by omega)
 have b3:¬ a2=0:=by omega
 have e1:a0*4294967296 % 18446744073709551616=a0*4294967296:=by omega
 have e2:=Zrt a0 a1 h1 (by omega) h3 h4
 have e3:(a0*4294967296+a1) / a2 % 4294967296=(a0*4294967296+a1) / a2:=by
  have:(a0*4294967296+a1) / a2 < 4294967296:=Int.ediv_lt_of_lt_mul (by omega) (by
   have := Int.mul_le_mul_of_nonneg_right (show a0+1<=a2 by omega) (show (0:Int)<=4294967296 by omega)
   omega)
  have:0<=(a0*4294967296+a1) / a2:=Int.ediv_nonneg (by omega) (by omega)
  omega
 have e4:(a0*4294967296+a1) % a2 % 4294967296=(a0*4294967296+a1) % a2:=by
  have := Int.emod_lt_of_pos (a0*4294967296+a1) (show 0 < a2 by omega)
  have := Int.emod_nonneg (a0*4294967296+a1) (show a2 ≠ 0 by omega)
  omega
 go_enter Tryz.func169,Tryz.ntmps169
 go_wp2
 repeat (go_quiet (fail);try go_wp2)
 go_ret2
 exact ⟨rfl,⟨_,rfl⟩⟩
theorem Zrw (l:List Int) (x:Int):rd (l ++ [x]) (l.length:Int)=x:=by
 unfold rd
 rw [Int.toNat_natCast]
 simp [List.getD]
theorem Zh5:∀ (n:Nat) (l:List Int) (k:Nat),l.length=n->n < k->n<=4611686018427387904->Zv.l0 k l=some (trimL l)
 | n,l,0,_,h,_=>by omega
 | 0,l,k+1,hn,_,_=>by
  obtain rfl:=List.eq_nil_of_length_eq_zero hn
  rfl
 | n+1,l,k+1,hn,hk,hb=>by
  obtain ⟨l',x,rfl⟩:=Ze9 (l:=l) (by intro e;subst e;simp at hn)
  have hl':l'.length=n:=by simpa using hn
  have e:wrap64 (((l' ++ [x]).length:Int) - 1)=(l'.length:Int):=by rw [hn];unfold wrap64;omega
  simp only [Zv.l0]
  rw [e,if_pos (by rw [hn];omega),if_pos (by omega),if_pos (by rw [hn];omega),Zrw]
  by_cases hx:x=0
  ·subst hx
   rw [if_pos rfl,if_pos (by rw [hn];omega),Int.toNat_natCast,List.take_left,Zej]
   exact Zh5 n l' k hl' (by omega) (by omega)
  ·rw [if_neg hx,if_neg (by rw [hn];omega),Ze4 _ hx]
theorem Zsw (l:List Int) {k:Nat} (h:l.length < k) (hb:l.length<=4611686018427387904):Zv.f k l=some (trimL l):=Zh5 _ l k rfl h hb
structure SmallAt (by_:Int) (l:List Int) (j:Nat) (xs:List Int) (rest:Int):Prop where
 len:xs.length=l.length
 dg:Dg 4294967296 xs
 r0:0<=rest
 r1:rest < by_
 law:val 4294967296 (l.drop (l.length - j))=val 4294967296 (xs.drop (l.length - j))*by_+rest
theorem Zi4 {xs:List Int} {i:Nat} (h:i < xs.length) (q:Int):(xs.set i q).drop i=q :: xs.drop (i+1):=by
 rw [List.drop_eq_getElem_cons (by simpa using h)]
 simp [List.drop_set]
theorem SmallAt.start {by_:Int} {l:List Int} (h:0 < by_):SmallAt by_ l 0 (List.replicate l.length 0) 0 :=
 ⟨by simp,Dg.zeros (by omega) _,by omega,h,by simp [val]⟩
theorem SmallAt.step {by_:Int} {l:List Int} {j:Nat} {xs:List Int} {rest:Int} (h:SmallAt by_ l j xs rest) (hb:0 < by_) (hb2:by_ < 4294967296) (hd:Dg 4294967296 l) (hj:j < l.length) :
  SmallAt by_ l (j+1) (xs.set (l.length - 1 - j) ((rest*4294967296+l.getD (l.length - 1 - j) 0) / by_)) ((rest*4294967296+l.getD (l.length - 1 - j) 0) % by_):=by
 have hi:l.length - 1 - j < l.length:=by omega
 obtain ⟨i,hiE⟩:∃ i,l.length - 1 - j=i:=⟨_,rfl⟩
 rw [hiE] at hi ⊢
 have hx:=hd _ (List.getElem_mem hi)
 obtain ⟨x,hxE⟩:∃ x,l[i]=x:=⟨_,rfl⟩
 have hg:l.getD i 0=x:=by rw [List.getD,List.getElem?_eq_getElem hi];exact hxE
 rw [hxE] at hx
 rw [hg]
 obtain ⟨z,hz⟩:∃ z,rest*4294967296+x=z:=⟨_,rfl⟩
 rw [hz]
 have hr0:=h.r0
 have hr1:=h.r1
 have hq:z / by_ < 4294967296:=Int.ediv_lt_of_lt_mul hb (by
  have := Int.mul_le_mul_of_nonneg_right (show rest+1<=by_ by omega) (show (0:Int)<=4294967296 by omega)
  omega)
 have hq0:0<=z / by_:=Int.ediv_nonneg (by omega) (by omega)
 refine ⟨by rw [List.length_set];exact h.len,fun y hy=>?_,Int.emod_nonneg _ (by omega),Int.emod_lt_of_pos _ hb,?_⟩
 ·rcases List.mem_or_eq_of_mem_set hy with hy|rfl
  ·exact h.dg y hy
  ·exact ⟨hq0,hq⟩
 ·have e1:l.length - (j+1)=i:=by omega
  have e2:l.length - j=i+1:=by omega
  have hlaw:=h.law
  rw [e2] at hlaw
  rw [e1,Zi4 (by rw [h.len];exact hi),List.drop_eq_getElem_cons hi,hxE,Zb3,Zb3,hlaw]
  have := Int.mul_ediv_add_emod z by_
  rw [Int.add_mul,Int.mul_assoc,Int.mul_comm (z / by_)]
  generalize val 4294967296 (List.drop (i+1) xs)*by_=V at *
  omega
theorem SmallAt.done {by_:Int} {l:List Int} {xs:List Int} {rest:Int} (h:SmallAt by_ l l.length xs rest) (hd:Dg 4294967296 l):trimL xs=limbs (num l / by_.toNat)/\rest=((num l % by_.toNat:Nat):Int):=by
 have hlaw:=h.law
 rw [Nat.sub_self,List.drop_zero,List.drop_zero,<- Zdj hd] at hlaw
 have hr0:=h.r0
 have hr1:=h.r1
 have hv:=Zdj h.dg
 obtain ⟨b,rfl⟩:=Int.eq_ofNat_of_zero_le (show 0<=by_ by omega)
 obtain ⟨r,rfl⟩:=Int.eq_ofNat_of_zero_le hr0
 rw [Int.toNat_natCast]
 rw [<- hv] at hlaw
 have e:num l=num xs*b+r:=by exact_mod_cast hlaw
 have hrb:r < b:=by omega
 have hb0:0 < b:=by omega
 have e1:num l / b=num xs:=by rw [e,Nat.mul_comm,Nat.mul_add_div hb0,Nat.div_eq_of_lt hrb,Nat.add_zero]
 have e2:num l % b=r:=by rw [e,Nat.mul_comm,Nat.mul_add_mod,Nat.mod_eq_of_lt hrb]
 exact ⟨by rw [e1];exact Zin h.dg hv.symm,by rw [e2]⟩
theorem KpB.set {Bs:Nat} {A:Option Addr} {m:Nat} {Rd:Nat->Int->Prop} {W:World} {p:Addr} (u:Value) (hp:Bs ≠ p.block) (ha:m=0 \/ ∃ b o,A=some ⟨b,o,none⟩/\b ≠ p.block):KpB Bs A m Rd W (W.setCell p u) :=
 ⟨Below.heap_setCell W p u Bs hp,fun h=>by
  rcases h with h|⟨b,o,rfl,h⟩
  ·exact .inl h
  ·rcases ha with h0|⟨b',o',e,hne⟩
   ·exact .inl h0
   ·cases e
    exact .inr ⟨b,o,rfl,fun j hj=>by
     obtain ⟨x,hx,hR⟩:=h j hj
     exact ⟨x,(World.cell?_of_block (a:=⟨b,o+j,none⟩) (Below.heap_setCell W p u b hne)).trans hx,hR⟩⟩⟩
structure SmI (w:World) (A0:Option Addr) (m c0:Nat) (by_:Int) (l0:List Int) (pre:List (Nat × Int)) (W:World):Prop where
 a:Boxed W w.heap.size 134 (.slice A0 m c0)
 d:Boxed W (w.heap.size+1) 85 (.int .u32 by_)
 o:Boxed W (w.heap.size+1+1+1) 134 (.slice (some ⟨w.heap.size+1+1,0,none⟩) m m)
 s:∃ u,Boxed W (w.heap.size+1+1+1+1+1) 134 u
 st:∃ xs rest,SmallAt by_ l0 pre.length xs rest/\Boxed W (w.heap.size+1+1+1+1) 85 (.int .u32 rest)/\W.ownsRow w.heap.size 85 1 (.slice (some ⟨w.heap.size+1+1,0,none⟩) m m) m (nums .u32 xs)
 low:Below w.heap.size w W
theorem Zfs {A W:World} {base e size n:Nat} {v:Value} {xs:List Value} {row:Option Nat} {k:Nat} (h:A.ownsRow base e size v n xs) (hg:A.grownBy W row) (hr:∀ r,row=some r->k<=r /\ ∃ o:Obj,A.heap[r]? = some o/\o.isCells=false):W.ownsRow base e size v n xs:=by
 refine h.kept hg ?_
 rcases hb:v.ownBlock with _|b
 ·exact .inl rfl
 ·refine .inr (fun e=>?_)
  obtain ⟨_,o,ho,hc⟩:=hr b e.symm
  obtain ⟨cells,hcell⟩:=Ze2 h b hb
  rw [hcell] at ho
  obtain rfl:=Option.some.inj ho
  cases hc
theorem SmI.own {w:World} {A0:Option Addr} {m c0:Nat} {by_:Int} {l0:List Int} {n:Nat} (hn:w.heap.size<=n):OwnFrom n (SmI w A0 m c0 by_ l0):=by
 rintro pre A W row ⟨a,d,o,⟨u,s⟩,⟨xs,rest,h1,h2,h3⟩,hb⟩ hg hr
 exact ⟨a.kept hg (not_row hr a),d.kept hg (not_row hr d),o.kept hg (not_row hr o),⟨u,s.kept hg (not_row hr s)⟩,⟨xs,rest,h1,h2.kept hg (not_row hr h2),Zfs h3 hg hr⟩,(ownFrom_below (Nat.le_refl _) hn:OwnFrom _ (fun _:List (Nat × Int)=>Below w.heap.size w)) pre A W row hb hg hr⟩
theorem SmI.minds {w:World} {A0:Option Addr} {m c0:Nat} {by_:Int} {l0:List Int}:Minds (w.heap.size+1+1+1+1+1) (SmI w A0 m c0 by_ l0):=by
 rintro pre W u ⟨a,d,o,⟨v,s⟩,⟨xs,rest,h1,h2,h3⟩,hb⟩
 exact ⟨(Zbn W _ u _ (by omega)).trans a,(Zbn W _ u _ (by omega)).trans d,(Zbn W _ u _ (by omega)).trans o,⟨u,s.set u⟩,⟨xs,rest,h1,(Zbn W _ u _ (by omega)).trans h2,Zh0 h3 (by simp [Value.ownBlock];omega) u⟩,hb.setCell (p:=⟨w.heap.size+1+1+1+1+1,0,none⟩) (by simp;omega) u⟩
theorem Zop (A0:Option Addr) (c0:Nat) (l0:List Int) (by_:Int) (w:World) (hr0:Kd.C (Kd.int .u32) w A0 l0.length l0) (hc0:l0.length<=c0) (hd0:Dg 4294967296 l0) (hz0:l0.length<=1000000) (hb1:0 < by_) (hb2:by_ < 4294967296) :
  Calls Tryz.prog 143 #[.slice A0 l0.length c0,.int .u32 by_] w fun e w' => ∃ v0_:Value,e=.returned (.tuple #[v0_,.int .u32 ((num l0 % by_.toNat:Nat):Int)])/\Kd.R (Kd.int .u32) 85 w' w.heap.size (fun _=>True) v0_ (limbs (num l0 / by_.toNat))/\Below w.heap.size w w':=by
 obtain ⟨RR,hRR⟩:∃ RR:Int,((num l0 % by_.toNat:Nat):Int)=RR:=⟨_,rfl⟩
 obtain ⟨QL,hQL⟩:∃ QL:List Int,limbs (num l0 / by_.toNat)=QL:=⟨_,rfl⟩
 rw [hRR,hQL]
 have HRR:=Lib.hid hRR
 have HQL:=Lib.hid hQL
 clear hRR hQL
 refine (callsIn_wide (n:=4)).1 ?_
 refine callsIn_of_wp_marks Tryz.func143 rfl trivial ?_ rfl
 simp only [Tryz.ntmps143,List.size_toArray,List.length_cons,List.length_nil,Nat.reduceAdd,Nat.reduceSub,Array.replicate_succ,Array.replicate_zero,List.push_toArray,List.append_toArray,List.nil_append,List.cons_append]
 have e0:=Zft hr0
 have E0:=Lib.hid e0
 clear e0 hr0
 obtain ⟨m,hm⟩:∃ m,l0.length=m:=⟨_,rfl⟩
 rw [hm] at E0 hz0 hc0 ⊢
 have HM:=Lib.hid hm
 clear hm
 obtain ⟨i0,hi,hzz⟩:=Option.map_eq_some_iff.1 info85
 simp only [Prod.mk.injEq] at hzz
 obtain ⟨hz1,hz2,hz3⟩:=hzz
 have hmk:∀ W:World,(Instr.makeSlice 134 (.int .i64 m) (.int .i64 m)).run Tryz.prog W=.ok (.slice (some ⟨W.heap.size,0,none⟩) m m) (W.alloc (.cells (madeCells #[.int .u32 0] m) 85)):=fun W=>by
  have := run_make (P:=Tryz.prog) W 134 85 i0 (.int .u32 0) Tryz.underlying134 hi hz1 .i64 .i64 (m:Int) (m:Int) (by omega) (by omega) (by rw [hz3];omega) (by omega)
  simp only [Int.toNat_natCast,hz2,Nat.mul_one] at this
  exact this
 gi_wp2_with (refine ⟨trivial,?_⟩;gi_at_call 158;refine (Zkq _ _ _ _ _).mono ?_;rintro e w' ⟨rfl,rfl⟩)
 have bA:=((((((Boxed.new w 134 (.slice A0 m c0)).alloc (.cells #[.int .u32 by_] 85)).alloc (.cells (madeCells #[.int .u32 0] m) 85)).alloc (.cells #[.slice (some ⟨w.heap.size+1+1,0,none⟩) m m] 134)).alloc (.cells #[.int .u32 0] 85)).alloc (.cells #[.slice A0 m c0] 134))
 have bD:=(((((Boxed.new (w.alloc (.cells #[.slice A0 m c0] 134)) 85 (.int .u32 by_)).alloc (.cells (madeCells #[.int .u32 0] m) 85)).alloc (.cells #[.slice (some ⟨w.heap.size+1+1,0,none⟩) m m] 134)).alloc (.cells #[.int .u32 0] 85)).alloc (.cells #[.slice A0 m c0] 134))
 have bW:=Zcm (Zcm (Zcm (Zmc ((w.alloc (.cells #[.slice A0 m c0] 134)).alloc (.cells #[.int .u32 by_] 85)) w.heap.size 85 .u32 m (by simp;omega) (by omega)) (.cells #[.slice (some ⟨w.heap.size+1+1,0,none⟩) m m] 134)) (.cells #[.int .u32 0] 85)) (.cells #[.slice A0 m c0] 134)
 have bO:=(((Boxed.new (((w.alloc (.cells #[.slice A0 m c0] 134)).alloc (.cells #[.int .u32 by_] 85)).alloc (.cells (madeCells #[.int .u32 0] m) 85)) 134 (.slice (some ⟨w.heap.size+1+1,0,none⟩) m m)).alloc (.cells #[.int .u32 0] 85)).alloc (.cells #[.slice A0 m c0] 134))
 have bR:=((Boxed.new ((((w.alloc (.cells #[.slice A0 m c0] 134)).alloc (.cells #[.int .u32 by_] 85)).alloc (.cells (madeCells #[.int .u32 0] m) 85)).alloc (.cells #[.slice (some ⟨w.heap.size+1+1,0,none⟩) m m] 134)) 85 (.int .u32 0)).alloc (.cells #[.slice A0 m c0] 134))
 have bS:=(Boxed.new (((((w.alloc (.cells #[.slice A0 m c0] 134)).alloc (.cells #[.int .u32 by_] 85)).alloc (.cells (madeCells #[.int .u32 0] m) 85)).alloc (.cells #[.slice (some ⟨w.heap.size+1+1,0,none⟩) m m] 134)).alloc (.cells #[.int .u32 0] 85)) 134 (.slice A0 m c0))
 have hB0:Below w.heap.size w ((((((w.alloc (.cells #[.slice A0 m c0] 134)).alloc (.cells #[.int .u32 by_] 85)).alloc (.cells (madeCells #[.int .u32 0] m) 85)).alloc (.cells #[.slice (some ⟨w.heap.size+1+1,0,none⟩) m m] 134)).alloc (.cells #[.int .u32 0] 85)).alloc (.cells #[.slice A0 m c0] 134)) :=
  ((((((Below.refl _ w).alloc (Nat.le_refl _) _).alloc (by simp) _).alloc (by simp;omega) _).alloc (by simp;omega) _).alloc (by simp;omega) _).alloc (by simp;omega) _
 simp only [World.size_alloc] at bA bD bW bO bR bS
 have hSt:SmallAt by_ l0 0 (List.replicate m 0) 0:=HM.out ▸ SmallAt.start hb1
 have HSt:=Lib.hid hSt
 clear hSt hmk
 obtain ⟨B,hB⟩:∃ B,w.heap.size=B:=⟨_,rfl⟩
 rw [hB] at bA bD bW bO bR bS ⊢
 have HBw:=Lib.hid bW
 clear bW
 have hA0:m=0 \/ ∃ b o,A0=some ⟨b,o,none⟩/\b < B:=by
  rcases Nat.eq_zero_or_pos m with h|h
  ·exact .inl h
  ·obtain ⟨b,o,x,hA,hc,_⟩:=E0.out.at h
   exact .inr ⟨b,o,hA,by have := World.block_lt_of_cell? w _ hc;simp at this;omega⟩
 have HA0:=Lib.hid hA0
 clear hA0
 refine Zdy (b:=B+1+1+1+1+1) rfl (by decide) (gf:=184) (lb:=#[.pointer (some ⟨B+1+1+1+1+1,0,none⟩)]) rfl trivial (enters_of Tryz.func184 (by kernel_rfl) rfl)
  (Zgo 3 (by omega) (B+1+1+1+1+1) A0 m c0 (fun j x=>x=l0.getD j 0) (by omega) _ bS (E0.out.below (by rw [<- hB];exact hB0))) (by simp;omega) (fun h k=>h.trans k)
  (fun W l o o' hl ho hc hw=>KpB.put (by simp at hl;omega) ho hc) (Below.refl _ _) (fun _=>rfl)
  (SmI w A0 m c0 by_ l0) (fun _ _ _=>False) (SmI.own (by simp;omega)) (fun _=>by rintro pre A W row h;exact h.elim) (by rw [<- hB];exact SmI.minds) ?start
  (fun x=>{ tmps:=#[.slice A0 m c0,.int .u32 by_,.pointer (some ⟨B,0,none⟩),.pointer (some ⟨B+1,0,none⟩),.slice none 0 0,.int .u32 0,.pointer (some ⟨B+1+1+1,0,none⟩),.pointer (some ⟨B+1+1+1+1,0,none⟩),.int .i64 x.1,.slice A0 m c0,
   .int .i64 m,.slice (some ⟨B+1+1,0,none⟩) m m,.slice A0 m c0,.func (.func 184) #[] #[.pointer (some ⟨B+1+1+1+1+1,0,none⟩)],.int .i64 x.1,.int .u32 x.2,
   undef,undef,undef,undef,undef,undef,undef,undef,undef,undef,undef,undef,undef,undef,undef,undef],defers:=[] }) ?assign ?body ?done ?stop
 case start=>exact ⟨by rw [hB];exact bA,by rw [hB];exact bD,by rw [hB];exact bO,⟨_,by rw [hB];exact bS⟩,⟨_,_,HSt.out,by rw [hB];exact bR,by rw [hB];exact HBw.out⟩,by rw [<- hB];exact hB0⟩
 case assign =>
  intro l x W K hK
  gi_wp2
  exact hK
 case body =>
  rintro l pre x W ⟨a,d,o,⟨u,s⟩,⟨xs,rest,hst,r,hrow⟩,hb⟩ hlen hsp
  obtain ⟨hx1,hx2⟩:=hsp.2 pre.length x (by simp)
  obtain ⟨i,y⟩:=x
  simp only at hx1 hx2
  have hi':i < m:=by omega
  obtain ⟨b0,o0,x0,hA0',hc0',hx0⟩:=(E0.out.below hb).at hi'
  subst hA0'
  rw [hB] at a d o r s hrow
  have hac:=a.cell
  have hdc:=d.cell
  have hoc:=o.cell
  have hrc:=r.cell
  have hrf:=r.frozen
  have hi0:(0:Int)<=(i:Int):=by omega
  have hi1:(i:Int) < (m:Int):=by omega
  have hcw:=Zfh hrow (i:Int) hi0 hi1
  rw [Int.toNat_natCast] at hcw
  have hcc:=hcw.1
  have hcf:=hcw.2
  have hlm:=HM.out
  have hxE:l0.getD (l0.length - 1 - pre.length) 0=x0:=by rw [hlm,<- hx1];exact hx0.symm
  have hst':=hst.step hb1 hb2 hd0 (by omega)
  rw [hxE,hlm,<- hx1] at hst'
  have hx0r:0<=x0/\x0 < 4294967296:=by
   have hin:i < l0.length:=by omega
   rw [hx0,List.getD,List.getElem?_eq_getElem hin]
   exact hd0 _ (List.getElem_mem hin)
  have cD:=fun W:World=>div32 rest x0 by_ W hst.r0 hst.r1 hx0r.1 hx0r.2 hb2
  obtain ⟨q,hq⟩:∃ q,(rest*4294967296+x0) / by_=q:=⟨_,rfl⟩
  obtain ⟨z,hz⟩:∃ z,(rest*4294967296+x0) % by_=z:=⟨_,rfl⟩
  rw [hq,hz] at cD hst'
  have HST:=Lib.hid hst'
  have HRb:=Lib.hid r
  have HSb:=Lib.hid s
  have HAb:=Lib.hid a
  have HDb:=Lib.hid d
  have HOb:=Lib.hid o
  have HRow:=Lib.hid hrow
  have HB:=Lib.hid hb
  clear hq hz hst hst' hxE hx0r hlm hcw r s a d o hrow hb hsp hx2 hx0
  have HX1:=Lib.hid hx1
  clear hx1
  gi_wp2
  rename_i K hK
  have hS0:∀ W':World,W'.heap=W.heap->W'.cell? ⟨B+1+1+1,0,none⟩=some (.slice (some ⟨B+1+1,0,none⟩) m m)/\W'.cell? ⟨B,0,none⟩=some (.slice (some ⟨b0,o0,none⟩) m c0)/\W'.cell? ⟨B+1,0,none⟩=some (.int .u32 by_)/\W'.cell? ⟨b0,o0+i,none⟩=some (.int .u32 x0):=fun W' hW'=>⟨(World.cell?_of_block (by rw [hW'])).trans hoc,(World.cell?_of_block (by rw [hW'])).trans hac,(World.cell?_of_block (by rw [hW'])).trans hdc,(World.cell?_of_block (by rw [hW'])).trans hc0'⟩
  have hb0B:b0 < B:=by
   rcases HA0.out with h|⟨b,o,hA,hlt⟩
   ·omega
   ·cases hA;exact hlt
  have hS1:∀ (W':World) (p:Addr) (u:Value),(p.block=B+1+1\/p.block=B+1+1+1+1)->(W'.cell? ⟨B+1+1+1,0,none⟩=some (.slice (some ⟨B+1+1,0,none⟩) m m)/\W'.cell? ⟨B,0,none⟩=some (.slice (some ⟨b0,o0,none⟩) m c0)/\W'.cell? ⟨B+1,0,none⟩=some (.int .u32 by_)/\W'.cell? ⟨b0,o0+i,none⟩=some (.int .u32 x0)) ->
    ((W'.setCell p u).cell? ⟨B+1+1+1,0,none⟩=some (.slice (some ⟨B+1+1,0,none⟩) m m)/\(W'.setCell p u).cell? ⟨B,0,none⟩=some (.slice (some ⟨b0,o0,none⟩) m c0)/\(W'.setCell p u).cell? ⟨B+1,0,none⟩=some (.int .u32 by_)/\(W'.setCell p u).cell? ⟨b0,o0+i,none⟩=some (.int .u32 x0)):=fun W' p u hp hs =>
   ⟨(World.cell?_of_block (Below.heap_setCell W' p u (B+1+1+1) (by omega))).trans hs.1,(World.cell?_of_block (Below.heap_setCell W' p u B (by omega))).trans hs.2.1,(World.cell?_of_block (Below.heap_setCell W' p u (B+1) (by omega))).trans hs.2.2.1,(World.cell?_of_block (Below.heap_setCell W' p u b0 (by omega))).trans hs.2.2.2⟩
  refine wpIn_region_any (by kernel_rfl) (Zei (by kernel_rfl) (fun h=>by obtain ⟨_,_,h⟩:=h;exact h) _ _ _ _ (wpAny_of_held (S:=fun W':World=>W'.cell? ⟨B+1+1+1,0,none⟩=some (.slice (some ⟨B+1+1,0,none⟩) m m)/\W'.cell? ⟨B,0,none⟩=some (.slice (some ⟨b0,o0,none⟩) m c0)/\W'.cell? ⟨B+1,0,none⟩=some (.int .u32 by_)/\W'.cell? ⟨b0,o0+i,none⟩=some (.int .u32 x0)) _ _ _ _ ?_))
  refine wpAnyH_take (i:=0) rfl (by kernel_rfl) (by kernel_rfl) (by kernel_rfl) (fun _ _ _ h=>h) (v:=.slice (some ⟨B+1+1,0,none⟩) m m) (.inl ⟨by kernel_rfl,fun w hw=>?_⟩) (hS0 _ rfl) ?_
  ·obtain ⟨h1,h2,h3,h4⟩:=hw
   simp [execOp,Act.eval,go_sem,h1]
  refine wpAnyH_take (i:=1) rfl (by kernel_rfl) (by kernel_rfl) (by kernel_rfl) (fun _ _ _ h=>h) (.inl ⟨rfl,fun w hw=>rfl⟩) (hS0 _ rfl) ?_
  refine wpAnyH_take (i:=3) rfl (by kernel_rfl) (by kernel_rfl) (by kernel_rfl) (fun _ _ _ h=>h) (v:=.slice (some ⟨b0,o0,none⟩) m c0) (.inl ⟨by kernel_rfl,fun w hw=>?_⟩) (hS0 _ rfl) ?_
  ·obtain ⟨h1,h2,h3,h4⟩:=hw
   simp [execOp,Act.eval,go_sem,h2]
  refine wpAnyH_take (i:=4) rfl (by kernel_rfl) (by kernel_rfl) (by kernel_rfl) (fun _ _ _ h=>h) (.inl ⟨rfl,fun w hw=>rfl⟩) (hS0 _ rfl) ?_
  refine wpAnyH_take (i:=5) rfl (by kernel_rfl) (by kernel_rfl) (by kernel_rfl) (fun _ _ _ h=>h) (v:=.pointer (some ⟨b0,o0+i,none⟩)) (.inl ⟨by kernel_rfl,fun w hw=>?_⟩) (hS0 _ rfl) ?_
  ·simp [execOp,Act.eval,go_sem,hi0,hi1]
  refine wpAnyH_take (i:=6) rfl (by kernel_rfl) (by kernel_rfl) (by kernel_rfl) (fun _ _ _ h=>h) (v:=.int .u32 x0) (.inl ⟨by kernel_rfl,fun w hw=>?_⟩) (hS0 _ rfl) ?_
  ·obtain ⟨h1,h2,h3,h4⟩:=hw
   simp [execOp,Act.eval,go_sem,h4]
  refine wpAnyH_take (i:=7) rfl (by kernel_rfl) (by kernel_rfl) (by kernel_rfl) (fun _ _ _ h=>h) (v:=.int .u32 by_) (.inl ⟨by kernel_rfl,fun w hw=>?_⟩) (hS0 _ rfl) ?_
  ·obtain ⟨h1,h2,h3,h4⟩:=hw
   simp [execOp,Act.eval,go_sem,h3]
  have hrc':W.drew.cell? ⟨B+1+1+1+1,0,none⟩=some (.int .u32 rest):=hrc
  refine Zou (i:=2) (by kernel_rfl) rfl (by kernel_rfl) (v:=.int .u32 rest) (w':=W.drew) ?_ (hS0 _ rfl) ?_
  ·simp [execOp,Act.eval,go_sem,hrc']
  have e169:=enters_of Tryz.func169 (by kernel_rfl) rfl
  refine Zgc (i:=8) (by kernel_rfl) rfl (by kernel_rfl) (f:=169) (args:=#[.int .u32 rest,.int .u32 x0,.int .u32 by_]) ?_ (cD _) ?_
  ·simp [execOp,Act.eval,go_sem,e169]
  rintro e w' ⟨rfl,nq,rfl⟩
  refine ⟨_,rfl,hS0 _ rfl,?_⟩
  simp only [Act.put,List.setIfInBounds_toArray,List.set_cons_zero,List.set_cons_succ]
  refine wpAnyH_take (i:=9) rfl (by kernel_rfl) (by kernel_rfl) (by kernel_rfl) (fun _ _ _ h=>h) (.inl ⟨rfl,fun w hw=>rfl⟩) (hS0 _ rfl) ?_
  refine wpAnyH_take (i:=10) rfl (by kernel_rfl) (by kernel_rfl) (by kernel_rfl) (fun _ _ _ h=>h) (v:=.int .u32 q) (.inl ⟨by kernel_rfl,fun w hw=>?_⟩) (hS0 _ rfl) ?_
  ·simp [execOp,Act.eval,go_sem]
  refine wpAnyH_take (i:=11) rfl (by kernel_rfl) (by kernel_rfl) (by kernel_rfl) (fun _ _ _ h=>h) (v:=.int .u32 z) (.inl ⟨by kernel_rfl,fun w hw=>?_⟩) (hS0 _ rfl) ?_
  ·simp [execOp,Act.eval,go_sem]
  refine wpAnyH_take (i:=12) rfl (by kernel_rfl) (by kernel_rfl) (by kernel_rfl) (fun _ _ _ h=>h) (v:=.pointer (some ⟨B+1+1,i,none⟩)) (.inl ⟨by kernel_rfl,fun w hw=>?_⟩) (hS0 _ rfl) ?_
  ·simp [execOp,Act.eval,go_sem,hi0,hi1]
  obtain ⟨W1,hW1⟩:∃ W1,W.drew.drewN nq=W1:=⟨_,rfl⟩
  rw [hW1]
  have hS2:=hS0 W1 (by rw [<- hW1];rfl)
  have hcc':W1.cell? ⟨B+1+1,i,none⟩=some (.int .u32 (rd xs i)):=hW1 ▸ hcc
  have hcf':W1.frozen? ⟨B+1+1,i,none⟩=false:=hW1 ▸ hcf
  refine Zmb (i:=13) (by kernel_rfl) rfl (by kernel_rfl) (w':=W1.setCell ⟨B+1+1,i,none⟩ (.int .u32 q)) ?_ (hS1 _ _ _ (.inl rfl) hS2) ?_
  ·simp [execOp,Act.eval,go_sem,hcc',hcf']
  have hne:(W1.setCell ⟨B+1+1,i,none⟩ (.int .u32 q)).heap[B+1+1+1+1]? = W1.heap[B+1+1+1+1]?:=Below.heap_setCell _ ⟨B+1+1,i,none⟩ _ _ (by show B+1+1+1+1 ≠ B+1+1;omega)
  have hrc1:W1.cell? ⟨B+1+1+1+1,0,none⟩=some (.int .u32 rest):=hW1 ▸ hrc
  have hrf1:W1.frozen? ⟨B+1+1+1+1,0,none⟩=false:=hW1 ▸ hrf
  have hrc2:(W1.setCell ⟨B+1+1,i,none⟩ (.int .u32 q)).cell? ⟨B+1+1+1+1,0,none⟩=some (.int .u32 rest):=(World.cell?_of_block (a:=⟨B+1+1+1+1,0,none⟩) hne).trans hrc1
  have hrf2:(W1.setCell ⟨B+1+1,i,none⟩ (.int .u32 q)).frozen? ⟨B+1+1+1+1,0,none⟩=false:=by
   rw [<- hrf1]
   simp only [World.frozen?,hne]
  have hS3:=hS1 _ ⟨B+1+1,i,none⟩ (.int .u32 q) (.inl rfl) hS2
  obtain ⟨W2,hW2⟩:∃ W2,W1.setCell ⟨B+1+1,i,none⟩ (.int .u32 q)=W2:=⟨_,rfl⟩
  rw [hW2] at hrc2 hrf2 hS3 ⊢
  refine Zmb (i:=14) (by kernel_rfl) rfl (by kernel_rfl) (w':=W2.setCell ⟨B+1+1+1+1,0,none⟩ (.int .u32 z)) ?_ (hS1 _ _ _ (.inr rfl) hS3) ?_
  ·simp [execOp,Act.eval,go_sem,hrc2,hrf2]
  refine wpAnyH_done (by kernel_rfl) ?_ _
  have hWW:W1.heap=W.heap:=by rw [<- hW1];rfl
  have hK1:KeepsOthers W W1:=by rw [<- hW1];exact ⟨Nat.le_refl _,fun k o h _=>h⟩
  have hKp1:KpB (B+1+1+1+1+1) (some ⟨b0,o0,none⟩) m (fun j x=>x=l0.getD j 0) W W1:=by rw [<- hW1];exact ⟨rfl,fun h=>h⟩
  have hb1':Below w.heap.size w W1:=by rw [<- hW1];exact Za6 (Zav HB.out) nq
  have hrow1:W1.ownsRow B 85 1 (.slice (some ⟨B+1+1,0,none⟩) m m) m (nums .u32 xs):=by rw [<- hW1];exact HRow.out
  have far:∀ {k t:Nat} {v:Value},k ≠ B+1+1->k ≠ B+1+1+1+1->Boxed W k t v->Boxed (W2.setCell ⟨B+1+1+1+1,0,none⟩ (.int .u32 z)) k t v:=fun {k t v} h1 h2 hv =>
   (Below.heap_setCell W2 ⟨B+1+1+1+1,0,none⟩ _ k h2).trans (by rw [<- hW2];exact (Below.heap_setCell W1 ⟨B+1+1,i,none⟩ _ k h1).trans (by rw [hWW];exact hv))
  have hst1:=Ze1 hrow1 (i:Int) q
  rw [Int.toNat_natCast,hW2] at hst1
  refine ⟨?_,?_,?_⟩
  ·rw [<- hW2]
   exact ((hK1.trans (KeepsOthers.setCell W1 ⟨B+1+1,i,none⟩ (.int .u32 q))).trans (KeepsOthers.setCell _ ⟨B+1+1+1+1,0,none⟩ (.int .u32 z))).from _
  ·rw [<- hW2]
   exact hKp1.trans ((KpB.set (p:=⟨B+1+1,i,none⟩) _ (by show B+1+1+1+1+1 ≠ B+1+1;omega) (.inr ⟨b0,o0,rfl,by show b0 ≠ B+1+1;omega⟩)).trans (KpB.set (p:=⟨B+1+1+1+1,0,none⟩) _ (by show B+1+1+1+1+1 ≠ B+1+1+1+1;omega) (.inr ⟨b0,o0,rfl,by show b0 ≠ B+1+1+1+1;omega⟩)))
  ·refine ⟨by rw [hB];exact far (by omega) (by omega) HAb.out,by rw [hB];exact far (by omega) (by omega) HDb.out,by rw [hB];exact far (by omega) (by omega) HOb.out,⟨_,by rw [hB];exact far (by omega) (by omega) HSb.out⟩,⟨xs.set i q,z,by rw [List.length_append];exact HST.out,?_,?_⟩,?_⟩
   ·rw [hB]
    refine Boxed.set (v:=.int .u32 rest) (.int .u32 z) ?_
    show W2.heap[B+1+1+1+1]? = _
    rw [<- hW2,hne,hWW]
    exact HRb.out
   ·rw [hB]
    exact Zh0 hst1.1 (by simp [Value.ownBlock];omega) _
   ·rw [<- hW2]
    exact (hb1'.setCell (p:=⟨B+1+1,i,none⟩) (by simp;omega) _).setCell (p:=⟨B+1+1+1+1,0,none⟩) (by simp;omega) _
 case done =>
  rintro D ys W hD ⟨hp,hpl⟩ ⟨a,d,o,_,⟨xs,rest,hst,r,hrow⟩,hb⟩ hK
  rw [hB] at a d o r hrow
  have hlm:=HM.out
  have hlen:xs.length=m:=hst.len.trans hlm
  have hyl:ys.length=l0.length:=by omega
  rw [hyl] at hst
  obtain ⟨hq,hr2⟩:=hst.done hd0
  rw [hr2,HRR.out] at r
  rw [HQL.out] at hq
  have hrow':W.ownsRow w.heap.size 85 1 (.slice (some ⟨B+1+1,0,none⟩) m m) xs.length (encs (Value.int .u32) xs):=by rw [hlen,hB];exact hrow
  have hR:Kd.R (Kd.int .u32) 85 W w.heap.size (fun k=>k=B+1+1) (.slice (some ⟨B+1+1,0,none⟩) m m) xs:=Kd.Zdl (enc:=Value.int .u32) hrow' (fun k hk=>by simp [Value.ownBlock] at hk;exact hk.symm)
  have hDlt:D < W.heap.size:=by
   have := (Array.getElem?_eq_some_iff.1 hK).1
   exact this
  have hD2:B+1+1 < D:=by simp at hD;omega
  have hoc:=o.cell
  have hrc:=r.cell
  have hsz:B+1+1+1+1 < W.heap.size:=World.block_lt_of_cell? W _ hrc
  have cT:=Zv.calls (xs.length+1) (fun k=>k=B+1+1) _ xs (trimL xs) w W.drew (Zav hb) (Kd.Zc1 hR) (Zsw xs (Nat.lt_succ_self _) (by omega))
  rw [hq] at cT
  have HK:=Lib.hid hK
  have HBb:=Lib.hid hb
  clear hK hb hR hrow' hrow hst hq hr2 a d hp hpl hyl hlm
  gi_wp2
  rename_i K1 hK1
  have e132:=enters_of Tryz.func132 (by kernel_rfl) rfl
  have hS0:∀ W':World,(∀ k,k < W.heap.size->k ≠ B+1+1->W'.heap[k]? = W.heap[k]?)->W'.cell? ⟨B+1+1+1,0,none⟩=some (.slice (some ⟨B+1+1,0,none⟩) m m)/\W'.cell? ⟨B+1+1+1+1,0,none⟩=some (.int .u32 RR):=fun W' hW' =>
   ⟨(World.cell?_of_block (hW' (B+1+1+1) (by omega) (by omega))).trans hoc,(World.cell?_of_block (hW' (B+1+1+1+1) (by omega) (by omega))).trans hrc⟩
  refine Zfw (fun W':World=>W'.cell? ⟨B+1+1+1,0,none⟩=some (.slice (some ⟨B+1+1,0,none⟩) m m)/\W'.cell? ⟨B+1+1+1+1,0,none⟩=some (.int .u32 RR)) (by kernel_rfl) ?_
  refine wpAnyH_take (i:=0) rfl (by kernel_rfl) (by kernel_rfl) (by kernel_rfl) (fun _ _ _ h=>h) (v:=.slice (some ⟨B+1+1,0,none⟩) m m) (.inl ⟨by kernel_rfl,fun w hw=>?_⟩) (hS0 _ (fun _ _ _=>rfl)) ?_
  ·simp [execOp,Act.eval,go_sem,hw.1]
  refine wpAnyH_take (i:=2) rfl (by kernel_rfl) (by kernel_rfl) (by kernel_rfl) (fun _ _ _ h=>h) (v:=.int .u32 RR) (.inl ⟨by kernel_rfl,fun w hw=>?_⟩) (hS0 _ (fun _ _ _=>rfl)) ?_
  ·simp [execOp,Act.eval,go_sem,hw.2]
  refine Zgc (i:=1) (by kernel_rfl) rfl (by kernel_rfl) (f:=132) (args:=#[.slice (some ⟨B+1+1,0,none⟩) m m]) ?_ cT ?_
  ·simp [execOp,Act.eval,go_sem,e132]
  rintro e w' ⟨v0,rfl,hRv,hbv,hkp⟩
  have hS2:=hS0 w' (fun k h1 h2=>hkp.2 k h1 h2)
  refine ⟨_,rfl,hS2,?_⟩
  refine wpAnyH_take (i:=3) rfl (by kernel_rfl) (by kernel_rfl) (by kernel_rfl) (fun _ _ _ h=>h) (v:=v0) (.inl ⟨by kernel_rfl,fun w hw=>?_⟩) hS2 ?_
  ·simp [execOp,Act.eval,go_sem]
  refine wpAnyH_take (i:=4) rfl (by kernel_rfl) (by kernel_rfl) (by kernel_rfl) (fun _ _ _ h=>h) (v:=.int .u32 RR) (.inl ⟨by kernel_rfl,fun w hw=>?_⟩) hS2 ?_
  ·simp [execOp,Act.eval,go_sem]
  refine wpAnyH_done (by kernel_rfl) ?_ _
  refine NoPanic.normal ?_
  refine hK1 _ _ ?_
  show Code.wpIn _ _ _ _ _ { tmps:=#[.slice A0 m c0,.int .u32 by_,.pointer (some ⟨B,0,none⟩),.pointer (some ⟨B+1,0,none⟩),v0,.int .u32 RR,.pointer (some ⟨B+1+1+1,0,none⟩),.pointer (some ⟨B+1+1+1+1,0,none⟩),undef,.slice A0 m c0,
   .int .i64 m,.slice (some ⟨B+1+1,0,none⟩) m m,.slice A0 m c0,.func (.func 184) #[] #[.pointer (some ⟨B+1+1+1+1+1,0,none⟩)],undef,undef,
   undef,undef,undef,undef,undef,undef,undef,undef,undef,undef,undef,undef,undef,.slice (some ⟨B+1+1,0,none⟩) m m,v0,.int .u32 RR],defers:=[{ target:=.collected D,args:=#[] }] } _
  clear hK1
  gi_wp2
  have hDn:∀ k,k < W.heap.size->k ≠ B+1+1->w'.heap[k]? = W.heap[k]?:=fun k h1 h2=>hkp.2 k h1 h2
  have hK':w'.heap[D]? = some (.deferred (some [])):=(hDn D hDlt (by omega)).trans HK.out
  refine ⟨by simp,.inl ⟨_,_,rfl,run_takeDeferred hK',?_⟩⟩
  refine ⟨_,by simp [results,Tryz.f143,go_sem],v0,rfl,?_,?_⟩
  ·refine Kd.Zh (Kd.Zkp hRv (grownBy_putObj' _ D (.deferred none)) (fun k hk e=>?_)) (fun _ _=>trivial)
   cases e
   rcases hk with h|h
   ·omega
   ·exact absurd hDlt (by simp at h;omega)
  ·exact hbv.trans (belowK_b (w:=w) (Nat.le_refl _) _ D _ _ (by omega) hK' rfl rfl)
 case stop =>
  rintro D c pre W hD hpre h hK
  exact h.elim
def Zct.f (l0:List Int) (a1:Int):Option (List Int × Int):=if okW l0 && (decide (0 < a1) && decide (a1 < 4294967296)) then some (limbs (num l0 / a1.toNat),((num l0 % a1.toNat:Nat):Int)) else none
theorem Zct.calls (A0:Option Addr) (c0:Nat) (l0:List Int) (a1:Int) (r1:List Int) (r2:Int) (w:World) (hr0:Kd.C (Kd.int .u32) w A0 l0.length l0) (hc0:l0.length<=c0) (h:Zct.f l0 a1=some (r1,r2)) :
  Calls Tryz.prog 143 #[.slice A0 l0.length c0,.int .u32 a1] w fun e w' => ∃ v0_:Value,e=.returned (.tuple #[v0_,.int .u32 r2])/\Kd.R (Kd.int .u32) 85 w' w.heap.size (fun _=>True) v0_ r1/\Below w.heap.size w w':=by
 unfold Zct.f at h
 split at h
 case isFalse=>cases h
 case isTrue hk =>
 simp only [Bool.and_eq_true,Zee,decide_eq_true_eq] at hk
 obtain ⟨rfl,rfl⟩:=Prod.mk.inj (Option.some.inj h)
 exact Zop A0 c0 l0 a1 w hr0 hc0 hk.1.dg hk.1.len hk.2.1 hk.2.2
end YtjbjkmccfocikaaGreatDoor.B
end
section
namespace YtjbjkmccfocikaaGreatDoor.B
open Go.RowKit YtjbjkmccfocikaaGreatDoorW.PrintWords YtjbjkmccfocikaaGreatDoorW.PrintLast YtjbjkmccfocikaaGreatDoorW.PrintMore
attribute [local go_sem] Zb7 Zb9 Zcr Zcs Zbp Zbq Zb8 Zca
mutual
def Zat.l0:Nat->List Int->List Int->Option (ByteArray × Int)
 | 0,_,_=>none
 | k+1,x5,x6=>if (x6.length:Int) > 0 then ((Zct.f x6 1000000000).bind fun qg=>(Zat.l1 k x5 qg.1 qg.2 0)) else (if (x5.length:Int)=0 then (some ((⟨#[48]⟩:ByteArray),0)) else ((Zl.f k x5).bind fun qh=>(some (strOfNums qh,0))))
def Zat.l1:Nat->List Int->List Int->Int->Int->Option (ByteArray × Int)
 | 0,_,_,_,_=>none
 | k+1,x5,x7,x8,x9=>if x9 < 9 then (if (x7.length:Int) > 0 then (if x5.length < 140737488355328 then (Zat.l1 k (x5 ++ [(48+(Int.tmod x8 10)) % 256]) x7 ((Int.tdiv x8 10) % 4294967296) (wrap64 (x9+1))) else (none)) else (if x8 > 0 then (if x5.length < 140737488355328 then (Zat.l1 k (x5 ++ [(48+(Int.tmod x8 10)) % 256]) x7 ((Int.tdiv x8 10) % 4294967296) (wrap64 (x9+1))) else (none)) else (Zat.l0 k x5 x7))) else (Zat.l0 k x5 x7)
end
def Zat.f (k:Nat) (l0:List Int):Option (ByteArray × Int):=(Za3.f l0).bind fun qa=>(if qa=0 then (Zat.l0 k ([]:List Int) l0) else (some ((⟨#[]⟩:ByteArray),qa)))
theorem Zat.calls (k:Nat) (P0_:Nat->Prop) (A0:Option Addr) (c0:Nat) (l0:List Int) (r1:ByteArray) (r2:Int) (w:World) (hs0:Kd.V (Kd.int .u32) 85 w w.heap.size (fun k_=>P0_ k_) (.slice A0 l0.length c0) l0) (h:Zat.f k l0=some (r1,r2)) :
  Calls Tryz.prog 112 #[.slice A0 l0.length c0] w fun e w'=>e=.returned (.tuple #[.string r1,.int .i64 r2])/\Below w.heap.size w w':=by
 have HO0:=am (show Kd.V (Kd.int .u32) 85 w w.heap.size (fun k_=>(P0_ k_\/w.heap.size<=k_)) (.slice A0 l0.length c0) l0 from Kd.Zdu hs0 (fun k_ hk=>.inl hk))
 have HB:=am (Below.refl w.heap.size w)
 have H:((Za3.f l0).bind fun qa=>(if qa=0 then (Zat.l0 k ([]:List Int) l0) else (some ((⟨#[]⟩:ByteArray),qa))))=some (r1,r2):=h
 clear h
 obtain ⟨qa,A2,H⟩:=ob H
 by_cases c3:qa=0
 ·rw [if_pos c3] at H
  have c3b0:(qa == 0)=true:=beq_iff_eq.mpr c3
  have c3b1:(qa != 0)=false:=bne_eq_false_iff_eq.mpr c3
  clear c3
  have H':=am H
  clear H
  go_enter Tryz.func112,Tryz.ntmps112
  go_wp2_with (first|(refine gL (some 11) Tryz.func108 #[.slice A0 l0.length c0] (h:=?_);(with_reducible refine (Za3.calls _ _ l0 qa _ ?side1 ?side2 A2.o).mono ?_);(case side1=>exact Kd.Zn (Kd.Zci HO0.o).2.2 pl);(case side2=>exact (Kd.Zci HO0.o).2.1);rintro e w' ⟨rfl,⟨nd,rfl⟩⟩;refine ⟨_,rfl,?_⟩))
  go_loopg [5,6] k (fun kq v5 v6 w' => ∃ (x5_1:List Int) (x6_1:List Int),Aside0 (Zat.l0 kq x5_1 x6_1=some (r1,r2))/\Aside0 (kq<=k)/\Aside0 (Kd.R (Kd.int .u8) 5 w' w.heap.size (fun k_=>(w.heap.size<=k_)) v5 x5_1)/\Aside0 (Kd.V (Kd.int .u32) 85 w' w.heap.size (fun k_=>(P0_ k_\/w.heap.size<=k_)/\some k_ ≠ (v5:Value).ownBlock) v6 x6_1)/\Aside0 (Below w.heap.size w w'))
  case atStart=>exact ⟨(([]:List Int)),(l0),H',⟨Nat.le_refl _⟩,⟨pN⟩,⟨by refine vp ?_;exact Kd.Zdu HO0.o (fun _ hk=>⟨hk,(by simp [Value.ownBlock])⟩)⟩,⟨pB⟩⟩
  case round =>
   clear H'
   obtain ⟨x5_1,x6_1,HA,HK1,HO_5,HO_6,HB⟩:=hrel
   cases gk with
   | zero=>exact absurd HA.out (by simp [Zat.l0])
   | succ k1 =>
    have H:=HA.out
    clear HA
    simp only [Zat.l0] at H
    by_cases c4:(x6_1.length:Int) > 0
    ·rw [if_pos c4] at H
     have c4b0:decide (0 < (x6_1.length:Int))=true:=decide_eq_true c4
     have c4b1:decide (0 < x6_1.length)=true:=decide_eq_true (by omega)
     clear c4
     obtain ⟨⟨qb,qn⟩,A5,H⟩:=ob H;(try dsimp only at H)
     have H':=am H
     clear H
     obtain ⟨Ao6,co6,eo6⟩:=Kd.Zhn HO_6.o
     subst eo6
     go_wp2_with (first|(refine gL (some 21) Tryz.func143 #[.slice Ao6 x6_1.length co6,.int .u32 1000000000] (h:=?_);(with_reducible refine (Zct.calls _ _ x6_1 1000000000 qb qn _ ?side1 ?side2 A5.o).mono ?_);(case side1=>exact Kd.Zn (Kd.Zci HO_6.o).2.2 pl);(case side2=>exact (Kd.Zci HO_6.o).2.1);rintro e w7 ⟨qx,rfl,ho0,hb⟩;refine ⟨_,rfl,?_⟩;replace HO_5:=rbl HO_5 hb;replace HO_6:=am (Kd.Zdh (Kd.Zcq HO_6.o pl) (Kd.Zaz ho0) hb);have qi:=am (Kd.Zo (Kd.Zex (M:=fun k_=>(w.heap.size<=k_)) ho0 (Zd pB) (fun k_ h_=>h_)) (Zd pB));replace HB:=bS hb))
     go_loopg [5,8,9] k1 (fun kq v5 v8 v9 w' => ∃ (x5_2:List Int) (x8_2:Int) (x9_2:Int),v8=.int .u32 x8_2/\v9=.int .i64 x9_2/\Aside0 (Zat.l1 kq x5_2 qb x8_2 x9_2=some (r1,r2))/\Aside0 (kq<=k1)/\Aside0 (Kd.R (Kd.int .u8) 5 w' w.heap.size (fun k_=>(w.heap.size<=k_)) v5 x5_2)/\Aside0 (Kd.R (Kd.int .u32) 85 w' w.heap.size (fun k_=>(w.heap.size<=k_)) qx qb)/\Aside0 (Below w.heap.size w w'))
     case atStart=>exact ⟨(x5_1),(qn),(0),pR,pR,H',⟨Nat.le_refl _⟩,⟨by refine rp ?_;exact HO_5.o⟩,⟨by refine rp ?_;exact Kd.Zh qi.o (fun _ hk=>hk.1)⟩,⟨pB⟩⟩
     case round =>
      clear H'
      obtain ⟨x5_2,x8_2,x9_2,rfl,rfl,HA,HK2,HO_5,HO_7,HB⟩:=hrel
      cases gk with
      | zero=>exact absurd HA.out (by simp [Zat.l1])
      | succ k2 =>
       have H:=HA.out
       clear HA
       simp only [Zat.l1] at H
       by_cases c8:x9_2 < 9
       ·rw [if_pos c8] at H
        have c8b0:decide (x9_2 < 9)=true:=decide_eq_true c8
        clear c8
        by_cases c9:(qb.length:Int) > 0
        ·rw [if_pos c9] at H
         have c9b0:decide (0 < (qb.length:Int))=true:=decide_eq_true c9
         have c9b1:decide (0 < qb.length)=true:=decide_eq_true (by omega)
         clear c9
         by_cases c10:x5_2.length < 140737488355328
         ·rw [if_pos c10] at H
          have LMc10:=am c10
          clear c10
          obtain ⟨qo,qc⟩:∃ y_:List Int,y_=(x5_2 ++ [(48+(Int.tmod x8_2 10)) % 256]):=⟨_,rfl⟩
          replace H:(Zat.l1 k2 qo qb ((Int.tdiv x8_2 10) % 4294967296) (wrap64 (x9_2+1)))=some (r1,r2):=by have hy_:=qc;exact pH
          have ql:=am qc
          clear qc
          have H':=am H
          clear H
          obtain ⟨qy,q4,qq⟩:=Kd.Zj HO_7.o
          subst qq
          go_wp2_with (first|((with_reducible refine Zam (b:=.append) (xs:=#[.tmp 37,.tmp 42]) rfl ?_);(try (refine Zau (by rfl) ?_;dsimp only));at_builtin;refine Kd.Zb1 (Kd.int .u8) (w0:=w) w.heap.size rfl (.tmp 37) (.tmp 42) 146 5 (.int .u8 0) 1 rfl Tryz.underlying146 info5 rfl (by decide) (by omega) u5 x5_2 ((48+(Int.tmod x8_2 10)) % 256) [.int .u8 ((48+(Int.tmod x8_2 10)) % 256)] (fun k_=>(w.heap.size<=k_)) (fun _=>False) rfl rfl ?aP (fun _ hk=>hk.elim) ?aF ?aO ?aB ?aS ?aL ?_;(case aP=>exact rfl);(case aB=>exact pB);(case aF=>exact (fun k_ hk=>(Nat.le_trans (Zd pB) hk)));(case aO=>exact (Kd.Za HO_5.o pl));(case aS=>exact (Zd pB));(case aL=>have := LMc10.o;omega);intro ja w12 ho hb hg hat;rw [<- ql.out] at ho;have qj:=am ho;replace HO_7:=am (Kd.Ziv (Kd.Za HO_7.o pl) (Kd.Zgm (Kd.Za HO_5.o pl)) (by decide) hg);replace HB:=am hb;clear HO_5 ho hb hg hat))
          go_roundg k2
          case measure=>have := HK1.out;have := HK2.out;omega
          case rel=>exact ⟨(qo),((Int.tdiv x8_2 10) % 4294967296),(wrap64 (x9_2+1)),pR,pR,H',⟨by have := HK1.out;have := HK2.out;omega⟩,⟨by refine rp ?_;exact qj.o⟩,⟨by refine rp ?_;exact HO_7.o⟩,⟨pB⟩⟩
         ·rw [if_neg c10] at H
          exact absurd H (by simp)
        ·rw [if_neg c9] at H
         have c9b0:decide (0 < (qb.length:Int))=false:=decide_eq_false c9
         have c9b1:decide (0 < qb.length)=false:=decide_eq_false (by omega)
         clear c9
         by_cases c13:x8_2 > 0
         ·rw [if_pos c13] at H
          have c13b0:decide (0 < x8_2)=true:=decide_eq_true c13
          clear c13
          by_cases c14:x5_2.length < 140737488355328
          ·rw [if_pos c14] at H
           have LMc14:=am c14
           clear c14
           obtain ⟨qp,qd⟩:∃ y_:List Int,y_=(x5_2 ++ [(48+(Int.tmod x8_2 10)) % 256]):=⟨_,rfl⟩
           replace H:(Zat.l1 k2 qp qb ((Int.tdiv x8_2 10) % 4294967296) (wrap64 (x9_2+1)))=some (r1,r2):=by have hy_:=qd;exact pH
           have qm:=am qd
           clear qd
           have H':=am H
           clear H
           obtain ⟨qz,q5,qr⟩:=Kd.Zj HO_7.o
           subst qr
           go_wp2_with (first|((with_reducible refine Zam (b:=.append) (xs:=#[.tmp 37,.tmp 42]) rfl ?_);(try (refine Zau (by rfl) ?_;dsimp only));at_builtin;refine Kd.Zb1 (Kd.int .u8) (w0:=w) w.heap.size rfl (.tmp 37) (.tmp 42) 146 5 (.int .u8 0) 1 rfl Tryz.underlying146 info5 rfl (by decide) (by omega) u5 x5_2 ((48+(Int.tmod x8_2 10)) % 256) [.int .u8 ((48+(Int.tmod x8_2 10)) % 256)] (fun k_=>(w.heap.size<=k_)) (fun _=>False) rfl rfl ?aP (fun _ hk=>hk.elim) ?aF ?aO ?aB ?aS ?aL ?_;(case aP=>exact rfl);(case aB=>exact pB);(case aF=>exact (fun k_ hk=>(Nat.le_trans (Zd pB) hk)));(case aO=>exact (Kd.Za HO_5.o pl));(case aS=>exact (Zd pB));(case aL=>have := LMc14.o;omega);intro jb w16 ho hb hg hat;rw [<- qm.out] at ho;have qk:=am ho;replace HO_7:=am (Kd.Ziv (Kd.Za HO_7.o pl) (Kd.Zgm (Kd.Za HO_5.o pl)) (by decide) hg);replace HB:=am hb;clear HO_5 ho hb hg hat))
           go_roundg k2
           case measure=>have := HK1.out;have := HK2.out;omega
           case rel=>exact ⟨(qp),((Int.tdiv x8_2 10) % 4294967296),(wrap64 (x9_2+1)),pR,pR,H',⟨by have := HK1.out;have := HK2.out;omega⟩,⟨by refine rp ?_;exact qk.o⟩,⟨by refine rp ?_;exact HO_7.o⟩,⟨pB⟩⟩
          ·rw [if_neg c14] at H
           exact absurd H (by simp)
         ·rw [if_neg c13] at H
          have c13b0:decide (0 < x8_2)=false:=decide_eq_false c13
          clear c13
          have H':=am H
          clear H
          obtain ⟨q0,q6,qs⟩:=Kd.Zj HO_7.o
          subst qs
          go_wp2
          go_roundg k2
          case measure=>have := HK1.out;have := HK2.out;omega
          case rel=>exact ⟨(x5_2),(qb),H',⟨by have := HK1.out;have := HK2.out;omega⟩,⟨by refine rp ?_;exact HO_5.o⟩,⟨Kd.Zdu (Kd.R_V (Kd.Za (Kd.Zlq HO_7.o (Kd.Zgm HO_5.o) (by decide)) pl)) (fun k_ hk=>by first|exact ⟨(.inr (hk.1)),hk.2⟩|exact (.inr (hk)))⟩,⟨pB⟩⟩
       ·rw [if_neg c8] at H
        have c8b0:decide (x9_2 < 9)=false:=decide_eq_false c8
        clear c8
        have H':=am H
        clear H
        go_wp2
        go_roundg k2
        case measure=>have := HK1.out;have := HK2.out;omega
        case rel=>exact ⟨(x5_2),(qb),H',⟨by have := HK1.out;have := HK2.out;omega⟩,⟨by refine rp ?_;exact HO_5.o⟩,⟨Kd.Zdu (Kd.R_V (Kd.Za (Kd.Zlq HO_7.o (Kd.Zgm HO_5.o) (by decide)) pl)) (fun k_ hk=>by first|exact ⟨(.inr (hk.1)),hk.2⟩|exact (.inr (hk)))⟩,⟨pB⟩⟩
    ·rw [if_neg c4] at H
     have c4b0:decide (0 < (x6_1.length:Int))=false:=decide_eq_false c4
     have c4b1:decide (0 < x6_1.length)=false:=decide_eq_false (by omega)
     clear c4
     by_cases c18:(x5_1.length:Int)=0
     ·rw [if_pos c18] at H
      have c18b0:((x5_1.length:Int) == 0)=true:=beq_iff_eq.mpr c18
      have c18b1:((x5_1.length:Int) != 0)=false:=bne_eq_false_iff_eq.mpr c18
      clear c18
      simp only [Option.some.injEq,Prod.mk.injEq] at H
      obtain ⟨rfl,rfl⟩:=H
      obtain ⟨q1,q7,qt⟩:=Kd.Zhn HO_6.o
      subst qt
      obtain ⟨q2,q8,qu⟩:=Kd.Zj HO_5.o
      subst qu
      go_wp2
      go_ret2
      exact ⟨pE,pB⟩
     ·rw [if_neg c18] at H
      have c18b0:((x5_1.length:Int) == 0)=false:=beq_eq_false_iff_ne.mpr c18
      have c18b1:((x5_1.length:Int) != 0)=true:=bne_iff_ne.mpr c18
      have c18b2:¬ (x5_1=[]):=fun h_=>c18 (by rw [h_];rfl)
      obtain ⟨qh,A21,H⟩:=ob H
      simp only [Option.some.injEq,Prod.mk.injEq] at H
      obtain ⟨rfl,rfl⟩:=H
      obtain ⟨q3,q9,qv⟩:=Kd.Zhn HO_6.o
      subst qv
      obtain ⟨qe,qf,qw⟩:=Kd.Zj HO_5.o
      subst qw
      go_wp2_with (first|(refine gL (some 51) Tryz.func144 #[.slice qe x5_1.length qf] (h:=?_);(with_reducible refine (Zl.calls k1 (fun k_=>some k_=(.slice qe x5_1.length qf:Value).ownBlock) (.slice qe x5_1.length qf) x5_1 qh w _ ?side1 ?side2 A21.o).mono ?_);(case side1=>exact pB);(case side2=>exact Kd.Zbj rfl HO_5.o);rintro e w24 ⟨rfl,hy0,hb,hkp⟩;refine ⟨_,rfl,?_⟩;replace HO_5:=am (Kd.Zsc rfl hy0 (fun k_ e_=>HO_5.o.1 k_ e_));replace HO_6:=am (Kd.Zdu (ok':=fun k_=>(P0_ k_\/w.heap.size<=k_)/\some k_ ≠ (.slice qe x5_1.length qf:Value).ownBlock) (Kd.Zhm (HO_6.o) hkp (fun k_ hk_ hs_=>(hk_.2) hs_)) (fun k_ hk_=>⟨hk_.1.1,hk_.1.2⟩));replace HB:=am hb;have hcv25:=Zgw (P:=Tryz.prog) Tryz.underlying146 Tryz.underlying5 Tryz.underlying9 (Kd.Zdx HO_5.o)))
      go_ret2
      exact ⟨pE,pB⟩
 ·rw [if_neg c3] at H
  have c3b0:(qa == 0)=false:=beq_eq_false_iff_ne.mpr c3
  have c3b1:(qa != 0)=true:=bne_iff_ne.mpr c3
  simp only [Option.some.injEq,Prod.mk.injEq] at H
  obtain ⟨rfl,rfl⟩:=H
  go_enter Tryz.func112,Tryz.ntmps112
  go_wp2_with (first|(refine gL (some 11) Tryz.func108 #[.slice A0 l0.length c0] (h:=?_);(with_reducible refine (Za3.calls _ _ l0 qa _ ?side1 ?side2 A2.o).mono ?_);(case side1=>exact Kd.Zn (Kd.Zci HO0.o).2.2 pl);(case side2=>exact (Kd.Zci HO0.o).2.1);rintro e w' ⟨rfl,⟨nd,rfl⟩⟩;refine ⟨_,rfl,?_⟩))
  go_ret2
  exact ⟨pE,pB⟩
def Zd9.f (l0:List Int):Option (List Int × Int):=if (l0.length:Int) > 256 then (some (([]:List Int),51)) else (some (l0,0))
theorem Zd9.calls (P0_:Nat->Prop) (u9000_:Value) (l0:List Int) (r1:List Int) (r2:Int) (w0 w:World) (hB:Below w0.heap.size w0 w) (ho0:Kd.R (Kd.int .u32) 85 w w0.heap.size P0_ u9000_ l0) (h:Zd9.f l0=some (r1,r2)) :
  Calls Tryz.prog 128 #[u9000_] w fun e w' => ∃ v0_:Value,e=.returned (.tuple #[v0_,.int .i64 r2])/\Kd.R (Kd.int .u32) 85 w' w0.heap.size (fun k_=>(P0_ k_\/w.heap.size<=k_)) v0_ r1/\Below w0.heap.size w0 w'/\Kept w w' (fun k_=>P0_ k_):=by
 have HO0:=am (show Kd.R (Kd.int .u32) 85 w w0.heap.size (fun k_=>(P0_ k_\/w.heap.size<=k_)) u9000_ l0 from Kd.Zh ho0 (fun k_ hk=>(.inl hk)))
 have HK:=am (Kept.refl w (fun k_=>P0_ k_))
 have HW0:=am hB.size
 have HB:=am hB
 clear hB
 have H:(if (l0.length:Int) > 256 then (some (([]:List Int),51)) else (some (l0,0)))=some (r1,r2):=h
 clear h
 by_cases c2:(l0.length:Int) > 256
 ·rw [if_pos c2] at H
  have c2b0:decide (256 < (l0.length:Int))=true:=decide_eq_true c2
  have c2b1:decide (256 < l0.length)=true:=decide_eq_true (by omega)
  clear c2
  simp only [Option.some.injEq,Prod.mk.injEq] at H
  obtain ⟨rfl,rfl⟩:=H
  obtain ⟨Ao3,co3,eo3⟩:=Kd.Zj HO0.o
  subst eo3
  go_enter Tryz.func128,Tryz.ntmps128
  go_wp2
  go_ret2
  exact ⟨_,pE,pN,pB,by repeat (first|(with_reducible first|exact HK.out|apply Kept.alloc|apply Kept.drewN|apply Kept.drew)|exact HK.out)⟩
 ·rw [if_neg c2] at H
  have c2b0:decide (256 < (l0.length:Int))=false:=decide_eq_false c2
  have c2b1:decide (256 < l0.length)=false:=decide_eq_false (by omega)
  clear c2
  simp only [Option.some.injEq,Prod.mk.injEq] at H
  obtain ⟨rfl,rfl⟩:=H
  obtain ⟨Ao4,co4,eo4⟩:=Kd.Zj HO0.o
  subst eo4
  go_enter Tryz.func128,Tryz.ntmps128
  go_wp2
  go_ret2
  exact ⟨_,pE,by refine rp ?_;exact HO0.o,pB,by repeat (first|(with_reducible first|exact HK.out|apply Kept.alloc|apply Kept.drewN|apply Kept.drew)|exact HK.out)⟩
def Zc2.f (k:Nat) (l0:List Int) (l1:List Int):Option (List Int × Int):=(Zdp.f k l0 l1).bind fun qa=>(if qa=0 then ((Zad.f k l0 l1).bind fun qb=>((Zd9.f qb).bind fun qc=>(some (qc.1,qc.2)))) else (some (([]:List Int),qa)))
theorem Zc2.calls (k:Nat) (A0:Option Addr) (c0:Nat) (l0:List Int) (A1:Option Addr) (c1:Nat) (l1:List Int) (r1:List Int) (r2:Int) (w:World) (hr0:Kd.C (Kd.int .u32) w A0 l0.length l0) (hc0:l0.length<=c0) (hr1:Kd.C (Kd.int .u32) w A1 l1.length l1) (hc1:l1.length<=c1) (h:Zc2.f k l0 l1=some (r1,r2)) :
  Calls Tryz.prog 71 #[.slice A0 l0.length c0,.slice A1 l1.length c1] w fun e w' => ∃ v0_:Value,e=.returned (.tuple #[v0_,.int .i64 r2])/\Kd.R (Kd.int .u32) 85 w' w.heap.size (fun _=>True) v0_ r1/\Below w.heap.size w w':=by
 have HR0:=am hr0
 have HC0:=am hc0
 clear hr0 hc0
 have HR1:=am hr1
 have HC1:=am hc1
 clear hr1 hc1
 have HB:=am (Below.refl w.heap.size w)
 have H:((Zdp.f k l0 l1).bind fun qa=>(if qa=0 then ((Zad.f k l0 l1).bind fun qb=>((Zd9.f qb).bind fun qc=>(some (qc.1,qc.2)))) else (some (([]:List Int),qa))))=some (r1,r2):=h
 clear h
 obtain ⟨qa,A3,H⟩:=ob H
 by_cases c4:qa=0
 ·rw [if_pos c4] at H
  have c4b0:(qa == 0)=true:=beq_iff_eq.mpr c4
  have c4b1:(qa != 0)=false:=bne_eq_false_iff_eq.mpr c4
  clear c4
  obtain ⟨qb,A5,H⟩:=ob H
  obtain ⟨⟨qf,qg⟩,A6,H⟩:=ob H;(try dsimp only at H)
  simp only [Option.some.injEq,Prod.mk.injEq] at H
  obtain ⟨rfl,rfl⟩:=H
  go_enter Tryz.func71,Tryz.ntmps71
  go_wp2_with (first|(refine gL (some 9) Tryz.func126 #[.slice A0 l0.length c0,.slice A1 l1.length c1] (h:=?_);(with_reducible refine (Zdp.calls k _ _ l0 _ _ l1 qa _ ?side1 ?side2 ?side3 ?side4 A3.o).mono ?_);(case side1=>refine cp ?_;exact HR0.o);(case side2=>exact HC0.o);(case side3=>refine cp ?_;exact HR1.o);(case side4=>exact HC1.o);rintro e w7 ⟨rfl,hb⟩;refine ⟨_,rfl,?_⟩;replace HB:=bS hb)|(refine gL (some 15) Tryz.func129 #[.slice A0 l0.length c0,.slice A1 l1.length c1] (h:=?_);(with_reducible refine (Zad.calls k _ _ l0 _ _ l1 qb _ ?side1 ?side2 ?side3 ?side4 A5.o).mono ?_);(case side1=>exact cB HR0 HB);(case side2=>exact HC0.o);(case side3=>exact cB HR1 HB);(case side4=>exact HC1.o);rintro e w8 ⟨qh,rfl,ho0,hb⟩;refine ⟨_,rfl,?_⟩;have qd:=am (Kd.Zo ho0 (Zd pB));replace HB:=bS hb;obtain ⟨Ao9,co9,eo9⟩:=Kd.Zj qd.o;subst eo9)|(refine gL (some 16) Tryz.func128 #[.slice Ao9 qb.length co9] (h:=?_);(with_reducible refine (Zd9.calls (fun k_=>some k_=(.slice Ao9 qb.length co9:Value).ownBlock) (.slice Ao9 qb.length co9) qb qf qg w _ ?side1 ?side2 A6.o).mono ?_);(case side1=>exact pB);(case side2=>exact Kd.Zbj rfl qd.o);rintro e w10 ⟨qi,rfl,ho0,hb,hkp⟩;refine ⟨_,rfl,?_⟩;have qe:=am (Kd.Zh (ok':=fun k_=>True) ho0 (fun k_ hk_=>trivial));replace HB:=am hb;clear qd))
  go_ret2
  exact ⟨_,pE,by refine rp ?_;exact qe.o,pB⟩
 ·rw [if_neg c4] at H
  have c4b0:(qa == 0)=false:=beq_eq_false_iff_ne.mpr c4
  have c4b1:(qa != 0)=true:=bne_iff_ne.mpr c4
  simp only [Option.some.injEq,Prod.mk.injEq] at H
  obtain ⟨rfl,rfl⟩:=H
  go_enter Tryz.func71,Tryz.ntmps71
  go_wp2_with (first|(refine gL (some 9) Tryz.func126 #[.slice A0 l0.length c0,.slice A1 l1.length c1] (h:=?_);(with_reducible refine (Zdp.calls k _ _ l0 _ _ l1 qa _ ?side1 ?side2 ?side3 ?side4 A3.o).mono ?_);(case side1=>refine cp ?_;exact HR0.o);(case side2=>exact HC0.o);(case side3=>refine cp ?_;exact HR1.o);(case side4=>exact HC1.o);rintro e w11 ⟨rfl,hb⟩;refine ⟨_,rfl,?_⟩;replace HB:=bS hb))
  go_ret2
  exact ⟨_,pE,pN,pB⟩
def Zbx.l0:Nat->Int->List Int->List Int->Option (List Int)
 | 0,_,_,_=>none
 | k+1,x0,x3,x4=>if x0 > 0 then (if (Int.tmod x0 2)=1 then ((Zad.f k x3 x4).bind fun qb=>(if x0 > 1 then ((Zad.f k x4 x4).bind fun qf=>(Zbx.l0 k (wrap64 (Int.tdiv x0 2)) qb qf)) else (Zbx.l0 k (wrap64 (Int.tdiv x0 2)) qb x4))) else (if x0 > 1 then ((Zad.f k x4 x4).bind fun qg=>(Zbx.l0 k (wrap64 (Int.tdiv x0 2)) x3 qg)) else (Zbx.l0 k (wrap64 (Int.tdiv x0 2)) x3 x4))) else (some x3)
def Zbx.f (k:Nat) (a0:Int):Option (List Int):=Zbx.l0 k a0 (([1]:List Int)) (([10]:List Int))
theorem Zbx.calls (k:Nat) (a0:Int) (r:List Int) (w:World) (h:Zbx.f k a0=some r) :
  Calls Tryz.prog 163 #[.int .i64 a0] w fun e w' => ∃ v0_:Value,e=.returned (v0_)/\Kd.R (Kd.int .u32) 85 w' w.heap.size (fun _=>True) v0_ r/\Below w.heap.size w w':=by
 have HB:=am (Below.refl w.heap.size w)
 have H:(Zbx.l0 k a0 (([1]:List Int)) (([10]:List Int)))=some r:=h
 clear h
 obtain ⟨ql,qd⟩:∃ y_:List Int,y_=(([1]:List Int)):=⟨_,rfl⟩
 replace H:(Zbx.l0 k a0 ql (([10]:List Int)))=some r:=by have hy_:=qd;exact pH
 have qh:=am qd
 clear qd
 obtain ⟨qr,qe⟩:∃ y_:List Int,y_=(([10]:List Int)):=⟨_,rfl⟩
 replace H:(Zbx.l0 k a0 ql qr)=some r:=by have hy_:=qe;exact pH
 have qi:=am qe
 clear qe
 have H':=am H
 clear H
 go_enter Tryz.func163,Tryz.ntmps163
 go_wp2_with (first|((with_reducible refine gd 5 ?_);refine Kd.Zf1 (Kd.int .u32) _ 85 ?hg (N:=5) ?hd (xs:=([1]:List Int)) (inner:=[.int .u32 1]) (ok:=fun _=>True) (okp:=fun _=>True) ?hr ?hp (fun _ hk=>hk) trivial (Below.refl _ _) (Nat.le_refl _) (by simp) ?_;(case hd=>rfl);(case hg=>rfl);(case hr=>first|(go_simp;done)|(go_simp;rfl));(case hp=>exact (Reps.one (show Kd.M (Kd.int .u32) _ _ _ 1 [.int .u32 1] from rfl) (Reps.none _ _)));intro q4 w2 ho3 hb hg_ hnew_;clear hg_ hnew_;(first|rw [<- qh.out] at ho3|(simp only [Int.reduceToNat] at ho3;rw [<- qh.out] at ho3));have qc:=am (Kd.Zo ho3 (Zd pB));replace HB:=bS hb;clear hb ho3)|((with_reducible refine gd 6 ?_);refine Kd.Zf1 (Kd.int .u32) _ 85 ?hg (N:=6) ?hd (xs:=([10]:List Int)) (inner:=[.int .u32 10]) (ok:=fun _=>True) (okp:=fun _=>True) ?hr ?hp (fun _ hk=>hk) trivial (Below.refl _ _) (Nat.le_refl _) (by simp) ?_;(case hd=>rfl);(case hg=>rfl);(case hr=>first|(go_simp;done)|(go_simp;rfl));(case hp=>exact (Reps.one (show Kd.M (Kd.int .u32) _ _ _ 10 [.int .u32 10] from rfl) (Reps.none _ _)));intro q5 w4 ho5 hb hg_ hnew_;clear hg_ hnew_;(first|rw [<- qi.out] at ho5|(simp only [Int.reduceToNat] at ho5;rw [<- qi.out] at ho5));have qn:=am (Kd.Zo (Kd.Zs ho5 (Kd.R_lt (Kd.Za qc.o pl))) (Zd pB));replace qc:=reR qc ho5 hb;replace HB:=bS hb;clear hb ho5))
 go_loopg [0,3,4] k (fun kq v0 v3 v4 w' => ∃ (x0_1:Int) (x3_1:List Int) (x4_1:List Int),v0=.int .i64 x0_1/\Aside0 (Zbx.l0 kq x0_1 x3_1 x4_1=some r)/\Aside0 (kq<=k)/\Aside0 (Kd.R (Kd.int .u32) 85 w' w.heap.size (fun k_=>some k_ ≠ (v4:Value).ownBlock) v3 x3_1)/\Aside0 (Kd.R (Kd.int .u32) 85 w' w.heap.size (fun k_=>some k_ ≠ (v3:Value).ownBlock) v4 x4_1)/\Aside0 (Below w.heap.size w w'))
 case atStart=>exact ⟨(a0),(ql),(qr),pR,H',⟨Nat.le_refl _⟩,⟨by refine rp ?_;exact Kd.Zh qc.o (fun _ hk=>hk.2)⟩,⟨by refine rp ?_;exact Kd.Zh qn.o (fun _ hk=>hk.2)⟩,⟨pB⟩⟩
 case round =>
  clear H'
  obtain ⟨x0_1,x3_1,x4_1,rfl,HA,HK1,HO_3,HO_4,HB⟩:=hrel
  cases gk with
  | zero=>exact absurd HA.out (by simp [Zbx.l0])
  | succ k1 =>
   have H:=HA.out
   clear HA
   simp only [Zbx.l0] at H
   by_cases c6:x0_1 > 0
   ·rw [if_pos c6] at H
    have c6b0:decide (0 < x0_1)=true:=decide_eq_true c6
    clear c6
    by_cases c7:(Int.tmod x0_1 2)=1
    ·rw [if_pos c7] at H
     have c7b0:((Int.tmod x0_1 2) == 1)=true:=beq_iff_eq.mpr c7
     have c7b1:((Int.tmod x0_1 2) != 1)=false:=bne_eq_false_iff_eq.mpr c7
     clear c7
     obtain ⟨qb,A8,H⟩:=ob H
     by_cases c9:x0_1 > 1
     ·rw [if_pos c9] at H
      have c9b0:decide (1 < x0_1)=true:=decide_eq_true c9
      clear c9
      obtain ⟨qf,A10,H⟩:=ob H
      have H':=am H
      clear H
      obtain ⟨qs,qv,qy⟩:=Kd.Zj HO_3.o
      subst qy
      obtain ⟨qj,qk,qz⟩:=Kd.Zj HO_4.o
      subst qz
      go_wp2_with (first|(refine gL (some 16) Tryz.func129 #[.slice qs x3_1.length qv,.slice qj x4_1.length qk] (h:=?_);(with_reducible refine (Zad.calls k1 _ _ x3_1 _ _ x4_1 qb _ ?side1 ?side2 ?side3 ?side4 A8.o).mono ?_);(case side1=>exact Kd.Zn (Kd.Zc HO_3.o).2.2 pl);(case side2=>exact (Kd.Zc HO_3.o).2.1);(case side3=>exact Kd.Zn (Kd.Zc HO_4.o).2.2 pl);(case side4=>exact (Kd.Zc HO_4.o).2.1);rintro e w13 ⟨q3,rfl,ho0,hb⟩;refine ⟨_,rfl,?_⟩;have qa:=am (Kd.Zo (Kd.Zs (Kd.Zs ho0 (Kd.R_lt (Kd.Za HO_3.o pl))) (Kd.R_lt (Kd.Za HO_4.o pl))) (Zd pB));replace HO_3:=reR HO_3 ho0 hb;replace HO_4:=reR HO_4 ho0 hb;replace HB:=bS hb)|(refine gL (some 21) Tryz.func129 #[.slice qj x4_1.length qk,.slice qj x4_1.length qk] (h:=?_);(with_reducible refine (Zad.calls k1 _ _ x4_1 _ _ x4_1 qf _ ?side1 ?side2 ?side3 ?side4 A10.o).mono ?_);(case side1=>exact Kd.Zn (Kd.Zc HO_4.o).2.2 pl);(case side2=>exact (Kd.Zc HO_4.o).2.1);(case side3=>exact Kd.Zn (Kd.Zc HO_4.o).2.2 pl);(case side4=>exact (Kd.Zc HO_4.o).2.1);rintro e w14 ⟨q6,rfl,ho0,hb⟩;refine ⟨_,rfl,?_⟩;have qo:=am (Kd.Zo (Kd.Zs (Kd.Zs (Kd.Zs ho0 (Kd.R_lt (Kd.Za HO_3.o pl))) (Kd.R_lt (Kd.Za HO_4.o pl))) (Kd.R_lt (Kd.Za qa.o pl))) (Zd pB));replace HO_3:=reR HO_3 ho0 hb;replace HO_4:=reR HO_4 ho0 hb;replace qa:=reR qa ho0 hb;replace HB:=bS hb))
      go_roundg k1
      case measure=>have := HK1.out;omega
      case rel=>exact ⟨(wrap64 (Int.tdiv x0_1 2)),(qb),(qf),pR,H',⟨by have := HK1.out;omega⟩,⟨by refine rp ?_;exact Kd.Zh qa.o (fun _ hk=>hk.2)⟩,⟨by refine rp ?_;exact Kd.Zh qo.o (fun _ hk=>hk.2)⟩,⟨pB⟩⟩
     ·rw [if_neg c9] at H
      have c9b0:decide (1 < x0_1)=false:=decide_eq_false c9
      clear c9
      have H':=am H
      clear H
      obtain ⟨qt,qw,q0⟩:=Kd.Zj HO_3.o
      subst q0
      obtain ⟨qu,qx,q1⟩:=Kd.Zj HO_4.o
      subst q1
      go_wp2_with (first|(refine gL (some 16) Tryz.func129 #[.slice qt x3_1.length qw,.slice qu x4_1.length qx] (h:=?_);(with_reducible refine (Zad.calls k1 _ _ x3_1 _ _ x4_1 qb _ ?side1 ?side2 ?side3 ?side4 A8.o).mono ?_);(case side1=>exact Kd.Zn (Kd.Zc HO_3.o).2.2 pl);(case side2=>exact (Kd.Zc HO_3.o).2.1);(case side3=>exact Kd.Zn (Kd.Zc HO_4.o).2.2 pl);(case side4=>exact (Kd.Zc HO_4.o).2.1);rintro e w17 ⟨q3,rfl,ho0,hb⟩;refine ⟨_,rfl,?_⟩;have qa:=am (Kd.Zo (Kd.Zs (Kd.Zs ho0 (Kd.R_lt (Kd.Za HO_3.o pl))) (Kd.R_lt (Kd.Za HO_4.o pl))) (Zd pB));replace HO_3:=reR HO_3 ho0 hb;replace HO_4:=reR HO_4 ho0 hb;replace HB:=bS hb))
      go_roundg k1
      case measure=>have := HK1.out;omega
      case rel=>exact ⟨(wrap64 (Int.tdiv x0_1 2)),(qb),(x4_1),pR,H',⟨by have := HK1.out;omega⟩,⟨by refine rp ?_;exact Kd.Zh qa.o (fun _ hk=>hk.2)⟩,⟨by refine rp ?_;exact Kd.Zh HO_4.o (fun _ hk=>hk.2)⟩,⟨pB⟩⟩
    ·rw [if_neg c7] at H
     have c7b0:((Int.tmod x0_1 2) == 1)=false:=beq_eq_false_iff_ne.mpr c7
     have c7b1:((Int.tmod x0_1 2) != 1)=true:=bne_iff_ne.mpr c7
     by_cases c18:x0_1 > 1
     ·rw [if_pos c18] at H
      have c18b0:decide (1 < x0_1)=true:=decide_eq_true c18
      clear c18
      obtain ⟨qg,A19,H⟩:=ob H
      have H':=am H
      clear H
      obtain ⟨qm,qq,q2⟩:=Kd.Zj HO_4.o
      subst q2
      go_wp2_with (first|(refine gL (some 21) Tryz.func129 #[.slice qm x4_1.length qq,.slice qm x4_1.length qq] (h:=?_);(with_reducible refine (Zad.calls k1 _ _ x4_1 _ _ x4_1 qg _ ?side1 ?side2 ?side3 ?side4 A19.o).mono ?_);(case side1=>exact Kd.Zn (Kd.Zc HO_4.o).2.2 pl);(case side2=>exact (Kd.Zc HO_4.o).2.1);(case side3=>exact Kd.Zn (Kd.Zc HO_4.o).2.2 pl);(case side4=>exact (Kd.Zc HO_4.o).2.1);rintro e w21 ⟨q7,rfl,ho0,hb⟩;refine ⟨_,rfl,?_⟩;have qp:=am (Kd.Zo (Kd.Zs (Kd.Zs ho0 (Kd.R_lt (Kd.Za HO_3.o pl))) (Kd.R_lt (Kd.Za HO_4.o pl))) (Zd pB));replace HO_3:=reR HO_3 ho0 hb;replace HO_4:=reR HO_4 ho0 hb;replace HB:=bS hb))
      go_roundg k1
      case measure=>have := HK1.out;omega
      case rel=>exact ⟨(wrap64 (Int.tdiv x0_1 2)),(x3_1),(qg),pR,H',⟨by have := HK1.out;omega⟩,⟨by refine rp ?_;exact Kd.Zh HO_3.o (fun _ hk=>hk.2)⟩,⟨by refine rp ?_;exact Kd.Zh qp.o (fun _ hk=>hk.1.2)⟩,⟨pB⟩⟩
     ·rw [if_neg c18] at H
      have c18b0:decide (1 < x0_1)=false:=decide_eq_false c18
      clear c18
      have H':=am H
      clear H
      go_wp2
      go_roundg k1
      case measure=>have := HK1.out;omega
      case rel=>exact ⟨(wrap64 (Int.tdiv x0_1 2)),(x3_1),(x4_1),pR,H',⟨by have := HK1.out;omega⟩,⟨by refine rp ?_;exact HO_3.o⟩,⟨by refine rp ?_;exact HO_4.o⟩,⟨pB⟩⟩
   ·rw [if_neg c6] at H
    have c6b0:decide (0 < x0_1)=false:=decide_eq_false c6
    clear c6
    obtain rfl:=Option.some.inj H
    go_wp2
    go_ret
    exact ⟨_,pE,by refine rp ?_;exact Kd.Zh HO_3.o (fun _ hk=>trivial),pB⟩
def Zfy.f (k:Nat) (a0:Int):Option (List Int × Int):=if a0 < 0 then (some (([]:List Int),4)) else (if a0 > 2400 then (some (([]:List Int),4)) else ((Zbx.f k a0).bind fun qa=>(some (qa,0))))
theorem Zfy.calls (k:Nat) (a0:Int) (r1:List Int) (r2:Int) (w:World) (h:Zfy.f k a0=some (r1,r2)) :
  Calls Tryz.prog 130 #[.int .i64 a0] w fun e w' => ∃ v0_:Value,e=.returned (.tuple #[v0_,.int .i64 r2])/\Kd.R (Kd.int .u32) 85 w' w.heap.size (fun _=>True) v0_ r1/\Below w.heap.size w w':=by
 have HB:=am (Below.refl w.heap.size w)
 have H:(if a0 < 0 then (some (([]:List Int),4)) else (if a0 > 2400 then (some (([]:List Int),4)) else ((Zbx.f k a0).bind fun qa=>(some (qa,0)))))=some (r1,r2):=h
 clear h
 by_cases c2:a0 < 0
 ·rw [if_pos c2] at H
  have c2b0:decide (a0 < 0)=true:=decide_eq_true c2
  clear c2
  simp only [Option.some.injEq,Prod.mk.injEq] at H
  obtain ⟨rfl,rfl⟩:=H
  go_enter Tryz.func130,Tryz.ntmps130
  go_wp2
  go_ret2
  exact ⟨_,pE,pN,pB⟩
 ·rw [if_neg c2] at H
  have c2b0:decide (a0 < 0)=false:=decide_eq_false c2
  clear c2
  by_cases c3:a0 > 2400
  ·rw [if_pos c3] at H
   have c3b0:decide (2400 < a0)=true:=decide_eq_true c3
   clear c3
   simp only [Option.some.injEq,Prod.mk.injEq] at H
   obtain ⟨rfl,rfl⟩:=H
   go_enter Tryz.func130,Tryz.ntmps130
   go_wp2
   go_ret2
   exact ⟨_,pE,pN,pB⟩
  ·rw [if_neg c3] at H
   have c3b0:decide (2400 < a0)=false:=decide_eq_false c3
   clear c3
   obtain ⟨qa,A4,H⟩:=ob H
   simp only [Option.some.injEq,Prod.mk.injEq] at H
   obtain ⟨rfl,rfl⟩:=H
   go_enter Tryz.func130,Tryz.ntmps130
   go_wp2_with (first|(refine gL (some 11) Tryz.func163 #[.int .i64 a0] (h:=?_);(with_reducible refine (Zbx.calls k a0 qa _ A4.o).mono ?_);rintro e w5 ⟨qc,rfl,ho0,hb⟩;refine ⟨_,rfl,?_⟩;have qb:=am (Kd.Zo ho0 (Zd pB));replace HB:=bS hb))
   go_ret2
   exact ⟨_,pE,by refine rp ?_;exact qb.o,pB⟩
def Zcy.f (k:Nat) (l0:List Int) (l1:List Int):Option (Int × Int):=(Za3.f l0).bind fun qb=>((Za3.f l1).bind fun qc=>((Zbv.f k (([qb,qc]:List Int))).bind fun qa=>(if qa=0 then ((Zax.f l0 l1).bind fun qe=>(some (qe,0))) else (some (0,qa)))))
theorem Zcy.calls (k:Nat) (A0:Option Addr) (c0:Nat) (l0:List Int) (A1:Option Addr) (c1:Nat) (l1:List Int) (r1:Int) (r2:Int) (w:World) (hr0:Kd.C (Kd.int .u32) w A0 l0.length l0) (hc0:l0.length<=c0) (hr1:Kd.C (Kd.int .u32) w A1 l1.length l1) (hc1:l1.length<=c1) (h:Zcy.f k l0 l1=some (r1,r2)) :
  Calls Tryz.prog 90 #[.slice A0 l0.length c0,.slice A1 l1.length c1] w fun e w'=>e=.returned (.tuple #[.int .i64 r1,.int .i64 r2])/\Below w.heap.size w w':=by
 have HR0:=am hr0
 have HC0:=am hc0
 clear hr0 hc0
 have HR1:=am hr1
 have HC1:=am hc1
 clear hr1 hc1
 have HB:=am (Below.refl w.heap.size w)
 have H:((Za3.f l0).bind fun qb=>((Za3.f l1).bind fun qc=>((Zbv.f k (([qb,qc]:List Int))).bind fun qa=>(if qa=0 then ((Zax.f l0 l1).bind fun qe=>(some (qe,0))) else (some (0,qa))))))=some (r1,r2):=h
 clear h
 obtain ⟨qb,A3,H⟩:=ob H
 obtain ⟨qc,A4,H⟩:=ob H
 obtain ⟨qh,qg⟩:∃ y_:List Int,y_=(([qb,qc]:List Int)):=⟨_,rfl⟩
 replace H:((Zbv.f k qh).bind fun qa=>(if qa=0 then ((Zax.f l0 l1).bind fun qe=>(some (qe,0))) else (some (0,qa))))=some (r1,r2):=by have hy_:=qg;exact pH
 have qf:=am qg
 clear qg
 obtain ⟨qa,A5,H⟩:=ob H
 by_cases c6:qa=0
 ·rw [if_pos c6] at H
  have c6b0:(qa == 0)=true:=beq_iff_eq.mpr c6
  have c6b1:(qa != 0)=false:=bne_eq_false_iff_eq.mpr c6
  clear c6
  obtain ⟨qe,A7,H⟩:=ob H
  simp only [Option.some.injEq,Prod.mk.injEq] at H
  obtain ⟨rfl,rfl⟩:=H
  go_enter Tryz.func90,Tryz.ntmps90
  go_wp2_with (first|(refine gL (some 8) Tryz.func108 #[.slice A0 l0.length c0] (h:=?_);(with_reducible refine (Za3.calls _ _ l0 qb _ ?side1 ?side2 A3.o).mono ?_);(case side1=>refine cp ?_;exact HR0.o);(case side2=>exact HC0.o);rintro e w' ⟨rfl,⟨nd,rfl⟩⟩;refine ⟨_,rfl,?_⟩)|(refine gL (some 10) Tryz.func108 #[.slice A1 l1.length c1] (h:=?_);(with_reducible refine (Za3.calls _ _ l1 qc _ ?side1 ?side2 A4.o).mono ?_);(case side1=>refine cp ?_;exact HR1.o);(case side2=>exact HC1.o);rintro e w' ⟨rfl,⟨nd,rfl⟩⟩;refine ⟨_,rfl,?_⟩)|((with_reducible refine gd 11 ?_);refine Kd.Zf1 (Kd.int .i64) _ 32 ?hg (N:=11) ?hd (xs:=([qb,qc]:List Int)) (inner:=[.int .i64 qb,.int .i64 qc]) (ok:=fun _=>True) (okp:=fun _=>True) ?hr ?hp (fun _ hk=>hk) trivial (Below.refl _ _) (Nat.le_refl _) (by simp) ?_;(case hd=>rfl);(case hg=>rfl);(case hr=>first|(go_simp;done)|(go_simp;rfl));(case hp=>exact (Reps.one (show Kd.M (Kd.int .i64) _ _ _ qb [.int .i64 qb] from rfl) (Reps.one (show Kd.M (Kd.int .i64) _ _ _ qc [.int .i64 qc] from rfl) (Reps.none _ _))));intro qo w8 ho9 hb hg_ hnew_;clear hg_ hnew_;(first|rw [<- qf.out] at ho9|(simp only [Int.reduceToNat] at ho9;rw [<- qf.out] at ho9));have qd:=am (Kd.Zo ho9 (Zd pB));replace HB:=bS hb;clear hb ho9;obtain ⟨qi,qk,qm⟩:=Kd.Zj qd.o;subst qm)|(refine gL (some 12) Tryz.func137 #[.slice qi qh.length qk] (h:=?_);(with_reducible refine (Zbv.calls k _ _ qh qa _ ?side1 ?side2 A5.o).mono ?_);(case side1=>exact Kd.Zn (Kd.Zc qd.o).2.2 pl);(case side2=>exact (Kd.Zc qd.o).2.1);rintro e w' ⟨rfl,⟨nd,rfl⟩⟩;refine ⟨_,rfl,?_⟩)|(refine gL (some 18) Tryz.func138 #[.slice A0 l0.length c0,.slice A1 l1.length c1] (h:=?_);(with_reducible refine (Zax.calls _ _ l0 _ _ l1 qe _ ?side1 ?side2 ?side3 ?side4 A7.o).mono ?_);(case side1=>refine cp ?_;exact (Kd.Zn HR0.o pB));(case side2=>exact HC0.o);(case side3=>refine cp ?_;exact (Kd.Zn HR1.o pB));(case side4=>exact HC1.o);rintro e w11 ⟨rfl,hb⟩;refine ⟨_,rfl,?_⟩;replace qd:=rbl qd hb;replace HB:=bS hb))
  go_ret2
  exact ⟨pE,pB⟩
 ·rw [if_neg c6] at H
  have c6b0:(qa == 0)=false:=beq_eq_false_iff_ne.mpr c6
  have c6b1:(qa != 0)=true:=bne_iff_ne.mpr c6
  simp only [Option.some.injEq,Prod.mk.injEq] at H
  obtain ⟨rfl,rfl⟩:=H
  go_enter Tryz.func90,Tryz.ntmps90
  go_wp2_with (first|(refine gL (some 8) Tryz.func108 #[.slice A0 l0.length c0] (h:=?_);(with_reducible refine (Za3.calls _ _ l0 qb _ ?side1 ?side2 A3.o).mono ?_);(case side1=>refine cp ?_;exact HR0.o);(case side2=>exact HC0.o);rintro e w' ⟨rfl,⟨nd,rfl⟩⟩;refine ⟨_,rfl,?_⟩)|(refine gL (some 10) Tryz.func108 #[.slice A1 l1.length c1] (h:=?_);(with_reducible refine (Za3.calls _ _ l1 qc _ ?side1 ?side2 A4.o).mono ?_);(case side1=>refine cp ?_;exact HR1.o);(case side2=>exact HC1.o);rintro e w' ⟨rfl,⟨nd,rfl⟩⟩;refine ⟨_,rfl,?_⟩)|((with_reducible refine gd 11 ?_);refine Kd.Zf1 (Kd.int .i64) _ 32 ?hg (N:=11) ?hd (xs:=([qb,qc]:List Int)) (inner:=[.int .i64 qb,.int .i64 qc]) (ok:=fun _=>True) (okp:=fun _=>True) ?hr ?hp (fun _ hk=>hk) trivial (Below.refl _ _) (Nat.le_refl _) (by simp) ?_;(case hd=>rfl);(case hg=>rfl);(case hr=>first|(go_simp;done)|(go_simp;rfl));(case hp=>exact (Reps.one (show Kd.M (Kd.int .i64) _ _ _ qb [.int .i64 qb] from rfl) (Reps.one (show Kd.M (Kd.int .i64) _ _ _ qc [.int .i64 qc] from rfl) (Reps.none _ _))));intro qo w12 ho13 hb hg_ hnew_;clear hg_ hnew_;(first|rw [<- qf.out] at ho13|(simp only [Int.reduceToNat] at ho13;rw [<- qf.out] at ho13));have qd:=am (Kd.Zo ho13 (Zd pB));replace HB:=bS hb;clear hb ho13;obtain ⟨qj,ql,qn⟩:=Kd.Zj qd.o;subst qn)|(refine gL (some 12) Tryz.func137 #[.slice qj qh.length ql] (h:=?_);(with_reducible refine (Zbv.calls k _ _ qh qa _ ?side1 ?side2 A5.o).mono ?_);(case side1=>exact Kd.Zn (Kd.Zc qd.o).2.2 pl);(case side2=>exact (Kd.Zc qd.o).2.1);rintro e w' ⟨rfl,⟨nd,rfl⟩⟩;refine ⟨_,rfl,?_⟩))
  go_ret2
  exact ⟨pE,pB⟩
def Zed.f (k:Nat) (l0:List Int) (l1:List Int):Option (List Int × Int):=(Zdp.f k l0 l1).bind fun qa=>(if qa=0 then ((Zac.f k l0 l1).bind fun qb=>((Zd9.f qb).bind fun qc=>(some (qc.1,qc.2)))) else (some (([]:List Int),qa)))
theorem Zed.calls (k:Nat) (A0:Option Addr) (c0:Nat) (l0:List Int) (A1:Option Addr) (c1:Nat) (l1:List Int) (r1:List Int) (r2:Int) (w:World) (hr0:Kd.C (Kd.int .u32) w A0 l0.length l0) (hc0:l0.length<=c0) (hr1:Kd.C (Kd.int .u32) w A1 l1.length l1) (hc1:l1.length<=c1) (h:Zed.f k l0 l1=some (r1,r2)) :
  Calls Tryz.prog 75 #[.slice A0 l0.length c0,.slice A1 l1.length c1] w fun e w' => ∃ v0_:Value,e=.returned (.tuple #[v0_,.int .i64 r2])/\Kd.R (Kd.int .u32) 85 w' w.heap.size (fun _=>True) v0_ r1/\Below w.heap.size w w':=by
 have HR0:=am hr0
 have HC0:=am hc0
 clear hr0 hc0
 have HR1:=am hr1
 have HC1:=am hc1
 clear hr1 hc1
 have HB:=am (Below.refl w.heap.size w)
 have H:((Zdp.f k l0 l1).bind fun qa=>(if qa=0 then ((Zac.f k l0 l1).bind fun qb=>((Zd9.f qb).bind fun qc=>(some (qc.1,qc.2)))) else (some (([]:List Int),qa))))=some (r1,r2):=h
 clear h
 obtain ⟨qa,A3,H⟩:=ob H
 by_cases c4:qa=0
 ·rw [if_pos c4] at H
  have c4b0:(qa == 0)=true:=beq_iff_eq.mpr c4
  have c4b1:(qa != 0)=false:=bne_eq_false_iff_eq.mpr c4
  clear c4
  obtain ⟨qb,A5,H⟩:=ob H
  obtain ⟨⟨qf,qg⟩,A6,H⟩:=ob H;(try dsimp only at H)
  simp only [Option.some.injEq,Prod.mk.injEq] at H
  obtain ⟨rfl,rfl⟩:=H
  go_enter Tryz.func75,Tryz.ntmps75
  go_wp2_with (first|(refine gL (some 9) Tryz.func126 #[.slice A0 l0.length c0,.slice A1 l1.length c1] (h:=?_);(with_reducible refine (Zdp.calls k _ _ l0 _ _ l1 qa _ ?side1 ?side2 ?side3 ?side4 A3.o).mono ?_);(case side1=>refine cp ?_;exact HR0.o);(case side2=>exact HC0.o);(case side3=>refine cp ?_;exact HR1.o);(case side4=>exact HC1.o);rintro e w7 ⟨rfl,hb⟩;refine ⟨_,rfl,?_⟩;replace HB:=bS hb)|(refine gL (some 15) Tryz.func131 #[.slice A0 l0.length c0,.slice A1 l1.length c1] (h:=?_);(with_reducible refine (Zac.calls k _ _ l0 _ _ l1 qb _ ?side1 ?side2 ?side3 ?side4 A5.o).mono ?_);(case side1=>exact cB HR0 HB);(case side2=>exact HC0.o);(case side3=>exact cB HR1 HB);(case side4=>exact HC1.o);rintro e w8 ⟨qh,rfl,ho0,hb⟩;refine ⟨_,rfl,?_⟩;have qd:=am (Kd.Zo ho0 (Zd pB));replace HB:=bS hb;obtain ⟨Ao9,co9,eo9⟩:=Kd.Zj qd.o;subst eo9)|(refine gL (some 16) Tryz.func128 #[.slice Ao9 qb.length co9] (h:=?_);(with_reducible refine (Zd9.calls (fun k_=>some k_=(.slice Ao9 qb.length co9:Value).ownBlock) (.slice Ao9 qb.length co9) qb qf qg w _ ?side1 ?side2 A6.o).mono ?_);(case side1=>exact pB);(case side2=>exact Kd.Zbj rfl qd.o);rintro e w10 ⟨qi,rfl,ho0,hb,hkp⟩;refine ⟨_,rfl,?_⟩;have qe:=am (Kd.Zh (ok':=fun k_=>True) ho0 (fun k_ hk_=>trivial));replace HB:=am hb;clear qd))
  go_ret2
  exact ⟨_,pE,by refine rp ?_;exact qe.o,pB⟩
 ·rw [if_neg c4] at H
  have c4b0:(qa == 0)=false:=beq_eq_false_iff_ne.mpr c4
  have c4b1:(qa != 0)=true:=bne_iff_ne.mpr c4
  simp only [Option.some.injEq,Prod.mk.injEq] at H
  obtain ⟨rfl,rfl⟩:=H
  go_enter Tryz.func75,Tryz.ntmps75
  go_wp2_with (first|(refine gL (some 9) Tryz.func126 #[.slice A0 l0.length c0,.slice A1 l1.length c1] (h:=?_);(with_reducible refine (Zdp.calls k _ _ l0 _ _ l1 qa _ ?side1 ?side2 ?side3 ?side4 A3.o).mono ?_);(case side1=>refine cp ?_;exact HR0.o);(case side2=>exact HC0.o);(case side3=>refine cp ?_;exact HR1.o);(case side4=>exact HC1.o);rintro e w11 ⟨rfl,hb⟩;refine ⟨_,rfl,?_⟩;replace HB:=bS hb))
  go_ret2
  exact ⟨_,pE,pN,pB⟩
end YtjbjkmccfocikaaGreatDoor.B
end
section
namespace YtjbjkmccfocikaaGreatDoor.B
open Go.RowKit YtjbjkmccfocikaaGreatDoorW.PrintWords YtjbjkmccfocikaaGreatDoor.P.Nm
theorem Zew {b:Int}:∀ {l:List Int} {j:Nat} (x:Int),j < l.length->val b (l.set j x)=val b l+pw b j*(x - l.getD j 0)
 | [],j,x,h=>by simp at h
 | y :: l,0,x,_=>by simp [val,pw];omega
 | y :: l,j+1,x,h=>by
  have ih:=Zew (b:=b) (l:=l) (j:=j) x (by simpa using h)
  rw [List.set_cons_succ,Zb3,Zb3,ih,Zd8,Int.mul_add,Int.mul_assoc]
  simp [List.getD]
  omega
theorem Zg2 {b:Int} {l:List Int} (h:Dg b l) (j:Nat) {x:Int} (h0:0<=x) (h1:x < b):Dg b (l.set j x):=fun y hy=>by
 rcases List.mem_or_eq_of_mem_set hy with hy|rfl
 ·exact h y hy
 ·exact ⟨h0,h1⟩
theorem Zgh {b:Int} {l:List Int} {k:Nat} (h:k < l.length):val b (l.take (k+1))=val b (l.take k)+pw b k*l.getD k 0:=by
 rw [List.take_succ_eq_append_getElem h,Zdm,List.length_take,Nat.min_eq_left (by omega),List.getD,List.getElem?_eq_getElem h]
 rfl
theorem Zeb {l:List Int} {i j:Nat} (x:Int) (h:i ≠ j):(l.set i x).getD j 0=l.getD j 0:=by
 simp [List.getD,List.getElem?_set_ne h]
structure OffAt (q:Int) (xs v:List Int) (i k:Nat) (c b:Int) (ds:List Int):Prop where
 len:ds.length=xs.length
 dg:Dg 4294967296 ds
 c0:0<=c
 c1:c < 4294967296
 b01:b=0\/b=1
 law:val 4294967296 ds=val 4294967296 xs - pw 4294967296 i*(q*val 4294967296 (v.take k))+pw 4294967296 (i+k)*(c+b)
 hi:∀ j,i+k<=j->ds.getD j 0=xs.getD j 0
theorem OffAt.start {q:Int} {xs v:List Int} {i:Nat} (h:Dg 4294967296 xs):OffAt q xs v i 0 0 0 xs :=
 ⟨rfl,h,by omega,by omega,.inl rfl,by simp [val],fun _ _=>rfl⟩
theorem OffAt.prod {q y c:Int} (q0:0<=q) (q1:q < 4294967296) (y0:0<=y) (y1:y < 4294967296) (c0:0<=c) (c1:c < 4294967296):0<=q*y/\q*y+c < 18446744073709551616:=by
 have h1:=Int.mul_nonneg q0 y0
 have h2:=Int.mul_le_mul_of_nonneg_right (show q<=4294967295 by omega) y0
 exact ⟨h1,by omega⟩
theorem OffAt.step {q:Int} {xs v:List Int} {i k:Nat} {c b:Int} {ds:List Int} (h:OffAt q xs v i k c b ds) (q0:0<=q) (q1:q < 4294967296) (hv:Dg 4294967296 v) (hk:k < v.length) (hi:i+k < xs.length) :
  OffAt q xs v i (k+1) ((q*v.getD k 0+c) / 4294967296) (if ds.getD (i+k) 0 < (q*v.getD k 0+c) % 4294967296+b then 1 else 0) (ds.set (i+k) ((ds.getD (i+k) 0 - (q*v.getD k 0+c) % 4294967296 - b) % 4294967296)):=by
 have hy:0<=v.getD k 0/\v.getD k 0 < 4294967296:=by rw [List.getD,List.getElem?_eq_getElem hk];exact hv _ (List.getElem_mem hk)
 have hlt:i+k < ds.length:=by rw [h.len];exact hi
 have hu:0<=ds.getD (i+k) 0/\ds.getD (i+k) 0 < 4294967296:=by rw [List.getD,List.getElem?_eq_getElem hlt];exact h.dg _ (List.getElem_mem hlt)
 obtain ⟨p0,p1⟩:=OffAt.prod q0 q1 hy.1 hy.2 h.c0 h.c1
 have hb:=h.b01
 have hlaw:=h.law
 have ev:=Zew (b:=4294967296) (l:=ds) ((ds.getD (i+k) 0 - (q*v.getD k 0+c) % 4294967296 - b) % 4294967296) hlt
 have et:=Zgh (b:=4294967296) hk
 have c0:=h.c0
 obtain ⟨y,hyE⟩:∃ y,v.getD k 0=y:=⟨_,rfl⟩
 obtain ⟨u,huE⟩:∃ u,ds.getD (i+k) 0=u:=⟨_,rfl⟩
 rw [hyE] at hy ev et p0 p1 ⊢
 rw [huE] at hu ev ⊢
 obtain ⟨p,hp⟩:∃ p,q*y+c=p:=⟨_,rfl⟩
 rw [hp] at ev p1 ⊢
 refine ⟨by rw [List.length_set];exact h.len,Zg2 h.dg _ (by omega) (by omega),by omega,by omega,by split <;> simp,?_,fun j hj=>by rw [Zeb _ (by omega)];exact h.hi j (by omega)⟩
 obtain ⟨d,hd⟩:∃ d,(u - p % 4294967296 - b) % 4294967296=d:=⟨_,rfl⟩
 obtain ⟨bw,hbw⟩:∃ bw,(if u < p % 4294967296+b then (1:Int) else 0)=bw:=⟨_,rfl⟩
 rw [hd] at ev ⊢
 rw [hbw]
 have key:c+b+(d - u)=4294967296*(p / 4294967296+bw) - q*y:=by
  rw [<- hbw,<- hd]
  split <;> omega
 rw [ev,hlaw,et,show i+(k+1)=i+k+1 by omega,Zd8,Zge,Int.mul_add q,Int.mul_add (pw 4294967296 i)]
 have e1:pw 4294967296 i*(q*(pw 4294967296 k*y))=pw 4294967296 i*pw 4294967296 k*(q*y):=by
  rw [Int.mul_left_comm q,Int.mul_assoc]
 have e2:4294967296*(pw 4294967296 i*pw 4294967296 k)*(p / 4294967296+bw)=pw 4294967296 i*pw 4294967296 k*(4294967296*(p / 4294967296+bw)):=by
  rw [Int.mul_comm 4294967296 (pw _ _*_),Int.mul_assoc]
 rw [e1,e2]
 generalize pw 4294967296 i*pw 4294967296 k=M
 have e3:=congrArg (M * ·) key
 simp only [Int.mul_sub,Int.mul_add] at e3 ⊢
 omega
theorem OffAt.done {q:Int} {xs v:List Int} {i:Nat} {c b:Int} {ds:List Int} (h:OffAt q xs v i v.length c b ds) (hi:i+v.length < xs.length) :
  Dg 4294967296 (ds.set (i+v.length) ((ds.getD (i+v.length) 0 - c - b) % 4294967296))/\val 4294967296 (ds.set (i+v.length) ((ds.getD (i+v.length) 0 - c - b) % 4294967296))=val 4294967296 xs - pw 4294967296 i*(q*val 4294967296 v)+pw 4294967296 (i+v.length+1)*(if ds.getD (i+v.length) 0 < c+b then 1 else 0) /\
  ∀ j,i+v.length+1<=j->(ds.set (i+v.length) ((ds.getD (i+v.length) 0 - c - b) % 4294967296)).getD j 0=xs.getD j 0:=by
 have hlt:i+v.length < ds.length:=by rw [h.len];exact hi
 have hu:0<=ds.getD (i+v.length) 0/\ds.getD (i+v.length) 0 < 4294967296:=by rw [List.getD,List.getElem?_eq_getElem hlt];exact h.dg _ (List.getElem_mem hlt)
 have hb:=h.b01
 have c0:=h.c0
 have c1:=h.c1
 refine ⟨Zg2 h.dg _ (by omega) (by omega),?_,fun j hj=>by rw [Zeb _ (by omega)];exact h.hi j (by omega)⟩
 have hlaw:=h.law
 rw [List.take_length] at hlaw
 rw [Zew _ hlt,hlaw,Zd8]
 obtain ⟨u,huE⟩:∃ u,ds.getD (i+v.length) 0=u:=⟨_,rfl⟩
 rw [huE] at hu ⊢
 obtain ⟨bw,hbw⟩:∃ bw,(if u < c+b then (1:Int) else 0)=bw:=⟨_,rfl⟩
 rw [hbw]
 have key:c+b+((u - c - b) % 4294967296 - u)=4294967296*bw:=by
  rw [<- hbw]
  split <;> omega
 generalize pw 4294967296 (i+v.length)=M
 have e3:=congrArg (M * ·) key
 rw [Int.mul_comm 4294967296 M,Int.mul_assoc,<- e3]
 simp only [Int.mul_sub,Int.mul_add]
 omega
theorem Zqf (base g i n cap:Nat) (xs:List Int) (A1:Option Addr) (c1:Nat) (lv:List Int) (q:Int) (w:World) (hrow:w.ownsRow base 85 1 (.slice (some ⟨g,0,none⟩) n cap) n (nums .u32 xs)) (hbg:g < w.heap.size) (hx:Dg 4294967296 xs) (hr1:Kd.C (Kd.int .u32) w A1 lv.length lv) (hc1:lv.length<=c1) (hv:Dg 4294967296 lv)
  (hne:∀ ad,A1=some ad->lv.length=0\/ad.block ≠ g) (hi:i+lv.length < n) (hn:n<=cap) (hz:n<=2000000) (q0:0<=q) (q1:q < 4294967296) :
  Calls Tryz.prog 160 #[.slice (some ⟨g,i,none⟩) (n - i) (cap - i),.slice A1 lv.length c1,.int .u64 q] w fun e w' => ∃ (b:Int) (ds:List Int),e=.returned (.int .u32 b)/\(b=0\/b=1)/\w'.ownsRow base 85 1 (.slice (some ⟨g,0,none⟩) n cap) n (nums .u32 ds)/\Dg 4294967296 ds/\ds.length=xs.length /\
   val 4294967296 ds=val 4294967296 xs - pw 4294967296 i*(q*val 4294967296 lv)+pw 4294967296 (i+lv.length+1)*b/\(∀ j,i+lv.length+1<=j->ds.getD j 0=xs.getD j 0)/\Kept w w' (fun k=>k=g)/\Below g w w':=by
 have hlx:xs.length=n:=by have := hrow.1;simpa [nums] using this
 have e1:=Zft hr1
 have HR:=Aside0.mk e1
 have HN:=Aside0.mk hne
 have HRow:=Aside0.mk hrow
 clear hr1 hne hrow e1
 obtain ⟨m,hm⟩:∃ m:Int,(lv.length:Int)=m:=⟨_,rfl⟩
 have HM:=Aside0.mk hm
 obtain ⟨L,hL⟩:∃ L,n - i=L:=⟨_,rfl⟩
 obtain ⟨C2,hC2⟩:∃ C2,cap - i=C2:=⟨_,rfl⟩
 rw [hL,hC2]
 go_enter Tryz.func160,Tryz.ntmps160
 go_wp2
 go_loopg [7,8,14] (lv.length+1) (fun kq v7 v8 v14 w' => ∃ (x7 x8 x14:Int) (ds:List Int),v7=.int .u64 x7/\v8=.int .u32 x8/\v14=.int .i64 x14/\Aside0 (0<=x14/\x14<=lv.length)/\Aside0 (OffAt q xs lv i x14.toNat x7 x8 ds)/\Aside0 (w'.ownsRow base 85 1 (.slice (some ⟨g,0,none⟩) n cap) n (nums .u32 ds))/\Aside0 (Kept w w' (fun k=>k=g))/\Aside0 (Below g w w')/\Aside0 (kq+x14.toNat=lv.length+1))
 case atStart=>exact ⟨0,0,0,xs,rfl,rfl,rfl,⟨by omega⟩,⟨OffAt.start hx⟩,HRow,⟨Kept.refl _ _⟩,⟨Below.refl _ _⟩,⟨rfl⟩⟩
 case round =>
  obtain ⟨x7,x8,x14,ds,rfl,rfl,rfl,HX,HO,HW,HKp,HB,HK⟩:=hrel
  obtain ⟨hx0,hx1⟩:=HX.out
  have hds:ds.length=n:=HO.out.len.trans hlx
  have hc7:=HO.out.c0
  have hc8:=HO.out.c1
  have hb8:=HO.out.b01
  have hct:x14.toNat<=lv.length:=by omega
  have hcell:=Zfh HW.out ((i+x14.toNat:Nat):Int) (by omega) (by omega)
  rw [Int.toNat_natCast] at hcell
  obtain ⟨u,hu⟩:∃ u,rd ds ((i+x14.toNat:Nat):Int)=u:=⟨_,rfl⟩
  rw [hu] at hcell
  obtain ⟨hcu,hfu⟩:=hcell
  have hug:ds.getD (i+x14.toNat) 0=u:=by rw [<- hu];unfold rd;rw [Int.toNat_natCast]
  have hur:0<=u/\u < 4294967296:=by
   have hin:i+x14.toNat < ds.length:=by omega
   rw [<- hug,List.getD,List.getElem?_eq_getElem hin]
   exact HO.out.dg _ (List.getElem_mem hin)
  by_cases hlt:x14 < lv.length
  ·have hltn:x14.toNat < lv.length:=by omega
   obtain ⟨b1,o1,y,hA,hcy,hy⟩:=HR.out.at hltn
   subst hA
   have hb1:b1 ≠ g:=by
    rcases HN.out _ rfl with h|h
    ·omega
    ·exact h
   have hcyW:=(World.cell?_of_block (a:=⟨b1,o1+x14.toNat,none⟩) (HKp.out.2 b1 (World.block_lt_of_cell? w _ hcy) hb1)).trans hcy
   have hyr:0<=y/\y < 4294967296:=by
    rw [hy,List.getD,List.getElem?_eq_getElem hltn]
    exact hv _ (List.getElem_mem hltn)
   obtain ⟨pp0,pp1⟩:=OffAt.prod q0 q1 hyr.1 hyr.2 hc7 hc8
   have hst:=HO.out.step q0 q1 hv hltn (by omega)
   rw [hug,<- hy] at hst
   have e0:IntKind.u64.wrap y=y:=by simp [IntKind.wrap,IntKind.bits,IntKind.signed];omega
   have e1:IntKind.u64.wrap (q*y)=q*y:=by simp [IntKind.wrap,IntKind.bits,IntKind.signed];omega
   have e2:IntKind.u64.wrap (q*y+x7)=q*y+x7:=by simp [IntKind.wrap,IntKind.bits,IntKind.signed];omega
   obtain ⟨p,hp⟩:∃ p,q*y+x7=p:=⟨_,rfl⟩
   have e3:IntKind.u64.wrap (q*y+x7)=p:=e2.trans hp
   clear e2
   rw [hp] at hst pp1
   obtain ⟨lo,hlo⟩:∃ lo,p % 4294967296=lo:=⟨_,rfl⟩
   obtain ⟨hi2,hhi⟩:∃ hi2,p / 4294967296=hi2:=⟨_,rfl⟩
   rw [hlo,hhi] at hst
   obtain ⟨d,hd⟩:∃ d,(u - lo - x8) % 4294967296=d:=⟨_,rfl⟩
   obtain ⟨bw,hbw⟩:∃ bw:Int,(if u < lo+x8 then 1 else 0)=bw:=⟨_,rfl⟩
   rw [hd,hbw] at hst
   have cS:=fun W:World=>Zd4.calls u lo x8 d bw W (by unfold Zd4.f;rw [if_pos (by omega),hd,hbw])
   have d1:decide (x14 < m)=true:=decide_eq_true (by omega)
   have p1:=eq_true hx0
   have p2:=eq_true hlt
   have p4:=eq_true (show x14 < m by omega)
   have p3:=eq_true (show x14 < (L:Int) by omega)
   have w1:IntKind.i64.wrap (x14+1)=x14+1:=by rw [IntKind.wrap_i64];omega
   have HST:=Aside0.mk hst
   have HQ:=Aside0.mk (And.intro q0 q1)
   have HXR:=Aside0.mk (show i+x14.toNat < n/\ds.length=n/\L=n - i from ⟨by omega,hds,hL.symm⟩)
   clear hst hur hyr pp0 pp1 hd hbw hp hy hug hu hcy hc7 hc8 hb8 HO
   go_wp2_with (go_at_call 185;(with_reducible refine (cS _).mono ?_);rintro e w' ⟨rfl,⟨nq,rfl⟩⟩)
   go_roundg (gk - 1)
   case measure=>have := HK.out;omega
   case rel =>
    have hst1:=Ze1 (W:=wr.drewN nq) HW.out ((i+x14.toNat:Nat):Int) d
    rw [Int.toNat_natCast] at hst1
    have e5:(x14+1).toNat=x14.toNat+1:=by omega
    refine ⟨hi2,bw,x14+1,ds.set (i+x14.toNat) d,rfl,rfl,rfl,⟨by omega⟩,⟨by rw [e5];exact HST.out⟩,⟨hst1.1⟩,⟨⟨?_,fun k h1 h2=>(Below.heap_setCell _ ⟨g,i+x14.toNat,none⟩ _ k h2).trans (HKp.out.2 k h1 h2)⟩⟩,⟨(Za6 HB.out nq).setCell (p:=⟨g,i+x14.toNat,none⟩) (Nat.le_refl _) _⟩,⟨by have := HK.out;rw [e5];omega⟩⟩
    have := HKp.out.1
    simpa using this
  ·obtain rfl:x14=m:=by omega
   have hxm:x14.toNat=lv.length:=by omega
   have hst:=HO.out
   rw [hxm] at hst
   have hfin:=hst.done (by omega)
   rw [<- hxm,hug] at hfin
   obtain ⟨d,hd⟩:∃ d,(u - x7 - x8) % 4294967296=d:=⟨_,rfl⟩
   obtain ⟨bw,hbw⟩:∃ bw:Int,(if u < x7+x8 then 1 else 0)=bw:=⟨_,rfl⟩
   rw [hd,hbw] at hfin
   have hb01:bw=0\/bw=1:=by rw [<- hbw];split <;> simp
   have cS:=fun W:World=>Zd4.calls u x7 x8 d bw W (by unfold Zd4.f;rw [if_pos (by omega),hd,hbw])
   have d1:decide (x14 < x14)=false:=decide_eq_false (by omega)
   have p1:=eq_true hx0
   have p3:=eq_true (show x14 < (L:Int) by omega)
   have ec:x7 % 4294967296=x7:=by omega
   have HFin:=Aside0.mk hfin
   have HBw:=Aside0.mk hb01
   have HXM:=Aside0.mk hxm
   have HDS:=Aside0.mk (hds.trans hlx.symm)
   clear hst hfin hb01 hd hbw hur hug hu hc7 hc8 hb8 HO hxm hds hct
   go_wp2_with (go_at_call 185;(with_reducible refine (cS _).mono ?_);rintro e w' ⟨rfl,⟨nq,rfl⟩⟩)
   go_ret
   have hst1:=Ze1 (W:=wr.drewN nq) HW.out ((i+x14.toNat:Nat):Int) d
   rw [Int.toNat_natCast] at hst1
   have hf:=HFin.out
   rw [HXM.out] at hf hst1
   refine ⟨bw,_,rfl,HBw.out,by rw [HXM.out];exact hst1.1,hf.1,by rw [List.length_set];exact HDS.out,hf.2.1,hf.2.2,⟨?_,fun k h1 h2=>(Below.heap_setCell _ ⟨g,i+x14.toNat,none⟩ _ k h2).trans (HKp.out.2 k h1 h2)⟩,(Za6 HB.out nq).setCell (p:=⟨g,i+x14.toNat,none⟩) (Nat.le_refl _) _⟩
   have := HKp.out.1
   simpa using this
theorem Zq8 (x y c:Int) (h1:0<=x) (h2:x < 4294967296) (h3:0<=y) (h4:y < 4294967296) (h5:c=0\/c=1):Zcg.f x y c=some ((x+y+c) % 4294967296,(x+y+c) / 4294967296):=by
 have e:∀ z:Int,IntKind.u64.wrap z=z % 18446744073709551616:=fun z=>by simp [IntKind.wrap,IntKind.bits,IntKind.signed]
 unfold Zcg.f
 simp only [e]
 congr 2
 ·omega
 ·omega
structure PutAt (xs v:List Int) (i k:Nat) (c:Int) (ds:List Int):Prop where
 len:ds.length=xs.length
 dg:Dg 4294967296 ds
 c01:c=0\/c=1
 law:val 4294967296 ds=val 4294967296 xs+pw 4294967296 i*val 4294967296 (v.take k) - pw 4294967296 (i+k)*c
 hi:∀ j,i+k<=j->ds.getD j 0=xs.getD j 0
theorem PutAt.start {xs v:List Int} {i:Nat} (h:Dg 4294967296 xs):PutAt xs v i 0 0 xs:=⟨rfl,h,.inl rfl,by simp [val],fun _ _=>rfl⟩
theorem PutAt.step {xs v:List Int} {i k:Nat} {c:Int} {ds:List Int} (h:PutAt xs v i k c ds) (hv:Dg 4294967296 v) (hk:k < v.length) (hi:i+k < xs.length) :
  PutAt xs v i (k+1) ((ds.getD (i+k) 0+v.getD k 0+c) / 4294967296) (ds.set (i+k) ((ds.getD (i+k) 0+v.getD k 0+c) % 4294967296)):=by
 have hy:0<=v.getD k 0/\v.getD k 0 < 4294967296:=by rw [List.getD,List.getElem?_eq_getElem hk];exact hv _ (List.getElem_mem hk)
 have hlt:i+k < ds.length:=by rw [h.len];exact hi
 have hu:0<=ds.getD (i+k) 0/\ds.getD (i+k) 0 < 4294967296:=by rw [List.getD,List.getElem?_eq_getElem hlt];exact h.dg _ (List.getElem_mem hlt)
 have hc:=h.c01
 have ev:=Zew (b:=4294967296) (l:=ds) ((ds.getD (i+k) 0+v.getD k 0+c) % 4294967296) hlt
 have et:=Zgh (b:=4294967296) hk
 obtain ⟨y,hyE⟩:∃ y,v.getD k 0=y:=⟨_,rfl⟩
 obtain ⟨u,huE⟩:∃ u,ds.getD (i+k) 0=u:=⟨_,rfl⟩
 rw [hyE] at hy ev et ⊢
 rw [huE] at hu ev ⊢
 refine ⟨by rw [List.length_set];exact h.len,Zg2 h.dg _ (by omega) (by omega),by omega,?_,fun j hj=>by rw [Zeb _ (by omega)];exact h.hi j (by omega)⟩
 obtain ⟨s,hs⟩:∃ s,u+y+c=s:=⟨_,rfl⟩
 rw [hs] at ev ⊢
 have key:s % 4294967296 - u=y+c - 4294967296*(s / 4294967296):=by omega
 rw [ev,h.law,et,show i+(k+1)=i+k+1 by omega,Zd8,Zge,key,Int.mul_add (pw 4294967296 i)]
 have e1:pw 4294967296 i*(pw 4294967296 k*y)=pw 4294967296 i*pw 4294967296 k*y:=by rw [Int.mul_assoc]
 rw [e1]
 generalize pw 4294967296 i*pw 4294967296 k=M
 rw [Int.mul_comm 4294967296 M,Int.mul_assoc]
 simp only [Int.mul_sub,Int.mul_add]
 omega
theorem PutAt.done {xs v:List Int} {i:Nat} {c:Int} {ds:List Int} (h:PutAt xs v i v.length c ds) (hi:i+v.length < xs.length) :
  ∃ o:Int,(o=0\/o=1)/\Dg 4294967296 (ds.set (i+v.length) ((ds.getD (i+v.length) 0+c) % 4294967296))/\val 4294967296 (ds.set (i+v.length) ((ds.getD (i+v.length) 0+c) % 4294967296))=val 4294967296 xs+pw 4294967296 i*val 4294967296 v - pw 4294967296 (i+v.length+1)*o /\
   ∀ j,i+v.length+1<=j->(ds.set (i+v.length) ((ds.getD (i+v.length) 0+c) % 4294967296)).getD j 0=xs.getD j 0:=by
 have hlt:i+v.length < ds.length:=by rw [h.len];exact hi
 have hu:0<=ds.getD (i+v.length) 0/\ds.getD (i+v.length) 0 < 4294967296:=by rw [List.getD,List.getElem?_eq_getElem hlt];exact h.dg _ (List.getElem_mem hlt)
 have hc:=h.c01
 have hlaw:=h.law
 rw [List.take_length] at hlaw
 obtain ⟨u,huE⟩:∃ u,ds.getD (i+v.length) 0=u:=⟨_,rfl⟩
 refine ⟨(u+c) / 4294967296,by omega,?_,?_,fun j hj=>by rw [Zeb _ (by omega)];exact h.hi j (by omega)⟩
 ·rw [huE] at hu ⊢
  exact Zg2 h.dg _ (by omega) (by omega)
 ·rw [Zew _ hlt,hlaw,huE,Zd8]
  have key:(u+c) % 4294967296 - u=c - 4294967296*((u+c) / 4294967296):=by omega
  rw [key]
  generalize pw 4294967296 (i+v.length)=M
  rw [Int.mul_comm 4294967296 M,Int.mul_assoc,Int.mul_sub]
  omega
structure PutR (base g i n cap:Nat) (xs lv:List Int) (w w':World):Prop where
 out:∃ (o:Int) (ds:List Int),(o=0\/o=1)/\w'.ownsRow base 85 1 (.slice (some ⟨g,0,none⟩) n cap) n (nums .u32 ds)/\Dg 4294967296 ds/\ds.length=xs.length /\
   val 4294967296 ds=val 4294967296 xs+pw 4294967296 i*val 4294967296 lv - pw 4294967296 (i+lv.length+1)*o/\(∀ j,i+lv.length+1<=j->ds.getD j 0=xs.getD j 0)
 kept:Kept w w' (fun k=>k=g)
 low:Below g w w'
theorem Zqc (base g i n cap:Nat) (xs:List Int) (A1:Option Addr) (c1:Nat) (lv:List Int) (w:World) (hrow:w.ownsRow base 85 1 (.slice (some ⟨g,0,none⟩) n cap) n (nums .u32 xs)) (hbg:g < w.heap.size) (hx:Dg 4294967296 xs) (hr1:Kd.C (Kd.int .u32) w A1 lv.length lv) (hc1:lv.length<=c1) (hv:Dg 4294967296 lv)
  (hne:∀ ad,A1=some ad->lv.length=0\/ad.block ≠ g) (hi:i+lv.length < n) (hn:n<=cap) (hz:n<=2000000) :
  Calls Tryz.prog 161 #[.slice (some ⟨g,i,none⟩) (n - i) (cap - i),.slice A1 lv.length c1] w fun e w'=>e=.returned (.tuple #[])/\PutR base g i n cap xs lv w w':=by
 have hlx:xs.length=n:=by have := hrow.1;simpa [nums] using this
 have e1:=Zft hr1
 have HR:=Aside0.mk e1
 have HN:=Aside0.mk hne
 have HRow:=Aside0.mk hrow
 clear hr1 hne hrow e1
 obtain ⟨m,hm⟩:∃ m:Int,(lv.length:Int)=m:=⟨_,rfl⟩
 have HM:=Aside0.mk hm
 obtain ⟨L,hL⟩:∃ L,n - i=L:=⟨_,rfl⟩
 obtain ⟨C2,hC2⟩:∃ C2,cap - i=C2:=⟨_,rfl⟩
 rw [hL,hC2]
 go_enter Tryz.func161,Tryz.ntmps161
 go_wp2
 go_loopg [4,9] (lv.length+1) (fun kq v4 v9 w' => ∃ (x4 x9:Int) (ds:List Int),v4=.int .u32 x4/\v9=.int .i64 x9/\Aside0 (0<=x9/\x9<=lv.length)/\Aside0 (PutAt xs lv i x9.toNat x4 ds)/\Aside0 (w'.ownsRow base 85 1 (.slice (some ⟨g,0,none⟩) n cap) n (nums .u32 ds))/\Aside0 (Kept w w' (fun k=>k=g))/\Aside0 (Below g w w')/\Aside0 (kq+x9.toNat=lv.length+1))
 case atStart=>exact ⟨0,0,xs,rfl,rfl,⟨by omega⟩,⟨PutAt.start hx⟩,HRow,⟨Kept.refl _ _⟩,⟨Below.refl _ _⟩,⟨rfl⟩⟩
 case round =>
  obtain ⟨x4,x9,ds,rfl,rfl,HX,HO,HW,HKp,HB,HK⟩:=hrel
  obtain ⟨hx0,hx1⟩:=HX.out
  have hds:ds.length=n:=HO.out.len.trans hlx
  have hb4:=HO.out.c01
  have hct:x9.toNat<=lv.length:=by omega
  have hcell:=Zfh HW.out ((i+x9.toNat:Nat):Int) (by omega) (by omega)
  rw [Int.toNat_natCast] at hcell
  obtain ⟨u,hu⟩:∃ u,rd ds ((i+x9.toNat:Nat):Int)=u:=⟨_,rfl⟩
  rw [hu] at hcell
  obtain ⟨hcu,hfu⟩:=hcell
  have hug:ds.getD (i+x9.toNat) 0=u:=by rw [<- hu];unfold rd;rw [Int.toNat_natCast]
  have hur:0<=u/\u < 4294967296:=by
   have hin:i+x9.toNat < ds.length:=by omega
   rw [<- hug,List.getD,List.getElem?_eq_getElem hin]
   exact HO.out.dg _ (List.getElem_mem hin)
  by_cases hlt:x9 < lv.length
  ·have hltn:x9.toNat < lv.length:=by omega
   obtain ⟨b1,o1,y,hA,hcy,hy⟩:=HR.out.at hltn
   subst hA
   have hb1:b1 ≠ g:=by
    rcases HN.out _ rfl with h|h
    ·omega
    ·exact h
   have hcyW:=(World.cell?_of_block (a:=⟨b1,o1+x9.toNat,none⟩) (HKp.out.2 b1 (World.block_lt_of_cell? w _ hcy) hb1)).trans hcy
   have hyr:0<=y/\y < 4294967296:=by
    rw [hy,List.getD,List.getElem?_eq_getElem hltn]
    exact hv _ (List.getElem_mem hltn)
   have hst:=HO.out.step hv hltn (by omega)
   rw [hug,<- hy] at hst
   have cA:=fun W:World=>Zcg.calls u y x4 _ _ W (Zq8 u y x4 hur.1 hur.2 hyr.1 hyr.2 hb4)
   obtain ⟨d,hd⟩:∃ d,(u+y+x4) % 4294967296=d:=⟨_,rfl⟩
   obtain ⟨cw,hcw⟩:∃ cw,(u+y+x4) / 4294967296=cw:=⟨_,rfl⟩
   rw [hd,hcw] at hst cA
   have d1:decide (x9 < m)=true:=decide_eq_true (by omega)
   have p1:=eq_true hx0
   have p2:=eq_true hlt
   have p4:=eq_true (show x9 < m by omega)
   have p3:=eq_true (show x9 < (L:Int) by omega)
   have w1:IntKind.i64.wrap (x9+1)=x9+1:=by rw [IntKind.wrap_i64];omega
   have HST:=Aside0.mk hst
   have HXR:=Aside0.mk (show i+x9.toNat < n/\ds.length=n/\L=n - i from ⟨by omega,hds,hL.symm⟩)
   clear hst hur hyr hd hcw hy hug hu hcy hb4 HO
   go_wp2_with (go_at_call 164;(with_reducible refine (cA _).mono ?_);rintro e w' ⟨rfl,⟨nq,rfl⟩⟩)
   go_roundg (gk - 1)
   case measure=>have := HK.out;omega
   case rel =>
    have hst1:=Ze1 (W:=wr.drewN nq) HW.out ((i+x9.toNat:Nat):Int) d
    rw [Int.toNat_natCast] at hst1
    have e5:(x9+1).toNat=x9.toNat+1:=by omega
    refine ⟨cw,x9+1,ds.set (i+x9.toNat) d,rfl,rfl,⟨by omega⟩,⟨by rw [e5];exact HST.out⟩,⟨hst1.1⟩,⟨⟨?_,fun k h1 h2=>(Below.heap_setCell _ ⟨g,i+x9.toNat,none⟩ _ k h2).trans (HKp.out.2 k h1 h2)⟩⟩,⟨(Za6 HB.out nq).setCell (p:=⟨g,i+x9.toNat,none⟩) (Nat.le_refl _) _⟩,⟨by have := HK.out;rw [e5];omega⟩⟩
    have := HKp.out.1
    simpa using this
  ·obtain rfl:x9=m:=by omega
   have hxm:x9.toNat=lv.length:=by omega
   have hst:=HO.out
   rw [hxm] at hst
   obtain ⟨o,ho,hfin⟩:=hst.done (by omega)
   rw [<- hxm,hug] at hfin
   obtain ⟨d,hd⟩:∃ d,(u+x4) % 4294967296=d:=⟨_,rfl⟩
   rw [hd] at hfin
   have d1:decide (x9 < x9)=false:=decide_eq_false (by omega)
   have p1:=eq_true hx0
   have p3:=eq_true (show x9 < (L:Int) by omega)
   have HFin:=Aside0.mk hfin
   have HOo:=Aside0.mk ho
   have HXM:=Aside0.mk hxm
   have HDS:=Aside0.mk (hds.trans hlx.symm)
   clear hst hfin ho hur hug hu hb4 HO hxm hds hct
   go_wp2
   refine ⟨rfl,.tuple #[],by simp [results,Tryz.f161,go_sem],rfl,?_,?_,?_⟩
   ·have hst1:=Ze1 (W:=wr) HW.out ((i+x9.toNat:Nat):Int) d
    rw [Int.toNat_natCast] at hst1
    have hf:=HFin.out
    rw [HXM.out] at hf hst1
    exact ⟨o,_,HOo.out,by rw [HXM.out];exact hst1.1,hf.1,by rw [List.length_set];exact HDS.out,hf.2.1,hf.2.2⟩
   ·refine ⟨?_,fun k h1 h2=>(Below.heap_setCell _ ⟨g,i+x9.toNat,none⟩ _ k h2).trans (HKp.out.2 k h1 h2)⟩
    have := HKp.out.1
    simpa using this
   ·exact HB.out.setCell (p:=⟨g,i+x9.toNat,none⟩) (Nat.le_refl _) _
end YtjbjkmccfocikaaGreatDoor.B
end
section
namespace YtjbjkmccfocikaaGreatDoor.P.Nm
abbrev LB:Int:=4294967296
theorem pwB (k:Nat):pw LB k=((4294967296 ^ k:Nat):Int):=Zfi 4294967296 k
theorem Zfj {b:Int} (l:List Int) (j:Nat) (h:j<=l.length):val b l=val b (l.take j)+pw b j*val b (l.drop j):=by
 conv=>lhs;rw [<- List.take_append_drop j l]
 rw [Zfz,List.length_take,Nat.min_eq_left h]
theorem drop_one {l:List Int} {i:Nat} (h:i < l.length):l.drop i=l.getD i 0 :: l.drop (i+1):=by
 rw [List.getD,List.getElem?_eq_getElem h];exact List.drop_eq_getElem_cons h
theorem Zf0 {b:Int}:∀ {l:List Int} {k:Nat},(∀ j,k<=j->l.getD j 0=0)->val b (l.drop k)=0
 | l,k,h=>by
  have key:∀ m:List Int,(∀ x ∈ m,x=0)->val b m=0:=fun m=>by
   induction m with
   | nil=>intro _;rfl
   | cons x m ih =>
    intro hm
    rw [Zb3,hm x List.mem_cons_self,ih (fun y hy=>hm y (List.mem_cons_of_mem _ hy))]
    simp
  refine key _ (fun x hx=>?_)
  obtain ⟨j,hj⟩:=List.mem_iff_getElem?.1 hx
  rw [List.getElem?_drop] at hj
  have := h (k+j) (by omega)
  rw [List.getD,hj] at this
  exact this
theorem Zkw {l:List Int} {k:Nat} (hd:Dg LB l) (hv:val LB l < pw LB k):∀ j,k<=j->l.getD j 0=0:=fun j hj=>by
 by_cases h:j < l.length
 ·have h1:=Zfj (b:=LB) l j (by omega)
  rw [drop_one h,Zb3] at h1
  have h2:=Zbt (b:=LB) (by decide) (hd.take j)
  have h3:=Zbt (b:=LB) (by decide) (hd.drop (j+1))
  have h4:=hd (l.getD j 0) (by rw [List.getD,List.getElem?_eq_getElem h];exact List.getElem_mem h)
  have h5:=Zo0 (b:=LB) (by decide) hj
  have h6:=Zer (b:=LB) (by decide) j
  rcases Int.lt_or_le 0 (l.getD j 0) with h7|h7
  ·exfalso
   have h8:=Int.mul_le_mul_of_nonneg_left (show 1<=l.getD j 0+LB*val LB (l.drop (j+1)) by
    have := Int.mul_nonneg (show (0:Int)<=LB by decide) h3
    omega) (Int.le_of_lt h6)
   omega
  ·omega
 ·rw [List.getD,List.getElem?_eq_none (by omega)];rfl
structure DivAt (U V:List Int) (m j:Nat) (ds qs:List Int):Prop where
 len:ds.length=U.length
 dg:Dg LB ds
 qlen:qs.length=m
 qdg:Dg LB qs
 qlo:∀ i,i < j->qs.getD i 0=0
 law:val LB U=val LB ds+val LB qs*val LB V
 low:val LB ds < pw LB j*val LB V
structure DivOk (U V:List Int) (m:Nat):Prop where
 ud:Dg LB U
 vd:Dg LB V
 ulen:U.length=m+V.length
 vlen:2<=V.length
 top:2147483648<=V.getD (V.length - 1) 0
 start:val LB U < pw LB m*val LB V
theorem DivAt.start {U V:List Int} {m:Nat} (h:DivOk U V m):DivAt U V m m U (List.replicate m 0) :=
 ⟨rfl,h.ud,by simp,Dg.zeros (by decide) _,fun i hi=>by simp [List.getD,List.getElem?_replicate,hi],by rw [Zgi];omega,h.start⟩
theorem DivAt.vpos {U V:List Int} {m:Nat} (h:DivOk U V m):0 < val LB V/\val LB V < pw LB V.length:=by
 have hl:=h.vlen
 have h1:=Zfj (b:=LB) V (V.length - 1) (by omega)
 rw [drop_one (by omega),Zb3,List.drop_of_length_le (by omega),Zfa] at h1
 have h2:=Zbt (b:=LB) (by decide) (h.vd.take (V.length - 1))
 have h3:=Zer (b:=LB) (by decide) (V.length - 1)
 have h4:=Int.mul_le_mul_of_nonneg_left (show 1<=V.getD (V.length - 1) 0+LB*0 by have := h.top;omega) (Int.le_of_lt h3)
 exact ⟨by omega,Zdz (by decide) h.vd⟩
structure Digit (U V:List Int) (i:Nat) (ds:List Int) (g q:Int):Prop where
 q0:0<=q
 q1:q < LB
 g0:0<=g
 g1:g < LB
 ge:q<=g
 le:g<=q+1
 lo:pw LB i*(q*val LB V)<=val LB ds
 hi:val LB ds < pw LB i*((q+1)*val LB V)
theorem top3 {l:List Int} {k:Nat} (h:k+2 < l.length) (hz:∀ j,k+3<=j->l.getD j 0=0):val LB l=val LB (l.take k)+pw LB k*(l.getD k 0+LB*(l.getD (k+1) 0+LB*l.getD (k+2) 0)):=by
 rw [Zfj l k (by omega),drop_one (show k < l.length by omega),Zb3,drop_one (show k+1 < l.length by omega),Zb3,drop_one (show k+1+1 < l.length by omega),Zb3,Zf0 (k:=k+1+1+1) hz]
 simp
theorem top2 {l:List Int} {k:Nat} (h:k+2=l.length):val LB l=val LB (l.take k)+pw LB k*(l.getD k 0+LB*l.getD (k+1) 0):=by
 rw [Zfj l k (by omega),drop_one (show k < l.length by omega),Zb3,drop_one (show k+1 < l.length by omega),Zb3,List.drop_of_length_le (by omega),Zfa]
 simp
theorem Zeu {l:List Int} (h:Dg LB l) (k:Nat):0<=l.getD k 0/\l.getD k 0 < LB:=by
 by_cases hk:k < l.length
 ·rw [List.getD,List.getElem?_eq_getElem hk];exact h _ (List.getElem_mem hk)
 ·rw [List.getD,List.getElem?_eq_none (by omega)];exact ⟨Int.le_refl _,by decide⟩
theorem DivAt.digit {U V:List Int} {m i:Nat} {ds qs:List Int} (h:DivAt U V m (i+1) ds qs) (ok:DivOk U V m) (hi:i < m) :
  ds.getD (i+V.length) 0<=V.getD (V.length - 1) 0 /\
  ∃ q,Digit U V i ds (min ((((ds.getD (i+V.length) 0)*LB+ds.getD (i+V.length - 1) 0)*LB+ds.getD (i+V.length - 2) 0) / (V.getD (V.length - 1) 0*LB+V.getD (V.length - 2) 0)) 4294967295) q:=by
 obtain ⟨vp,vl⟩:=DivAt.vpos ok
 have hvl:=ok.vlen
 obtain ⟨n,hn⟩:∃ n,V.length=n+2:=⟨V.length - 2,by omega⟩
 have hlen:i+n+2 < ds.length:=by rw [h.len,ok.ulen];omega
 have hz:∀ j,i+n+3<=j->ds.getD j 0=0:=Zkw h.dg (by
  refine Int.lt_of_lt_of_le h.low ?_
  rw [show i+n+3=(i+1)+(n+2) by omega,Zge LB (i+1) (n+2),<- hn]
  exact Int.mul_le_mul_of_nonneg_left (Int.le_of_lt vl) (Int.le_of_lt (Zer (b:=LB) (by decide) _)))
 have eD:=top3 (l:=ds) (k:=i+n) hlen hz
 have eV:=top2 (l:=V) (k:=n) hn.symm
 rw [hn]
 rw [show i+(n+2)=i+n+2 by omega,show i+n+2 - 1=i+n+1 by omega,show i+n+2 - 2=i+n by omega,show n+2 - 1=n+1 by omega,show n+2 - 2=n by omega]
 have d2:=Zeu h.dg (i+n+2)
 have d1:=Zeu h.dg (i+n+1)
 have d0:=Zeu h.dg (i+n)
 have v1:=Zeu ok.vd (n+1)
 have v0:=Zeu ok.vd n
 have ht:=ok.top
 rw [hn,show n+2 - 1=n+1 by omega] at ht
 have hlow:=h.low
 obtain ⟨D,hD⟩:∃ D,val LB ds=D:=⟨_,rfl⟩
 obtain ⟨W,hW⟩:∃ W,val LB V=W:=⟨_,rfl⟩
 rw [hD] at eD hlow
 rw [hW] at eV hlow vp vl
 have t0:=Zbt (b:=LB) (by decide) (h.dg.take (i+n))
 have t1:=Zdz (b:=LB) (by decide) (h.dg.take (i+n))
 rw [List.length_take,Nat.min_eq_left (by omega)] at t1
 have s0:=Zbt (b:=LB) (by decide) (ok.vd.take n)
 have s1:=Zdz (b:=LB) (by decide) (ok.vd.take n)
 rw [List.length_take,Nat.min_eq_left (by omega)] at s1
 obtain ⟨x2,hx2⟩:∃ x,ds.getD (i+n+2) 0=x:=⟨_,rfl⟩
 obtain ⟨x1,hx1⟩:∃ x,ds.getD (i+n+1) 0=x:=⟨_,rfl⟩
 obtain ⟨x0,hx0⟩:∃ x,ds.getD (i+n) 0=x:=⟨_,rfl⟩
 obtain ⟨y1,hy1⟩:∃ x,V.getD (n+1) 0=x:=⟨_,rfl⟩
 obtain ⟨y0,hy0⟩:∃ x,V.getD n 0=x:=⟨_,rfl⟩
 rw [hx2,hx1,hx0] at eD
 rw [hy1,hy0] at eV
 rw [hx2] at d2 ⊢
 rw [hx1] at d1 ⊢
 rw [hx0] at d0 ⊢
 rw [hy1] at v1 ht ⊢
 rw [hy0] at v0 ⊢
 obtain ⟨u3,hu3⟩:∃ u3,(x2*LB+x1)*LB+x0=u3:=⟨_,rfl⟩
 obtain ⟨v2,hv2⟩:∃ v2,y1*LB+y0=v2:=⟨_,rfl⟩
 rw [hu3,hv2]
 have hB:LB=4294967296:=rfl
 have eu:x0+LB*(x1+LB*x2)=u3:=by rw [<- hu3,hB];omega
 have ev:y0+LB*y1=v2:=by rw [<- hv2,hB];omega
 rw [eu] at eD
 rw [ev] at eV
 have pi:=Zer (b:=LB) (by decide) i
 have pn:=Zer (b:=LB) (by decide) n
 have ein:pw LB (i+n)=pw LB i*pw LB n:=Zge _ _ _
 obtain ⟨Y,hY⟩:∃ Y,D / pw LB i=Y:=⟨_,rfl⟩
 obtain ⟨r,hr⟩:∃ r,D % pw LB i=r:=⟨_,rfl⟩
 have hdm:D=pw LB i*Y+r:=by rw [<- hY,<- hr];exact (Int.mul_ediv_add_emod D (pw LB i)).symm
 have hr0:0<=r:=by rw [<- hr];exact Int.emod_nonneg _ (by omega)
 have hr1:r < pw LB i:=by rw [<- hr];exact Int.emod_lt_of_pos _ pi
 have hYlo:u3*pw LB n<=Y:=by
  refine Int.not_lt.1 (fun hc=>?_)
  have h1:=Int.mul_le_mul_of_nonneg_left (show Y+1<=u3*pw LB n by omega) (Int.le_of_lt pi)
  rw [Int.mul_add,Int.mul_one,Int.mul_left_comm (pw LB i) u3,<- ein,Int.mul_comm u3] at h1
  omega
 have hYhi:Y < (u3+1)*pw LB n:=by
  refine Int.not_le.1 (fun hc=>?_)
  have h1:=Int.mul_le_mul_of_nonneg_left hc (Int.le_of_lt pi)
  rw [Int.mul_left_comm (pw LB i) (u3+1),<- ein,Int.add_mul,Int.one_mul,Int.mul_comm u3] at h1
  omega
 have hVlo:v2*pw LB n<=W:=by rw [eV,Int.mul_comm];omega
 have hVhi:W < (v2+1)*pw LB n:=by rw [eV,Int.add_mul,Int.mul_comm v2];omega
 have hYW:Y < LB*W:=by
  refine Int.not_le.1 (fun hc=>?_)
  have h1:=Int.mul_le_mul_of_nonneg_left hc (Int.le_of_lt pi)
  rw [Zd8,Int.mul_comm LB,Int.mul_assoc] at hlow
  omega
 have hx2y:x2<=y1:=by
  refine Int.not_lt.1 (fun hc=>?_)
  have h1:LB*(v2+1)<=u3:=by rw [<- hv2,<- hu3,hB];omega
  have h2:LB*W < LB*((v2+1)*pw LB n):=Int.mul_lt_mul_of_pos_left hVhi (by decide)
  have h3:=Int.mul_le_mul_of_nonneg_right h1 (Int.le_of_lt pn)
  rw [Int.mul_assoc] at h3
  omega
 refine ⟨hx2y,Y / W,?_⟩
 have hY0:0<=Y:=by
  have hu0:0<=u3:=by rw [<- hu3,hB];omega
  exact Int.le_trans (Int.mul_nonneg hu0 (Int.le_of_lt pn)) hYlo
 obtain ⟨q,hq⟩:∃ q,Y / W=q:=⟨_,rfl⟩
 rw [hq]
 have hq0:0<=q:=by rw [<- hq];exact Int.ediv_nonneg hY0 (Int.le_of_lt vp)
 have hq1:q < LB:=by rw [<- hq];exact Int.ediv_lt_of_lt_mul vp hYW
 have hqlo:q*W<=Y:=by rw [<- hq];exact Int.ediv_mul_le _ (by omega)
 have hqhi:Y < (q+1)*W:=by
  have := Int.lt_ediv_add_one_mul_self Y vp
  rwa [hq] at this
 have hv2pos:0 < v2:=by rw [<- hv2,hB];omega
 have hg0:0<=u3 / v2:=Int.ediv_nonneg (by rw [<- hu3,hB];omega) (Int.le_of_lt hv2pos)
 have hg1:u3 / v2*v2<=u3:=Int.ediv_mul_le _ (by omega)
 have l1:=Zoc pn hYhi hVlo hq0 hqlo
 have l2:q<=u3 / v2:=(Int.le_ediv_iff_mul_le hv2pos).2 l1
 have l3:=Zm1 pn hYlo hVhi (g:=u3 / v2) hg1 hqhi hq0 (by rw [<- hv2,hB];rw [hB] at hq1;omega)
 obtain ⟨g,hg⟩:∃ g,u3 / v2=g:=⟨_,rfl⟩
 rw [hg] at hg0 l2 l3 ⊢
 refine ⟨hq0,hq1,by omega,by rw [hB];omega,by rw [hB] at hq1;omega,by omega,?_,?_⟩
 ·rw [hD,hW]
  have := Int.mul_le_mul_of_nonneg_left hqlo (Int.le_of_lt pi)
  omega
 ·rw [hD,hW]
  have := Int.mul_le_mul_of_nonneg_left (show Y+1<=(q+1)*W by omega) (Int.le_of_lt pi)
  rw [Int.mul_add,Int.mul_one] at this
  omega
theorem Digit.off {U V:List Int} {m i:Nat} {ds ds':List Int} {g q b:Int} (h:Digit U V i ds g q) (ok:DivOk U V m) (hb:b=0\/b=1) (hd:Dg LB ds) (hd':Dg LB ds') (hlen:ds'.length=ds.length)
  (hv:val LB ds'=val LB ds - pw LB i*(g*val LB V)+pw LB (i+V.length+1)*b) (hsame:∀ j,i+V.length+1<=j->ds'.getD j 0=ds.getD j 0) (hlow:val LB ds < pw LB (i+1)*val LB V) :
  (b=0/\g=q/\val LB ds'=val LB ds - pw LB i*(q*val LB V))\/(b=1/\g=q+1/\val LB ds'=val LB ds - pw LB i*(g*val LB V)+pw LB (i+V.length+1)):=by
 obtain ⟨vp,vl⟩:=DivAt.vpos ok
 have hz:∀ j,i+V.length+1<=j->ds.getD j 0=0:=Zkw hd (by
  refine Int.lt_of_lt_of_le hlow ?_
  rw [show i+V.length+1=(i+1)+V.length by omega,Zge LB (i+1) V.length]
  exact Int.mul_le_mul_of_nonneg_left (Int.le_of_lt vl) (Int.le_of_lt (Zer (b:=LB) (by decide) _)))
 have hup:val LB ds' < pw LB (i+V.length+1):=by
  by_cases hc:i+V.length+1<=ds'.length
  ·rw [Zfj ds' (i+V.length+1) hc,Zf0 (fun j hj=>(hsame j hj).trans (hz j hj)),Int.mul_zero,Int.add_zero]
   have := Zdz (b:=LB) (by decide) (hd'.take (i+V.length+1))
   rwa [List.length_take,Nat.min_eq_left hc] at this
  ·exact Int.lt_of_lt_of_le (Zdz (by decide) hd') (Zo0 (by decide) (by omega))
 have h0:=Zbt (b:=LB) (by decide) hd'
 have hgq:g=q\/g=q+1:=by have := h.ge;have := h.le;omega
 rcases hgq with rfl|rfl
 ·left
  have := h.lo
  rcases hb with rfl|rfl
  ·exact ⟨rfl,rfl,by rw [hv];omega⟩
  ·exfalso;omega
 ·right
  have := h.hi
  rcases hb with rfl|rfl
  ·exfalso
   rw [Int.mul_zero] at hv;omega
  ·exact ⟨rfl,rfl,by rw [hv];omega⟩
theorem Digit.back {U V:List Int} {m i:Nat} {ds ds' ds2:List Int} {q o:Int} (h:Digit U V i ds (q+1) q) (ok:DivOk U V m) (ho:o=0\/o=1) (hd:Dg LB ds) (hd2:Dg LB ds2)
  (hv:val LB ds'=val LB ds - pw LB i*((q+1)*val LB V)+pw LB (i+V.length+1)) (hv2:val LB ds2=val LB ds'+pw LB i*val LB V - pw LB (i+V.length+1)*o)
  (hsame:∀ j,i+V.length+1<=j->ds'.getD j 0=ds.getD j 0) (hsame2:∀ j,i+V.length+1<=j->ds2.getD j 0=ds'.getD j 0) (hlow:val LB ds < pw LB (i+1)*val LB V) :
  val LB ds2=val LB ds - pw LB i*(q*val LB V):=by
 obtain ⟨vp,vl⟩:=DivAt.vpos ok
 have hz:∀ j,i+V.length+1<=j->ds.getD j 0=0:=Zkw hd (by
  refine Int.lt_of_lt_of_le hlow ?_
  rw [show i+V.length+1=(i+1)+V.length by omega,Zge LB (i+1) V.length]
  exact Int.mul_le_mul_of_nonneg_left (Int.le_of_lt vl) (Int.le_of_lt (Zer (b:=LB) (by decide) _)))
 have hup:val LB ds2 < pw LB (i+V.length+1):=by
  by_cases hc:i+V.length+1<=ds2.length
  ·rw [Zfj ds2 (i+V.length+1) hc,Zf0 (fun j hj=>(hsame2 j hj).trans ((hsame j hj).trans (hz j hj))),Int.mul_zero,Int.add_zero]
   have := Zdz (b:=LB) (by decide) (hd2.take (i+V.length+1))
   rwa [List.length_take,Nat.min_eq_left hc] at this
  ·exact Int.lt_of_lt_of_le (Zdz (by decide) hd2) (Zo0 (by decide) (by omega))
 have e:pw LB i*((q+1)*val LB V)=pw LB i*(q*val LB V)+pw LB i*val LB V:=by rw [Int.add_mul,Int.one_mul,Int.mul_add]
 rw [e] at hv
 have := h.lo
 rcases ho with rfl|rfl
 ·exfalso;omega
 ·omega
theorem DivAt.next {U V:List Int} {m i:Nat} {ds ds2 qs:List Int} {g q:Int} (h:DivAt U V m (i+1) ds qs) (ok:DivOk U V m) (hi:i < m) (hq:Digit U V i ds g q) (hlen:ds2.length=ds.length) (hd2:Dg LB ds2)
  (hv:val LB ds2=val LB ds - pw LB i*(q*val LB V)) (hset:val LB (qs.set i q)=val LB qs+pw LB i*(q - qs.getD i 0)) (hg:∀ j,i ≠ j->(qs.set i q).getD j 0=qs.getD j 0):DivAt U V m i ds2 (qs.set i q):=by
 refine ⟨hlen.trans h.len,hd2,by rw [List.length_set];exact h.qlen,fun y hy=>?_,fun j hj=>?_,?_,?_⟩
 ·rcases List.mem_or_eq_of_mem_set hy with hy|rfl
  ·exact h.qdg y hy
  ·exact ⟨hq.q0,hq.q1⟩
 ·rw [hg j (by omega)];exact h.qlo j (by omega)
 ·rw [h.law,hset,h.qlo i (by omega),hv,Int.sub_zero,Int.add_mul,Int.mul_assoc];omega
 ·rw [hv]
  have := hq.hi
  rw [Int.add_mul,Int.one_mul,Int.mul_add] at this
  omega
theorem DivAt.done {U V:List Int} {m:Nat} {ds qs:List Int} (h:DivAt U V m 0 ds qs) (ok:DivOk U V m) {a b P:Nat} (hP:0 < P) (hU:val LB U=((a*P:Nat):Int)) (hV:val LB V=((b*P:Nat):Int)) (hb:0 < b) :
  val LB qs=((a / b:Nat):Int)/\val LB ds=((a % b*P:Nat):Int):=by
 have hl:=h.low
 have hlaw:=h.law
 have d0:=Zbt (b:=LB) (by decide) h.dg
 have q0:=Zbt (b:=LB) (by decide) h.qdg
 obtain ⟨d,hd⟩:∃ d:Nat,val LB ds=d:=⟨(val LB ds).toNat,by omega⟩
 obtain ⟨q,hq⟩:∃ q:Nat,val LB qs=q:=⟨(val LB qs).toNat,by omega⟩
 rw [hd,hV] at hl
 rw [hU,hd,hq,hV] at hlaw
 simp only [pw,Int.one_mul] at hl
 have hl':d < b*P:=Int.ofNat_lt.1 hl
 have hn:a*P=d+q*(b*P):=by
  have:((a*P:Nat):Int)=((d+q*(b*P):Nat):Int):=by rw [hlaw,Int.natCast_add,Int.natCast_mul q]
  exact Int.ofNat.inj this
 have hdv:P ∣ d:=by
  have h1:P ∣ q*(b*P):=Nat.dvd_mul_left_of_dvd (Nat.dvd_mul_left P b) q
  have h2:P ∣ d+q*(b*P):=by rw [<- hn];exact Nat.dvd_mul_left P a
  exact (Nat.dvd_add_iff_left h1).2 h2
 obtain ⟨r,hr⟩:=hdv
 have ha:a=r+q*b:=by
  have:a*P=(r+q*b)*P:=by rw [hn,hr,Nat.add_mul,Nat.mul_comm P r,Nat.mul_assoc]
  exact Nat.eq_of_mul_eq_mul_right hP this
 have hrb:r < b:=by
  rw [hr,Nat.mul_comm P r] at hl'
  exact Nat.lt_of_mul_lt_mul_right hl'
 have e1:a / b=q:=by rw [ha,Nat.add_mul_div_right _ _ hb,Nat.div_eq_of_lt hrb,Nat.zero_add]
 have e2:a % b=r:=by rw [ha,Nat.add_mul_mod_self_right,Nat.mod_eq_of_lt hrb]
 rw [hq,hd,e1,e2,hr,Nat.mul_comm r]
 exact ⟨rfl,rfl⟩
end YtjbjkmccfocikaaGreatDoor.P.Nm
end
section
namespace YtjbjkmccfocikaaGreatDoor.P.Nm
open Go.Lib
theorem Zjr:∀ (f x:Nat),x<=f->x ≠ 0->x < 2 ^ 64->1<=Lib.bitLen x/\2 ^ (Lib.bitLen x - 1)<=x/\x < 2 ^ Lib.bitLen x
 | 0,x,hf,h0,h=>by omega
 | f+1,x,hf,h0,h=>by
  rw [Lib.bitLen_half x h0 h]
  by_cases h1:x / 2=0
  ·rw [h1]
   have e:Lib.bitLen 0=0:=by decide
   rw [e]
   have:x=1:=by omega
   subst this
   decide
  ·obtain ⟨a1,a2,a3⟩:=Zjr f (x / 2) (by omega) h1 (by omega)
   obtain ⟨m,hm⟩:∃ m,Lib.bitLen (x / 2)=m+1:=⟨Lib.bitLen (x / 2) - 1,by omega⟩
   rw [hm] at a2 a3 ⊢
   refine ⟨by omega,?_,?_⟩
   ·rw [show 1+(m+1) - 1=m+1 by omega,Nat.pow_succ]
    rw [show m+1 - 1=m by omega] at a2
    omega
   ·rw [show 1+(m+1)=m+1+1 by omega,Nat.pow_succ];omega
theorem Zl9 {x s:Nat} (h0:x ≠ 0) (h:x < 4294967296) (hs:(s:Int)=32 - (Lib.bitLen x:Int)):s < 32/\2147483648<=x*2 ^ s/\(x+1)*2 ^ s<=4294967296:=by
 obtain ⟨b1,b2,b3⟩:=Zjr x x (Nat.le_refl _) h0 (by omega)
 have b4:=Lib.bitLen_le x 32 (by omega) (by simpa using h)
 obtain ⟨m,hm⟩:∃ m,Lib.bitLen x=m+1:=⟨Lib.bitLen x - 1,by omega⟩
 rw [hm] at b2 b3 hs b4
 rw [show m+1 - 1=m by omega] at b2
 have hsm:m+s=31:=by omega
 refine ⟨by omega,?_,?_⟩
 ·have h1:=Nat.mul_le_mul_right (2 ^ s) b2
  rw [<- Nat.pow_add,hsm] at h1
  exact Nat.le_trans (by decide) h1
 ·have h1:=Nat.mul_le_mul_right (2 ^ s) (show x+1<=2 ^ (m+1) by omega)
  rw [<- Nat.pow_add,show m+1+s=32 by omega] at h1
  exact Nat.le_trans h1 (by decide)
theorem numB {l:List Int} (h:Dg LB l):val LB l=((num l:Nat):Int):=(Zdj h).symm
theorem Zqt {b:List Int} (hb:OkW b) (hne:b ≠ []):4294967296 ^ (b.length - 1)<=num b:=by
 have h:=Zma (b:=LB) (by decide) hb.dg hb.nz hne
 rw [pwB,numB hb.dg] at h
 exact Int.ofNat_le.1 h
theorem Zrr {a b:List Int} (ha:OkW a) (hb:OkW b) (h2:2<=b.length) (hle:num b<=num a) (hab:b.length<=a.length) {U:List Int} {s x:Nat} (hx:b.getD (b.length - 1) 0=(x:Int)) (hx0:x ≠ 0) (hx1:x < 4294967296) (hs:(s:Int)=32 - (Lib.bitLen x:Int)) (hU:U.length=a.length+1) (hUd:Dg LB U) (hUv:val LB U=val LB a*((2 ^ s:Nat):Int)) :
  DivOk U (limbs (num b*2 ^ s)) (a.length+1 - b.length)/\(limbs (num b*2 ^ s)).length=b.length:=by
 obtain ⟨s1,s2,s3⟩:=Zl9 hx0 hx1 hs
 obtain ⟨P,hP⟩:∃ P,2 ^ s=P:=⟨_,rfl⟩
 rw [hP] at s2 s3 hUv ⊢
 have hP0:0 < P:=by rw [<- hP];exact Nat.pow_pos (by omega)
 obtain ⟨n,hn⟩:∃ n,b.length=n+1:=⟨b.length - 1,by omega⟩
 have hbv:=Zfj (b:=LB) b n (by omega)
 rw [drop_one (by omega),Zb3,List.drop_of_length_le (by omega),Zfa,Int.mul_zero,Int.add_zero,show n=b.length - 1 by omega,hx,<- show n=b.length - 1 by omega,numB hb.dg,pwB] at hbv
 have t0:=Zbt (b:=LB) (by decide) (hb.dg.take n)
 have t1:=Zdz (b:=LB) (by decide) (hb.dg.take n)
 rw [List.length_take,Nat.min_eq_left (by omega),pwB] at t1
 obtain ⟨r,hr⟩:∃ r:Nat,val LB (b.take n)=r:=⟨(val LB (b.take n)).toNat,by omega⟩
 rw [hr] at hbv t1
 obtain ⟨Q,hQ⟩:∃ Q,4294967296 ^ n=Q:=⟨_,rfl⟩
 rw [hQ] at hbv t1
 have hnb:num b=r+Q*x:=by
  have:((num b:Nat):Int)=((r+Q*x:Nat):Int):=by rw [hbv,Int.natCast_add,Int.natCast_mul]
  exact Int.ofNat.inj this
 have hrQ:r < Q:=Int.ofNat_lt.1 t1
 have hQ0:0 < Q:=by rw [<- hQ];exact Nat.pow_pos (by omega)
 have hup:num b*P < Q*4294967296:=by
  have h1:num b+1<=Q*(x+1):=by rw [hnb,Nat.mul_add];omega
  have h2:=Nat.mul_le_mul_right P h1
  rw [Nat.mul_assoc] at h2
  have h3:=Nat.mul_le_mul_left Q s3
  have h4:=Nat.mul_lt_mul_of_pos_right (show num b < num b+1 by omega) hP0
  omega
 have hlo:Q*2147483648<=num b*P:=by
  have h1:=Nat.mul_le_mul_left Q s2
  have h2:Q*(x*P)<=num b*P:=by rw [hnb,Nat.add_mul,Nat.mul_assoc];omega
  omega
 have hlen:(limbs (num b*P)).length=b.length:=by
  rw [hn]
  refine Zor (b:=4294967296) (by omega) (k:=n) ?_ ?_
  ·rw [hQ];exact Nat.le_trans (Nat.le_mul_of_pos_right Q (by omega)) hlo
  ·rw [Nat.pow_succ,hQ];exact hup
 have hVv:val LB (limbs (num b*P))=((num b*P:Nat):Int):=Zga _
 refine ⟨⟨hUd,Zc7 _,by rw [hU,hlen];omega,by rw [hlen];exact h2,?_,?_⟩,hlen⟩
 ·-- the highest place
  have hcut:=Zfj (b:=LB) (limbs (num b*P)) n (by omega)
  rw [drop_one (by omega),Zb3,List.drop_of_length_le (by omega),Zfa,Int.mul_zero,Int.add_zero,hVv,pwB,hQ] at hcut
  have u1:=Zdz (b:=LB) (by decide) ((Zc7 (num b*P)).take n)
  rw [List.length_take,Nat.min_eq_left (by omega),pwB,hQ] at u1
  rw [hlen,hn,show n+1 - 1=n by omega]
  obtain ⟨t,ht⟩:∃ t,(limbs (num b*P)).getD n 0=t:=⟨_,rfl⟩
  rw [ht] at hcut ⊢
  refine Int.not_lt.1 (fun hc=>?_)
  have h3:=Int.mul_le_mul_of_nonneg_left (show t<=2147483647 by omega) (show (0:Int)<=(Q:Int) by omega)
  have h4:((Q*2147483648:Nat):Int)<=((num b*P:Nat):Int):=Int.ofNat_le.2 hlo
  rw [Int.natCast_mul] at h4
  omega
 ·rw [hUv,hVv,pwB,numB ha.dg]
  have h1:num a < 4294967296 ^ a.length:=Zoo ha.dg
  have h2:Q*P<=num b*P:=by
   have := Zqt hb (by intro e;rw [e] at h2;simp at h2)
   rw [hn,show n+1 - 1=n by omega,hQ] at this
   exact Nat.mul_le_mul_right P this
  have h3:4294967296 ^ (a.length+1 - b.length)*(Q*P)=4294967296 ^ a.length*P:=by
   rw [<- Nat.mul_assoc,<- hQ,<- Nat.pow_add]
   congr 2;omega
  have h4:=Nat.mul_le_mul_left (4294967296 ^ (a.length+1 - b.length)) h2
  have h5:=Nat.mul_lt_mul_of_pos_right h1 hP0
  have:num a*P < 4294967296 ^ (a.length+1 - b.length)*(num b*P):=by omega
  have h6:=Int.ofNat_lt.2 this
  rw [Int.natCast_mul,Int.natCast_mul] at h6
  exact h6
end YtjbjkmccfocikaaGreatDoor.P.Nm
end
section
namespace YtjbjkmccfocikaaGreatDoor.B
open Go.RowKit YtjbjkmccfocikaaGreatDoorW.PrintWords YtjbjkmccfocikaaGreatDoor.P.Nm
attribute [local go_sem] Oper.semAt_some
theorem Zpt (A0:Option Addr) (c0:Nat) (l0:List Int) (A1:Option Addr) (c1:Nat) (l1:List Int) (w:World) (hr0:Kd.C (Kd.int .u32) w A0 l0.length l0) (hc0:l0.length<=c0) (hr1:Kd.C (Kd.int .u32) w A1 l1.length l1) (hc1:l1.length<=c1)
  (h0:OkW l0) (h1:OkW l1) (hlt:num l0 < num l1) :
  Calls Tryz.prog 127 #[.slice A0 l0.length c0,.slice A1 l1.length c1] w fun e w' => ∃ v0_ v1_:Value,e=.returned (.tuple #[v0_,v1_])/\Kd.R (Kd.int .u32) 85 w' w.heap.size (fun k_=>some k_ ≠ (v1_:Value).ownBlock) v0_ []/\Kd.R (Kd.int .u32) 85 w' w.heap.size (fun k_=>some k_ ≠ (v0_:Value).ownBlock) v1_ l0/\Below w.heap.size w w':=by
 have cC:=Zax.calls A0 c0 l0 A1 c1 l1 (-1) w hr0 hc0 hr1 hc1 (by
  unfold Zax.f
  rw [Zee.2 h0,Zee.2 h1,Bool.and_self,if_pos rfl]
  unfold cmpI;rw [if_pos (by omega)])
 have hl0:=h0.len
 have HR:=Aside0.mk hr0
 have HC:=Aside0.mk hc0
 refine (callsIn_wide (n:=4)).1 ?_
 refine callsIn_of_wp_marks Tryz.func127 rfl trivial ?_ rfl
 simp only [Tryz.ntmps127,List.size_toArray,List.length_cons,List.length_nil,Nat.reduceAdd,Nat.reduceSub,Array.replicate_succ,Array.replicate_zero,List.push_toArray,List.append_toArray,List.nil_append,List.cons_append]
 clear hr0 hc0 hr1 hc1 hlt h0 h1
 have cl:=fun (W:World) (hB:Below w.heap.size w W)=>Zdo.calls A0 c0 l0 l0 W (Kd.Zn HR.out hB) HC.out (by unfold Zdo.f;rw [if_pos (by omega)])
 have CL:=Aside0.mk cl
 clear cl
 gi_wp2_with (first|(refine ⟨trivial,?_⟩;gi_at_call 138;refine (callsIn_wide.2 cC).mono ?_;rintro e w1 ⟨rfl,hb1⟩)|(refine ⟨trivial,?_⟩;gi_at_call 155;refine (callsIn_wide.2 (CL.out _ hb1)).mono ?_;rintro e w2 ⟨v1,rfl,hR,hb2⟩))
 refine ⟨_,by simp [results,Tryz.f127,go_sem],.slice none 0 0,v1,rfl,Kd.Zjk _ _ _ _ _,?_,hb1.trans (hb2.mono hb1.size)⟩
 exact Kd.Zh (Kd.Zo hR hb1.size) (fun k hk=>by simp [Value.ownBlock])
theorem Zrm (w:World) (r:Nat):Kd.R (Kd.int .u32) 85 (w.alloc (.cells #[.int .u32 (r:Int)] 85)) w.heap.size (fun k=>k=w.heap.size) (.slice (some ⟨w.heap.size,0,none⟩) 1 1) [(r:Int)] :=
 Kd.Zdl (enc:=Value.int .u32) (World.ownsRow_lit (base:=w.heap.size) (e:=85) (size:=1) w #[.int .u32 (r:Int)] 1 (Nat.le_refl _) (by decide) rfl) (fun k hk=>by simp [Value.ownBlock] at hk;exact hk.symm)
theorem Ze0 {W:World} {b base n:Nat} {e:TypeId} {size:Nat} {v:Value} {xs:List Value} (h:W.ownsRow b e size v n xs) (hle:base<=b):W.ownsRow base e size v n xs:=by
 obtain ⟨h1,h2⟩:=h
 refine ⟨h1,?_⟩
 rcases h2 with h2|⟨g,cap,cur,h3,h4,h5⟩
 ·exact .inl h2
 ·exact .inr ⟨g,cap,cur,h3,Nat.le_trans hle h4,h5⟩
theorem Zho {W W':World} {base base' n:Nat} {e:TypeId} {size:Nat} {v v':Value} {xs:List Value} {l:List Int} {e':TypeId} {ok:Nat->Prop} (h:W.ownsRow base e size v n xs) (h':Kd.R (Kd.int .u32) e' W' base' ok v' l) (hok:∀ k,ok k->W.heap.size<=k) {k:Nat} (hk:v.ownBlock=some k) (hk':v'.ownBlock=some k):False:=by
 obtain ⟨cells,hc⟩:=Ze2 h k hk
 have h1:=(Array.getElem?_eq_some_iff.1 hc).1
 have h2:=hok k (h'.1 k hk')
 omega
theorem Zs8 {b:Int} {l:List Int} (h:Dg b l) {i:Nat} (hi:i < l.length):0<=l.getD i 0/\l.getD i 0 < b:=by
 rw [List.getD,List.getElem?_eq_getElem hi];exact h _ (List.getElem_mem hi)
theorem size1 {l:List Int} (h:l.length=1):l=[l.getD 0 0]:=by
 obtain ⟨x,rfl⟩:=List.length_eq_one_iff.1 h
 rfl
theorem div_one (A0:Option Addr) (c0:Nat) (l0:List Int) (A1:Option Addr) (c1:Nat) (l1:List Int) (w:World) (hr0:Kd.C (Kd.int .u32) w A0 l0.length l0) (hc0:l0.length<=c0) (hr1:Kd.C (Kd.int .u32) w A1 l1.length l1) (hc1:l1.length<=c1)
  (h0:OkW l0) (h1:OkW l1) (hge:¬ num l0 < num l1) (hone:l1.length=1) :
  Calls Tryz.prog 127 #[.slice A0 l0.length c0,.slice A1 l1.length c1] w fun e w' => ∃ v0_ v1_:Value,e=.returned (.tuple #[v0_,v1_])/\Kd.R (Kd.int .u32) 85 w' w.heap.size (fun k_=>some k_ ≠ (v1_:Value).ownBlock) v0_ (limbs (num l0 / num l1))/\Kd.R (Kd.int .u32) 85 w' w.heap.size (fun k_=>some k_ ≠ (v0_:Value).ownBlock) v1_ (limbs (num l0 % num l1))/\Below w.heap.size w w':=by
 obtain ⟨ad,y,hA,hy,hcy⟩:∃ (ad:Addr) (y:Nat),A1=some ad/\l1=[(y:Int)]/\w.cell? (ad.add 0)=some (.int .u32 (y:Int)):=by
  obtain ⟨ad,c,hA,_,hK,hcc⟩:=Kd.Znb hr1 (0:Int) (0:Int) (by omega) (by omega)
  have e1:=size1 hone
  obtain ⟨y,hy⟩:∃ y:Nat,l1.getD 0 0=(y:Int):=⟨(l1.getD 0 0).toNat,by
   have := h1.dg (l1.getD 0 0) (by rw [e1];simp)
   omega⟩
  refine ⟨ad,y,hA,by rw [<- hy];exact e1,?_⟩
  obtain rfl:c=[.int .u32 (l1.getD (0:Int).toNat 0)]:=hK
  have := hcc 0 _ rfl
  rw [show (0:Int).toNat=0 from rfl,hy] at this
  exact this
 subst hA hy
 obtain ⟨b_,o_,rfl⟩:=Ziz (show w.cell? ad=_ from hcy)
 have hcy0:w.cell? ⟨b_,o_,none⟩=some (.int .u32 (y:Int)):=hcy
 have hny:num [(y:Int)]=y:=by unfold num;simp [val]
 have hy1:(y:Int) < 4294967296:=(h1.dg (y:Int) (by simp)).2
 have hy0:0 < y:=by
  have := h1.nz
  rcases Nat.eq_zero_or_pos y with e|e
  ·subst e;exact absurd rfl this
  ·exact e
 rw [hny] at hge ⊢
 have cC:=fun (W:World) (hB:Below w.heap.size w W)=>Zax.calls A0 c0 l0 (some ⟨b_,o_,none⟩) c1 [(y:Int)] (cmpI (num l0) y) W (Kd.Zn hr0 hB) hc0 (Kd.Zn hr1 hB) hc1 (by
  unfold Zax.f
  rw [Zee.2 h0,Zee.2 h1,Bool.and_self,if_pos rfl,hny])
 have hcm:decide (cmpI (num l0) y < 0)=false:=decide_eq_false (by unfold cmpI;rw [if_neg (by omega)];split <;> omega)
 obtain ⟨cm,hcme⟩:∃ cm,cmpI (num l0) y=cm:=⟨_,rfl⟩
 rw [hcme] at cC hcm
 have cS:=fun (W:World) (hB:Below w.heap.size w W)=>Zct.calls A0 c0 l0 (y:Int) _ _ W (Kd.Zn hr0 hB) hc0 (by
  unfold Zct.f
  rw [Zee.2 h0,decide_eq_true (show (0:Int) < (y:Int) by omega),decide_eq_true hy1,Bool.and_self,if_pos (by rfl),Int.toNat_natCast])
 have hrem:num l0 % y < 4294967296:=Nat.lt_of_lt_of_le (Nat.mod_lt _ hy0) (by omega)
 obtain ⟨QL,hQL⟩:∃ QL,limbs (num l0 / y)=QL:=⟨_,rfl⟩
 obtain ⟨r,hr⟩:∃ r,num l0 % y=r:=⟨_,rfl⟩
 rw [hQL,hr] at cS ⊢
 rw [hr] at hrem
 obtain ⟨kT,hkT⟩:=(P.Zdt (l:=[(r:Int)]) (n:=r) (Dg.one (by omega) (by omega)) (by rw [val_one]) (by simp)).ex
 have CC:=Aside0.mk cC
 have CS:=Aside0.mk cS
 have HKT:=Aside0.mk hkT
 have H1:=Aside0.mk hc1
 have hlen1:([(y:Int)]:List Int).length=1:=rfl
 rw [hlen1]
 refine (callsIn_wide (n:=4)).1 ?_
 refine callsIn_of_wp_marks Tryz.func127 rfl trivial ?_ rfl
 simp only [Tryz.ntmps127,List.size_toArray,List.length_cons,List.length_nil,Nat.reduceAdd,Nat.reduceSub,Array.replicate_succ,Array.replicate_zero,List.push_toArray,List.append_toArray,List.nil_append,List.cons_append]
 clear hr0 hc0 hr1 hc1 hge h0 h1 hone hcy hny hy0 hcme cC cS hQL hr hkT hlen1 hrem
 gi_wp2_with (first|(refine ⟨trivial,?_⟩;gi_at_call 138;refine (callsIn_wide.2 (CC.out _ (Below.refl _ _))).mono ?_;rintro e w1 ⟨rfl,hb1⟩;have hcy1:=Zc8 hb1 hcy0)|(refine ⟨trivial,?_⟩;gi_at_call 143;refine (callsIn_wide.2 (CS.out _ hb1)).mono ?_;rintro e w2 ⟨v0,rfl,hR,hb2⟩)|(refine ⟨trivial,?_⟩;gi_at_call 132;refine (callsIn_wide.2 (Zv.calls kT (fun k=>k=w2.heap.size) _ [(r:Int)] (limbs r) w2 _ ((Below.refl _ _).alloc (Nat.le_refl _) _) (Zrm w2 r) HKT.out)).mono ?_;rintro e w3 ⟨v1,rfl,hR1,hb3,hkp⟩))
 refine ⟨_,by simp [results,Tryz.f127,go_sem],v0,v1,rfl,?_,?_,hb1.trans ((hb2.mono hb1.size).trans (hb3.mono (Nat.le_trans hb1.size hb2.size)))⟩
 ·exact Kd.Zdl (enc:=Value.int .u32) (Ze0 (Kd.Zdx (enc:=Value.int .u32) (Kd.Za hR hb3)) hb1.size) (fun k hk he=>Zho (Kd.Zdx (enc:=Value.int .u32) hR) hR1 (fun k h=>by
   rcases h with h|h
   ·omega
   ·simp at h;omega) hk he.symm)
 ·exact Kd.Zdl (enc:=Value.int .u32) (Ze0 (Kd.Zdx (enc:=Value.int .u32) hR1) (Nat.le_trans hb1.size hb2.size)) (fun k hk he=>Zho (Kd.Zdx (enc:=Value.int .u32) hR) hR1 (fun k h=>by
   rcases h with h|h
   ·omega
   ·simp at h;omega) he.symm hk)
theorem Zmh {W:World} {base n:Nat} {e:TypeId} {ok:Nat->Prop} {v:Value} {l:List Int} (h:Kd.R (Kd.int .u32) e W base ok v l) (hl:l.length=n) (hp:0 < n):∃ g cap,v=.slice (some ⟨g,0,none⟩) n cap/\base<=g/\g < W.heap.size/\n<=cap/\W.ownsRow base e 1 (.slice (some ⟨g,0,none⟩) n cap) n (nums .u32 l):=by
 have ho:=Kd.Zdx (enc:=Value.int .u32) h
 subst hl
 have ho':=ho
 obtain ⟨_,h2⟩:=ho'
 rcases h2 with ⟨_,h0⟩|⟨g,cap,cur,rfl,hg,hh,hle,_⟩
 ·omega
 ·exact ⟨g,cap,rfl,hg,(Array.getElem?_eq_some_iff.1 hh).1,hle,ho⟩
theorem Zeh {W W':World} {base n g m c:Nat} {e:TypeId} {size:Nat} {xs:List Value} (h:W.ownsRow base e size (.slice (some ⟨g,0,none⟩) m c) n xs) (hk:W'.heap[g]? = W.heap[g]?):W'.ownsRow base e size (.slice (some ⟨g,0,none⟩) m c) n xs:=by
 obtain ⟨h1,h2⟩:=h
 refine ⟨h1,?_⟩
 rcases h2 with h2|⟨g',cap,cur,he,hg,hh,r⟩
 ·exact .inl h2
 ·obtain ⟨rfl,rfl,rfl⟩:g=g'/\m=n/\c=cap:=by simpa using he
  exact .inr ⟨_,_,cur,rfl,hg,hk.trans hh,r⟩
structure DvB (w:World) (K gu cu gv cv p m:Nat) (V:List Int) (sv:Value) (ds qs:List Int) (W:World):Prop where
 u:Boxed W K 134 (.slice (some ⟨gu,0,none⟩) (p+m+1) cu)
 v:Boxed W (K+1) 134 (.slice (some ⟨gv,0,none⟩) (p+1) cv)
 n:Boxed W (K+1+1) 3 (.int .i64 ((p:Int)+1))
 q:Boxed W (K+1+1+1+1) 134 (.slice (some ⟨K+1+1+1,0,none⟩) m m)
 s:Boxed W (K+1+1+1+1+1) 134 sv
 urow:W.ownsRow w.heap.size 85 1 (.slice (some ⟨gu,0,none⟩) (p+m+1) cu) (p+m+1) (nums .u32 ds)
 vrow:W.ownsRow w.heap.size 85 1 (.slice (some ⟨gv,0,none⟩) (p+1) cv) (p+1) (nums .u32 V)
 qrow:W.ownsRow w.heap.size 85 1 (.slice (some ⟨K+1+1+1,0,none⟩) m m) m (nums .u32 qs)
 low:Below w.heap.size w W
 lu:w.heap.size<=gu
 uv:gu < gv
 vK:gv < K
section
variable {w W W':World} {K gu cu gv cv p m:Nat} {V ds qs ds' qs':List Int} {sv:Value}
theorem DvB.drewN (h:DvB w K gu cu gv cv p m V sv ds qs W) (n:Nat):DvB w K gu cu gv cv p m V sv ds qs (W.drewN n) :=
 ⟨h.u,h.v,h.n,h.q,h.s,h.urow,h.vrow,h.qrow,Za6 h.low n,h.lu,h.uv,h.vK⟩
theorem DvB.ofU (h:DvB w K gu cu gv cv p m V sv ds qs W) (hk:Kept W W' (fun k=>k=gu)) (hb:Below gu W W') (hrow:W'.ownsRow w.heap.size 85 1 (.slice (some ⟨gu,0,none⟩) (p+m+1) cu) (p+m+1) (nums .u32 ds')):DvB w K gu cu gv cv p m V sv ds' qs W':=by
 have h1:=h.uv
 have h2:=h.vK
 have h3:=h.s.lt
 exact ⟨(hk.2 _ h.u.lt (by omega)).trans h.u,(hk.2 _ h.v.lt (by omega)).trans h.v,(hk.2 _ h.n.lt (by omega)).trans h.n,(hk.2 _ h.q.lt (by omega)).trans h.q,(hk.2 _ h.s.lt (by omega)).trans h.s,hrow,Zeh h.vrow (hk.2 _ (by omega) (by omega)),Zeh h.qrow (hk.2 _ (by omega) (by omega)),h.low.trans (hb.mono h.lu),h.lu,h.uv,h.vK⟩
theorem DvB.store (h:DvB w K gu cu gv cv p m V sv ds qs W) (i:Nat) (x:Int):DvB w K gu cu gv cv p m V sv ds (qs.set i x) (W.setCell ⟨K+1+1+1,i,none⟩ (.int .u32 x)):=by
 have h1:=h.uv
 have h2:=h.vK
 have h3:=h.lu
 have hs:=(Ze1 h.qrow (i:Int) x).1
 rw [Int.toNat_natCast] at hs
 have hk:∀ k,k ≠ K+1+1+1->(W.setCell ⟨K+1+1+1,i,none⟩ (.int .u32 x)).heap[k]? = W.heap[k]?:=fun k hk=>Below.heap_setCell W ⟨K+1+1+1,i,none⟩ _ k hk
 exact ⟨(hk _ (by omega)).trans h.u,(hk _ (by omega)).trans h.v,(hk _ (by omega)).trans h.n,(hk _ (by omega)).trans h.q,(hk _ (by omega)).trans h.s,Zeh h.urow (hk _ (by omega)),Zeh h.vrow (hk _ (by omega)),hs,h.low.setCell (p:=⟨K+1+1+1,i,none⟩) (by simp;omega) _,h.lu,h.uv,h.vK⟩
theorem DvB.grown {row:Option Nat} {n:Nat} (hn:w.heap.size<=n) (h:DvB w K gu cu gv cv p m V sv ds qs W) (hg:W.grownBy W' row) (hr:∀ r,row=some r->n<=r /\ ∃ o:Obj,W.heap[r]? = some o/\o.isCells=false):DvB w K gu cu gv cv p m V sv ds qs W' :=
 ⟨h.u.kept hg (not_row hr h.u),h.v.kept hg (not_row hr h.v),h.n.kept hg (not_row hr h.n),h.q.kept hg (not_row hr h.q),h.s.kept hg (not_row hr h.s),Zfs h.urow hg hr,Zfs h.vrow hg hr,Zfs h.qrow hg hr,
  (ownFrom_below (Nat.le_refl _) hn:OwnFrom _ (fun _:List (Nat × Int)=>Below w.heap.size w)) [] W W' row h.low hg hr,h.lu,h.uv,h.vK⟩
theorem DvB.setS (h:DvB w K gu cu gv cv p m V sv ds qs W) (u:Value):DvB w K gu cu gv cv p m V u ds qs (W.setCell ⟨K+1+1+1+1+1,0,none⟩ u):=by
 have h1:=h.uv
 have h2:=h.vK
 have h3:=h.lu
 exact ⟨(Zbn W _ u _ (by omega)).trans h.u,(Zbn W _ u _ (by omega)).trans h.v,(Zbn W _ u _ (by omega)).trans h.n,(Zbn W _ u _ (by omega)).trans h.q,h.s.set u,Zeh h.urow (Zbn W _ u _ (by omega)),Zeh h.vrow (Zbn W _ u _ (by omega)),Zeh h.qrow (Zbn W _ u _ (by omega)),h.low.setCell (p:=⟨K+1+1+1+1+1,0,none⟩) (by simp;omega) u,h.lu,h.uv,h.vK⟩
theorem DvB.rdw (h:DvB w K gu cu gv cv p m V sv ds qs W):RdW (some ⟨K+1+1+1,0,none⟩) m (fun _ _=>True) W:=.inr ⟨_,0,rfl,fun j hj=>⟨rd qs j,by
 have := (Zfh h.qrow (j:Int) (by omega) (by omega)).1
 rw [Int.toNat_natCast] at this
 rw [Nat.zero_add];exact this,trivial⟩⟩
theorem DvB.kp (h:DvB w K gu cu gv cv p m V sv ds qs W) (h':DvB w K gu cu gv cv p m V sv ds' qs' W'):KpB (K+1+1+1+1+1) (some ⟨K+1+1+1,0,none⟩) m (fun _ _=>True) W W' :=
 ⟨(show W'.heap[K+1+1+1+1+1]? = _ from h'.s).trans (show W.heap[K+1+1+1+1+1]? = _ from h.s).symm,fun _=>h'.rdw⟩
theorem Zik {base n g c k:Nat} {e:TypeId} {size:Nat} {xs:List Value} (h:W.ownsRow base e size (.slice (some ⟨g,0,none⟩) k c) n xs) (hk:Kept W W' (fun k=>k=g)):KeepsOthers W W' :=
 ⟨hk.1,fun j o ho hc=>by
  by_cases e:j=g
  ·subst e
   obtain ⟨cells,hcell⟩:=Ze2 h j rfl
   rw [hcell] at ho
   obtain rfl:=Option.some.inj ho
   cases hc
  ·exact (hk.2 j (Array.getElem?_eq_some_iff.1 ho).1 e).trans ho⟩
end
def DvI (w:World) (K gu cu gv cv p m:Nat) (U V:List Int) (pre:List (Nat × Int)) (W:World):Prop:=∃ sv ds qs,DivAt U V m (m - pre.length) ds qs/\DvB w K gu cu gv cv p m V sv ds qs W
theorem DvI.own {w:World} {K gu cu gv cv p m:Nat} {U V:List Int} {n:Nat} (hn:w.heap.size<=n):OwnFrom n (DvI w K gu cu gv cv p m U V):=by
 rintro pre A W row ⟨sv,ds,qs,h1,h⟩ hg hr
 exact ⟨sv,ds,qs,h1,h.grown hn hg hr⟩
theorem DvI.minds {w:World} {K gu cu gv cv p m:Nat} {U V:List Int}:Minds (K+1+1+1+1+1) (DvI w K gu cu gv cv p m U V):=by
 rintro pre W u ⟨sv,ds,qs,h1,h⟩
 exact ⟨u,ds,qs,h1,h.setS u⟩
theorem Zsq {W:World} {base g n c:Nat} {e:TypeId} {xs:List Int} (h:W.ownsRow base e 1 (.slice (some ⟨g,0,none⟩) n c) n (nums .u32 xs)):Kd.C (Kd.int .u32) W (some ⟨g,0,none⟩) n xs:=by
 have hl:xs.length=n:=by have := h.1;simpa [nums] using this
 subst hl
 have hR:Kd.R (Kd.int .u32) e W base (fun _=>True) (.slice (some ⟨g,0,none⟩) xs.length c) xs:=Kd.Zdl (enc:=Value.int .u32) h (fun _ _=>trivial)
 obtain ⟨A,c',he,_,hC⟩:=Kd.Zhk hR
 simp only [Value.slice.injEq] at he
 rw [he.1]
 exact hC
theorem DvB.start {w w4:World} {gu cu gv cv p m:Nat} {U V:List Int} (hU:w4.ownsRow w.heap.size 85 1 (.slice (some ⟨gu,0,none⟩) (p+m+1) cu) (p+m+1) (nums .u32 U)) (hV:w4.ownsRow w.heap.size 85 1 (.slice (some ⟨gv,0,none⟩) (p+1) cv) (p+1) (nums .u32 V))
  (hlow:Below w.heap.size w w4) (lu:w.heap.size<=gu) (uv:gu < gv) (vK:gv < w4.heap.size) (hm:m<=1000000) :
  DvB w w4.heap.size gu cu gv cv p m V (.slice (some ⟨w4.heap.size+1+1+1,0,none⟩) m m) U (List.replicate m 0)
   ((((((w4.alloc (.cells #[.slice (some ⟨gu,0,none⟩) (p+m+1) cu] 134)).alloc (.cells #[.slice (some ⟨gv,0,none⟩) (p+1) cv] 134)).alloc (.cells #[.int .i64 ((p:Int)+1)] 3)).alloc (.cells (madeCells #[.int .u32 0] m) 85)).alloc (.cells #[.slice (some ⟨w4.heap.size+1+1+1,0,none⟩) m m] 134)).alloc (.cells #[.slice (some ⟨w4.heap.size+1+1+1,0,none⟩) m m] 134)):=by
 obtain ⟨X1,hX1⟩:∃ X,w4.alloc (.cells #[.slice (some ⟨gu,0,none⟩) (p+m+1) cu] 134)=X:=⟨_,rfl⟩
 have b1:=Boxed.new w4 134 (.slice (some ⟨gu,0,none⟩) (p+m+1) cu)
 have s1:X1.heap.size=w4.heap.size+1:=by rw [<- hX1];simp
 have u1:=Zcm hU (.cells #[.slice (some ⟨gu,0,none⟩) (p+m+1) cu] 134)
 have v1:=Zcm hV (.cells #[.slice (some ⟨gu,0,none⟩) (p+m+1) cu] 134)
 have l1:=hlow.alloc hlow.size (.cells #[.slice (some ⟨gu,0,none⟩) (p+m+1) cu] 134)
 rw [hX1] at b1 u1 v1 l1 ⊢
 obtain ⟨X2,hX2⟩:∃ X,X1.alloc (.cells #[.slice (some ⟨gv,0,none⟩) (p+1) cv] 134)=X:=⟨_,rfl⟩
 have b2:=Boxed.new X1 134 (.slice (some ⟨gv,0,none⟩) (p+1) cv)
 have s2:X2.heap.size=X1.heap.size+1:=by rw [<- hX2];simp
 have u2:=Zcm u1 (.cells #[.slice (some ⟨gv,0,none⟩) (p+1) cv] 134)
 have v2:=Zcm v1 (.cells #[.slice (some ⟨gv,0,none⟩) (p+1) cv] 134)
 have l2:=l1.alloc l1.size (.cells #[.slice (some ⟨gv,0,none⟩) (p+1) cv] 134)
 have c1:=b1.alloc (.cells #[.slice (some ⟨gv,0,none⟩) (p+1) cv] 134)
 rw [hX2] at b2 u2 v2 l2 c1 ⊢
 obtain ⟨X3,hX3⟩:∃ X,X2.alloc (.cells #[.int .i64 ((p:Int)+1)] 3)=X:=⟨_,rfl⟩
 have b3:=Boxed.new X2 3 (.int .i64 ((p:Int)+1))
 have s3:X3.heap.size=X2.heap.size+1:=by rw [<- hX3];simp
 have u3:=Zcm u2 (.cells #[.int .i64 ((p:Int)+1)] 3)
 have v3:=Zcm v2 (.cells #[.int .i64 ((p:Int)+1)] 3)
 have l3:=l2.alloc l2.size (.cells #[.int .i64 ((p:Int)+1)] 3)
 have d1:=c1.alloc (.cells #[.int .i64 ((p:Int)+1)] 3)
 have d2:=b2.alloc (.cells #[.int .i64 ((p:Int)+1)] 3)
 rw [hX3] at b3 u3 v3 l3 d1 d2 ⊢
 have e3:X3.heap.size=w4.heap.size+1+1+1:=by omega
 have q4:=Zmc X3 w.heap.size 85 .u32 m (by have := l3.size;omega) (by omega)
 have b5:=Boxed.new (X3.alloc (.cells (madeCells #[.int .u32 0] m) 85)) 134 (.slice (some ⟨w4.heap.size+1+1+1,0,none⟩) m m)
 have b6:=Boxed.new ((X3.alloc (.cells (madeCells #[.int .u32 0] m) 85)).alloc (.cells #[.slice (some ⟨w4.heap.size+1+1+1,0,none⟩) m m] 134)) 134 (.slice (some ⟨w4.heap.size+1+1+1,0,none⟩) m m)
 simp only [World.size_alloc,s3,s2,s1] at b1 b2 b3 b5 b6 q4 c1 d1 d2
 have a1:=hlow.size
 exact ⟨((d1.alloc _).alloc _).alloc _,((d2.alloc _).alloc _).alloc _,((b3.alloc _).alloc _).alloc _,b5.alloc _,b6,Zcm (Zcm (Zcm u3 _) _) _,Zcm (Zcm (Zcm v3 _) _) _,Zcm (Zcm q4 _) _,
  ((l3.alloc l3.size _).alloc (by simp;omega) _).alloc (by simp;omega) _,lu,uv,vK⟩
theorem Zj9 (l:List Int) {j:Int} {k:Nat} (h:j=(k:Int)):rd l j=l.getD k 0:=by subst h;unfold rd;rw [Int.toNat_natCast]
theorem DivAt.guess {U V:List Int} {m i p:Nat} {ds qs:List Int} (h:DivAt U V m (i+1) ds qs) (ok:DivOk U V m) (hi:i < m) (hp:V.length=p+1) (hp1:1<=p) :
  ∃ (x2 x1 x0 y1 y0 g:Nat) (q:Int) (k:Nat),rd ds ((i:Int)+((p:Int)+1))=x2/\rd ds ((i:Int)+((p:Int)+1) - 1)=x1/\rd ds ((i:Int)+((p:Int)+1) - 2)=x0/\rd V p=y1/\rd V ((p:Int)+1 - 2)=y0/\Zbr.f k x2 x1 x0 y1 y0=some (g:Int)/\Digit U V i ds (g:Int) q:=by
 obtain ⟨ht,q,hd⟩:=h.digit ok hi
 rw [hp] at ht hd
 have a2:=Zeu h.dg (i+(p+1))
 have a1:=Zeu h.dg (i+(p+1) - 1)
 have a0:=Zeu h.dg (i+(p+1) - 2)
 have b1:=Zeu ok.vd (p+1 - 1)
 have b0:=Zeu ok.vd (p+1 - 2)
 have tp:=ok.top
 rw [hp] at tp
 obtain ⟨x2,e2⟩:=Int.eq_ofNat_of_zero_le a2.1
 obtain ⟨x1,e1⟩:=Int.eq_ofNat_of_zero_le a1.1
 obtain ⟨x0,e0⟩:=Int.eq_ofNat_of_zero_le a0.1
 obtain ⟨y1,f1⟩:=Int.eq_ofNat_of_zero_le b1.1
 obtain ⟨y0,f0⟩:=Int.eq_ofNat_of_zero_le b0.1
 rw [e2] at a2 ht hd
 rw [e1] at a1 hd
 rw [e0] at a0 hd
 rw [f1] at b1 ht tp hd
 rw [f0] at b0 hd
 have hB:LB=4294967296:=rfl
 rw [hB] at a2 a1 a0 b1 b0 hd
 obtain ⟨k,hk⟩:=(P.Zkv x2 x1 x0 y1 y0 (by omega) (by omega) (by omega) (by omega) (by omega) (by omega)).ex
 refine ⟨x2,x1,x0,y1,y0,_,q,k,(Zj9 _ (by omega)).trans e2,(Zj9 _ (k:=i+(p+1) - 1) (by omega)).trans e1,(Zj9 _ (k:=i+(p+1) - 2) (by omega)).trans e0,(Zj9 _ (k:=p+1 - 1) (by omega)).trans f1,(Zj9 _ (k:=p+1 - 2) (by omega)).trans f0,hk,?_⟩
 have e:((min (((x2*4294967296+x1)*4294967296+x0) / (y1*4294967296+y0)) 4294967295:Nat):Int)=min ((((x2:Int)*4294967296+x1)*4294967296+x0) / ((y1:Int)*4294967296+y0)) 4294967295:=by
  have hm:∀ a b:Nat,((min a b:Nat):Int)=min (a:Int) (b:Int):=fun a b=>by omega
  rw [hm]
  simp
 rw [e]
 exact hd
theorem DvI.next {w W2:World} {K gu cu gv cv p m i:Nat} {U V ds ds2 qs:List Int} {sv:Value} {g q:Int} {pre:List (Nat × Int)} {x:Nat × Int} (hat:DivAt U V m (i+1) ds qs) (ok:DivOk U V m) (hi:i < m) (hdig:Digit U V i ds g q) (hl2:ds2.length=ds.length) (hd2:Dg LB ds2)
  (hval:val LB ds2=val LB ds - pw LB i*(q*val LB V)) (hD:DvB w K gu cu gv cv p m V sv ds2 qs W2) (hnx:m - (pre ++ [x]).length=i):DvI w K gu cu gv cv p m U V (pre ++ [x]) (W2.setCell ⟨K+1+1+1,i,none⟩ (.int .u32 q)) :=
 ⟨sv,ds2,qs.set i q,by rw [hnx];exact hat.next ok hi hdig hl2 hd2 hval (Zew q (by rw [hat.qlen];exact hi)) (fun j hj=>Zeb q hj),hD.store i q⟩
theorem Zow {W W':World} {base n g:Nat} {e:TypeId} {size:Nat} {v:Value} {xs:List Value} (h:W.ownsRow base e size v n xs) (hk:Kept W W' (fun k=>k=g)) (hne:v.ownBlock ≠ some g):W'.ownsRow base e size v n xs:=by
 obtain ⟨h1,h2⟩:=h
 refine ⟨h1,?_⟩
 rcases h2 with h2|⟨g',cap,cur,rfl,hg,hh,r⟩
 ·exact .inl h2
 ·exact .inr ⟨g',cap,cur,rfl,hg,(hk.2 g' (Array.getElem?_eq_some_iff.1 hh).1 (fun e=>hne (by rw [e];rfl))).trans hh,r⟩
theorem Zrg {U V l0 l1 ds qs:List Int} {m p s:Nat} (hat:DivAt U V m 0 ds qs) (ok:DivOk U V m) (hU:val 4294967296 U=val 4294967296 l0*((2 ^ s:Nat):Int)) (hV:val LB V=((num l1*2 ^ s:Nat):Int)) (h0:OkW l0) (h1:OkW l1) (hp:V.length=p+1) (hpb:p+1<=1000000) (hm:m<=1000000) (hs:s < 32) (h2:2<=l1.length) :
  ∃ kq ku kr,Zv.f kq qs=some (limbs (num l0 / num l1))/\Zv.f ku ds=some (limbs (num l0 % num l1*2 ^ s))/\Zz.f kr (limbs (num l0 % num l1*2 ^ s)) (s:Int)=some (limbs (num l0 % num l1)):=by
 have hb:0 < num l1:=Nat.lt_of_lt_of_le (Nat.pow_pos (by omega)) (Zqt h1 (by intro e;rw [e] at h2;simp at h2))
 have hP:0 < 2 ^ s:=Nat.pow_pos (by omega)
 obtain ⟨vq,vr⟩:=hat.done ok (a:=num l0) (b:=num l1) (P:=2 ^ s) hP (by show val 4294967296 U=_;rw [hU];rw [<- Zdj h0.dg];exact (Int.natCast_mul _ _).symm) hV hb
 obtain ⟨kq,hq⟩:=(P.Zdt hat.qdg vq (by rw [hat.qlen];omega)).ex
 obtain ⟨ku,hu⟩:=(P.Zdt hat.dg vr (by rw [hat.len,ok.ulen,hp];omega)).ex
 have hlt:num l0 % num l1*2 ^ s < 4294967296 ^ (p+1):=by
  have e1:num l0 % num l1*2 ^ s < num l1*2 ^ s:=Nat.mul_lt_mul_of_pos_right (Nat.mod_lt _ hb) hP
  have e2:=Zdz (b:=LB) (by decide) ok.vd
  rw [hV,hp,pwB] at e2
  exact Nat.lt_trans e1 (Int.ofNat_lt.1 e2)
 have hr:=P.Zlb (Zc7 (num l0 % num l1*2 ^ s)) (Nat.le_trans (P.Zep hlt) hpb) s hs
 rw [Zc0,Nat.mul_div_cancel _ hP] at hr
 obtain ⟨kr,hr⟩:=hr.ex
 exact ⟨kq,ku,kr,hq,hu,hr⟩
theorem Zm9 {F:Fence} {n:Nat} {P:Program} {c:Code} {Q:Exit->Act->World->Prop} {a b:Act} {w:World} (h:a=b) (k:Code.wpIn F n P c Q b w):Code.wpIn F n P c Q a w:=h ▸ k
theorem Zpu (A0:Option Addr) (c0:Nat) (l0:List Int) (A1:Option Addr) (c1:Nat) (l1:List Int) (w:World) (hr0:Kd.C (Kd.int .u32) w A0 l0.length l0) (hc0:l0.length<=c0) (hr1:Kd.C (Kd.int .u32) w A1 l1.length l1) (hc1:l1.length<=c1)
  (h0:OkW l0) (h1:OkW l1) (hge:¬ num l0 < num l1) (h2:2<=l1.length) :
  Calls Tryz.prog 127 #[.slice A0 l0.length c0,.slice A1 l1.length c1] w fun e w' => ∃ v0_ v1_:Value,e=.returned (.tuple #[v0_,v1_])/\Kd.R (Kd.int .u32) 85 w' w.heap.size (fun k_=>some k_ ≠ (v1_:Value).ownBlock) v0_ (limbs (num l0 / num l1))/\Kd.R (Kd.int .u32) 85 w' w.heap.size (fun k_=>some k_ ≠ (v0_:Value).ownBlock) v1_ (limbs (num l0 % num l1))/\Below w.heap.size w w':=by
 have hz0:=h0.len
 have hz1:=h1.len
 have hab:=P.Zm2 h0.dg h1.dg h1.nz (by omega)
 obtain ⟨p,hp⟩:∃ p,l1.length=p+1:=⟨l1.length - 1,by omega⟩
 obtain ⟨m,hm⟩:∃ m,l0.length=p+m:=⟨l0.length - p,by omega⟩
 have hm1:1<=m:=by omega
 have hp1:1<=p:=by omega
 obtain ⟨x0,hx,hx0,hx1⟩:∃ x0:Nat,l1.getD p 0=(x0:Int)/\x0 ≠ 0/\x0 < 4294967296:=by
  have hin:=Zs8 h1.dg (show p < l1.length by omega)
  refine ⟨(l1.getD p 0).toNat,by omega,fun e=>?_,by omega⟩
  have hne:l1 ≠ []:=by intro e;rw [e] at h2;simp at h2
  obtain ⟨l',y,hl'⟩:=Ze9 hne
  have hy:=Zem.1 (hl' ▸ h1.nz)
  have hlen:l'.length=p:=by have := congrArg List.length hl';simp at this;omega
  have hyp:l1.getD p 0=y:=by rw [hl',List.getD,List.getElem?_append_right (by omega),hlen,Nat.sub_self];rfl
  rw [hyp] at e hin
  omega
 obtain ⟨b1,o1,x',hA1,hcx,hx'⟩:=(Zft hr1).at (show p < l1.length by omega)
 rw [hx] at hx'
 subst hx' hA1
 obtain ⟨s,hs⟩:∃ s:Nat,(s:Int)=32 - (Lib.bitLen x0:Int):=⟨(32 - (Lib.bitLen x0:Int)).toNat,by have := Lib.bitLen_le x0 32 (by omega) (by simpa using hx1);omega⟩
 obtain ⟨s1,s2,s3⟩:=Zl9 hx0 hx1 hs
 obtain ⟨U,hU,hUl,hUd,hUv⟩:=P.Zil h0.dg h0.len s s1
 obtain ⟨V0,hV0,hV0l,hV0d,hV0v⟩:=P.Zil h1.dg h1.len s s1
 obtain ⟨hok,hVl⟩:=Zrr h0 h1 h2 (by omega) hab (by rw [hp];exact hx) hx0 hx1 hs hUl hUd hUv
 have hT:=P.Zdt (n:=num l1*2 ^ s) hV0d (by rw [hV0v,<- Zdj h1.dg];exact (Int.natCast_mul _ _).symm) (by omega)
 obtain ⟨V,hV⟩:∃ V,limbs (num l1*2 ^ s)=V:=⟨_,rfl⟩
 have hVv:val LB V=((num l1*2 ^ s:Nat):Int):=by rw [<- hV];exact Zga _
 rw [hV] at hok hVl hT
 obtain ⟨kU,hkU⟩:=hU.ex
 obtain ⟨kV,hkV⟩:=hV0.ex
 obtain ⟨kT,hkT⟩:=hT.ex
 have hzl:bits_LeadingZeros32.f (x0:Int)=some (s:Int):=by
  unfold bits_LeadingZeros32.f
  rw [if_pos (by omega),Int.toNat_natCast,hs]
 have cC:=fun (W:World) (hB:Below w.heap.size w W)=>Zax.calls A0 c0 l0 (some ⟨b1,o1,none⟩) c1 l1 (cmpI (num l0) (num l1)) W (Kd.Zn hr0 hB) hc0 (Kd.Zn hr1 hB) hc1 (by
  unfold Zax.f
  rw [Zee.2 h0,Zee.2 h1,Bool.and_self,if_pos rfl])
 have hcm:decide (cmpI (num l0) (num l1) < 0)=false:=decide_eq_false (by unfold cmpI;rw [if_neg (by omega)];split <;> omega)
 obtain ⟨cm,hcme⟩:∃ cm,cmpI (num l0) (num l1)=cm:=⟨_,rfl⟩
 rw [hcme] at cC hcm
 have cL0:=fun (W:World) (hB:Below w.heap.size w W)=>Za7.calls kU A0 c0 l0 (s:Int) U W (Kd.Zn hr0 hB) hc0 hkU
 have cL1:=fun (W:World) (hB:Below w.heap.size w W)=>Za7.calls kV (some ⟨b1,o1,none⟩) c1 l1 (s:Int) V0 W (Kd.Zn hr1 hB) hc1 hkV
 have cZ:=fun (W:World)=>bits_LeadingZeros32.calls (x0:Int) (s:Int) W hzl
 rw [hp] at cC cL1 hVl
 rw [hm] at cC cL0 hUl
 have hpb:p<=1000000:=by omega
 have hmb:m<=1000000:=by omega
 have hone:((p+1:Nat):Int) ≠ 1:=by omega
 have honeb:(((p+1:Nat):Int) == 1)=false:=beq_eq_false_iff_ne.2 hone
 obtain ⟨i0,hi,hzz⟩:=Option.map_eq_some_iff.1 info85
 simp only [Prod.mk.injEq] at hzz
 obtain ⟨hz1',hz2',hz3'⟩:=hzz
 have hmk:∀ W:World,(Instr.makeSlice 134 (.int .i64 m) (.int .i64 m)).run Tryz.prog W=.ok (.slice (some ⟨W.heap.size,0,none⟩) m m) (W.alloc (.cells (madeCells #[.int .u32 0] m) 85)):=fun W=>by
  have := run_make (P:=Tryz.prog) W 134 85 i0 (.int .u32 0) Tryz.underlying134 hi hz1' .i64 .i64 (m:Int) (m:Int) (by omega) (by omega) (by rw [hz3'];omega) (by omega)
  simp only [Int.toNat_natCast,hz2',Nat.mul_one] at this
  exact this
 have e57:(p:Int)+(m:Int)+1 - ((p:Int)+1)=(m:Int):=by omega
 have e0m:l0.length+1 - l1.length=m:=by omega
 rw [e0m] at hok
 clear e0m
 have CC:=Aside0.mk cC
 have CL0:=Aside0.mk cL0
 have CL1:=Aside0.mk cL1
 have HKT:=Aside0.mk hkT
 have HOK:=Aside0.mk hok
 have HUV:=Aside0.mk (And.intro hUv hVv)
 have HUL:=Aside0.mk hUl
 have HVL:=Aside0.mk hVl
 have HMK:=Aside0.mk hmk
 have HW0:=Aside0.mk (And.intro h0 h1)
 have HE57:=Aside0.mk e57
 have HS1:=Aside0.mk s1
 have HV0l:=Aside0.mk hV0l
 rw [hp,hm]
 have HP:=Aside0.mk hp
 have HM:=Aside0.mk hm
 refine (callsIn_wide (n:=4)).1 ?_
 refine callsIn_of_wp_marks Tryz.func127 rfl trivial ?_ rfl
 simp only [Tryz.ntmps127,List.size_toArray,List.length_cons,List.length_nil,Nat.reduceAdd,Nat.reduceSub,Array.replicate_succ,Array.replicate_zero,List.push_toArray,List.append_toArray,List.nil_append,List.cons_append]
 clear hr0 hc0 hr1 hc1 hge h0 h1 hcme cC cL0 cL1 hkT hok hUv hVv hUl hVl hmk e57 s1 s2 s3 hU hV0 hT hkU hkV hzl hV hV0l hV0d hV0v hUd hs hx hx0 hz1' hz2' hz3' hi hp hm hab
 gi_wp2_with (first
  | (refine ⟨trivial,?_⟩;gi_at_call 138;refine (callsIn_wide.2 (CC.out _ (Below.refl _ _))).mono ?_;rintro e w1 ⟨rfl,hb1⟩;have hcx1:=Zc8 hb1 hcx)
  | (refine ⟨trivial,?_⟩;gi_at_call 156;refine (callsIn_wide.2 (cZ _)).mono ?_;rintro e wz ⟨rfl,nq,rfl⟩;have hbz:=Za6 hb1 nq)
  | (refine ⟨trivial,?_⟩;gi_at_call 157;refine (callsIn_wide.2 (CL1.out _ hbB)).mono ?_;rintro e w3 ⟨vb,rfl,hRb,hb3⟩)
  | (refine ⟨trivial,?_⟩;gi_at_call 157;refine (callsIn_wide.2 (CL0.out _ hbz)).mono ?_;rintro e w2 ⟨vu,rfl,hRu,hb2⟩;obtain ⟨gu,cu,rfl,hgu,hgu2,hcu,hrowU⟩:=Zmh hRu HUL.out (by omega);have hbB:=hbz.trans (hb2.mono hbz.size);have HRU:=Aside0.mk hRu;have HROWU:=Aside0.mk hrowU;clear hRu hrowU)
  | (refine ⟨trivial,?_⟩;gi_at_call 132;refine (callsIn_wide.2 (Zv.calls kT (fun _=>True) _ V0 V w2 _ hb3 hRb HKT.out)).mono ?_;rintro e w4 ⟨vv,rfl,hRv,hb4,hkp⟩;obtain ⟨gv,cv,rfl,hgv,hgv2,hcv,hrowV⟩:=Zmh hRv HVL.out (by omega);have HROWV:=Aside0.mk hrowV;have HRV:=Aside0.mk hRv;have HKP:=Aside0.mk hkp;clear hrowV hRv hkp hRb;have hmk:=HMK.out;have e57:=HE57.out)
  | (refine ⟨trivial,?_⟩;gi_at_call 158;refine (Zkq _ _ _ _ _).mono ?_;rintro e w' ⟨rfl,rfl⟩))
 have hD0:DvB w w4.heap.size gu cu gv cv p m V _ U (List.replicate m 0) _:=DvB.start (Ze0 (Zeh HROWU.out (hb4.block _ hgu2)) hbz.size) (Ze0 HROWV.out hbB.size) (hbB.trans (hb4.mono hbB.size)) (Nat.le_trans hbz.size hgu) (by omega) hgv2 hmb
 have hat0:=DivAt.start HOK.out
 have HD0:=Aside0.mk hD0
 have HAT0:=Aside0.mk hat0
 clear hat0 hcx hcx1 hmk e57 hb1 hbz nq hb2 hb3 hb4 hgu hgu2 hgv hgv2 hcm hone honeb cZ HRV HKP HRU HROWU HROWV HMK
 obtain ⟨K,hK⟩:∃ K,w4.heap.size=K:=⟨_,rfl⟩
 rw [hK] at hD0 HD0 ⊢
 refine Zdy (b:=K+1+1+1+1+1) rfl (by decide) (gf:=184) (lb:=#[.pointer (some ⟨K+1+1+1+1+1,0,none⟩)]) rfl trivial (enters_of Tryz.func184 (by kernel_rfl) rfl)
  (Zgo 3 (by omega) (K+1+1+1+1+1) (some ⟨K+1+1+1,0,none⟩) m m (fun _ _=>True) (by omega) _ hD0.s hD0.rdw) (by simp [hK] <;> omega) (fun h k=>h.trans k)
  (fun W l o o' hl ho hc hw=>KpB.put (by simp [hK] at hl;omega) ho hc) (Below.refl _ _) (fun _=>rfl)
  (DvI w K gu cu gv cv p m U V) (fun _ _ _=>False) (DvI.own hD0.low.size) (fun _=>by rintro pre A W row h;exact h.elim) DvI.minds ?start
  (fun x=>{ tmps:=#[.slice A0 (p+m) c0,.slice (some ⟨b1,o1,none⟩) (p+1) c1,undef,undef,.slice none 0 0,.slice none 0 0,undef,undef,.int .i64 s,.pointer (some ⟨K,0,none⟩),.pointer (some ⟨K+1,0,none⟩),.pointer (some ⟨K+1+1,0,none⟩),.pointer (some ⟨K+1+1+1+1,0,none⟩),.int .i64 x.1,undef,.bool false,
   .slice A0 (p+m) c0,.slice (some ⟨b1,o1,none⟩) (p+1) c1,.int .i64 cm,.bool false,undef,undef,.bool false,.slice (some ⟨b1,o1,none⟩) (p+1) c1,.int .i64 ((p:Int)+1),.bool false,undef,undef,undef,undef,undef,undef,undef,undef,undef,undef,undef,undef,
   .slice (some ⟨b1,o1,none⟩) (p+1) c1,.slice (some ⟨b1,o1,none⟩) (p+1) c1,.int .i64 ((p:Int)+1),.int .i64 p,.pointer (some ⟨b1,o1+p,none⟩),.int .u32 (x0:Int),.int .i64 s,.slice A0 (p+m) c0,.int .i64 s,.slice (some ⟨gu,0,none⟩) (p+m+1) cu,.slice (some ⟨b1,o1,none⟩) (p+1) c1,.int .i64 s,vb,.slice (some ⟨gv,0,none⟩) (p+1) cv,
   .slice (some ⟨gv,0,none⟩) (p+1) cv,.int .i64 ((p:Int)+1),.slice (some ⟨gu,0,none⟩) (p+m+1) cu,.int .i64 ((p:Int)+(m:Int)+1),.int .i64 ((p:Int)+1),.int .i64 m,.slice (some ⟨K+1+1+1,0,none⟩) m m,.slice (some ⟨K+1+1+1,0,none⟩) m m,.func (.func 184) #[] #[.pointer (some ⟨K+1+1+1+1+1,0,none⟩)],.int .i64 x.1,.int .u32 x.2,undef,undef,undef,undef,undef,undef,undef,undef,undef,undef,undef,undef,undef,undef,undef,undef,undef,undef,undef,undef,undef,undef,undef,undef,undef,undef,undef,undef,undef,undef,undef,undef,undef,undef,undef,undef,undef,undef,undef,undef,undef,undef,undef,undef,undef,undef,undef,undef,undef,undef,undef,undef,undef,undef,undef,undef],defers:=[] }) ?assign ?body ?done ?stop
 case start=>exact ⟨_,_,_,HAT0.out,HD0.out⟩
 case assign =>
  intro l x W K hK
  gi_wp2
  exact hK
 case stop =>
  rintro D c pre W hD hpre h hK
  exact h.elim
 case body =>
  rintro l pre x W ⟨sv,ds,qs,hat,hD⟩ hlen hsp
  obtain ⟨hx1,hx2⟩:=hsp.2 pre.length x (by simp)
  obtain ⟨i,y⟩:=x
  simp only at hx1 hx2
  have hi:i < m:=by omega
  have hji:m - pre.length=i+1:=by omega
  rw [hji] at hat
  have hnx:m - (pre ++ [(i,y)]).length=i:=by simp;omega
  obtain ⟨x2,x1,xz,y1,y0,g,q,k,r2,r1,r0,t1,t0,hg,hdig⟩:=DivAt.guess hat HOK.out hi HVL.out hp1
  have cG:=fun W:World=>Zbr.calls k x2 x1 xz y1 y0 g W hg
  have hu:=hD.u.cell
  have hv:=hD.v.cell
  have hn:=hD.n.cell
  have k2:=(Zfh hD.urow ((i:Int)+((p:Int)+1)) (by omega) (by omega)).1
  have k1:=(Zfh hD.urow ((i:Int)+((p:Int)+1) - 1) (by omega) (by omega)).1
  have k0:=(Zfh hD.urow ((i:Int)+((p:Int)+1) - 2) (by omega) (by omega)).1
  have m1:=(Zfh hD.vrow (p:Int) (by omega) (by omega)).1
  have m0:=(Zfh hD.vrow ((p:Int)+1 - 2) (by omega) (by omega)).1
  rw [r2] at k2
  rw [r1] at k1
  rw [r0] at k0
  rw [t1] at m1
  rw [t0] at m0
  rw [show ((i:Int)+((p:Int)+1)).toNat=i+(p+1) by omega] at k2
  rw [Int.toNat_natCast] at m1
  rw [show ((i:Int)+((p:Int)+1) - 2).toNat=i+(p+1) - 2 by omega] at k0
  rw [show ((p:Int)+1 - 2).toNat=p - 1 by omega] at m0
  rw [show ((i:Int)+((p:Int)+1) - 1).toNat=i+p by omega] at k1
  have HAT:=Aside0.mk hat
  have HD:=Aside0.mk hD
  have HDG:=Aside0.mk hdig
  have HNX:=Aside0.mk hnx
  clear hat hD hdig hg r2 r1 r0 t1 t0 hlen hsp hx1 hx2 hji hnx hD0 HD0 HAT0 HUV HW0 HKT HUL HS1 HV0l CC CL0 CL1 HE57
  gi_wp2
  rename_i K1 hK1
  refine Zef (by kernel_rfl) (by kernel_rfl) (fun h=>by obtain ⟨_,_,h⟩:=h;exact h) (by kernel_rfl) ?_
  repeat (go_big_quiet_step ((go_at_call 159;exact Zfx (cG _))))
  refine wpQuiet_nil ?_
  rintro _ ⟨nq,rfl⟩
  refine hK1 _ _ ?_
  clear hK1 k2 k1 k0 m1 m0 hn cG
  gi_wp2
  rename_i K2 hK2
  refine Zfk 5 (by kernel_rfl) (by kernel_rfl) (fun h=>by obtain ⟨_,_,h⟩:=h;exact h) (by kernel_rfl) ?_
  rw [show ({ W.drewN nq with drawn:=(W.drewN nq).drawn+1 }:World)=W.drewN (nq+1) from rfl]
  have hD1:=HD.out.drewN (nq+1)
  have hKO1:KeepsOthers W (W.drewN (nq+1)):=⟨Nat.le_refl _,fun k o h _=>h⟩
  obtain ⟨W1,hW1⟩:∃ W1,W.drewN (nq+1)=W1:=⟨_,rfl⟩
  rw [hW1] at hD1 hKO1 ⊢
  clear hW1 hu hv
  have hu:=hD1.u.cell
  have hv:=hD1.v.cell
  have hult:=hD1.u.lt
  have huv:=hD1.uv
  have hvK:=hD1.vK
  have hcV:=Zsq hD1.vrow
  have HDG0:=HDG.out
  have cT:=Zqf w.heap.size gu i (p+m+1) cu ds (some ⟨gv,0,none⟩) cv V g W1 hD1.urow (by omega) HAT.out.dg (by rw [HVL.out];exact hcV) (by rw [HVL.out];exact hcv) HOK.out.vd (fun ad h=>.inr (by cases h;show gv ≠ gu;omega)) (by rw [HVL.out];omega) hcu (by have := HM.out;omega) HDG0.g0 HDG0.g1
  rw [HVL.out] at cT
  have g0:(0:Int)<=(g:Int):=HDG0.g0
  have g1:(g:Int) < 18446744073709551616:=by have := HDG0.g1;have hB:LB=4294967296:=rfl;omega
  have HD1:=Aside0.mk hD1
  have HKO1:=Aside0.mk hKO1
  have CT:=Aside0.mk cT
  clear hcV HDG0 hD1 hKO1 cT hult
  have hsl:(i:Int)<=(p:Int)+(m:Int)+1:=by omega
  have hci:¬ cu=i:=by omega
  simp only [List.take_succ_cons,List.take_zero,List.drop_succ_cons,List.drop_zero]
  repeat still_step
  refine wpStill_nil ?_
  go_wp2_with (go_at_call 160;refine (CT.out).mono ?_;rintro e W2 ⟨b,ds2,rfl,hb01,hrow2,hd2,hl2,hv2,hs2,hk2,hlow2⟩)
  have hD2:=HD1.out.ofU hk2 hlow2 hrow2
  have hKO2:=HKO1.out.trans (Zik HD1.out.urow hk2)
  have hoff:=HDG.out.off HOK.out hb01 HAT.out.dg hd2 hl2 (by rw [HVL.out];exact hv2) (by rw [HVL.out];exact hs2) HAT.out.low
  clear hu hv CT HD1 HKO1
  rcases hoff with ⟨rfl,hgq,hval⟩|⟨rfl,hgq,hval⟩
  ·rw [show decide ((0:Int) < 0)=false from rfl]
   have hq:=hD2.q.cell
   have hc:=Zfh hD2.qrow (i:Int) (by omega) (by omega)
   rw [Int.toNat_natCast] at hc
   have hcc:=hc.1
   have hcf:=hc.2
   have hg1:(g:Int) < 4294967296:=HDG.out.g1
   have HD2:=Aside0.mk hD2
   have HKO2:=Aside0.mk hKO2
   have HK2:=Aside0.mk hk2
   have HV:=Aside0.mk (And.intro hl2 (And.intro hd2 hval))
   have HGQ:=Aside0.mk hgq
   clear hD2 hKO2 hk2 hl2 hd2 hval hgq hrow2 hlow2 hs2 hv2 hb01 hc
   gi_wp2
   have hgq':=HGQ.out
   rw [hgq']
   exact ⟨((HKO2.out.trans (KeepsOthers.setCell W2 _ _)).from _),HD.out.kp (HD2.out.store i q),DvI.next HAT.out HOK.out hi HDG.out HV.out.1 HV.out.2.1 HV.out.2.2 HD2.out HNX.out⟩
  ·rw [show decide ((0:Int) < 1)=true from rfl]
   have hq1:(1:Int)<=(g:Int):=by have := HDG.out.q0;omega
   have HD2:=Aside0.mk hD2
   have HKO2:=Aside0.mk hKO2
   have HK2:=Aside0.mk hk2
   have HV:=Aside0.mk (And.intro hl2 (And.intro hd2 (And.intro hval hs2)))
   have HGQ:=Aside0.mk hgq
   clear hD2 hKO2 hk2 hl2 hd2 hval hgq hrow2 hlow2 hs2 hv2 hb01
   gi_wp2
   rename_i K5 hK5
   have hDd:=HD2.out.drewN 1
   have hKOd:=HKO2.out.trans (⟨Nat.le_refl _,fun k o h _=>h⟩:KeepsOthers W2 (W2.drewN 1))
   refine Zfk 4 (by kernel_rfl) (by kernel_rfl) (fun h=>by obtain ⟨_,_,h⟩:=h;exact h) (by kernel_rfl) ?_
   rw [show ({ W2 with drawn:=W2.drawn+1 }:World)=W2.drewN 1 from rfl]
   obtain ⟨Wd,hWd⟩:∃ Wd,W2.drewN 1=Wd:=⟨_,rfl⟩
   rw [hWd] at hDd hKOd ⊢
   have hu:=hDd.u.cell
   have hv:=hDd.v.cell
   have hult:=hDd.u.lt
   have hcV:=Zsq hDd.vrow
   have cP:=Zqc w.heap.size gu i (p+m+1) cu ds2 (some ⟨gv,0,none⟩) cv V Wd hDd.urow (by omega) HV.out.2.1 (by rw [HVL.out];exact hcV) (by rw [HVL.out];exact hcv) HOK.out.vd (fun ad h=>.inr (by cases h;show gv ≠ gu;omega)) (by rw [HVL.out];omega) hcu (by have := HM.out;omega)
   rw [HVL.out] at cP
   have HDd:=Aside0.mk hDd
   have HKOd:=Aside0.mk hKOd
   have CP:=Aside0.mk cP
   clear hcV hDd hKOd cP hult hWd
   simp only [List.take_succ_cons,List.take_zero,List.drop_succ_cons,List.drop_zero]
   repeat still_step
   refine wpStill_nil ?_
   go_wp2_with (go_at_call 161;refine (CP.out).mono ?_;rintro e W3 ⟨rfl,hP⟩)
   obtain ⟨o,ds3,ho,hrow3,hd3,hl3,hv3,hs3⟩:=hP.out
   have hD3:=HDd.out.ofU hP.kept hP.low hrow3
   have hKO3:=HKOd.out.trans (Zik HDd.out.urow hP.kept)
   have hval3:=Digit.back (HGQ.out ▸ HDG.out) HOK.out ho HAT.out.dg hd3 (by have := HV.out.2.2.1;rw [HGQ.out] at this;exact this) hv3 (by rw [HVL.out];exact HV.out.2.2.2) hs3 HAT.out.low
   have hq:=hD3.q.cell
   have hc:=Zfh hD3.qrow (i:Int) (by omega) (by omega)
   rw [Int.toNat_natCast] at hc
   have hcc:=hc.1
   have hcf:=hc.2
   have hg1:(g:Int) < 4294967296:=HDG.out.g1
   have HD3:=Aside0.mk hD3
   have HKO3:=Aside0.mk hKO3
   have HV3:=Aside0.mk (And.intro (hl3.trans HV.out.1) (And.intro hd3 hval3))
   clear hD3 hKO3 hP hl3 hd3 hval3 hrow3 hs3 hv3 ho hc
   gi_wp2
   have hgq':(g:Int) - 1=q:=by have := HGQ.out;omega
   rw [hgq']
   exact ⟨((HKO3.out.trans (KeepsOthers.setCell W3 _ _)).from _),HD.out.kp (HD3.out.store i q),DvI.next HAT.out HOK.out hi HDG.out HV3.out.1 HV3.out.2.1 HV3.out.2.2 HD3.out HNX.out⟩
 case done =>
  rintro D ys W hDD ⟨hp',hpl⟩ ⟨sv,ds,qs,hat,hB⟩ hKD
  rw [hpl,Nat.sub_self] at hat
  obtain ⟨kq,ku,kr,tq,tu,tr⟩:=Zrg hat HOK.out HUV.out.1 HUV.out.2 HW0.out.1 HW0.out.2 HVL.out (by have := HP.out;omega) hmb HS1.out h2
  obtain ⟨QL,hQL⟩:∃ QL,limbs (num l0 / num l1)=QL:=⟨_,rfl⟩
  obtain ⟨RS,hRS⟩:∃ RS,limbs (num l0 % num l1*2 ^ s)=RS:=⟨_,rfl⟩
  obtain ⟨RL,hRL⟩:∃ RL,limbs (num l0 % num l1)=RL:=⟨_,rfl⟩
  rw [hQL] at tq
  rw [hRS] at tu tr
  rw [hRL] at tr
  have HQL:=Aside0.mk hQL
  have HRL:=Aside0.mk hRL
  have hql:=hat.qlen
  have hdl:ds.length=p+m+1:=by rw [hat.len];exact HUL.out
  have hlu:=hB.lu
  have huv:=hB.uv
  have hvK:=hB.vK
  have hslt:=hB.s.lt
  have hDlt:D < W.heap.size:=(Array.getElem?_eq_some_iff.1 hKD).1
  have hD2:K+1+1+1+1+1 < D:=by simp [hK] at hDD;omega
  have hRq:Kd.R (Kd.int .u32) 85 W.drew w.heap.size (fun k=>k=K+1+1+1) (.slice (some ⟨K+1+1+1,0,none⟩) m m) qs:=Kd.Zc1 (Kd.Zdl (enc:=Value.int .u32) (by rw [hql];exact hB.qrow) (fun k hk=>by simp [Value.ownBlock] at hk;exact hk.symm))
  have cT1:=Zv.calls kq (fun k=>k=K+1+1+1) _ qs QL w W.drew (Zav hB.low) hRq tq
  have hqc:=hB.q.cell
  have huc:=hB.u.cell
  have HBs:=Aside0.mk hB
  have HKD:=Aside0.mk hKD
  have CT1:=Aside0.mk cT1
  have TU:=Aside0.mk tu
  have TR:=Aside0.mk tr
  have HDL:=Aside0.mk hdl
  clear hB hKD cT1 tu tr tq hat hRq hQL hRS hRL hp' hpl hD0 HD0 HAT0 HUV HW0 HKT HUL CC CL0 CL1 HE57 HS1 HV0l HOK hdl hql
  gi_wp2
  rename_i K1 hK1
  have e132:=enters_of Tryz.func132 (by kernel_rfl) rfl
  have e162:=enters_of Tryz.func162 (by kernel_rfl) rfl
  have hS0:∀ W':World,(∀ k,k < W.heap.size->k ≠ K+1+1+1->k ≠ gu->W'.heap[k]? = W.heap[k]?)->W'.cell? ⟨K+1+1+1+1,0,none⟩=some (.slice (some ⟨K+1+1+1,0,none⟩) m m)/\W'.cell? ⟨K,0,none⟩=some (.slice (some ⟨gu,0,none⟩) (p+m+1) cu):=fun W' hW' =>
   ⟨(World.cell?_of_block (hW' (K+1+1+1+1) (by omega) (by omega) (by omega))).trans hqc,(World.cell?_of_block (hW' K (by omega) (by omega) (by omega))).trans huc⟩
  refine Zfw (fun W':World=>W'.cell? ⟨K+1+1+1+1,0,none⟩=some (.slice (some ⟨K+1+1+1,0,none⟩) m m)/\W'.cell? ⟨K,0,none⟩=some (.slice (some ⟨gu,0,none⟩) (p+m+1) cu)) (by kernel_rfl) ?_
  refine wpAnyH_take (i:=0) rfl (by kernel_rfl) (by kernel_rfl) (by kernel_rfl) (fun _ _ _ h=>h) (v:=.slice (some ⟨K+1+1+1,0,none⟩) m m) (.inl ⟨by kernel_rfl,fun w hw=>?_⟩) (hS0 _ (fun _ _ _ _=>rfl)) ?_
  ·simp [execOp,Act.eval,go_sem,hw.1]
  refine wpAnyH_take (i:=2) rfl (by kernel_rfl) (by kernel_rfl) (by kernel_rfl) (fun _ _ _ h=>h) (v:=.slice (some ⟨gu,0,none⟩) (p+m+1) cu) (.inl ⟨by kernel_rfl,fun w hw=>?_⟩) (hS0 _ (fun _ _ _ _=>rfl)) ?_
  ·simp [execOp,Act.eval,go_sem,hw.2]
  refine wpAnyH_take (i:=4) rfl (by kernel_rfl) (by kernel_rfl) (by kernel_rfl) (fun _ _ _ h=>h) (v:=.int .i64 s) (.inl ⟨by kernel_rfl,fun w hw=>?_⟩) (hS0 _ (fun _ _ _ _=>rfl)) ?_
  ·simp [execOp,Act.eval,go_sem]
  refine Zgc (i:=1) (by kernel_rfl) rfl (by kernel_rfl) (f:=132) (args:=#[.slice (some ⟨K+1+1+1,0,none⟩) m m]) ?_ CT1.out ?_
  ·simp [execOp,Act.eval,go_sem,e132]
  rintro e w1' ⟨v0,rfl,hR0,hb0,hk0⟩
  have hS1:=hS0 w1' (fun k h1 h2 _=>hk0.2 k h1 h2)
  have hRu:Kd.R (Kd.int .u32) 85 w1' w.heap.size (fun k=>k=gu) (.slice (some ⟨gu,0,none⟩) (p+m+1) cu) ds:=Kd.Zdl (enc:=Value.int .u32) (by rw [HDL.out];exact Zeh HBs.out.urow (hk0.2 gu (by show gu < W.heap.size;omega) (by omega))) (fun k hk=>by simp [Value.ownBlock] at hk;exact hk.symm)
  have cT2:=Zv.calls ku (fun k=>k=gu) _ ds RS w w1' hb0 hRu TU.out
  refine ⟨_,rfl,hS1,?_⟩
  refine Zgc (i:=3) (by kernel_rfl) rfl (by kernel_rfl) (f:=132) (args:=#[.slice (some ⟨gu,0,none⟩) (p+m+1) cu]) ?_ cT2 ?_
  ·simp [execOp,Act.eval,go_sem,e132]
  rintro e w2' ⟨v1,rfl,hR1,hb1',hk1⟩
  have hsz1:W.heap.size<=w1'.heap.size:=hk0.1
  have hS2:=hS0 w2' (fun k h1 h2 h3=>(hk1.2 k (by omega) h3).trans (hk0.2 k h1 h2))
  obtain ⟨A,c,rfl,hc,hC⟩:=Kd.Zhk hR1
  have cR:=Zz.calls kr A c RS (s:Int) RL w2' hC hc TR.out
  refine ⟨_,rfl,hS2,?_⟩
  refine Zgc (i:=5) (by kernel_rfl) rfl (by kernel_rfl) (f:=162) (args:=#[.slice A RS.length c,.int .i64 s]) ?_ cR ?_
  ·simp [execOp,Act.eval,go_sem,e162]
  rintro e w3' ⟨v2,rfl,hR2,hb2⟩
  have hS3:=hS0 w3' (fun k h1 h2 h3=>(hb2.block k (by have := hk1.1;omega)).trans ((hk1.2 k (by omega) h3).trans (hk0.2 k h1 h2)))
  refine ⟨_,rfl,hS3,?_⟩
  refine wpAnyH_take (i:=6) rfl (by kernel_rfl) (by kernel_rfl) (by kernel_rfl) (fun _ _ _ h=>h) (v:=v0) (.inl ⟨by kernel_rfl,fun w hw=>?_⟩) hS3 ?_
  ·simp [execOp,Act.eval,go_sem]
  refine wpAnyH_take (i:=7) rfl (by kernel_rfl) (by kernel_rfl) (by kernel_rfl) (fun _ _ _ h=>h) (v:=v2) (.inl ⟨by kernel_rfl,fun w hw=>?_⟩) hS3 ?_
  ·simp [execOp,Act.eval,go_sem]
  refine wpAnyH_done (by kernel_rfl) ?_ _
  refine NoPanic.normal ?_
  refine hK1 _ _ ?_
  refine Zm9 (b:={ tmps:=#[.slice A0 (p+m) c0,.slice (some ⟨b1,o1,none⟩) (p+1) c1,undef,undef,v0,v2,undef,undef,.int .i64 s,.pointer (some ⟨K,0,none⟩),.pointer (some ⟨K+1,0,none⟩),.pointer (some ⟨K+1+1,0,none⟩),.pointer (some ⟨K+1+1+1+1,0,none⟩),undef,undef,.bool false,
   .slice A0 (p+m) c0,.slice (some ⟨b1,o1,none⟩) (p+1) c1,.int .i64 cm,.bool false,undef,undef,.bool false,.slice (some ⟨b1,o1,none⟩) (p+1) c1,.int .i64 ((p:Int)+1),.bool false,undef,undef,undef,undef,undef,undef,undef,undef,undef,undef,undef,undef,
   .slice (some ⟨b1,o1,none⟩) (p+1) c1,.slice (some ⟨b1,o1,none⟩) (p+1) c1,.int .i64 ((p:Int)+1),.int .i64 p,.pointer (some ⟨b1,o1+p,none⟩),.int .u32 (x0:Int),.int .i64 s,.slice A0 (p+m) c0,.int .i64 s,.slice (some ⟨gu,0,none⟩) (p+m+1) cu,.slice (some ⟨b1,o1,none⟩) (p+1) c1,.int .i64 s,vb,.slice (some ⟨gv,0,none⟩) (p+1) cv,
   .slice (some ⟨gv,0,none⟩) (p+1) cv,.int .i64 ((p:Int)+1),.slice (some ⟨gu,0,none⟩) (p+m+1) cu,.int .i64 ((p:Int)+(m:Int)+1),.int .i64 ((p:Int)+1),.int .i64 m,.slice (some ⟨K+1+1+1,0,none⟩) m m,.slice (some ⟨K+1+1+1,0,none⟩) m m,.func (.func 184) #[] #[.pointer (some ⟨K+1+1+1+1+1,0,none⟩)],undef,undef,undef,undef,undef,undef,undef,undef,undef,undef,undef,undef,undef,undef,undef,undef,undef,undef,undef,undef,undef,undef,undef,undef,undef,undef,undef,undef,undef,undef,undef,undef,undef,undef,undef,undef,undef,undef,undef,undef,undef,undef,undef,undef,undef,undef,undef,undef,undef,undef,undef,undef,
   .slice (some ⟨K+1+1+1,0,none⟩) m m,v0,.slice (some ⟨gu,0,none⟩) (p+m+1) cu,.slice A RS.length c,.int .i64 s,v2],defers:=[{ target:=.collected D,args:=#[] }] }) (by kernel_rfl) ?_
  clear hK1
  gi_wp2
  have hK':w3'.heap[D]? = some (.deferred (some [])):=(hb2.block D (by have := hk1.1;omega)).trans ((hk1.2 D (by omega) (by omega)).trans ((hk0.2 D hDlt (by omega)).trans HKD.out))
  refine ⟨by simp,.inl ⟨_,_,rfl,run_takeDeferred hK',?_⟩⟩
  have hO0:=Kd.Zdx (enc:=Value.int .u32) hR0
  have hne0:v0.ownBlock ≠ some gu:=fun e=>by
   rcases hR0.1 gu e with h|h
   ·omega
   ·have:W.heap.size<=gu:=h
    omega
  have hO2:=Zow hO0 hk1 hne0
  have hR0':Kd.R (Kd.int .u32) 85 w2' w.heap.size (fun k=>some k=v0.ownBlock) v0 QL:=Kd.Zdl (enc:=Value.int .u32) hO2 (fun k hk=>hk.symm)
  have hR2':=Kd.Zec hR2
  have hap:∀ k,v0.ownBlock=some k->v2.ownBlock=some k->False:=fun k h1 h2=>Zho hO2 hR2' (fun k hk=>hk.2.1) h1 h2
  have hnD0:v0.ownBlock ≠ some D:=fun e=>by
   rcases hR0.1 D e with h|h
   ·omega
   ·have:W.heap.size<=D:=h
    omega
  have hnD2:v2.ownBlock ≠ some D:=fun e=>by
   have h1:=hk1.1
   have h2:=(hR2'.1 D e).2.1
   omega
  refine ⟨_,by simp [results,Tryz.f127,go_sem],v0,v2,rfl,?_,?_,?_⟩
  ·rw [HQL.out]
   exact Kd.Zh (Kd.Zkp (Kd.Za hR0' hb2) (grownBy_putObj' _ D (.deferred none)) (fun k hk e=>by cases e;exact hnD0 hk.symm)) (fun k hk e=>hap k hk.symm e.symm)
  ·rw [HRL.out]
   exact Kd.Zh (Kd.Zkp (Kd.Zdl (ok:=fun k=>some k=v2.ownBlock) (enc:=Value.int .u32) (Ze0 (Kd.Zdx (enc:=Value.int .u32) hR2) hb1'.size) (fun k hk=>hk.symm)) (grownBy_putObj' _ D (.deferred none)) (fun k hk e=>by cases e;exact hnD2 hk.symm)) (fun k hk e=>hap k e.symm hk.symm)
  ·exact (hb1'.trans (hb2.mono hb1'.size)).trans (belowK_b (w:=w) (Nat.le_refl _) _ D _ _ (by omega) hK' rfl rfl)
def Zcz.f (l0 l1:List Int):Option (List Int × List Int):=if okW l0 && (okW l1 && decide (l1 ≠ [])) then some (limbs (num l0 / num l1),limbs (num l0 % num l1)) else none
theorem Zcz.calls (A0:Option Addr) (c0:Nat) (l0:List Int) (A1:Option Addr) (c1:Nat) (l1:List Int) (r1 r2:List Int) (w:World) (hr0:Kd.C (Kd.int .u32) w A0 l0.length l0) (hc0:l0.length<=c0) (hr1:Kd.C (Kd.int .u32) w A1 l1.length l1) (hc1:l1.length<=c1) (h:Zcz.f l0 l1=some (r1,r2)) :
  Calls Tryz.prog 127 #[.slice A0 l0.length c0,.slice A1 l1.length c1] w fun e w' => ∃ v0_ v1_:Value,e=.returned (.tuple #[v0_,v1_])/\Kd.R (Kd.int .u32) 85 w' w.heap.size (fun k_=>some k_ ≠ (v1_:Value).ownBlock) v0_ r1/\Kd.R (Kd.int .u32) 85 w' w.heap.size (fun k_=>some k_ ≠ (v0_:Value).ownBlock) v1_ r2/\Below w.heap.size w w':=by
 unfold Zcz.f at h
 split at h
 case isFalse=>cases h
 case isTrue hk =>
 simp only [Bool.and_eq_true,Zee,decide_eq_true_eq] at hk
 obtain ⟨rfl,rfl⟩:=Prod.mk.inj (Option.some.inj h)
 obtain ⟨h0,h1,hne⟩:=hk
 by_cases hlt:num l0 < num l1
 ·have := Zpt A0 c0 l0 A1 c1 l1 w hr0 hc0 hr1 hc1 h0 h1 hlt
  rw [Nat.div_eq_of_lt hlt,Nat.mod_eq_of_lt hlt,show limbs (num l0)=l0 from Zqy (b:=4294967296) (by omega) h0.dg h0.nz]
  exact this
 ·by_cases hone:l1.length=1
  ·exact div_one A0 c0 l0 A1 c1 l1 w hr0 hc0 hr1 hc1 h0 h1 hlt hone
  ·exact Zpu A0 c0 l0 A1 c1 l1 w hr0 hc0 hr1 hc1 h0 h1 hlt (by
    have:l1.length ≠ 0:=fun e=>hne (List.eq_nil_of_length_eq_zero e)
    omega)
end YtjbjkmccfocikaaGreatDoor.B
end
section
namespace YtjbjkmccfocikaaGreatDoor.B
open Go.RowKit YtjbjkmccfocikaaGreatDoorW.PrintWords YtjbjkmccfocikaaGreatDoorW.PrintLast YtjbjkmccfocikaaGreatDoorW.PrintMore
attribute [local go_sem] Zb7 Zb9 Zcr Zcs Zbp Zbq Zb8 Zca
def Zbw.l0:Nat->List Int->List Int->Option (List Int)
 | 0,_,_=>none
 | k+1,x0,x3=>(Zcz.f x0 x3).bind fun qt=>((Zac.f k x3 qt.1).bind fun qg=>((Zz.f k qg 1).bind fun qf=>((Zax.f qf x3).bind fun qh=>(if qh >= 0 then (some x3) else (Zbw.l0 k x0 qf)))))
def Zbw.f (k:Nat) (l0:List Int):Option (List Int):=if (l0.length:Int)=0 then (some ([]:List Int)) else (if 0<=(wrap64 (Int.tdiv (wrap64 ((l0.length:Int)+1)) 2)) then (if (wrap64 (Int.tdiv (wrap64 ((l0.length:Int)+1)) 2):Int).toNat<=70368744177664 then ((some (List.replicate (wrap64 (Int.tdiv (wrap64 ((l0.length:Int)+1)) 2):Int).toNat 0:List Int)).bind fun qe=>(if qe.length < 35184372088832 then (Zbw.l0 k l0 (qe ++ [1])) else (none))) else (none)) else (none))
theorem Zbw.calls (k:Nat) (A0:Option Addr) (c0:Nat) (l0:List Int) (r:List Int) (w:World) (hr0:Kd.C (Kd.int .u32) w A0 l0.length l0) (hc0:l0.length<=c0) (h:Zbw.f k l0=some r) :
  Calls Tryz.prog 135 #[.slice A0 l0.length c0] w fun e w' => ∃ v0_:Value,e=.returned (v0_)/\Kd.R (Kd.int .u32) 85 w' w.heap.size (fun _=>True) v0_ r/\Below w.heap.size w w':=by
 have HR0:=am hr0
 have HC0:=am hc0
 clear hr0 hc0
 have HB:=am (Below.refl w.heap.size w)
 have H:(if (l0.length:Int)=0 then (some ([]:List Int)) else (if 0<=(wrap64 (Int.tdiv (wrap64 ((l0.length:Int)+1)) 2)) then (if (wrap64 (Int.tdiv (wrap64 ((l0.length:Int)+1)) 2):Int).toNat<=70368744177664 then ((some (List.replicate (wrap64 (Int.tdiv (wrap64 ((l0.length:Int)+1)) 2):Int).toNat 0:List Int)).bind fun qe=>(if qe.length < 35184372088832 then (Zbw.l0 k l0 (qe ++ [1])) else (none))) else (none)) else (none)))=some r:=h
 clear h
 by_cases c2:(l0.length:Int)=0
 ·rw [if_pos c2] at H
  have c2b0:((l0.length:Int) == 0)=true:=beq_iff_eq.mpr c2
  have c2b1:((l0.length:Int) != 0)=false:=bne_eq_false_iff_eq.mpr c2
  clear c2
  obtain rfl:=Option.some.inj H
  go_enter Tryz.func135,Tryz.ntmps135
  go_wp2
  go_ret
  exact ⟨_,pE,pN,pB⟩
 ·rw [if_neg c2] at H
  have c2b0:((l0.length:Int) == 0)=false:=beq_eq_false_iff_ne.mpr c2
  have c2b1:((l0.length:Int) != 0)=true:=bne_iff_ne.mpr c2
  have c2b2:¬ (l0=[]):=fun h_=>c2 (by rw [h_];rfl)
  obtain ⟨ji3,hji3⟩:∃ j_:Int,(wrap64 (Int.tdiv (wrap64 ((l0.length:Int)+1)) 2))=j_:=⟨_,rfl⟩
  replace H:(if 0<=(ji3) then (if (ji3:Int).toNat<=70368744177664 then ((some (List.replicate (ji3:Int).toNat 0:List Int)).bind fun qe=>(if qe.length < 35184372088832 then (Zbw.l0 k l0 (qe ++ [1])) else (none))) else (none)) else (none))=some r:=by first|(rw [hji3] at H;exact H)|(simp only [hji3] at H ⊢;exact H)
  have hji3w:(IntKind.i64.wrap (Int.tdiv (wrap64 ((l0.length:Int)+1)) 2))=ji3:=(Zcd _).trans hji3
  by_cases c4:0<=(ji3)
  ·rw [if_pos c4] at H
   have c4b0:=eq_true c4
   have c4b1:decide (0<=(ji3))=true:=decide_eq_true c4
   clear c4
   by_cases c5:(ji3:Int).toNat<=70368744177664
   ·rw [if_pos c5] at H
    have c5b0:=eq_true c5
    have c5b1:decide ((ji3:Int).toNat<=70368744177664)=true:=decide_eq_true c5
    clear c5
    obtain ⟨qe,qj⟩:∃ y_:List Int,y_=(List.replicate (ji3:Int).toNat 0):=⟨_,rfl⟩
    replace H:(if qe.length < 35184372088832 then (Zbw.l0 k l0 (qe ++ [1])) else (none))=some r:=by have hy_:=qj;exact pH
    have qm:=am qj
    clear qj
    by_cases c6:qe.length < 35184372088832
    ·rw [if_pos c6] at H
     have LMc6:=am c6
     clear c6
     obtain ⟨qv,qk⟩:∃ y_:List Int,y_=(qe ++ [1]):=⟨_,rfl⟩
     replace H:(Zbw.l0 k l0 qv)=some r:=by have hy_:=qk;exact pH
     have qs:=am qk
     clear qk
     have H':=am H
     clear H
     go_enter Tryz.func135,Tryz.ntmps135
     go_wp2_with (first|((with_reducible refine gd 14 ?_);refine Kd.Zlr (Kd.int .u32) _ 85 rfl (N:=14) rfl 134 _ _ rfl ji3 rfl rfl Tryz.underlying134 (.int .u32 0) 4 info85 rfl (by decide) (by omega) 0 (ok:=fun _=>True) (okp:=fun _=>True) rfl (fun _ hk=>hk) trivial (of_decide_eq_true pQ) (Nat.le_trans (Nat.mul_le_mul_right _ (of_decide_eq_true pQ:ji3.toNat<=70368744177664)) (by omega)) (Below.refl _ _) (Nat.le_refl _) ?_;intro jg w7 ho8 hb hg_ hnew_;clear hg_ hnew_;(first|rw [<- qm.out] at ho8|(simp only [Int.reduceToNat] at ho8;rw [<- qm.out] at ho8));have ql:=am (Kd.Zo ho8 (Zd pB));replace HB:=bS hb;clear hb ho8)|((with_reducible refine Zam (b:=.append) (xs:=#[.tmp 14,.tmp 15]) rfl ?_);at_builtin;refine Kd.Zb1 (Kd.int .u32) (w0:=w) w.heap.size rfl (.tmp 14) (.tmp 15) 134 85 (.int .u32 0) 4 rfl Tryz.underlying134 info85 rfl (by decide) (by omega) jg qe 1 [.int .u32 1] (fun _=>True) (fun _=>False) rfl rfl ?aP (fun _ hk=>hk.elim) ?aF ?aO ?aB ?aS ?aL ?_;(case aP=>exact rfl);(case aB=>exact pB);(case aF=>exact (fun _ _=>trivial));(case aO=>exact (Kd.Za ql.o pl));(case aS=>exact (Zd pB));(case aL=>have := LMc6.o;omega);intro jl w9 ho hb hg hat;rw [<- qs.out] at ho;have qr:=am ho;replace HB:=am hb;clear ql ho hb hg hat))
     go_loopg [3] k (fun kq v3 w' => ∃ (x3_1:List Int),Aside0 (Zbw.l0 kq l0 x3_1=some r)/\Aside0 (kq<=k)/\Aside0 (Kd.R (Kd.int .u32) 85 w' w.heap.size (fun _=>True) v3 x3_1)/\Aside0 (Below w.heap.size w w'))
     case atStart=>exact ⟨(qv),H',⟨Nat.le_refl _⟩,⟨by refine rp ?_;exact qr.o⟩,⟨pB⟩⟩
     case round =>
      clear H'
      obtain ⟨x3_1,HA,HK1,HO_3,HB⟩:=hrel
      cases gk with
      | zero=>exact absurd HA.out (by simp [Zbw.l0])
      | succ k1 =>
       have H:=HA.out
       clear HA
       simp only [Zbw.l0] at H
       obtain ⟨⟨qi,qu⟩,A10,H⟩:=ob H;(try dsimp only at H)
       obtain ⟨qg,A11,H⟩:=ob H
       obtain ⟨qf,A12,H⟩:=ob H
       obtain ⟨qh,A13,H⟩:=ob H
       by_cases c14:qh >= 0
       ·rw [if_pos c14] at H
        have c14b0:decide (0<=qh)=true:=decide_eq_true c14
        clear c14
        obtain rfl:=Option.some.inj H
        obtain ⟨qn,qp,q8⟩:=Kd.Zj HO_3.o
        subst q8
        go_wp2_with (first|(refine gL (some 20) Tryz.func127 #[.slice A0 l0.length c0,.slice qn x3_1.length qp] (h:=?_);(with_reducible refine (Zcz.calls _ _ l0 _ _ x3_1 qi qu _ ?side1 ?side2 ?side3 ?side4 A10.o).mono ?_);(case side1=>exact cB HR0 HB);(case side2=>exact HC0.o);(case side3=>exact Kd.Zn (Kd.Zc HO_3.o).2.2 pl);(case side4=>exact (Kd.Zc HO_3.o).2.1);rintro e w16 ⟨jh,ji,rfl,ho0,ho1,hb⟩;refine ⟨_,rfl,?_⟩;have qa:=am (Kd.Zo (Kd.Zs ho0 (Kd.R_lt (Kd.Za HO_3.o pl))) (Zd pB));have qb:=am (Kd.Zo (Kd.Zs ho1 (Kd.R_lt (Kd.Za HO_3.o pl))) (Zd pB));replace HO_3:=am (Kd.Zh (Kd.Zda (Kd.Zda (Kd.Zf2 (Kd.Za HO_3.o pl) hb) (Kd.Zaz ho0)) (Kd.Zaz ho1)) (fun _ h_=>h_.1));replace HB:=bS hb;obtain ⟨qw,q2,q9⟩:=Kd.Zj qa.o;subst q9)|(refine gL (some 25) Tryz.func131 #[.slice qn x3_1.length qp,.slice qw qi.length q2] (h:=?_);(with_reducible refine (Zac.calls k1 _ _ x3_1 _ _ qi qg _ ?side1 ?side2 ?side3 ?side4 A11.o).mono ?_);(case side1=>exact Kd.Zn (Kd.Zc HO_3.o).2.2 pl);(case side2=>exact (Kd.Zc HO_3.o).2.1);(case side3=>exact Kd.Zn (Kd.Zc qa.o).2.2 pl);(case side4=>exact (Kd.Zc qa.o).2.1);rintro e w18 ⟨jj,rfl,ho0,hb⟩;refine ⟨_,rfl,?_⟩;have qc:=am (Kd.Zo (Kd.Zs (Kd.Zs (Kd.Zs ho0 (Kd.R_lt (Kd.Za HO_3.o pl))) (Kd.R_lt (Kd.Za qa.o pl))) (Kd.R_lt (Kd.Za qb.o pl))) (Zd pB));replace HO_3:=reR HO_3 ho0 hb;replace qa:=reR qa ho0 hb;replace qb:=reR qb ho0 hb;replace HB:=bS hb;obtain ⟨qx,q3,ja⟩:=Kd.Zj qc.o;subst ja)|(refine gL (some 26) Tryz.func162 #[.slice qx qg.length q3,.int .i64 1] (h:=?_);(with_reducible refine (Zz.calls k1 _ _ qg 1 qf _ ?side1 ?side2 A12.o).mono ?_);(case side1=>exact Kd.Zn (Kd.Zc qc.o).2.2 pl);(case side2=>exact (Kd.Zc qc.o).2.1);rintro e w20 ⟨jk,rfl,ho0,hb⟩;refine ⟨_,rfl,?_⟩;have qd:=am (Kd.Zo (Kd.Zs (Kd.Zs (Kd.Zs (Kd.Zs ho0 (Kd.R_lt (Kd.Za HO_3.o pl))) (Kd.R_lt (Kd.Za qa.o pl))) (Kd.R_lt (Kd.Za qb.o pl))) (Kd.R_lt (Kd.Za qc.o pl))) (Zd pB));replace HO_3:=reR HO_3 ho0 hb;replace qa:=reR qa ho0 hb;replace qb:=reR qb ho0 hb;replace qc:=reR qc ho0 hb;replace HB:=bS hb;obtain ⟨qy,q4,jb⟩:=Kd.Zj qd.o;subst jb)|(refine gL (some 29) Tryz.func138 #[.slice qy qf.length q4,.slice qn x3_1.length qp] (h:=?_);(with_reducible refine (Zax.calls _ _ qf _ _ x3_1 qh _ ?side1 ?side2 ?side3 ?side4 A13.o).mono ?_);(case side1=>exact Kd.Zn (Kd.Zc qd.o).2.2 pl);(case side2=>exact (Kd.Zc qd.o).2.1);(case side3=>exact Kd.Zn (Kd.Zc HO_3.o).2.2 pl);(case side4=>exact (Kd.Zc HO_3.o).2.1);rintro e w22 ⟨rfl,hb⟩;refine ⟨_,rfl,?_⟩;replace HO_3:=rbl HO_3 hb;replace qa:=rbl qa hb;replace qb:=rbl qb hb;replace qc:=rbl qc hb;replace qd:=rbl qd hb;replace HB:=bS hb))
        go_ret
        exact ⟨_,by first|rfl|(simp [Zak,Zal] <;> rfl)|(simp only [<- hji3];first|rfl|(simp [Zak,Zal] <;> rfl))|(simp [*,Zak,Zal] <;> rfl),by refine rp ?_;exact Kd.Zh HO_3.o (fun _ hk=>trivial),pB⟩
       ·rw [if_neg c14] at H
        have c14b0:decide (0<=qh)=false:=decide_eq_false c14
        clear c14
        have H':=am H
        clear H
        obtain ⟨qo,qq,jc⟩:=Kd.Zj HO_3.o
        subst jc
        go_wp2_with (first|(refine gL (some 20) Tryz.func127 #[.slice A0 l0.length c0,.slice qo x3_1.length qq] (h:=?_);(with_reducible refine (Zcz.calls _ _ l0 _ _ x3_1 qi qu _ ?side1 ?side2 ?side3 ?side4 A10.o).mono ?_);(case side1=>exact cB HR0 HB);(case side2=>exact HC0.o);(case side3=>exact Kd.Zn (Kd.Zc HO_3.o).2.2 pl);(case side4=>exact (Kd.Zc HO_3.o).2.1);rintro e w24 ⟨jh,ji,rfl,ho0,ho1,hb⟩;refine ⟨_,rfl,?_⟩;have qa:=am (Kd.Zo (Kd.Zs ho0 (Kd.R_lt (Kd.Za HO_3.o pl))) (Zd pB));have qb:=am (Kd.Zo (Kd.Zs ho1 (Kd.R_lt (Kd.Za HO_3.o pl))) (Zd pB));replace HO_3:=am (Kd.Zh (Kd.Zda (Kd.Zda (Kd.Zf2 (Kd.Za HO_3.o pl) hb) (Kd.Zaz ho0)) (Kd.Zaz ho1)) (fun _ h_=>h_.1));replace HB:=bS hb;obtain ⟨qz,q5,jd⟩:=Kd.Zj qa.o;subst jd)|(refine gL (some 25) Tryz.func131 #[.slice qo x3_1.length qq,.slice qz qi.length q5] (h:=?_);(with_reducible refine (Zac.calls k1 _ _ x3_1 _ _ qi qg _ ?side1 ?side2 ?side3 ?side4 A11.o).mono ?_);(case side1=>exact Kd.Zn (Kd.Zc HO_3.o).2.2 pl);(case side2=>exact (Kd.Zc HO_3.o).2.1);(case side3=>exact Kd.Zn (Kd.Zc qa.o).2.2 pl);(case side4=>exact (Kd.Zc qa.o).2.1);rintro e w26 ⟨jj,rfl,ho0,hb⟩;refine ⟨_,rfl,?_⟩;have qc:=am (Kd.Zo (Kd.Zs (Kd.Zs (Kd.Zs ho0 (Kd.R_lt (Kd.Za HO_3.o pl))) (Kd.R_lt (Kd.Za qa.o pl))) (Kd.R_lt (Kd.Za qb.o pl))) (Zd pB));replace HO_3:=reR HO_3 ho0 hb;replace qa:=reR qa ho0 hb;replace qb:=reR qb ho0 hb;replace HB:=bS hb;obtain ⟨q0,q6,je⟩:=Kd.Zj qc.o;subst je)|(refine gL (some 26) Tryz.func162 #[.slice q0 qg.length q6,.int .i64 1] (h:=?_);(with_reducible refine (Zz.calls k1 _ _ qg 1 qf _ ?side1 ?side2 A12.o).mono ?_);(case side1=>exact Kd.Zn (Kd.Zc qc.o).2.2 pl);(case side2=>exact (Kd.Zc qc.o).2.1);rintro e w28 ⟨jk,rfl,ho0,hb⟩;refine ⟨_,rfl,?_⟩;have qd:=am (Kd.Zo (Kd.Zs (Kd.Zs (Kd.Zs (Kd.Zs ho0 (Kd.R_lt (Kd.Za HO_3.o pl))) (Kd.R_lt (Kd.Za qa.o pl))) (Kd.R_lt (Kd.Za qb.o pl))) (Kd.R_lt (Kd.Za qc.o pl))) (Zd pB));replace HO_3:=reR HO_3 ho0 hb;replace qa:=reR qa ho0 hb;replace qb:=reR qb ho0 hb;replace qc:=reR qc ho0 hb;replace HB:=bS hb;obtain ⟨q1,q7,jf⟩:=Kd.Zj qd.o;subst jf)|(refine gL (some 29) Tryz.func138 #[.slice q1 qf.length q7,.slice qo x3_1.length qq] (h:=?_);(with_reducible refine (Zax.calls _ _ qf _ _ x3_1 qh _ ?side1 ?side2 ?side3 ?side4 A13.o).mono ?_);(case side1=>exact Kd.Zn (Kd.Zc qd.o).2.2 pl);(case side2=>exact (Kd.Zc qd.o).2.1);(case side3=>exact Kd.Zn (Kd.Zc HO_3.o).2.2 pl);(case side4=>exact (Kd.Zc HO_3.o).2.1);rintro e w30 ⟨rfl,hb⟩;refine ⟨_,rfl,?_⟩;replace HO_3:=rbl HO_3 hb;replace qa:=rbl qa hb;replace qb:=rbl qb hb;replace qc:=rbl qc hb;replace qd:=rbl qd hb;replace HB:=bS hb))
        go_roundg k1
        case measure=>have := HK1.out;omega
        case rel=>exact ⟨(qf),(by first|exact H'|(have H_:=H'.out;simp only [<- hji3] at H_;exact ⟨H_⟩)|(refine ⟨?_⟩;have H_:=H'.out;simp only [<- hji3] at H_ ⊢;exact H_)),⟨by have := HK1.out;omega⟩,⟨by refine rp ?_;exact Kd.Zh qd.o (fun _ hk=>trivial)⟩,⟨pB⟩⟩
    ·rw [if_neg c6] at H
     exact absurd H (by simp)
   ·rw [if_neg c5] at H
    exact absurd H (by simp)
  ·rw [if_neg c4] at H
   exact absurd H (by simp)
def Zfq.f (k:Nat) (l0:List Int):Option (List Int × Int):=(Za3.f l0).bind fun qa=>(if qa=0 then ((Zbw.f k l0).bind fun qb=>(some (qb,0))) else (some (([]:List Int),qa)))
theorem Zfq.calls (k:Nat) (A0:Option Addr) (c0:Nat) (l0:List Int) (r1:List Int) (r2:Int) (w:World) (hr0:Kd.C (Kd.int .u32) w A0 l0.length l0) (hc0:l0.length<=c0) (h:Zfq.f k l0=some (r1,r2)) :
  Calls Tryz.prog 82 #[.slice A0 l0.length c0] w fun e w' => ∃ v0_:Value,e=.returned (.tuple #[v0_,.int .i64 r2])/\Kd.R (Kd.int .u32) 85 w' w.heap.size (fun _=>True) v0_ r1/\Below w.heap.size w w':=by
 have HR0:=am hr0
 have HC0:=am hc0
 clear hr0 hc0
 have HB:=am (Below.refl w.heap.size w)
 have H:((Za3.f l0).bind fun qa=>(if qa=0 then ((Zbw.f k l0).bind fun qb=>(some (qb,0))) else (some (([]:List Int),qa))))=some (r1,r2):=h
 clear h
 obtain ⟨qa,A2,H⟩:=ob H
 by_cases c3:qa=0
 ·rw [if_pos c3] at H
  have c3b0:(qa == 0)=true:=beq_iff_eq.mpr c3
  have c3b1:(qa != 0)=false:=bne_eq_false_iff_eq.mpr c3
  clear c3
  obtain ⟨qb,A4,H⟩:=ob H
  simp only [Option.some.injEq,Prod.mk.injEq] at H
  obtain ⟨rfl,rfl⟩:=H
  go_enter Tryz.func82,Tryz.ntmps82
  go_wp2_with (first|(refine gL (some 6) Tryz.func108 #[.slice A0 l0.length c0] (h:=?_);(with_reducible refine (Za3.calls _ _ l0 qa _ ?side1 ?side2 A2.o).mono ?_);(case side1=>refine cp ?_;exact HR0.o);(case side2=>exact HC0.o);rintro e w' ⟨rfl,⟨nd,rfl⟩⟩;refine ⟨_,rfl,?_⟩)|(refine gL (some 11) Tryz.func135 #[.slice A0 l0.length c0] (h:=?_);(with_reducible refine (Zbw.calls k _ _ l0 qb _ ?side1 ?side2 A4.o).mono ?_);(case side1=>refine cp ?_;exact HR0.o);(case side2=>exact HC0.o);rintro e w5 ⟨qd,rfl,ho0,hb⟩;refine ⟨_,rfl,?_⟩;have qc:=am (Kd.Zo ho0 (Zd pB));replace HB:=bS hb))
  go_ret2
  exact ⟨_,pE,by refine rp ?_;exact qc.o,pB⟩
 ·rw [if_neg c3] at H
  have c3b0:(qa == 0)=false:=beq_eq_false_iff_ne.mpr c3
  have c3b1:(qa != 0)=true:=bne_iff_ne.mpr c3
  simp only [Option.some.injEq,Prod.mk.injEq] at H
  obtain ⟨rfl,rfl⟩:=H
  go_enter Tryz.func82,Tryz.ntmps82
  go_wp2_with (first|(refine gL (some 6) Tryz.func108 #[.slice A0 l0.length c0] (h:=?_);(with_reducible refine (Za3.calls _ _ l0 qa _ ?side1 ?side2 A2.o).mono ?_);(case side1=>refine cp ?_;exact HR0.o);(case side2=>exact HC0.o);rintro e w' ⟨rfl,⟨nd,rfl⟩⟩;refine ⟨_,rfl,?_⟩))
  go_ret2
  exact ⟨_,pE,pN,pB⟩
def Zdi.f (k:Nat) (l0:List Int) (l1:List Int):Option (List Int × List Int × Int):=(Zdp.f k l0 l1).bind fun qa=>(if qa=0 then (if (l1.length:Int)=0 then (some (([]:List Int),([]:List Int),53)) else ((Zcz.f l0 l1).bind fun qb=>(some (qb.1,qb.2,0)))) else (some (([]:List Int),([]:List Int),qa)))
theorem Zdi.calls (k:Nat) (A0:Option Addr) (c0:Nat) (l0:List Int) (A1:Option Addr) (c1:Nat) (l1:List Int) (r1:List Int) (r2:List Int) (r3:Int) (w:World) (hr0:Kd.C (Kd.int .u32) w A0 l0.length l0) (hc0:l0.length<=c0) (hr1:Kd.C (Kd.int .u32) w A1 l1.length l1) (hc1:l1.length<=c1) (h:Zdi.f k l0 l1=some (r1,r2,r3)) :
  Calls Tryz.prog 69 #[.slice A0 l0.length c0,.slice A1 l1.length c1] w fun e w' => ∃ v0_ v1_:Value,e=.returned (.tuple #[v0_,v1_,.int .i64 r3])/\Kd.R (Kd.int .u32) 85 w' w.heap.size (fun k_=>some k_ ≠ (v1_:Value).ownBlock) v0_ r1/\Kd.R (Kd.int .u32) 85 w' w.heap.size (fun k_=>some k_ ≠ (v0_:Value).ownBlock) v1_ r2/\Below w.heap.size w w':=by
 have HR0:=am hr0
 have HC0:=am hc0
 clear hr0 hc0
 have HR1:=am hr1
 have HC1:=am hc1
 clear hr1 hc1
 have HB:=am (Below.refl w.heap.size w)
 have H:((Zdp.f k l0 l1).bind fun qa=>(if qa=0 then (if (l1.length:Int)=0 then (some (([]:List Int),([]:List Int),53)) else ((Zcz.f l0 l1).bind fun qb=>(some (qb.1,qb.2,0)))) else (some (([]:List Int),([]:List Int),qa))))=some (r1,r2,r3):=h
 clear h
 obtain ⟨qa,A3,H⟩:=ob H
 by_cases c4:qa=0
 ·rw [if_pos c4] at H
  have c4b0:(qa == 0)=true:=beq_iff_eq.mpr c4
  have c4b1:(qa != 0)=false:=bne_eq_false_iff_eq.mpr c4
  clear c4
  by_cases c5:(l1.length:Int)=0
  ·rw [if_pos c5] at H
   have c5b0:((l1.length:Int) == 0)=true:=beq_iff_eq.mpr c5
   have c5b1:((l1.length:Int) != 0)=false:=bne_eq_false_iff_eq.mpr c5
   clear c5
   simp only [Option.some.injEq,Prod.mk.injEq] at H
   obtain ⟨rfl,rfl,rfl⟩:=H
   go_enter Tryz.func69,Tryz.ntmps69
   go_wp2_with (first|(refine gL (some 12) Tryz.func126 #[.slice A0 l0.length c0,.slice A1 l1.length c1] (h:=?_);(with_reducible refine (Zdp.calls k _ _ l0 _ _ l1 qa _ ?side1 ?side2 ?side3 ?side4 A3.o).mono ?_);(case side1=>refine cp ?_;exact HR0.o);(case side2=>exact HC0.o);(case side3=>refine cp ?_;exact HR1.o);(case side4=>exact HC1.o);rintro e w6 ⟨rfl,hb⟩;refine ⟨_,rfl,?_⟩;replace HB:=bS hb))
   go_ret3
   exact ⟨_,_,pE,pN,pN,pB⟩
  ·rw [if_neg c5] at H
   have c5b0:((l1.length:Int) == 0)=false:=beq_eq_false_iff_ne.mpr c5
   have c5b1:((l1.length:Int) != 0)=true:=bne_iff_ne.mpr c5
   have c5b2:¬ (l1=[]):=fun h_=>c5 (by rw [h_];rfl)
   obtain ⟨⟨qe,qf⟩,A7,H⟩:=ob H;(try dsimp only at H)
   simp only [Option.some.injEq,Prod.mk.injEq] at H
   obtain ⟨rfl,rfl,rfl⟩:=H
   go_enter Tryz.func69,Tryz.ntmps69
   go_wp2_with (first|(refine gL (some 12) Tryz.func126 #[.slice A0 l0.length c0,.slice A1 l1.length c1] (h:=?_);(with_reducible refine (Zdp.calls k _ _ l0 _ _ l1 qa _ ?side1 ?side2 ?side3 ?side4 A3.o).mono ?_);(case side1=>refine cp ?_;exact HR0.o);(case side2=>exact HC0.o);(case side3=>refine cp ?_;exact HR1.o);(case side4=>exact HC1.o);rintro e w8 ⟨rfl,hb⟩;refine ⟨_,rfl,?_⟩;replace HB:=bS hb)|(refine gL (some 22) Tryz.func127 #[.slice A0 l0.length c0,.slice A1 l1.length c1] (h:=?_);(with_reducible refine (Zcz.calls _ _ l0 _ _ l1 qe qf _ ?side1 ?side2 ?side3 ?side4 A7.o).mono ?_);(case side1=>exact cB HR0 HB);(case side2=>exact HC0.o);(case side3=>exact cB HR1 HB);(case side4=>exact HC1.o);rintro e w9 ⟨qg,qh,rfl,ho0,ho1,hb⟩;refine ⟨_,rfl,?_⟩;have qc:=am (Kd.Zo ho0 (Zd pB));have qd:=am (Kd.Zo ho1 (Zd pB));replace HB:=bS hb))
   go_ret3
   exact ⟨_,_,pE,by refine rp ?_;exact qc.o,by refine rp ?_;exact qd.o,pB⟩
 ·rw [if_neg c4] at H
  have c4b0:(qa == 0)=false:=beq_eq_false_iff_ne.mpr c4
  have c4b1:(qa != 0)=true:=bne_iff_ne.mpr c4
  simp only [Option.some.injEq,Prod.mk.injEq] at H
  obtain ⟨rfl,rfl,rfl⟩:=H
  go_enter Tryz.func69,Tryz.ntmps69
  go_wp2_with (first|(refine gL (some 12) Tryz.func126 #[.slice A0 l0.length c0,.slice A1 l1.length c1] (h:=?_);(with_reducible refine (Zdp.calls k _ _ l0 _ _ l1 qa _ ?side1 ?side2 ?side3 ?side4 A3.o).mono ?_);(case side1=>refine cp ?_;exact HR0.o);(case side2=>exact HC0.o);(case side3=>refine cp ?_;exact HR1.o);(case side4=>exact HC1.o);rintro e w10 ⟨rfl,hb⟩;refine ⟨_,rfl,?_⟩;replace HB:=bS hb))
  go_ret3
  exact ⟨_,_,pE,pN,pN,pB⟩
def Zcj.f (k:Nat) (a0:Int):Option (List Int):=(Zv.f k (([(a0) % 4294967296,(a0 / 4294967296) % 4294967296]:List Int))).bind fun qa=>(some qa)
theorem Zcj.calls (k:Nat) (a0:Int) (r:List Int) (w:World) (h:Zcj.f k a0=some r) :
  Calls Tryz.prog 76 #[.int .u64 a0] w fun e w' => ∃ v0_:Value,e=.returned (v0_)/\Kd.R (Kd.int .u32) 85 w' w.heap.size (fun _=>True) v0_ r/\Below w.heap.size w w':=by
 have HB:=am (Below.refl w.heap.size w)
 have H:((Zv.f k (([(a0) % 4294967296,(a0 / 4294967296) % 4294967296]:List Int))).bind fun qa=>(some qa))=some r:=h
 clear h
 obtain ⟨qd,qc⟩:∃ y_:List Int,y_=(([(a0) % 4294967296,(a0 / 4294967296) % 4294967296]:List Int)):=⟨_,rfl⟩
 replace H:((Zv.f k qd).bind fun qa=>(some qa))=some r:=by have hy_:=qc;exact pH
 have qe:=am qc
 clear qc
 obtain ⟨qa,A2,H⟩:=ob H
 obtain rfl:=Option.some.inj H
 go_enter Tryz.func76,Tryz.ntmps76
 go_wp2_with (first|((with_reducible refine gd 8 ?_);refine Kd.Zf1 (Kd.int .u32) _ 85 ?hg (N:=8) ?hd (xs:=([(a0) % 4294967296,(a0 / 4294967296) % 4294967296]:List Int)) (inner:=[.int .u32 ((a0) % 4294967296),.int .u32 ((a0 / 4294967296) % 4294967296)]) (ok:=fun _=>True) (okp:=fun _=>True) ?hr ?hp (fun _ hk=>hk) trivial (Below.refl _ _) (Nat.le_refl _) (by simp) ?_;(case hd=>rfl);(case hg=>rfl);(case hr=>first|(go_simp;done)|(go_simp;rfl));(case hp=>exact (Reps.one (show Kd.M (Kd.int .u32) _ _ _ ((a0) % 4294967296) [.int .u32 ((a0) % 4294967296)] from rfl) (Reps.one (show Kd.M (Kd.int .u32) _ _ _ ((a0 / 4294967296) % 4294967296) [.int .u32 ((a0 / 4294967296) % 4294967296)] from rfl) (Reps.none _ _))));intro qg w3 ho4 hb hg_ hnew_;clear hg_ hnew_;(first|rw [<- qe.out] at ho4|(simp only [Int.reduceToNat] at ho4;rw [<- qe.out] at ho4));have qb:=am (Kd.Zo ho4 (Zd pB));replace HB:=bS hb;clear hb ho4;obtain ⟨Ao5,co5,eo5⟩:=Kd.Zj qb.o;subst eo5)|(refine gL (some 9) Tryz.func132 #[.slice Ao5 qd.length co5] (h:=?_);(with_reducible refine (Zv.calls k (fun k_=>some k_=(.slice Ao5 qd.length co5:Value).ownBlock) (.slice Ao5 qd.length co5) qd qa w _ ?side1 ?side2 A2.o).mono ?_);(case side1=>exact pB);(case side2=>exact Kd.Zbj rfl qb.o);rintro e w6 ⟨qh,rfl,ho0,hb,hkp⟩;refine ⟨_,rfl,?_⟩;have qf:=am (Kd.Zh (ok':=fun k_=>True) ho0 (fun k_ hk_=>trivial));replace HB:=am hb;clear qb))
 go_ret
 exact ⟨_,pE,by refine rp ?_;exact qf.o,pB⟩
end YtjbjkmccfocikaaGreatDoor.B
end
section
namespace YtjbjkmccfocikaaGreatDoor.P
open Go.RowKit YtjbjkmccfocikaaGreatDoor.B YtjbjkmccfocikaaGreatDoorW.PrintWords YtjbjkmccfocikaaGreatDoorW.PrintLast YtjbjkmccfocikaaGreatDoorW.PrintMore YtjbjkmccfocikaaGreatDoor.P.Nm
theorem Zgb {m n:Nat} (hm:nd m<=1000000) (hn:nd n<=1000000):Tells (fun k=>Zad.f k (limbs m) (limbs n)) (limbs (m*n)):=by
 have := Zoj (Zc7 m) (Zc7 n) (Nat.le_trans (Zek m) hm) (Nat.le_trans (Zek n) hn)
 rw [Zc0,Zc0] at this;exact this
theorem Zjo {m n:Nat} (hm:nd m<=1000000) (hn:nd n<=1000000):Tells (fun k=>Zac.f k (limbs m) (limbs n)) (limbs (m+n)):=by
 have := Znx (Zc7 m) (Zc7 n) (Nat.le_trans (Zek m) hm) (Nat.le_trans (Zek n) hn)
 rw [Zc0,Zc0] at this;exact this
theorem Zn4 {m n:Nat} (hm:nd m<=1000000) (hn:nd n<=1000000):Zax.f (limbs m) (limbs n)=some (cmpN m n):=by
 unfold Zax.f
 rw [Zff hm,Zff hn,Bool.and_self,if_pos rfl,Zc0,Zc0]
 congr 1
 unfold cmpI cmpN
 by_cases h1:m < n
 ·rw [if_pos h1,if_pos (by omega)]
 ·rw [if_neg h1,if_neg (by omega)]
  by_cases h2:n < m
  ·rw [if_pos h2,if_pos (by omega)]
  ·rw [if_neg h2,if_neg (by omega)]
theorem Zn9 {m n:Nat} (h0:n ≠ 0) (hm:nd m<=1000000) (hn:nd n<=1000000):Zcz.f (limbs m) (limbs n)=some (limbs (m / n),limbs (m % n)):=by
 unfold Zcz.f
 rw [Zff hm,Zff hn,decide_eq_true (Zeq h0),Zc0,Zc0];rfl
theorem Zlc {m:Nat} (hm:nd m<=1000000) (b:Nat) (h0:0 < b) (hb:b < 4294967296):Zct.f (limbs m) (b:Int)=some (limbs (m / b),((m % b:Nat):Int)):=by
 unfold Zct.f
 rw [Zff hm,decide_eq_true (show (0:Int) < (b:Int) by omega),decide_eq_true (show (b:Int) < 4294967296 by omega),Zc0,Int.toNat_natCast];rfl
theorem Zsl (m n:Nat):nd (m+n)<=max (nd m) (nd n)+1:=by
 refine Zgt ?_
 have h1:=Zj0 m
 have h2:=Zj0 n
 have h3:=Nat.pow_le_pow_right (show 0 < 10 by omega) (Nat.le_max_left (nd m) (nd n))
 have h4:=Nat.pow_le_pow_right (show 0 < 10 by omega) (Nat.le_max_right (nd m) (nd n))
 rw [Nat.pow_succ];omega
theorem Zj2 (k:Nat):nd (10 ^ k)=k+1:=Ztb (Nat.le_refl _) (Nat.pow_lt_pow_right (by omega) (by omega))
theorem Zjb:∀ (f n o b:Nat),n<=f->n<=2400->nd (o*b ^ n)<=100000->1<=o->1<=b->nd b<=100000->Tells (fun k=>Zbx.l0 k (n:Int) (limbs o) (limbs b)) (limbs (o*b ^ n))
 | f,0,o,b,hf,hn,hd,ho,hb,hb2=>by
  refine Tells.succ ?_
  simp only [Zbx.l0]
  exact Tells.ifn (by omega) ((Tells.pure _).val (by rw [Nat.pow_zero,Nat.mul_one]))
 | 0,n+1,o,b,hf,hn,hd,ho,hb,hb2=>by omega
 | f+1,n+1,o,b,hf,hn,hd,ho,hb,hb2=>by
  have hbp:∀ k,1<=b ^ k:=fun k=>Nat.pow_pos (by omega)
  have hdo:nd o<=100000:=Nat.le_trans (Zev (Nat.le_mul_of_pos_right o (hbp (n+1)))) hd
  have hhalf:n+1=2*((n+1) / 2)+(n+1) % 2:=(Nat.div_add_mod (n+1) 2).symm
  have hpw:b ^ (n+1)=(b*b) ^ ((n+1) / 2)*b ^ ((n+1) % 2):=by
   conv=>lhs;rw [hhalf]
   rw [Nat.pow_add,Nat.pow_mul,Nat.pow_two]
  have e1:Int.tmod ((n+1:Nat):Int) 2=(((n+1) % 2:Nat):Int):=by rw [Int.tmod_eq_emod_of_nonneg (by omega)];omega
  have e2:Int.tdiv ((n+1:Nat):Int) 2=(((n+1) / 2:Nat):Int):=by rw [Int.tdiv_eq_ediv_of_nonneg (by omega)];omega
  have hobb:=Zgb (m:=o) (n:=b) (by omega) (by omega)
  have hbb:=Zgb (m:=b) (n:=b) (by omega) (by omega)
  have sq:∀ o',o'*(b*b) ^ ((n+1) / 2)=o*b ^ (n+1)->1<=o'->Tells (fun k=>if ((n+1:Nat):Int) > 1 then ((Zad.f k (limbs b) (limbs b)).bind fun t=>Zbx.l0 k (((n+1) / 2:Nat):Int) (limbs o') t) else Zbx.l0 k (((n+1) / 2:Nat):Int) (limbs o') (limbs b)) (limbs (o*b ^ (n+1))):=fun o' ho' ho1=>by
   by_cases hn1:1 < n+1
   ·have hnd2:nd (b*b)<=100000:=by
     refine Nat.le_trans (Zev ?_) hd
     rw [<- ho']
     have h1:(b*b) ^ 1<=(b*b) ^ ((n+1) / 2):=Nat.pow_le_pow_right (Nat.mul_pos (by omega) (by omega)) (by omega)
     rw [Nat.pow_one] at h1
     exact Nat.le_trans h1 (Nat.le_mul_of_pos_left _ (by omega))
    have ih:=Zjb f ((n+1) / 2) o' (b*b) (by omega) (by omega) (by rw [ho'];exact hd) ho1 (Nat.mul_pos (by omega) (by omega)) hnd2
    rw [ho'] at ih
    exact Tells.ifp (by omega) (hbb.bind ih)
   ·have hz:(n+1) / 2=0:=by omega
    have ih:=Zjb f 0 o' b (by omega) (by omega) (by rw [Nat.pow_zero,Nat.mul_one];rw [hz,Nat.pow_zero,Nat.mul_one] at ho';rw [ho'];exact hd) ho1 hb hb2
    rw [hz,Nat.pow_zero,Nat.mul_one] at ho'
    rw [hz]
    exact Tells.ifn (by omega) (ih.val (by rw [Nat.pow_zero,Nat.mul_one,ho']))
  refine Tells.succ ?_
  simp only [Zbx.l0]
  rw [e1,e2,w64c (by omega)]
  refine Tells.ifp (by omega) ?_
  by_cases ho2:(n+1) % 2=1
  ·refine Tells.ifp (by omega) (hobb.bind (sq (o*b) ?_ (Nat.mul_pos (by omega) (by omega))))
   rw [hpw,ho2,Nat.pow_one,Nat.mul_assoc,Nat.mul_comm b]
  ·refine Tells.ifn (by omega) (sq o ?_ ho)
   rw [hpw,show (n+1) % 2=0 by omega,Nat.pow_zero,Nat.mul_one]
theorem Zk6 (n:Nat) (h:n<=2400):Tells (fun k=>Zbx.f k (n:Int)) (limbs (10 ^ n)):=by
 have h1:=Zjb n n 1 10 (Nat.le_refl _) h (by rw [Nat.one_mul,Zj2];omega) (by omega) (by omega) (by rw [show nd 10=2 from Zj2 1];omega)
 rw [Nat.one_mul] at h1
 exact h1
theorem Znj (n:Nat) (h:n<=2400):Tells (fun k=>Zfy.f k (n:Int)) (limbs (10 ^ n),0):=by
 unfold Zfy.f
 exact Tells.ifn (by omega) (Tells.ifn (by omega) ((Zk6 n h).bind (Tells.pure _)))
theorem Zhd (l:List Int) (hl:l.length<=9223372036854775807):Za3.f l=some (chkL l):=by
 unfold Za3.f;exact Zju l hl
theorem Zjt {n:Nat} (h:(limbs n).length<=256):chkL (limbs n)=0:=(Zkr (Zc7 n)).2 (Zpz h)
theorem chkN {n:Nat} (h:(limbs n).length<=256):Za3.f (limbs n)=some 0:=by rw [Zhd _ (by omega),Zjt h]
theorem cmpOr2 (a b:Int):Tells (fun k=>Zbv.f k [a,b]) (if a=0 then b else a):=by
 unfold Zbv.f
 refine Tells.succ ?_
 simp only [Zbv.l0]
 refine Tells.ifp (by simp) (Tells.ifp (by decide) (Tells.ifp (by simp) ?_))
 have e0:rd [a,b] 0=a:=rfl
 have e1:rd [a,b] 1=b:=rfl
 have e2:wrap64 (0+1)=1:=by decide +kernel
 have e3:wrap64 (1+1)=2:=by decide +kernel
 rw [e0,e2]
 by_cases h:a=0
 ·refine Tells.ifp h ?_
  rw [if_pos h]
  refine Tells.succ ?_
  simp only [Zbv.l0]
  rw [e1,e3]
  refine Tells.ifp (by simp) (Tells.ifp (by decide) (Tells.ifp (by simp) ?_))
  by_cases h2:b=0
  ·refine Tells.ifp h2 (Tells.succ ?_)
   simp only [Zbv.l0]
   refine Tells.ifn (by simp) ((Tells.pure _).val h2.symm)
  ·exact Tells.ifn h2 (Tells.pure _)
 ·refine Tells.ifn h ?_
  rw [if_neg h]
  exact Tells.pure _
theorem Zh6 {m n:Nat} (hm:(limbs m).length<=256) (hn:(limbs n).length<=256):Tells (fun k=>Zdp.f k (limbs m) (limbs n)) 0:=by
 unfold Zdp.f
 rw [chkN hm,chkN hn]
 exact (Tells.pure _).bind ((Tells.pure _).bind ((cmpOr2 0 0).bind (Tells.pure _)))
theorem Zqs (n:Nat):Zd9.f (limbs n)=some (fit n):=by
 unfold Zd9.f fit
 by_cases h:(limbs n).length<=256
 ·rw [if_neg (by omega),if_pos h]
 ·rw [if_pos (by omega),if_neg h]
theorem Zoa {n:Nat} (h:(limbs n).length<=256):fit n=(limbs n,0):=by unfold fit;rw [if_pos h]
theorem Zj1 {n k:Nat} (h:(limbs n).length<=k):nd n<=10*k:=by
 refine Zgt (Nat.lt_of_lt_of_le (Zl7 n) ?_)
 refine Nat.le_trans (Nat.pow_le_pow_right (by omega) h) ?_
 rw [Nat.pow_mul]
 exact Nat.pow_le_pow_left (by decide) _
theorem Zd1 {n:Nat} (h:(limbs n).length<=256):nd n<=2560:=Zj1 h
theorem Zgl (n:Nat) (h:n < 18446744073709551616):Tells (fun k=>Zcj.f k (n:Int)) (limbs n):=by
 unfold Zcj.f
 have e1:((n:Int) / 4294967296) % 4294967296=((n / 4294967296:Nat):Int):=by omega
 rw [emod32,e1]
 refine (Zdt (n:=n) (Dg.cons (by omega) (by omega) (Dg.one (by omega) (by omega))) ?_ (by simp)).bind (Tells.pure _)
 rw [Zb3,val_one];omega
theorem Zna {m n:Nat} (hm:(limbs m).length<=256) (hn:(limbs n).length<=256):Tells (fun k=>Zed.f k (limbs m) (limbs n)) (fit (m+n)):=by
 have h1:=Zd1 hm
 have h2:=Zd1 hn
 unfold Zed.f
 refine (Zh6 hm hn).bind (Tells.ifp rfl ((Zjo (m:=m) (n:=n) (by omega) (by omega)).bind ?_))
 rw [Zqs]
 exact (Tells.pure _).bind (Tells.pure _)
theorem Zjh {m n:Nat} (hm:(limbs m).length<=256) (hn:(limbs n).length<=256):Tells (fun k=>Zc2.f k (limbs m) (limbs n)) (fit (m*n)):=by
 have h1:=Zd1 hm
 have h2:=Zd1 hn
 unfold Zc2.f
 refine (Zh6 hm hn).bind (Tells.ifp rfl ((Zgb (m:=m) (n:=n) (by omega) (by omega)).bind ?_))
 rw [Zqs]
 exact (Tells.pure _).bind (Tells.pure _)
theorem Zjf {m n:Nat} (hm:(limbs m).length<=256) (hn:(limbs n).length<=256):Tells (fun k=>Zdi.f k (limbs m) (limbs n)) (if n=0 then ([],[],53) else (limbs (m / n),limbs (m % n),0)):=by
 have h1:=Zd1 hm
 have h2:=Zd1 hn
 unfold Zdi.f
 refine (Zh6 hm hn).bind (Tells.ifp rfl ?_)
 by_cases h:n=0
 ·subst h
  exact Tells.ifp (by rw [Zez];rfl) (Tells.pure _)
 ·have hl0:0 < (limbs n).length:=List.length_pos_iff.2 (Zeq h)
  rw [if_neg h,Zn9 h (by omega) (by omega)]
  exact Tells.ifn (by omega) ((Tells.pure _).bind (Tells.pure _))
theorem Zis {m n:Nat} (hm:(limbs m).length<=256) (hn:(limbs n).length<=256):Tells (fun k=>Zcy.f k (limbs m) (limbs n)) (cmpN m n,0):=by
 have h1:=Zd1 hm
 have h2:=Zd1 hn
 unfold Zcy.f
 rw [chkN hm,chkN hn]
 refine (Tells.pure _).bind ((Tells.pure _).bind ((cmpOr2 0 0).bind (Tells.ifp rfl ?_)))
 rw [Zn4 (by omega) (by omega)]
 exact (Tells.pure _).bind (Tells.pure _)
theorem Zsd (l:List Int) (hl:l.length<=1000000):∀ (d i:Nat) (x:List Int),l.length - 2*i<=d->2*i<=l.length+1->x.length=l.length->(∀ p,p < l.length->x.getD p 0=if p < i\/l.length - i<=p then l.getD (l.length - 1 - p) 0 else l.getD p 0) ->
  Tells (fun k=>Zl.l0 k x (i:Int) ((l.length:Int) - 1 - i)) l.reverse:=by
 have fin:∀ (x:List Int),x.length=l.length->(∀ p,p < l.length->x.getD p 0=l.getD (l.length - 1 - p) 0)->x=l.reverse:=fun x hx h=>by
  refine List.ext_getElem (by simp [hx]) (fun p h1 h2=>?_)
  have := h p (by omega)
  rw [getD_in h1,getD_in (by omega)] at this
  rw [this,List.getElem_reverse]
 intro d
 induction d with
 | zero =>
  intro i x hd hi hx h
  have c:¬ ((i:Int) < (l.length:Int) - 1 - i):=by omega
  refine Tells.succ ?_
  simp only [Zl.l0]
  refine Tells.ifn c ((Tells.pure _).val (fin x hx (fun p hp=>?_)))
  rw [h p hp]
  by_cases hq:p < i\/l.length - i<=p
  ·rw [if_pos hq]
  ·rw [if_neg hq,show l.length - 1 - p=p by omega]
 | succ d ih =>
  intro i x hd hi hx h
  by_cases c:(i:Int) < (l.length:Int) - 1 - i
  ·obtain ⟨j,hj⟩:∃ j:Nat,(l.length:Int) - 1 - i=j:=⟨l.length - 1 - i,by omega⟩
   have hij:i < j:=by omega
   have hjl:j < l.length:=by omega
   have hxi:=h i (by omega)
   have hxj:=h j hjl
   rw [if_neg (by omega)] at hxi hxj
   have hnext:=ih (i+1) ((x.set i (x.getD j 0)).set j (x.getD i 0)) (by omega) (by omega) (by simp [hx]) (fun p hp=>by
    by_cases hpj:p=j
    ·subst hpj
     rw [List.getD,List.getElem?_set_self (by simp;omega),if_pos (by omega),hxi,show l.length - 1 - p=i by omega];rfl
    ·rw [getD_set_ne _ (Ne.symm hpj)]
     by_cases hpi:p=i
     ·subst hpi
      rw [List.getD,List.getElem?_set_self (by omega),if_pos (by omega),hxj,show l.length - 1 - p=j by omega];rfl
     ·rw [getD_set_ne _ (Ne.symm hpi),h p hp]
      by_cases hq:p < i\/l.length - i<=p
      ·rw [if_pos hq,if_pos (by omega)]
      ·rw [if_neg hq,if_neg (by omega)])
   have e2:(l.length:Int) - 1 - ((i+1:Nat):Int)=(j:Int) - 1:=by omega
   rw [e2] at hnext
   rw [hj]
   refine Tells.succ ?_
   simp only [Zl.l0]
   rw [rd_n,rd_n,Int.toNat_natCast,Int.toNat_natCast,w64s (by omega),w64d (by omega)]
   exact Tells.ifp (by omega) (Tells.ifp (by omega) (Tells.ifp (by omega) (Tells.ifp (by omega) (Tells.ifp (by omega) hnext))))
  ·refine Tells.succ ?_
   simp only [Zl.l0]
   refine Tells.ifn c ((Tells.pure _).val (fin x hx (fun p hp=>?_)))
   rw [h p hp]
   by_cases hq:p < i\/l.length - i<=p
   ·rw [if_pos hq]
   ·rw [if_neg hq,show l.length - 1 - p=p by omega]
theorem Zns (l:List Int) (hl:l.length<=1000000):Tells (fun k=>Zl.f k l) l.reverse:=by
 have h:=Zsd l hl _ 0 l (Nat.le_refl _) (by omega) rfl (fun p hp=>by rw [if_neg (by omega)])
 unfold Zl.f
 rw [w64d (by omega)]
 have e:(l.length:Int) - 1 - ((0:Nat):Int)=(l.length:Int) - 1:=by omega
 rw [e] at h
 exact h
theorem Zlp (n:Nat) (hn:nd n<=1000000) (q:Nat) (hl0:∀ D:List Int,D++digs q=digs n->Tells (fun k=>Zat.l0 k (D.map fun d=>48+d) (limbs q)) (decT n,0)) :
  ∀ (e:Nat),e<=9 -> ∀ (r:Nat) (D:List Int),r < 10 ^ e->D++digs (r+q*10 ^ e)=digs n ->
  Tells (fun k=>Zat.l1 k (D.map fun d=>48+d) (limbs q) (r:Int) ((9 - e:Nat):Int)) (decT n,0)
 | 0,he,r,D,hr,hD=>by
  rw [Nat.pow_zero,Nat.mul_one] at hD
  obtain rfl:r=0:=by rw [Nat.pow_zero] at hr;omega
  rw [Nat.zero_add] at hD
  refine Tells.succ ?_
  simp only [Zat.l1]
  exact Tells.ifn (by omega) (hl0 D hD)
 | e+1,he,r,D,hr,hD=>by
  have hr9:r < 1000000000:=Nat.lt_of_lt_of_le hr (Nat.le_trans (Nat.pow_le_pow_right (by omega) he) (by decide))
  have hlen:D.length<=1000000:=by
   have := congrArg List.length hD
   rw [List.length_append] at this
   have h2:(digs n).length<=1000000:=hn
   omega
  have ih:=Zlp n hn q hl0 e (by omega)
  have go:r+q*10 ^ (e+1) ≠ 0->Tells (fun k=>Zat.l1 k ((D.map fun d=>48+d) ++ [(48+(Int.tmod (r:Int) 10)) % 256]) (limbs q) ((Int.tdiv (r:Int) 10) % 4294967296) (wrap64 (((9 - (e+1):Nat):Int)+1))) (decT n,0):=fun hne=>by
   have hpw:10 ^ (e+1)=10*10 ^ e:=by rw [Nat.pow_succ,Nat.mul_comm]
   have e1:(r+q*10 ^ (e+1)) % 10=r % 10:=by rw [hpw,Nat.mul_left_comm,Nat.add_mul_mod_self_left]
   have e2:(r+q*10 ^ (e+1)) / 10=r / 10+q*10 ^ e:=by rw [hpw,Nat.mul_left_comm,Nat.add_mul_div_left _ _ (by omega)]
   have hstep:=Zd0 hne
   rw [e1,e2] at hstep
   have h2:=ih (r / 10) (D ++ [((r % 10:Nat):Int)]) ((Nat.div_lt_iff_lt_mul (by omega)).2 (by rw [Nat.mul_comm,<- hpw];exact hr)) (by rw [List.append_assoc,List.singleton_append,<- hstep];exact hD)
   rw [List.map_append] at h2
   have f1:(48+(Int.tmod (r:Int) 10)) % 256=48+((r % 10:Nat):Int):=by rw [tmodc];omega
   have f2:(Int.tdiv (r:Int) 10) % 4294967296=((r / 10:Nat):Int):=by rw [Int.tdiv_eq_ediv_of_nonneg (by omega)];omega
   have f3:9 - (e+1)+1=9 - e:=by omega
   rw [f1,f2,w64s (by omega),f3]
   exact h2
  have c1:((9 - (e+1):Nat):Int) < 9:=by omega
  have c2:(D.map fun d=>48+d).length < 140737488355328:=by rw [List.length_map];omega
  refine Tells.succ ?_
  simp only [Zat.l1]
  refine Tells.ifp c1 ?_
  by_cases hq:q=0
  ·subst hq
   refine Tells.ifn (by rw [Zez];simp) ?_
   by_cases hr0:r=0
   ·subst hr0
    rw [Nat.zero_mul,Nat.add_zero] at hD
    exact Tells.ifn (by omega) (hl0 D hD)
   ·exact Tells.ifp (by omega) (Tells.ifp c2 (go (by omega)))
  ·have hl1:0 < (limbs q).length:=List.length_pos_iff.2 (Zeq hq)
   exact Tells.ifp (by omega) (Tells.ifp c2 (go (by have := Nat.mul_pos (Nat.pos_of_ne_zero hq) (Zdf (e+1));omega)))
theorem Zph (n:Nat) (hn:nd n<=1000000):∀ (f x:Nat) (D:List Int),x<=f->D++digs x=digs n->Tells (fun k=>Zat.l0 k (D.map fun d=>48+d) (limbs x)) (decT n,0):=by
 have fin:∀ D:List Int,D=digs n->Tells (fun k=>Zat.l0 k (D.map fun d=>48+d) (limbs 0)) (decT n,0):=fun D hD=>by
  have hl:(digs n).length<=1000000:=hn
  refine Tells.succ ?_
  simp only [Zat.l0]
  refine Tells.ifn (by rw [Zez];simp) ?_
  by_cases h0:n=0
  ·subst h0
   subst hD
   exact Tells.ifp rfl (Tells.pure _)
  ·have hpos:0 < (digs n).length:=Zio h0
   refine Tells.ifn (by rw [List.length_map,hD];omega) ((Zns _ (by rw [List.length_map,hD];exact hl)).bind ((Tells.pure _).val ?_))
   rw [<- List.map_reverse,hD,Zm7 n h0]
 intro f
 induction f with
 | zero =>
  intro x D hf hD
  obtain rfl:x=0:=by omega
  rw [Zfe,List.append_nil] at hD
  exact fin D hD
 | succ f ih =>
  intro x D hf hD
  by_cases h0:x=0
  ·subst h0
   rw [Zfe,List.append_nil] at hD
   exact fin D hD
  ·have hx:nd x<=1000000:=by
    have := congrArg List.length hD
    rw [List.length_append] at this
    have h2:(digs n).length<=1000000:=hn
    show (digs x).length<=_
    omega
   have hpos:0 < (limbs x).length:=List.length_pos_iff.2 (Zeq h0)
   have h1:=Zlp n hn (x / 1000000000) (fun D' hD'=>ih (x / 1000000000) D' (by omega) hD') 9 (by omega) (x % 1000000000) D (Nat.mod_lt _ (by omega)) (by
    rw [show x % 1000000000+x / 1000000000*10 ^ 9=x by omega];exact hD)
   refine Tells.succ ?_
   simp only [Zat.l0]
   rw [show (1000000000:Int)=((1000000000:Nat):Int) from rfl,Zlc hx 1000000000 (by omega) (by omega)]
   exact Tells.ifp (by omega) ((Tells.pure _).bind h1)
theorem Zhh {n:Nat} (h:(limbs n).length<=256):Tells (fun k=>Zat.f k (limbs n)) (decT n,0):=by
 have hn:=Zd1 h
 unfold Zat.f
 rw [chkN h]
 exact (Tells.pure _).bind (Tells.ifp rfl (Zph n (by omega) n n [] (Nat.le_refl _) rfl))
end YtjbjkmccfocikaaGreatDoor.P
end
end Go.Proofs
