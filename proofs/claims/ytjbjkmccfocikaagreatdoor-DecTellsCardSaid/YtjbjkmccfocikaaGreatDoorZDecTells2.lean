/- DecTells, part 3 of 8 of its proof (no condition); names with a low line are shortened throughout. -/
import Derived.Test.YtjbjkmccfocikaaGreatDoorZDecTells1
import Derived.Lib.BitFns
set_option linter.unusedVariables false
set_option linter.unusedSimpArgs false
set_option maxRecDepth 100000
set_option maxHeartbeats 8000000
namespace Go.Proofs
section
namespace YtjbjkmccfocikaaGreatDoor.B
open Go.RowKit YtjbjkmccfocikaaGreatDoorW.PrintWords YtjbjkmccfocikaaGreatDoor.P.Nm
attribute [local go_sem] Oper.semAt_some
theorem Zrc (h l:Int) (h1:0<=h) (h2:h < 4294967296) (h3:0<=l) (h4:l < 4294967296):bits .or .u64 (h*4294967296) l=h*4294967296+l:=by
 obtain ⟨A,rfl⟩:=Int.eq_ofNat_of_zero_le h1
 obtain ⟨B,rfl⟩:=Int.eq_ofNat_of_zero_le h3
 have e:(A:Int)*4294967296=((A*4294967296:Nat):Int):=by omega
 rw [e,bits_or_u64_nat (A*4294967296) B (by omega) (by omega),show A*4294967296=2 ^ 32*A by omega,<- Nat.two_pow_add_eq_or_of_lt (by omega:B < 2 ^ 32)]
 omega
theorem div32 (a0 a1 a2:Int) (w:World) (h1:0<=a0) (h2:a0 < a2) (h3:0<=a1) (h4:a1 < 4294967296) (h5:a2 < 4294967296) :
  Calls Tryz.prog 169 #[.int .u32 a0,.int .u32 a1,.int .u32 a2] w fun e w'=>e=.returned (.tuple #[.int .u32 ((a0*4294967296+a1) / a2),.int .u32 ((a0*4294967296+a1) % a2)])/\Drawn0 w w':=by
 have b1:(a2 != 0)=true:=bne_iff_ne.2 (by omega)
 have b1':decide (a2 ≠ 0)=true:=decide_eq_true (by omega)
 have b2:decide (a2<=a0)=false:=decide_eq_false (by omega)
 have b3:¬ a2=0:=by omega
 have e1:a0*4294967296 % 18446744073709551616=a0*4294967296:=by omega
 have e2:=Zrc a0 a1 h1 (by omega) h3 h4
 have e3:(a0*4294967296+a1) / a2 % 4294967296=(a0*4294967296+a1) / a2:=by
  have:(a0*4294967296+a1) / a2 < 4294967296:=Int.ediv_lt_of_lt_mul (by omega) (by
   have := Int.mul_le_mul_of_nonneg_right (show a0+1<=a2 by omega) (show (0:Int)<=4294967296 by omega)
   omega)
  have:0<=(a0*4294967296+a1) / a2:=Int.ediv_nonneg (by omega) (by omega)
  omega
 have e4:(a0*4294967296+a1) % a2 % 4294967296=(a0*4294967296+a1) % a2:=by
  have := Int.emod_lt_of_pos (a0*4294967296+a1) (show 0 < a2 by omega)
  have := Int.emod_nonneg (a0*4294967296+a1) (show a2 ≠ 0 by omega)
  omega
 go_enter Tryz.func169,Tryz.ntmps169
 go_wp2
 repeat (go_quiet (fail);try go_wp2)
 go_ret2
 exact ⟨rfl,⟨_,rfl⟩⟩
theorem Zrh (l:List Int) (x:Int):rd (l ++ [x]) (l.length:Int)=x:=by
 unfold rd
 rw [Int.toNat_natCast]
 simp [List.getD]
theorem Zhx:∀ (n:Nat) (l:List Int) (k:Nat),l.length=n->n < k->n<=4611686018427387904->Zad.l0 k l=some (trimL l)
 | n,l,0,_,h,_=>by omega
 | 0,l,k+1,hn,_,_=>by
  obtain rfl:=List.eq_nil_of_length_eq_zero hn
  rfl
 | n+1,l,k+1,hn,hk,hb=>by
  obtain ⟨l',x,rfl⟩:=Zfi (l:=l) (by intro e;subst e;simp at hn)
  have hl':l'.length=n:=by simpa using hn
  have e:wrap64 (((l' ++ [x]).length:Int) - 1)=(l'.length:Int):=by rw [hn];unfold wrap64;omega
  simp only [Zad.l0]
  rw [e,if_pos (by rw [hn];omega),if_pos (by omega),if_pos (by rw [hn];omega),Zrh]
  by_cases hx:x=0
  ·subst hx
   rw [if_pos rfl,if_pos (by rw [hn];omega),Int.toNat_natCast,List.take_left,Zeg]
   exact Zhx n l' k hl' (by omega) (by omega)
  ·rw [if_neg hx,if_neg (by rw [hn];omega),Zew _ hx]
theorem Zsg (l:List Int) {k:Nat} (h:l.length < k) (hb:l.length<=4611686018427387904):Zad.f k l=some (trimL l):=Zhx _ l k rfl h hb
structure SmallAt (by_:Int) (l:List Int) (j:Nat) (xs:List Int) (rest:Int):Prop where
 len:xs.length=l.length
 dg:Dg 4294967296 xs
 r0:0<=rest
 r1:rest < by_
 law:val 4294967296 (l.drop (l.length - j))=val 4294967296 (xs.drop (l.length - j))*by_+rest
theorem Zi6 {xs:List Int} {i:Nat} (h:i < xs.length) (q:Int):(xs.set i q).drop i=q :: xs.drop (i+1):=by
 rw [List.drop_eq_getElem_cons (by simpa using h)]
 simp [List.drop_set]
theorem SmallAt.start {by_:Int} {l:List Int} (h:0 < by_):SmallAt by_ l 0 (List.replicate l.length 0) 0 :=
 ⟨by simp,Dg.zeros (by omega) _,by omega,h,by simp [val]⟩
theorem SmallAt.step {by_:Int} {l:List Int} {j:Nat} {xs:List Int} {rest:Int} (h:SmallAt by_ l j xs rest) (hb:0 < by_) (hb2:by_ < 4294967296) (hd:Dg 4294967296 l) (hj:j < l.length) :
  SmallAt by_ l (j+1) (xs.set (l.length - 1 - j) ((rest*4294967296+l.getD (l.length - 1 - j) 0) / by_)) ((rest*4294967296+l.getD (l.length - 1 - j) 0) % by_):=by
 have hi:l.length - 1 - j < l.length:=by omega
 obtain ⟨i,hiE⟩:∃ i,l.length - 1 - j=i:=⟨_,rfl⟩
 rw [hiE] at hi ⊢
 have hx:=hd _ (List.getElem_mem hi)
 obtain ⟨x,hxE⟩:∃ x,l[i]=x:=⟨_,rfl⟩
 have hg:l.getD i 0=x:=by rw [List.getD,List.getElem?_eq_getElem hi];exact hxE
 rw [hxE] at hx
 rw [hg]
 obtain ⟨z,hz⟩:∃ z,rest*4294967296+x=z:=⟨_,rfl⟩
 rw [hz]
 have hr0:=h.r0
 have hr1:=h.r1
 have hq:z / by_ < 4294967296:=Int.ediv_lt_of_lt_mul hb (by
  have := Int.mul_le_mul_of_nonneg_right (show rest+1<=by_ by omega) (show (0:Int)<=4294967296 by omega)
  omega)
 have hq0:0<=z / by_:=Int.ediv_nonneg (by omega) (by omega)
 refine ⟨by rw [List.length_set];exact h.len,fun y hy=>?_,Int.emod_nonneg _ (by omega),Int.emod_lt_of_pos _ hb,?_⟩
 ·rcases List.mem_or_eq_of_mem_set hy with hy|rfl
  ·exact h.dg y hy
  ·exact ⟨hq0,hq⟩
 ·have e1:l.length - (j+1)=i:=by omega
  have e2:l.length - j=i+1:=by omega
  have hlaw:=h.law
  rw [e2] at hlaw
  rw [e1,Zi6 (by rw [h.len];exact hi),List.drop_eq_getElem_cons hi,hxE,Zc8,Zc8,hlaw]
  have := Int.mul_ediv_add_emod z by_
  rw [Int.add_mul,Int.mul_assoc,Int.mul_comm (z / by_)]
  generalize val 4294967296 (List.drop (i+1) xs)*by_=V at *
  omega
theorem SmallAt.done {by_:Int} {l:List Int} {xs:List Int} {rest:Int} (h:SmallAt by_ l l.length xs rest) (hd:Dg 4294967296 l):trimL xs=limbs (num l / by_.toNat)/\rest=((num l % by_.toNat:Nat):Int):=by
 have hlaw:=h.law
 rw [Nat.sub_self,List.drop_zero,List.drop_zero,<- Zdh hd] at hlaw
 have hr0:=h.r0
 have hr1:=h.r1
 have hv:=Zdh h.dg
 obtain ⟨b,rfl⟩:=Int.eq_ofNat_of_zero_le (show 0<=by_ by omega)
 obtain ⟨r,rfl⟩:=Int.eq_ofNat_of_zero_le hr0
 rw [Int.toNat_natCast]
 rw [<- hv] at hlaw
 have e:num l=num xs*b+r:=by exact_mod_cast hlaw
 have hrb:r < b:=by omega
 have hb0:0 < b:=by omega
 have e1:num l / b=num xs:=by rw [e,Nat.mul_comm,Nat.mul_add_div hb0,Nat.div_eq_of_lt hrb,Nat.add_zero]
 have e2:num l % b=r:=by rw [e,Nat.mul_comm,Nat.mul_add_mod,Nat.mod_eq_of_lt hrb]
 exact ⟨by rw [e1];exact Zij h.dg hv.symm,by rw [e2]⟩
theorem KpB.set {Bs:Nat} {A:Option Addr} {m:Nat} {Rd:Nat->Int->Prop} {W:World} {p:Addr} (u:Value) (hp:Bs ≠ p.block) (ha:m=0 \/ ∃ b o,A=some ⟨b,o,none⟩/\b ≠ p.block):KpB Bs A m Rd W (W.setCell p u) :=
 ⟨Below.heap_setCell W p u Bs hp,fun h=>by
  rcases h with h|⟨b,o,rfl,h⟩
  ·exact .inl h
  ·rcases ha with h0|⟨b',o',e,hne⟩
   ·exact .inl h0
   ·cases e
    exact .inr ⟨b,o,rfl,fun j hj=>by
     obtain ⟨x,hx,hR⟩:=h j hj
     exact ⟨x,(World.cell?_of_block (a:=⟨b,o+j,none⟩) (Below.heap_setCell W p u b hne)).trans hx,hR⟩⟩⟩
structure SmI (w:World) (A0:Option Addr) (m c0:Nat) (by_:Int) (l0:List Int) (pre:List (Nat × Int)) (W:World):Prop where
 a:Boxed W w.heap.size 134 (.slice A0 m c0)
 d:Boxed W (w.heap.size+1) 85 (.int .u32 by_)
 o:Boxed W (w.heap.size+1+1+1) 134 (.slice (some ⟨w.heap.size+1+1,0,none⟩) m m)
 s:∃ u,Boxed W (w.heap.size+1+1+1+1+1) 134 u
 st:∃ xs rest,SmallAt by_ l0 pre.length xs rest/\Boxed W (w.heap.size+1+1+1+1) 85 (.int .u32 rest)/\W.ownsRow w.heap.size 85 1 (.slice (some ⟨w.heap.size+1+1,0,none⟩) m m) m (nums .u32 xs)
 low:Below w.heap.size w W
theorem Zml {A W:World} {base e size n:Nat} {v:Value} {xs:List Value} {row:Option Nat} {k:Nat} (h:A.ownsRow base e size v n xs) (hg:A.grownBy W row) (hr:∀ r,row=some r->k<=r /\ ∃ o:Obj,A.heap[r]? = some o/\o.isCells=false):W.ownsRow base e size v n xs:=by
 refine h.kept hg ?_
 rcases hb:v.ownBlock with _|b
 ·exact .inl rfl
 ·refine .inr (fun e=>?_)
  obtain ⟨_,o,ho,hc⟩:=hr b e.symm
  obtain ⟨cells,hcell⟩:=Zff h b hb
  rw [hcell] at ho
  obtain rfl:=Option.some.inj ho
  cases hc
theorem SmI.own {w:World} {A0:Option Addr} {m c0:Nat} {by_:Int} {l0:List Int} {n:Nat} (hn:w.heap.size<=n):OwnFrom n (SmI w A0 m c0 by_ l0):=by
 rintro pre A W row ⟨a,d,o,⟨u,s⟩,⟨xs,rest,h1,h2,h3⟩,hb⟩ hg hr
 exact ⟨a.kept hg (not_row hr a),d.kept hg (not_row hr d),o.kept hg (not_row hr o),⟨u,s.kept hg (not_row hr s)⟩,⟨xs,rest,h1,h2.kept hg (not_row hr h2),Zml h3 hg hr⟩,(ownFrom_below (Nat.le_refl _) hn:OwnFrom _ (fun _:List (Nat × Int)=>Below w.heap.size w)) pre A W row hb hg hr⟩
theorem SmI.minds {w:World} {A0:Option Addr} {m c0:Nat} {by_:Int} {l0:List Int}:Minds (w.heap.size+1+1+1+1+1) (SmI w A0 m c0 by_ l0):=by
 rintro pre W u ⟨a,d,o,⟨v,s⟩,⟨xs,rest,h1,h2,h3⟩,hb⟩
 exact ⟨(Zck W _ u _ (by omega)).trans a,(Zck W _ u _ (by omega)).trans d,(Zck W _ u _ (by omega)).trans o,⟨u,s.set u⟩,⟨xs,rest,h1,(Zck W _ u _ (by omega)).trans h2,Zhs h3 (by simp [Value.ownBlock];omega) u⟩,hb.setCell (p:=⟨w.heap.size+1+1+1+1+1,0,none⟩) (by simp;omega) u⟩
theorem Zn9 (A0:Option Addr) (c0:Nat) (l0:List Int) (by_:Int) (w:World) (hr0:Kd.C (Kd.int .u32) w A0 l0.length l0) (hc0:l0.length<=c0) (hd0:Dg 4294967296 l0) (hz0:l0.length<=1000000) (hb1:0 < by_) (hb2:by_ < 4294967296) :
  Calls Tryz.prog 143 #[.slice A0 l0.length c0,.int .u32 by_] w fun e w' => ∃ v0_:Value,e=.returned (.tuple #[v0_,.int .u32 ((num l0 % by_.toNat:Nat):Int)])/\Kd.R (Kd.int .u32) 85 w' w.heap.size (fun _=>True) v0_ (limbs (num l0 / by_.toNat))/\Below w.heap.size w w':=by
 obtain ⟨RR,hRR⟩:∃ RR:Int,((num l0 % by_.toNat:Nat):Int)=RR:=⟨_,rfl⟩
 obtain ⟨QL,hQL⟩:∃ QL:List Int,limbs (num l0 / by_.toNat)=QL:=⟨_,rfl⟩
 rw [hRR,hQL]
 have HRR:=Lib.hid hRR
 have HQL:=Lib.hid hQL
 clear hRR hQL
 refine (callsIn_wide (n:=4)).1 ?_
 refine callsIn_of_wp_marks Tryz.func143 rfl trivial ?_ rfl
 simp only [Tryz.ntmps143,List.size_toArray,List.length_cons,List.length_nil,Nat.reduceAdd,Nat.reduceSub,Array.replicate_succ,Array.replicate_zero,List.push_toArray,List.append_toArray,List.nil_append,List.cons_append]
 have e0:=Zg7 hr0
 have E0:=Lib.hid e0
 clear e0 hr0
 obtain ⟨m,hm⟩:∃ m,l0.length=m:=⟨_,rfl⟩
 rw [hm] at E0 hz0 hc0 ⊢
 have HM:=Lib.hid hm
 clear hm
 obtain ⟨i0,hi,hzz⟩:=Option.map_eq_some_iff.1 info85
 simp only [Prod.mk.injEq] at hzz
 obtain ⟨hz1,hz2,hz3⟩:=hzz
 have hmk:∀ W:World,(Instr.makeSlice 134 (.int .i64 m) (.int .i64 m)).run Tryz.prog W=.ok (.slice (some ⟨W.heap.size,0,none⟩) m m) (W.alloc (.cells (madeCells #[.int .u32 0] m) 85)):=fun W=>by
  have := run_make (P:=Tryz.prog) W 134 85 i0 (.int .u32 0) Tryz.underlying134 hi hz1 .i64 .i64 (m:Int) (m:Int) (by omega) (by omega) (by rw [hz3];omega) (by omega)
  simp only [Int.toNat_natCast,hz2,Nat.mul_one] at this
  exact this
 gi_wp2_with (refine ⟨trivial,?_⟩;gi_at_call 158;refine (Znm _ _ _ _ _).mono ?_;rintro e w' ⟨rfl,rfl⟩)
 have bA:=((((((Boxed.new w 134 (.slice A0 m c0)).alloc (.cells #[.int .u32 by_] 85)).alloc (.cells (madeCells #[.int .u32 0] m) 85)).alloc (.cells #[.slice (some ⟨w.heap.size+1+1,0,none⟩) m m] 134)).alloc (.cells #[.int .u32 0] 85)).alloc (.cells #[.slice A0 m c0] 134))
 have bD:=(((((Boxed.new (w.alloc (.cells #[.slice A0 m c0] 134)) 85 (.int .u32 by_)).alloc (.cells (madeCells #[.int .u32 0] m) 85)).alloc (.cells #[.slice (some ⟨w.heap.size+1+1,0,none⟩) m m] 134)).alloc (.cells #[.int .u32 0] 85)).alloc (.cells #[.slice A0 m c0] 134))
 have bW:=Zhr (Zhr (Zhr (Zpu ((w.alloc (.cells #[.slice A0 m c0] 134)).alloc (.cells #[.int .u32 by_] 85)) w.heap.size 85 .u32 m (by simp;omega) (by omega)) (.cells #[.slice (some ⟨w.heap.size+1+1,0,none⟩) m m] 134)) (.cells #[.int .u32 0] 85)) (.cells #[.slice A0 m c0] 134)
 have bO:=(((Boxed.new (((w.alloc (.cells #[.slice A0 m c0] 134)).alloc (.cells #[.int .u32 by_] 85)).alloc (.cells (madeCells #[.int .u32 0] m) 85)) 134 (.slice (some ⟨w.heap.size+1+1,0,none⟩) m m)).alloc (.cells #[.int .u32 0] 85)).alloc (.cells #[.slice A0 m c0] 134))
 have bR:=((Boxed.new ((((w.alloc (.cells #[.slice A0 m c0] 134)).alloc (.cells #[.int .u32 by_] 85)).alloc (.cells (madeCells #[.int .u32 0] m) 85)).alloc (.cells #[.slice (some ⟨w.heap.size+1+1,0,none⟩) m m] 134)) 85 (.int .u32 0)).alloc (.cells #[.slice A0 m c0] 134))
 have bS:=(Boxed.new (((((w.alloc (.cells #[.slice A0 m c0] 134)).alloc (.cells #[.int .u32 by_] 85)).alloc (.cells (madeCells #[.int .u32 0] m) 85)).alloc (.cells #[.slice (some ⟨w.heap.size+1+1,0,none⟩) m m] 134)).alloc (.cells #[.int .u32 0] 85)) 134 (.slice A0 m c0))
 have hB0:Below w.heap.size w ((((((w.alloc (.cells #[.slice A0 m c0] 134)).alloc (.cells #[.int .u32 by_] 85)).alloc (.cells (madeCells #[.int .u32 0] m) 85)).alloc (.cells #[.slice (some ⟨w.heap.size+1+1,0,none⟩) m m] 134)).alloc (.cells #[.int .u32 0] 85)).alloc (.cells #[.slice A0 m c0] 134)) :=
  ((((((Below.refl _ w).alloc (Nat.le_refl _) _).alloc (by simp) _).alloc (by simp;omega) _).alloc (by simp;omega) _).alloc (by simp;omega) _).alloc (by simp;omega) _
 simp only [World.size_alloc] at bA bD bW bO bR bS
 have hSt:SmallAt by_ l0 0 (List.replicate m 0) 0:=HM.out ▸ SmallAt.start hb1
 have HSt:=Lib.hid hSt
 clear hSt hmk
 obtain ⟨B,hB⟩:∃ B,w.heap.size=B:=⟨_,rfl⟩
 rw [hB] at bA bD bW bO bR bS ⊢
 have HBw:=Lib.hid bW
 clear bW
 have hA0:m=0 \/ ∃ b o,A0=some ⟨b,o,none⟩/\b < B:=by
  rcases Nat.eq_zero_or_pos m with h|h
  ·exact .inl h
  ·obtain ⟨b,o,x,hA,hc,_⟩:=E0.out.at h
   exact .inr ⟨b,o,hA,by have := World.block_lt_of_cell? w _ hc;simp at this;omega⟩
 have HA0:=Lib.hid hA0
 clear hA0
 refine Zdw (b:=B+1+1+1+1+1) rfl (by decide) (gf:=184) (lb:=#[.pointer (some ⟨B+1+1+1+1+1,0,none⟩)]) rfl trivial (enters_of Tryz.func184 (by kernel_rfl) rfl)
  (Zie 3 (by omega) (B+1+1+1+1+1) A0 m c0 (fun j x=>x=l0.getD j 0) (by omega) _ bS (E0.out.below (by rw [<- hB];exact hB0))) (by simp;omega) (fun h k=>h.trans k)
  (fun W l o o' hl ho hc hw=>KpB.put (by simp at hl;omega) ho hc) (Below.refl _ _) (fun _=>rfl)
  (SmI w A0 m c0 by_ l0) (fun _ _ _=>False) (SmI.own (by simp;omega)) (fun _=>by rintro pre A W row h;exact h.elim) (by rw [<- hB];exact SmI.minds) ?start
  (fun x=>{ tmps:=#[.slice A0 m c0,.int .u32 by_,.pointer (some ⟨B,0,none⟩),.pointer (some ⟨B+1,0,none⟩),.slice none 0 0,.int .u32 0,.pointer (some ⟨B+1+1+1,0,none⟩),.pointer (some ⟨B+1+1+1+1,0,none⟩),.int .i64 x.1,.slice A0 m c0,
   .int .i64 m,.slice (some ⟨B+1+1,0,none⟩) m m,.slice A0 m c0,.func (.func 184) #[] #[.pointer (some ⟨B+1+1+1+1+1,0,none⟩)],.int .i64 x.1,.int .u32 x.2,
   undef,undef,undef,undef,undef,undef,undef,undef,undef,undef,undef,undef,undef,undef,undef,undef],defers:=[] }) ?assign ?body ?done ?stop
 case start=>exact ⟨by rw [hB];exact bA,by rw [hB];exact bD,by rw [hB];exact bO,⟨_,by rw [hB];exact bS⟩,⟨_,_,HSt.out,by rw [hB];exact bR,by rw [hB];exact HBw.out⟩,by rw [<- hB];exact hB0⟩
 case assign =>
  intro l x W K hK
  gi_wp2
  exact hK
 case body =>
  rintro l pre x W ⟨a,d,o,⟨u,s⟩,⟨xs,rest,hst,r,hrow⟩,hb⟩ hlen hsp
  obtain ⟨hx1,hx2⟩:=hsp.2 pre.length x (by simp)
  obtain ⟨i,y⟩:=x
  simp only at hx1 hx2
  have hi':i < m:=by omega
  obtain ⟨b0,o0,x0,hA0',hc0',hx0⟩:=(E0.out.below hb).at hi'
  subst hA0'
  rw [hB] at a d o r s hrow
  have hac:=a.cell
  have hdc:=d.cell
  have hoc:=o.cell
  have hrc:=r.cell
  have hrf:=r.frozen
  have hi0:(0:Int)<=(i:Int):=by omega
  have hi1:(i:Int) < (m:Int):=by omega
  have hcw:=Zsb hrow (i:Int) hi0 hi1
  rw [Int.toNat_natCast] at hcw
  have hcc:=hcw.1
  have hcf:=hcw.2
  have hlm:=HM.out
  have hxE:l0.getD (l0.length - 1 - pre.length) 0=x0:=by rw [hlm,<- hx1];exact hx0.symm
  have hst':=hst.step hb1 hb2 hd0 (by omega)
  rw [hxE,hlm,<- hx1] at hst'
  have hx0r:0<=x0/\x0 < 4294967296:=by
   have hin:i < l0.length:=by omega
   rw [hx0,List.getD,List.getElem?_eq_getElem hin]
   exact hd0 _ (List.getElem_mem hin)
  have cD:=fun W:World=>div32 rest x0 by_ W hst.r0 hst.r1 hx0r.1 hx0r.2 hb2
  obtain ⟨q,hq⟩:∃ q,(rest*4294967296+x0) / by_=q:=⟨_,rfl⟩
  obtain ⟨z,hz⟩:∃ z,(rest*4294967296+x0) % by_=z:=⟨_,rfl⟩
  rw [hq,hz] at cD hst'
  have HST:=Lib.hid hst'
  have HRb:=Lib.hid r
  have HSb:=Lib.hid s
  have HAb:=Lib.hid a
  have HDb:=Lib.hid d
  have HOb:=Lib.hid o
  have HRow:=Lib.hid hrow
  have HB:=Lib.hid hb
  clear hq hz hst hst' hxE hx0r hlm hcw r s a d o hrow hb hsp hx2 hx0
  have HX1:=Lib.hid hx1
  clear hx1
  gi_wp2
  rename_i K hK
  have hS0:∀ W':World,W'.heap=W.heap->W'.cell? ⟨B+1+1+1,0,none⟩=some (.slice (some ⟨B+1+1,0,none⟩) m m)/\W'.cell? ⟨B,0,none⟩=some (.slice (some ⟨b0,o0,none⟩) m c0)/\W'.cell? ⟨B+1,0,none⟩=some (.int .u32 by_)/\W'.cell? ⟨b0,o0+i,none⟩=some (.int .u32 x0):=fun W' hW'=>⟨(World.cell?_of_block (by rw [hW'])).trans hoc,(World.cell?_of_block (by rw [hW'])).trans hac,(World.cell?_of_block (by rw [hW'])).trans hdc,(World.cell?_of_block (by rw [hW'])).trans hc0'⟩
  have hb0B:b0 < B:=by
   rcases HA0.out with h|⟨b,o,hA,hlt⟩
   ·omega
   ·cases hA;exact hlt
  have hS1:∀ (W':World) (p:Addr) (u:Value),(p.block=B+1+1\/p.block=B+1+1+1+1)->(W'.cell? ⟨B+1+1+1,0,none⟩=some (.slice (some ⟨B+1+1,0,none⟩) m m)/\W'.cell? ⟨B,0,none⟩=some (.slice (some ⟨b0,o0,none⟩) m c0)/\W'.cell? ⟨B+1,0,none⟩=some (.int .u32 by_)/\W'.cell? ⟨b0,o0+i,none⟩=some (.int .u32 x0)) ->
    ((W'.setCell p u).cell? ⟨B+1+1+1,0,none⟩=some (.slice (some ⟨B+1+1,0,none⟩) m m)/\(W'.setCell p u).cell? ⟨B,0,none⟩=some (.slice (some ⟨b0,o0,none⟩) m c0)/\(W'.setCell p u).cell? ⟨B+1,0,none⟩=some (.int .u32 by_)/\(W'.setCell p u).cell? ⟨b0,o0+i,none⟩=some (.int .u32 x0)):=fun W' p u hp hs =>
   ⟨(World.cell?_of_block (Below.heap_setCell W' p u (B+1+1+1) (by omega))).trans hs.1,(World.cell?_of_block (Below.heap_setCell W' p u B (by omega))).trans hs.2.1,(World.cell?_of_block (Below.heap_setCell W' p u (B+1) (by omega))).trans hs.2.2.1,(World.cell?_of_block (Below.heap_setCell W' p u b0 (by omega))).trans hs.2.2.2⟩
  refine wpIn_region_any (by kernel_rfl) (Ze3 (by kernel_rfl) (fun h=>by obtain ⟨_,_,h⟩:=h;exact h) _ _ _ _ (wpAny_of_held (S:=fun W':World=>W'.cell? ⟨B+1+1+1,0,none⟩=some (.slice (some ⟨B+1+1,0,none⟩) m m)/\W'.cell? ⟨B,0,none⟩=some (.slice (some ⟨b0,o0,none⟩) m c0)/\W'.cell? ⟨B+1,0,none⟩=some (.int .u32 by_)/\W'.cell? ⟨b0,o0+i,none⟩=some (.int .u32 x0)) _ _ _ _ ?_))
  refine wpAnyH_take (i:=0) rfl (by kernel_rfl) (by kernel_rfl) (by kernel_rfl) (fun _ _ _ h=>h) (v:=.slice (some ⟨B+1+1,0,none⟩) m m) (.inl ⟨by kernel_rfl,fun w hw=>?_⟩) (hS0 _ rfl) ?_
  ·obtain ⟨h1,h2,h3,h4⟩:=hw
   simp [execOp,Act.eval,go_sem,h1]
  refine wpAnyH_take (i:=1) rfl (by kernel_rfl) (by kernel_rfl) (by kernel_rfl) (fun _ _ _ h=>h) (.inl ⟨rfl,fun w hw=>rfl⟩) (hS0 _ rfl) ?_
  refine wpAnyH_take (i:=3) rfl (by kernel_rfl) (by kernel_rfl) (by kernel_rfl) (fun _ _ _ h=>h) (v:=.slice (some ⟨b0,o0,none⟩) m c0) (.inl ⟨by kernel_rfl,fun w hw=>?_⟩) (hS0 _ rfl) ?_
  ·obtain ⟨h1,h2,h3,h4⟩:=hw
   simp [execOp,Act.eval,go_sem,h2]
  refine wpAnyH_take (i:=4) rfl (by kernel_rfl) (by kernel_rfl) (by kernel_rfl) (fun _ _ _ h=>h) (.inl ⟨rfl,fun w hw=>rfl⟩) (hS0 _ rfl) ?_
  refine wpAnyH_take (i:=5) rfl (by kernel_rfl) (by kernel_rfl) (by kernel_rfl) (fun _ _ _ h=>h) (v:=.pointer (some ⟨b0,o0+i,none⟩)) (.inl ⟨by kernel_rfl,fun w hw=>?_⟩) (hS0 _ rfl) ?_
  ·simp [execOp,Act.eval,go_sem,hi0,hi1]
  refine wpAnyH_take (i:=6) rfl (by kernel_rfl) (by kernel_rfl) (by kernel_rfl) (fun _ _ _ h=>h) (v:=.int .u32 x0) (.inl ⟨by kernel_rfl,fun w hw=>?_⟩) (hS0 _ rfl) ?_
  ·obtain ⟨h1,h2,h3,h4⟩:=hw
   simp [execOp,Act.eval,go_sem,h4]
  refine wpAnyH_take (i:=7) rfl (by kernel_rfl) (by kernel_rfl) (by kernel_rfl) (fun _ _ _ h=>h) (v:=.int .u32 by_) (.inl ⟨by kernel_rfl,fun w hw=>?_⟩) (hS0 _ rfl) ?_
  ·obtain ⟨h1,h2,h3,h4⟩:=hw
   simp [execOp,Act.eval,go_sem,h3]
  have hrc':W.drew.cell? ⟨B+1+1+1+1,0,none⟩=some (.int .u32 rest):=hrc
  refine Zoe (i:=2) (by kernel_rfl) rfl (by kernel_rfl) (v:=.int .u32 rest) (w':=W.drew) ?_ (hS0 _ rfl) ?_
  ·simp [execOp,Act.eval,go_sem,hrc']
  have e169:=enters_of Tryz.func169 (by kernel_rfl) rfl
  refine Zlt (i:=8) (by kernel_rfl) rfl (by kernel_rfl) (f:=169) (args:=#[.int .u32 rest,.int .u32 x0,.int .u32 by_]) ?_ (cD _) ?_
  ·simp [execOp,Act.eval,go_sem,e169]
  rintro e w' ⟨rfl,nq,rfl⟩
  refine ⟨_,rfl,hS0 _ rfl,?_⟩
  simp only [Act.put,List.setIfInBounds_toArray,List.set_cons_zero,List.set_cons_succ]
  refine wpAnyH_take (i:=9) rfl (by kernel_rfl) (by kernel_rfl) (by kernel_rfl) (fun _ _ _ h=>h) (.inl ⟨rfl,fun w hw=>rfl⟩) (hS0 _ rfl) ?_
  refine wpAnyH_take (i:=10) rfl (by kernel_rfl) (by kernel_rfl) (by kernel_rfl) (fun _ _ _ h=>h) (v:=.int .u32 q) (.inl ⟨by kernel_rfl,fun w hw=>?_⟩) (hS0 _ rfl) ?_
  ·simp [execOp,Act.eval,go_sem]
  refine wpAnyH_take (i:=11) rfl (by kernel_rfl) (by kernel_rfl) (by kernel_rfl) (fun _ _ _ h=>h) (v:=.int .u32 z) (.inl ⟨by kernel_rfl,fun w hw=>?_⟩) (hS0 _ rfl) ?_
  ·simp [execOp,Act.eval,go_sem]
  refine wpAnyH_take (i:=12) rfl (by kernel_rfl) (by kernel_rfl) (by kernel_rfl) (fun _ _ _ h=>h) (v:=.pointer (some ⟨B+1+1,i,none⟩)) (.inl ⟨by kernel_rfl,fun w hw=>?_⟩) (hS0 _ rfl) ?_
  ·simp [execOp,Act.eval,go_sem,hi0,hi1]
  obtain ⟨W1,hW1⟩:∃ W1,W.drew.drewN nq=W1:=⟨_,rfl⟩
  rw [hW1]
  have hS2:=hS0 W1 (by rw [<- hW1];rfl)
  have hcc':W1.cell? ⟨B+1+1,i,none⟩=some (.int .u32 (rd xs i)):=hW1 ▸ hcc
  have hcf':W1.frozen? ⟨B+1+1,i,none⟩=false:=hW1 ▸ hcf
  refine Zlu (i:=13) (by kernel_rfl) rfl (by kernel_rfl) (w':=W1.setCell ⟨B+1+1,i,none⟩ (.int .u32 q)) ?_ (hS1 _ _ _ (.inl rfl) hS2) ?_
  ·simp [execOp,Act.eval,go_sem,hcc',hcf']
  have hne:(W1.setCell ⟨B+1+1,i,none⟩ (.int .u32 q)).heap[B+1+1+1+1]? = W1.heap[B+1+1+1+1]?:=Below.heap_setCell _ ⟨B+1+1,i,none⟩ _ _ (by show B+1+1+1+1 ≠ B+1+1;omega)
  have hrc1:W1.cell? ⟨B+1+1+1+1,0,none⟩=some (.int .u32 rest):=hW1 ▸ hrc
  have hrf1:W1.frozen? ⟨B+1+1+1+1,0,none⟩=false:=hW1 ▸ hrf
  have hrc2:(W1.setCell ⟨B+1+1,i,none⟩ (.int .u32 q)).cell? ⟨B+1+1+1+1,0,none⟩=some (.int .u32 rest):=(World.cell?_of_block (a:=⟨B+1+1+1+1,0,none⟩) hne).trans hrc1
  have hrf2:(W1.setCell ⟨B+1+1,i,none⟩ (.int .u32 q)).frozen? ⟨B+1+1+1+1,0,none⟩=false:=by
   rw [<- hrf1]
   simp only [World.frozen?,hne]
  have hS3:=hS1 _ ⟨B+1+1,i,none⟩ (.int .u32 q) (.inl rfl) hS2
  obtain ⟨W2,hW2⟩:∃ W2,W1.setCell ⟨B+1+1,i,none⟩ (.int .u32 q)=W2:=⟨_,rfl⟩
  rw [hW2] at hrc2 hrf2 hS3 ⊢
  refine Zlu (i:=14) (by kernel_rfl) rfl (by kernel_rfl) (w':=W2.setCell ⟨B+1+1+1+1,0,none⟩ (.int .u32 z)) ?_ (hS1 _ _ _ (.inr rfl) hS3) ?_
  ·simp [execOp,Act.eval,go_sem,hrc2,hrf2]
  refine wpAnyH_done (by kernel_rfl) ?_ _
  have hWW:W1.heap=W.heap:=by rw [<- hW1];rfl
  have hK1:KeepsOthers W W1:=by rw [<- hW1];exact ⟨Nat.le_refl _,fun k o h _=>h⟩
  have hKp1:KpB (B+1+1+1+1+1) (some ⟨b0,o0,none⟩) m (fun j x=>x=l0.getD j 0) W W1:=by rw [<- hW1];exact ⟨rfl,fun h=>h⟩
  have hb1':Below w.heap.size w W1:=by rw [<- hW1];exact Zbv (Zbe HB.out) nq
  have hrow1:W1.ownsRow B 85 1 (.slice (some ⟨B+1+1,0,none⟩) m m) m (nums .u32 xs):=by rw [<- hW1];exact HRow.out
  have far:∀ {k t:Nat} {v:Value},k ≠ B+1+1->k ≠ B+1+1+1+1->Boxed W k t v->Boxed (W2.setCell ⟨B+1+1+1+1,0,none⟩ (.int .u32 z)) k t v:=fun {k t v} h1 h2 hv =>
   (Below.heap_setCell W2 ⟨B+1+1+1+1,0,none⟩ _ k h2).trans (by rw [<- hW2];exact (Below.heap_setCell W1 ⟨B+1+1,i,none⟩ _ k h1).trans (by rw [hWW];exact hv))
  have hst1:=Zoh hrow1 (i:Int) q
  rw [Int.toNat_natCast,hW2] at hst1
  refine ⟨?_,?_,?_⟩
  ·rw [<- hW2]
   exact ((hK1.trans (KeepsOthers.setCell W1 ⟨B+1+1,i,none⟩ (.int .u32 q))).trans (KeepsOthers.setCell _ ⟨B+1+1+1+1,0,none⟩ (.int .u32 z))).from _
  ·rw [<- hW2]
   exact hKp1.trans ((KpB.set (p:=⟨B+1+1,i,none⟩) _ (by show B+1+1+1+1+1 ≠ B+1+1;omega) (.inr ⟨b0,o0,rfl,by show b0 ≠ B+1+1;omega⟩)).trans (KpB.set (p:=⟨B+1+1+1+1,0,none⟩) _ (by show B+1+1+1+1+1 ≠ B+1+1+1+1;omega) (.inr ⟨b0,o0,rfl,by show b0 ≠ B+1+1+1+1;omega⟩)))
  ·refine ⟨by rw [hB];exact far (by omega) (by omega) HAb.out,by rw [hB];exact far (by omega) (by omega) HDb.out,by rw [hB];exact far (by omega) (by omega) HOb.out,⟨_,by rw [hB];exact far (by omega) (by omega) HSb.out⟩,⟨xs.set i q,z,by rw [List.length_append];exact HST.out,?_,?_⟩,?_⟩
   ·rw [hB]
    refine Boxed.set (v:=.int .u32 rest) (.int .u32 z) ?_
    show W2.heap[B+1+1+1+1]? = _
    rw [<- hW2,hne,hWW]
    exact HRb.out
   ·rw [hB]
    exact Zhs hst1.1 (by simp [Value.ownBlock];omega) _
   ·rw [<- hW2]
    exact (hb1'.setCell (p:=⟨B+1+1,i,none⟩) (by simp;omega) _).setCell (p:=⟨B+1+1+1+1,0,none⟩) (by simp;omega) _
 case done =>
  rintro D ys W hD ⟨hp,hpl⟩ ⟨a,d,o,_,⟨xs,rest,hst,r,hrow⟩,hb⟩ hK
  rw [hB] at a d o r hrow
  have hlm:=HM.out
  have hlen:xs.length=m:=hst.len.trans hlm
  have hyl:ys.length=l0.length:=by omega
  rw [hyl] at hst
  obtain ⟨hq,hr2⟩:=hst.done hd0
  rw [hr2,HRR.out] at r
  rw [HQL.out] at hq
  have hrow':W.ownsRow w.heap.size 85 1 (.slice (some ⟨B+1+1,0,none⟩) m m) xs.length (encs (Value.int .u32) xs):=by rw [hlen,hB];exact hrow
  have hR:Kd.R (Kd.int .u32) 85 W w.heap.size (fun k=>k=B+1+1) (.slice (some ⟨B+1+1,0,none⟩) m m) xs:=Kd.Zed (enc:=Value.int .u32) hrow' (fun k hk=>by simp [Value.ownBlock] at hk;exact hk.symm)
  have hDlt:D < W.heap.size:=by
   have := (Array.getElem?_eq_some_iff.1 hK).1
   exact this
  have hD2:B+1+1 < D:=by simp at hD;omega
  have hoc:=o.cell
  have hrc:=r.cell
  have hsz:B+1+1+1+1 < W.heap.size:=World.block_lt_of_cell? W _ hrc
  have cT:=Zad.calls (xs.length+1) (fun k=>k=B+1+1) _ xs (trimL xs) w W.drew (Zbe hb) (Kd.Zdz hR) (Zsg xs (Nat.lt_succ_self _) (by omega))
  rw [hq] at cT
  have HK:=Lib.hid hK
  have HBb:=Lib.hid hb
  clear hK hb hR hrow' hrow hst hq hr2 a d hp hpl hyl hlm
  gi_wp2
  rename_i K1 hK1
  have e132:=enters_of Tryz.func132 (by kernel_rfl) rfl
  have hS0:∀ W':World,(∀ k,k < W.heap.size->k ≠ B+1+1->W'.heap[k]? = W.heap[k]?)->W'.cell? ⟨B+1+1+1,0,none⟩=some (.slice (some ⟨B+1+1,0,none⟩) m m)/\W'.cell? ⟨B+1+1+1+1,0,none⟩=some (.int .u32 RR):=fun W' hW' =>
   ⟨(World.cell?_of_block (hW' (B+1+1+1) (by omega) (by omega))).trans hoc,(World.cell?_of_block (hW' (B+1+1+1+1) (by omega) (by omega))).trans hrc⟩
  refine Zh4 (fun W':World=>W'.cell? ⟨B+1+1+1,0,none⟩=some (.slice (some ⟨B+1+1,0,none⟩) m m)/\W'.cell? ⟨B+1+1+1+1,0,none⟩=some (.int .u32 RR)) (by kernel_rfl) ?_
  refine wpAnyH_take (i:=0) rfl (by kernel_rfl) (by kernel_rfl) (by kernel_rfl) (fun _ _ _ h=>h) (v:=.slice (some ⟨B+1+1,0,none⟩) m m) (.inl ⟨by kernel_rfl,fun w hw=>?_⟩) (hS0 _ (fun _ _ _=>rfl)) ?_
  ·simp [execOp,Act.eval,go_sem,hw.1]
  refine wpAnyH_take (i:=2) rfl (by kernel_rfl) (by kernel_rfl) (by kernel_rfl) (fun _ _ _ h=>h) (v:=.int .u32 RR) (.inl ⟨by kernel_rfl,fun w hw=>?_⟩) (hS0 _ (fun _ _ _=>rfl)) ?_
  ·simp [execOp,Act.eval,go_sem,hw.2]
  refine Zlt (i:=1) (by kernel_rfl) rfl (by kernel_rfl) (f:=132) (args:=#[.slice (some ⟨B+1+1,0,none⟩) m m]) ?_ cT ?_
  ·simp [execOp,Act.eval,go_sem,e132]
  rintro e w' ⟨v0,rfl,hRv,hbv,hkp⟩
  have hS2:=hS0 w' (fun k h1 h2=>hkp.2 k h1 h2)
  refine ⟨_,rfl,hS2,?_⟩
  refine wpAnyH_take (i:=3) rfl (by kernel_rfl) (by kernel_rfl) (by kernel_rfl) (fun _ _ _ h=>h) (v:=v0) (.inl ⟨by kernel_rfl,fun w hw=>?_⟩) hS2 ?_
  ·simp [execOp,Act.eval,go_sem]
  refine wpAnyH_take (i:=4) rfl (by kernel_rfl) (by kernel_rfl) (by kernel_rfl) (fun _ _ _ h=>h) (v:=.int .u32 RR) (.inl ⟨by kernel_rfl,fun w hw=>?_⟩) hS2 ?_
  ·simp [execOp,Act.eval,go_sem]
  refine wpAnyH_done (by kernel_rfl) ?_ _
  refine NoPanic.normal ?_
  refine hK1 _ _ ?_
  show Code.wpIn _ _ _ _ _ { tmps:=#[.slice A0 m c0,.int .u32 by_,.pointer (some ⟨B,0,none⟩),.pointer (some ⟨B+1,0,none⟩),v0,.int .u32 RR,.pointer (some ⟨B+1+1+1,0,none⟩),.pointer (some ⟨B+1+1+1+1,0,none⟩),undef,.slice A0 m c0,
   .int .i64 m,.slice (some ⟨B+1+1,0,none⟩) m m,.slice A0 m c0,.func (.func 184) #[] #[.pointer (some ⟨B+1+1+1+1+1,0,none⟩)],undef,undef,
   undef,undef,undef,undef,undef,undef,undef,undef,undef,undef,undef,undef,undef,.slice (some ⟨B+1+1,0,none⟩) m m,v0,.int .u32 RR],defers:=[{ target:=.collected D,args:=#[] }] } _
  clear hK1
  gi_wp2
  have hDn:∀ k,k < W.heap.size->k ≠ B+1+1->w'.heap[k]? = W.heap[k]?:=fun k h1 h2=>hkp.2 k h1 h2
  have hK':w'.heap[D]? = some (.deferred (some [])):=(hDn D hDlt (by omega)).trans HK.out
  refine ⟨by simp,.inl ⟨_,_,rfl,run_takeDeferred hK',?_⟩⟩
  refine ⟨_,by simp [results,Tryz.f143,go_sem],v0,rfl,?_,?_⟩
  ·refine Kd.Zi (Kd.Zqs hRv (grownBy_putObj' _ D (.deferred none)) (fun k hk e=>?_)) (fun _ _=>trivial)
   cases e
   rcases hk with h|h
   ·omega
   ·exact absurd hDlt (by simp at h;omega)
  ·exact hbv.trans (belowK_b (w:=w) (Nat.le_refl _) _ D _ _ (by omega) hK' rfl rfl)
 case stop =>
  rintro D c pre W hD hpre h hK
  exact h.elim
def Zct.f (l0:List Int) (a1:Int):Option (List Int × Int):=if okW l0 && (decide (0 < a1) && decide (a1 < 4294967296)) then some (limbs (num l0 / a1.toNat),((num l0 % a1.toNat:Nat):Int)) else none
theorem Zct.calls (A0:Option Addr) (c0:Nat) (l0:List Int) (a1:Int) (r1:List Int) (r2:Int) (w:World) (hr0:Kd.C (Kd.int .u32) w A0 l0.length l0) (hc0:l0.length<=c0) (h:Zct.f l0 a1=some (r1,r2)) :
  Calls Tryz.prog 143 #[.slice A0 l0.length c0,.int .u32 a1] w fun e w' => ∃ v0_:Value,e=.returned (.tuple #[v0_,.int .u32 r2])/\Kd.R (Kd.int .u32) 85 w' w.heap.size (fun _=>True) v0_ r1/\Below w.heap.size w w':=by
 unfold Zct.f at h
 split at h
 case isFalse=>cases h
 case isTrue hk =>
 simp only [Bool.and_eq_true,Zek,decide_eq_true_eq] at hk
 obtain ⟨rfl,rfl⟩:=Prod.mk.inj (Option.some.inj h)
 exact Zn9 A0 c0 l0 a1 w hr0 hc0 hk.1.dg hk.1.len hk.2.1 hk.2.2
end YtjbjkmccfocikaaGreatDoor.B
end
section
namespace YtjbjkmccfocikaaGreatDoor.B
open Go.RowKit YtjbjkmccfocikaaGreatDoorW.PrintWords YtjbjkmccfocikaaGreatDoorW.PrintLast YtjbjkmccfocikaaGreatDoorW.PrintMore
attribute [local go_sem] Zb3 Zb5 Zcp Zcq Zbs Zbt Zb4 Zb6
mutual
def Zaz.l0:Nat->List Int->List Int->Option (ByteArray × Int)
 | 0,_,_=>none
 | k+1,x5,x6=>if (x6.length:Int) > 0 then ((Zct.f x6 1000000000).bind fun qg=>(Zaz.l1 k x5 qg.1 qg.2 0)) else (if (x5.length:Int)=0 then (some ((⟨#[48]⟩:ByteArray),0)) else ((Zp.f k x5).bind fun qh=>(some (strOfNums qh,0))))
def Zaz.l1:Nat->List Int->List Int->Int->Int->Option (ByteArray × Int)
 | 0,_,_,_,_=>none
 | k+1,x5,x7,x8,x9=>if x9 < 9 then (if (x7.length:Int) > 0 then (if x5.length < 140737488355328 then (Zaz.l1 k (x5 ++ [(48+(Int.tmod x8 10)) % 256]) x7 ((Int.tdiv x8 10) % 4294967296) (wrap64 (x9+1))) else (none)) else (if x8 > 0 then (if x5.length < 140737488355328 then (Zaz.l1 k (x5 ++ [(48+(Int.tmod x8 10)) % 256]) x7 ((Int.tdiv x8 10) % 4294967296) (wrap64 (x9+1))) else (none)) else (Zaz.l0 k x5 x7))) else (Zaz.l0 k x5 x7)
end
def Zaz.f (k:Nat) (l0:List Int):Option (ByteArray × Int):=(Zbq.f l0).bind fun qb=>(if qb=0 then (Zaz.l0 k ([]:List Int) l0) else (some ((⟨#[]⟩:ByteArray),qb)))
theorem Zaz.calls (k:Nat) (P0_:Nat->Prop) (A0:Option Addr) (c0:Nat) (l0:List Int) (r1:ByteArray) (r2:Int) (w:World) (hs0:Kd.V (Kd.int .u32) 85 w w.heap.size (fun k_=>P0_ k_) (.slice A0 l0.length c0) l0) (h:Zaz.f k l0=some (r1,r2)) :
  Calls Tryz.prog 112 #[.slice A0 l0.length c0] w fun e w'=>e=.returned (.tuple #[.string r1,.int .i64 r2])/\Below w.heap.size w w':=by
 have HO0:=am (show Kd.V (Kd.int .u32) 85 w w.heap.size (fun k_=>(P0_ k_\/w.heap.size<=k_)) (.slice A0 l0.length c0) l0 from Kd.Zr hs0 (fun k_ hk=>.inl hk))
 have HB:=am (Below.refl w.heap.size w)
 have H:((Zbq.f l0).bind fun qb=>(if qb=0 then (Zaz.l0 k ([]:List Int) l0) else (some ((⟨#[]⟩:ByteArray),qb))))=some (r1,r2):=h
 clear h
 replace H:=ob H
 obtain ⟨qb,A2,H⟩:=H
 replace H:=eI H
 rcases H with ⟨c3b0,c3b1,H⟩|⟨c3,c3b0,c3b1,H⟩
 ·have H':=am H
  clear H
  go_enter Tryz.func112,Tryz.ntmps112
  go_wp2_with (first|(refine gL (some 11) Tryz.func108 #[.slice A0 l0.length c0] (h:=?_);(with_reducible refine (Zbq.calls _ _ l0 qb _ ?side1 ?side2 A2.o).mono ?_);(case side1=>exact Kd.Zv (Kd.Zai HO0.o).2.2 pl);(case side2=>exact (Kd.Zai HO0.o).2.1);rintro e w' ⟨rfl,⟨nd,rfl⟩⟩;refine ⟨_,rfl,?_⟩))
  go_loopg [5,6] k (fun kq v5 v6 w' => ∃ (x5_1:List Int) (x6_1:List Int),Aside0 (Zaz.l0 kq x5_1 x6_1=some (r1,r2))/\Aside0 (kq<=k)/\Aside0 (Kd.R (Kd.int .u8) 5 w' w.heap.size (fun k_=>(w.heap.size<=k_)) v5 x5_1)/\Aside0 (Kd.V (Kd.int .u32) 85 w' w.heap.size (fun k_=>(P0_ k_\/w.heap.size<=k_)/\some k_ ≠ (v5:Value).ownBlock) v6 x6_1)/\Aside0 (Below w.heap.size w w'))
  case atStart=>exact ⟨(([]:List Int)),(l0),H',⟨Nat.le_refl _⟩,⟨pN⟩,⟨by refine vp ?_;exact Kd.Zr HO0.o (fun _ hk=>⟨hk,(by simp [Value.ownBlock])⟩)⟩,⟨pB⟩⟩
  case round =>
   clear H'
   obtain ⟨x5_1,x6_1,HA,HK1,HO_5,HO_6,HB⟩:=hrel
   cases gk with
   | zero=>exact absurd HA.out (by simp [Zaz.l0])
   | succ k1 =>
    have H:=HA.out
    clear HA
    simp only [Zaz.l0] at H
    by_cases c4:(x6_1.length:Int) > 0
    ·rw [if_pos c4] at H
     have c4b0:decide (0 < (x6_1.length:Int))=true:=decide_eq_true c4
     have c4b1:decide (0 < x6_1.length)=true:=decide_eq_true (by omega)
     clear c4
     replace H:=ob H
     obtain ⟨⟨qa,qn⟩,A5,H⟩:=H;(try dsimp only at H)
     have H':=am H
     clear H
     obtain ⟨Ao6,co6,eo6⟩:=Kd.Zdu HO_6.o
     subst eo6
     go_wp2_with (first|(refine gL (some 21) Tryz.func143 #[.slice Ao6 x6_1.length co6,.int .u32 1000000000] (h:=?_);(with_reducible refine (Zct.calls _ _ x6_1 1000000000 qa qn _ ?side1 ?side2 A5.o).mono ?_);(case side1=>exact Kd.Zv (Kd.Zai HO_6.o).2.2 pl);(case side2=>exact (Kd.Zai HO_6.o).2.1);rintro e w7 ⟨qx,rfl,ho0,hb⟩;refine ⟨_,rfl,?_⟩;replace HO_5:=rbl HO_5 hb;replace HO_6:=am (Kd.Zbn (Kd.Zam HO_6.o pl) (Kd.Zbh ho0) hb);have qi:=am (Kd.Zt (Kd.Ze4 (M:=fun k_=>(w.heap.size<=k_)) ho0 (Zb pB) (fun k_ h_=>h_)) (Zb pB));replace HB:=bS hb))
     go_loopg [5,8,9] k1 (fun kq v5 v8 v9 w' => ∃ (x5_2:List Int) (x8_2:Int) (x9_2:Int),v8=.int .u32 x8_2/\v9=.int .i64 x9_2/\Aside0 (Zaz.l1 kq x5_2 qa x8_2 x9_2=some (r1,r2))/\Aside0 (kq<=k1)/\Aside0 (Kd.R (Kd.int .u8) 5 w' w.heap.size (fun k_=>(w.heap.size<=k_)) v5 x5_2)/\Aside0 (Kd.R (Kd.int .u32) 85 w' w.heap.size (fun k_=>(w.heap.size<=k_)) qx qa)/\Aside0 (Below w.heap.size w w'))
     case atStart=>exact ⟨(x5_1),(qn),(0),pR,pR,H',⟨Nat.le_refl _⟩,⟨by refine rp ?_;exact HO_5.o⟩,⟨by refine rp ?_;exact Kd.Zi qi.o (fun _ hk=>hk.1)⟩,⟨pB⟩⟩
     case round =>
      clear H'
      obtain ⟨x5_2,x8_2,x9_2,rfl,rfl,HA,HK2,HO_5,HO_7,HB⟩:=hrel
      cases gk with
      | zero=>exact absurd HA.out (by simp [Zaz.l1])
      | succ k2 =>
       have H:=HA.out
       clear HA
       simp only [Zaz.l1] at H
       replace H:=dI H
       rcases H with ⟨c8b0,H⟩|⟨c8b0,H⟩
       ·by_cases c9:(qa.length:Int) > 0
        ·rw [if_pos c9] at H
         have c9b0:decide (0 < (qa.length:Int))=true:=decide_eq_true c9
         have c9b1:decide (0 < qa.length)=true:=decide_eq_true (by omega)
         clear c9
         by_cases c10:x5_2.length < 140737488355328
         ·rw [if_pos c10] at H
          have LMc10:=am c10
          clear c10
          obtain ⟨qo,qc⟩:∃ y_:List Int,y_=(x5_2 ++ [(48+(Int.tmod x8_2 10)) % 256]):=⟨_,rfl⟩
          replace H:(Zaz.l1 k2 qo qa ((Int.tdiv x8_2 10) % 4294967296) (wrap64 (x9_2+1)))=some (r1,r2):=by have hy_:=qc;exact pH
          have ql:=am qc
          clear qc
          have H':=am H
          clear H
          obtain ⟨qy,q4,qq⟩:=Kd.Zm HO_7.o
          subst qq
          go_wp2_with (first|((with_reducible refine Za1 (b:=.append) (xs:=#[.tmp 37,.tmp 42]) rfl ?_);(try (refine Za5 (by rfl) ?_;dsimp only));at_builtin;refine Kd.Zcb (Kd.int .u8) (w0:=w) w.heap.size rfl (.tmp 37) (.tmp 42) 146 5 (.int .u8 0) 1 rfl Tryz.underlying146 info5 rfl (by decide) (by omega) u5 x5_2 ((48+(Int.tmod x8_2 10)) % 256) [.int .u8 ((48+(Int.tmod x8_2 10)) % 256)] (fun k_=>(w.heap.size<=k_)) (fun _=>False) rfl rfl ?aP (fun _ hk=>hk.elim) ?aF ?aO ?aB ?aS ?aL ?_;(case aP=>exact rfl);(case aB=>exact pB);(case aF=>exact (fun k_ hk=>(Nat.le_trans (Zb pB) hk)));(case aO=>exact (Kd.Zc HO_5.o pl));(case aS=>exact (Zb pB));(case aL=>have := LMc10.o;omega);intro ja w12 ho hb hg hat;rw [<- ql.out] at ho;have qj:=am ho;replace HO_7:=am (Kd.Ziy (Kd.Zc HO_7.o pl) (Kd.Zgj (Kd.Zc HO_5.o pl)) (by decide) hg);replace HB:=am hb;clear HO_5 ho hb hg hat))
          go_roundg k2
          case measure=>exact pM
          case rel=>exact ⟨(qo),((Int.tdiv x8_2 10) % 4294967296),(wrap64 (x9_2+1)),pR,pR,H',pJ,⟨by refine rp ?_;exact qj.o⟩,⟨by refine rp ?_;exact HO_7.o⟩,⟨pB⟩⟩
         ·rw [if_neg c10] at H
          cases H
        ·rw [if_neg c9] at H
         have c9b0:decide (0 < (qa.length:Int))=false:=decide_eq_false c9
         have c9b1:decide (0 < qa.length)=false:=decide_eq_false (by omega)
         clear c9
         replace H:=gI H
         rcases H with ⟨c13b0,H⟩|⟨c13b0,H⟩
         ·by_cases c14:x5_2.length < 140737488355328
          ·rw [if_pos c14] at H
           have LMc14:=am c14
           clear c14
           obtain ⟨qp,qd⟩:∃ y_:List Int,y_=(x5_2 ++ [(48+(Int.tmod x8_2 10)) % 256]):=⟨_,rfl⟩
           replace H:(Zaz.l1 k2 qp qa ((Int.tdiv x8_2 10) % 4294967296) (wrap64 (x9_2+1)))=some (r1,r2):=by have hy_:=qd;exact pH
           have qm:=am qd
           clear qd
           have H':=am H
           clear H
           obtain ⟨qz,q5,qr⟩:=Kd.Zm HO_7.o
           subst qr
           go_wp2_with (first|((with_reducible refine Za1 (b:=.append) (xs:=#[.tmp 37,.tmp 42]) rfl ?_);(try (refine Za5 (by rfl) ?_;dsimp only));at_builtin;refine Kd.Zcb (Kd.int .u8) (w0:=w) w.heap.size rfl (.tmp 37) (.tmp 42) 146 5 (.int .u8 0) 1 rfl Tryz.underlying146 info5 rfl (by decide) (by omega) u5 x5_2 ((48+(Int.tmod x8_2 10)) % 256) [.int .u8 ((48+(Int.tmod x8_2 10)) % 256)] (fun k_=>(w.heap.size<=k_)) (fun _=>False) rfl rfl ?aP (fun _ hk=>hk.elim) ?aF ?aO ?aB ?aS ?aL ?_;(case aP=>exact rfl);(case aB=>exact pB);(case aF=>exact (fun k_ hk=>(Nat.le_trans (Zb pB) hk)));(case aO=>exact (Kd.Zc HO_5.o pl));(case aS=>exact (Zb pB));(case aL=>have := LMc14.o;omega);intro jb w16 ho hb hg hat;rw [<- qm.out] at ho;have qk:=am ho;replace HO_7:=am (Kd.Ziy (Kd.Zc HO_7.o pl) (Kd.Zgj (Kd.Zc HO_5.o pl)) (by decide) hg);replace HB:=am hb;clear HO_5 ho hb hg hat))
           go_roundg k2
           case measure=>exact pM
           case rel=>exact ⟨(qp),((Int.tdiv x8_2 10) % 4294967296),(wrap64 (x9_2+1)),pR,pR,H',pJ,⟨by refine rp ?_;exact qk.o⟩,⟨by refine rp ?_;exact HO_7.o⟩,⟨pB⟩⟩
          ·rw [if_neg c14] at H
           cases H
         ·have H':=am H
          clear H
          obtain ⟨q0,q6,qs⟩:=Kd.Zm HO_7.o
          subst qs
          go_wp2
          go_roundg k2
          case measure=>exact pM
          case rel=>exact ⟨(x5_2),(qa),H',pJ,⟨by refine rp ?_;exact HO_5.o⟩,⟨Kd.Zr (Kd.R_V (Kd.Zc (Kd.Zla HO_7.o (Kd.Zgj HO_5.o) (by decide)) pl)) (fun k_ hk=>by first|exact ⟨(.inr (hk.1)),hk.2⟩|exact (.inr (hk)))⟩,⟨pB⟩⟩
       ·have H':=am H
        clear H
        go_wp2
        go_roundg k2
        case measure=>exact pM
        case rel=>exact ⟨(x5_2),(qa),H',pJ,⟨by refine rp ?_;exact HO_5.o⟩,⟨Kd.Zr (Kd.R_V (Kd.Zc (Kd.Zla HO_7.o (Kd.Zgj HO_5.o) (by decide)) pl)) (fun k_ hk=>by first|exact ⟨(.inr (hk.1)),hk.2⟩|exact (.inr (hk)))⟩,⟨pB⟩⟩
    ·rw [if_neg c4] at H
     have c4b0:decide (0 < (x6_1.length:Int))=false:=decide_eq_false c4
     have c4b1:decide (0 < x6_1.length)=false:=decide_eq_false (by omega)
     clear c4
     replace H:=eI H
     rcases H with ⟨c18b0,c18b1,H⟩|⟨c18,c18b0,c18b1,H⟩
     ·simp only [Option.some.injEq,Prod.mk.injEq] at H
      obtain ⟨rfl,rfl⟩:=H
      obtain ⟨q1,q7,qt⟩:=Kd.Zdu HO_6.o
      subst qt
      obtain ⟨q2,q8,qu⟩:=Kd.Zm HO_5.o
      subst qu
      go_wp2
      go_ret2
      exact ⟨pE,pB⟩
     ·have c18b2:¬ (x5_1=[]):=fun h_=>c18 (by rw [h_];rfl)
      replace H:=ob H
      obtain ⟨qh,A21,H⟩:=H
      simp only [Option.some.injEq,Prod.mk.injEq] at H
      obtain ⟨rfl,rfl⟩:=H
      obtain ⟨q3,q9,qv⟩:=Kd.Zdu HO_6.o
      subst qv
      obtain ⟨qe,qf,qw⟩:=Kd.Zm HO_5.o
      subst qw
      go_wp2_with (first|(refine gL (some 51) Tryz.func144 #[.slice qe x5_1.length qf] (h:=?_);(with_reducible refine (Zp.calls k1 (fun k_=>some k_=(.slice qe x5_1.length qf:Value).ownBlock) (.slice qe x5_1.length qf) x5_1 qh w _ ?side1 ?side2 A21.o).mono ?_);(case side1=>exact pB);(case side2=>exact Kd.Zbc rfl HO_5.o);rintro e w24 ⟨rfl,hy0,hb,hkp⟩;refine ⟨_,rfl,?_⟩;replace HO_5:=am (Kd.Zru rfl hy0 (fun k_ e_=>HO_5.o.1 k_ e_));replace HO_6:=am (Kd.Zr (ok':=fun k_=>(P0_ k_\/w.heap.size<=k_)/\some k_ ≠ (.slice qe x5_1.length qf:Value).ownBlock) (Kd.Zdf (HO_6.o) hkp (fun k_ hk_ hs_=>(hk_.2) hs_)) (fun k_ hk_=>⟨hk_.1.1,hk_.1.2⟩));replace HB:=am hb;have hcv25:=Zmm (P:=Tryz.prog) Tryz.underlying146 Tryz.underlying5 Tryz.underlying9 (Kd.Ze1 HO_5.o)))
      go_ret2
      exact ⟨pE,pB⟩
 ·simp only [Option.some.injEq,Prod.mk.injEq] at H
  obtain ⟨rfl,rfl⟩:=H
  go_enter Tryz.func112,Tryz.ntmps112
  go_wp2_with (first|(refine gL (some 11) Tryz.func108 #[.slice A0 l0.length c0] (h:=?_);(with_reducible refine (Zbq.calls _ _ l0 qb _ ?side1 ?side2 A2.o).mono ?_);(case side1=>exact Kd.Zv (Kd.Zai HO0.o).2.2 pl);(case side2=>exact (Kd.Zai HO0.o).2.1);rintro e w' ⟨rfl,⟨nd,rfl⟩⟩;refine ⟨_,rfl,?_⟩))
  go_ret2
  exact ⟨pE,pB⟩
def Zd6.f (l0:List Int):Option (List Int × Int):=if (l0.length:Int) > 256 then (some (([]:List Int),51)) else (some (l0,0))
theorem Zd6.calls (P0_:Nat->Prop) (u9000_:Value) (l0:List Int) (r1:List Int) (r2:Int) (w0 w:World) (hB:Below w0.heap.size w0 w) (ho0:Kd.R (Kd.int .u32) 85 w w0.heap.size P0_ u9000_ l0) (h:Zd6.f l0=some (r1,r2)) :
  Calls Tryz.prog 128 #[u9000_] w fun e w' => ∃ v0_:Value,e=.returned (.tuple #[v0_,.int .i64 r2])/\Kd.R (Kd.int .u32) 85 w' w0.heap.size (fun k_=>(P0_ k_\/w.heap.size<=k_)) v0_ r1/\Below w0.heap.size w0 w'/\Kept w w' (fun k_=>P0_ k_):=by
 have HO0:=am (show Kd.R (Kd.int .u32) 85 w w0.heap.size (fun k_=>(P0_ k_\/w.heap.size<=k_)) u9000_ l0 from Kd.Zi ho0 (fun k_ hk=>(.inl hk)))
 have HK:=am (Kept.refl w (fun k_=>P0_ k_))
 have HW0:=am hB.size
 have HB:=am hB
 clear hB
 have H:(if (l0.length:Int) > 256 then (some (([]:List Int),51)) else (some (l0,0)))=some (r1,r2):=h
 clear h
 by_cases c2:(l0.length:Int) > 256
 ·rw [if_pos c2] at H
  have c2b0:decide (256 < (l0.length:Int))=true:=decide_eq_true c2
  have c2b1:decide (256 < l0.length)=true:=decide_eq_true (by omega)
  clear c2
  simp only [Option.some.injEq,Prod.mk.injEq] at H
  obtain ⟨rfl,rfl⟩:=H
  obtain ⟨Ao3,co3,eo3⟩:=Kd.Zm HO0.o
  subst eo3
  go_enter Tryz.func128,Tryz.ntmps128
  go_wp2
  go_ret2
  exact ⟨_,pE,pN,pB,by repeat (first|(with_reducible first|exact HK.out|apply Kept.alloc|apply Kept.drewN|apply Kept.drew)|exact HK.out)⟩
 ·rw [if_neg c2] at H
  have c2b0:decide (256 < (l0.length:Int))=false:=decide_eq_false c2
  have c2b1:decide (256 < l0.length)=false:=decide_eq_false (by omega)
  clear c2
  simp only [Option.some.injEq,Prod.mk.injEq] at H
  obtain ⟨rfl,rfl⟩:=H
  obtain ⟨Ao4,co4,eo4⟩:=Kd.Zm HO0.o
  subst eo4
  go_enter Tryz.func128,Tryz.ntmps128
  go_wp2
  go_ret2
  exact ⟨_,pE,by refine rp ?_;exact HO0.o,pB,by repeat (first|(with_reducible first|exact HK.out|apply Kept.alloc|apply Kept.drewN|apply Kept.drew)|exact HK.out)⟩
def Zes.f (k:Nat) (l0:List Int) (l1:List Int):Option (List Int × Int):=(Zc0.f k l0 l1).bind fun qc=>(if qc=0 then ((Zak.f k l0 l1).bind fun qa=>((Zd6.f qa).bind fun qb=>(some (qb.1,qb.2)))) else (some (([]:List Int),qc)))
theorem Zes.calls (k:Nat) (A0:Option Addr) (c0:Nat) (l0:List Int) (A1:Option Addr) (c1:Nat) (l1:List Int) (r1:List Int) (r2:Int) (w:World) (hr0:Kd.C (Kd.int .u32) w A0 l0.length l0) (hc0:l0.length<=c0) (hr1:Kd.C (Kd.int .u32) w A1 l1.length l1) (hc1:l1.length<=c1) (h:Zes.f k l0 l1=some (r1,r2)) :
  Calls Tryz.prog 71 #[.slice A0 l0.length c0,.slice A1 l1.length c1] w fun e w' => ∃ v0_:Value,e=.returned (.tuple #[v0_,.int .i64 r2])/\Kd.R (Kd.int .u32) 85 w' w.heap.size (fun _=>True) v0_ r1/\Below w.heap.size w w':=by
 have HR0:=am hr0
 have HC0:=am hc0
 clear hr0 hc0
 have HR1:=am hr1
 have HC1:=am hc1
 clear hr1 hc1
 have HB:=am (Below.refl w.heap.size w)
 have H:((Zc0.f k l0 l1).bind fun qc=>(if qc=0 then ((Zak.f k l0 l1).bind fun qa=>((Zd6.f qa).bind fun qb=>(some (qb.1,qb.2)))) else (some (([]:List Int),qc))))=some (r1,r2):=h
 clear h
 replace H:=ob H
 obtain ⟨qc,A3,H⟩:=H
 replace H:=eI H
 rcases H with ⟨c4b0,c4b1,H⟩|⟨c4,c4b0,c4b1,H⟩
 ·replace H:=ob H
  obtain ⟨qa,A5,H⟩:=H
  replace H:=ob H
  obtain ⟨⟨qf,qg⟩,A6,H⟩:=H;(try dsimp only at H)
  simp only [Option.some.injEq,Prod.mk.injEq] at H
  obtain ⟨rfl,rfl⟩:=H
  go_enter Tryz.func71,Tryz.ntmps71
  go_wp2_with (first|(refine gL (some 9) Tryz.func126 #[.slice A0 l0.length c0,.slice A1 l1.length c1] (h:=?_);(with_reducible refine (Zc0.calls k _ _ l0 _ _ l1 qc _ ?side1 ?side2 ?side3 ?side4 A3.o).mono ?_);(case side1=>refine cp ?_;exact HR0.o);(case side2=>exact HC0.o);(case side3=>refine cp ?_;exact HR1.o);(case side4=>exact HC1.o);rintro e w7 ⟨rfl,hb⟩;refine ⟨_,rfl,?_⟩;replace HB:=bS hb)|(refine gL (some 15) Tryz.func129 #[.slice A0 l0.length c0,.slice A1 l1.length c1] (h:=?_);(with_reducible refine (Zak.calls k _ _ l0 _ _ l1 qa _ ?side1 ?side2 ?side3 ?side4 A5.o).mono ?_);(case side1=>exact cB HR0 HB);(case side2=>exact HC0.o);(case side3=>exact cB HR1 HB);(case side4=>exact HC1.o);rintro e w8 ⟨qh,rfl,ho0,hb⟩;refine ⟨_,rfl,?_⟩;have qd:=am (Kd.Zt ho0 (Zb pB));replace HB:=bS hb;obtain ⟨Ao9,co9,eo9⟩:=Kd.Zm qd.o;subst eo9)|(refine gL (some 16) Tryz.func128 #[.slice Ao9 qa.length co9] (h:=?_);(with_reducible refine (Zd6.calls (fun k_=>some k_=(.slice Ao9 qa.length co9:Value).ownBlock) (.slice Ao9 qa.length co9) qa qf qg w _ ?side1 ?side2 A6.o).mono ?_);(case side1=>exact pB);(case side2=>exact Kd.Zbc rfl qd.o);rintro e w10 ⟨qi,rfl,ho0,hb,hkp⟩;refine ⟨_,rfl,?_⟩;have qe:=am (Kd.Zi (ok':=fun k_=>True) ho0 (fun k_ hk_=>trivial));replace HB:=am hb;clear qd))
  go_ret2
  exact ⟨_,pE,by refine rp ?_;exact qe.o,pB⟩
 ·simp only [Option.some.injEq,Prod.mk.injEq] at H
  obtain ⟨rfl,rfl⟩:=H
  go_enter Tryz.func71,Tryz.ntmps71
  go_wp2_with (first|(refine gL (some 9) Tryz.func126 #[.slice A0 l0.length c0,.slice A1 l1.length c1] (h:=?_);(with_reducible refine (Zc0.calls k _ _ l0 _ _ l1 qc _ ?side1 ?side2 ?side3 ?side4 A3.o).mono ?_);(case side1=>refine cp ?_;exact HR0.o);(case side2=>exact HC0.o);(case side3=>refine cp ?_;exact HR1.o);(case side4=>exact HC1.o);rintro e w11 ⟨rfl,hb⟩;refine ⟨_,rfl,?_⟩;replace HB:=bS hb))
  go_ret2
  exact ⟨_,pE,pN,pB⟩
def Zbz.l0:Nat->Int->List Int->List Int->Option (List Int)
 | 0,_,_,_=>none
 | k+1,x0,x3,x4=>if x0 > 0 then (if (Int.tmod x0 2)=1 then ((Zak.f k x3 x4).bind fun qb=>(if x0 > 1 then ((Zak.f k x4 x4).bind fun qf=>(Zbz.l0 k (wrap64 (Int.tdiv x0 2)) qb qf)) else (Zbz.l0 k (wrap64 (Int.tdiv x0 2)) qb x4))) else (if x0 > 1 then ((Zak.f k x4 x4).bind fun qg=>(Zbz.l0 k (wrap64 (Int.tdiv x0 2)) x3 qg)) else (Zbz.l0 k (wrap64 (Int.tdiv x0 2)) x3 x4))) else (some x3)
def Zbz.f (k:Nat) (a0:Int):Option (List Int):=Zbz.l0 k a0 (([1]:List Int)) (([10]:List Int))
theorem Zbz.calls (k:Nat) (a0:Int) (r:List Int) (w:World) (h:Zbz.f k a0=some r) :
  Calls Tryz.prog 163 #[.int .i64 a0] w fun e w' => ∃ v0_:Value,e=.returned (v0_)/\Kd.R (Kd.int .u32) 85 w' w.heap.size (fun _=>True) v0_ r/\Below w.heap.size w w':=by
 have HB:=am (Below.refl w.heap.size w)
 have H:(Zbz.l0 k a0 (([1]:List Int)) (([10]:List Int)))=some r:=h
 clear h
 obtain ⟨ql,qd⟩:∃ y_:List Int,y_=(([1]:List Int)):=⟨_,rfl⟩
 replace H:(Zbz.l0 k a0 ql (([10]:List Int)))=some r:=by have hy_:=qd;exact pH
 have qh:=am qd
 clear qd
 obtain ⟨qr,qe⟩:∃ y_:List Int,y_=(([10]:List Int)):=⟨_,rfl⟩
 replace H:(Zbz.l0 k a0 ql qr)=some r:=by have hy_:=qe;exact pH
 have qi:=am qe
 clear qe
 have H':=am H
 clear H
 go_enter Tryz.func163,Tryz.ntmps163
 go_wp2_with (first|((with_reducible refine gd 5 ?_);refine Kd.Zgi (Kd.int .u32) _ 85 ?hg (N:=5) ?hd (xs:=([1]:List Int)) (inner:=[.int .u32 1]) (ok:=fun _=>True) (okp:=fun _=>True) ?hr ?hp (fun _ hk=>hk) trivial (Below.refl _ _) (Nat.le_refl _) (by simp) ?_;(case hd=>rfl);(case hg=>rfl);(case hr=>first|(go_simp;done)|(go_simp;rfl));(case hp=>exact (Reps.one (show Kd.M (Kd.int .u32) _ _ _ 1 [.int .u32 1] from rfl) (Reps.none _ _)));intro q4 w2 ho3 hb hg_ hnew_;clear hg_ hnew_;(first|rw [<- qh.out] at ho3|(simp only [Int.reduceToNat] at ho3;rw [<- qh.out] at ho3));have qc:=am (Kd.Zt ho3 (Zb pB));replace HB:=bS hb;clear hb ho3)|((with_reducible refine gd 6 ?_);refine Kd.Zgi (Kd.int .u32) _ 85 ?hg (N:=6) ?hd (xs:=([10]:List Int)) (inner:=[.int .u32 10]) (ok:=fun _=>True) (okp:=fun _=>True) ?hr ?hp (fun _ hk=>hk) trivial (Below.refl _ _) (Nat.le_refl _) (by simp) ?_;(case hd=>rfl);(case hg=>rfl);(case hr=>first|(go_simp;done)|(go_simp;rfl));(case hp=>exact (Reps.one (show Kd.M (Kd.int .u32) _ _ _ 10 [.int .u32 10] from rfl) (Reps.none _ _)));intro q5 w4 ho5 hb hg_ hnew_;clear hg_ hnew_;(first|rw [<- qi.out] at ho5|(simp only [Int.reduceToNat] at ho5;rw [<- qi.out] at ho5));have qn:=am (Kd.Zt (Kd.Zaj ho5 (Kd.R_lt (Kd.Zc qc.o pl))) (Zb pB));replace qc:=reR qc ho5 hb;replace HB:=bS hb;clear hb ho5))
 go_loopg [0,3,4] k (fun kq v0 v3 v4 w' => ∃ (x0_1:Int) (x3_1:List Int) (x4_1:List Int),v0=.int .i64 x0_1/\Aside0 (Zbz.l0 kq x0_1 x3_1 x4_1=some r)/\Aside0 (kq<=k)/\Aside0 (Kd.R (Kd.int .u32) 85 w' w.heap.size (fun k_=>some k_ ≠ (v4:Value).ownBlock) v3 x3_1)/\Aside0 (Kd.R (Kd.int .u32) 85 w' w.heap.size (fun k_=>some k_ ≠ (v3:Value).ownBlock) v4 x4_1)/\Aside0 (Below w.heap.size w w'))
 case atStart=>exact ⟨(a0),(ql),(qr),pR,H',⟨Nat.le_refl _⟩,⟨by refine rp ?_;exact Kd.Zi qc.o (fun _ hk=>hk.2)⟩,⟨by refine rp ?_;exact Kd.Zi qn.o (fun _ hk=>hk.2)⟩,⟨pB⟩⟩
 case round =>
  clear H'
  obtain ⟨x0_1,x3_1,x4_1,rfl,HA,HK1,HO_3,HO_4,HB⟩:=hrel
  cases gk with
  | zero=>exact absurd HA.out (by simp [Zbz.l0])
  | succ k1 =>
   have H:=HA.out
   clear HA
   simp only [Zbz.l0] at H
   replace H:=gI H
   rcases H with ⟨c6b0,H⟩|⟨c6b0,H⟩
   ·replace H:=eI H
    rcases H with ⟨c7b0,c7b1,H⟩|⟨c7,c7b0,c7b1,H⟩
    ·replace H:=ob H
     obtain ⟨qb,A8,H⟩:=H
     replace H:=gI H
     rcases H with ⟨c9b0,H⟩|⟨c9b0,H⟩
     ·replace H:=ob H
      obtain ⟨qf,A10,H⟩:=H
      have H':=am H
      clear H
      obtain ⟨qs,qv,qy⟩:=Kd.Zm HO_3.o
      subst qy
      obtain ⟨qj,qk,qz⟩:=Kd.Zm HO_4.o
      subst qz
      go_wp2_with (first|(refine gL (some 16) Tryz.func129 #[.slice qs x3_1.length qv,.slice qj x4_1.length qk] (h:=?_);(with_reducible refine (Zak.calls k1 _ _ x3_1 _ _ x4_1 qb _ ?side1 ?side2 ?side3 ?side4 A8.o).mono ?_);(case side1=>exact Kd.Zv (Kd.Zf HO_3.o).2.2 pl);(case side2=>exact (Kd.Zf HO_3.o).2.1);(case side3=>exact Kd.Zv (Kd.Zf HO_4.o).2.2 pl);(case side4=>exact (Kd.Zf HO_4.o).2.1);rintro e w13 ⟨q3,rfl,ho0,hb⟩;refine ⟨_,rfl,?_⟩;have qa:=am (Kd.Zt (Kd.Zaj (Kd.Zaj ho0 (Kd.R_lt (Kd.Zc HO_3.o pl))) (Kd.R_lt (Kd.Zc HO_4.o pl))) (Zb pB));replace HO_3:=reR HO_3 ho0 hb;replace HO_4:=reR HO_4 ho0 hb;replace HB:=bS hb)|(refine gL (some 21) Tryz.func129 #[.slice qj x4_1.length qk,.slice qj x4_1.length qk] (h:=?_);(with_reducible refine (Zak.calls k1 _ _ x4_1 _ _ x4_1 qf _ ?side1 ?side2 ?side3 ?side4 A10.o).mono ?_);(case side1=>exact Kd.Zv (Kd.Zf HO_4.o).2.2 pl);(case side2=>exact (Kd.Zf HO_4.o).2.1);(case side3=>exact Kd.Zv (Kd.Zf HO_4.o).2.2 pl);(case side4=>exact (Kd.Zf HO_4.o).2.1);rintro e w14 ⟨q6,rfl,ho0,hb⟩;refine ⟨_,rfl,?_⟩;have qo:=am (Kd.Zt (Kd.Zaj (Kd.Zaj (Kd.Zaj ho0 (Kd.R_lt (Kd.Zc HO_3.o pl))) (Kd.R_lt (Kd.Zc HO_4.o pl))) (Kd.R_lt (Kd.Zc qa.o pl))) (Zb pB));replace HO_3:=reR HO_3 ho0 hb;replace HO_4:=reR HO_4 ho0 hb;replace qa:=reR qa ho0 hb;replace HB:=bS hb))
      go_roundg k1
      case measure=>exact pM
      case rel=>exact ⟨(wrap64 (Int.tdiv x0_1 2)),(qb),(qf),pR,H',pJ,⟨by refine rp ?_;exact Kd.Zi qa.o (fun _ hk=>hk.2)⟩,⟨by refine rp ?_;exact Kd.Zi qo.o (fun _ hk=>hk.2)⟩,⟨pB⟩⟩
     ·have H':=am H
      clear H
      obtain ⟨qt,qw,q0⟩:=Kd.Zm HO_3.o
      subst q0
      obtain ⟨qu,qx,q1⟩:=Kd.Zm HO_4.o
      subst q1
      go_wp2_with (first|(refine gL (some 16) Tryz.func129 #[.slice qt x3_1.length qw,.slice qu x4_1.length qx] (h:=?_);(with_reducible refine (Zak.calls k1 _ _ x3_1 _ _ x4_1 qb _ ?side1 ?side2 ?side3 ?side4 A8.o).mono ?_);(case side1=>exact Kd.Zv (Kd.Zf HO_3.o).2.2 pl);(case side2=>exact (Kd.Zf HO_3.o).2.1);(case side3=>exact Kd.Zv (Kd.Zf HO_4.o).2.2 pl);(case side4=>exact (Kd.Zf HO_4.o).2.1);rintro e w17 ⟨q3,rfl,ho0,hb⟩;refine ⟨_,rfl,?_⟩;have qa:=am (Kd.Zt (Kd.Zaj (Kd.Zaj ho0 (Kd.R_lt (Kd.Zc HO_3.o pl))) (Kd.R_lt (Kd.Zc HO_4.o pl))) (Zb pB));replace HO_3:=reR HO_3 ho0 hb;replace HO_4:=reR HO_4 ho0 hb;replace HB:=bS hb))
      go_roundg k1
      case measure=>exact pM
      case rel=>exact ⟨(wrap64 (Int.tdiv x0_1 2)),(qb),(x4_1),pR,H',pJ,⟨by refine rp ?_;exact Kd.Zi qa.o (fun _ hk=>hk.2)⟩,⟨by refine rp ?_;exact Kd.Zi HO_4.o (fun _ hk=>hk.2)⟩,⟨pB⟩⟩
    ·replace H:=gI H
     rcases H with ⟨c18b0,H⟩|⟨c18b0,H⟩
     ·replace H:=ob H
      obtain ⟨qg,A19,H⟩:=H
      have H':=am H
      clear H
      obtain ⟨qm,qq,q2⟩:=Kd.Zm HO_4.o
      subst q2
      go_wp2_with (first|(refine gL (some 21) Tryz.func129 #[.slice qm x4_1.length qq,.slice qm x4_1.length qq] (h:=?_);(with_reducible refine (Zak.calls k1 _ _ x4_1 _ _ x4_1 qg _ ?side1 ?side2 ?side3 ?side4 A19.o).mono ?_);(case side1=>exact Kd.Zv (Kd.Zf HO_4.o).2.2 pl);(case side2=>exact (Kd.Zf HO_4.o).2.1);(case side3=>exact Kd.Zv (Kd.Zf HO_4.o).2.2 pl);(case side4=>exact (Kd.Zf HO_4.o).2.1);rintro e w21 ⟨q7,rfl,ho0,hb⟩;refine ⟨_,rfl,?_⟩;have qp:=am (Kd.Zt (Kd.Zaj (Kd.Zaj ho0 (Kd.R_lt (Kd.Zc HO_3.o pl))) (Kd.R_lt (Kd.Zc HO_4.o pl))) (Zb pB));replace HO_3:=reR HO_3 ho0 hb;replace HO_4:=reR HO_4 ho0 hb;replace HB:=bS hb))
      go_roundg k1
      case measure=>exact pM
      case rel=>exact ⟨(wrap64 (Int.tdiv x0_1 2)),(x3_1),(qg),pR,H',pJ,⟨by refine rp ?_;exact Kd.Zi HO_3.o (fun _ hk=>hk.2)⟩,⟨by refine rp ?_;exact Kd.Zi qp.o (fun _ hk=>hk.1.2)⟩,⟨pB⟩⟩
     ·have H':=am H
      clear H
      go_wp2
      go_roundg k1
      case measure=>exact pM
      case rel=>exact ⟨(wrap64 (Int.tdiv x0_1 2)),(x3_1),(x4_1),pR,H',pJ,⟨by refine rp ?_;exact HO_3.o⟩,⟨by refine rp ?_;exact HO_4.o⟩,⟨pB⟩⟩
   ·obtain rfl:=Option.some.inj H
    go_wp2
    go_ret
    exact ⟨_,pE,by refine rp ?_;exact Kd.Zi HO_3.o (fun _ hk=>trivial),pB⟩
def Zgo.f (k:Nat) (a0:Int):Option (List Int × Int):=if a0 < 0 then (some (([]:List Int),4)) else (if a0 > 2400 then (some (([]:List Int),4)) else ((Zbz.f k a0).bind fun qa=>(some (qa,0))))
theorem Zgo.calls (k:Nat) (a0:Int) (r1:List Int) (r2:Int) (w:World) (h:Zgo.f k a0=some (r1,r2)) :
  Calls Tryz.prog 130 #[.int .i64 a0] w fun e w' => ∃ v0_:Value,e=.returned (.tuple #[v0_,.int .i64 r2])/\Kd.R (Kd.int .u32) 85 w' w.heap.size (fun _=>True) v0_ r1/\Below w.heap.size w w':=by
 have HB:=am (Below.refl w.heap.size w)
 have H:(if a0 < 0 then (some (([]:List Int),4)) else (if a0 > 2400 then (some (([]:List Int),4)) else ((Zbz.f k a0).bind fun qa=>(some (qa,0)))))=some (r1,r2):=h
 clear h
 replace H:=dI H
 rcases H with ⟨c2b0,H⟩|⟨c2b0,H⟩
 ·simp only [Option.some.injEq,Prod.mk.injEq] at H
  obtain ⟨rfl,rfl⟩:=H
  go_enter Tryz.func130,Tryz.ntmps130
  go_wp2
  go_ret2
  exact ⟨_,pE,pN,pB⟩
 ·replace H:=gI H
  rcases H with ⟨c3b0,H⟩|⟨c3b0,H⟩
  ·simp only [Option.some.injEq,Prod.mk.injEq] at H
   obtain ⟨rfl,rfl⟩:=H
   go_enter Tryz.func130,Tryz.ntmps130
   go_wp2
   go_ret2
   exact ⟨_,pE,pN,pB⟩
  ·replace H:=ob H
   obtain ⟨qa,A4,H⟩:=H
   simp only [Option.some.injEq,Prod.mk.injEq] at H
   obtain ⟨rfl,rfl⟩:=H
   go_enter Tryz.func130,Tryz.ntmps130
   go_wp2_with (first|(refine gL (some 11) Tryz.func163 #[.int .i64 a0] (h:=?_);(with_reducible refine (Zbz.calls k a0 qa _ A4.o).mono ?_);rintro e w5 ⟨qc,rfl,ho0,hb⟩;refine ⟨_,rfl,?_⟩;have qb:=am (Kd.Zt ho0 (Zb pB));replace HB:=bS hb))
   go_ret2
   exact ⟨_,pE,by refine rp ?_;exact qb.o,pB⟩
def Zdc.f (k:Nat) (l0:List Int) (l1:List Int):Option (Int × Int):=(Zbq.f l0).bind fun qa=>((Zbq.f l1).bind fun qb=>((Zbx.f k (([qa,qb]:List Int))).bind fun qd=>(if qd=0 then ((Zbg.f l0 l1).bind fun qe=>(some (qe,0))) else (some (0,qd)))))
theorem Zdc.calls (k:Nat) (A0:Option Addr) (c0:Nat) (l0:List Int) (A1:Option Addr) (c1:Nat) (l1:List Int) (r1:Int) (r2:Int) (w:World) (hr0:Kd.C (Kd.int .u32) w A0 l0.length l0) (hc0:l0.length<=c0) (hr1:Kd.C (Kd.int .u32) w A1 l1.length l1) (hc1:l1.length<=c1) (h:Zdc.f k l0 l1=some (r1,r2)) :
  Calls Tryz.prog 90 #[.slice A0 l0.length c0,.slice A1 l1.length c1] w fun e w'=>e=.returned (.tuple #[.int .i64 r1,.int .i64 r2])/\Below w.heap.size w w':=by
 have HR0:=am hr0
 have HC0:=am hc0
 clear hr0 hc0
 have HR1:=am hr1
 have HC1:=am hc1
 clear hr1 hc1
 have HB:=am (Below.refl w.heap.size w)
 have H:((Zbq.f l0).bind fun qa=>((Zbq.f l1).bind fun qb=>((Zbx.f k (([qa,qb]:List Int))).bind fun qd=>(if qd=0 then ((Zbg.f l0 l1).bind fun qe=>(some (qe,0))) else (some (0,qd))))))=some (r1,r2):=h
 clear h
 replace H:=ob H
 obtain ⟨qa,A3,H⟩:=H
 replace H:=ob H
 obtain ⟨qb,A4,H⟩:=H
 obtain ⟨qh,qg⟩:∃ y_:List Int,y_=(([qa,qb]:List Int)):=⟨_,rfl⟩
 replace H:((Zbx.f k qh).bind fun qd=>(if qd=0 then ((Zbg.f l0 l1).bind fun qe=>(some (qe,0))) else (some (0,qd))))=some (r1,r2):=by have hy_:=qg;exact pH
 have qf:=am qg
 clear qg
 replace H:=ob H
 obtain ⟨qd,A5,H⟩:=H
 replace H:=eI H
 rcases H with ⟨c6b0,c6b1,H⟩|⟨c6,c6b0,c6b1,H⟩
 ·replace H:=ob H
  obtain ⟨qe,A7,H⟩:=H
  simp only [Option.some.injEq,Prod.mk.injEq] at H
  obtain ⟨rfl,rfl⟩:=H
  go_enter Tryz.func90,Tryz.ntmps90
  go_wp2_with (first|(refine gL (some 8) Tryz.func108 #[.slice A0 l0.length c0] (h:=?_);(with_reducible refine (Zbq.calls _ _ l0 qa _ ?side1 ?side2 A3.o).mono ?_);(case side1=>refine cp ?_;exact HR0.o);(case side2=>exact HC0.o);rintro e w' ⟨rfl,⟨nd,rfl⟩⟩;refine ⟨_,rfl,?_⟩)|(refine gL (some 10) Tryz.func108 #[.slice A1 l1.length c1] (h:=?_);(with_reducible refine (Zbq.calls _ _ l1 qb _ ?side1 ?side2 A4.o).mono ?_);(case side1=>refine cp ?_;exact HR1.o);(case side2=>exact HC1.o);rintro e w' ⟨rfl,⟨nd,rfl⟩⟩;refine ⟨_,rfl,?_⟩)|((with_reducible refine gd 11 ?_);refine Kd.Zgi (Kd.int .i64) _ 32 ?hg (N:=11) ?hd (xs:=([qa,qb]:List Int)) (inner:=[.int .i64 qa,.int .i64 qb]) (ok:=fun _=>True) (okp:=fun _=>True) ?hr ?hp (fun _ hk=>hk) trivial (Below.refl _ _) (Nat.le_refl _) (by simp) ?_;(case hd=>rfl);(case hg=>rfl);(case hr=>first|(go_simp;done)|(go_simp;rfl));(case hp=>exact (Reps.one (show Kd.M (Kd.int .i64) _ _ _ qa [.int .i64 qa] from rfl) (Reps.one (show Kd.M (Kd.int .i64) _ _ _ qb [.int .i64 qb] from rfl) (Reps.none _ _))));intro qo w8 ho9 hb hg_ hnew_;clear hg_ hnew_;(first|rw [<- qf.out] at ho9|(simp only [Int.reduceToNat] at ho9;rw [<- qf.out] at ho9));have qc:=am (Kd.Zt ho9 (Zb pB));replace HB:=bS hb;clear hb ho9;obtain ⟨qi,qk,qm⟩:=Kd.Zm qc.o;subst qm)|(refine gL (some 12) Tryz.func137 #[.slice qi qh.length qk] (h:=?_);(with_reducible refine (Zbx.calls k _ _ qh qd _ ?side1 ?side2 A5.o).mono ?_);(case side1=>exact Kd.Zv (Kd.Zf qc.o).2.2 pl);(case side2=>exact (Kd.Zf qc.o).2.1);rintro e w' ⟨rfl,⟨nd,rfl⟩⟩;refine ⟨_,rfl,?_⟩)|(refine gL (some 18) Tryz.func138 #[.slice A0 l0.length c0,.slice A1 l1.length c1] (h:=?_);(with_reducible refine (Zbg.calls _ _ l0 _ _ l1 qe _ ?side1 ?side2 ?side3 ?side4 A7.o).mono ?_);(case side1=>refine cp ?_;exact (Kd.Zv HR0.o pB));(case side2=>exact HC0.o);(case side3=>refine cp ?_;exact (Kd.Zv HR1.o pB));(case side4=>exact HC1.o);rintro e w11 ⟨rfl,hb⟩;refine ⟨_,rfl,?_⟩;replace qc:=rbl qc hb;replace HB:=bS hb))
  go_ret2
  exact ⟨pE,pB⟩
 ·simp only [Option.some.injEq,Prod.mk.injEq] at H
  obtain ⟨rfl,rfl⟩:=H
  go_enter Tryz.func90,Tryz.ntmps90
  go_wp2_with (first|(refine gL (some 8) Tryz.func108 #[.slice A0 l0.length c0] (h:=?_);(with_reducible refine (Zbq.calls _ _ l0 qa _ ?side1 ?side2 A3.o).mono ?_);(case side1=>refine cp ?_;exact HR0.o);(case side2=>exact HC0.o);rintro e w' ⟨rfl,⟨nd,rfl⟩⟩;refine ⟨_,rfl,?_⟩)|(refine gL (some 10) Tryz.func108 #[.slice A1 l1.length c1] (h:=?_);(with_reducible refine (Zbq.calls _ _ l1 qb _ ?side1 ?side2 A4.o).mono ?_);(case side1=>refine cp ?_;exact HR1.o);(case side2=>exact HC1.o);rintro e w' ⟨rfl,⟨nd,rfl⟩⟩;refine ⟨_,rfl,?_⟩)|((with_reducible refine gd 11 ?_);refine Kd.Zgi (Kd.int .i64) _ 32 ?hg (N:=11) ?hd (xs:=([qa,qb]:List Int)) (inner:=[.int .i64 qa,.int .i64 qb]) (ok:=fun _=>True) (okp:=fun _=>True) ?hr ?hp (fun _ hk=>hk) trivial (Below.refl _ _) (Nat.le_refl _) (by simp) ?_;(case hd=>rfl);(case hg=>rfl);(case hr=>first|(go_simp;done)|(go_simp;rfl));(case hp=>exact (Reps.one (show Kd.M (Kd.int .i64) _ _ _ qa [.int .i64 qa] from rfl) (Reps.one (show Kd.M (Kd.int .i64) _ _ _ qb [.int .i64 qb] from rfl) (Reps.none _ _))));intro qo w12 ho13 hb hg_ hnew_;clear hg_ hnew_;(first|rw [<- qf.out] at ho13|(simp only [Int.reduceToNat] at ho13;rw [<- qf.out] at ho13));have qc:=am (Kd.Zt ho13 (Zb pB));replace HB:=bS hb;clear hb ho13;obtain ⟨qj,ql,qn⟩:=Kd.Zm qc.o;subst qn)|(refine gL (some 12) Tryz.func137 #[.slice qj qh.length ql] (h:=?_);(with_reducible refine (Zbx.calls k _ _ qh qd _ ?side1 ?side2 A5.o).mono ?_);(case side1=>exact Kd.Zv (Kd.Zf qc.o).2.2 pl);(case side2=>exact (Kd.Zf qc.o).2.1);rintro e w' ⟨rfl,⟨nd,rfl⟩⟩;refine ⟨_,rfl,?_⟩))
  go_ret2
  exact ⟨pE,pB⟩
def Zfd.f (k:Nat) (l0:List Int) (l1:List Int):Option (List Int × Int):=(Zc0.f k l0 l1).bind fun qc=>(if qc=0 then ((Zal.f k l0 l1).bind fun qa=>((Zd6.f qa).bind fun qb=>(some (qb.1,qb.2)))) else (some (([]:List Int),qc)))
theorem Zfd.calls (k:Nat) (A0:Option Addr) (c0:Nat) (l0:List Int) (A1:Option Addr) (c1:Nat) (l1:List Int) (r1:List Int) (r2:Int) (w:World) (hr0:Kd.C (Kd.int .u32) w A0 l0.length l0) (hc0:l0.length<=c0) (hr1:Kd.C (Kd.int .u32) w A1 l1.length l1) (hc1:l1.length<=c1) (h:Zfd.f k l0 l1=some (r1,r2)) :
  Calls Tryz.prog 75 #[.slice A0 l0.length c0,.slice A1 l1.length c1] w fun e w' => ∃ v0_:Value,e=.returned (.tuple #[v0_,.int .i64 r2])/\Kd.R (Kd.int .u32) 85 w' w.heap.size (fun _=>True) v0_ r1/\Below w.heap.size w w':=by
 have HR0:=am hr0
 have HC0:=am hc0
 clear hr0 hc0
 have HR1:=am hr1
 have HC1:=am hc1
 clear hr1 hc1
 have HB:=am (Below.refl w.heap.size w)
 have H:((Zc0.f k l0 l1).bind fun qc=>(if qc=0 then ((Zal.f k l0 l1).bind fun qa=>((Zd6.f qa).bind fun qb=>(some (qb.1,qb.2)))) else (some (([]:List Int),qc))))=some (r1,r2):=h
 clear h
 replace H:=ob H
 obtain ⟨qc,A3,H⟩:=H
 replace H:=eI H
 rcases H with ⟨c4b0,c4b1,H⟩|⟨c4,c4b0,c4b1,H⟩
 ·replace H:=ob H
  obtain ⟨qa,A5,H⟩:=H
  replace H:=ob H
  obtain ⟨⟨qf,qg⟩,A6,H⟩:=H;(try dsimp only at H)
  simp only [Option.some.injEq,Prod.mk.injEq] at H
  obtain ⟨rfl,rfl⟩:=H
  go_enter Tryz.func75,Tryz.ntmps75
  go_wp2_with (first|(refine gL (some 9) Tryz.func126 #[.slice A0 l0.length c0,.slice A1 l1.length c1] (h:=?_);(with_reducible refine (Zc0.calls k _ _ l0 _ _ l1 qc _ ?side1 ?side2 ?side3 ?side4 A3.o).mono ?_);(case side1=>refine cp ?_;exact HR0.o);(case side2=>exact HC0.o);(case side3=>refine cp ?_;exact HR1.o);(case side4=>exact HC1.o);rintro e w7 ⟨rfl,hb⟩;refine ⟨_,rfl,?_⟩;replace HB:=bS hb)|(refine gL (some 15) Tryz.func131 #[.slice A0 l0.length c0,.slice A1 l1.length c1] (h:=?_);(with_reducible refine (Zal.calls k _ _ l0 _ _ l1 qa _ ?side1 ?side2 ?side3 ?side4 A5.o).mono ?_);(case side1=>exact cB HR0 HB);(case side2=>exact HC0.o);(case side3=>exact cB HR1 HB);(case side4=>exact HC1.o);rintro e w8 ⟨qh,rfl,ho0,hb⟩;refine ⟨_,rfl,?_⟩;have qd:=am (Kd.Zt ho0 (Zb pB));replace HB:=bS hb;obtain ⟨Ao9,co9,eo9⟩:=Kd.Zm qd.o;subst eo9)|(refine gL (some 16) Tryz.func128 #[.slice Ao9 qa.length co9] (h:=?_);(with_reducible refine (Zd6.calls (fun k_=>some k_=(.slice Ao9 qa.length co9:Value).ownBlock) (.slice Ao9 qa.length co9) qa qf qg w _ ?side1 ?side2 A6.o).mono ?_);(case side1=>exact pB);(case side2=>exact Kd.Zbc rfl qd.o);rintro e w10 ⟨qi,rfl,ho0,hb,hkp⟩;refine ⟨_,rfl,?_⟩;have qe:=am (Kd.Zi (ok':=fun k_=>True) ho0 (fun k_ hk_=>trivial));replace HB:=am hb;clear qd))
  go_ret2
  exact ⟨_,pE,by refine rp ?_;exact qe.o,pB⟩
 ·simp only [Option.some.injEq,Prod.mk.injEq] at H
  obtain ⟨rfl,rfl⟩:=H
  go_enter Tryz.func75,Tryz.ntmps75
  go_wp2_with (first|(refine gL (some 9) Tryz.func126 #[.slice A0 l0.length c0,.slice A1 l1.length c1] (h:=?_);(with_reducible refine (Zc0.calls k _ _ l0 _ _ l1 qc _ ?side1 ?side2 ?side3 ?side4 A3.o).mono ?_);(case side1=>refine cp ?_;exact HR0.o);(case side2=>exact HC0.o);(case side3=>refine cp ?_;exact HR1.o);(case side4=>exact HC1.o);rintro e w11 ⟨rfl,hb⟩;refine ⟨_,rfl,?_⟩;replace HB:=bS hb))
  go_ret2
  exact ⟨_,pE,pN,pB⟩
end YtjbjkmccfocikaaGreatDoor.B
end
section
namespace YtjbjkmccfocikaaGreatDoor.B
open Go.RowKit YtjbjkmccfocikaaGreatDoorW.PrintWords YtjbjkmccfocikaaGreatDoor.P.Nm
theorem Zgv {b:Int}:∀ {l:List Int} {j:Nat} (x:Int),j < l.length->val b (l.set j x)=val b l+pw b j*(x - l.getD j 0)
 | [],j,x,h=>by simp at h
 | y :: l,0,x,_=>by simp [val,pw];omega
 | y :: l,j+1,x,h=>by
  have ih:=Zgv (b:=b) (l:=l) (j:=j) x (by simpa using h)
  rw [List.set_cons_succ,Zc8,Zc8,ih,Zfg,Int.mul_add,Int.mul_assoc]
  simp [List.getD]
  omega
theorem Znu {b:Int} {l:List Int} (h:Dg b l) (j:Nat) {x:Int} (h0:0<=x) (h1:x < b):Dg b (l.set j x):=fun y hy=>by
 rcases List.mem_or_eq_of_mem_set hy with hy|rfl
 ·exact h y hy
 ·exact ⟨h0,h1⟩
end YtjbjkmccfocikaaGreatDoor.B
end
section
namespace YtjbjkmccfocikaaGreatDoor.B
open Go.RowKit YtjbjkmccfocikaaGreatDoorW.PrintWords YtjbjkmccfocikaaGreatDoor.P.Nm
attribute [local go_sem] Oper.semAt_some
theorem Zpj (A0:Option Addr) (c0:Nat) (l0:List Int) (A1:Option Addr) (c1:Nat) (l1:List Int) (w:World) (hr0:Kd.C (Kd.int .u32) w A0 l0.length l0) (hc0:l0.length<=c0) (hr1:Kd.C (Kd.int .u32) w A1 l1.length l1) (hc1:l1.length<=c1)
  (h0:OkW l0) (h1:OkW l1) (hlt:num l0 < num l1) :
  Calls Tryz.prog 127 #[.slice A0 l0.length c0,.slice A1 l1.length c1] w fun e w' => ∃ v0_ v1_:Value,e=.returned (.tuple #[v0_,v1_])/\Kd.R (Kd.int .u32) 85 w' w.heap.size (fun k_=>some k_ ≠ (v1_:Value).ownBlock) v0_ []/\Kd.R (Kd.int .u32) 85 w' w.heap.size (fun k_=>some k_ ≠ (v0_:Value).ownBlock) v1_ l0/\Below w.heap.size w w':=by
 have cC:=Zbg.calls A0 c0 l0 A1 c1 l1 (-1) w hr0 hc0 hr1 hc1 (by
  unfold Zbg.f
  rw [Zek.2 h0,Zek.2 h1,Bool.and_self,if_pos rfl]
  unfold cmpI;rw [if_pos (by omega)])
 have hl0:=h0.len
 have HR:=Aside0.mk hr0
 have HC:=Aside0.mk hc0
 refine (callsIn_wide (n:=4)).1 ?_
 refine callsIn_of_wp_marks Tryz.func127 rfl trivial ?_ rfl
 simp only [Tryz.ntmps127,List.size_toArray,List.length_cons,List.length_nil,Nat.reduceAdd,Nat.reduceSub,Array.replicate_succ,Array.replicate_zero,List.push_toArray,List.append_toArray,List.nil_append,List.cons_append]
 clear hr0 hc0 hr1 hc1 hlt h0 h1
 have cl:=fun (W:World) (hB:Below w.heap.size w W)=>Zdk.calls A0 c0 l0 l0 W (Kd.Zv HR.out hB) HC.out (by unfold Zdk.f;rw [if_pos (by omega)])
 have CL:=Aside0.mk cl
 clear cl
 gi_wp2_with (first|(refine ⟨trivial,?_⟩;gi_at_call 138;refine (callsIn_wide.2 cC).mono ?_;rintro e w1 ⟨rfl,hb1⟩)|(refine ⟨trivial,?_⟩;gi_at_call 155;refine (callsIn_wide.2 (CL.out _ hb1)).mono ?_;rintro e w2 ⟨v1,rfl,hR,hb2⟩))
 refine ⟨_,by simp [results,Tryz.f127,go_sem],.slice none 0 0,v1,rfl,Kd.Zh1 _ _ _ _ _,?_,hb1.trans (hb2.mono hb1.size)⟩
 exact Kd.Zi (Kd.Zt hR hb1.size) (fun k hk=>by simp [Value.ownBlock])
theorem Zq6 (w:World) (r:Nat):Kd.R (Kd.int .u32) 85 (w.alloc (.cells #[.int .u32 (r:Int)] 85)) w.heap.size (fun k=>k=w.heap.size) (.slice (some ⟨w.heap.size,0,none⟩) 1 1) [(r:Int)] :=
 Kd.Zed (enc:=Value.int .u32) (World.ownsRow_lit (base:=w.heap.size) (e:=85) (size:=1) w #[.int .u32 (r:Int)] 1 (Nat.le_refl _) (by decide) rfl) (fun k hk=>by simp [Value.ownBlock] at hk;exact hk.symm)
theorem Zim {W:World} {b base n:Nat} {e:TypeId} {size:Nat} {v:Value} {xs:List Value} (h:W.ownsRow b e size v n xs) (hle:base<=b):W.ownsRow base e size v n xs:=by
 obtain ⟨h1,h2⟩:=h
 refine ⟨h1,?_⟩
 rcases h2 with h2|⟨g,cap,cur,h3,h4,h5⟩
 ·exact .inl h2
 ·exact .inr ⟨g,cap,cur,h3,Nat.le_trans hle h4,h5⟩
theorem Zjq {W W':World} {base base' n:Nat} {e:TypeId} {size:Nat} {v v':Value} {xs:List Value} {l:List Int} {e':TypeId} {ok:Nat->Prop} (h:W.ownsRow base e size v n xs) (h':Kd.R (Kd.int .u32) e' W' base' ok v' l) (hok:∀ k,ok k->W.heap.size<=k) {k:Nat} (hk:v.ownBlock=some k) (hk':v'.ownBlock=some k):False:=by
 obtain ⟨cells,hc⟩:=Zff h k hk
 have h1:=(Array.getElem?_eq_some_iff.1 hc).1
 have h2:=hok k (h'.1 k hk')
 omega
theorem size1 {l:List Int} (h:l.length=1):l=[l.getD 0 0]:=by
 obtain ⟨x,rfl⟩:=List.length_eq_one_iff.1 h
 rfl
theorem div_one (A0:Option Addr) (c0:Nat) (l0:List Int) (A1:Option Addr) (c1:Nat) (l1:List Int) (w:World) (hr0:Kd.C (Kd.int .u32) w A0 l0.length l0) (hc0:l0.length<=c0) (hr1:Kd.C (Kd.int .u32) w A1 l1.length l1) (hc1:l1.length<=c1)
  (h0:OkW l0) (h1:OkW l1) (hge:¬ num l0 < num l1) (hone:l1.length=1) :
  Calls Tryz.prog 127 #[.slice A0 l0.length c0,.slice A1 l1.length c1] w fun e w' => ∃ v0_ v1_:Value,e=.returned (.tuple #[v0_,v1_])/\Kd.R (Kd.int .u32) 85 w' w.heap.size (fun k_=>some k_ ≠ (v1_:Value).ownBlock) v0_ (limbs (num l0 / num l1))/\Kd.R (Kd.int .u32) 85 w' w.heap.size (fun k_=>some k_ ≠ (v0_:Value).ownBlock) v1_ (limbs (num l0 % num l1))/\Below w.heap.size w w':=by
 obtain ⟨ad,y,hA,hy,hcy⟩:∃ (ad:Addr) (y:Nat),A1=some ad/\l1=[(y:Int)]/\w.cell? (ad.add 0)=some (.int .u32 (y:Int)):=by
  obtain ⟨ad,c,hA,_,hK,hcc⟩:=Kd.Zmt hr1 (0:Int) (0:Int) (by omega) (by omega)
  have e1:=size1 hone
  obtain ⟨y,hy⟩:∃ y:Nat,l1.getD 0 0=(y:Int):=⟨(l1.getD 0 0).toNat,by
   have := h1.dg (l1.getD 0 0) (by rw [e1];simp)
   omega⟩
  refine ⟨ad,y,hA,by rw [<- hy];exact e1,?_⟩
  obtain rfl:c=[.int .u32 (l1.getD (0:Int).toNat 0)]:=hK
  have := hcc 0 _ rfl
  rw [show (0:Int).toNat=0 from rfl,hy] at this
  exact this
 subst hA hy
 obtain ⟨b_,o_,rfl⟩:=Zi0 (show w.cell? ad=_ from hcy)
 have hcy0:w.cell? ⟨b_,o_,none⟩=some (.int .u32 (y:Int)):=hcy
 have hny:num [(y:Int)]=y:=by unfold num;simp [val]
 have hy1:(y:Int) < 4294967296:=(h1.dg (y:Int) (by simp)).2
 have hy0:0 < y:=by
  have := h1.nz
  rcases Nat.eq_zero_or_pos y with e|e
  ·subst e;exact absurd rfl this
  ·exact e
 rw [hny] at hge ⊢
 have cC:=fun (W:World) (hB:Below w.heap.size w W)=>Zbg.calls A0 c0 l0 (some ⟨b_,o_,none⟩) c1 [(y:Int)] (cmpI (num l0) y) W (Kd.Zv hr0 hB) hc0 (Kd.Zv hr1 hB) hc1 (by
  unfold Zbg.f
  rw [Zek.2 h0,Zek.2 h1,Bool.and_self,if_pos rfl,hny])
 have hcm:decide (cmpI (num l0) y < 0)=false:=decide_eq_false (by unfold cmpI;rw [if_neg (by omega)];split <;> omega)
 obtain ⟨cm,hcme⟩:∃ cm,cmpI (num l0) y=cm:=⟨_,rfl⟩
 rw [hcme] at cC hcm
 have cS:=fun (W:World) (hB:Below w.heap.size w W)=>Zct.calls A0 c0 l0 (y:Int) _ _ W (Kd.Zv hr0 hB) hc0 (by
  unfold Zct.f
  rw [Zek.2 h0,decide_eq_true (show (0:Int) < (y:Int) by omega),decide_eq_true hy1,Bool.and_self,if_pos (by rfl),Int.toNat_natCast])
 have hrem:num l0 % y < 4294967296:=Nat.lt_of_lt_of_le (Nat.mod_lt _ hy0) (by omega)
 obtain ⟨QL,hQL⟩:∃ QL,limbs (num l0 / y)=QL:=⟨_,rfl⟩
 obtain ⟨r,hr⟩:∃ r,num l0 % y=r:=⟨_,rfl⟩
 rw [hQL,hr] at cS ⊢
 rw [hr] at hrem
 obtain ⟨kT,hkT⟩:=(P.Zef (l:=[(r:Int)]) (n:=r) (Dg.one (by omega) (by omega)) (by rw [val_one]) (by simp)).ex
 have CC:=Aside0.mk cC
 have CS:=Aside0.mk cS
 have HKT:=Aside0.mk hkT
 have H1:=Aside0.mk hc1
 have hlen1:([(y:Int)]:List Int).length=1:=rfl
 rw [hlen1]
 refine (callsIn_wide (n:=4)).1 ?_
 refine callsIn_of_wp_marks Tryz.func127 rfl trivial ?_ rfl
 simp only [Tryz.ntmps127,List.size_toArray,List.length_cons,List.length_nil,Nat.reduceAdd,Nat.reduceSub,Array.replicate_succ,Array.replicate_zero,List.push_toArray,List.append_toArray,List.nil_append,List.cons_append]
 clear hr0 hc0 hr1 hc1 hge h0 h1 hone hcy hny hy0 hcme cC cS hQL hr hkT hlen1 hrem
 gi_wp2_with (first|(refine ⟨trivial,?_⟩;gi_at_call 138;refine (callsIn_wide.2 (CC.out _ (Below.refl _ _))).mono ?_;rintro e w1 ⟨rfl,hb1⟩;have hcy1:=Zdd hb1 hcy0)|(refine ⟨trivial,?_⟩;gi_at_call 143;refine (callsIn_wide.2 (CS.out _ hb1)).mono ?_;rintro e w2 ⟨v0,rfl,hR,hb2⟩)|(refine ⟨trivial,?_⟩;gi_at_call 132;refine (callsIn_wide.2 (Zad.calls kT (fun k=>k=w2.heap.size) _ [(r:Int)] (limbs r) w2 _ ((Below.refl _ _).alloc (Nat.le_refl _) _) (Zq6 w2 r) HKT.out)).mono ?_;rintro e w3 ⟨v1,rfl,hR1,hb3,hkp⟩))
 refine ⟨_,by simp [results,Tryz.f127,go_sem],v0,v1,rfl,?_,?_,hb1.trans ((hb2.mono hb1.size).trans (hb3.mono (Nat.le_trans hb1.size hb2.size)))⟩
 ·exact Kd.Zed (enc:=Value.int .u32) (Zim (Kd.Ze1 (enc:=Value.int .u32) (Kd.Zc hR hb3)) hb1.size) (fun k hk he=>Zjq (Kd.Ze1 (enc:=Value.int .u32) hR) hR1 (fun k h=>by
   rcases h with h|h
   ·omega
   ·simp at h;omega) hk he.symm)
 ·exact Kd.Zed (enc:=Value.int .u32) (Zim (Kd.Ze1 (enc:=Value.int .u32) hR1) (Nat.le_trans hb1.size hb2.size)) (fun k hk he=>Zjq (Kd.Ze1 (enc:=Value.int .u32) hR) hR1 (fun k h=>by
   rcases h with h|h
   ·omega
   ·simp at h;omega) he.symm hk)
section
variable {w W W':World} {K gu cu gv cv p m:Nat} {V ds qs ds' qs':List Int} {sv:Value}
end
def Zdl.f (l0 l1:List Int):Option (List Int × List Int):=if okW l0 && (okW l1 && decide (l1.length=1)) then some (limbs (num l0 / num l1),limbs (num l0 % num l1)) else none
theorem Zdl.calls (A0:Option Addr) (c0:Nat) (l0:List Int) (A1:Option Addr) (c1:Nat) (l1:List Int) (r1 r2:List Int) (w:World) (hr0:Kd.C (Kd.int .u32) w A0 l0.length l0) (hc0:l0.length<=c0) (hr1:Kd.C (Kd.int .u32) w A1 l1.length l1) (hc1:l1.length<=c1) (h:Zdl.f l0 l1=some (r1,r2)) :
  Calls Tryz.prog 127 #[.slice A0 l0.length c0,.slice A1 l1.length c1] w fun e w' => ∃ v0_ v1_:Value,e=.returned (.tuple #[v0_,v1_])/\Kd.R (Kd.int .u32) 85 w' w.heap.size (fun k_=>some k_ ≠ (v1_:Value).ownBlock) v0_ r1/\Kd.R (Kd.int .u32) 85 w' w.heap.size (fun k_=>some k_ ≠ (v0_:Value).ownBlock) v1_ r2/\Below w.heap.size w w':=by
 unfold Zdl.f at h
 split at h
 case isFalse=>cases h
 case isTrue hk =>
 simp only [Bool.and_eq_true,Zek,decide_eq_true_eq] at hk
 obtain ⟨rfl,rfl⟩:=Prod.mk.inj (Option.some.inj h)
 obtain ⟨h0,h1,hne⟩:=hk
 by_cases hlt:num l0 < num l1
 ·have := Zpj A0 c0 l0 A1 c1 l1 w hr0 hc0 hr1 hc1 h0 h1 hlt
  rw [Nat.div_eq_of_lt hlt,Nat.mod_eq_of_lt hlt,show limbs (num l0)=l0 from Zqh (b:=4294967296) (by omega) h0.dg h0.nz]
  exact this
 ·exact div_one A0 c0 l0 A1 c1 l1 w hr0 hc0 hr1 hc1 h0 h1 hlt hne
end YtjbjkmccfocikaaGreatDoor.B
end
section
namespace YtjbjkmccfocikaaGreatDoor.B
open Go.RowKit YtjbjkmccfocikaaGreatDoorW.PrintWords YtjbjkmccfocikaaGreatDoorW.PrintLast YtjbjkmccfocikaaGreatDoorW.PrintMore
attribute [local go_sem] Zb3 Zb5 Zcp Zcq Zbs Zbt Zb4 Zb6
def Zfw.f (k:Nat) (l0:List Int) (l1:List Int):Option (List Int × List Int × Int):=(Zc0.f k l0 l1).bind fun qa=>(if qa=0 then (if (l1.length:Int)=0 then (some (([]:List Int),([]:List Int),53)) else ((Zdl.f l0 l1).bind fun qb=>(some (qb.1,qb.2,0)))) else (some (([]:List Int),([]:List Int),qa)))
theorem Zfw.calls (k:Nat) (A0:Option Addr) (c0:Nat) (l0:List Int) (A1:Option Addr) (c1:Nat) (l1:List Int) (r1:List Int) (r2:List Int) (r3:Int) (w:World) (hr0:Kd.C (Kd.int .u32) w A0 l0.length l0) (hc0:l0.length<=c0) (hr1:Kd.C (Kd.int .u32) w A1 l1.length l1) (hc1:l1.length<=c1) (h:Zfw.f k l0 l1=some (r1,r2,r3)) :
  Calls Tryz.prog 69 #[.slice A0 l0.length c0,.slice A1 l1.length c1] w fun e w' => ∃ v0_ v1_:Value,e=.returned (.tuple #[v0_,v1_,.int .i64 r3])/\Kd.R (Kd.int .u32) 85 w' w.heap.size (fun k_=>some k_ ≠ (v1_:Value).ownBlock) v0_ r1/\Kd.R (Kd.int .u32) 85 w' w.heap.size (fun k_=>some k_ ≠ (v0_:Value).ownBlock) v1_ r2/\Below w.heap.size w w':=by
 have HR0:=am hr0
 have HC0:=am hc0
 clear hr0 hc0
 have HR1:=am hr1
 have HC1:=am hc1
 clear hr1 hc1
 have HB:=am (Below.refl w.heap.size w)
 have H:((Zc0.f k l0 l1).bind fun qa=>(if qa=0 then (if (l1.length:Int)=0 then (some (([]:List Int),([]:List Int),53)) else ((Zdl.f l0 l1).bind fun qb=>(some (qb.1,qb.2,0)))) else (some (([]:List Int),([]:List Int),qa))))=some (r1,r2,r3):=h
 clear h
 replace H:=ob H
 obtain ⟨qa,A3,H⟩:=H
 replace H:=eI H
 rcases H with ⟨c4b0,c4b1,H⟩|⟨c4,c4b0,c4b1,H⟩
 ·replace H:=eI H
  rcases H with ⟨c5b0,c5b1,H⟩|⟨c5,c5b0,c5b1,H⟩
  ·simp only [Option.some.injEq,Prod.mk.injEq] at H
   obtain ⟨rfl,rfl,rfl⟩:=H
   go_enter Tryz.func69,Tryz.ntmps69
   go_wp2_with (first|(refine gL (some 12) Tryz.func126 #[.slice A0 l0.length c0,.slice A1 l1.length c1] (h:=?_);(with_reducible refine (Zc0.calls k _ _ l0 _ _ l1 qa _ ?side1 ?side2 ?side3 ?side4 A3.o).mono ?_);(case side1=>refine cp ?_;exact HR0.o);(case side2=>exact HC0.o);(case side3=>refine cp ?_;exact HR1.o);(case side4=>exact HC1.o);rintro e w6 ⟨rfl,hb⟩;refine ⟨_,rfl,?_⟩;replace HB:=bS hb))
   go_ret3
   exact ⟨_,_,pE,pN,pN,pB⟩
  ·have c5b2:¬ (l1=[]):=fun h_=>c5 (by rw [h_];rfl)
   replace H:=ob H
   obtain ⟨⟨qe,qf⟩,A7,H⟩:=H;(try dsimp only at H)
   simp only [Option.some.injEq,Prod.mk.injEq] at H
   obtain ⟨rfl,rfl,rfl⟩:=H
   go_enter Tryz.func69,Tryz.ntmps69
   go_wp2_with (first|(refine gL (some 12) Tryz.func126 #[.slice A0 l0.length c0,.slice A1 l1.length c1] (h:=?_);(with_reducible refine (Zc0.calls k _ _ l0 _ _ l1 qa _ ?side1 ?side2 ?side3 ?side4 A3.o).mono ?_);(case side1=>refine cp ?_;exact HR0.o);(case side2=>exact HC0.o);(case side3=>refine cp ?_;exact HR1.o);(case side4=>exact HC1.o);rintro e w8 ⟨rfl,hb⟩;refine ⟨_,rfl,?_⟩;replace HB:=bS hb)|(refine gL (some 22) Tryz.func127 #[.slice A0 l0.length c0,.slice A1 l1.length c1] (h:=?_);(with_reducible refine (Zdl.calls _ _ l0 _ _ l1 qe qf _ ?side1 ?side2 ?side3 ?side4 A7.o).mono ?_);(case side1=>exact cB HR0 HB);(case side2=>exact HC0.o);(case side3=>exact cB HR1 HB);(case side4=>exact HC1.o);rintro e w9 ⟨qg,qh,rfl,ho0,ho1,hb⟩;refine ⟨_,rfl,?_⟩;have qc:=am (Kd.Zt ho0 (Zb pB));have qd:=am (Kd.Zt ho1 (Zb pB));replace HB:=bS hb))
   go_ret3
   exact ⟨_,_,pE,by refine rp ?_;exact qc.o,by refine rp ?_;exact qd.o,pB⟩
 ·simp only [Option.some.injEq,Prod.mk.injEq] at H
  obtain ⟨rfl,rfl,rfl⟩:=H
  go_enter Tryz.func69,Tryz.ntmps69
  go_wp2_with (first|(refine gL (some 12) Tryz.func126 #[.slice A0 l0.length c0,.slice A1 l1.length c1] (h:=?_);(with_reducible refine (Zc0.calls k _ _ l0 _ _ l1 qa _ ?side1 ?side2 ?side3 ?side4 A3.o).mono ?_);(case side1=>refine cp ?_;exact HR0.o);(case side2=>exact HC0.o);(case side3=>refine cp ?_;exact HR1.o);(case side4=>exact HC1.o);rintro e w10 ⟨rfl,hb⟩;refine ⟨_,rfl,?_⟩;replace HB:=bS hb))
  go_ret3
  exact ⟨_,_,pE,pN,pN,pB⟩
def Zc6.f (k:Nat) (a0:Int):Option (List Int):=(Zad.f k (([(a0) % 4294967296,(a0 / 4294967296) % 4294967296]:List Int))).bind fun qa=>(some qa)
theorem Zc6.calls (k:Nat) (a0:Int) (r:List Int) (w:World) (h:Zc6.f k a0=some r) :
  Calls Tryz.prog 76 #[.int .u64 a0] w fun e w' => ∃ v0_:Value,e=.returned (v0_)/\Kd.R (Kd.int .u32) 85 w' w.heap.size (fun _=>True) v0_ r/\Below w.heap.size w w':=by
 have HB:=am (Below.refl w.heap.size w)
 have H:((Zad.f k (([(a0) % 4294967296,(a0 / 4294967296) % 4294967296]:List Int))).bind fun qa=>(some qa))=some r:=h
 clear h
 obtain ⟨qd,qc⟩:∃ y_:List Int,y_=(([(a0) % 4294967296,(a0 / 4294967296) % 4294967296]:List Int)):=⟨_,rfl⟩
 replace H:((Zad.f k qd).bind fun qa=>(some qa))=some r:=by have hy_:=qc;exact pH
 have qe:=am qc
 clear qc
 obtain ⟨qa,A2,H⟩:=ob H
 obtain rfl:=Option.some.inj H
 go_enter Tryz.func76,Tryz.ntmps76
 go_wp2_with (first|((with_reducible refine gd 8 ?_);refine Kd.Zgi (Kd.int .u32) _ 85 ?hg (N:=8) ?hd (xs:=([(a0) % 4294967296,(a0 / 4294967296) % 4294967296]:List Int)) (inner:=[.int .u32 ((a0) % 4294967296),.int .u32 ((a0 / 4294967296) % 4294967296)]) (ok:=fun _=>True) (okp:=fun _=>True) ?hr ?hp (fun _ hk=>hk) trivial (Below.refl _ _) (Nat.le_refl _) (by simp) ?_;(case hd=>rfl);(case hg=>rfl);(case hr=>first|(go_simp;done)|(go_simp;rfl));(case hp=>exact (Reps.one (show Kd.M (Kd.int .u32) _ _ _ ((a0) % 4294967296) [.int .u32 ((a0) % 4294967296)] from rfl) (Reps.one (show Kd.M (Kd.int .u32) _ _ _ ((a0 / 4294967296) % 4294967296) [.int .u32 ((a0 / 4294967296) % 4294967296)] from rfl) (Reps.none _ _))));intro qg w3 ho4 hb hg_ hnew_;clear hg_ hnew_;(first|rw [<- qe.out] at ho4|(simp only [Int.reduceToNat] at ho4;rw [<- qe.out] at ho4));have qb:=am (Kd.Zt ho4 (Zb pB));replace HB:=bS hb;clear hb ho4;obtain ⟨Ao5,co5,eo5⟩:=Kd.Zm qb.o;subst eo5)|(refine gL (some 9) Tryz.func132 #[.slice Ao5 qd.length co5] (h:=?_);(with_reducible refine (Zad.calls k (fun k_=>some k_=(.slice Ao5 qd.length co5:Value).ownBlock) (.slice Ao5 qd.length co5) qd qa w _ ?side1 ?side2 A2.o).mono ?_);(case side1=>exact pB);(case side2=>exact Kd.Zbc rfl qb.o);rintro e w6 ⟨qh,rfl,ho0,hb,hkp⟩;refine ⟨_,rfl,?_⟩;have qf:=am (Kd.Zi (ok':=fun k_=>True) ho0 (fun k_ hk_=>trivial));replace HB:=am hb;clear qb))
 go_ret
 exact ⟨_,pE,by refine rp ?_;exact qf.o,pB⟩
end YtjbjkmccfocikaaGreatDoor.B
end
section
namespace YtjbjkmccfocikaaGreatDoor.P
open Go.RowKit YtjbjkmccfocikaaGreatDoor.B YtjbjkmccfocikaaGreatDoorW.PrintWords YtjbjkmccfocikaaGreatDoorW.PrintLast YtjbjkmccfocikaaGreatDoorW.PrintMore YtjbjkmccfocikaaGreatDoor.P.Nm
theorem Zf3 {m n:Nat} (hm:nd m<=1000000) (hn:nd n<=1000000):Tells (fun k=>Zak.f k (limbs m) (limbs n)) (limbs (m*n)):=by
 have := Zn3 (Zcx m) (Zcx n) (Nat.le_trans (Zd8 m) hm) (Nat.le_trans (Zd8 n) hn)
 rw [Zce,Zce] at this;exact this
theorem Zjn {m n:Nat} (hm:nd m<=1000000) (hn:nd n<=1000000):Tells (fun k=>Zal.f k (limbs m) (limbs n)) (limbs (m+n)):=by
 have := Znk (Zcx m) (Zcx n) (Nat.le_trans (Zd8 m) hm) (Nat.le_trans (Zd8 n) hn)
 rw [Zce,Zce] at this;exact this
theorem Zou {m n:Nat} (hm:nd m<=1000000) (h:n<=m):Tells (fun k=>Zbo.f k (limbs m) (limbs n)) (limbs (m - n)):=by
 have := Zov (Zcx m) (Zcx n) (Zg3 n) (Nat.le_trans (Zd8 m) hm) (by rw [Zce,Zce];exact h)
 rw [Zce,Zce] at this;exact this
theorem Zjv {m n:Nat} (hm:nd m<=1000000) (hn:nd n<=1000000):Zbg.f (limbs m) (limbs n)=some (cmpN m n):=by
 unfold Zbg.f
 rw [Zel hm,Zel hn,Bool.and_self,if_pos rfl,Zce,Zce]
 congr 1
 unfold cmpI cmpN
 by_cases h1:m < n
 ·rw [if_pos h1,if_pos (by omega)]
 ·rw [if_neg h1,if_neg (by omega)]
  by_cases h2:n < m
  ·rw [if_pos h2,if_pos (by omega)]
  ·rw [if_neg h2,if_neg (by omega)]
theorem Znv {m n:Nat} (h0:n ≠ 0) (hs:n < 4294967296) (hm:nd m<=1000000) (hn:nd n<=1000000):Zdl.f (limbs m) (limbs n)=some (limbs (m / n),limbs (m % n)):=by
 unfold Zdl.f
 rw [Zel hm,Zel hn,decide_eq_true (show (limbs n).length=1 by rw [Zeu h0,Nat.div_eq_of_lt hs];rfl),Zce,Zce];rfl
theorem Zkz {m:Nat} (hm:nd m<=1000000) (b:Nat) (h0:0 < b) (hb:b < 4294967296):Zct.f (limbs m) (b:Int)=some (limbs (m / b),((m % b:Nat):Int)):=by
 unfold Zct.f
 rw [Zel hm,decide_eq_true (show (0:Int) < (b:Int) by omega),decide_eq_true (show (b:Int) < 4294967296 by omega),Zce,Int.toNat_natCast];rfl
theorem Zqd (m n:Nat):nd (m*n)<=nd m+nd n:=by
 refine Zgp ?_
 rw [Nat.pow_add]
 exact Nat.mul_lt_mul'' (Zj2 m) (Zj2 n)
theorem Zr7 (m n:Nat):nd (m+n)<=max (nd m) (nd n)+1:=by
 refine Zgp ?_
 have h1:=Zj2 m
 have h2:=Zj2 n
 have h3:=Nat.pow_le_pow_right (show 0 < 10 by omega) (Nat.le_max_left (nd m) (nd n))
 have h4:=Nat.pow_le_pow_right (show 0 < 10 by omega) (Nat.le_max_right (nd m) (nd n))
 rw [Nat.pow_succ];omega
theorem Zn4 (k:Nat):nd (10 ^ k)=k+1:=Zsr (Nat.le_refl _) (Nat.pow_lt_pow_right (by omega) (by omega))
theorem Zjb:∀ (f n o b:Nat),n<=f->n<=2400->nd (o*b ^ n)<=100000->1<=o->1<=b->nd b<=100000->Tells (fun k=>Zbz.l0 k (n:Int) (limbs o) (limbs b)) (limbs (o*b ^ n))
 | f,0,o,b,hf,hn,hd,ho,hb,hb2=>by
  refine Tells.succ ?_
  simp only [Zbz.l0]
  exact Tells.ifn (by omega) ((Tells.pure _).val (by rw [Nat.pow_zero,Nat.mul_one]))
 | 0,n+1,o,b,hf,hn,hd,ho,hb,hb2=>by omega
 | f+1,n+1,o,b,hf,hn,hd,ho,hb,hb2=>by
  have hbp:∀ k,1<=b ^ k:=fun k=>Nat.pow_pos (by omega)
  have hdo:nd o<=100000:=Nat.le_trans (Zfx (Nat.le_mul_of_pos_right o (hbp (n+1)))) hd
  have hhalf:n+1=2*((n+1) / 2)+(n+1) % 2:=(Nat.div_add_mod (n+1) 2).symm
  have hpw:b ^ (n+1)=(b*b) ^ ((n+1) / 2)*b ^ ((n+1) % 2):=by
   conv=>lhs;rw [hhalf]
   rw [Nat.pow_add,Nat.pow_mul,Nat.pow_two]
  have e1:Int.tmod ((n+1:Nat):Int) 2=(((n+1) % 2:Nat):Int):=by rw [Int.tmod_eq_emod_of_nonneg (by omega)];omega
  have e2:Int.tdiv ((n+1:Nat):Int) 2=(((n+1) / 2:Nat):Int):=by rw [Int.tdiv_eq_ediv_of_nonneg (by omega)];omega
  have hobb:=Zf3 (m:=o) (n:=b) (by omega) (by omega)
  have hbb:=Zf3 (m:=b) (n:=b) (by omega) (by omega)
  have sq:∀ o',o'*(b*b) ^ ((n+1) / 2)=o*b ^ (n+1)->1<=o'->Tells (fun k=>if ((n+1:Nat):Int) > 1 then ((Zak.f k (limbs b) (limbs b)).bind fun t=>Zbz.l0 k (((n+1) / 2:Nat):Int) (limbs o') t) else Zbz.l0 k (((n+1) / 2:Nat):Int) (limbs o') (limbs b)) (limbs (o*b ^ (n+1))):=fun o' ho' ho1=>by
   by_cases hn1:1 < n+1
   ·have hnd2:nd (b*b)<=100000:=by
     refine Nat.le_trans (Zfx ?_) hd
     rw [<- ho']
     have h1:(b*b) ^ 1<=(b*b) ^ ((n+1) / 2):=Nat.pow_le_pow_right (Nat.mul_pos (by omega) (by omega)) (by omega)
     rw [Nat.pow_one] at h1
     exact Nat.le_trans h1 (Nat.le_mul_of_pos_left _ (by omega))
    have ih:=Zjb f ((n+1) / 2) o' (b*b) (by omega) (by omega) (by rw [ho'];exact hd) ho1 (Nat.mul_pos (by omega) (by omega)) hnd2
    rw [ho'] at ih
    exact Tells.ifp (by omega) (hbb.bind ih)
   ·have hz:(n+1) / 2=0:=by omega
    have ih:=Zjb f 0 o' b (by omega) (by omega) (by rw [Nat.pow_zero,Nat.mul_one];rw [hz,Nat.pow_zero,Nat.mul_one] at ho';rw [ho'];exact hd) ho1 hb hb2
    rw [hz,Nat.pow_zero,Nat.mul_one] at ho'
    rw [hz]
    exact Tells.ifn (by omega) (ih.val (by rw [Nat.pow_zero,Nat.mul_one,ho']))
  refine Tells.succ ?_
  simp only [Zbz.l0]
  rw [e1,e2,w64c (by omega)]
  refine Tells.ifp (by omega) ?_
  by_cases ho2:(n+1) % 2=1
  ·refine Tells.ifp (by omega) (hobb.bind (sq (o*b) ?_ (Nat.mul_pos (by omega) (by omega))))
   rw [hpw,ho2,Nat.pow_one,Nat.mul_assoc,Nat.mul_comm b]
  ·refine Tells.ifn (by omega) (sq o ?_ ho)
   rw [hpw,show (n+1) % 2=0 by omega,Nat.pow_zero,Nat.mul_one]
theorem Zkv (n:Nat) (h:n<=2400):Tells (fun k=>Zbz.f k (n:Int)) (limbs (10 ^ n)):=by
 have h1:=Zjb n n 1 10 (Nat.le_refl _) h (by rw [Nat.one_mul,Zn4];omega) (by omega) (by omega) (by rw [show nd 10=2 from Zn4 1];omega)
 rw [Nat.one_mul] at h1
 exact h1
theorem Zm5 (n:Nat) (h:n<=2400):Tells (fun k=>Zgo.f k (n:Int)) (limbs (10 ^ n),0):=by
 unfold Zgo.f
 exact Tells.ifn (by omega) (Tells.ifn (by omega) ((Zkv n h).bind (Tells.pure _)))
theorem Zg9 (l:List Int) (hl:l.length<=9223372036854775807):Zbq.f l=some (chkL l):=by
 unfold Zbq.f;exact Zjt l hl
theorem Zjs {n:Nat} (h:(limbs n).length<=256):chkL (limbs n)=0:=(Zkk (Zcx n)).2 (Zpo h)
theorem chkN {n:Nat} (h:(limbs n).length<=256):Zbq.f (limbs n)=some 0:=by rw [Zg9 _ (by omega),Zjs h]
theorem cmpOr2 (a b:Int):Tells (fun k=>Zbx.f k [a,b]) (if a=0 then b else a):=by
 unfold Zbx.f
 refine Tells.succ ?_
 simp only [Zbx.l0]
 refine Tells.ifp (by simp) (Tells.ifp (by decide) (Tells.ifp (by simp) ?_))
 have e0:rd [a,b] 0=a:=rfl
 have e1:rd [a,b] 1=b:=rfl
 have e2:wrap64 (0+1)=1:=by decide +kernel
 have e3:wrap64 (1+1)=2:=by decide +kernel
 rw [e0,e2]
 by_cases h:a=0
 ·refine Tells.ifp h ?_
  rw [if_pos h]
  refine Tells.succ ?_
  simp only [Zbx.l0]
  rw [e1,e3]
  refine Tells.ifp (by simp) (Tells.ifp (by decide) (Tells.ifp (by simp) ?_))
  by_cases h2:b=0
  ·refine Tells.ifp h2 (Tells.succ ?_)
   simp only [Zbx.l0]
   refine Tells.ifn (by simp) ((Tells.pure _).val h2.symm)
  ·exact Tells.ifn h2 (Tells.pure _)
 ·refine Tells.ifn h ?_
  rw [if_neg h]
  exact Tells.pure _
theorem Zga {m n:Nat} (hm:(limbs m).length<=256) (hn:(limbs n).length<=256):Tells (fun k=>Zc0.f k (limbs m) (limbs n)) 0:=by
 unfold Zc0.f
 rw [chkN hm,chkN hn]
 exact (Tells.pure _).bind ((Tells.pure _).bind ((cmpOr2 0 0).bind (Tells.pure _)))
theorem Zqa (n:Nat):Zd6.f (limbs n)=some (fit n):=by
 unfold Zd6.f fit
 by_cases h:(limbs n).length<=256
 ·rw [if_neg (by omega),if_pos h]
 ·rw [if_pos (by omega),if_neg h]
theorem Znw {n:Nat} (h:(limbs n).length<=256):fit n=(limbs n,0):=by unfold fit;rw [if_pos h]
theorem Zj3 {n k:Nat} (h:(limbs n).length<=k):nd n<=10*k:=by
 refine Zgp (Nat.lt_of_lt_of_le (Zlr n) ?_)
 refine Nat.le_trans (Nat.pow_le_pow_right (by omega) h) ?_
 rw [Nat.pow_mul]
 exact Nat.pow_le_pow_left (by decide) _
theorem Zdm {n:Nat} (h:(limbs n).length<=256):nd n<=2560:=Zj3 h
theorem Zgg (n:Nat) (h:n < 18446744073709551616):Tells (fun k=>Zc6.f k (n:Int)) (limbs n):=by
 unfold Zc6.f
 have e1:((n:Int) / 4294967296) % 4294967296=((n / 4294967296:Nat):Int):=by omega
 rw [emod32,e1]
 refine (Zef (n:=n) (Dg.cons (by omega) (by omega) (Dg.one (by omega) (by omega))) ?_ (by simp)).bind (Tells.pure _)
 rw [Zc8,val_one];omega
theorem Zms {m n:Nat} (hm:(limbs m).length<=256) (hn:(limbs n).length<=256):Tells (fun k=>Zfd.f k (limbs m) (limbs n)) (fit (m+n)):=by
 have h1:=Zdm hm
 have h2:=Zdm hn
 unfold Zfd.f
 refine (Zga hm hn).bind (Tells.ifp rfl ((Zjn (m:=m) (n:=n) (by omega) (by omega)).bind ?_))
 rw [Zqa]
 exact (Tells.pure _).bind (Tells.pure _)
theorem Zjg {m n:Nat} (hm:(limbs m).length<=256) (hn:(limbs n).length<=256):Tells (fun k=>Zes.f k (limbs m) (limbs n)) (fit (m*n)):=by
 have h1:=Zdm hm
 have h2:=Zdm hn
 unfold Zes.f
 refine (Zga hm hn).bind (Tells.ifp rfl ((Zf3 (m:=m) (n:=n) (by omega) (by omega)).bind ?_))
 rw [Zqa]
 exact (Tells.pure _).bind (Tells.pure _)
theorem Zjl {m n:Nat} (hm:(limbs m).length<=256) (hn:(limbs n).length<=256):Tells (fun k=>Zeb.f k (limbs m) (limbs n)) (if m < n then ([],4) else (limbs (m - n),0)):=by
 have h1:=Zdm hm
 have h2:=Zdm hn
 unfold Zeb.f
 refine (Zga hm hn).bind (Tells.ifp rfl ?_)
 rw [Zjv (by omega) (by omega)]
 refine (Tells.pure _).bind ?_
 by_cases h:m < n
 ·have ec:cmpN m n < 0:=by unfold cmpN;rw [if_pos h];omega
  rw [if_pos h]
  exact Tells.ifp ec (Tells.pure _)
 ·have ec:¬ (cmpN m n < 0):=by unfold cmpN;rw [if_neg h];split <;> omega
  rw [if_neg h]
  exact Tells.ifn ec ((Zou (m:=m) (n:=n) (by omega) (by omega)).bind (Tells.pure _))
theorem Zmu {m n:Nat} (hs:n < 4294967296) (hm:(limbs m).length<=256) (hn:(limbs n).length<=256):Tells (fun k=>Zfw.f k (limbs m) (limbs n)) (if n=0 then ([],[],53) else (limbs (m / n),limbs (m % n),0)):=by
 have h1:=Zdm hm
 have h2:=Zdm hn
 unfold Zfw.f
 refine (Zga hm hn).bind (Tells.ifp rfl ?_)
 by_cases h:n=0
 ·subst h
  exact Tells.ifp (by rw [Zev];rfl) (Tells.pure _)
 ·have hl0:0 < (limbs n).length:=List.length_pos_iff.2 (Zez h)
  rw [if_neg h,Znv h hs (by omega) (by omega)]
  exact Tells.ifn (by omega) ((Tells.pure _).bind (Tells.pure _))
theorem Ziq {m n:Nat} (hm:(limbs m).length<=256) (hn:(limbs n).length<=256):Tells (fun k=>Zdc.f k (limbs m) (limbs n)) (cmpN m n,0):=by
 have h1:=Zdm hm
 have h2:=Zdm hn
 unfold Zdc.f
 rw [chkN hm,chkN hn]
 refine (Tells.pure _).bind ((Tells.pure _).bind ((cmpOr2 0 0).bind (Tells.ifp rfl ?_)))
 rw [Zjv (by omega) (by omega)]
 exact (Tells.pure _).bind (Tells.pure _)
theorem Zrv (l:List Int) (hl:l.length<=1000000):∀ (d i:Nat) (x:List Int),l.length - 2*i<=d->2*i<=l.length+1->x.length=l.length->(∀ p,p < l.length->x.getD p 0=if p < i\/l.length - i<=p then l.getD (l.length - 1 - p) 0 else l.getD p 0) ->
  Tells (fun k=>Zp.l0 k x (i:Int) ((l.length:Int) - 1 - i)) l.reverse:=by
 have fin:∀ (x:List Int),x.length=l.length->(∀ p,p < l.length->x.getD p 0=l.getD (l.length - 1 - p) 0)->x=l.reverse:=fun x hx h=>by
  refine List.ext_getElem (by simp [hx]) (fun p h1 h2=>?_)
  have := h p (by omega)
  rw [getD_in h1,getD_in (by omega)] at this
  rw [this,List.getElem_reverse]
 intro d
 induction d with
 | zero =>
  intro i x hd hi hx h
  have c:¬ ((i:Int) < (l.length:Int) - 1 - i):=by omega
  refine Tells.succ ?_
  simp only [Zp.l0]
  refine Tells.ifn c ((Tells.pure _).val (fin x hx (fun p hp=>?_)))
  rw [h p hp]
  by_cases hq:p < i\/l.length - i<=p
  ·rw [if_pos hq]
  ·rw [if_neg hq,show l.length - 1 - p=p by omega]
 | succ d ih =>
  intro i x hd hi hx h
  by_cases c:(i:Int) < (l.length:Int) - 1 - i
  ·obtain ⟨j,hj⟩:∃ j:Nat,(l.length:Int) - 1 - i=j:=⟨l.length - 1 - i,by omega⟩
   have hij:i < j:=by omega
   have hjl:j < l.length:=by omega
   have hxi:=h i (by omega)
   have hxj:=h j hjl
   rw [if_neg (by omega)] at hxi hxj
   have hnext:=ih (i+1) ((x.set i (x.getD j 0)).set j (x.getD i 0)) (by omega) (by omega) (by simp [hx]) (fun p hp=>by
    by_cases hpj:p=j
    ·subst hpj
     rw [List.getD,List.getElem?_set_self (by simp;omega),if_pos (by omega),hxi,show l.length - 1 - p=i by omega];rfl
    ·rw [getD_set_ne _ (Ne.symm hpj)]
     by_cases hpi:p=i
     ·subst hpi
      rw [List.getD,List.getElem?_set_self (by omega),if_pos (by omega),hxj,show l.length - 1 - p=j by omega];rfl
     ·rw [getD_set_ne _ (Ne.symm hpi),h p hp]
      by_cases hq:p < i\/l.length - i<=p
      ·rw [if_pos hq,if_pos (by omega)]
      ·rw [if_neg hq,if_neg (by omega)])
   have e2:(l.length:Int) - 1 - ((i+1:Nat):Int)=(j:Int) - 1:=by omega
   rw [e2] at hnext
   rw [hj]
   refine Tells.succ ?_
   simp only [Zp.l0]
   rw [rd_n,rd_n,Int.toNat_natCast,Int.toNat_natCast,w64s (by omega),w64d (by omega)]
   exact Tells.ifp (by omega) (Tells.ifp (by omega) (Tells.ifp (by omega) (Tells.ifp (by omega) (Tells.ifp (by omega) hnext))))
  ·refine Tells.succ ?_
   simp only [Zp.l0]
   refine Tells.ifn c ((Tells.pure _).val (fin x hx (fun p hp=>?_)))
   rw [h p hp]
   by_cases hq:p < i\/l.length - i<=p
   ·rw [if_pos hq]
   ·rw [if_neg hq,show l.length - 1 - p=p by omega]
theorem Zng (l:List Int) (hl:l.length<=1000000):Tells (fun k=>Zp.f k l) l.reverse:=by
 have h:=Zrv l hl _ 0 l (Nat.le_refl _) (by omega) rfl (fun p hp=>by rw [if_neg (by omega)])
 unfold Zp.f
 rw [w64d (by omega)]
 have e:(l.length:Int) - 1 - ((0:Nat):Int)=(l.length:Int) - 1:=by omega
 rw [e] at h
 exact h
theorem Zk9 (n:Nat) (hn:nd n<=1000000) (q:Nat) (hl0:∀ D:List Int,D++digs q=digs n->Tells (fun k=>Zaz.l0 k (D.map fun d=>48+d) (limbs q)) (decT n,0)) :
  ∀ (e:Nat),e<=9 -> ∀ (r:Nat) (D:List Int),r < 10 ^ e->D++digs (r+q*10 ^ e)=digs n ->
  Tells (fun k=>Zaz.l1 k (D.map fun d=>48+d) (limbs q) (r:Int) ((9 - e:Nat):Int)) (decT n,0)
 | 0,he,r,D,hr,hD=>by
  rw [Nat.pow_zero,Nat.mul_one] at hD
  obtain rfl:r=0:=by rw [Nat.pow_zero] at hr;omega
  rw [Nat.zero_add] at hD
  refine Tells.succ ?_
  simp only [Zaz.l1]
  exact Tells.ifn (by omega) (hl0 D hD)
 | e+1,he,r,D,hr,hD=>by
  have hr9:r < 1000000000:=Nat.lt_of_lt_of_le hr (Nat.le_trans (Nat.pow_le_pow_right (by omega) he) (by decide))
  have hlen:D.length<=1000000:=by
   have := congrArg List.length hD
   rw [List.length_append] at this
   have h2:(digs n).length<=1000000:=hn
   omega
  have ih:=Zk9 n hn q hl0 e (by omega)
  have go:r+q*10 ^ (e+1) ≠ 0->Tells (fun k=>Zaz.l1 k ((D.map fun d=>48+d) ++ [(48+(Int.tmod (r:Int) 10)) % 256]) (limbs q) ((Int.tdiv (r:Int) 10) % 4294967296) (wrap64 (((9 - (e+1):Nat):Int)+1))) (decT n,0):=fun hne=>by
   have hpw:10 ^ (e+1)=10*10 ^ e:=by rw [Nat.pow_succ,Nat.mul_comm]
   have e1:(r+q*10 ^ (e+1)) % 10=r % 10:=by rw [hpw,Nat.mul_left_comm,Nat.add_mul_mod_self_left]
   have e2:(r+q*10 ^ (e+1)) / 10=r / 10+q*10 ^ e:=by rw [hpw,Nat.mul_left_comm,Nat.add_mul_div_left _ _ (by omega)]
   have hstep:=Zd3 hne
   rw [e1,e2] at hstep
   have h2:=ih (r / 10) (D ++ [((r % 10:Nat):Int)]) ((Nat.div_lt_iff_lt_mul (by omega)).2 (by rw [Nat.mul_comm,<- hpw];exact hr)) (by rw [List.append_assoc,List.singleton_append,<- hstep];exact hD)
   rw [List.map_append] at h2
   have f1:(48+(Int.tmod (r:Int) 10)) % 256=48+((r % 10:Nat):Int):=by rw [tmodc];omega
   have f2:(Int.tdiv (r:Int) 10) % 4294967296=((r / 10:Nat):Int):=by rw [Int.tdiv_eq_ediv_of_nonneg (by omega)];omega
   have f3:9 - (e+1)+1=9 - e:=by omega
   rw [f1,f2,w64s (by omega),f3]
   exact h2
  have c1:((9 - (e+1):Nat):Int) < 9:=by omega
  have c2:(D.map fun d=>48+d).length < 140737488355328:=by rw [List.length_map];omega
  refine Tells.succ ?_
  simp only [Zaz.l1]
  refine Tells.ifp c1 ?_
  by_cases hq:q=0
  ·subst hq
   refine Tells.ifn (by rw [Zev];simp) ?_
   by_cases hr0:r=0
   ·subst hr0
    rw [Nat.zero_mul,Nat.add_zero] at hD
    exact Tells.ifn (by omega) (hl0 D hD)
   ·exact Tells.ifp (by omega) (Tells.ifp c2 (go (by omega)))
  ·have hl1:0 < (limbs q).length:=List.length_pos_iff.2 (Zez hq)
   exact Tells.ifp (by omega) (Tells.ifp c2 (go (by have := Nat.mul_pos (Nat.pos_of_ne_zero hq) (Zem (e+1));omega)))
theorem Zo2 (n:Nat) (hn:nd n<=1000000):∀ (f x:Nat) (D:List Int),x<=f->D++digs x=digs n->Tells (fun k=>Zaz.l0 k (D.map fun d=>48+d) (limbs x)) (decT n,0):=by
 have fin:∀ D:List Int,D=digs n->Tells (fun k=>Zaz.l0 k (D.map fun d=>48+d) (limbs 0)) (decT n,0):=fun D hD=>by
  have hl:(digs n).length<=1000000:=hn
  refine Tells.succ ?_
  simp only [Zaz.l0]
  refine Tells.ifn (by rw [Zev];simp) ?_
  by_cases h0:n=0
  ·subst h0
   subst hD
   exact Tells.ifp rfl (Tells.pure _)
  ·have hpos:0 < (digs n).length:=Zik h0
   refine Tells.ifn (by rw [List.length_map,hD];omega) ((Zng _ (by rw [List.length_map,hD];exact hl)).bind ((Tells.pure _).val ?_))
   rw [<- List.map_reverse,hD,Zmq n h0]
 intro f
 induction f with
 | zero =>
  intro x D hf hD
  obtain rfl:x=0:=by omega
  rw [Zfb,List.append_nil] at hD
  exact fin D hD
 | succ f ih =>
  intro x D hf hD
  by_cases h0:x=0
  ·subst h0
   rw [Zfb,List.append_nil] at hD
   exact fin D hD
  ·have hx:nd x<=1000000:=by
    have := congrArg List.length hD
    rw [List.length_append] at this
    have h2:(digs n).length<=1000000:=hn
    show (digs x).length<=_
    omega
   have hpos:0 < (limbs x).length:=List.length_pos_iff.2 (Zez h0)
   have h1:=Zk9 n hn (x / 1000000000) (fun D' hD'=>ih (x / 1000000000) D' (by omega) hD') 9 (by omega) (x % 1000000000) D (Nat.mod_lt _ (by omega)) (by
    rw [show x % 1000000000+x / 1000000000*10 ^ 9=x by omega];exact hD)
   refine Tells.succ ?_
   simp only [Zaz.l0]
   rw [show (1000000000:Int)=((1000000000:Nat):Int) from rfl,Zkz hx 1000000000 (by omega) (by omega)]
   exact Tells.ifp (by omega) ((Tells.pure _).bind h1)
theorem Zhc {n:Nat} (h:(limbs n).length<=256):Tells (fun k=>Zaz.f k (limbs n)) (decT n,0):=by
 have hn:=Zdm h
 unfold Zaz.f
 rw [chkN h]
 exact (Tells.pure _).bind (Tells.ifp rfl (Zo2 n (by omega) n n [] (Nat.le_refl _) rfl))
end YtjbjkmccfocikaaGreatDoor.P
end
section
namespace YtjbjkmccfocikaaGreatDoor.B
open Go.RowKit YtjbjkmccfocikaaGreatDoorW.PrintWords YtjbjkmccfocikaaGreatDoorW.PrintLast YtjbjkmccfocikaaGreatDoorW.PrintMore
attribute [local go_sem] Zb3 Zb5 Zcp Zcq Zbs Zbt Zb4 Zb6
def Zl.l0:Nat->List Int->Bool->List Int->Int->Option (Bool × List Int × Int × Int)
 | 0,_,_,_,_=>none
 | k+1,x4,qu,qz,qn=>if 0 < (x4.length:Int) then (if (rd x4 0)=0 then (if 1<=(x4.length:Int) then (Zl.l0 k (x4.drop (1:Int).toNat) qu qz (wrap64 (qn+1))) else (none)) else (if (x4.length:Int) > 300 then (some (false,([]:List Int),0,51)) else (if qn < (-1000) then (some (false,([]:List Int),0,52)) else (if qn > 1000 then (some (false,([]:List Int),0,52)) else ((Zy.f k x4).bind fun qx=>(some (qu,qx,qn,0))))))) else (none)
def Zl.f (k:Nat) (a0_0:Bool) (l0_1:List Int) (a0_2:Int):Option (Bool × List Int × Int × Int):=(Zar.f k l0_1).bind fun qo=>(if (qo.length:Int)=0 then (some (false,([]:List Int),0,0)) else (Zl.l0 k qo a0_0 ([]:List Int) a0_2))
def Zl.T11:Bool × List (List Nat × List Nat):=(true,[([],[]),([0],[0]),([],[]),([2],[2]),([],[]),([4],[4]),([1,3,5],[1,3,5]),([6,3,0,1,2,3,4,5,6],[6]),([7,0,1,2,3,4,5,6,7],[])])
def Zl.B11:List Nat:=[0,1,0,4,0,16,63,127,255]
theorem Zl.tab11:rtab .any (opsOf Tryz.f23 11)=Zl.T11:=by kernel_rfl
theorem Zl.bits11:waitsOk Zl.T11.2 Zl.B11=true:=by kernel_rfl
theorem Zl.calls (k:Nat) (a0_0:Bool) (P0_1_:Nat->Prop) (u9000_:Value) (l0_1:List Int) (a0_2:Int) (r1:Bool) (r2:List Int) (r3:Int) (r4:Int) (w0 w:World) (hB:Below w0.heap.size w0 w) (ho0_1:Kd.R (Kd.int .i64) 3 w w0.heap.size P0_1_ u9000_ l0_1) (h:Zl.f k a0_0 l0_1 a0_2=some (r1,r2,r3,r4)) :
  Calls Tryz.prog 23 #[.agg #[.bool a0_0,u9000_,.int .i64 a0_2]] w fun e w' => ∃ v1_:Value,e=.returned (.tuple #[.agg #[.bool r1,v1_,.int .i64 r3],.int .i64 r4])/\Kd.R (Kd.int .u32) 85 w' w0.heap.size (fun k_=>(P0_1_ k_\/w.heap.size<=k_)) v1_ r2/\Below w0.heap.size w0 w'/\Kept w w' (fun k_=>P0_1_ k_):=by
 have hu30:=Tryz.underlying30
 have hu24:=Tryz.underlying24
 have HO0_1:=am (show Kd.R (Kd.int .i64) 3 w w0.heap.size (fun k_=>(P0_1_ k_\/w.heap.size<=k_)) u9000_ l0_1 from Kd.Zi ho0_1 (fun k_ hk=>(.inl hk)))
 have HK:=am (Kept.refl w (fun k_=>P0_1_ k_))
 have HW0:=am hB.size
 have HB:=am hB
 clear hB
 have H:((Zar.f k l0_1).bind fun qo=>(if (qo.length:Int)=0 then (some (false,([]:List Int),0,0)) else (Zl.l0 k qo a0_0 ([]:List Int) a0_2)))=some (r1,r2,r3,r4):=h
 clear h
 replace H:=ob H
 obtain ⟨qo,A2,H⟩:=H
 replace H:=eI H
 rcases H with ⟨c3b0,c3b1,H⟩|⟨c3,c3b0,c3b1,H⟩
 ·simp only [Option.some.injEq,Prod.mk.injEq] at H
  obtain ⟨rfl,rfl,rfl,rfl⟩:=H
  obtain ⟨Ao4,co4,eo4⟩:=Kd.Zm HO0_1.o
  subst eo4
  go_enter Tryz.func23,Tryz.ntmps23
  go_wp2_with (first|((with_reducible refine gd 1 ?_);refine bx 1 #[.bool a0_0,.slice Ao4 l0_1.length co4,.int .i64 a0_2] 30 (h:=?_);intro qm hg w5 hbox hb;have qb:=am hbox;have qh:=am ((by rw [hg];exact (by first|exact HK.out.1|exact (show Kept w _ (fun k_=>P0_1_ k_) from by repeat (first|(with_reducible first|exact HK.out|apply Kept.alloc|apply Kept.drewN|apply Kept.drew)|exact HK.out)).1):w.heap.size<=qm));have q4:=am ((gw hg pB:w0.heap.size<=qm));replace HO0_1:=rbl HO0_1 hb;replace HK:=am (Kept.below (S:=(fun k_=>P0_1_ k_)) (by repeat (first|(with_reducible first|exact HK.out|apply Kept.alloc|apply Kept.drewN|apply Kept.drew)|exact HK.out)) hb);replace HB:=bS hb;clear hb hbox hg)|((with_reducible refine gd 2 ?_);refine bx 2 #[.bool false,.slice none 0 0,.int .i64 0] 24 (h:=?_);intro qe hg w6 hbox hb;have qc:=am hbox;have qi:=am ((by rw [hg];exact (by first|exact HK.out.1|exact (show Kept w _ (fun k_=>P0_1_ k_) from by repeat (first|(with_reducible first|exact HK.out|apply Kept.alloc|apply Kept.drewN|apply Kept.drew|refine Kept.setCell ?_ (.inr qh.o) _)|exact HK.out)).1):w.heap.size<=qe));have q5:=am ((gw hg pB:w0.heap.size<=qe));have qa:=nL hg qb;have qd:=nG hg qb;replace HO0_1:=rbl HO0_1 hb;replace qb:=bb qb hb;replace HK:=am (Kept.below (S:=(fun k_=>P0_1_ k_)) (by repeat (first|(with_reducible first|exact HK.out|apply Kept.alloc|apply Kept.drewN|apply Kept.drew|refine Kept.setCell ?_ (.inr qh.o) _)|exact HK.out)) hb);replace HB:=bS hb;clear hb hbox hg;have hnb7:=qa.o;have hnc7:=qd.o;obtain ⟨_,_,_,_,_,_⟩:=cEc qb.o)|(refine gL (some 7) Tryz.func79 #[.slice Ao4 l0_1.length co4] (h:=?_);(with_reducible refine (Zar.calls k (fun k_=>some k_=(.slice Ao4 l0_1.length co4:Value).ownBlock) (.slice Ao4 l0_1.length co4) l0_1 qo w0 _ ?side1 ?side2 A2.o).mono ?_);(case side1=>exact pB);(case side2=>exact Kd.Zbc rfl HO0_1.o);rintro e w9 ⟨ji,rfl,ho0,hb,hkp⟩;refine ⟨_,rfl,?_⟩;have qs:=am (Kd.Zi (ok':=fun k_=>(P0_1_ k_\/w.heap.size<=k_)) ho0 (fun k_ hk_=>Or.elim hk_ (fun hs_=>(HO0_1.o.1 k_ (hs_).symm)) (fun hn_=>(.inr (Nat.le_trans (by first|exact HK.out.1|exact (show Kept w _ (fun k_=>P0_1_ k_) from by repeat (first|(with_reducible first|exact HK.out|apply Kept.alloc|apply Kept.drewN|apply Kept.drew|refine Kept.setCell ?_ (.inr qh.o) _|refine Kept.setCell ?_ (.inr qi.o) _)|exact HK.out)).1) hn_)))));replace qb:=am (Zan (Za qb.o pl) hkp (fun e_=>Kd.R_ne HO0_1.o qb.o (by decide) e_));replace qc:=am (Zan (Za qc.o pl) hkp (fun e_=>Kd.R_ne HO0_1.o qc.o (by decide) e_));replace HK:=am (Kept.then_ (S:=(fun k_=>P0_1_ k_)) (by repeat (first|(with_reducible first|exact HK.out|apply Kept.alloc|apply Kept.drewN|apply Kept.drew|refine Kept.setCell ?_ (.inr qh.o) _|refine Kept.setCell ?_ (.inr qi.o) _)|exact HK.out)) hkp (fun k_ hs_=>(fun e_=>(HO0_1.o.1 k_ e_.symm)) hs_));replace HB:=am hb;clear HO0_1;obtain ⟨jv,j2,ja⟩:=Kd.Zm qs.o;subst ja;obtain ⟨_,_,_,_,_,_⟩:=cEc qc.o))
  refine bodyPost_ret (Zbd rfl _ _ qe 24 #[.bool false,.slice none 0 0,.int .i64 0] (0,0) _ rfl (by exact p3 qc) Tryz.underlying24 rfl (by kernel_rfl)) rfl ?_
  exact ⟨_,pE,pN,pB,by repeat (first|(with_reducible first|exact HK.out|apply Kept.alloc|apply Kept.drewN|apply Kept.drew|refine Kept.setCell ?_ (.inr qh.o) _|refine Kept.setCell ?_ (.inr qi.o) _)|exact HK.out)⟩
 ·have c3b2:¬ (qo=[]):=fun h_=>c3 (by rw [h_];rfl)
  have H':=am H
  clear H
  obtain ⟨qq,qr,jb⟩:=Kd.Zm HO0_1.o
  subst jb
  go_enter Tryz.func23,Tryz.ntmps23
  go_wp2_with (first|((with_reducible refine gd 1 ?_);refine bx 1 #[.bool a0_0,.slice qq l0_1.length qr,.int .i64 a0_2] 30 (h:=?_);intro qm hg w13 hbox hb;have qb:=am hbox;have qh:=am ((by rw [hg];exact (by first|exact HK.out.1|exact (show Kept w _ (fun k_=>P0_1_ k_) from by repeat (first|(with_reducible first|exact HK.out|apply Kept.alloc|apply Kept.drewN|apply Kept.drew)|exact HK.out)).1):w.heap.size<=qm));have q4:=am ((gw hg pB:w0.heap.size<=qm));replace HO0_1:=rbl HO0_1 hb;replace HK:=am (Kept.below (S:=(fun k_=>P0_1_ k_)) (by repeat (first|(with_reducible first|exact HK.out|apply Kept.alloc|apply Kept.drewN|apply Kept.drew)|exact HK.out)) hb);replace HB:=bS hb;clear hb hbox hg)|((with_reducible refine gd 2 ?_);refine bx 2 #[.bool false,.slice none 0 0,.int .i64 0] 24 (h:=?_);intro qe hg w14 hbox hb;have qc:=am hbox;have qi:=am ((by rw [hg];exact (by first|exact HK.out.1|exact (show Kept w _ (fun k_=>P0_1_ k_) from by repeat (first|(with_reducible first|exact HK.out|apply Kept.alloc|apply Kept.drewN|apply Kept.drew|refine Kept.setCell ?_ (.inr qh.o) _)|exact HK.out)).1):w.heap.size<=qe));have q5:=am ((gw hg pB:w0.heap.size<=qe));have qa:=nL hg qb;have qd:=nG hg qb;replace HO0_1:=rbl HO0_1 hb;replace qb:=bb qb hb;replace HK:=am (Kept.below (S:=(fun k_=>P0_1_ k_)) (by repeat (first|(with_reducible first|exact HK.out|apply Kept.alloc|apply Kept.drewN|apply Kept.drew|refine Kept.setCell ?_ (.inr qh.o) _)|exact HK.out)) hb);replace HB:=bS hb;clear hb hbox hg;have jj:=qa.o;have jp:=qd.o;obtain ⟨_,_,_,_,_,_⟩:=cEc qb.o)|(refine gL (some 7) Tryz.func79 #[.slice qq l0_1.length qr] (h:=?_);(with_reducible refine (Zar.calls k (fun k_=>some k_=(.slice qq l0_1.length qr:Value).ownBlock) (.slice qq l0_1.length qr) l0_1 qo w0 _ ?side1 ?side2 A2.o).mono ?_);(case side1=>exact pB);(case side2=>exact Kd.Zbc rfl HO0_1.o);rintro e w17 ⟨ji,rfl,ho0,hb,hkp⟩;refine ⟨_,rfl,?_⟩;have qs:=am (Kd.Zi (ok':=fun k_=>(P0_1_ k_\/w.heap.size<=k_)) ho0 (fun k_ hk_=>Or.elim hk_ (fun hs_=>(HO0_1.o.1 k_ (hs_).symm)) (fun hn_=>(.inr (Nat.le_trans (by first|exact HK.out.1|exact (show Kept w _ (fun k_=>P0_1_ k_) from by repeat (first|(with_reducible first|exact HK.out|apply Kept.alloc|apply Kept.drewN|apply Kept.drew|refine Kept.setCell ?_ (.inr qh.o) _|refine Kept.setCell ?_ (.inr qi.o) _)|exact HK.out)).1) hn_)))));replace qb:=am (Zan (Za qb.o pl) hkp (fun e_=>Kd.R_ne HO0_1.o qb.o (by decide) e_));replace qc:=am (Zan (Za qc.o pl) hkp (fun e_=>Kd.R_ne HO0_1.o qc.o (by decide) e_));replace HK:=am (Kept.then_ (S:=(fun k_=>P0_1_ k_)) (by repeat (first|(with_reducible first|exact HK.out|apply Kept.alloc|apply Kept.drewN|apply Kept.drew|refine Kept.setCell ?_ (.inr qh.o) _|refine Kept.setCell ?_ (.inr qi.o) _)|exact HK.out)) hkp (fun k_ hs_=>(fun e_=>(HO0_1.o.1 k_ e_.symm)) hs_));replace HB:=am hb;clear HO0_1;obtain ⟨jw,j3,jc⟩:=Kd.Zm qs.o;subst jc))
  go_loopg [4] k (fun kq v4 w' => ∃ (x4_1:List Int) (qf:Int),Aside0 (Zl.l0 kq x4_1 a0_0 ([]:List Int) qf=some (r1,r2,r3,r4))/\Aside0 (kq<=k)/\Aside0 (Kd.Q (Kd.int .i64) 3 w' w0.heap.size (fun k_=>(P0_1_ k_\/w.heap.size<=k_)) v4 x4_1)/\Aside0 (w'.heap[qm]? = some (.cells #[.bool a0_0,(.slice qq l0_1.length qr),.int .i64 qf] 30 (0,0)))/\Aside0 (w'.heap[qe]? = some (.cells #[.bool false,(.slice none 0 0),.int .i64 0] 24 (0,0)))/\Aside0 (Kept w w' (fun k_=>P0_1_ k_))/\Aside0 (Below w0.heap.size w0 w'))
  case atStart=>exact ⟨(qo),(a0_2),H',⟨Nat.le_refl _⟩,⟨Kd.Zp2 (Kd.Zc qs.o pl)⟩,⟨Za qb.o pl⟩,⟨Za qc.o pl⟩,⟨by repeat (first|(with_reducible first|exact HK.out|apply Kept.alloc|apply Kept.drewN|apply Kept.drew|refine Kept.setCell ?_ (.inr qh.o) _|refine Kept.setCell ?_ (.inr qi.o) _)|exact HK.out)⟩,⟨pB⟩⟩
  case round =>
   clear H'
   obtain ⟨x4_1,qf,HA,HK1,HO_4,qb,qc,HK,HB⟩:=hrel
   cases gk with
   | zero=>exact absurd HA.out (by simp [Zl.l0])
   | succ k1 =>
    have H:=HA.out
    clear HA
    simp only [Zl.l0] at H
    by_cases c19:0 < (x4_1.length:Int)
    ·rw [if_pos c19] at H
     have c19b0:decide (0 < (x4_1.length:Int))=true:=decide_eq_true c19
     have c19b1:decide (0 < x4_1.length)=true:=decide_eq_true (by omega)
     clear c19
     replace H:=eI H
     rcases H with ⟨c20b0,c20b1,H⟩|⟨c20,c20b0,c20b1,H⟩
     ·replace H:=iI H
      rcases H with ⟨c21b0,c21b1,H⟩|⟨_,_,H⟩
      ·obtain ⟨qv,qw⟩:∃ y_:List Int,y_=(x4_1.drop (1:Int).toNat):=⟨_,rfl⟩
       replace H:(Zl.l0 k1 qv a0_0 ([]:List Int) (wrap64 (qf+1)))=some (r1,r2,r3,r4):=by have hy_:=qw;exact pH
       have q1:=am qw
       clear qw
       have H':=am H
       clear H
       obtain ⟨jx,qy,jd,_⟩:=Kd.Zhd HO_4.o
       subst jd
       have qj:0<=(0:Int):=(by omega)
       have qk:0 < (x4_1.length:Int):=of_decide_eq_true pQ
       obtain ⟨ql,qp,qg⟩:=Kd.Zbi (Kd.Zeo HO_4.o).2.2 0 qj qk
       cases qp
       have qt:(0 < x4_1.length)=True:=eq_true (by omega)
       (try rw [show ((0:Int)).toNat=0 from rfl] at qg)
       (try rw [Addr.add_zero'] at qg)
       replace qj:=eq_true qj
       replace qk:=eq_true qk
       have q23:(1:Int)<=((x4_1.length:Int):Int):=of_decide_eq_true pQ
       obtain ⟨j7,q2,_,hsz23,_⟩:=info_parts info3
       have hcut23:=Zph (P:=Tryz.prog) 28 3 .i64 Tryz.underlying28 q2 1 hsz23 (some ql) x4_1.length qy 1 (by omega) q23
       have hr23:=Kd.Zrp (k:=(1:Int).toNat) HO_4.o (by omega)
       obtain ⟨A23,hA23⟩:∃ A1,A1=(if qy=(1:Int).toNat then (some ql) else ((some ql):Option Addr).map (·.add ((1:Int).toNat*1))):=⟨_,rfl⟩
       obtain ⟨c23,hc23⟩:∃ c1,c1=qy - (1:Int).toNat:=⟨_,rfl⟩
       have hy23:qv.length=x4_1.length - (1:Int).toNat:=(by rw [q1.out,List.length_drop])
       rw [<- q1.out] at hr23
       rw [<- hy23,<- hA23,<- hc23] at hcut23
       replace hr23:Kd.Q (Kd.int .i64) 3 wr w0.heap.size (fun k_=>(P0_1_ k_\/w.heap.size<=k_)) (.slice A23 qv.length c23) qv:=(by rw [hA23,hc23,hy23];exact hr23)
       have HE23:Aside0 ((Value.slice A23 qv.length c23).ownBlock=(.slice (some ql) x4_1.length qy:Value).ownBlock):=⟨by rw [hA23];split <;> (cases ((some ql):Option Addr) <;> rfl)⟩
       clear hy23 q2 hsz23 HO_4 hA23 hc23
       have q6:=am hr23
       clear hr23
       replace q23:=eq_true q23
       have jk:=qa.o
       have jq:=qd.o
       obtain ⟨_,_,_,_,_,_⟩:=cEc qb.o
       go_wp2
       go_roundg k1
       case measure=>exact pM
       case rel=>exact ⟨(qv),(wrap64 (qf+1)),H',pJ,⟨by (with_reducible repeat (first|apply Kd.Zm6|apply Kd.Zm9|apply Kd.Zm8));exact Kd.Zna (Kd.Zsm (p:=⟨qm,2,none⟩) (Kd.Zqr q6.o qb.o (by decide)) (fun _ hk=>hk.2) (.int .i64 (wrap64 (qf+1)))) (fun _ hk=>hk.1)⟩,⟨by refine bp ?_;refine Zab (cs:=#[.bool a0_0,(.slice qq l0_1.length qr),.int .i64 qf]) ?_ 2 _ rfl;exact bp qb.o⟩,⟨bf qd.o qc.o⟩,⟨by repeat (first|(with_reducible first|exact HK.out|apply Kept.alloc|apply Kept.drewN|apply Kept.drew|refine Kept.setCell ?_ (.inr qh.o) _|refine Kept.setCell ?_ (.inr qi.o) _)|exact HK.out)⟩,⟨pB⟩⟩
      ·cases H
     ·by_cases c26:(x4_1.length:Int) > 300
      ·rw [if_pos c26] at H
       have c26b0:decide (300 < (x4_1.length:Int))=true:=decide_eq_true c26
       have c26b1:decide (300 < x4_1.length)=true:=decide_eq_true (by omega)
       clear c26
       simp only [Option.some.injEq,Prod.mk.injEq] at H
       obtain ⟨rfl,rfl,rfl,rfl⟩:=H
       obtain ⟨jy,j4,je,_⟩:=Kd.Zhd HO_4.o
       subst je
       have qj:0<=(0:Int):=(by omega)
       have qk:0 < (x4_1.length:Int):=of_decide_eq_true pQ
       obtain ⟨ql,qp,qg⟩:=Kd.Zbi (Kd.Zeo HO_4.o).2.2 0 qj qk
       cases qp
       have qt:(0 < x4_1.length)=True:=eq_true (by omega)
       (try rw [show ((0:Int)).toNat=0 from rfl] at qg)
       (try rw [Addr.add_zero'] at qg)
       replace qj:=eq_true qj
       replace qk:=eq_true qk
       have jl:=qd.o
       have jr:=qa.o
       obtain ⟨_,_,_,_,_,_⟩:=cEc qc.o
       go_wp2
       refine bodyPost_ret (Zbd rfl _ _ qe 24 #[.bool false,.slice none 0 0,.int .i64 0] (0,0) _ rfl (by exact p3 qc) Tryz.underlying24 rfl (by kernel_rfl)) rfl ?_
       exact ⟨_,pE,pN,pB,by repeat (first|(with_reducible first|exact HK.out|apply Kept.alloc|apply Kept.drewN|apply Kept.drew|refine Kept.setCell ?_ (.inr qh.o) _|refine Kept.setCell ?_ (.inr qi.o) _)|exact HK.out)⟩
      ·rw [if_neg c26] at H
       have c26b0:decide (300 < (x4_1.length:Int))=false:=decide_eq_false c26
       have c26b1:decide (300 < x4_1.length)=false:=decide_eq_false (by omega)
       clear c26
       replace H:=dI H
       rcases H with ⟨c30b0,H⟩|⟨c30b0,H⟩
       ·simp only [Option.some.injEq,Prod.mk.injEq] at H
        obtain ⟨rfl,rfl,rfl,rfl⟩:=H
        obtain ⟨jz,j5,jf,_⟩:=Kd.Zhd HO_4.o
        subst jf
        have qj:0<=(0:Int):=(by omega)
        have qk:0 < (x4_1.length:Int):=of_decide_eq_true pQ
        obtain ⟨ql,qp,qg⟩:=Kd.Zbi (Kd.Zeo HO_4.o).2.2 0 qj qk
        cases qp
        have qt:(0 < x4_1.length)=True:=eq_true (by omega)
        (try rw [show ((0:Int)).toNat=0 from rfl] at qg)
        (try rw [Addr.add_zero'] at qg)
        replace qj:=eq_true qj
        replace qk:=eq_true qk
        have jm:=qa.o
        have js:=qd.o
        obtain ⟨_,_,_,_,_,_⟩:=cEc qb.o
        obtain ⟨_,_,_,_,_,_⟩:=cEc qc.o
        go_wp2
        refine bodyPost_ret (Zbd rfl _ _ qe 24 #[.bool false,.slice none 0 0,.int .i64 0] (0,0) _ rfl (by exact p3 qc) Tryz.underlying24 rfl (by kernel_rfl)) rfl ?_
        exact ⟨_,pE,pN,pB,by repeat (first|(with_reducible first|exact HK.out|apply Kept.alloc|apply Kept.drewN|apply Kept.drew|refine Kept.setCell ?_ (.inr qh.o) _|refine Kept.setCell ?_ (.inr qi.o) _)|exact HK.out)⟩
       ·replace H:=gI H
        rcases H with ⟨c35b0,H⟩|⟨c35b0,H⟩
        ·simp only [Option.some.injEq,Prod.mk.injEq] at H
         obtain ⟨rfl,rfl,rfl,rfl⟩:=H
         obtain ⟨j0,j6,jg,_⟩:=Kd.Zhd HO_4.o
         subst jg
         have qj:0<=(0:Int):=(by omega)
         have qk:0 < (x4_1.length:Int):=of_decide_eq_true pQ
         obtain ⟨ql,qp,qg⟩:=Kd.Zbi (Kd.Zeo HO_4.o).2.2 0 qj qk
         cases qp
         have qt:(0 < x4_1.length)=True:=eq_true (by omega)
         (try rw [show ((0:Int)).toNat=0 from rfl] at qg)
         (try rw [Addr.add_zero'] at qg)
         replace qj:=eq_true qj
         replace qk:=eq_true qk
         have jn:=qa.o
         have jt:=qd.o
         obtain ⟨_,_,_,_,_,_⟩:=cEc qb.o
         obtain ⟨_,_,_,_,_,_⟩:=cEc qc.o
         go_wp2
         refine bodyPost_ret (Zbd rfl _ _ qe 24 #[.bool false,.slice none 0 0,.int .i64 0] (0,0) _ rfl (by exact p3 qc) Tryz.underlying24 rfl (by kernel_rfl)) rfl ?_
         exact ⟨_,pE,pN,pB,by repeat (first|(with_reducible first|exact HK.out|apply Kept.alloc|apply Kept.drewN|apply Kept.drew|refine Kept.setCell ?_ (.inr qh.o) _|refine Kept.setCell ?_ (.inr qi.o) _)|exact HK.out)⟩
        ·replace H:=ob H
         obtain ⟨qx,A40,H⟩:=H
         simp only [Option.some.injEq,Prod.mk.injEq] at H
         obtain ⟨rfl,rfl,rfl,rfl⟩:=H
         obtain ⟨j1,q9,jh,_⟩:=Kd.Zhd HO_4.o
         subst jh
         have qj:0<=(0:Int):=(by omega)
         have qk:0 < (x4_1.length:Int):=of_decide_eq_true pQ
         obtain ⟨ql,qp,qg⟩:=Kd.Zbi (Kd.Zeo HO_4.o).2.2 0 qj qk
         cases qp
         have qt:(0 < x4_1.length)=True:=eq_true (by omega)
         (try rw [show ((0:Int)).toNat=0 from rfl] at qg)
         (try rw [Addr.add_zero'] at qg)
         replace qj:=eq_true qj
         replace qk:=eq_true qk
         have jo:=qa.o
         have ju:=qd.o
         obtain ⟨_,_,_,_,_,_⟩:=cEc qb.o
         try go_wp2
         replace HO_4:=am (Kd.Zm8 HO_4.o)
         replace qb:=am (Zay qb.o)
         replace qc:=am (Zay qc.o)
         replace HK:=am (Kept.drew HK.out)
         replace HB:=am (Zbe HB.o)
         refine start_ (n:=9) (S:=fun w'=>w'.cell? ⟨qm,0,none⟩=some (.bool a0_0)/\w'.cell? ⟨qm,1,none⟩=some ((.slice qq l0_1.length qr))/\w'.cell? ⟨qm,2,none⟩=some (.int .i64 qf)) (ds:=[]) #[false,false,false,false,false,false,false,false,false] (by kernel_rfl) rfl rfl ⟨k0 qb 0,k0 qb 1,k0 qb 2⟩ (fun hHeld=>?_);refine Zch Zl.tab11 Zl.bits11 (fun HT_ HW_=>?_)
         generalize wr.drew=w44 at HO_4 qb qc HK HB hHeld ⊢
         refine pu 0 (some 37) #[true,false,false,false,false,false,false,false,false] (h:=?_)
         refine pu 2 (some 39) #[true,false,true,false,false,false,false,false,false] (h:=?_)
         refine pu 4 (some 41) #[true,false,true,false,true,false,false,false,false] (h:=?_)
         refine take_ (i:=1) (N:=some 38) (v:=?_) (a':=?_) #[true,true,true,false,true,false,false,false,false] rfl rfl (Za3 HT_.out HW_.out (by kernel_rfl)) (fun _ _ _ h=>h) (Or.inl ⟨by rfl,?_⟩) hHeld ?_ ?_
         rotate_left
         ·rintro w' ⟨s0,s1,s2⟩
          go_simp
          with_reducible rfl
         rotate_left
         ·exact pP
         refine take_ (i:=5) (N:=some 42) (v:=?_) (a':=?_) #[true,true,true,false,true,true,false,false,false] rfl rfl (Za3 HT_.out HW_.out (by kernel_rfl)) (fun _ _ _ h=>h) (Or.inl ⟨by rfl,?_⟩) hHeld ?_ ?_
         rotate_left
         ·rintro w' ⟨s0,s1,s2⟩
          go_simp
          with_reducible rfl
         rotate_left
         ·exact pP
         refine one_ (i:=3) (N:=some 40) #[true,true,true,true,true,true,false,false,false] rfl rfl (Za8 HT_.out (by kernel_rfl)) (by decide) (fun K hK=>?_)
         refine goes_ Tryz.func80 (by kernel_rfl) rfl #[.slice (some ql) x4_1.length q9] (by rfl) rfl rfl pA ?_
         with_reducible refine (Zy.calls k1 _ _ x4_1 qx _ ?side1 ?side2 A40.o).mono ?_
         (case side1=>exact Kd.Zv (Kd.Zeo HO_4.o).2.2 pl)
         (case side2=>exact (Kd.Zeo HO_4.o).2.1)
         rintro e w45 ⟨j8,rfl,ho0,hb⟩
         refine ⟨_,rfl,?_⟩
         replace HO_4:=am (Kd.Zix (by (with_reducible repeat (first|apply Kd.Zm6|apply Kd.Zm9|apply Kd.Zm8));exact HO_4.o) hb)
         have q0:=am (Kd.Zt (Kd.Ze4 (M:=fun k_=>(P0_1_ k_\/w.heap.size<=k_)) ho0 (by first|exact HK.out.1|exact (show Kept w _ (fun k_=>P0_1_ k_) from by repeat (first|(with_reducible first|exact HK.out|apply Kept.alloc|apply Kept.drewN|apply Kept.drew|refine Kept.setCell ?_ (.inr qh.o) _|refine Kept.setCell ?_ (.inr qi.o) _)|exact HK.out)).1) (fun k_ h_=>.inr h_)) (Zb pB))
         replace qb:=bb qb hb
         replace qc:=bb qc hb
         replace HK:=am (Kept.below (S:=(fun k_=>P0_1_ k_)) (by repeat (first|(with_reducible first|exact HK.out|apply Kept.alloc|apply Kept.drewN|apply Kept.drew|refine Kept.setCell ?_ (.inr qh.o) _|refine Kept.setCell ?_ (.inr qi.o) _)|exact HK.out)) hb)
         replace HB:=bS hb
         obtain ⟨q3,q7,q8⟩:=Kd.Zm q0.o
         (first|subst q8|(injection q8 with f1_ f2_ f3_;have f4_:=f1_.symm;have f5_:=f3_.symm;clear f1_ f2_ f3_;subst f4_;subst f5_))
         refine hK.out _ _ ⟨k0 qb 0,k0 qb 1,k0 qb 2⟩ (fun hHeld=>?_)
         clear hK K
         refine norm_ (a':=?_) ?_ ?_
         rotate_left
         ·show Act.put _ (some 40) _=_
          exact pP
         refine pu 6 (some 43) #[true,true,true,true,true,true,true,false,false] (h:=?_)
         refine one_ (i:=7) (N:=none) #[true,true,true,true,true,true,true,true,false] rfl rfl (Za8 HT_.out (by kernel_rfl)) (by decide) (fun K hK=>?_)
         have hs47:w45.cell? ⟨qe,0,none⟩=some (.bool false):=k0 qc 0
         have hfs47:=Zaa qc.o 0
         have hns47_0:=qa.o
         have hms47_0:=qd.o
         have hs48:w45.cell? ⟨qe,1,none⟩=some (.slice none 0 0):=k0 qc 1
         have hfs48:=Zaa qc.o 1
         have hns48_0:=qa.o
         have hms48_0:=qd.o
         have hs49:w45.cell? ⟨qe,2,none⟩=some (.int .i64 0):=k0 qc 2
         have hfs49:=Zaa qc.o 2
         have hns49_0:=qa.o
         have hms49_0:=qd.o
         refine skip_ (w1:=?_) (by rfl) rfl ?_ ?_
         rotate_left
         ·go_simp
          rfl
         refine hK.out _ _ ⟨((cell_far (p:=⟨qe,_,none⟩) qa.o _).trans (((cell_far (p:=⟨qe,_,none⟩) qa.o _).trans (((cell_far (p:=⟨qe,_,none⟩) qa.o _).trans (hHeld.1)))))),((cell_far (p:=⟨qe,_,none⟩) qa.o _).trans (((cell_far (p:=⟨qe,_,none⟩) qa.o _).trans (((cell_far (p:=⟨qe,_,none⟩) qa.o _).trans (hHeld.2.1)))))),((cell_far (p:=⟨qe,_,none⟩) qa.o _).trans (((cell_far (p:=⟨qe,_,none⟩) qa.o _).trans (((cell_far (p:=⟨qe,_,none⟩) qa.o _).trans (hHeld.2.2))))))⟩ (fun hHeld=>?_)
         clear hK K
         refine pu 8 (some 3) #[true,true,true,true,true,true,true,true,true] (h:=?_)
         refine done_ (Zdg HT_.out (by kernel_rfl)) ?_
         try go_wp2
         refine bodyPost_ret (Zbd rfl _ _ qe 24 #[.bool a0_0,.slice q3 qx.length q7,.int .i64 qf] (0,0) _ rfl (by exact p3 qc) Tryz.underlying24 rfl (by kernel_rfl)) rfl ?_
         exact ⟨_,pE,by refine rp ?_;exact Kd.Zi (Kd.Zj (p:=⟨qe,2,none⟩) (Kd.Zj (p:=⟨qe,1,none⟩) (Kd.Zj (p:=⟨qe,0,none⟩) (Kd.Zg q0.o qc.o (by decide)) (fun _ hk=>hk.2) (.bool a0_0)) (fun _ hk=>hk.2) (.slice q3 qx.length q7)) (fun _ hk=>hk.2) (.int .i64 qf)) (fun _ hk=>hk.1.1),pB,by repeat (first|(with_reducible first|exact HK.out|apply Kept.alloc|apply Kept.drewN|apply Kept.drew|refine Kept.setCell ?_ (.inr qh.o) _|refine Kept.setCell ?_ (.inr qi.o) _)|exact HK.out)⟩
    ·rw [if_neg c19] at H
     cases H
def Zq.f (k:Nat) (a0_0:Bool) (l0_1:List Int) (a0_2:Int):Option (Bool × List Int × Int):=(Zaq.f k l0_1).bind fun qf=>(some (a0_0,qf,a0_2))
def Zq.T1:Bool × List (List Nat × List Nat):=(true,[([],[]),([0],[0]),([],[]),([2],[2]),([3],[3]),([],[]),([5],[5]),([1,4,6],[1,4,6]),([7,4,0,1,2,3,4,5,6,7],[7])])
def Zq.B1:List Nat:=[0,1,0,4,12,0,32,127,255]
theorem Zq.tab1:rtab .any (opsOf Tryz.f18 1)=Zq.T1:=by kernel_rfl
theorem Zq.bits1:waitsOk Zq.T1.2 Zq.B1=true:=by kernel_rfl
theorem Zq.calls (k:Nat) (a0_0:Bool) (A0_1:Option Addr) (c0_1:Nat) (l0_1:List Int) (a0_2:Int) (r1:Bool) (r2:List Int) (r3:Int) (w:World) (hr0_1:Kd.C (Kd.int .u32) w A0_1 l0_1.length l0_1) (hc0_1:l0_1.length<=c0_1) (h:Zq.f k a0_0 l0_1 a0_2=some (r1,r2,r3)) :
  Calls Tryz.prog 18 #[.agg #[.bool a0_0,.slice A0_1 l0_1.length c0_1,.int .i64 a0_2]] w fun e w' => ∃ v1_:Value,e=.returned (.agg #[.bool r1,v1_,.int .i64 r3])/\Kd.R (Kd.int .i64) 3 w' w.heap.size (fun _=>True) v1_ r2/\Below w.heap.size w w':=by
 have hu24:=Tryz.underlying24
 have hu30:=Tryz.underlying30
 have HR0_1:=am hr0_1
 have HC0_1:=am hc0_1
 clear hr0_1 hc0_1
 have HB:=am (Below.refl w.heap.size w)
 have H:((Zaq.f k l0_1).bind fun qf=>(some (a0_0,qf,a0_2)))=some (r1,r2,r3):=h
 clear h
 obtain ⟨qf,A2,H⟩:=ob H
 simp only [Option.some.injEq,Prod.mk.injEq] at H
 obtain ⟨rfl,rfl,rfl⟩:=H
 go_enter Tryz.func18,Tryz.ntmps18
 try go_wp2_with (first|((with_reducible refine gd 1 ?_);refine bx 1 #[.bool a0_0,.slice A0_1 l0_1.length c0_1,.int .i64 a0_2] 24 (h:=?_);intro qg hg w3 hbox hb;have qc:=am hbox;have qi:=gW hg;replace HB:=bS hb;clear hb hbox hg)|((with_reducible refine gd 2 ?_);refine bx 2 #[.bool false,.slice none 0 0,.int .i64 0] 30 (h:=?_);intro qb hg w4 hbox hb;have qd:=am hbox;have qj:=gW hg;have qa:=nL hg qc;have qe:=nG hg qc;replace qc:=bb qc hb;replace HB:=bS hb;clear hb hbox hg))
 replace qc:=am (Zay qc.o)
 replace qd:=am (Zay qd.o)
 replace HB:=am (Zbe HB.o)
 refine start_ (n:=9) (S:=fun w'=>w'.cell? ⟨qg,0,none⟩=some (.bool a0_0)/\w'.cell? ⟨qg,1,none⟩=some (.slice A0_1 l0_1.length c0_1)/\w'.cell? ⟨qg,2,none⟩=some (.int .i64 a0_2)) (ds:=[]) #[false,false,false,false,false,false,false,false,false] (by kernel_rfl) rfl rfl ⟨k0 qc 0,k0 qc 1,k0 qc 2⟩ (fun hHeld=>?_);refine Zch Zq.tab1 Zq.bits1 (fun HT_ HW_=>?_)
 generalize w4.drew=w5 at qc qd HB hHeld ⊢
 refine pu 0 (some 3) #[true,false,false,false,false,false,false,false,false] (h:=?_)
 refine pu 2 (some 5) #[true,false,true,false,false,false,false,false,false] (h:=?_)
 refine pu 5 (some 8) #[true,false,true,false,false,true,false,false,false] (h:=?_)
 refine take_ (i:=1) (N:=some 4) (v:=?_) (a':=?_) #[true,true,true,false,false,true,false,false,false] rfl rfl (Za3 HT_.out HW_.out (by kernel_rfl)) (fun _ _ _ h=>h) (Or.inl ⟨by rfl,?_⟩) hHeld ?_ ?_
 rotate_left
 ·rintro w' ⟨s0,s1,s2⟩
  go_simp
  with_reducible rfl
 rotate_left
 ·exact pP
 refine take_ (i:=3) (N:=some 6) (v:=?_) (a':=?_) #[true,true,true,true,false,true,false,false,false] rfl rfl (Za3 HT_.out HW_.out (by kernel_rfl)) (fun _ _ _ h=>h) (Or.inl ⟨by rfl,?_⟩) hHeld ?_ ?_
 rotate_left
 ·rintro w' ⟨s0,s1,s2⟩
  go_simp
  with_reducible rfl
 rotate_left
 ·exact pP
 refine take_ (i:=6) (N:=some 9) (v:=?_) (a':=?_) #[true,true,true,true,false,true,true,false,false] rfl rfl (Za3 HT_.out HW_.out (by kernel_rfl)) (fun _ _ _ h=>h) (Or.inl ⟨by rfl,?_⟩) hHeld ?_ ?_
 rotate_left
 ·rintro w' ⟨s0,s1,s2⟩
  go_simp
  with_reducible rfl
 rotate_left
 ·exact pP
 refine one_ (i:=4) (N:=some 7) #[true,true,true,true,true,true,true,false,false] rfl rfl (Za8 HT_.out (by kernel_rfl)) (by decide) (fun K hK=>?_)
 refine goes_ Tryz.func66 (by kernel_rfl) rfl #[.slice A0_1 l0_1.length c0_1] (by rfl) rfl rfl pA ?_
 with_reducible refine (Zaq.calls k _ _ l0_1 qf _ ?side1 ?side2 A2.o).mono ?_
 (case side1=>exact cB HR0_1 HB)
 (case side2=>exact HC0_1.o)
 rintro e w6 ⟨qk,rfl,ho0,hb⟩
 refine ⟨_,rfl,?_⟩
 have qh:=am (Kd.Zt ho0 (Zb pB))
 replace qc:=bb qc hb
 replace qd:=bb qd hb
 replace HB:=bS hb
 obtain ⟨Ao7,co7,eo7⟩:=Kd.Zm qh.o
 (first|subst eo7|(injection eo7 with f1_ f2_ f3_;have f4_:=f1_.symm;have f5_:=f3_.symm;clear f1_ f2_ f3_;subst f4_;subst f5_))
 refine hK.out _ _ ⟨k0 qc 0,k0 qc 1,k0 qc 2⟩ (fun hHeld=>?_)
 clear hK K
 refine norm_ (a':=?_) ?_ ?_
 rotate_left
 ·show Act.put _ (some 7) _=_
  exact pP
 refine pu 7 (some 10) #[true,true,true,true,true,true,true,true,false] (h:=?_)
 refine one_ (i:=8) (N:=none) #[true,true,true,true,true,true,true,true,true] rfl rfl (Za8 HT_.out (by kernel_rfl)) (by decide) (fun K hK=>?_)
 have hs8:w6.cell? ⟨qb,0,none⟩=some (.bool false):=k0 qd 0
 have hfs8:=Zaa qd.o 0
 have hns8_0:=qa.o
 have hms8_0:=qe.o
 have hs9:w6.cell? ⟨qb,1,none⟩=some (.slice none 0 0):=k0 qd 1
 have hfs9:=Zaa qd.o 1
 have hns9_0:=qa.o
 have hms9_0:=qe.o
 have hs10:w6.cell? ⟨qb,2,none⟩=some (.int .i64 0):=k0 qd 2
 have hfs10:=Zaa qd.o 2
 have hns10_0:=qa.o
 have hms10_0:=qe.o
 refine skip_ (w1:=?_) (by rfl) rfl ?_ ?_
 rotate_left
 ·go_simp
  rfl
 refine hK.out _ _ ⟨((cell_far (p:=⟨qb,_,none⟩) qa.o _).trans (((cell_far (p:=⟨qb,_,none⟩) qa.o _).trans (((cell_far (p:=⟨qb,_,none⟩) qa.o _).trans (hHeld.1)))))),((cell_far (p:=⟨qb,_,none⟩) qa.o _).trans (((cell_far (p:=⟨qb,_,none⟩) qa.o _).trans (((cell_far (p:=⟨qb,_,none⟩) qa.o _).trans (hHeld.2.1)))))),((cell_far (p:=⟨qb,_,none⟩) qa.o _).trans (((cell_far (p:=⟨qb,_,none⟩) qa.o _).trans (((cell_far (p:=⟨qb,_,none⟩) qa.o _).trans (hHeld.2.2))))))⟩ (fun hHeld=>?_)
 clear hK K
 refine done_ (Zdg HT_.out (by kernel_rfl)) ?_
 try go_wp2
 refine bodyPost_ret (results_cell_row rfl _ _ qb 30 #[.bool a0_0,.slice Ao7 qf.length co7,.int .i64 a0_2] (0,0) _ rfl (by exact p3 qd) Tryz.underlying30 rfl (by kernel_rfl)) rfl ?_
 exact ⟨_,pE,by refine rp ?_;exact Kd.Zi (Kd.Zj (p:=⟨qb,2,none⟩) (Kd.Zj (p:=⟨qb,1,none⟩) (Kd.Zj (p:=⟨qb,0,none⟩) (Kd.Zg qh.o qd.o (by decide)) (fun _ hk=>hk.2) (.bool a0_0)) (fun _ hk=>hk.2) (.slice Ao7 qf.length co7)) (fun _ hk=>hk.2) (.int .i64 a0_2)) (fun _ hk=>trivial),pB⟩
mutual
def Zn.j0:Nat->Bool->Bool->List Int->Int->Option (Int)
 | 0,_,_,_,_=>none
 | k+1,x13,qw,q1,qq=>if x13=true then (some 9) else ((Zq.f k qw q1 qq).bind fun qu=>(if (qu.2.1.length:Int)=0 then (if qw=true then (Zn.j1 k true) else (Zn.j1 k (qq != 0))) else (if 0 < (qu.2.1.length:Int) then (if (rd qu.2.1 0)=0 then (some 9) else (if (qu.2.1.length:Int) > 300 then (some 9) else (if qq < (-1000) then (some 9) else (if qq > 1000 then (some 9) else (some 0))))) else (none))))
def Zn.j1:Nat->Bool->Option (Int)
 | 0,_=>none
 | k+1,x26=>if x26=true then (some 9) else (some 0)
end
def Zn.f (k:Nat) (a0_0:Bool) (l0_1:List Int) (a0_2:Int):Option (Int):=(Zb9.f l0_1).bind fun qx=>(if qx=0 then (Zn.j0 k (decide ((l0_1.length:Int) > 40)) a0_0 l0_1 a0_2) else (Zn.j0 k true a0_0 l0_1 a0_2))
theorem Zn.calls (k:Nat) (a0_0:Bool) (A0_1:Option Addr) (c0_1:Nat) (l0_1:List Int) (a0_2:Int) (r:Int) (w:World) (hr0_1:Kd.C (Kd.int .u32) w A0_1 l0_1.length l0_1) (hc0_1:l0_1.length<=c0_1) (h:Zn.f k a0_0 l0_1 a0_2=some r) :
  Calls Tryz.prog 33 #[.agg #[.bool a0_0,.slice A0_1 l0_1.length c0_1,.int .i64 a0_2]] w fun e w'=>e=.returned (.int .i64 r)/\Below w.heap.size w w':=by
 have hu24:=Tryz.underlying24
 have hu30:=Tryz.underlying30
 have HR0_1:=am hr0_1
 have HC0_1:=am hc0_1
 clear hr0_1 hc0_1
 have HB:=am (Below.refl w.heap.size w)
 have H:((Zb9.f l0_1).bind fun qx=>(if qx=0 then (Zn.j0 k (decide ((l0_1.length:Int) > 40)) a0_0 l0_1 a0_2) else (Zn.j0 k true a0_0 l0_1 a0_2)))=some r:=h
 clear h
 have HC2:=am H
 clear H
 go_enter Tryz.func33,Tryz.ntmps33
 go_upto_region 1 with (first|((with_reducible refine gd 1 ?_);(try (refine Za5 (by rfl) ?_;dsimp only));refine bx 1 #[.bool a0_0,.slice A0_1 l0_1.length c0_1,.int .i64 a0_2] 24 (h:=?_);intro q2 hg w3 hbox hb;have qb:=am hbox;have jf:=gW hg;replace HB:=bS hb;clear hb hbox hg))
 (try simp only [Act.put,List.setIfInBounds_toArray,List.set_cons_zero,List.set_cons_succ])
 go_cut [13] (fun v13 wc => ∃ (kq:Nat) (x13_1:Bool),v13=.bool x13_1/\Aside0 (Zn.j0 kq x13_1 a0_0 l0_1 a0_2=some r)/\Aside0 (kq<=k)/\Aside0 (wc.heap[q2]? = some (.cells #[.bool a0_0,(.slice A0_1 l0_1.length c0_1),.int .i64 a0_2] 24 (0,0)))/\Aside0 (Below w.heap.size w wc))
 case first =>
  have H:=HC2.o
  clear HC2
  replace H:=ob H
  obtain ⟨qx,A4,H⟩:=H
  replace H:=eI H
  rcases H with ⟨c5b0,c5b1,H⟩|⟨c5,c5b0,c5b1,H⟩
  ·(first|rw [c5b0]|(simp only [Zc5,Zdv];rw [c5b0])|skip)
   have H':=am H
   clear H
   obtain ⟨_,_,_,_,_,_⟩:=cEc qb.o
   go_wp2_with (first|(refine gL (some 6) Tryz.func91 #[.slice A0_1 l0_1.length c0_1] (h:=?_);(with_reducible refine (Zb9.calls _ _ l0_1 qx _ ?side1 ?side2 A4.o).mono ?_);(case side1=>exact cB HR0_1 HB);(case side2=>exact HC0_1.o);rintro e w' ⟨rfl,⟨nd,rfl⟩⟩;refine ⟨_,rfl,?_⟩))
   go_meet
   case rel=>exact ⟨_,(decide ((l0_1.length:Int) > 40)),pR,H',pJ,⟨Za qb.o pl⟩,⟨pB⟩⟩
  ·(first|rw [c5b0]|(simp only [Zc5,Zdv];rw [c5b0])|skip)
   have H':=am H
   clear H
   obtain ⟨_,_,_,_,_,_⟩:=cEc qb.o
   go_wp2_with (first|(refine gL (some 6) Tryz.func91 #[.slice A0_1 l0_1.length c0_1] (h:=?_);(with_reducible refine (Zb9.calls _ _ l0_1 qx _ ?side1 ?side2 A4.o).mono ?_);(case side1=>exact cB HR0_1 HB);(case side2=>exact HC0_1.o);rintro e w' ⟨rfl,⟨nd,rfl⟩⟩;refine ⟨_,rfl,?_⟩))
   go_meet
   case rel=>exact ⟨_,(true),pR,H',pJ,⟨Za qb.o pl⟩,⟨pB⟩⟩
 case rest =>
  clear HC2
  obtain ⟨kq,x13_1,rfl,HA,HJ1,qb,HB⟩:=hcut
  cases kq with
  | zero=>exact absurd HA.out (by simp [Zn.j0])
  | succ kj1 =>
   have H:=HA.out
   clear HA
   simp only [Zn.j0] at H
   replace H:=tI (t:=x13_1) H
   rcases H with ⟨rfl,H⟩|⟨rfl,H⟩
   ·obtain rfl:=Option.some.inj H
    go_wp2
    go_ret
    exact ⟨pE,pB⟩
   ·replace H:=ob H
    obtain ⟨⟨qo,ql,qp⟩,A9,H⟩:=H;(try dsimp only at H)
    replace H:=eI H
    rcases H with ⟨c10b0,c10b1,H⟩|⟨c10,c10b0,c10b1,H⟩
    ·have HC11:=am H
     clear H
     obtain ⟨_,_,_,_,_,_⟩:=cEc qb.o
     go_upto_region 5 with (first|(refine gL (some 15) Tryz.func18 #[.agg #[.bool a0_0,.slice A0_1 l0_1.length c0_1,.int .i64 a0_2]] (h:=?_);(with_reducible refine (Zq.calls kj1 a0_0 _ _ l0_1 a0_2 qo ql qp _ ?side1 ?side2 A9.o).mono ?_);(case side1=>exact cB HR0_1 HB);(case side2=>exact HC0_1.o);rintro e w13 ⟨qy,rfl,ho0,hb⟩;refine ⟨_,rfl,?_⟩;have qc:=am (Kd.Zt ho0 (Zb pB));replace qb:=bb qb hb;replace HB:=bS hb)|((with_reducible refine gd 3 ?_);(try (refine Za5 (by rfl) ?_;dsimp only));refine bx 3 #[.bool false,.slice none 0 0,.int .i64 0] 30 (h:=?_);intro qd hg w14 hbox hb;have qj:=am hbox;have qt:=gW hg;have qs:=gW hg;have qh:=nL hg qb;have qi:=nG hg qb;replace qc:=rbl qc hb;replace qb:=bb qb hb;replace HB:=bS hb;clear hb hbox hg;have jg:=qi.o;have jo:=qh.o;obtain ⟨_,_,_,_,_,_⟩:=cEc qj.o;obtain ⟨qz,q0,q9⟩:=Kd.Zm qc.o;subst q9))
     (try simp only [Act.put,List.setIfInBounds_toArray,List.set_cons_zero,List.set_cons_succ])
     go_cut [26] (fun v26 wc => ∃ (kq:Nat) (x26_10:Bool),v26=.bool x26_10/\Aside0 (Zn.j1 kq x26_10=some r)/\Aside0 (kq<=kj1)/\Aside0 (Kd.R (Kd.int .i64) 3 wc w.heap.size (fun _=>True) (.slice qz ql.length q0) ql)/\Aside0 (wc.heap[q2]? = some (.cells #[.bool a0_0,(.slice A0_1 l0_1.length c0_1),.int .i64 a0_2] 24 (0,0)))/\Aside0 (wc.heap[qd]? = some (.cells #[.bool qo,(.slice qz ql.length q0),.int .i64 qp] 30 (0,0)))/\Aside0 (Below w.heap.size w wc))
     case first =>
      have H:=HC11.o
      clear HC11
      replace H:=tI (t:=a0_0) H
      rcases H with ⟨rfl,H⟩|⟨rfl,H⟩
      ·have H':=am H
       clear H
       have jh:=qh.o
       have jp:=qi.o
       obtain ⟨_,_,_,_,_,_⟩:=cEc qb.o
       go_wp2
       go_meet
       case rel=>exact ⟨_,(true),pR,H',pJ,⟨by refine rp ?_;exact Kd.Zi (Kd.Zj (p:=⟨qd,2,none⟩) (Kd.Zj (p:=⟨qd,1,none⟩) (Kd.Zj (p:=⟨qd,0,none⟩) (Kd.Zg qc.o qj.o (by decide)) (fun _ hk=>hk.2) (.bool qo)) (fun _ hk=>hk.2) (.slice qz ql.length q0)) (fun _ hk=>hk.2) (.int .i64 qp)) (fun _ hk=>trivial)⟩,⟨bf qh.o qb.o⟩,⟨by exact p3 qj⟩,⟨pB⟩⟩
      ·have H':=am H
       clear H
       have ji:=qh.o
       have jq:=qi.o
       obtain ⟨_,_,_,_,_,_⟩:=cEc qb.o
       go_wp2
       go_meet
       case rel=>exact ⟨_,((a0_2 != 0)),pR,H',pJ,⟨by refine rp ?_;exact Kd.Zi (Kd.Zj (p:=⟨qd,2,none⟩) (Kd.Zj (p:=⟨qd,1,none⟩) (Kd.Zj (p:=⟨qd,0,none⟩) (Kd.Zg qc.o qj.o (by decide)) (fun _ hk=>hk.2) (.bool qo)) (fun _ hk=>hk.2) (.slice qz ql.length q0)) (fun _ hk=>hk.2) (.int .i64 qp)) (fun _ hk=>trivial)⟩,⟨bf qh.o qb.o⟩,⟨by exact p3 qj⟩,⟨pB⟩⟩
     case rest =>
      clear HC11
      obtain ⟨kq,x26_10,rfl,HA,HJ10,q3,qb,qj,HB⟩:=hcut
      cases kq with
      | zero=>exact absurd HA.out (by simp [Zn.j1])
      | succ j3 =>
       have H:=HA.out
       clear HA
       simp only [Zn.j1] at H
       replace H:=tI (t:=x26_10) H
       rcases H with ⟨rfl,H⟩|⟨rfl,H⟩
       ·obtain rfl:=Option.some.inj H
        go_wp2
        go_ret
        exact ⟨pE,pB⟩
       ·obtain rfl:=Option.some.inj H
        go_wp2
        go_ret
        exact ⟨pE,pB⟩
    ·have c10b2:¬ (ql=[]):=fun h_=>c10 (by rw [h_];rfl)
     by_cases c24:0 < (ql.length:Int)
     ·rw [if_pos c24] at H
      have c24b0:decide (0 < (ql.length:Int))=true:=decide_eq_true c24
      have c24b1:decide (0 < ql.length)=true:=decide_eq_true (by omega)
      clear c24
      replace H:=eI H
      rcases H with ⟨c25b0,c25b1,H⟩|⟨c25,c25b0,c25b1,H⟩
      ·obtain rfl:=Option.some.inj H
       obtain ⟨_,_,_,_,_,_⟩:=cEc qb.o
       go_wp2_with (first|(refine gL (some 15) Tryz.func18 #[.agg #[.bool a0_0,.slice A0_1 l0_1.length c0_1,.int .i64 a0_2]] (h:=?_);(with_reducible refine (Zq.calls kj1 a0_0 _ _ l0_1 a0_2 qo ql qp _ ?side1 ?side2 A9.o).mono ?_);(case side1=>exact cB HR0_1 HB);(case side2=>exact HC0_1.o);rintro e w27 ⟨qy,rfl,ho0,hb⟩;refine ⟨_,rfl,?_⟩;have qc:=am (Kd.Zt ho0 (Zb pB));replace qb:=bb qb hb;replace HB:=bS hb)|((with_reducible refine gd 3 ?_);(try (refine Za5 (by rfl) ?_;dsimp only));refine bx 3 #[.bool false,.slice none 0 0,.int .i64 0] 30 (h:=?_);intro qd hg w28 hbox hb;have qj:=am hbox;have qt:=gW hg;have qs:=gW hg;have qh:=nL hg qb;have qi:=nG hg qb;replace qc:=rbl qc hb;replace qb:=bb qb hb;replace HB:=bS hb;clear hb hbox hg;have jj:=qi.o;have jr:=qh.o;obtain ⟨_,_,_,_,_,_⟩:=cEc qj.o;obtain ⟨jw,q4,ja⟩:=Kd.Zm qc.o;subst ja;have qm:0<=(0:Int):=(by omega);have qn:0 < (ql.length:Int):=of_decide_eq_true pQ;obtain ⟨qk,qr,qa⟩:=Kd.Zbi (Kd.Zf qc.o).2.2 0 qm qn;cases qr;have qv:(0 < ql.length)=True:=eq_true (by omega);(try rw [show ((0:Int)).toNat=0 from rfl] at qa);(try rw [Addr.add_zero'] at qa);have qe:qk.block ≠ qd:=Kd.Zdr (Kd.R_ne qc.o qj.o (by decide));have qf:qk.block ≠ qd:=Kd.Zdr (Kd.R_ne qc.o qj.o (by decide));have qg:qk.block ≠ qd:=Kd.Zdr (Kd.R_ne qc.o qj.o (by decide));replace qa:=(cell_far (p:=⟨qd,0,none⟩) (by first|(rw [Zbm];exact qe)|(show (Addr.add _ _).block ≠ _;rw [Zbm];exact qe)|exact qe) (.bool qo)).trans qa;replace qa:=(cell_far (p:=⟨qd,1,none⟩) (by first|(rw [Zbm];exact qf)|(show (Addr.add _ _).block ≠ _;rw [Zbm];exact qf)|exact qf) (.slice (some qk) ql.length q4)).trans qa;replace qa:=(cell_far (p:=⟨qd,2,none⟩) (by first|(rw [Zbm];exact qg)|(show (Addr.add _ _).block ≠ _;rw [Zbm];exact qg)|exact qg) (.int .i64 qp)).trans qa;clear qe qf qg;replace qm:=eq_true qm;replace qn:=eq_true qn))
       go_ret
       exact ⟨pE,pB⟩
      ·by_cases c32:(ql.length:Int) > 300
       ·rw [if_pos c32] at H
        have c32b0:decide (300 < (ql.length:Int))=true:=decide_eq_true c32
        have c32b1:decide (300 < ql.length)=true:=decide_eq_true (by omega)
        clear c32
        obtain rfl:=Option.some.inj H
        obtain ⟨_,_,_,_,_,_⟩:=cEc qb.o
        go_wp2_with (first|(refine gL (some 15) Tryz.func18 #[.agg #[.bool a0_0,.slice A0_1 l0_1.length c0_1,.int .i64 a0_2]] (h:=?_);(with_reducible refine (Zq.calls kj1 a0_0 _ _ l0_1 a0_2 qo ql qp _ ?side1 ?side2 A9.o).mono ?_);(case side1=>exact cB HR0_1 HB);(case side2=>exact HC0_1.o);rintro e w34 ⟨qy,rfl,ho0,hb⟩;refine ⟨_,rfl,?_⟩;have qc:=am (Kd.Zt ho0 (Zb pB));replace qb:=bb qb hb;replace HB:=bS hb)|((with_reducible refine gd 3 ?_);(try (refine Za5 (by rfl) ?_;dsimp only));refine bx 3 #[.bool false,.slice none 0 0,.int .i64 0] 30 (h:=?_);intro qd hg w35 hbox hb;have qj:=am hbox;have qt:=gW hg;have qs:=gW hg;have qh:=nL hg qb;have qi:=nG hg qb;replace qc:=rbl qc hb;replace qb:=bb qb hb;replace HB:=bS hb;clear hb hbox hg;have jk:=qi.o;have js:=qh.o;obtain ⟨_,_,_,_,_,_⟩:=cEc qj.o;obtain ⟨jx,q5,jb⟩:=Kd.Zm qc.o;subst jb;have qm:0<=(0:Int):=(by omega);have qn:0 < (ql.length:Int):=of_decide_eq_true pQ;obtain ⟨qk,qr,qa⟩:=Kd.Zbi (Kd.Zf qc.o).2.2 0 qm qn;cases qr;have qv:(0 < ql.length)=True:=eq_true (by omega);(try rw [show ((0:Int)).toNat=0 from rfl] at qa);(try rw [Addr.add_zero'] at qa);have qe:qk.block ≠ qd:=Kd.Zdr (Kd.R_ne qc.o qj.o (by decide));have qf:qk.block ≠ qd:=Kd.Zdr (Kd.R_ne qc.o qj.o (by decide));have qg:qk.block ≠ qd:=Kd.Zdr (Kd.R_ne qc.o qj.o (by decide));replace qa:=(cell_far (p:=⟨qd,0,none⟩) (by first|(rw [Zbm];exact qe)|(show (Addr.add _ _).block ≠ _;rw [Zbm];exact qe)|exact qe) (.bool qo)).trans qa;replace qa:=(cell_far (p:=⟨qd,1,none⟩) (by first|(rw [Zbm];exact qf)|(show (Addr.add _ _).block ≠ _;rw [Zbm];exact qf)|exact qf) (.slice (some qk) ql.length q5)).trans qa;replace qa:=(cell_far (p:=⟨qd,2,none⟩) (by first|(rw [Zbm];exact qg)|(show (Addr.add _ _).block ≠ _;rw [Zbm];exact qg)|exact qg) (.int .i64 qp)).trans qa;clear qe qf qg;replace qm:=eq_true qm;replace qn:=eq_true qn))
        go_ret
        exact ⟨pE,pB⟩
       ·rw [if_neg c32] at H
        have c32b0:decide (300 < (ql.length:Int))=false:=decide_eq_false c32
        have c32b1:decide (300 < ql.length)=false:=decide_eq_false (by omega)
        clear c32
        replace H:=dI H
        rcases H with ⟨c39b0,H⟩|⟨c39b0,H⟩
        ·obtain rfl:=Option.some.inj H
         obtain ⟨_,_,_,_,_,_⟩:=cEc qb.o
         go_wp2_with (first|(refine gL (some 15) Tryz.func18 #[.agg #[.bool a0_0,.slice A0_1 l0_1.length c0_1,.int .i64 a0_2]] (h:=?_);(with_reducible refine (Zq.calls kj1 a0_0 _ _ l0_1 a0_2 qo ql qp _ ?side1 ?side2 A9.o).mono ?_);(case side1=>exact cB HR0_1 HB);(case side2=>exact HC0_1.o);rintro e w41 ⟨qy,rfl,ho0,hb⟩;refine ⟨_,rfl,?_⟩;have qc:=am (Kd.Zt ho0 (Zb pB));replace qb:=bb qb hb;replace HB:=bS hb)|((with_reducible refine gd 3 ?_);(try (refine Za5 (by rfl) ?_;dsimp only));refine bx 3 #[.bool false,.slice none 0 0,.int .i64 0] 30 (h:=?_);intro qd hg w42 hbox hb;have qj:=am hbox;have qt:=gW hg;have qs:=gW hg;have qh:=nL hg qb;have qi:=nG hg qb;replace qc:=rbl qc hb;replace qb:=bb qb hb;replace HB:=bS hb;clear hb hbox hg;have jl:=qi.o;have jt:=qh.o;obtain ⟨_,_,_,_,_,_⟩:=cEc qj.o;obtain ⟨jy,q6,jc⟩:=Kd.Zm qc.o;subst jc;have qm:0<=(0:Int):=(by omega);have qn:0 < (ql.length:Int):=of_decide_eq_true pQ;obtain ⟨qk,qr,qa⟩:=Kd.Zbi (Kd.Zf qc.o).2.2 0 qm qn;cases qr;have qv:(0 < ql.length)=True:=eq_true (by omega);(try rw [show ((0:Int)).toNat=0 from rfl] at qa);(try rw [Addr.add_zero'] at qa);have qe:qk.block ≠ qd:=Kd.Zdr (Kd.R_ne qc.o qj.o (by decide));have qf:qk.block ≠ qd:=Kd.Zdr (Kd.R_ne qc.o qj.o (by decide));have qg:qk.block ≠ qd:=Kd.Zdr (Kd.R_ne qc.o qj.o (by decide));replace qa:=(cell_far (p:=⟨qd,0,none⟩) (by first|(rw [Zbm];exact qe)|(show (Addr.add _ _).block ≠ _;rw [Zbm];exact qe)|exact qe) (.bool qo)).trans qa;replace qa:=(cell_far (p:=⟨qd,1,none⟩) (by first|(rw [Zbm];exact qf)|(show (Addr.add _ _).block ≠ _;rw [Zbm];exact qf)|exact qf) (.slice (some qk) ql.length q6)).trans qa;replace qa:=(cell_far (p:=⟨qd,2,none⟩) (by first|(rw [Zbm];exact qg)|(show (Addr.add _ _).block ≠ _;rw [Zbm];exact qg)|exact qg) (.int .i64 qp)).trans qa;clear qe qf qg;replace qm:=eq_true qm;replace qn:=eq_true qn;obtain ⟨_,_,_,_,_,_⟩:=cEc qb.o))
         go_ret
         exact ⟨pE,pB⟩
        ·replace H:=gI H
         rcases H with ⟨c47b0,H⟩|⟨c47b0,H⟩
         ·obtain rfl:=Option.some.inj H
          obtain ⟨_,_,_,_,_,_⟩:=cEc qb.o
          go_wp2_with (first|(refine gL (some 15) Tryz.func18 #[.agg #[.bool a0_0,.slice A0_1 l0_1.length c0_1,.int .i64 a0_2]] (h:=?_);(with_reducible refine (Zq.calls kj1 a0_0 _ _ l0_1 a0_2 qo ql qp _ ?side1 ?side2 A9.o).mono ?_);(case side1=>exact cB HR0_1 HB);(case side2=>exact HC0_1.o);rintro e w49 ⟨qy,rfl,ho0,hb⟩;refine ⟨_,rfl,?_⟩;have qc:=am (Kd.Zt ho0 (Zb pB));replace qb:=bb qb hb;replace HB:=bS hb)|((with_reducible refine gd 3 ?_);(try (refine Za5 (by rfl) ?_;dsimp only));refine bx 3 #[.bool false,.slice none 0 0,.int .i64 0] 30 (h:=?_);intro qd hg w50 hbox hb;have qj:=am hbox;have qt:=gW hg;have qs:=gW hg;have qh:=nL hg qb;have qi:=nG hg qb;replace qc:=rbl qc hb;replace qb:=bb qb hb;replace HB:=bS hb;clear hb hbox hg;have jm:=qi.o;have ju:=qh.o;obtain ⟨_,_,_,_,_,_⟩:=cEc qj.o;obtain ⟨jz,q7,jd⟩:=Kd.Zm qc.o;subst jd;have qm:0<=(0:Int):=(by omega);have qn:0 < (ql.length:Int):=of_decide_eq_true pQ;obtain ⟨qk,qr,qa⟩:=Kd.Zbi (Kd.Zf qc.o).2.2 0 qm qn;cases qr;have qv:(0 < ql.length)=True:=eq_true (by omega);(try rw [show ((0:Int)).toNat=0 from rfl] at qa);(try rw [Addr.add_zero'] at qa);have qe:qk.block ≠ qd:=Kd.Zdr (Kd.R_ne qc.o qj.o (by decide));have qf:qk.block ≠ qd:=Kd.Zdr (Kd.R_ne qc.o qj.o (by decide));have qg:qk.block ≠ qd:=Kd.Zdr (Kd.R_ne qc.o qj.o (by decide));replace qa:=(cell_far (p:=⟨qd,0,none⟩) (by first|(rw [Zbm];exact qe)|(show (Addr.add _ _).block ≠ _;rw [Zbm];exact qe)|exact qe) (.bool qo)).trans qa;replace qa:=(cell_far (p:=⟨qd,1,none⟩) (by first|(rw [Zbm];exact qf)|(show (Addr.add _ _).block ≠ _;rw [Zbm];exact qf)|exact qf) (.slice (some qk) ql.length q7)).trans qa;replace qa:=(cell_far (p:=⟨qd,2,none⟩) (by first|(rw [Zbm];exact qg)|(show (Addr.add _ _).block ≠ _;rw [Zbm];exact qg)|exact qg) (.int .i64 qp)).trans qa;clear qe qf qg;replace qm:=eq_true qm;replace qn:=eq_true qn;obtain ⟨_,_,_,_,_,_⟩:=cEc qb.o))
          go_ret
          exact ⟨pE,pB⟩
         ·obtain rfl:=Option.some.inj H
          obtain ⟨_,_,_,_,_,_⟩:=cEc qb.o
          go_wp2_with (first|(refine gL (some 15) Tryz.func18 #[.agg #[.bool a0_0,.slice A0_1 l0_1.length c0_1,.int .i64 a0_2]] (h:=?_);(with_reducible refine (Zq.calls kj1 a0_0 _ _ l0_1 a0_2 qo ql qp _ ?side1 ?side2 A9.o).mono ?_);(case side1=>exact cB HR0_1 HB);(case side2=>exact HC0_1.o);rintro e w56 ⟨qy,rfl,ho0,hb⟩;refine ⟨_,rfl,?_⟩;have qc:=am (Kd.Zt ho0 (Zb pB));replace qb:=bb qb hb;replace HB:=bS hb)|((with_reducible refine gd 3 ?_);(try (refine Za5 (by rfl) ?_;dsimp only));refine bx 3 #[.bool false,.slice none 0 0,.int .i64 0] 30 (h:=?_);intro qd hg w57 hbox hb;have qj:=am hbox;have qt:=gW hg;have qs:=gW hg;have qh:=nL hg qb;have qi:=nG hg qb;replace qc:=rbl qc hb;replace qb:=bb qb hb;replace HB:=bS hb;clear hb hbox hg;have jn:=qi.o;have jv:=qh.o;obtain ⟨_,_,_,_,_,_⟩:=cEc qj.o;obtain ⟨j2,q8,je⟩:=Kd.Zm qc.o;subst je;have qm:0<=(0:Int):=(by omega);have qn:0 < (ql.length:Int):=of_decide_eq_true pQ;obtain ⟨qk,qr,qa⟩:=Kd.Zbi (Kd.Zf qc.o).2.2 0 qm qn;cases qr;have qv:(0 < ql.length)=True:=eq_true (by omega);(try rw [show ((0:Int)).toNat=0 from rfl] at qa);(try rw [Addr.add_zero'] at qa);have qe:qk.block ≠ qd:=Kd.Zdr (Kd.R_ne qc.o qj.o (by decide));have qf:qk.block ≠ qd:=Kd.Zdr (Kd.R_ne qc.o qj.o (by decide));have qg:qk.block ≠ qd:=Kd.Zdr (Kd.R_ne qc.o qj.o (by decide));replace qa:=(cell_far (p:=⟨qd,0,none⟩) (by first|(rw [Zbm];exact qe)|(show (Addr.add _ _).block ≠ _;rw [Zbm];exact qe)|exact qe) (.bool qo)).trans qa;replace qa:=(cell_far (p:=⟨qd,1,none⟩) (by first|(rw [Zbm];exact qf)|(show (Addr.add _ _).block ≠ _;rw [Zbm];exact qf)|exact qf) (.slice (some qk) ql.length q8)).trans qa;replace qa:=(cell_far (p:=⟨qd,2,none⟩) (by first|(rw [Zbm];exact qg)|(show (Addr.add _ _).block ≠ _;rw [Zbm];exact qg)|exact qg) (.int .i64 qp)).trans qa;clear qe qf qg;replace qm:=eq_true qm;replace qn:=eq_true qn;obtain ⟨_,_,_,_,_,_⟩:=cEc qb.o))
          go_ret
          exact ⟨pE,pB⟩
     ·rw [if_neg c24] at H
      cases H
def Za4.f (a0_0:Bool) (l0_1:List Int) (a0_2:Int):Option (Bool × List Int × Int):=if a0_0=true then (some (false,l0_1,a0_2)) else (some (decide ((l0_1.length:Int) > 0),l0_1,a0_2))
theorem Za4.calls (a0_0:Bool) (P0_1_:Nat->Prop) (u9000_:Value) (l0_1:List Int) (a0_2:Int) (r1:Bool) (r2:List Int) (r3:Int) (w0 w:World) (hB:Below w0.heap.size w0 w) (ho0_1:Kd.R (Kd.int .i64) 3 w w0.heap.size P0_1_ u9000_ l0_1) (h:Za4.f a0_0 l0_1 a0_2=some (r1,r2,r3)) :
  Calls Tryz.prog 78 #[.agg #[.bool a0_0,u9000_,.int .i64 a0_2]] w fun e w' => ∃ v1_:Value,e=.returned (.agg #[.bool r1,v1_,.int .i64 r3])/\Kd.R (Kd.int .i64) 3 w' w0.heap.size (fun k_=>(P0_1_ k_\/w.heap.size<=k_)) v1_ r2/\Below w0.heap.size w0 w'/\Kept w w' (fun k_=>P0_1_ k_):=by
 have hu30:=Tryz.underlying30
 have HO0_1:=am (show Kd.R (Kd.int .i64) 3 w w0.heap.size (fun k_=>(P0_1_ k_\/w.heap.size<=k_)) u9000_ l0_1 from Kd.Zi ho0_1 (fun k_ hk=>(.inl hk)))
 have HK:=am (Kept.refl w (fun k_=>P0_1_ k_))
 have HW0:=am hB.size
 have HB:=am hB
 clear hB
 have H:(if a0_0=true then (some (false,l0_1,a0_2)) else (some (decide ((l0_1.length:Int) > 0),l0_1,a0_2)))=some (r1,r2,r3):=h
 clear h
 replace H:=tI (t:=a0_0) H
 rcases H with ⟨rfl,H⟩|⟨rfl,H⟩
 ·simp only [Option.some.injEq,Prod.mk.injEq] at H
  obtain ⟨rfl,rfl,rfl⟩:=H
  obtain ⟨Ao3,co3,eo3⟩:=Kd.Zm HO0_1.o
  subst eo3
  go_enter Tryz.func78,Tryz.ntmps78
  go_wp2_with (first|((with_reducible refine gd 1 ?_);(try (refine Za5 (by rfl) ?_;dsimp only));refine bx 1 #[.bool true,.slice Ao3 l0_1.length co3,.int .i64 a0_2] 30 (h:=?_);intro qg hg w4 hbox hb;have qa:=am hbox;have qf:=am ((by rw [hg];exact (by first|exact HK.out.1|exact (show Kept w _ (fun k_=>P0_1_ k_) from by repeat (first|(with_reducible first|exact HK.out|apply Kept.alloc|apply Kept.drewN|apply Kept.drew)|exact HK.out)).1):w.heap.size<=qg));have qi:=am ((gw hg pB:w0.heap.size<=qg));replace HO0_1:=rbl HO0_1 hb;replace HK:=am (Kept.below (S:=(fun k_=>P0_1_ k_)) (by repeat (first|(with_reducible first|exact HK.out|apply Kept.alloc|apply Kept.drewN|apply Kept.drew)|exact HK.out)) hb);replace HB:=bS hb;clear hb hbox hg)|((with_reducible refine gd 2 ?_);(try (refine Za5 (by rfl) ?_;dsimp only));refine bx 2 #[.bool false,.slice none 0 0,.int .i64 0] 30 (h:=?_);intro qc hg w5 hbox hb;have qe:=am hbox;have qh:=am ((by rw [hg];exact (by first|exact HK.out.1|exact (show Kept w _ (fun k_=>P0_1_ k_) from by repeat (first|(with_reducible first|exact HK.out|apply Kept.alloc|apply Kept.drewN|apply Kept.drew|refine Kept.setCell ?_ (.inr qf.o) _)|exact HK.out)).1):w.heap.size<=qc));have qj:=am ((gw hg pB:w0.heap.size<=qc));have qd:=nL hg qa;have qb:=nG hg qa;replace HO0_1:=rbl HO0_1 hb;replace qa:=bb qa hb;replace HK:=am (Kept.below (S:=(fun k_=>P0_1_ k_)) (by repeat (first|(with_reducible first|exact HK.out|apply Kept.alloc|apply Kept.drewN|apply Kept.drew|refine Kept.setCell ?_ (.inr qf.o) _)|exact HK.out)) hb);replace HB:=bS hb;clear hb hbox hg;have hnb6:=qd.o;have hnc6:=qb.o;obtain ⟨_,_,_,_,_,_⟩:=cEc qa.o;obtain ⟨_,_,_,_,_,_⟩:=cEc qe.o))
  refine bodyPost_ret (results_cell_row rfl _ _ qc 30 #[.bool false,.slice Ao3 l0_1.length co3,.int .i64 a0_2] (0,0) _ rfl (by refine bp ?_;refine Zab (cs:=#[.bool false,.slice Ao3 l0_1.length co3,.int .i64 0]) ?_ 2 _ rfl;refine bp ?_;refine Zab (cs:=#[.bool false,.slice none 0 0,.int .i64 0]) ?_ 1 _ rfl;refine bp ?_;refine Zab (cs:=#[.bool false,.slice none 0 0,.int .i64 0]) ?_ 0 _ rfl;refine bq ?_ qb;exact bp qe.o) Tryz.underlying30 rfl (by kernel_rfl)) rfl ?_
  exact ⟨_,pE,by refine rp ?_;exact Kd.Zi (Kd.Zj (p:=⟨qc,2,none⟩) (Kd.Zj (p:=⟨qc,1,none⟩) (Kd.Zj (p:=⟨qc,0,none⟩) (Kd.Zj (p:=⟨qg,0,none⟩) (Kd.Zg (Kd.Zg HO0_1.o qa.o (by decide)) qe.o (by decide)) (fun _ hk=>hk.1.2) (.bool false)) (fun _ hk=>hk.2) (.bool false)) (fun _ hk=>hk.2) (.slice Ao3 l0_1.length co3)) (fun _ hk=>hk.2) (.int .i64 a0_2)) (fun _ hk=>hk.1.1),pB,by repeat (first|(with_reducible first|exact HK.out|apply Kept.alloc|apply Kept.drewN|apply Kept.drew|refine Kept.setCell ?_ (.inr qf.o) _|refine Kept.setCell ?_ (.inr qh.o) _)|exact HK.out)⟩
 ·simp only [Option.some.injEq,Prod.mk.injEq] at H
  obtain ⟨rfl,rfl,rfl⟩:=H
  obtain ⟨Ao9,co9,eo9⟩:=Kd.Zm HO0_1.o
  subst eo9
  rw [show decide ((l0_1.length:Int) > 0)=decide (0 < l0_1.length) by simp]
  go_enter Tryz.func78,Tryz.ntmps78
  go_wp2_with (first|((with_reducible refine gd 1 ?_);(try (refine Za5 (by rfl) ?_;dsimp only));refine bx 1 #[.bool false,.slice Ao9 l0_1.length co9,.int .i64 a0_2] 30 (h:=?_);intro qg hg w10 hbox hb;have qa:=am hbox;have qf:=am ((by rw [hg];exact (by first|exact HK.out.1|exact (show Kept w _ (fun k_=>P0_1_ k_) from by repeat (first|(with_reducible first|exact HK.out|apply Kept.alloc|apply Kept.drewN|apply Kept.drew)|exact HK.out)).1):w.heap.size<=qg));have qi:=am ((gw hg pB:w0.heap.size<=qg));replace HO0_1:=rbl HO0_1 hb;replace HK:=am (Kept.below (S:=(fun k_=>P0_1_ k_)) (by repeat (first|(with_reducible first|exact HK.out|apply Kept.alloc|apply Kept.drewN|apply Kept.drew)|exact HK.out)) hb);replace HB:=bS hb;clear hb hbox hg)|((with_reducible refine gd 2 ?_);(try (refine Za5 (by rfl) ?_;dsimp only));refine bx 2 #[.bool false,.slice none 0 0,.int .i64 0] 30 (h:=?_);intro qc hg w11 hbox hb;have qe:=am hbox;have qh:=am ((by rw [hg];exact (by first|exact HK.out.1|exact (show Kept w _ (fun k_=>P0_1_ k_) from by repeat (first|(with_reducible first|exact HK.out|apply Kept.alloc|apply Kept.drewN|apply Kept.drew|refine Kept.setCell ?_ (.inr qf.o) _)|exact HK.out)).1):w.heap.size<=qc));have qj:=am ((gw hg pB:w0.heap.size<=qc));have qd:=nL hg qa;have qb:=nG hg qa;replace HO0_1:=rbl HO0_1 hb;replace qa:=bb qa hb;replace HK:=am (Kept.below (S:=(fun k_=>P0_1_ k_)) (by repeat (first|(with_reducible first|exact HK.out|apply Kept.alloc|apply Kept.drewN|apply Kept.drew|refine Kept.setCell ?_ (.inr qf.o) _)|exact HK.out)) hb);replace HB:=bS hb;clear hb hbox hg;have qk:=qd.o;have ql:=qb.o;obtain ⟨_,_,_,_,_,_⟩:=cEc qa.o;obtain ⟨_,_,_,_,_,_⟩:=cEc qe.o))
  refine bodyPost_ret (results_cell_row rfl _ _ qc 30 #[.bool (decide (0 < l0_1.length)),.slice Ao9 l0_1.length co9,.int .i64 a0_2] (0,0) _ rfl (by refine bp ?_;refine Zab (cs:=#[.bool (decide (0 < l0_1.length)),.slice Ao9 l0_1.length co9,.int .i64 0]) ?_ 2 _ rfl;refine bp ?_;refine Zab (cs:=#[.bool (decide (0 < l0_1.length)),.slice none 0 0,.int .i64 0]) ?_ 1 _ rfl;refine bp ?_;refine Zab (cs:=#[.bool false,.slice none 0 0,.int .i64 0]) ?_ 0 _ rfl;refine bq ?_ qb;exact bp qe.o) Tryz.underlying30 rfl (by kernel_rfl)) rfl ?_
  exact ⟨_,pE,by refine rp ?_;exact Kd.Zi (Kd.Zj (p:=⟨qc,2,none⟩) (Kd.Zj (p:=⟨qc,1,none⟩) (Kd.Zj (p:=⟨qc,0,none⟩) (Kd.Zj (p:=⟨qg,0,none⟩) (Kd.Zg (Kd.Zg HO0_1.o qa.o (by decide)) qe.o (by decide)) (fun _ hk=>hk.1.2) (.bool (decide (0 < l0_1.length)))) (fun _ hk=>hk.2) (.bool (decide (0 < l0_1.length)))) (fun _ hk=>hk.2) (.slice Ao9 l0_1.length co9)) (fun _ hk=>hk.2) (.int .i64 a0_2)) (fun _ hk=>hk.1.1),pB,by repeat (first|(with_reducible first|exact HK.out|apply Kept.alloc|apply Kept.drewN|apply Kept.drew|refine Kept.setCell ?_ (.inr qf.o) _|refine Kept.setCell ?_ (.inr qh.o) _)|exact HK.out)⟩
def Zbr.f (k:Nat) (a0_0:Bool) (l0_1:List Int) (a0_2:Int):Option (Bool × List Int × Int × Int):=(Zn.f k a0_0 l0_1 a0_2).bind fun qd=>(if qd=0 then ((Zq.f k a0_0 l0_1 a0_2).bind fun qb=>((Za4.f qb.1 qb.2.1 qb.2.2).bind fun qc=>((Zl.f k qc.1 qc.2.1 qc.2.2).bind fun qa=>(some (qa.1,qa.2.1,qa.2.2.1,qa.2.2.2))))) else (some (false,([]:List Int),0,9)))
theorem Zbr.leaf {P:Prop} (h:P:=by
 go_enter Tryz.func46,Tryz.ntmps46
 go_wp2_with (first|((with_reducible refine gd 1 ?_);refine bx 1 #[.bool a0_0,.slice A0_1 l0_1.length c0_1,.int .i64 a0_2] 24 (h:=?_);intro gb0z hg w1z hbox hb;have BK2z:=am hbox;have GW3z:=gW hg;replace HB:=bS hb;clear hb hbox hg)|((with_reducible refine gd 2 ?_);refine bx 2 #[.bool false,.slice none 0 0,.int .i64 0] 24 (h:=?_);intro gb5z hg w6z hbox hb;have BK7z:=am hbox;have GW8z:=gW hg;have q2:=nL hg BK2z;have q3:=nG hg BK2z;replace BK2z:=bb BK2z hb;replace HB:=bS hb;clear hb hbox hg;have q8:=q2.o;have q9:=q3.o;obtain ⟨_,_,_,_,_,_⟩:=cEc BK2z.o)|((have q_:=A6;clear q_);refine gL (some 5) Tryz.func33 #[.agg #[.bool a0_0,.slice A0_1 l0_1.length c0_1,.int .i64 a0_2]] (h:=?_);(with_reducible refine (Zn.calls k a0_0 _ _ l0_1 a0_2 qd _ ?side1 ?side2 A2.o).mono ?_);(case side1=>exact cB HR0_1 HB);(case side2=>exact HC0_1.o);rintro e w20z ⟨rfl,hb⟩;refine ⟨_,rfl,?_⟩;replace BK2z:=bb BK2z hb;replace BK7z:=bb BK7z hb;replace HB:=bS hb;obtain ⟨qw,qx,qy,qz,q0,q1⟩:=cEc BK2z.o)|(refine gL (some 9) Tryz.func18 #[.agg #[.bool a0_0,.slice A0_1 l0_1.length c0_1,.int .i64 a0_2]] (h:=?_);(with_reducible refine (Zq.calls k a0_0 _ _ l0_1 a0_2 qm qg qn _ ?side1 ?side2 A4.o).mono ?_);(case side1=>exact cB HR0_1 HB);(case side2=>exact HC0_1.o);rintro e w27z ⟨v28z,rfl,ho29z,hb⟩;refine ⟨_,rfl,?_⟩;have qe:=am (Kd.Zt ho29z (Zb pB));replace BK2z:=bb BK2z hb;replace BK7z:=bb BK7z hb;replace HB:=bS hb;obtain ⟨qi,qk,q4⟩:=Kd.Zm qe.o;subst q4)|(refine gL (some 10) Tryz.func78 #[.agg #[.bool qm,.slice qi qg.length qk,.int .i64 qn]] (h:=?_);(with_reducible refine (Za4.calls qm (fun k_=>some k_=(.slice qi qg.length qk:Value).ownBlock) (.slice qi qg.length qk) qg qn qo qh qp w _ ?side1 ?side2 A5.o).mono ?_);(case side1=>exact pB);(case side2=>exact Kd.Zbc rfl qe.o);rintro e w34z ⟨v35z,rfl,ho29z,hb,hkp⟩;refine ⟨_,rfl,?_⟩;have qf:=am (Kd.Zi (ok':=fun k_=>True) ho29z (fun k_ hk_=>trivial));replace BK2z:=am (Zan (Za BK2z.o pl) hkp (fun e_=>Kd.R_ne qe.o BK2z.o (by decide) e_));replace BK7z:=am (Zan (Za BK7z.o pl) hkp (fun e_=>Kd.R_ne qe.o BK7z.o (by decide) e_));replace HB:=am hb;clear qe;obtain ⟨qj,ql,q5⟩:=Kd.Zm qf.o;subst q5)|(refine gL (some 11) Tryz.func23 #[.agg #[.bool qo,.slice qj qh.length ql,.int .i64 qp]] (h:=?_);(with_reducible refine (Zl.calls k qo (fun k_=>some k_=(.slice qj qh.length ql:Value).ownBlock) (.slice qj qh.length ql) qh qp qq qr qs q7 w _ ?side1 ?side2 A6.o).mono ?_);(case side1=>exact pB);(case side2=>exact Kd.Zbc rfl qf.o);rintro e w40z ⟨v41z,rfl,ho29z,hb,hkp⟩;refine ⟨_,rfl,?_⟩;have qu:=am (Kd.Zi (ok':=fun k_=>True) ho29z (fun k_ hk_=>trivial));replace BK2z:=am (Zan (Za BK2z.o pl) hkp (fun e_=>Kd.R_ne qf.o BK2z.o (by decide) e_));replace BK7z:=am (Zan (Za BK7z.o pl) hkp (fun e_=>Kd.R_ne qf.o BK7z.o (by decide) e_));replace HB:=am hb;clear qf;obtain ⟨_,_,_,_,_,_⟩:=cEc BK7z.o;obtain ⟨qt,qv,q6⟩:=Kd.Zm qu.o;subst q6)|((have q_:(qd != 0)=true:=c3b1;clear q_);refine gL (some 5) Tryz.func33 #[.agg #[.bool a0_0,.slice A0_1 l0_1.length c0_1,.int .i64 a0_2]] (h:=?_);(with_reducible refine (Zn.calls k a0_0 _ _ l0_1 a0_2 qd _ ?side1 ?side2 A2.o).mono ?_);(case side1=>exact cB HR0_1 HB);(case side2=>exact HC0_1.o);rintro e w20z ⟨rfl,hb⟩;refine ⟨_,rfl,?_⟩;replace BK2z:=bb BK2z hb;replace BK7z:=bb BK7z hb;replace HB:=bS hb;obtain ⟨qw,qx,qy,qz,q0,q1⟩:=cEc BK7z.o))
 first
  | have q_:=A6
    refine bodyPost_ret (Zbd rfl _ _ gb5z 24 #[.bool qq,.slice qt qr.length qv,.int .i64 qs] (0,0) _ rfl (by exact p3 BK7z) Tryz.underlying24 rfl (by kernel_rfl)) rfl ?_
    exact ⟨_,pE,by refine rp ?_;exact Kd.Zi (Kd.Zj (p:=⟨gb5z,2,none⟩) (Kd.Zj (p:=⟨gb5z,1,none⟩) (Kd.Zj (p:=⟨gb5z,0,none⟩) (Kd.Zg qu.o BK7z.o (by decide)) (fun _ hk=>hk.2) (.bool qq)) (fun _ hk=>hk.2) (.slice qt qr.length qv)) (fun _ hk=>hk.2) (.int .i64 qs)) (fun _ hk=>trivial),pB⟩
  | refine bodyPost_ret (Zbd rfl _ _ gb5z 24 #[.bool false,.slice none 0 0,.int .i64 0] (0,0) _ rfl (by exact p3 BK7z) Tryz.underlying24 rfl (by kernel_rfl)) rfl ?_
    exact ⟨_,pE,pN,pB⟩):P:=h
theorem Zbr.calls (k:Nat) (a0_0:Bool) (A0_1:Option Addr) (c0_1:Nat) (l0_1:List Int) (a0_2:Int) (r1:Bool) (r2:List Int) (r3:Int) (r4:Int) (w:World) (hr0_1:Kd.C (Kd.int .u32) w A0_1 l0_1.length l0_1) (hc0_1:l0_1.length<=c0_1) (h:Zbr.f k a0_0 l0_1 a0_2=some (r1,r2,r3,r4)) :
  Calls Tryz.prog 46 #[.agg #[.bool a0_0,.slice A0_1 l0_1.length c0_1,.int .i64 a0_2]] w fun e w' => ∃ v1_:Value,e=.returned (.tuple #[.agg #[.bool r1,v1_,.int .i64 r3],.int .i64 r4])/\Kd.R (Kd.int .u32) 85 w' w.heap.size (fun _=>True) v1_ r2/\Below w.heap.size w w':=by
 have hu24:=Tryz.underlying24
 have HR0_1:=am hr0_1
 have HC0_1:=am hc0_1
 clear hr0_1 hc0_1
 have HB:=am (Below.refl w.heap.size w)
 have H:((Zn.f k a0_0 l0_1 a0_2).bind fun qd=>(if qd=0 then ((Zq.f k a0_0 l0_1 a0_2).bind fun qb=>((Za4.f qb.1 qb.2.1 qb.2.2).bind fun qc=>((Zl.f k qc.1 qc.2.1 qc.2.2).bind fun qa=>(some (qa.1,qa.2.1,qa.2.2.1,qa.2.2.2))))) else (some (false,([]:List Int),0,9))))=some (r1,r2,r3,r4):=h
 clear h
 replace H:=ob H
 obtain ⟨qd,A2,H⟩:=H
 replace H:=eI H
 rcases H with ⟨c3b0,c3b1,H⟩|⟨c3,c3b0,c3b1,H⟩
 ·replace H:=ob H
  obtain ⟨⟨qm,qg,qn⟩,A4,H⟩:=H;(try dsimp only at H)
  replace H:=ob H
  obtain ⟨⟨qo,qh,qp⟩,A5,H⟩:=H;(try dsimp only at H)
  replace H:=ob H
  obtain ⟨⟨qq,qr,qs,q7⟩,A6,H⟩:=H;(try dsimp only at H)
  simp only [Option.some.injEq,Prod.mk.injEq] at H
  obtain ⟨rfl,rfl,rfl,rfl⟩:=H
  exact Zbr.leaf
 ·simp only [Option.some.injEq,Prod.mk.injEq] at H
  obtain ⟨rfl,rfl,rfl,rfl⟩:=H
  exact Zbr.leaf
def Zap.f (k:Nat) (a0_0:Bool) (l0_1:List Int) (a0_2:Int) (a1_0:Bool) (l1_1:List Int) (a1_2:Int):Option (Int):=(Zn.f k a0_0 l0_1 a0_2).bind fun qe=>(if qe=0 then ((Zn.f k a1_0 l1_1 a1_2).bind fun qf=>(if qf=0 then (some 0) else (some 9))) else (some 9))
theorem Zap.calls (k:Nat) (a0_0:Bool) (A0_1:Option Addr) (c0_1:Nat) (l0_1:List Int) (a0_2:Int) (a1_0:Bool) (A1_1:Option Addr) (c1_1:Nat) (l1_1:List Int) (a1_2:Int) (r:Int) (w:World) (hr0_1:Kd.C (Kd.int .u32) w A0_1 l0_1.length l0_1) (hc0_1:l0_1.length<=c0_1) (hr1_1:Kd.C (Kd.int .u32) w A1_1 l1_1.length l1_1) (hc1_1:l1_1.length<=c1_1) (h:Zap.f k a0_0 l0_1 a0_2 a1_0 l1_1 a1_2=some r) :
  Calls Tryz.prog 64 #[.agg #[.bool a0_0,.slice A0_1 l0_1.length c0_1,.int .i64 a0_2],.agg #[.bool a1_0,.slice A1_1 l1_1.length c1_1,.int .i64 a1_2]] w fun e w'=>e=.returned (.int .i64 r)/\Below w.heap.size w w':=by
 have hu24:=Tryz.underlying24
 have HR0_1:=am hr0_1
 have HC0_1:=am hc0_1
 clear hr0_1 hc0_1
 have HR1_1:=am hr1_1
 have HC1_1:=am hc1_1
 clear hr1_1 hc1_1
 have HB:=am (Below.refl w.heap.size w)
 have H:((Zn.f k a0_0 l0_1 a0_2).bind fun qe=>(if qe=0 then ((Zn.f k a1_0 l1_1 a1_2).bind fun qf=>(if qf=0 then (some 0) else (some 9))) else (some 9)))=some r:=h
 clear h
 replace H:=ob H
 obtain ⟨qe,A3,H⟩:=H
 replace H:=eI H
 rcases H with ⟨c4b0,c4b1,H⟩|⟨c4,c4b0,c4b1,H⟩
 ·replace H:=ob H
  obtain ⟨qf,A5,H⟩:=H
  replace H:=eI H
  rcases H with ⟨c6b0,c6b1,H⟩|⟨c6,c6b0,c6b1,H⟩
  ·obtain rfl:=Option.some.inj H
   go_enter Tryz.func64,Tryz.ntmps64
   go_wp2_with (first|((with_reducible refine gd 2 ?_);refine bx 2 #[.bool a0_0,.slice A0_1 l0_1.length c0_1,.int .i64 a0_2] 24 (h:=?_);intro qk hg w7 hbox hb;have qa:=am hbox;have qi:=gW hg;have qg:=gW hg;replace HB:=bS hb;clear hb hbox hg)|((with_reducible refine gd 3 ?_);refine bx 3 #[.bool a1_0,.slice A1_1 l1_1.length c1_1,.int .i64 a1_2] 24 (h:=?_);intro ql hg w8 hbox hb;have qb:=am hbox;have qj:=gW hg;have qh:=gW hg;have qc:=nL hg qa;have qd:=nG hg qa;replace qa:=bb qa hb;replace HB:=bS hb;clear hb hbox hg;have hnb9:=qc.o;have hnc9:=qd.o;obtain ⟨_,_,_,_,_,_⟩:=cEc qa.o)|(refine gL (some 6) Tryz.func33 #[.agg #[.bool a0_0,.slice A0_1 l0_1.length c0_1,.int .i64 a0_2]] (h:=?_);(with_reducible refine (Zn.calls k a0_0 _ _ l0_1 a0_2 qe _ ?side1 ?side2 A3.o).mono ?_);(case side1=>exact cB HR0_1 HB);(case side2=>exact HC0_1.o);rintro e w11 ⟨rfl,hb⟩;refine ⟨_,rfl,?_⟩;replace qa:=bb qa hb;replace qb:=bb qb hb;replace HB:=bS hb;obtain ⟨_,_,_,_,_,_⟩:=cEc qb.o)|(go_at_call 33;(with_reducible refine (Zn.calls k a1_0 _ _ l1_1 a1_2 qf _ ?side1 ?side2 A5.o).mono ?_);(case side1=>exact cB HR1_1 HB);(case side2=>exact HC1_1.o);rintro e w13 ⟨rfl,hb⟩;replace qa:=bb qa hb;replace qb:=bb qb hb;replace HB:=bS hb))
   go_ret
   exact ⟨pE,pB⟩
  ·obtain rfl:=Option.some.inj H
   go_enter Tryz.func64,Tryz.ntmps64
   go_wp2_with (first|((with_reducible refine gd 2 ?_);refine bx 2 #[.bool a0_0,.slice A0_1 l0_1.length c0_1,.int .i64 a0_2] 24 (h:=?_);intro qk hg w14 hbox hb;have qa:=am hbox;have qi:=gW hg;have qg:=gW hg;replace HB:=bS hb;clear hb hbox hg)|((with_reducible refine gd 3 ?_);refine bx 3 #[.bool a1_0,.slice A1_1 l1_1.length c1_1,.int .i64 a1_2] 24 (h:=?_);intro ql hg w15 hbox hb;have qb:=am hbox;have qj:=gW hg;have qh:=gW hg;have qc:=nL hg qa;have qd:=nG hg qa;replace qa:=bb qa hb;replace HB:=bS hb;clear hb hbox hg;have qm:=qc.o;have qo:=qd.o;obtain ⟨_,_,_,_,_,_⟩:=cEc qa.o)|(refine gL (some 6) Tryz.func33 #[.agg #[.bool a0_0,.slice A0_1 l0_1.length c0_1,.int .i64 a0_2]] (h:=?_);(with_reducible refine (Zn.calls k a0_0 _ _ l0_1 a0_2 qe _ ?side1 ?side2 A3.o).mono ?_);(case side1=>exact cB HR0_1 HB);(case side2=>exact HC0_1.o);rintro e w18 ⟨rfl,hb⟩;refine ⟨_,rfl,?_⟩;replace qa:=bb qa hb;replace qb:=bb qb hb;replace HB:=bS hb;obtain ⟨_,_,_,_,_,_⟩:=cEc qb.o)|(go_at_call 33;(with_reducible refine (Zn.calls k a1_0 _ _ l1_1 a1_2 qf _ ?side1 ?side2 A5.o).mono ?_);(case side1=>exact cB HR1_1 HB);(case side2=>exact HC1_1.o);rintro e w20 ⟨rfl,hb⟩;replace qa:=bb qa hb;replace qb:=bb qb hb;replace HB:=bS hb))
   go_ret
   exact ⟨pE,pB⟩
 ·obtain rfl:=Option.some.inj H
  go_enter Tryz.func64,Tryz.ntmps64
  go_wp2_with (first|((with_reducible refine gd 2 ?_);refine bx 2 #[.bool a0_0,.slice A0_1 l0_1.length c0_1,.int .i64 a0_2] 24 (h:=?_);intro qk hg w21 hbox hb;have qa:=am hbox;have qi:=gW hg;have qg:=gW hg;replace HB:=bS hb;clear hb hbox hg)|((with_reducible refine gd 3 ?_);refine bx 3 #[.bool a1_0,.slice A1_1 l1_1.length c1_1,.int .i64 a1_2] 24 (h:=?_);intro ql hg w22 hbox hb;have qb:=am hbox;have qj:=gW hg;have qh:=gW hg;have qc:=nL hg qa;have qd:=nG hg qa;replace qa:=bb qa hb;replace HB:=bS hb;clear hb hbox hg;have qn:=qc.o;have qp:=qd.o;obtain ⟨_,_,_,_,_,_⟩:=cEc qa.o)|(refine gL (some 6) Tryz.func33 #[.agg #[.bool a0_0,.slice A0_1 l0_1.length c0_1,.int .i64 a0_2]] (h:=?_);(with_reducible refine (Zn.calls k a0_0 _ _ l0_1 a0_2 qe _ ?side1 ?side2 A3.o).mono ?_);(case side1=>exact cB HR0_1 HB);(case side2=>exact HC0_1.o);rintro e w25 ⟨rfl,hb⟩;refine ⟨_,rfl,?_⟩;replace qa:=bb qa hb;replace qb:=bb qb hb;replace HB:=bS hb))
  go_ret
  exact ⟨pE,pB⟩
def Zci.f (a0_0:Bool) (l0_1:List Int) (a0_2:Int) (a1_0:Bool) (l1_1:List Int) (a1_2:Int):Option (Bool × List Int × Int × Bool × List Int × Int):=(Zba.f l0_1 (wrap64 (a0_2 - (mn a0_2 a1_2)))).bind fun qu=>((Zba.f l1_1 (wrap64 (a1_2 - (mn a0_2 a1_2)))).bind fun qn=>(some (a0_0,qu,mn a0_2 a1_2,a1_0,qn,mn a0_2 a1_2)))
theorem Zci.calls (a0_0:Bool) (A0_1:Option Addr) (c0_1:Nat) (l0_1:List Int) (a0_2:Int) (a1_0:Bool) (A1_1:Option Addr) (c1_1:Nat) (l1_1:List Int) (a1_2:Int) (r1:Bool) (r2:List Int) (r3:Int) (r4:Bool) (r5:List Int) (r6:Int) (w:World) (hr0_1:Kd.C (Kd.int .i64) w A0_1 l0_1.length l0_1) (hc0_1:l0_1.length<=c0_1) (hr1_1:Kd.C (Kd.int .i64) w A1_1 l1_1.length l1_1) (hc1_1:l1_1.length<=c1_1) (h:Zci.f a0_0 l0_1 a0_2 a1_0 l1_1 a1_2=some (r1,r2,r3,r4,r5,r6)) :
  Calls Tryz.prog 133 #[.agg #[.bool a0_0,.slice A0_1 l0_1.length c0_1,.int .i64 a0_2],.agg #[.bool a1_0,.slice A1_1 l1_1.length c1_1,.int .i64 a1_2]] w fun e w' => ∃ v1_ v4_:Value,e=.returned (.tuple #[.agg #[.bool r1,v1_,.int .i64 r3],.agg #[.bool r4,v4_,.int .i64 r6]])/\Kd.R (Kd.int .i64) 3 w' w.heap.size (fun k_=>some k_ ≠ (v4_:Value).ownBlock) v1_ r2/\Kd.R (Kd.int .i64) 3 w' w.heap.size (fun k_=>some k_ ≠ (v1_:Value).ownBlock) v4_ r5/\Below w.heap.size w w':=by
 have hu30:=Tryz.underlying30
 have HR0_1:=am hr0_1
 have HC0_1:=am hc0_1
 clear hr0_1 hc0_1
 have HR1_1:=am hr1_1
 have HC1_1:=am hc1_1
 clear hr1_1 hc1_1
 have HB:=am (Below.refl w.heap.size w)
 have H:((Zba.f l0_1 (wrap64 (a0_2 - (mn a0_2 a1_2)))).bind fun qu=>((Zba.f l1_1 (wrap64 (a1_2 - (mn a0_2 a1_2)))).bind fun qn=>(some (a0_0,qu,mn a0_2 a1_2,a1_0,qn,mn a0_2 a1_2))))=some (r1,r2,r3,r4,r5,r6):=h
 clear h
 obtain ⟨ji3,hji3⟩:∃ j_:Int,(mn a0_2 a1_2)=j_:=⟨_,rfl⟩
 replace H:((Zba.f l0_1 (wrap64 (a0_2 - (ji3)))).bind fun qu=>((Zba.f l1_1 (wrap64 (a1_2 - (ji3)))).bind fun qn=>(some (a0_0,qu,ji3,a1_0,qn,ji3))))=some (r1,r2,r3,r4,r5,r6):=by first|(rw [hji3] at H;exact H)|(simp only [hji3] at H ⊢;exact H)
 have hji3_:(if a1_2 < a0_2 then a1_2 else a0_2)=ji3:=hji3
 obtain ⟨qu,A4,H⟩:=ob H
 obtain ⟨qn,A5,H⟩:=ob H
 simp only [Option.some.injEq,Prod.mk.injEq] at H
 obtain ⟨rfl,rfl,rfl,rfl,rfl,rfl⟩:=H
 go_enter Tryz.func133,Tryz.ntmps133
 try go_wp2_with (first|((with_reducible refine gd 2 ?_);refine bx 2 #[.bool a0_0,.slice A0_1 l0_1.length c0_1,.int .i64 a0_2] 30 (h:=?_);intro qw hg w6 hbox hb;have qg:=am hbox;have q4:=gW hg;replace HB:=bS hb;clear hb hbox hg)|((with_reducible refine gd 3 ?_);refine bx 3 #[.bool a1_0,.slice A1_1 l1_1.length c1_1,.int .i64 a1_2] 30 (h:=?_);intro qi hg w7 hbox hb;have qh:=am hbox;have q5:=gW hg;have q0:=nL hg qg;have q1:=nG hg qg;replace qg:=bb qg hb;replace HB:=bS hb;clear hb hbox hg)|((with_reducible refine gd 4 ?_);refine bx 4 #[.bool false,.slice none 0 0,.int .i64 0] 30 (h:=?_);intro qe hg w8 hbox hb;have ql:=am hbox;have q6:=gW hg;have qa:=nL hg qg;have qo:=nG hg qg;have qc:=nL hg qh;have qp:=nG hg qh;replace qg:=bb qg hb;replace qh:=bb qh hb;replace HB:=bS hb;clear hb hbox hg)|((with_reducible refine gd 5 ?_);refine bx 5 #[.bool false,.slice none 0 0,.int .i64 0] 30 (h:=?_);intro qf hg w9 hbox hb;have qm:=am hbox;have q7:=gW hg;have qb:=nL hg qg;have qq:=nG hg qg;have qd:=nL hg qh;have qr:=nG hg qh;have qj:=nL hg ql;have qk:=nG hg ql;replace qg:=bb qg hb;replace qh:=bb qh hb;replace ql:=bb ql hb;replace HB:=bS hb;clear hb hbox hg;have q8:=q0.o;have jd:=q1.o;have q9:=qa.o;have je:=qo.o;have ja:=qb.o;have jf:=qq.o;obtain ⟨_,_,_,_,_,_⟩:=cEc qg.o;have jb:=qc.o;have jg:=qp.o;have jc:=qd.o;have jh:=qr.o;obtain ⟨_,_,_,_,_,_⟩:=cEc qh.o)|((with_reducible refine Zfv (f:=93) rfl ?_);refine goesL_ (some 18) rfl rfl Tryz.func93 (by kernel_rfl) rfl #[.slice A0_1 l0_1.length c0_1,.int .i64 (wrap64 (a0_2 - (ji3)))] rfl (by (try simp only [List.map_toArray,List.map_cons,List.map_nil]);first|done|(simp only [hji3];rfl)|rfl|(simp only [List.length_drop,List.length_take];rfl)) ?_;(with_reducible refine (Zba.calls _ _ l0_1 (wrap64 (a0_2 - (ji3))) qu _ ?side1 ?side2 A4.o).mono ?_);(case side1=>exact cB HR0_1 HB);(case side2=>exact HC0_1.o);rintro e w17 ⟨ji,rfl,ho0,hb⟩;refine ⟨_,rfl,?_⟩;have qv:=am (Kd.Zt ho0 (Zb pB));replace qg:=bb qg hb;replace qh:=bb qh hb;replace ql:=bb ql hb;replace qm:=bb qm hb;replace HB:=bS hb;obtain ⟨qx,qz,q2⟩:=Kd.Zm qv.o;subst q2;obtain ⟨_,_,_,_,_,_⟩:=cEc qg.o;obtain ⟨_,_,_,_,_,_⟩:=cEc qh.o)|((with_reducible refine Zfv (f:=93) rfl ?_);refine goesL_ (some 28) rfl rfl Tryz.func93 (by kernel_rfl) rfl #[.slice A1_1 l1_1.length c1_1,.int .i64 (wrap64 (a1_2 - (ji3)))] rfl (by (try simp only [List.map_toArray,List.map_cons,List.map_nil]);first|done|(simp only [hji3];rfl)|rfl|(simp only [List.length_drop,List.length_take];rfl)) ?_;(with_reducible refine (Zba.calls _ _ l1_1 (wrap64 (a1_2 - (ji3))) qn _ ?side1 ?side2 A5.o).mono ?_);(case side1=>exact Kd.Zv HR1_1.o pB);(case side2=>exact HC1_1.o);rintro e w21 ⟨jj,rfl,ho0,hb⟩;refine ⟨_,rfl,?_⟩;have qy:=am (Kd.Zt (Kd.Zaj ho0 (Kd.R_lt (Kd.Zc (Kd.Zi (Kd.Zj (p:=⟨qw,2,none⟩) (Kd.Zj (p:=⟨qw,1,none⟩) (Kd.Zg qv.o qg.o (by decide)) (fun _ hk=>hk.2) (.slice qx qu.length qz)) (fun _ hk=>hk.2) (.int .i64 ji3)) (fun _ h_=>h_.1)) pl))) (Zb pB));replace qv:=am (Kd.Zbu (Kd.Zc (Kd.Zi (Kd.Zj (p:=⟨qw,2,none⟩) (Kd.Zj (p:=⟨qw,1,none⟩) (Kd.Zg qv.o qg.o (by decide)) (fun _ hk=>hk.2) (.slice qx qu.length qz)) (fun _ hk=>hk.2) (.int .i64 ji3)) (fun _ h_=>h_.1)) pl) (Kd.Zbh ho0) hb);replace qg:=am (Za (g:=qw) (o:=.cells #[.bool a0_0,.slice qx qu.length qz,.int .i64 ji3] 30 (0,0)) (by refine bp ?_;refine Zab (cs:=#[.bool a0_0,.slice qx qu.length qz,.int .i64 a0_2]) ?_ 2 _ rfl;refine bp ?_;refine Zab (cs:=#[.bool a0_0,.slice A0_1 l0_1.length c0_1,.int .i64 a0_2]) ?_ 1 _ rfl;exact bp qg.o) hb);replace qh:=bfb q1 qh hb;replace ql:=bfb qo ql hb;replace qm:=bfb qq qm hb;replace HB:=bS hb;obtain ⟨qs,qt,q3⟩:=Kd.Zm qy.o;subst q3;obtain ⟨_,_,_,_,_,_⟩:=cEc qh.o))
 have n0_:Aside0 (Kd.R (Kd.int .i64) 3 ((w21.setCell ⟨qi,1,none⟩ (.slice qs qn.length qt)).setCell ⟨qi,2,none⟩ (.int .i64 ji3)) w.heap.size (fun k_=>some k_ ≠ (.slice qs qn.length qt:Value).ownBlock) (.slice qx qu.length qz) qu):=⟨by refine rp ?_;exact Kd.Zi (Kd.Zj (p:=⟨qi,2,none⟩) (Kd.Zj (p:=⟨qi,1,none⟩) (Kd.Zg qv.o qh.o (by decide)) (fun _ hk=>hk.2) (.slice qs qn.length qt)) (fun _ hk=>hk.2) (.int .i64 ji3)) (fun _ hk=>hk.1.2)⟩
 have n1_:Aside0 (Kd.R (Kd.int .i64) 3 ((w21.setCell ⟨qi,1,none⟩ (.slice qs qn.length qt)).setCell ⟨qi,2,none⟩ (.int .i64 ji3)) w.heap.size (fun k_=>some k_ ≠ (.slice qx qu.length qz:Value).ownBlock) (.slice qs qn.length qt) qn):=⟨by refine rp ?_;exact Kd.Zi (Kd.Zj (p:=⟨qi,2,none⟩) (Kd.Zj (p:=⟨qi,1,none⟩) (Kd.Zg qy.o qh.o (by decide)) (fun _ hk=>hk.2) (.slice qs qn.length qt)) (fun _ hk=>hk.2) (.int .i64 ji3)) (fun _ hk=>hk.1.2)⟩
 have n2_:Aside0 (((w21.setCell ⟨qi,1,none⟩ (.slice qs qn.length qt)).setCell ⟨qi,2,none⟩ (.int .i64 ji3)).heap[qw]? = some (.cells #[.bool a0_0,.slice qx qu.length qz,.int .i64 ji3] 30 (0,0))):=⟨bf q0.o qg.o⟩
 have n3_:Aside0 (((w21.setCell ⟨qi,1,none⟩ (.slice qs qn.length qt)).setCell ⟨qi,2,none⟩ (.int .i64 ji3)).heap[qi]? = some (.cells #[.bool a1_0,.slice qs qn.length qt,.int .i64 ji3] 30 (0,0))):=⟨by refine bp ?_;refine Zab (cs:=#[.bool a1_0,.slice qs qn.length qt,.int .i64 a1_2]) ?_ 2 _ rfl;refine bp ?_;refine Zab (cs:=#[.bool a1_0,.slice A1_1 l1_1.length c1_1,.int .i64 a1_2]) ?_ 1 _ rfl;exact bp qh.o⟩
 have n4_:Aside0 (((w21.setCell ⟨qi,1,none⟩ (.slice qs qn.length qt)).setCell ⟨qi,2,none⟩ (.int .i64 ji3)).heap[qe]? = some (.cells #[.bool false,.slice none 0 0,.int .i64 0] 30 (0,0))):=⟨bf qp.o ql.o⟩
 have n5_:Aside0 (((w21.setCell ⟨qi,1,none⟩ (.slice qs qn.length qt)).setCell ⟨qi,2,none⟩ (.int .i64 ji3)).heap[qf]? = some (.cells #[.bool false,.slice none 0 0,.int .i64 0] 30 (0,0))):=⟨bf qr.o qm.o⟩
 have n6_:Aside0 (Below w.heap.size w ((w21.setCell ⟨qi,1,none⟩ (.slice qs qn.length qt)).setCell ⟨qi,2,none⟩ (.int .i64 ji3))):=⟨pB⟩
 generalize ((w21.setCell ⟨qi,1,none⟩ (.slice qs qn.length qt)).setCell ⟨qi,2,none⟩ (.int .i64 ji3))=w24 at n0_ n1_ n2_ n3_ n4_ n5_ n6_ ⊢
 have qv:=n0_
 have qy:=n1_
 have qg:=n2_
 have qh:=n3_
 have ql:=n4_
 have qm:=n5_
 have HB:=n6_
 clear n0_ n1_ n2_ n3_ n4_ n5_ n6_
 replace qv:=am (Kd.Zdz qv.o)
 replace qy:=am (Kd.Zdz qy.o)
 replace qg:=am (Zay qg.o)
 replace qh:=am (Zay qh.o)
 replace ql:=am (Zay ql.o)
 replace qm:=am (Zay qm.o)
 replace HB:=am (Zbe HB.o)
 refine start_ (n:=4) (S:=fun w'=>w'.cell? ⟨qw,0,none⟩=some (.bool a0_0)/\w'.cell? ⟨qw,1,none⟩=some (.slice qx qu.length qz)/\w'.cell? ⟨qw,2,none⟩=some (.int .i64 ji3)/\w'.cell? ⟨qi,0,none⟩=some (.bool a1_0)/\w'.cell? ⟨qi,1,none⟩=some (.slice qs qn.length qt)/\w'.cell? ⟨qi,2,none⟩=some (.int .i64 ji3)) (ds:=[]) #[false,false,false,false] (by kernel_rfl) rfl rfl ⟨k0 qg 0,k0 qg 1,k0 qg 2,k0 qh 0,k0 qh 1,k0 qh 2⟩ (fun hHeld=>?_)
 generalize w24.drew=w25 at qv qy qg qh ql qm HB hHeld ⊢
 refine take_ (i:=0) (N:=some 32) (v:=?_) (a':=?_) #[true,false,false,false] rfl rfl (by kernel_rfl) (fun _ _ _ h=>h) (Or.inl ⟨by rfl,?_⟩) hHeld ?_ ?_
 rotate_left
 ·rintro w' ⟨s0,s1,s2,s3,s4,s5⟩
  go_simp
  with_reducible rfl
 rotate_left
 ·exact pP
 refine take_ (i:=1) (N:=some 33) (v:=?_) (a':=?_) #[true,true,false,false] rfl rfl (by kernel_rfl) (fun _ _ _ h=>h) (Or.inl ⟨by rfl,?_⟩) hHeld ?_ ?_
 rotate_left
 ·rintro w' ⟨s0,s1,s2,s3,s4,s5⟩
  go_simp
  with_reducible rfl
 rotate_left
 ·exact pP
 refine one_ (i:=2) (N:=none) #[true,true,true,false] rfl rfl (by kernel_rfl) (by decide) (fun K hK=>?_)
 have hs26:w25.cell? ⟨qe,0,none⟩=some (.bool false):=k0 ql 0
 have hfs26:=Zaa ql.o 0
 have hns26_0:=qa.o
 have hns26_1:=qc.o
 have hns26_3:=qk.o
 have hms26_0:=qo.o
 have hms26_1:=qp.o
 have hms26_3:=qj.o
 have hs27:w25.cell? ⟨qe,1,none⟩=some (.slice none 0 0):=k0 ql 1
 have hfs27:=Zaa ql.o 1
 have hns27_0:=qa.o
 have hns27_1:=qc.o
 have hns27_3:=qk.o
 have hms27_0:=qo.o
 have hms27_1:=qp.o
 have hms27_3:=qj.o
 have hs28:w25.cell? ⟨qe,2,none⟩=some (.int .i64 0):=k0 ql 2
 have hfs28:=Zaa ql.o 2
 have hns28_0:=qa.o
 have hns28_1:=qc.o
 have hns28_3:=qk.o
 have hms28_0:=qo.o
 have hms28_1:=qp.o
 have hms28_3:=qj.o
 refine skip_ (w1:=?_) (by rfl) rfl ?_ ?_
 rotate_left
 ·go_simp
  rfl
 refine hK.out _ _ ⟨((cell_far (p:=⟨qe,_,none⟩) qa.o _).trans (((cell_far (p:=⟨qe,_,none⟩) qa.o _).trans (((cell_far (p:=⟨qe,_,none⟩) qa.o _).trans (hHeld.1)))))),((cell_far (p:=⟨qe,_,none⟩) qa.o _).trans (((cell_far (p:=⟨qe,_,none⟩) qa.o _).trans (((cell_far (p:=⟨qe,_,none⟩) qa.o _).trans (hHeld.2.1)))))),((cell_far (p:=⟨qe,_,none⟩) qa.o _).trans (((cell_far (p:=⟨qe,_,none⟩) qa.o _).trans (((cell_far (p:=⟨qe,_,none⟩) qa.o _).trans (hHeld.2.2.1)))))),((cell_far (p:=⟨qe,_,none⟩) qc.o _).trans (((cell_far (p:=⟨qe,_,none⟩) qc.o _).trans (((cell_far (p:=⟨qe,_,none⟩) qc.o _).trans (hHeld.2.2.2.1)))))),((cell_far (p:=⟨qe,_,none⟩) qc.o _).trans (((cell_far (p:=⟨qe,_,none⟩) qc.o _).trans (((cell_far (p:=⟨qe,_,none⟩) qc.o _).trans (hHeld.2.2.2.2.1)))))),((cell_far (p:=⟨qe,_,none⟩) qc.o _).trans (((cell_far (p:=⟨qe,_,none⟩) qc.o _).trans (((cell_far (p:=⟨qe,_,none⟩) qc.o _).trans (hHeld.2.2.2.2.2))))))⟩ (fun hHeld=>?_)
 clear hK K
 refine one_ (i:=3) (N:=none) #[true,true,true,true] rfl rfl (by kernel_rfl) (by decide) (fun K hK=>?_)
 have hs29:w25.cell? ⟨qf,0,none⟩=some (.bool false):=k0 qm 0
 have hfs29:=Zaa qm.o 0
 have hns29_0:=qb.o
 have hns29_1:=qd.o
 have hns29_2:=qj.o
 have hms29_0:=qq.o
 have hms29_1:=qr.o
 have hms29_2:=qk.o
 have hs30:w25.cell? ⟨qf,1,none⟩=some (.slice none 0 0):=k0 qm 1
 have hfs30:=Zaa qm.o 1
 have hns30_0:=qb.o
 have hns30_1:=qd.o
 have hns30_2:=qj.o
 have hms30_0:=qq.o
 have hms30_1:=qr.o
 have hms30_2:=qk.o
 have hs31:w25.cell? ⟨qf,2,none⟩=some (.int .i64 0):=k0 qm 2
 have hfs31:=Zaa qm.o 2
 have hns31_0:=qb.o
 have hns31_1:=qd.o
 have hns31_2:=qj.o
 have hms31_0:=qq.o
 have hms31_1:=qr.o
 have hms31_2:=qk.o
 refine skip_ (w1:=?_) (by rfl) rfl ?_ ?_
 rotate_left
 ·go_simp
  rfl
 refine hK.out _ _ ⟨((cell_far (p:=⟨qf,_,none⟩) qb.o _).trans (((cell_far (p:=⟨qf,_,none⟩) qb.o _).trans (((cell_far (p:=⟨qf,_,none⟩) qb.o _).trans (hHeld.1)))))),((cell_far (p:=⟨qf,_,none⟩) qb.o _).trans (((cell_far (p:=⟨qf,_,none⟩) qb.o _).trans (((cell_far (p:=⟨qf,_,none⟩) qb.o _).trans (hHeld.2.1)))))),((cell_far (p:=⟨qf,_,none⟩) qb.o _).trans (((cell_far (p:=⟨qf,_,none⟩) qb.o _).trans (((cell_far (p:=⟨qf,_,none⟩) qb.o _).trans (hHeld.2.2.1)))))),((cell_far (p:=⟨qf,_,none⟩) qd.o _).trans (((cell_far (p:=⟨qf,_,none⟩) qd.o _).trans (((cell_far (p:=⟨qf,_,none⟩) qd.o _).trans (hHeld.2.2.2.1)))))),((cell_far (p:=⟨qf,_,none⟩) qd.o _).trans (((cell_far (p:=⟨qf,_,none⟩) qd.o _).trans (((cell_far (p:=⟨qf,_,none⟩) qd.o _).trans (hHeld.2.2.2.2.1)))))),((cell_far (p:=⟨qf,_,none⟩) qd.o _).trans (((cell_far (p:=⟨qf,_,none⟩) qd.o _).trans (((cell_far (p:=⟨qf,_,none⟩) qd.o _).trans (hHeld.2.2.2.2.2))))))⟩ (fun hHeld=>?_)
 clear hK K
 refine done_ (by kernel_rfl) ?_
 try go_wp2
 refine bodyPost_ret (Zmp rfl _ _ qe qf 30 30 #[.bool a0_0,.slice qx qu.length qz,.int .i64 ji3] #[.bool a1_0,.slice qs qn.length qt,.int .i64 ji3] (0,0) (0,0) _ _ rfl (by refine bq ?_ qj;refine bq ?_ qj;refine bq ?_ qj;exact p3 ql) Tryz.underlying30 rfl (by kernel_rfl) rfl (by refine bp ?_;refine Zab (cs:=#[.bool a1_0,.slice qs qn.length qt,.int .i64 0]) ?_ 2 _ rfl;refine bp ?_;refine Zab (cs:=#[.bool a1_0,.slice none 0 0,.int .i64 0]) ?_ 1 _ rfl;refine bp ?_;refine Zab (cs:=#[.bool false,.slice none 0 0,.int .i64 0]) ?_ 0 _ rfl;refine bq ?_ qk;refine bq ?_ qk;refine bq ?_ qk;exact bp qm.o) Tryz.underlying30 rfl (by kernel_rfl)) rfl ?_
 exact ⟨_,_,by first|rfl|(simp [Za6,Za7] <;> rfl)|(simp only [<- hji3];first|rfl|(simp [Za6,Za7] <;> rfl))|(simp [*,Za6,Za7] <;> rfl),by refine rp ?_;exact Kd.Zi (Kd.Zj (p:=⟨qf,2,none⟩) (Kd.Zj (p:=⟨qf,1,none⟩) (Kd.Zj (p:=⟨qf,0,none⟩) (Kd.Zj (p:=⟨qe,2,none⟩) (Kd.Zj (p:=⟨qe,1,none⟩) (Kd.Zj (p:=⟨qe,0,none⟩) (Kd.Zg (Kd.Zg qv.o ql.o (by decide)) qm.o (by decide)) (fun _ hk=>hk.1.2) (.bool a0_0)) (fun _ hk=>hk.1.2) (.slice qx qu.length qz)) (fun _ hk=>hk.1.2) (.int .i64 ji3)) (fun _ hk=>hk.2) (.bool a1_0)) (fun _ hk=>hk.2) (.slice qs qn.length qt)) (fun _ hk=>hk.2) (.int .i64 ji3)) (fun _ hk=>hk.1.1),by refine rp ?_;exact Kd.Zi (Kd.Zj (p:=⟨qf,2,none⟩) (Kd.Zj (p:=⟨qf,1,none⟩) (Kd.Zj (p:=⟨qf,0,none⟩) (Kd.Zj (p:=⟨qe,2,none⟩) (Kd.Zj (p:=⟨qe,1,none⟩) (Kd.Zj (p:=⟨qe,0,none⟩) (Kd.Zg (Kd.Zg qy.o ql.o (by decide)) qm.o (by decide)) (fun _ hk=>hk.1.2) (.bool a0_0)) (fun _ hk=>hk.1.2) (.slice qx qu.length qz)) (fun _ hk=>hk.1.2) (.int .i64 ji3)) (fun _ hk=>hk.2) (.bool a1_0)) (fun _ hk=>hk.2) (.slice qs qn.length qt)) (fun _ hk=>hk.2) (.int .i64 ji3)) (fun _ hk=>hk.1.1),pB⟩
def Zag.f (k:Nat) (a0_0:Bool) (l0_1:List Int) (a0_2:Int) (a1_0:Bool) (l1_1:List Int) (a1_2:Int):Option (Bool × List Int × Int):=(Zci.f a0_0 l0_1 a0_2 a1_0 l1_1 a1_2).bind fun qf=>(if (qf.1 == qf.2.2.2.1)=true then ((Zs.f k qf.2.1 qf.2.2.2.2.1).bind fun qv=>(some (qf.1,qv,qf.2.2.1))) else ((Zas.f k qf.2.1 qf.2.2.2.2.1).bind fun q3=>(if q3 >= 0 then ((Zac.f k qf.2.1 qf.2.2.2.2.1).bind fun qw=>(some (qf.1,qw,qf.2.2.1))) else ((Zac.f k qf.2.2.2.2.1 qf.2.1).bind fun qx=>(some (qf.2.2.2.1,qx,qf.2.2.1))))))
def Zag.T2:Bool × List (List Nat × List Nat):=(true,[([],[]),([0],[0]),([],[]),([2],[2]),([],[]),([4],[4]),([3,5],[3,5]),([0,1,4,5],[]),([7,1,6,0,1,4,5],[1,7]),([0,1,2,3,4,5,6,7,8],[]),([9,6,8,0,1,2,3,4,5,6,7,8],[6,9])])
def Zag.B2:List Nat:=[0,1,0,4,0,16,60,51,255,511,1023]
theorem Zag.tab2:rtab .any (opsOf Tryz.f77 2)=Zag.T2:=by kernel_rfl
theorem Zag.bits2:waitsOk Zag.T2.2 Zag.B2=true:=by kernel_rfl
theorem Zag.leaf {P:Prop} (h:P:=by
 go_enter Tryz.func77,Tryz.ntmps77
 try go_wp2_with (first|((with_reducible refine gd 2 ?_);refine bx 2 #[.bool a0_0,.slice A0_1 l0_1.length c0_1,.int .i64 a0_2] 30 (h:=?_);intro gb0z hg w1z hbox hb;have BK2z:=am hbox;have GW3z:=gW hg;replace HB:=bS hb;clear hb hbox hg)|((with_reducible refine gd 3 ?_);refine bx 3 #[.bool a1_0,.slice A1_1 l1_1.length c1_1,.int .i64 a1_2] 30 (h:=?_);intro gb5z hg w6z hbox hb;have BK7z:=am hbox;have GW8z:=gW hg;have qq:=nL hg BK2z;have qr:=nG hg BK2z;replace BK2z:=bb BK2z hb;replace HB:=bS hb;clear hb hbox hg)|((with_reducible refine gd 4 ?_);refine bx 4 #[.bool false,.slice none 0 0,.int .i64 0] 30 (h:=?_);intro qp hg w13z hbox hb;have ql:=am hbox;have jr:=gW hg;have q1:=nL hg BK2z;have qo:=nG hg BK2z;have ji:=nL hg BK7z;have qs:=nG hg BK7z;replace BK2z:=bb BK2z hb;replace BK7z:=bb BK7z hb;replace HB:=bS hb;clear hb hbox hg;have jl:=qq.o;have jo:=qr.o;have jm:=q1.o;have jp:=qo.o;obtain ⟨_,_,_,_,_,_⟩:=cEc BK2z.o;have jn:=ji.o;have jq:=qs.o;obtain ⟨_,_,_,_,_,_⟩:=cEc BK7z.o)|(refine gL (some 8) Tryz.func133 #[.agg #[.bool a0_0,.slice A0_1 l0_1.length c0_1,.int .i64 a0_2],.agg #[.bool a1_0,.slice A1_1 l1_1.length c1_1,.int .i64 a1_2]] (h:=?_);(with_reducible refine (Zci.calls a0_0 _ _ l0_1 a0_2 a1_0 _ _ l1_1 a1_2 qi qg qm qh qe qn _ ?side1 ?side2 ?side3 ?side4 A3.o).mono ?_);(case side1=>exact cB HR0_1 HB);(case side2=>exact HC0_1.o);(case side3=>exact cB HR1_1 HB);(case side4=>exact HC1_1.o);rintro e w39z ⟨v40z,v41z,rfl,ho42z,ho43z,hb⟩;refine ⟨_,rfl,?_⟩;have qj:=am (Kd.Zt ho42z (Zb pB));have qk:=am (Kd.Zt ho43z (Zb pB));replace BK2z:=bb BK2z hb;replace BK7z:=bb BK7z hb;replace ql:=bb ql hb;replace HB:=bS hb;obtain ⟨_,_,_,_,_,_⟩:=cEc BK2z.o;obtain ⟨qd,qb,jj⟩:=Kd.Zm qj.o;subst jj;obtain ⟨_,_,_,_,_,_⟩:=cEc BK7z.o;obtain ⟨qc,qa,jk⟩:=Kd.Zm qk.o;subst jk)|(refine gL (some 37) Tryz.func94 #[.slice qd qg.length qb,.slice qc qe.length qa] (h:=?_);(with_reducible refine (Zas.calls k _ _ qg _ _ qe q3 _ ?side1 ?side2 ?side3 ?side4 A23.o).mono ?_);(case side1=>refine (Kd.Zf (e:=3) (base:=w.heap.size) (ok:=fun k_=>some k_ ≠ (.slice qc qe.length qa:Value).ownBlock) (n:=qg.length) (c:=qb) ?_).2.2;exact (Kd.Zc (Kd.Zi (Kd.Zi (Kd.Zj (p:=⟨gb5z,2,none⟩) (Kd.Zj (p:=⟨gb5z,1,none⟩) (Kd.Zj (p:=⟨gb5z,0,none⟩) (Kd.Zj (p:=⟨gb0z,2,none⟩) (Kd.Zj (p:=⟨gb0z,1,none⟩) (Kd.Zj (p:=⟨gb0z,0,none⟩) (Kd.Zg (Kd.Zg qj.o BK2z.o (by decide)) BK7z.o (by decide)) (fun _ hk=>hk.1.2) (.bool qi)) (fun _ hk=>hk.1.2) (.slice qd qg.length qb)) (fun _ hk=>hk.1.2) (.int .i64 qm)) (fun _ hk=>hk.2) (.bool qh)) (fun _ hk=>hk.2) (.slice qc qe.length qa)) (fun _ hk=>hk.2) (.int .i64 qn)) (fun _ h_=>h_.1)) (fun _ h_=>h_.1)) pl));(case side2=>exact (Kd.Zf qj.o).2.1);(case side3=>refine (Kd.Zf (e:=3) (base:=w.heap.size) (ok:=fun k_=>some k_ ≠ (.slice qd qg.length qb:Value).ownBlock) (n:=qe.length) (c:=qa) ?_).2.2;exact (Kd.Zc (Kd.Zi (Kd.Zi (Kd.Zj (p:=⟨gb5z,2,none⟩) (Kd.Zj (p:=⟨gb5z,1,none⟩) (Kd.Zj (p:=⟨gb5z,0,none⟩) (Kd.Zj (p:=⟨gb0z,2,none⟩) (Kd.Zj (p:=⟨gb0z,1,none⟩) (Kd.Zj (p:=⟨gb0z,0,none⟩) (Kd.Zg (Kd.Zg qk.o BK2z.o (by decide)) BK7z.o (by decide)) (fun _ hk=>hk.1.2) (.bool qi)) (fun _ hk=>hk.1.2) (.slice qd qg.length qb)) (fun _ hk=>hk.1.2) (.int .i64 qm)) (fun _ hk=>hk.2) (.bool qh)) (fun _ hk=>hk.2) (.slice qc qe.length qa)) (fun _ hk=>hk.2) (.int .i64 qn)) (fun _ h_=>h_.1)) (fun _ h_=>h_.1)) pl));(case side4=>exact (Kd.Zf qk.o).2.1);rintro e w' ⟨rfl,⟨nd,rfl⟩⟩;refine ⟨_,rfl,?_⟩)|(refine gL (some 43) Tryz.func134 #[.slice qd qg.length qb,.slice qc qe.length qa] (h:=?_);(with_reducible refine (Zac.calls k _ _ qg _ _ qe qw _ ?side1 ?side2 ?side3 ?side4 A25.o).mono ?_);(case side1=>refine (Kd.Zf (e:=3) (base:=w.heap.size) (ok:=fun k_=>some k_ ≠ (.slice qc qe.length qa:Value).ownBlock) (n:=qg.length) (c:=qb) ?_).2.2;exact (Kd.Zc (Kd.Zi (Kd.Zi (Kd.Zj (p:=⟨gb5z,2,none⟩) (Kd.Zj (p:=⟨gb5z,1,none⟩) (Kd.Zj (p:=⟨gb5z,0,none⟩) (Kd.Zj (p:=⟨gb0z,2,none⟩) (Kd.Zj (p:=⟨gb0z,1,none⟩) (Kd.Zj (p:=⟨gb0z,0,none⟩) (Kd.Zg (Kd.Zg qj.o BK2z.o (by decide)) BK7z.o (by decide)) (fun _ hk=>hk.1.2) (.bool qi)) (fun _ hk=>hk.1.2) (.slice qd qg.length qb)) (fun _ hk=>hk.1.2) (.int .i64 qm)) (fun _ hk=>hk.2) (.bool qh)) (fun _ hk=>hk.2) (.slice qc qe.length qa)) (fun _ hk=>hk.2) (.int .i64 qn)) (fun _ h_=>h_.1)) (fun _ h_=>h_.1)) pl));(case side2=>exact (Kd.Zf qj.o).2.1);(case side3=>refine (Kd.Zf (e:=3) (base:=w.heap.size) (ok:=fun k_=>some k_ ≠ (.slice qd qg.length qb:Value).ownBlock) (n:=qe.length) (c:=qa) ?_).2.2;exact (Kd.Zc (Kd.Zi (Kd.Zi (Kd.Zj (p:=⟨gb5z,2,none⟩) (Kd.Zj (p:=⟨gb5z,1,none⟩) (Kd.Zj (p:=⟨gb5z,0,none⟩) (Kd.Zj (p:=⟨gb0z,2,none⟩) (Kd.Zj (p:=⟨gb0z,1,none⟩) (Kd.Zj (p:=⟨gb0z,0,none⟩) (Kd.Zg (Kd.Zg qk.o BK2z.o (by decide)) BK7z.o (by decide)) (fun _ hk=>hk.1.2) (.bool qi)) (fun _ hk=>hk.1.2) (.slice qd qg.length qb)) (fun _ hk=>hk.1.2) (.int .i64 qm)) (fun _ hk=>hk.2) (.bool qh)) (fun _ hk=>hk.2) (.slice qc qe.length qa)) (fun _ hk=>hk.2) (.int .i64 qn)) (fun _ h_=>h_.1)) (fun _ h_=>h_.1)) pl));(case side4=>exact (Kd.Zf qk.o).2.1);rintro e w64z ⟨v65z,rfl,ho42z,hb⟩;refine ⟨_,rfl,?_⟩;have qy:=am (Kd.Zt (Kd.Zaj (Kd.Zaj ho42z (Kd.R_lt (Kd.Zc (Kd.Zi (Kd.Zi (Kd.Zj (p:=⟨gb5z,2,none⟩) (Kd.Zj (p:=⟨gb5z,1,none⟩) (Kd.Zj (p:=⟨gb5z,0,none⟩) (Kd.Zj (p:=⟨gb0z,2,none⟩) (Kd.Zj (p:=⟨gb0z,1,none⟩) (Kd.Zj (p:=⟨gb0z,0,none⟩) (Kd.Zg (Kd.Zg qj.o BK2z.o (by decide)) BK7z.o (by decide)) (fun _ hk=>hk.1.2) (.bool qi)) (fun _ hk=>hk.1.2) (.slice qd qg.length qb)) (fun _ hk=>hk.1.2) (.int .i64 qm)) (fun _ hk=>hk.2) (.bool qh)) (fun _ hk=>hk.2) (.slice qc qe.length qa)) (fun _ hk=>hk.2) (.int .i64 qn)) (fun _ h_=>h_.1)) (fun _ h_=>h_.1)) pl))) (Kd.R_lt (Kd.Zc (Kd.Zi (Kd.Zi (Kd.Zj (p:=⟨gb5z,2,none⟩) (Kd.Zj (p:=⟨gb5z,1,none⟩) (Kd.Zj (p:=⟨gb5z,0,none⟩) (Kd.Zj (p:=⟨gb0z,2,none⟩) (Kd.Zj (p:=⟨gb0z,1,none⟩) (Kd.Zj (p:=⟨gb0z,0,none⟩) (Kd.Zg (Kd.Zg qk.o BK2z.o (by decide)) BK7z.o (by decide)) (fun _ hk=>hk.1.2) (.bool qi)) (fun _ hk=>hk.1.2) (.slice qd qg.length qb)) (fun _ hk=>hk.1.2) (.int .i64 qm)) (fun _ hk=>hk.2) (.bool qh)) (fun _ hk=>hk.2) (.slice qc qe.length qa)) (fun _ hk=>hk.2) (.int .i64 qn)) (fun _ h_=>h_.1)) (fun _ h_=>h_.1)) pl))) (Zb pB));replace qj:=am (Kd.Zbu (Kd.Zc (Kd.Zi (Kd.Zi (Kd.Zj (p:=⟨gb5z,2,none⟩) (Kd.Zj (p:=⟨gb5z,1,none⟩) (Kd.Zj (p:=⟨gb5z,0,none⟩) (Kd.Zj (p:=⟨gb0z,2,none⟩) (Kd.Zj (p:=⟨gb0z,1,none⟩) (Kd.Zj (p:=⟨gb0z,0,none⟩) (Kd.Zg (Kd.Zg qj.o BK2z.o (by decide)) BK7z.o (by decide)) (fun _ hk=>hk.1.2) (.bool qi)) (fun _ hk=>hk.1.2) (.slice qd qg.length qb)) (fun _ hk=>hk.1.2) (.int .i64 qm)) (fun _ hk=>hk.2) (.bool qh)) (fun _ hk=>hk.2) (.slice qc qe.length qa)) (fun _ hk=>hk.2) (.int .i64 qn)) (fun _ h_=>h_.1)) (fun _ h_=>h_.1)) pl) (Kd.Zbh ho42z) hb);replace qk:=am (Kd.Zbu (Kd.Zc (Kd.Zi (Kd.Zi (Kd.Zj (p:=⟨gb5z,2,none⟩) (Kd.Zj (p:=⟨gb5z,1,none⟩) (Kd.Zj (p:=⟨gb5z,0,none⟩) (Kd.Zj (p:=⟨gb0z,2,none⟩) (Kd.Zj (p:=⟨gb0z,1,none⟩) (Kd.Zj (p:=⟨gb0z,0,none⟩) (Kd.Zg (Kd.Zg qk.o BK2z.o (by decide)) BK7z.o (by decide)) (fun _ hk=>hk.1.2) (.bool qi)) (fun _ hk=>hk.1.2) (.slice qd qg.length qb)) (fun _ hk=>hk.1.2) (.int .i64 qm)) (fun _ hk=>hk.2) (.bool qh)) (fun _ hk=>hk.2) (.slice qc qe.length qa)) (fun _ hk=>hk.2) (.int .i64 qn)) (fun _ h_=>h_.1)) (fun _ h_=>h_.1)) pl) (Kd.Zbh ho42z) hb);replace BK2z:=am (Za (g:=gb0z) (o:=.cells #[.bool qi,.slice qd qg.length qb,.int .i64 qm] 30 (0,0)) (by refine bq ?_ qq;refine bq ?_ qq;refine bq ?_ qq;exact p3 BK2z) hb);replace BK7z:=am (Za (g:=gb5z) (o:=.cells #[.bool qh,.slice qc qe.length qa,.int .i64 qn] 30 (0,0)) (by refine bp ?_;refine Zab (cs:=#[.bool qh,.slice qc qe.length qa,.int .i64 a1_2]) ?_ 2 _ rfl;refine bp ?_;refine Zab (cs:=#[.bool qh,.slice A1_1 l1_1.length c1_1,.int .i64 a1_2]) ?_ 1 _ rfl;refine bp ?_;refine Zab (cs:=#[.bool a1_0,.slice A1_1 l1_1.length c1_1,.int .i64 a1_2]) ?_ 0 _ rfl;refine bq ?_ qr;refine bq ?_ qr;refine bq ?_ qr;exact bp BK7z.o) hb);replace ql:=am (Za (g:=qp) (o:=.cells #[.bool false,.slice none 0 0,.int .i64 0] 30 (0,0)) (by refine bq ?_ qs;refine bq ?_ qs;refine bq ?_ qs;refine bq ?_ qo;refine bq ?_ qo;refine bq ?_ qo;exact bp ql.o) hb);replace HB:=bS hb;obtain ⟨qt,qu,q2⟩:=Kd.Zm qy.o;subst q2;obtain ⟨q6,q7,q8,jc,jd,je⟩:=cEc BK2z.o;obtain ⟨q9,ja,jb,jf,jg,jh⟩:=cEc ql.o)|(refine gL (some 30) Tryz.func85 #[.slice qd qg.length qb,.slice qc qe.length qa] (h:=?_);(with_reducible refine (Zs.calls k _ _ qg _ _ qe qv _ ?side1 ?side2 ?side3 ?side4 A5.o).mono ?_);(case side1=>refine (Kd.Zf (e:=3) (base:=w.heap.size) (ok:=fun k_=>some k_ ≠ (.slice qc qe.length qa:Value).ownBlock) (n:=qg.length) (c:=qb) ?_).2.2;exact (Kd.Zc (Kd.Zi (Kd.Zi (Kd.Zj (p:=⟨gb5z,2,none⟩) (Kd.Zj (p:=⟨gb5z,1,none⟩) (Kd.Zj (p:=⟨gb5z,0,none⟩) (Kd.Zj (p:=⟨gb0z,2,none⟩) (Kd.Zj (p:=⟨gb0z,1,none⟩) (Kd.Zj (p:=⟨gb0z,0,none⟩) (Kd.Zg (Kd.Zg qj.o BK2z.o (by decide)) BK7z.o (by decide)) (fun _ hk=>hk.1.2) (.bool qi)) (fun _ hk=>hk.1.2) (.slice qd qg.length qb)) (fun _ hk=>hk.1.2) (.int .i64 qm)) (fun _ hk=>hk.2) (.bool qh)) (fun _ hk=>hk.2) (.slice qc qe.length qa)) (fun _ hk=>hk.2) (.int .i64 qn)) (fun _ h_=>h_.1)) (fun _ h_=>h_.1)) pl));(case side2=>exact (Kd.Zf qj.o).2.1);(case side3=>refine (Kd.Zf (e:=3) (base:=w.heap.size) (ok:=fun k_=>some k_ ≠ (.slice qd qg.length qb:Value).ownBlock) (n:=qe.length) (c:=qa) ?_).2.2;exact (Kd.Zc (Kd.Zi (Kd.Zi (Kd.Zj (p:=⟨gb5z,2,none⟩) (Kd.Zj (p:=⟨gb5z,1,none⟩) (Kd.Zj (p:=⟨gb5z,0,none⟩) (Kd.Zj (p:=⟨gb0z,2,none⟩) (Kd.Zj (p:=⟨gb0z,1,none⟩) (Kd.Zj (p:=⟨gb0z,0,none⟩) (Kd.Zg (Kd.Zg qk.o BK2z.o (by decide)) BK7z.o (by decide)) (fun _ hk=>hk.1.2) (.bool qi)) (fun _ hk=>hk.1.2) (.slice qd qg.length qb)) (fun _ hk=>hk.1.2) (.int .i64 qm)) (fun _ hk=>hk.2) (.bool qh)) (fun _ hk=>hk.2) (.slice qc qe.length qa)) (fun _ hk=>hk.2) (.int .i64 qn)) (fun _ h_=>h_.1)) (fun _ h_=>h_.1)) pl));(case side4=>exact (Kd.Zf qk.o).2.1);rintro e w64z ⟨v65z,rfl,ho42z,hb⟩;refine ⟨_,rfl,?_⟩;have qy:=am (Kd.Zt (Kd.Zaj (Kd.Zaj ho42z (Kd.R_lt (Kd.Zc (Kd.Zi (Kd.Zi (Kd.Zj (p:=⟨gb5z,2,none⟩) (Kd.Zj (p:=⟨gb5z,1,none⟩) (Kd.Zj (p:=⟨gb5z,0,none⟩) (Kd.Zj (p:=⟨gb0z,2,none⟩) (Kd.Zj (p:=⟨gb0z,1,none⟩) (Kd.Zj (p:=⟨gb0z,0,none⟩) (Kd.Zg (Kd.Zg qj.o BK2z.o (by decide)) BK7z.o (by decide)) (fun _ hk=>hk.1.2) (.bool qi)) (fun _ hk=>hk.1.2) (.slice qd qg.length qb)) (fun _ hk=>hk.1.2) (.int .i64 qm)) (fun _ hk=>hk.2) (.bool qh)) (fun _ hk=>hk.2) (.slice qc qe.length qa)) (fun _ hk=>hk.2) (.int .i64 qn)) (fun _ h_=>h_.1)) (fun _ h_=>h_.1)) pl))) (Kd.R_lt (Kd.Zc (Kd.Zi (Kd.Zi (Kd.Zj (p:=⟨gb5z,2,none⟩) (Kd.Zj (p:=⟨gb5z,1,none⟩) (Kd.Zj (p:=⟨gb5z,0,none⟩) (Kd.Zj (p:=⟨gb0z,2,none⟩) (Kd.Zj (p:=⟨gb0z,1,none⟩) (Kd.Zj (p:=⟨gb0z,0,none⟩) (Kd.Zg (Kd.Zg qk.o BK2z.o (by decide)) BK7z.o (by decide)) (fun _ hk=>hk.1.2) (.bool qi)) (fun _ hk=>hk.1.2) (.slice qd qg.length qb)) (fun _ hk=>hk.1.2) (.int .i64 qm)) (fun _ hk=>hk.2) (.bool qh)) (fun _ hk=>hk.2) (.slice qc qe.length qa)) (fun _ hk=>hk.2) (.int .i64 qn)) (fun _ h_=>h_.1)) (fun _ h_=>h_.1)) pl))) (Zb pB));replace qj:=am (Kd.Zbu (Kd.Zc (Kd.Zi (Kd.Zi (Kd.Zj (p:=⟨gb5z,2,none⟩) (Kd.Zj (p:=⟨gb5z,1,none⟩) (Kd.Zj (p:=⟨gb5z,0,none⟩) (Kd.Zj (p:=⟨gb0z,2,none⟩) (Kd.Zj (p:=⟨gb0z,1,none⟩) (Kd.Zj (p:=⟨gb0z,0,none⟩) (Kd.Zg (Kd.Zg qj.o BK2z.o (by decide)) BK7z.o (by decide)) (fun _ hk=>hk.1.2) (.bool qi)) (fun _ hk=>hk.1.2) (.slice qd qg.length qb)) (fun _ hk=>hk.1.2) (.int .i64 qm)) (fun _ hk=>hk.2) (.bool qh)) (fun _ hk=>hk.2) (.slice qc qe.length qa)) (fun _ hk=>hk.2) (.int .i64 qn)) (fun _ h_=>h_.1)) (fun _ h_=>h_.1)) pl) (Kd.Zbh ho42z) hb);replace qk:=am (Kd.Zbu (Kd.Zc (Kd.Zi (Kd.Zi (Kd.Zj (p:=⟨gb5z,2,none⟩) (Kd.Zj (p:=⟨gb5z,1,none⟩) (Kd.Zj (p:=⟨gb5z,0,none⟩) (Kd.Zj (p:=⟨gb0z,2,none⟩) (Kd.Zj (p:=⟨gb0z,1,none⟩) (Kd.Zj (p:=⟨gb0z,0,none⟩) (Kd.Zg (Kd.Zg qk.o BK2z.o (by decide)) BK7z.o (by decide)) (fun _ hk=>hk.1.2) (.bool qi)) (fun _ hk=>hk.1.2) (.slice qd qg.length qb)) (fun _ hk=>hk.1.2) (.int .i64 qm)) (fun _ hk=>hk.2) (.bool qh)) (fun _ hk=>hk.2) (.slice qc qe.length qa)) (fun _ hk=>hk.2) (.int .i64 qn)) (fun _ h_=>h_.1)) (fun _ h_=>h_.1)) pl) (Kd.Zbh ho42z) hb);replace BK2z:=am (Za (g:=gb0z) (o:=.cells #[.bool qi,.slice qd qg.length qb,.int .i64 qm] 30 (0,0)) (by refine bq ?_ qq;refine bq ?_ qq;refine bq ?_ qq;exact p3 BK2z) hb);replace BK7z:=am (Za (g:=gb5z) (o:=.cells #[.bool qh,.slice qc qe.length qa,.int .i64 qn] 30 (0,0)) (by refine bp ?_;refine Zab (cs:=#[.bool qh,.slice qc qe.length qa,.int .i64 a1_2]) ?_ 2 _ rfl;refine bp ?_;refine Zab (cs:=#[.bool qh,.slice A1_1 l1_1.length c1_1,.int .i64 a1_2]) ?_ 1 _ rfl;refine bp ?_;refine Zab (cs:=#[.bool a1_0,.slice A1_1 l1_1.length c1_1,.int .i64 a1_2]) ?_ 0 _ rfl;refine bq ?_ qr;refine bq ?_ qr;refine bq ?_ qr;exact bp BK7z.o) hb);replace ql:=am (Za (g:=qp) (o:=.cells #[.bool false,.slice none 0 0,.int .i64 0] 30 (0,0)) (by refine bq ?_ qs;refine bq ?_ qs;refine bq ?_ qs;refine bq ?_ qo;refine bq ?_ qo;refine bq ?_ qo;exact bp ql.o) hb);replace HB:=bS hb;obtain ⟨qt,qu,q2⟩:=Kd.Zm qy.o;subst q2;obtain ⟨q6,q7,q8,jc,jd,je⟩:=cEc BK2z.o;obtain ⟨q9,ja,jb,jf,jg,jh⟩:=cEc ql.o))
 first
  | have q_:=A25
    refine bodyPost_ret (results_cell_row rfl _ _ qp 30 #[.bool qi,.slice qt qw.length qu,.int .i64 qm] (0,0) _ rfl (by refine bp ?_;refine Zab (cs:=#[.bool qi,.slice qt qw.length qu,.int .i64 0]) ?_ 2 _ rfl;refine bp ?_;refine Zab (cs:=#[.bool qi,.slice none 0 0,.int .i64 0]) ?_ 1 _ rfl;refine bp ?_;refine Zab (cs:=#[.bool false,.slice none 0 0,.int .i64 0]) ?_ 0 _ rfl;refine bq ?_ qo;exact bp ql.o) Tryz.underlying30 rfl (by kernel_rfl)) rfl ?_
    exact ⟨_,pE,by refine rp ?_;exact Kd.Zi (Kd.Zj (p:=⟨qp,2,none⟩) (Kd.Zj (p:=⟨qp,1,none⟩) (Kd.Zj (p:=⟨qp,0,none⟩) (Kd.Zj (p:=⟨gb0z,1,none⟩) (Kd.Zg (Kd.Zg qy.o BK2z.o (by decide)) ql.o (by decide)) (fun _ hk=>hk.1.2) (.slice qt qw.length qu)) (fun _ hk=>hk.2) (.bool qi)) (fun _ hk=>hk.2) (.slice qt qw.length qu)) (fun _ hk=>hk.2) (.int .i64 qm)) (fun _ hk=>trivial),pB⟩
  | have q_:=A43
    have n0_:Aside0 (Kd.R (Kd.int .i64) 3 ((((((w39z.setCell ⟨gb0z,0,none⟩ (.bool qi)).setCell ⟨gb0z,1,none⟩ (.slice qd qg.length qb)).setCell ⟨gb0z,2,none⟩ (.int .i64 qm)).setCell ⟨gb5z,0,none⟩ (.bool qh)).setCell ⟨gb5z,1,none⟩ (.slice qc qe.length qa)).setCell ⟨gb5z,2,none⟩ (.int .i64 qn)) w.heap.size (fun k_=>some k_ ≠ (.slice qc qe.length qa:Value).ownBlock) (.slice qd qg.length qb) qg):=⟨by refine rp ?_;exact Kd.Zi (Kd.Zj (p:=⟨gb5z,2,none⟩) (Kd.Zj (p:=⟨gb5z,1,none⟩) (Kd.Zj (p:=⟨gb5z,0,none⟩) (Kd.Zj (p:=⟨gb0z,2,none⟩) (Kd.Zj (p:=⟨gb0z,1,none⟩) (Kd.Zj (p:=⟨gb0z,0,none⟩) (Kd.Zg (Kd.Zg qj.o BK2z.o (by decide)) BK7z.o (by decide)) (fun _ hk=>hk.1.2) (.bool qi)) (fun _ hk=>hk.1.2) (.slice qd qg.length qb)) (fun _ hk=>hk.1.2) (.int .i64 qm)) (fun _ hk=>hk.2) (.bool qh)) (fun _ hk=>hk.2) (.slice qc qe.length qa)) (fun _ hk=>hk.2) (.int .i64 qn)) (fun _ hk=>hk.1.1)⟩
    have n1_:Aside0 (Kd.R (Kd.int .i64) 3 ((((((w39z.setCell ⟨gb0z,0,none⟩ (.bool qi)).setCell ⟨gb0z,1,none⟩ (.slice qd qg.length qb)).setCell ⟨gb0z,2,none⟩ (.int .i64 qm)).setCell ⟨gb5z,0,none⟩ (.bool qh)).setCell ⟨gb5z,1,none⟩ (.slice qc qe.length qa)).setCell ⟨gb5z,2,none⟩ (.int .i64 qn)) w.heap.size (fun k_=>some k_ ≠ (.slice qd qg.length qb:Value).ownBlock) (.slice qc qe.length qa) qe):=⟨by refine rp ?_;exact Kd.Zi (Kd.Zj (p:=⟨gb5z,2,none⟩) (Kd.Zj (p:=⟨gb5z,1,none⟩) (Kd.Zj (p:=⟨gb5z,0,none⟩) (Kd.Zj (p:=⟨gb0z,2,none⟩) (Kd.Zj (p:=⟨gb0z,1,none⟩) (Kd.Zj (p:=⟨gb0z,0,none⟩) (Kd.Zg (Kd.Zg qk.o BK2z.o (by decide)) BK7z.o (by decide)) (fun _ hk=>hk.1.2) (.bool qi)) (fun _ hk=>hk.1.2) (.slice qd qg.length qb)) (fun _ hk=>hk.1.2) (.int .i64 qm)) (fun _ hk=>hk.2) (.bool qh)) (fun _ hk=>hk.2) (.slice qc qe.length qa)) (fun _ hk=>hk.2) (.int .i64 qn)) (fun _ hk=>hk.1.1)⟩
    have n2_:Aside0 (((((((w39z.setCell ⟨gb0z,0,none⟩ (.bool qi)).setCell ⟨gb0z,1,none⟩ (.slice qd qg.length qb)).setCell ⟨gb0z,2,none⟩ (.int .i64 qm)).setCell ⟨gb5z,0,none⟩ (.bool qh)).setCell ⟨gb5z,1,none⟩ (.slice qc qe.length qa)).setCell ⟨gb5z,2,none⟩ (.int .i64 qn)).heap[gb0z]? = some (.cells #[.bool qi,.slice qd qg.length qb,.int .i64 qm] 30 (0,0))):=⟨by refine bq ?_ qq;refine bq ?_ qq;refine bq ?_ qq;exact p3 BK2z⟩
    have n3_:Aside0 (((((((w39z.setCell ⟨gb0z,0,none⟩ (.bool qi)).setCell ⟨gb0z,1,none⟩ (.slice qd qg.length qb)).setCell ⟨gb0z,2,none⟩ (.int .i64 qm)).setCell ⟨gb5z,0,none⟩ (.bool qh)).setCell ⟨gb5z,1,none⟩ (.slice qc qe.length qa)).setCell ⟨gb5z,2,none⟩ (.int .i64 qn)).heap[gb5z]? = some (.cells #[.bool qh,.slice qc qe.length qa,.int .i64 qn] 30 (0,0))):=⟨by refine bp ?_;refine Zab (cs:=#[.bool qh,.slice qc qe.length qa,.int .i64 a1_2]) ?_ 2 _ rfl;refine bp ?_;refine Zab (cs:=#[.bool qh,.slice A1_1 l1_1.length c1_1,.int .i64 a1_2]) ?_ 1 _ rfl;refine bp ?_;refine Zab (cs:=#[.bool a1_0,.slice A1_1 l1_1.length c1_1,.int .i64 a1_2]) ?_ 0 _ rfl;refine bq ?_ qr;refine bq ?_ qr;refine bq ?_ qr;exact bp BK7z.o⟩
    have n4_:Aside0 (((((((w39z.setCell ⟨gb0z,0,none⟩ (.bool qi)).setCell ⟨gb0z,1,none⟩ (.slice qd qg.length qb)).setCell ⟨gb0z,2,none⟩ (.int .i64 qm)).setCell ⟨gb5z,0,none⟩ (.bool qh)).setCell ⟨gb5z,1,none⟩ (.slice qc qe.length qa)).setCell ⟨gb5z,2,none⟩ (.int .i64 qn)).heap[qp]? = some (.cells #[.bool false,.slice none 0 0,.int .i64 0] 30 (0,0))):=⟨by refine bq ?_ qs;refine bq ?_ qs;refine bq ?_ qs;refine bq ?_ qo;refine bq ?_ qo;refine bq ?_ qo;exact bp ql.o⟩
    have n5_:Aside0 (Below w.heap.size w ((((((w39z.setCell ⟨gb0z,0,none⟩ (.bool qi)).setCell ⟨gb0z,1,none⟩ (.slice qd qg.length qb)).setCell ⟨gb0z,2,none⟩ (.int .i64 qm)).setCell ⟨gb5z,0,none⟩ (.bool qh)).setCell ⟨gb5z,1,none⟩ (.slice qc qe.length qa)).setCell ⟨gb5z,2,none⟩ (.int .i64 qn))):=⟨pB⟩
    generalize ((((((w39z.setCell ⟨gb0z,0,none⟩ (.bool qi)).setCell ⟨gb0z,1,none⟩ (.slice qd qg.length qb)).setCell ⟨gb0z,2,none⟩ (.int .i64 qm)).setCell ⟨gb5z,0,none⟩ (.bool qh)).setCell ⟨gb5z,1,none⟩ (.slice qc qe.length qa)).setCell ⟨gb5z,2,none⟩ (.int .i64 qn))=w64z at n0_ n1_ n2_ n3_ n4_ n5_ ⊢
    have qj:=n0_
    have qk:=n1_
    have BK2z:=n2_
    have BK7z:=n3_
    have ql:=n4_
    have HB:=n5_
    clear n0_ n1_ n2_ n3_ n4_ n5_
    (try (rw [Zig w64z];generalize hq_:World.drewN w64z _=w64z;replace qj:Aside0 (Kd.R (Kd.int .i64) 3 w64z w.heap.size (fun k_=>some k_ ≠ (.slice qc qe.length qa:Value).ownBlock) (.slice qd qg.length qb) qg):=⟨by rw [<- hq_];exact (Kd.Zc qj.o pl)⟩;replace qk:Aside0 (Kd.R (Kd.int .i64) 3 w64z w.heap.size (fun k_=>some k_ ≠ (.slice qd qg.length qb:Value).ownBlock) (.slice qc qe.length qa) qe):=⟨by rw [<- hq_];exact (Kd.Zc qk.o pl)⟩;replace BK2z:Aside0 (w64z.heap[gb0z]? = some (.cells #[.bool qi,.slice qd qg.length qb,.int .i64 qm] 30 (0,0))):=⟨by rw [<- hq_];exact (Za BK2z.o pl)⟩;replace BK7z:Aside0 (w64z.heap[gb5z]? = some (.cells #[.bool qh,.slice qc qe.length qa,.int .i64 qn] 30 (0,0))):=⟨by rw [<- hq_];exact (Za BK7z.o pl)⟩;replace ql:Aside0 (w64z.heap[qp]? = some (.cells #[.bool false,.slice none 0 0,.int .i64 0] 30 (0,0))):=⟨by rw [<- hq_];exact (Za ql.o pl)⟩;replace HB:Aside0 (Below w.heap.size w w64z):=⟨by rw [<- hq_];exact pB⟩;clear hq_))
    replace qj:=am (Kd.Zdz qj.o)
    replace qk:=am (Kd.Zdz qk.o)
    replace BK2z:=am (Zay BK2z.o)
    replace BK7z:=am (Zay BK7z.o)
    replace ql:=am (Zay ql.o)
    replace HB:=am (Zbe HB.o)
    refine start_ (n:=11) (S:=fun w'=>w'.cell? ⟨gb5z,0,none⟩=some (.bool qh)/\w'.cell? ⟨gb5z,1,none⟩=some (.slice qc qe.length qa)/\w'.cell? ⟨gb5z,2,none⟩=some (.int .i64 qn)/\w'.cell? ⟨gb0z,0,none⟩=some (.bool qi)/\w'.cell? ⟨gb0z,1,none⟩=some (.slice qd qg.length qb)/\w'.cell? ⟨gb0z,2,none⟩=some (.int .i64 qm)) (ds:=[8,10]) #[false,false,false,false,false,false,false,false,false,false,false] (by kernel_rfl) rfl rfl ⟨k0 BK7z 0,k0 BK7z 1,k0 BK7z 2,k0 BK2z 0,k0 BK2z 1,k0 BK2z 2⟩ (fun hHeld=>?_);refine Zch Zag.tab2 Zag.bits2 (fun HT_ HW_=>?_)
    generalize w64z.drew=w65z at qj qk BK2z BK7z ql HB hHeld ⊢
    refine pu 0 (some 11) #[true,false,false,false,false,false,false,false,false,false,false] (h:=?_)
    refine pu 2 (some 13) #[true,false,true,false,false,false,false,false,false,false,false] (h:=?_)
    refine pu 4 (some 15) #[true,false,true,false,true,false,false,false,false,false,false] (h:=?_)
    refine take_ (i:=1) (N:=some 12) (v:=?_) (a':=?_) #[true,true,true,false,true,false,false,false,false,false,false] rfl rfl (Za3 HT_.out HW_.out (by kernel_rfl)) (fun _ _ _ h=>h) (Or.inl ⟨by rfl,?_⟩) hHeld ?_ ?_
    rotate_left
    ·rintro w' ⟨s66z,s67z,s68z,s69z,s70z,s71z⟩
     go_simp
     with_reducible rfl
    rotate_left
    ·exact pP
    refine take_ (i:=3) (N:=some 14) (v:=?_) (a':=?_) #[true,true,true,true,true,false,false,false,false,false,false] rfl rfl (Za3 HT_.out HW_.out (by kernel_rfl)) (fun _ _ _ h=>h) (Or.inl ⟨by rfl,?_⟩) hHeld ?_ ?_
    rotate_left
    ·rintro w' ⟨s66z,s67z,s68z,s69z,s70z,s71z⟩
     go_simp
     with_reducible rfl
    rotate_left
    ·exact pP
    refine take_ (i:=5) (N:=some 16) (v:=?_) (a':=?_) #[true,true,true,true,true,true,false,false,false,false,false] rfl rfl (Za3 HT_.out HW_.out (by kernel_rfl)) (fun _ _ _ h=>h) (Or.inl ⟨by rfl,?_⟩) hHeld ?_ ?_
    rotate_left
    ·rintro w' ⟨s66z,s67z,s68z,s69z,s70z,s71z⟩
     go_simp
     with_reducible rfl
    rotate_left
    ·exact pP
    refine pu 7 (some 18) #[true,true,true,true,true,true,false,true,false,false,false] (h:=?_)
    refine one_ (i:=6) (N:=some 17) #[true,true,true,true,true,true,true,true,false,false,false] rfl rfl (Za8 HT_.out (by kernel_rfl)) (by decide) (fun K hK=>?_)
    refine goes_ Tryz.func134 (by kernel_rfl) rfl #[.slice qc qe.length qa,.slice qd qg.length qb] (by rfl) rfl rfl pA ?_
    with_reducible refine (Zac.calls k _ _ qe _ _ qg qx _ ?side1 ?side2 ?side3 ?side4 A43.o).mono ?_
    (case side1=>exact Kd.Zv (Kd.Zf qk.o).2.2 pl)
    (case side2=>exact (Kd.Zf qk.o).2.1)
    (case side3=>exact Kd.Zv (Kd.Zf qj.o).2.2 pl)
    (case side4=>exact (Kd.Zf qj.o).2.1)
    rintro e w72z ⟨v73z,rfl,ho42z,hb⟩
    refine ⟨_,rfl,?_⟩
    have q4:=am (Kd.Zt (Kd.Zaj (Kd.Zaj ho42z (Kd.R_lt (Kd.Zc qj.o pl))) (Kd.R_lt (Kd.Zc qk.o pl))) (Zb pB))
    replace qj:=reR qj ho42z hb
    replace qk:=reR qk ho42z hb
    replace BK2z:=bb BK2z hb
    replace BK7z:=bb BK7z hb
    replace ql:=bb ql hb
    replace HB:=bS hb
    obtain ⟨qz,q0,q5⟩:=Kd.Zm q4.o
    (first|subst q5|(injection q5 with f1_ f2_ f3_;have f4_:=f1_.symm;have f5_:=f3_.symm;clear f1_ f2_ f3_;subst f4_;subst f5_))
    refine hK.out _ _ ⟨k0 BK7z 0,k0 BK7z 1,k0 BK7z 2,k0 BK2z 0,k0 BK2z 1,k0 BK2z 2⟩ (fun hHeld=>?_)
    clear hK K
    refine norm_ (a':=?_) ?_ ?_
    rotate_left
    ·show Act.put _ (some 17) _=_
     exact pP
    refine last_ (i:=8) (N:=none) #[true,true,true,true,true,true,true,true,true,false,false] rfl rfl (Za8 HT_.out (by kernel_rfl)) (by decide) (fun K hK=>?_)
    have hs78z:w72z.cell? ⟨gb0z,0,none⟩=some (.bool qi):=k0 BK2z 0
    have hfs79z:=Zaa BK2z.o 0
    have hns80z:=qr.o
    have hns81z:=qo.o
    have hms82z:=qq.o
    have hms83z:=q1.o
    refine skip_ (w1:=?_) (by rfl) rfl ?_ ?_
    rotate_left
    ·go_simp
     rfl
    refine hK.out _ _ ?_
    clear hK K
    refine pu 9 (some 19) #[true,true,true,true,true,true,true,true,true,true,false] (h:=?_)
    refine last_ (i:=10) (N:=none) #[true,true,true,true,true,true,true,true,true,true,true] rfl rfl (Za8 HT_.out (by kernel_rfl)) (by decide) (fun K hK=>?_)
    have hs84z:w72z.cell? ⟨gb0z,1,none⟩=some (.slice qd qg.length qb):=k0 BK2z 1
    have hfs85z:=Zaa BK2z.o 1
    have hns86z:=qr.o
    have hns87z:=qo.o
    have hms88z:=qq.o
    have hms89z:=q1.o
    refine skip_ (w1:=?_) (by rfl) rfl ?_ ?_
    rotate_left
    ·go_simp
     rfl
    refine hK.out _ _ ?_
    clear hK K
    refine done_ (Zdg HT_.out (by kernel_rfl)) ?_
    obtain ⟨_,_,_,_,_,_⟩:=cEc BK2z.o
    obtain ⟨_,_,_,_,_,_⟩:=cEc ql.o
    try go_wp2
    refine bodyPost_ret (results_cell_row rfl _ _ qp 30 #[.bool qh,.slice qz qx.length q0,.int .i64 qm] (0,0) _ rfl (by refine bp ?_;refine Zab (cs:=#[.bool qh,.slice qz qx.length q0,.int .i64 0]) ?_ 2 _ rfl;refine bp ?_;refine Zab (cs:=#[.bool qh,.slice none 0 0,.int .i64 0]) ?_ 1 _ rfl;refine bp ?_;refine Zab (cs:=#[.bool false,.slice none 0 0,.int .i64 0]) ?_ 0 _ rfl;refine bq ?_ qo;refine bq ?_ qo;exact bp ql.o) Tryz.underlying30 rfl (by kernel_rfl)) rfl ?_
    exact ⟨_,pE,by refine rp ?_;exact Kd.Zi (Kd.Zj (p:=⟨qp,2,none⟩) (Kd.Zj (p:=⟨qp,1,none⟩) (Kd.Zj (p:=⟨qp,0,none⟩) (Kd.Zj (p:=⟨gb0z,1,none⟩) (Kd.Zj (p:=⟨gb0z,0,none⟩) (Kd.Zg (Kd.Zg q4.o BK2z.o (by decide)) ql.o (by decide)) (fun _ hk=>hk.1.2) (.bool qh)) (fun _ hk=>hk.1.2) (.slice qz qx.length q0)) (fun _ hk=>hk.2) (.bool qh)) (fun _ hk=>hk.2) (.slice qz qx.length q0)) (fun _ hk=>hk.2) (.int .i64 qm)) (fun _ hk=>trivial),pB⟩
  | refine bodyPost_ret (results_cell_row rfl _ _ qp 30 #[.bool qi,.slice qt qv.length qu,.int .i64 qm] (0,0) _ rfl (by refine bp ?_;refine Zab (cs:=#[.bool qi,.slice qt qv.length qu,.int .i64 0]) ?_ 2 _ rfl;refine bp ?_;refine Zab (cs:=#[.bool qi,.slice none 0 0,.int .i64 0]) ?_ 1 _ rfl;refine bp ?_;refine Zab (cs:=#[.bool false,.slice none 0 0,.int .i64 0]) ?_ 0 _ rfl;refine bq ?_ qo;exact bp ql.o) Tryz.underlying30 rfl (by kernel_rfl)) rfl ?_
    exact ⟨_,pE,by refine rp ?_;exact Kd.Zi (Kd.Zj (p:=⟨qp,2,none⟩) (Kd.Zj (p:=⟨qp,1,none⟩) (Kd.Zj (p:=⟨qp,0,none⟩) (Kd.Zj (p:=⟨gb0z,1,none⟩) (Kd.Zg (Kd.Zg qy.o BK2z.o (by decide)) ql.o (by decide)) (fun _ hk=>hk.1.2) (.slice qt qv.length qu)) (fun _ hk=>hk.2) (.bool qi)) (fun _ hk=>hk.2) (.slice qt qv.length qu)) (fun _ hk=>hk.2) (.int .i64 qm)) (fun _ hk=>trivial),pB⟩):P:=h
theorem Zag.calls (k:Nat) (a0_0:Bool) (A0_1:Option Addr) (c0_1:Nat) (l0_1:List Int) (a0_2:Int) (a1_0:Bool) (A1_1:Option Addr) (c1_1:Nat) (l1_1:List Int) (a1_2:Int) (r1:Bool) (r2:List Int) (r3:Int) (w:World) (hr0_1:Kd.C (Kd.int .i64) w A0_1 l0_1.length l0_1) (hc0_1:l0_1.length<=c0_1) (hr1_1:Kd.C (Kd.int .i64) w A1_1 l1_1.length l1_1) (hc1_1:l1_1.length<=c1_1) (h:Zag.f k a0_0 l0_1 a0_2 a1_0 l1_1 a1_2=some (r1,r2,r3)) :
  Calls Tryz.prog 77 #[.agg #[.bool a0_0,.slice A0_1 l0_1.length c0_1,.int .i64 a0_2],.agg #[.bool a1_0,.slice A1_1 l1_1.length c1_1,.int .i64 a1_2]] w fun e w' => ∃ v1_:Value,e=.returned (.agg #[.bool r1,v1_,.int .i64 r3])/\Kd.R (Kd.int .i64) 3 w' w.heap.size (fun _=>True) v1_ r2/\Below w.heap.size w w':=by
 have hu30:=Tryz.underlying30
 have HR0_1:=am hr0_1
 have HC0_1:=am hc0_1
 clear hr0_1 hc0_1
 have HR1_1:=am hr1_1
 have HC1_1:=am hc1_1
 clear hr1_1 hc1_1
 have HB:=am (Below.refl w.heap.size w)
 have H:((Zci.f a0_0 l0_1 a0_2 a1_0 l1_1 a1_2).bind fun qf=>(if (qf.1 == qf.2.2.2.1)=true then ((Zs.f k qf.2.1 qf.2.2.2.2.1).bind fun qv=>(some (qf.1,qv,qf.2.2.1))) else ((Zas.f k qf.2.1 qf.2.2.2.2.1).bind fun q3=>(if q3 >= 0 then ((Zac.f k qf.2.1 qf.2.2.2.2.1).bind fun qw=>(some (qf.1,qw,qf.2.2.1))) else ((Zac.f k qf.2.2.2.2.1 qf.2.1).bind fun qx=>(some (qf.2.2.2.1,qx,qf.2.2.1)))))))=some (r1,r2,r3):=h
 clear h
 replace H:=ob H
 obtain ⟨⟨qi,qg,qm,qh,qe,qn⟩,A3,H⟩:=H;(try dsimp only at H)
 by_cases c4:(qi == qh)=true
 ·rw [if_pos c4] at H
  have c4b0:(qi == qh)=true:=c4
  (try (have c4b1:decide (qi=qh)=true:=by simpa using c4))
  (try (have c4b2:(qi == qh)=true:=by simpa using c4))
  clear c4
  replace H:=ob H
  obtain ⟨qv,A5,H⟩:=H
  simp only [Option.some.injEq,Prod.mk.injEq] at H
  obtain ⟨rfl,rfl,rfl⟩:=H
  exact Zag.leaf
 ·rw [if_neg c4] at H
  have c4b0:(qi == qh)=false:=by simpa using c4
  (try (have c4b1:decide (qi=qh)=false:=by simpa using c4))
  (try (have c4b2:(qi == qh)=false:=by simpa using c4))
  (try (have c4b3:¬ (qi=qh):=by simpa using c4))
  clear c4
  replace H:=ob H
  obtain ⟨q3,A23,H⟩:=H
  replace H:=hI H
  rcases H with ⟨c24b0,H⟩|⟨c24b0,H⟩
  ·replace H:=ob H
   obtain ⟨qw,A25,H⟩:=H
   simp only [Option.some.injEq,Prod.mk.injEq] at H
   obtain ⟨rfl,rfl,rfl⟩:=H
   exact Zag.leaf
  ·replace H:=ob H
   obtain ⟨qx,A43,H⟩:=H
   simp only [Option.some.injEq,Prod.mk.injEq] at H
   obtain ⟨rfl,rfl,rfl⟩:=H
   exact Zag.leaf
end YtjbjkmccfocikaaGreatDoor.B
end
end Go.Proofs
