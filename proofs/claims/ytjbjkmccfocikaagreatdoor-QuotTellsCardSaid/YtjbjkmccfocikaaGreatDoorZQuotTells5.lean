/- QuotTells, part 6 of 7 of its proof (no condition); names with a low line are shortened throughout. -/
import Derived.Test.YtjbjkmccfocikaaGreatDoorZQuotTells4
import Derived.Deep.RegionHeld3
import Derived.ChangeSlices
import Derived.ChangeArms
import Derived.Lib.SmallJoins
import Derived.Carry
set_option linter.unusedVariables false
set_option linter.unusedSimpArgs false
set_option maxRecDepth 100000
set_option maxHeartbeats 8000000
namespace Go.Proofs
section
namespace YtjbjkmccfocikaaGreatDoor.B
open Go.RowKit YtjbjkmccfocikaaGreatDoorW.PrintWords YtjbjkmccfocikaaGreatDoorW.PrintMore YtjbjkmccfocikaaGreatDoorW.PrintLast
section
variable {P:Program} {ops:Array Oper} {Q:Exit->Act->World->Prop} {md:Region.Mode} {S:World->Prop} {ds:List Nat}
def blkOf:Value->Option Nat
 | .pointer (some p)=>some p.block
 | .agg cs=>match cs[1]? with|some v=>v.ownBlock|none=>none
 | _=>none
structure Mk where
 i:Nat
 N:Tmp
 R:Value->World->Prop
def okM (md:Region.Mode) (ops:Array Oper) (ds is:List Nat) (lf:Array Bool):Nat->Array Bool->Bool
 | 0,l=>l == lf && is.all (fun i=>l.getD i false)
 | n+1,l=>(Region.ready md ops l != []) && (Region.ready md ops l).all fun i=>is.contains i && (!ds.contains i && (l.getD i true == false && okM md ops ds is lf n (l.setIfInBounds i true)))
def fillF (a:Act):List Tmp->(Tmp->Value)->Act
 | [],_=>a
 | n :: ns,f=>fillF (a.put (some n) (f n)) ns f
def upd (f:Tmp->Value) (n:Tmp) (v:Value):Tmp->Value:=fun m=>if m=n then v else f m
theorem put_comm (a:Act) {n m:Tmp} (h:n ≠ m) (x y:Value):(a.put (some n) x).put (some m) y=(a.put (some m) y).put (some n) x:=by
 simp only [Act.put]
 rw [Array.setIfInBounds_comm _ _ h]
theorem Zqi (a:Act) (n:Tmp) (x y:Value):(a.put (some n) x).put (some n) y=a.put (some n) y:=by
 simp only [Act.put,Array.setIfInBounds_setIfInBounds]
theorem Zni:∀ (ns:List Tmp) (a:Act) (f:Tmp->Value) (n:Tmp) (v:Value),n ∉ ns->(fillF a ns f).put (some n) v=fillF (a.put (some n) v) ns f
 | [],_,_,_,_,_=>rfl
 | m :: ns,a,f,n,v,h=>by
  have h1:n ≠ m:=fun e=>h (e ▸ List.mem_cons_self)
  rw [fillF,fillF,Zni ns _ f n v (fun e=>h (List.mem_cons_of_mem _ e)),put_comm a (Ne.symm h1)]
theorem Ziz:∀ (ns:List Tmp) (a:Act) (f:Tmp->Value) (n:Tmp) (v:Value),n ∉ ns->fillF a ns (upd f n v)=fillF a ns f
 | [],_,_,_,_,_=>rfl
 | m :: ns,a,f,n,v,h=>by
  have h1:m ≠ n:=fun e=>h (e ▸ List.mem_cons_self)
  rw [fillF,fillF,Ziz ns _ f n v (fun e=>h (List.mem_cons_of_mem _ e))]
  simp only [upd,if_neg h1]
theorem Znj:∀ (ns:List Tmp) (a:Act) (f:Tmp->Value) (n:Tmp) (v:Value),ns.Nodup->n ∈ ns->(fillF a ns f).put (some n) v=fillF a ns (upd f n v)
 | [],_,_,_,_,_,h=>by cases h
 | m :: ns,a,f,n,v,hd,h=>by
  have hd':=List.nodup_cons.1 hd
  by_cases e:m=n
  ·subst e
   rw [fillF,fillF,Zni ns _ f m v hd'.1,Ziz ns _ f m v hd'.1,Zqi]
   simp only [upd,if_true]
  ·have hn:n ∈ ns:=(List.mem_cons.1 h).resolve_left (Ne.symm e)
   rw [fillF,fillF,Znj ns _ f n v hd'.2 hn]
   simp only [upd,if_neg e]
theorem Zqg {r:Mk->Mk->Prop} (hs:∀ x y,r x y->r y x):∀ {l:List Mk},l.Pairwise r -> ∀ m ∈ l,∀ m' ∈ l,m=m'\/r m m'
 | [],_,m,h,_,_=>by cases h
 | x :: l,h,m,hm,m',hm'=>by
  obtain ⟨h1,h2⟩:=List.pairwise_cons.1 h
  rcases List.mem_cons.1 hm with rfl|q1 <;> rcases List.mem_cons.1 hm' with rfl|q2
  ·exact .inl rfl
  ·exact .inr (h1 _ q2)
  ·exact .inr (hs _ _ (h1 _ q1))
  ·exact Zqg hs h2 m q1 m' q2
theorem makers (ms:List Mk) (a:Act) (J:World->Prop) (lf:Array Bool) (fuel:Nat)
  (hp:ms.Pairwise (fun m m'=>m.N ≠ m'.N/\m.i ≠ m'.i))
  (hJ:∀ w w',J w->Below w.heap.size w w'->J w') (hJS:∀ w,J w->S w)
  (hR:∀ m ∈ ms,∀ v w w',m.R v w->Below w.heap.size w w'->m.R v w')
  (hlt:∀ m ∈ ms,∀ v w,m.R v w -> ∀ g,blkOf v=some g->g < w.heap.size)
  (hstep:∀ m ∈ ms,∃ o,ops[m.i]? = some o /\ ∀ (f:Tmp->Value) w,J w -> ∀ K:Act->World->Prop,(∀ v w',m.R v w'->Below w.heap.size w w'->(∀ g,blkOf v=some g->w.heap.size<=g)->K ((fillF a (ms.map Mk.N) f).put (some m.N) v) w') ->
   if Region.wanted o (yielded ops (fillF a (ms.map Mk.N) f).tmps)=true then Oper.wp P o (fillF a (ms.map Mk.N) f) w K Q else K ((fillF a (ms.map Mk.N) f).put o.dst undef) w)
  (hcont:∀ (f:Tmp->Value) w,J w->(∀ m ∈ ms,m.R (f m.N) w)->(∀ m ∈ ms,∀ m' ∈ ms,m.N ≠ m'.N -> ∀ g,blkOf (f m.N)=some g->blkOf (f m'.N) ≠ some g)->wpAnyLast P md ops Q S ds fuel lf (fillF a (ms.map Mk.N) f) w) :
  ∀ (n:Nat) (l:Array Bool) (f:Tmp->Value) (w:World),okM md ops ds (ms.map Mk.i) lf n l=true->J w->(∀ m ∈ ms,l.getD m.i true=true->m.R (f m.N) w) ->
   (∀ m ∈ ms,∀ m' ∈ ms,m.N ≠ m'.N->l.getD m.i true=true->l.getD m'.i true=true -> ∀ g,blkOf (f m.N)=some g->blkOf (f m'.N) ≠ some g)->wpAnyLast P md ops Q S ds (fuel+n) l (fillF a (ms.map Mk.N) f) w
 | 0,l,f,w,hk,hj,hr,hx=>by
  simp only [okM,Bool.and_eq_true,beq_iff_eq,List.all_eq_true] at hk
  obtain ⟨rfl,hk⟩:=hk
  have hd:∀ m ∈ ms,l.getD m.i true=true:=fun m hm=>by
   have h1:=hk m.i (List.mem_map_of_mem hm)
   rcases Nat.lt_or_ge m.i l.size with h'|h'
   ·simp [h'] at h1 ⊢;exact h1
   ·simp [Array.getElem?_eq_none h'] at h1
  exact hcont f w hj (fun m hm=>hr m hm (hd m hm)) (fun m hm m' hm' hn=>hx m hm m' hm' hn (hd m hm) (hd m' hm'))
 | n+1,l,f,w,hk,hj,hr,hx=>by
  simp only [okM,Bool.and_eq_true,bne_iff_ne,List.all_eq_true] at hk
  obtain ⟨hne,hk⟩:=hk
  refine Zhp rfl hne (fun i hi=>?_)
  have h1:=hk i hi
  simp only [Bool.not_eq_true',List.contains_iff_mem,beq_iff_eq] at h1
  obtain ⟨h2,h3,h4,h5⟩:=h1
  obtain ⟨m,hm,rfl⟩:=List.mem_map.1 h2
  obtain ⟨o,ho,hst⟩:=hstep m hm
  have hnd:(ms.map Mk.N).Nodup:=by
   unfold List.Nodup
   rw [List.pairwise_map]
   exact hp.imp (fun h=>h.1)
  have hor:=Zqg (fun x y h=>⟨h.1.symm,h.2.symm⟩) hp
  refine wpOp_step ho (fun K' hK=>hst f w hj K' (fun v w' hv hb hf=>hK _ w' ⟨fun _ _=>hJS w' (hJ w w' hj hb),?_⟩))
  rw [Znj _ _ _ _ _ hnd (List.mem_map_of_mem hm)]
  have hold:∀ m' ∈ ms,m' ≠ m->upd f m.N v m'.N=f m'.N /\ ∀ b,(l.setIfInBounds m.i true).getD m'.i b=l.getD m'.i b:=fun m' hm' hne=>by
   rcases hor m' hm' m hm with e|e
   ·exact absurd e hne
   ·exact ⟨by simp only [upd,if_neg e.1],fun b=>getD_set_ne b (Ne.symm e.2)⟩
  have hnew:upd f m.N v m.N=v:=by simp only [upd,if_true]
  refine makers ms a J lf fuel hp hJ hJS hR hlt hstep hcont n _ _ w' h5 (hJ w w' hj hb) (fun m' hm' hd=>?_) (fun m1 hm1 m2 hm2 hn hd1 hd2 g hg=>?_)
  ·by_cases e:m'=m
   ·subst e;rw [hnew];exact hv
   ·obtain ⟨e1,e2⟩:=hold m' hm' e
    rw [e1];rw [e2] at hd
    exact hR m' hm' _ w w' (hr m' hm' hd) hb
  ·by_cases e1:m1=m
   ·subst e1
    have e2:m2 ≠ m1:=fun e=>hn (by rw [e])
    obtain ⟨f2,l2⟩:=hold m2 hm2 e2
    rw [hnew] at hg;rw [f2];rw [l2] at hd2
    intro hg2
    have := hlt m2 hm2 _ w (hr m2 hm2 hd2) g hg2
    have := hf g hg
    omega
   ·obtain ⟨f1,l1⟩:=hold m1 hm1 e1
    rw [f1] at hg;rw [l1] at hd1
    by_cases e2:m2=m
    ·subst e2
     rw [hnew]
     intro hg2
     have := hlt m1 hm1 _ w (hr m1 hm1 hd1) g hg
     have := hf g hg2
     omega
    ·obtain ⟨f2,l2⟩:=hold m2 hm2 e2
     rw [f2];rw [l2] at hd2
     exact hx m1 hm1 m2 hm2 hn hd1 hd2 g hg
theorem Zrt (a:Act) (n:Tmp):a.put (some n) (a.tmps.getD n undef)=a:=by
 obtain ⟨t,d⟩:=a
 simp only [Act.put]
 congr 1
 rcases Nat.lt_or_ge n t.size with h|h
 ·simp [Array.setIfInBounds,h]
 ·simp [Array.setIfInBounds,Nat.not_lt.2 h]
theorem Zla:∀ (ns:List Tmp) (a:Act),fillF a ns (fun n=>a.tmps.getD n undef)=a
 | [],_=>rfl
 | n :: ns,a=>by
  rw [fillF,Zrt]
  exact Zla ns a
theorem Zsa {ik:IntKind} {e:Nat} {w:World} {base:Nat} {ok:Nat->Prop} {v:Value} {xs:List Int} (h:Kd.R (Kd.int ik) e w base ok v xs):Kd.R (Kd.int ik) e w base (fun _=>True) v xs:=Kd.Zo h (fun _ _=>trivial)
theorem R_ok {ik:IntKind} {e:Nat} {w:World} {base:Nat} {ok ok':Nat->Prop} {v:Value} {xs:List Int} (h:Kd.R (Kd.int ik) e w base ok v xs) (ho:∀ k,v.ownBlock=some k->ok' k):Kd.R (Kd.int ik) e w base ok' v xs :=
 ⟨ho,h.2.imp_ (fun _ _ hp=>hp)⟩
theorem pair2 {a:Act} {w0:World} {lf l:Array Bool} {fuel:Nat} (i1 i3 i4 i5:Nat) (N1 N3 N4 N5:Tmp) (base:Nat) {ik1 ik3:IntKind} {e1 e3:Nat} {xs1 xs3:List Int} (b1 n1 b3 n3:Value) (Z:Array Value) (t:TypeId)
    {o1 o3 o4 o5:Oper} (hb0:base<=w0.heap.size) (hS:∀ w',Below w0.heap.size w0 w'->S w')
    (h1:∀ (f:Tmp->Value) w',Below w0.heap.size w0 w' -> ∀ K:Act->World->Prop,(∀ u w'' ok,Kd.R (Kd.int ik1) e1 w'' w'.heap.size ok u xs1->Below w'.heap.size w' w''->K ((fillF a [N1,N3,N4,N5] f).put (some N1) (.agg #[b1,u,n1])) w'') ->
      if Region.wanted o1 (yielded ops (fillF a [N1,N3,N4,N5] f).tmps)=true then Oper.wp P o1 (fillF a [N1,N3,N4,N5] f) w' K Q else K ((fillF a [N1,N3,N4,N5] f).put (some N1) undef) w')
    (h3:∀ (f:Tmp->Value) w',Below w0.heap.size w0 w' -> ∀ K:Act->World->Prop,(∀ u w'' ok,Kd.R (Kd.int ik3) e3 w'' w'.heap.size ok u xs3->Below w'.heap.size w' w''->K ((fillF a [N1,N3,N4,N5] f).put (some N3) (.agg #[b3,u,n3])) w'') ->
      if Region.wanted o3 (yielded ops (fillF a [N1,N3,N4,N5] f).tmps)=true then Oper.wp P o3 (fillF a [N1,N3,N4,N5] f) w' K Q else K ((fillF a [N1,N3,N4,N5] f).put (some N3) undef) w')
    (hcont:∀ u1 u3 g4 g5 w',Below w0.heap.size w0 w'->Kd.R (Kd.int ik1) e1 w' base (fun k=>some k ≠ u3.ownBlock) u1 xs1->Kd.R (Kd.int ik3) e3 w' base (fun k=>some k ≠ u1.ownBlock) u3 xs3 ->
      w'.heap[g4]? = some (.cells Z t (0,0))->w'.heap[g5]? = some (.cells Z t (0,0))->w0.heap.size<=g4->w0.heap.size<=g5->g4 ≠ g5 ->
      wpAnyLast P md ops Q S ds fuel lf (putAll a [(N1,.agg #[b1,u1,n1]),(N3,.agg #[b3,u3,n3]),(N4,.pointer (some ⟨g4,0,none⟩)),(N5,.pointer (some ⟨g5,0,none⟩))]) w')
    (q1:ops[i1]? = some o1:=by rfl) (q3:ops[i3]? = some o3:=by rfl) (q4:ops[i4]? = some o4:=by rfl) (q5:ops[i5]? = some o5:=by rfl)
    (d1:o1.dst=some N1:=by rfl) (d3:o3.dst=some N3:=by rfl) (d4:o4.dst=some N4:=by rfl) (d5:o5.dst=some N5:=by rfl)
    (hw4:∀ y,Region.wanted o4 y=true:=by intro y;rfl) (hw5:∀ y,Region.wanted o5 y=true:=by intro y;rfl)
    (hr4:∀ (a:Act) (w:World),(execOp a.eval o4).run P w=.ok (.value (.pointer (some ⟨w.heap.size,0,none⟩))) (w.alloc (.cells Z t (0,0))):=by intro a w;first|(go_simp;done)|(go_simp;rfl))
    (hr5:∀ (a:Act) (w:World),(execOp a.eval o5).run P w=.ok (.value (.pointer (some ⟨w.heap.size,0,none⟩))) (w.alloc (.cells Z t (0,0))):=by intro a w;first|(go_simp;done)|(go_simp;rfl))
    (hn:((N1 != N3 && N1 != N4 && N1 != N5 && N3 != N4 && N3 != N5 && N4 != N5) && (i1 != i3 && i1 != i4 && i1 != i5 && i3 != i4 && i3 != i5 && i4 != i5))=true:=by rfl)
    (hck:(okM md ops ds [i1,i3,i4,i5] lf 4 l && (l.getD i1 true == false && (l.getD i3 true == false && (l.getD i4 true == false && l.getD i5 true == false))))=true:=by kernel_rfl) :
    wpAnyLast P md ops Q S ds (fuel+4) l a w0:=by
  simp only [Bool.and_eq_true,beq_iff_eq,bne_iff_ne,ne_eq] at hck hn
  obtain ⟨hck,c1,c3,c4,c5⟩:=hck
  obtain ⟨⟨⟨⟨⟨⟨m1,m2⟩,m3⟩,m4⟩,m5⟩,m6⟩,⟨⟨⟨⟨j1,j2⟩,j3⟩,j4⟩,j5⟩,j6⟩:=hn
  have bstep:∀ (o:Oper) (N:Tmp),o.dst=some N->(∀ y,Region.wanted o y=true)->(∀ (a:Act) (w:World),(execOp a.eval o).run P w=.ok (.value (.pointer (some ⟨w.heap.size,0,none⟩))) (w.alloc (.cells Z t (0,0)))) ->
      ∀ (a':Act) (w:World),Below w0.heap.size w0 w -> ∀ K:Act->World->Prop,(∀ v w',(∃ g,v=Value.pointer (some ⟨g,0,none⟩)/\w'.heap[g]? = some (.cells Z t (0,0))/\w0.heap.size<=g)->Below w.heap.size w w'->(∀ g,blkOf v=some g->w.heap.size<=g)->K (a'.put (some N) v) w') ->
      if Region.wanted o (yielded ops a'.tmps)=true then Oper.wp P o a' w K Q else K (a'.put o.dst undef) w:=by
    intro o N hd hw hr a' w hb K hK
    refine Zq8 (hw _) hd (hr a' w) (fun g hg w1 hbox hb1=>?_)
    rw [hd]
    subst hg
    exact hK _ w1 ⟨_,rfl,hbox,(Zb hb)⟩ hb1 (fun g hg=>by simp only [blkOf,Option.some.injEq] at hg;omega)
  have key:=makers (P:=P) (ops:=ops) (Q:=Q) (md:=md) (S:=S) (ds:=ds)
    [⟨i1,N1,fun v w' => ∃ u,v=.agg #[b1,u,n1]/\Kd.R (Kd.int ik1) e1 w' base (fun _=>True) u xs1⟩,⟨i3,N3,fun v w' => ∃ u,v=.agg #[b3,u,n3]/\Kd.R (Kd.int ik3) e3 w' base (fun _=>True) u xs3⟩,
     ⟨i4,N4,fun v w' => ∃ g,v=.pointer (some ⟨g,0,none⟩)/\w'.heap[g]? = some (.cells Z t (0,0))/\w0.heap.size<=g⟩,⟨i5,N5,fun v w' => ∃ g,v=.pointer (some ⟨g,0,none⟩)/\w'.heap[g]? = some (.cells Z t (0,0))/\w0.heap.size<=g⟩]
    a (fun w'=>Below w0.heap.size w0 w') lf fuel
    (by simp [m1,m2,m3,m4,m5,m6,j1,j2,j3,j4,j5,j6])
    (fun w w' h hb=>Zjo h hb) hS
    (by
      intro m hm v w w' hv hb
      simp only [List.mem_cons,List.not_mem_nil,or_false] at hm
      rcases hm with rfl|rfl|rfl|rfl
      · obtain ⟨u,rfl,h⟩:=hv;exact ⟨u,rfl,Kd.Za h hb⟩
      · obtain ⟨u,rfl,h⟩:=hv;exact ⟨u,rfl,Kd.Za h hb⟩
      · obtain ⟨g,rfl,h,h2⟩:=hv;exact ⟨g,rfl,Zg h hb,h2⟩
      · obtain ⟨g,rfl,h,h2⟩:=hv;exact ⟨g,rfl,Zg h hb,h2⟩)
    (by
      intro m hm v w hv g hg
      simp only [List.mem_cons,List.not_mem_nil,or_false] at hm
      rcases hm with rfl|rfl|rfl|rfl
      · obtain ⟨u,rfl,h⟩:=hv;exact Kd.R_lt h g (by simpa [blkOf] using hg)
      · obtain ⟨u,rfl,h⟩:=hv;exact Kd.R_lt h g (by simpa [blkOf] using hg)
      · obtain ⟨g',rfl,h,h2⟩:=hv
        obtain rfl:g'=g:=by simpa [blkOf] using hg
        exact Zgz h
      · obtain ⟨g',rfl,h,h2⟩:=hv
        obtain rfl:g'=g:=by simpa [blkOf] using hg
        exact Zgz h)
    (by
      intro m hm
      simp only [List.mem_cons,List.not_mem_nil,or_false] at hm
      rcases hm with rfl|rfl|rfl|rfl
      · refine ⟨o1,q1,fun f w hb K hK=>?_⟩
        rw [d1]
        exact h1 f w hb K (fun u w'' ok hr hb2=>hK _ w'' ⟨u,rfl,Zsa (Kd.Zn hr (Nat.le_trans hb0 (Zb hb)))⟩ hb2 (fun g hg=>Kd.Zt hr g (by simpa [blkOf] using hg)))
      · refine ⟨o3,q3,fun f w hb K hK=>?_⟩
        rw [d3]
        exact h3 f w hb K (fun u w'' ok hr hb2=>hK _ w'' ⟨u,rfl,Zsa (Kd.Zn hr (Nat.le_trans hb0 (Zb hb)))⟩ hb2 (fun g hg=>Kd.Zt hr g (by simpa [blkOf] using hg)))
      · exact ⟨o4,q4,fun f w hb K hK=>bstep o4 N4 d4 hw4 hr4 _ w hb K hK⟩
      · exact ⟨o5,q5,fun f w hb K hK=>bstep o5 N5 d5 hw5 hr5 _ w hb K hK⟩)
    (by
      intro f w hb hR hX
      obtain ⟨u1,e1',r1⟩:=hR _ List.mem_cons_self
      obtain ⟨u3,e3',r3⟩:=hR _ (List.mem_cons_of_mem _ List.mem_cons_self)
      obtain ⟨g4,e4',b4,s4⟩:=hR _ (List.mem_cons_of_mem _ (List.mem_cons_of_mem _ List.mem_cons_self))
      obtain ⟨g5,e5',b5,s5⟩:=hR _ (List.mem_cons_of_mem _ (List.mem_cons_of_mem _ (List.mem_cons_of_mem _ List.mem_cons_self)))
      have x13:=hX _ List.mem_cons_self _ (List.mem_cons_of_mem _ List.mem_cons_self) m1
      have x45:=hX _ (List.mem_cons_of_mem _ (List.mem_cons_of_mem _ List.mem_cons_self)) _ (List.mem_cons_of_mem _ (List.mem_cons_of_mem _ (List.mem_cons_of_mem _ List.mem_cons_self))) m6
      dsimp only at e1' e3' e4' e5' x13 x45
      rw [e1',e3'] at x13
      rw [e4',e5'] at x45
      have := hcont u1 u3 g4 g5 w hb (R_ok r1 (fun k hk he=>x13 k (by simpa [blkOf] using hk) (by simpa [blkOf] using he.symm))) (R_ok r3 (fun k hk he=>x13 k (by simpa [blkOf] using he.symm) (by simpa [blkOf] using hk))) b4 b5 s4 s5
        (fun he=>x45 g4 (by simp [blkOf]) (by simp [blkOf,he]))
      simp only [List.map_cons,List.map_nil,fillF,e1',e3',e4',e5']
      exact this)
    4 l (fun n=>a.tmps.getD n undef) w0 hck (Below.refl _ _)
    (by
      intro m hm hd
      simp only [List.mem_cons,List.not_mem_nil,or_false] at hm
      rcases hm with rfl|rfl|rfl|rfl
      · rw [c1] at hd;cases hd
      · rw [c3] at hd;cases hd
      · rw [c4] at hd;cases hd
      · rw [c5] at hd;cases hd)
    (by
      intro m hm m' hm' hne hd
      simp only [List.mem_cons,List.not_mem_nil,or_false] at hm
      rcases hm with rfl|rfl|rfl|rfl
      · rw [c1] at hd;cases hd
      · rw [c3] at hd;cases hd
      · rw [c4] at hd;cases hd
      · rw [c5] at hd;cases hd)
  rw [Zla] at key
  exact key
theorem nW {w0:World} {k g:Nat} {o:Obj} (h:Aside0 (w0.heap[k]? = some o)) (m:w0.heap.size<=g):k ≠ g:=Nat.ne_of_lt (Nat.lt_of_lt_of_le (Zgz h.out) m)
theorem nV {w0:World} {k g:Nat} {o:Obj} (h:Aside0 (w0.heap[k]? = some o)) (m:w0.heap.size<=g):g ≠ k:=Ne.symm (nW h m)
end
end YtjbjkmccfocikaaGreatDoor.B
end
section
namespace YtjbjkmccfocikaaGreatDoor.B
open Go.RowKit YtjbjkmccfocikaaGreatDoorW.PrintWords YtjbjkmccfocikaaGreatDoorW.PrintLast YtjbjkmccfocikaaGreatDoorW.PrintMore
attribute [local go_sem] Zch Zci Zc9 Zda
def rdN (X Y:List Int):Int:=mx 0 (wrap64 (wrap64 (wrap64 ((Y.length:Int) - (X.length:Int))+40)+2))
def upR (o:Int) (r h:List Int):Bool:=decide (0 < o) || (decide (o=0) && (decide (0 < (r.length:Int)) || decide (Int.tmod (rd h 0) 2=1)))
def rdivE (k:Nat) (s:Bool) (q r:List Int) (x:Int):Option (Bool × List Int × Int × Int):=if (q.length:Int)<=40 then Zp.f k s q x else if 0 < wrap64 ((q.length:Int) - 40)/\wrap64 ((q.length:Int) - 40) < (q.length:Int) then (Za7.f [5] (wrap64 (wrap64 ((q.length:Int) - 40) - 1))).bind fun hf=>(Zl.f k (q.take (wrap64 ((q.length:Int) - 40)).toNat)).bind fun lw=>(Zal.f k lw hf).bind fun o=>if upR o r (q.drop (wrap64 ((q.length:Int) - 40)).toNat)=true then (Zw.f k (q.drop (wrap64 ((q.length:Int) - 40)).toNat) [1]).bind fun h=>Zp.f k s h (wrap64 (x+wrap64 ((q.length:Int) - 40))) else Zp.f k s (q.drop (wrap64 ((q.length:Int) - 40)).toNat) (wrap64 (x+wrap64 ((q.length:Int) - 40))) else none
def Zbt.f (k:Nat) (a:Bool) (l:List Int) (e:Int) (b:Bool) (m:List Int) (g:Int):Option (Bool × List Int × Int × Int):=(Ze.f k a l e).bind fun t1=>if t1=0 then (Ze.f k b m g).bind fun t2=>if t2=0 then (if (m.length:Int)=0 then some (false,[],0,53) else (Zac.f k a l e).bind fun x=>(Zac.f k b m g).bind fun y=>(Za7.f x.2.1 (rdN x.2.1 y.2.1)).bind fun s=>(Zu.f k s y.2.1).bind fun q=>rdivE k (x.1 != y.1) q.1 q.2 (wrap64 (wrap64 (x.2.2 - y.2.2) - rdN x.2.1 y.2.1))) else some (false,[],0,9) else some (false,[],0,9)
section
variable {w:World} {base n d c:Nat} {ok:Nat->Prop} {A A5:Option Addr} {q lo lw hi:List Int} {d5:Nat}
theorem q_lo (h:Kd.R (Kd.int .i64) 3 w base ok (.slice A n d) q) (hc:c<=q.length) (hl:q.take c=lo):Kd.C (Kd.int .i64) w A lo.length lo/\lo.length<=d:=by
 have := Kd.Zm5 (m:=c) (Kd.Zil h) hc
 rw [hl] at this
 obtain ⟨e,l,C⟩:=Kd.Zds this
 exact ⟨C,by omega⟩
theorem q_lw (h:Kd.R (Kd.int .i64) 3 w base ok (.slice A n d) q) (hc:c<=q.length) (hl:q.take c=lo) (hp:lw.length<=lo.length/\lw=lo.take lw.length):Kd.C (Kd.int .i64) w A lw.length lw/\lw.length<=d:=by
 have := Kd.Zm5 (m:=c) (Kd.Zil h) hc
 rw [hl] at this
 have := Kd.Zm5 this hp.1
 rw [<- hp.2] at this
 obtain ⟨e,l,C⟩:=Kd.Zds this
 exact ⟨C,l⟩
theorem q_hi (h:Kd.R (Kd.int .i64) 3 w base ok (.slice A n d) q) (hc:c<=q.length) (hl:q.drop c=hi) (hA:(if d=c then A else A.map (·.add (c*1)))=A5) (hd:d - c=d5):Kd.C (Kd.int .i64) w A5 hi.length hi/\hi.length<=d5:=by
 have := Kd.Zo6 (k:=c) (Kd.Zil h) hc
 rw [hl,hd] at this
 obtain ⟨e,l,C⟩:=Kd.Zds this
 rw [<- hA]
 exact ⟨C,by omega⟩
end
theorem z2 {W:World} {base g:Nat} {ok:Nat->Prop} {v:Value} {xs:List Int} {cs:Array Value} (h:Kd.R (Kd.int .i64) 3 W base ok v xs) (hb:W.heap[g]? = some (.cells cs 30 (0,0))) (i j:Nat) (u1 u2:Value):Kd.R (Kd.int .i64) 3 ((W.setCell ⟨g,i,none⟩ u1).setCell ⟨g,j,none⟩ u2) base ok v xs :=
 Kd.Zo (Kd.Zau (p:=⟨g,j,none⟩) (Kd.Zau (p:=⟨g,i,none⟩) (Kd.Zba h hb (by decide)) (fun _ hk=>hk.2) u1) (fun _ hk=>hk.2) u2) (fun _ hk=>hk.1)
theorem Zsg {W:World} {N:Nat} {r:Int} (h:W.heap.size=N):Kd.C (Kd.int .i64) (W.alloc (.cells #[.int .i64 r] 3)) (some ⟨N,0,none⟩) 1 [r]:=by subst h;exact Zuf _ _
theorem Zl4 {w W:World} {v:Value} {g:Nat} {r2:List Int} (u0 u1 u2:Value) (hb:Below w.heap.size w W) (hr:Kd.R (Kd.int .u32) 85 W w.heap.size (fun _=>True) v r2) (hg:W.heap[g]? = some (.cells #[.bool false,.slice none 0 0,.int .i64 0] 24 (0,0))) (hgw:w.heap.size<=g) :
   Kd.R (Kd.int .u32) 85 (((W.setCell ⟨g,0,none⟩ u0).setCell ⟨g,1,none⟩ u1).setCell ⟨g,2,none⟩ u2) w.heap.size (fun _=>True) v r2/\Below w.heap.size w (((W.setCell ⟨g,0,none⟩ u0).setCell ⟨g,1,none⟩ u1).setCell ⟨g,2,none⟩ u2):=⟨z3 hr hg (by decide) u0 u1 u2,((hb.setCell (p:=⟨g,0,none⟩) hgw _).setCell (p:=⟨g,1,none⟩) hgw _).setCell (p:=⟨g,2,none⟩) hgw _⟩
def rdiv.T:Bool × List (List Nat × List Nat):=(true,[([],[]),([0],[0]),([],[]),([2,1],[2]),([],[]),([],[]),([4,1,3,0,1,4,5],[1,4]),([5,3,6,0,1,2,3,4,5,6],[3,5])])
def rdiv.B:List Nat:=[0,1,0,7,0,0,63,127]
theorem rdiv.tab:rtab .any (opsOf Tryz.f34 5)=rdiv.T:=by kernel_rfl
theorem rdiv.bits:waitsOk rdiv.T.2 rdiv.B=true:=by kernel_rfl
theorem Zbt.calls (k:Nat) (a0_0:Bool) (A0_1:Option Addr) (c0_1:Nat) (l0_1:List Int) (a0_2:Int) (a1_0:Bool) (A1_1:Option Addr) (c1_1:Nat) (l1_1:List Int) (a1_2:Int) (r1:Bool) (r2:List Int) (r3 r4:Int) (w:World) (hr0_1:Kd.C (Kd.int .u32) w A0_1 l0_1.length l0_1) (hc0_1:l0_1.length<=c0_1) (hr1_1:Kd.C (Kd.int .u32) w A1_1 l1_1.length l1_1) (hc1_1:l1_1.length<=c1_1) (h:Zbt.f k a0_0 l0_1 a0_2 a1_0 l1_1 a1_2=some (r1,r2,r3,r4)) :
  Calls Tryz.prog 34 #[.agg #[.bool a0_0,.slice A0_1 l0_1.length c0_1,.int .i64 a0_2],.agg #[.bool a1_0,.slice A1_1 l1_1.length c1_1,.int .i64 a1_2]] w fun e w' => ∃ v1_:Value,e=.returned (.tuple #[.agg #[.bool r1,v1_,.int .i64 r3],.int .i64 r4])/\Kd.R (Kd.int .u32) 85 w' w.heap.size (fun _=>True) v1_ r2/\Below w.heap.size w w':=by
 have hu24:=Tryz.underlying24
 have hu30:=Tryz.underlying30
 unfold Zbt.f at h
 have HR0_1:=am hr0_1
 have HC0_1:=am hc0_1
 have HR1_1:=am hr1_1
 have HC1_1:=am hc1_1
 have HB:=am (Below.refl w.heap.size w)
 clear hr0_1 hc0_1 hr1_1 hc1_1
 replace h:=ob h
 obtain ⟨t1,T1,h⟩:=h
 replace h:=eI h
 rcases h with ⟨c1,c1',h⟩|⟨_,c1,c1',h⟩
 · replace h:=ob h
   obtain ⟨t2,T2,h⟩:=h
   replace h:=eI h
   rcases h with ⟨c2,c2',h⟩|⟨_,c2,c2',h⟩
   · replace h:=eI h
     rcases h with ⟨c3,c3',h⟩|⟨_,c3,c3',h⟩
     · simp only [Option.some.injEq,Prod.mk.injEq] at h
       obtain ⟨rfl,rfl,rfl,rfl⟩:=h
       go_enter Tryz.func34,Tryz.ntmps34
       go_wp2_with (first
         | ((with_reducible refine gd 2 ?_);refine bx 2 #[.bool a0_0,.slice A0_1 l0_1.length c0_1,.int .i64 a0_2] 24 (h:=?_);intro gb0z hg w1z hbox hb;have BK2z:=am hbox;have GW2z:=gW hg;replace HB:=bS hb;clear hb hbox hg)
         | ((with_reducible refine gd 3 ?_);refine bx 3 #[.bool a1_0,.slice A1_1 l1_1.length c1_1,.int .i64 a1_2] 24 (h:=?_);intro gb5z hg w6z hbox hb;have BK7z:=am hbox;have NB10z:=nL hg BK2z;have NB11z:=nG hg BK2z;replace BK2z:=bb BK2z hb;replace HB:=bS hb;clear hb hbox hg)
         | ((with_reducible refine gd 4 ?_);refine bx 4 #[.bool false,.slice none 0 0,.int .i64 0] 24 (h:=?_);intro gb12z hg w8z hbox hb;have BK14z:=am hbox;have GW14z:=gW hg;have NB17z:=nL hg BK2z;have NB18z:=nG hg BK2z;have NB19z:=nL hg BK7z;have NB20z:=nG hg BK7z;replace BK2z:=bb BK2z hb;replace BK7z:=bb BK7z hb;replace HB:=bS hb;clear hb hbox hg;obtain ⟨b0,b1,b2,f0,f1,f2⟩:=cEc BK2z.out)
         | ((have q_:=T1;clear q_);go_at_call 33;(with_reducible refine (Ze.calls k a0_0 _ _ l0_1 a0_2 t1 _ ?side1 ?side2 T1.out).mono ?_);(case side1=>exact Kd.Zi HR0_1.out pB);(case side2=>exact HC0_1.out);rintro e w9z ⟨rfl,hb⟩;replace BK2z:=bb BK2z hb;replace BK7z:=bb BK7z hb;replace BK14z:=bb BK14z hb;replace HB:=bS hb;clear T1 hb b0 b1 b2 f0 f1 f2;obtain ⟨b0,b1,b2,f0,f1,f2⟩:=cEc BK7z.out)
         | (go_at_call 33;(with_reducible refine (Ze.calls k a1_0 _ _ l1_1 a1_2 t2 _ ?side1 ?side2 T2.out).mono ?_);(case side1=>exact Kd.Zi HR1_1.out pB);(case side2=>exact HC1_1.out);rintro e w9z ⟨rfl,hb⟩;replace BK2z:=bb BK2z hb;replace BK7z:=bb BK7z hb;replace BK14z:=bb BK14z hb;replace HB:=bS hb;clear hb b0 b1 b2 f0 f1 f2;obtain ⟨b0,b1,b2,f0,f1,f2⟩:=cEc BK7z.out;obtain ⟨s0,s1,s2,e0,e1,e2⟩:=cEc BK14z.out))
       refine bodyPost_ret (Zae rfl _ _ gb12z 24 #[.bool false,.slice none 0 0,.int .i64 0] (0,0) _ rfl (by exact p3 BK14z) Tryz.underlying24 rfl (by kernel_rfl)) rfl ?_
       exact ⟨_,pE,Kd.Zip _ _ _ _ _,pB⟩
     · replace h:=ob h
       obtain ⟨⟨x1,X,x3⟩,HX,h⟩:=h
       dsimp only at h
       replace h:=ob h
       obtain ⟨⟨y1,Y,y3⟩,HY,h⟩:=h
       dsimp only at h
       obtain ⟨n,hn⟩:∃ n,rdN X Y=n:=⟨_,rfl⟩
       rw [hn] at h
       unfold rdN mx at hn
       replace h:=ob h
       obtain ⟨s,HS,h⟩:=h
       replace h:=ob h
       obtain ⟨⟨q1,q2⟩,HQ,h⟩:=h
       dsimp only at h
       obtain ⟨ex,hex⟩:∃ ex,wrap64 (wrap64 (x3 - y3) - n)=ex:=⟨_,rfl⟩
       rw [hex] at h
       have HH:=am h
       clear h
       go_enter Tryz.func34,Tryz.ntmps34
       go_wp2_with (first
            | ((with_reducible refine gd 2 ?_);refine bx 2 #[.bool a0_0,.slice A0_1 l0_1.length c0_1,.int .i64 a0_2] 24 (h:=?_);intro gb0z hg w1z hbox hb;have BK2z:=am hbox;have GW2z:=gW hg;replace HB:=bS hb;clear hb hbox hg)
            | ((with_reducible refine gd 3 ?_);refine bx 3 #[.bool a1_0,.slice A1_1 l1_1.length c1_1,.int .i64 a1_2] 24 (h:=?_);intro gb5z hg w6z hbox hb;have BK7z:=am hbox;have NB10z:=nL hg BK2z;have NB11z:=nG hg BK2z;replace BK2z:=bb BK2z hb;replace HB:=bS hb;clear hb hbox hg)
            | ((with_reducible refine gd 4 ?_);refine bx 4 #[.bool false,.slice none 0 0,.int .i64 0] 24 (h:=?_);intro gb12z hg w8z hbox hb;have BK14z:=am hbox;have GW14z:=gW hg;have NB17z:=nL hg BK2z;have NB18z:=nG hg BK2z;have NB19z:=nL hg BK7z;have NB20z:=nG hg BK7z;replace BK2z:=bb BK2z hb;replace BK7z:=bb BK7z hb;replace HB:=bS hb;clear hb hbox hg;obtain ⟨b0,b1,b2,f0,f1,f2⟩:=cEc BK2z.out)
            | ((have q_:=T1;clear q_);go_at_call 33;(with_reducible refine (Ze.calls k a0_0 _ _ l0_1 a0_2 t1 _ ?side1 ?side2 T1.out).mono ?_);(case side1=>exact Kd.Zi HR0_1.out pB);(case side2=>exact HC0_1.out);rintro e w9z ⟨rfl,hb⟩;replace BK2z:=bb BK2z hb;replace BK7z:=bb BK7z hb;replace BK14z:=bb BK14z hb;replace HB:=bS hb;clear T1 hb b0 b1 b2 f0 f1 f2;obtain ⟨b0,b1,b2,f0,f1,f2⟩:=cEc BK7z.out)
            | (go_at_call 33;(with_reducible refine (Ze.calls k a1_0 _ _ l1_1 a1_2 t2 _ ?side1 ?side2 T2.out).mono ?_);(case side1=>exact Kd.Zi HR1_1.out pB);(case side2=>exact HC1_1.out);rintro e w9z ⟨rfl,hb⟩;replace BK2z:=bb BK2z hb;replace BK7z:=bb BK7z hb;replace BK14z:=bb BK14z hb;replace HB:=bS hb;clear hb b0 b1 b2 f0 f1 f2;obtain ⟨b0,b1,b2,f0,f1,f2⟩:=cEc BK7z.out))
       clear b0 b1 b2 f0 f1 f2
       replace BK2z:=am (Zc7 BK2z.out)
       replace BK7z:=am (Zc7 BK7z.out)
       replace BK14z:=am (Zc7 BK14z.out)
       replace HB:=am (Zbh HB.out)
       refine start_ (n:=8) (S:=fun w'=>w'.cell? ⟨gb0z,0,none⟩=some (.bool a0_0)/\w'.cell? ⟨gb0z,1,none⟩=some (.slice A0_1 l0_1.length c0_1)/\w'.cell? ⟨gb0z,2,none⟩=some (.int .i64 a0_2)/\w'.cell? ⟨gb5z,0,none⟩=some (.bool a1_0)/\w'.cell? ⟨gb5z,1,none⟩=some (.slice A1_1 l1_1.length c1_1)/\w'.cell? ⟨gb5z,2,none⟩=some (.int .i64 a1_2)) (ds:=[]) #[false,false,false,false,false,false,false,false] (by kernel_rfl) rfl rfl ⟨k0 BK2z 0,k0 BK2z 1,k0 BK2z 2,k0 BK7z 0,k0 BK7z 1,k0 BK7z 2⟩ (fun hHeld=>?_);refine Zdo rdiv.tab rdiv.bits (fun HT_ HW_=>?_)
       generalize w9z.drew=w40z at BK2z BK7z BK14z HB hHeld ⊢
       refine take_ (i:=0) (N:=some 34) (v:=?_) (a':=?_) #[true,false,false,false,false,false,false,false] rfl rfl (Zcs HT_.out HW_.out (by kernel_rfl)) (fun _ _ _ h=>h) (Or.inl ⟨by rfl,?_⟩) hHeld ?_ ?_
       rotate_left
       ·rintro w' ⟨s41z,s42z,s43z,s44z,s45z,s46z⟩
        go_simp
        with_reducible rfl
       rotate_left
       ·exact pP
       refine take_ (i:=2) (N:=some 36) (v:=?_) (a':=?_) #[true,false,true,false,false,false,false,false] rfl rfl (Zcs HT_.out HW_.out (by kernel_rfl)) (fun _ _ _ h=>h) (Or.inl ⟨by rfl,?_⟩) hHeld ?_ ?_
       rotate_left
       ·rintro w' ⟨s41z,s42z,s43z,s44z,s45z,s46z⟩
        go_simp
        with_reducible rfl
       rotate_left
       ·exact pP
       refine join_ (σ:=Value × Value × Nat × Nat) 2 #[true,true,true,true,true,true,false,false] (fun s_=>[(35,.agg #[.bool x1,s_.1,.int .i64 x3]),(37,.agg #[.bool y1,s_.2.1,.int .i64 y3]),(6,.pointer (some ⟨s_.2.2.1,0,none⟩)),(7,.pointer (some ⟨s_.2.2.2,0,none⟩))]) (fun s_ w'=>(w'.cell? ⟨gb0z,0,none⟩=some (.bool a0_0)/\w'.cell? ⟨gb0z,1,none⟩=some (.slice A0_1 l0_1.length c0_1)/\w'.cell? ⟨gb0z,2,none⟩=some (.int .i64 a0_2)/\w'.cell? ⟨gb5z,0,none⟩=some (.bool a1_0)/\w'.cell? ⟨gb5z,1,none⟩=some (.slice A1_1 l1_1.length c1_1)/\w'.cell? ⟨gb5z,2,none⟩=some (.int .i64 a1_2))/\(Kd.R (Kd.int .i64) 3 w' w.heap.size (fun k_=>some k_ ≠ (s_.2.1:Value).ownBlock) s_.1 X)/\(Kd.R (Kd.int .i64) 3 w' w.heap.size (fun k_=>some k_ ≠ (s_.1:Value).ownBlock) s_.2.1 Y)/\(w'.heap[gb0z]? = some (.cells #[.bool a0_0,.slice A0_1 l0_1.length c0_1,.int .i64 a0_2] 24 (0,0)))/\(w'.heap[gb5z]? = some (.cells #[.bool a1_0,.slice A1_1 l1_1.length c1_1,.int .i64 a1_2] 24 (0,0)))/\(w'.heap[gb12z]? = some (.cells #[.bool false,.slice none 0 0,.int .i64 0] 24 (0,0)))/\(w'.heap[s_.2.2.1]? = some (.cells #[.bool false,.slice none 0 0,.int .i64 0] 30 (0,0)))/\(w'.heap[s_.2.2.2]? = some (.cells #[.bool false,.slice none 0 0,.int .i64 0] 30 (0,0)))/\(w.heap.size<=s_.2.2.1)/\(w.heap.size<=s_.2.2.1)/\(gb0z ≠ s_.2.2.1)/\(s_.2.2.1 ≠ gb0z)/\(gb5z ≠ s_.2.2.1)/\(s_.2.2.1 ≠ gb5z)/\(gb12z ≠ s_.2.2.1)/\(s_.2.2.1 ≠ gb12z)/\(s_.2.2.2 ≠ s_.2.2.1)/\(s_.2.2.1 ≠ s_.2.2.2)/\(w.heap.size<=s_.2.2.2)/\(w.heap.size<=s_.2.2.2)/\(gb0z ≠ s_.2.2.2)/\(s_.2.2.2 ≠ gb0z)/\(gb5z ≠ s_.2.2.2)/\(s_.2.2.2 ≠ gb5z)/\(gb12z ≠ s_.2.2.2)/\(s_.2.2.2 ≠ gb12z)/\(Below w.heap.size w w')) ?_ ?_
       rotate_left
       ·intro hJ1_3_4_5
        refine pair2 1 3 4 5 35 37 6 7 w.heap.size (.bool x1) (.int .i64 x3) (.bool y1) (.int .i64 y3) #[.bool false,.slice none 0 0,.int .i64 0] 30 (Zb HB.out) (fun w_ hb_=>⟨k0 (bb BK2z hb_) 0,k0 (bb BK2z hb_) 1,k0 (bb BK2z hb_) 2,k0 (bb BK7z hb_) 0,k0 (bb BK7z hb_) 1,k0 (bb BK7z hb_) 2⟩) (fun f_ w_ hb_ K_ hK_=>?_) (fun f_ w_ hb_ K_ hK_=>?_) (fun u1_ u3_ g4_ g5_ w_ hb_ r1_ r2_ q4_ q5_ m4_ m5_ hne_=>hJ1_3_4_5 (u1_,u3_,g4_,g5_) _ ⟨⟨k0 (bb BK2z hb_) 0,k0 (bb BK2z hb_) 1,k0 (bb BK2z hb_) 2,k0 (bb BK7z hb_) 0,k0 (bb BK7z hb_) 1,k0 (bb BK7z hb_) 2⟩,r1_,r2_,(bb BK2z hb_).out,(bb BK7z hb_).out,(bb BK14z hb_).out,q4_,q5_,(Nat.le_trans (Zb HB.out) m4_),(Nat.le_trans (Zb HB.out) m4_),(nW BK2z m4_),(nV BK2z m4_),(nW BK7z m4_),(nV BK7z m4_),(nW BK14z m4_),(nV BK14z m4_),hne_.symm,hne_,(Nat.le_trans (Zb HB.out) m5_),(Nat.le_trans (Zb HB.out) m5_),(nW BK2z m5_),(nV BK2z m5_),(nW BK7z m5_),(nV BK7z m5_),(nW BK14z m5_),(nV BK14z m5_),(bS hb_).out⟩)
        ·have HB:=bS hb_
         refine goes_ Tryz.func18 (by kernel_rfl) rfl #[.agg #[.bool a0_0,.slice A0_1 l0_1.length c0_1,.int .i64 a0_2]] (by rfl) rfl rfl pA ?_
         with_reducible refine (Zac.calls k a0_0 _ _ l0_1 a0_2 x1 X x3 _ ?side1 ?side2 HX.out).mono ?_
         (case side1=>refine cp ?_;exact (Kd.Zi HR0_1.out HB.out))
         (case side2=>exact HC0_1.out)
         rintro e w47z ⟨v48z,rfl,ho49z,hb2_⟩
         exact ⟨_,rfl,hK_ v48z _ _ ho49z hb2_⟩
        ·have HB:=bS hb_
         refine goes_ Tryz.func18 (by kernel_rfl) rfl #[.agg #[.bool a1_0,.slice A1_1 l1_1.length c1_1,.int .i64 a1_2]] (by rfl) rfl rfl pA ?_
         with_reducible refine (Zac.calls k a1_0 _ _ l1_1 a1_2 y1 Y y3 _ ?side1 ?side2 HY.out).mono ?_
         (case side1=>refine cp ?_;exact (Kd.Zi HR1_1.out HB.out))
         (case side2=>exact HC1_1.out)
         rintro e w50z ⟨v51z,rfl,ho49z,hb2_⟩
         exact ⟨_,rfl,hK_ v51z _ _ ho49z hb2_⟩
       rintro ⟨v48z,v51z,gb52z,gb53z⟩ w54z ⟨hS_,h0_,h1_,h2_,h3_,h4_,h5_,h6_,h7_,h8_,h9_,h10_,h11_,h12_,h13_,h14_,h15_,h16_,h17_,h18_,h19_,h20_,h21_,h22_,h23_,h24_,h25_⟩
       have HO55z:Aside0 (Kd.R (Kd.int .i64) 3 w54z w.heap.size (fun k_=>some k_ ≠ (v51z:Value).ownBlock) v48z X):=⟨h0_⟩
       have HO56z:Aside0 (Kd.R (Kd.int .i64) 3 w54z w.heap.size (fun k_=>some k_ ≠ (v48z:Value).ownBlock) v51z Y):=⟨h1_⟩
       have BK57z:Aside0 (w54z.heap[gb52z]? = some (.cells #[.bool false,.slice none 0 0,.int .i64 0] 30 (0,0))):=⟨h5_⟩
       have BK58z:Aside0 (w54z.heap[gb53z]? = some (.cells #[.bool false,.slice none 0 0,.int .i64 0] 30 (0,0))):=⟨h6_⟩
       have GW59z:Aside0 (w.heap.size<=gb52z):=⟨h7_⟩
       have GE60z:Aside0 (w.heap.size<=gb52z):=⟨h8_⟩
       have NB61z:Aside0 (gb0z ≠ gb52z):=⟨h9_⟩
       have NB62z:Aside0 (gb52z ≠ gb0z):=⟨h10_⟩
       have NB63z:Aside0 (gb5z ≠ gb52z):=⟨h11_⟩
       have NB64z:Aside0 (gb52z ≠ gb5z):=⟨h12_⟩
       have NB65z:Aside0 (gb12z ≠ gb52z):=⟨h13_⟩
       have NB66z:Aside0 (gb52z ≠ gb12z):=⟨h14_⟩
       have NB67z:Aside0 (gb53z ≠ gb52z):=⟨h15_⟩
       have NB68z:Aside0 (gb52z ≠ gb53z):=⟨h16_⟩
       have GW69z:Aside0 (w.heap.size<=gb53z):=⟨h17_⟩
       have GE70z:Aside0 (w.heap.size<=gb53z):=⟨h18_⟩
       have NB71z:Aside0 (gb0z ≠ gb53z):=⟨h19_⟩
       have NB72z:Aside0 (gb53z ≠ gb0z):=⟨h20_⟩
       have NB73z:Aside0 (gb5z ≠ gb53z):=⟨h21_⟩
       have NB74z:Aside0 (gb53z ≠ gb5z):=⟨h22_⟩
       have NB75z:Aside0 (gb12z ≠ gb53z):=⟨h23_⟩
       have NB76z:Aside0 (gb53z ≠ gb12z):=⟨h24_⟩
       replace BK2z:Aside0 (w54z.heap[gb0z]? = some (.cells #[.bool a0_0,.slice A0_1 l0_1.length c0_1,.int .i64 a0_2] 24 (0,0))):=⟨h2_⟩
       replace BK7z:Aside0 (w54z.heap[gb5z]? = some (.cells #[.bool a1_0,.slice A1_1 l1_1.length c1_1,.int .i64 a1_2] 24 (0,0))):=⟨h3_⟩
       replace BK14z:Aside0 (w54z.heap[gb12z]? = some (.cells #[.bool false,.slice none 0 0,.int .i64 0] 24 (0,0))):=⟨h4_⟩
       replace HB:Aside0 (Below w.heap.size w w54z):=⟨h25_⟩
       clear h0_ h1_ h2_ h3_ h4_ h5_ h6_ h7_ h8_ h9_ h10_ h11_ h12_ h13_ h14_ h15_ h16_ h17_ h18_ h19_ h20_ h21_ h22_ h23_ h24_ h25_
       have hHeld:w54z.cell? ⟨gb0z,0,none⟩=some (.bool a0_0)/\w54z.cell? ⟨gb0z,1,none⟩=some (.slice A0_1 l0_1.length c0_1)/\w54z.cell? ⟨gb0z,2,none⟩=some (.int .i64 a0_2)/\w54z.cell? ⟨gb5z,0,none⟩=some (.bool a1_0)/\w54z.cell? ⟨gb5z,1,none⟩=some (.slice A1_1 l1_1.length c1_1)/\w54z.cell? ⟨gb5z,2,none⟩=some (.int .i64 a1_2):=hS_
       obtain ⟨Ao77z,co78z,eo79z⟩:=Kd.Zh HO55z.out
       (first|subst eo79z|(injection eo79z with f1_ f2_ f3_;have f4_:=f1_.symm;have f5_:=f3_.symm;clear f1_ f2_ f3_;subst f4_;subst f5_))
       obtain ⟨Ao80z,co81z,eo82z⟩:=Kd.Zh HO56z.out
       (first|subst eo82z|(injection eo82z with f1_ f2_ f3_;have f4_:=f1_.symm;have f5_:=f3_.symm;clear f1_ f2_ f3_;subst f4_;subst f5_))
       refine norm_ (a':=?_) ?_ ?_
       rotate_left
       ·simp only [putAll,Act.put,List.setIfInBounds_toArray,List.set_cons_zero,List.set_cons_succ]
        rfl
       refine one_ (i:=6) (N:=none) #[true,true,true,true,true,true,true,false] rfl rfl (Zc6 HT_.out (by kernel_rfl)) (by decide) (fun K hK=>?_)
       have hs83z:w54z.cell? ⟨gb52z,0,none⟩=some (.bool false):=k0 BK57z 0
       have hfs84z:=Zcm BK57z.out 0
       have hns85z:=NB61z.out
       have hns86z:=NB63z.out
       have hns87z:=NB65z.out
       have hns88z:=NB67z.out
       have hms89z:=NB62z.out
       have hms90z:=NB64z.out
       have hms91z:=NB66z.out
       have hms92z:=NB68z.out
       have hs93z:w54z.cell? ⟨gb52z,1,none⟩=some (.slice none 0 0):=k0 BK57z 1
       have hfs94z:=Zcm BK57z.out 1
       have hns95z:=NB61z.out
       have hns96z:=NB63z.out
       have hns97z:=NB65z.out
       have hns98z:=NB67z.out
       have hms99z:=NB62z.out
       have hms100z:=NB64z.out
       have hms101z:=NB66z.out
       have hms102z:=NB68z.out
       have hs103z:w54z.cell? ⟨gb52z,2,none⟩=some (.int .i64 0):=k0 BK57z 2
       have hfs104z:=Zcm BK57z.out 2
       have hns105z:=NB61z.out
       have hns106z:=NB63z.out
       have hns107z:=NB65z.out
       have hns108z:=NB67z.out
       have hms109z:=NB62z.out
       have hms110z:=NB64z.out
       have hms111z:=NB66z.out
       have hms112z:=NB68z.out
       refine skip_ (w1:=?_) (by rfl) rfl ?_ ?_
       rotate_left
       ·go_simp
        rfl
       refine hK.out _ _ ⟨((cell_far (p:=⟨gb52z,_,none⟩) NB61z.out _).trans (((cell_far (p:=⟨gb52z,_,none⟩) NB61z.out _).trans (((cell_far (p:=⟨gb52z,_,none⟩) NB61z.out _).trans (hHeld.1)))))),((cell_far (p:=⟨gb52z,_,none⟩) NB61z.out _).trans (((cell_far (p:=⟨gb52z,_,none⟩) NB61z.out _).trans (((cell_far (p:=⟨gb52z,_,none⟩) NB61z.out _).trans (hHeld.2.1)))))),((cell_far (p:=⟨gb52z,_,none⟩) NB61z.out _).trans (((cell_far (p:=⟨gb52z,_,none⟩) NB61z.out _).trans (((cell_far (p:=⟨gb52z,_,none⟩) NB61z.out _).trans (hHeld.2.2.1)))))),((cell_far (p:=⟨gb52z,_,none⟩) NB63z.out _).trans (((cell_far (p:=⟨gb52z,_,none⟩) NB63z.out _).trans (((cell_far (p:=⟨gb52z,_,none⟩) NB63z.out _).trans (hHeld.2.2.2.1)))))),((cell_far (p:=⟨gb52z,_,none⟩) NB63z.out _).trans (((cell_far (p:=⟨gb52z,_,none⟩) NB63z.out _).trans (((cell_far (p:=⟨gb52z,_,none⟩) NB63z.out _).trans (hHeld.2.2.2.2.1)))))),((cell_far (p:=⟨gb52z,_,none⟩) NB63z.out _).trans (((cell_far (p:=⟨gb52z,_,none⟩) NB63z.out _).trans (((cell_far (p:=⟨gb52z,_,none⟩) NB63z.out _).trans (hHeld.2.2.2.2.2))))))⟩ (fun hHeld=>?_)
       clear hK K
       refine one_ (i:=7) (N:=none) #[true,true,true,true,true,true,true,true] rfl rfl (Zc6 HT_.out (by kernel_rfl)) (by decide) (fun K hK=>?_)
       have hs113z:w54z.cell? ⟨gb53z,0,none⟩=some (.bool false):=k0 BK58z 0
       have hfs114z:=Zcm BK58z.out 0
       have hns115z:=NB71z.out
       have hns116z:=NB73z.out
       have hns117z:=NB75z.out
       have hns118z:=NB68z.out
       have hms119z:=NB72z.out
       have hms120z:=NB74z.out
       have hms121z:=NB76z.out
       have hms122z:=NB67z.out
       have hs123z:w54z.cell? ⟨gb53z,1,none⟩=some (.slice none 0 0):=k0 BK58z 1
       have hfs124z:=Zcm BK58z.out 1
       have hns125z:=NB71z.out
       have hns126z:=NB73z.out
       have hns127z:=NB75z.out
       have hns128z:=NB68z.out
       have hms129z:=NB72z.out
       have hms130z:=NB74z.out
       have hms131z:=NB76z.out
       have hms132z:=NB67z.out
       have hs133z:w54z.cell? ⟨gb53z,2,none⟩=some (.int .i64 0):=k0 BK58z 2
       have hfs134z:=Zcm BK58z.out 2
       have hns135z:=NB71z.out
       have hns136z:=NB73z.out
       have hns137z:=NB75z.out
       have hns138z:=NB68z.out
       have hms139z:=NB72z.out
       have hms140z:=NB74z.out
       have hms141z:=NB76z.out
       have hms142z:=NB67z.out
       refine skip_ (w1:=?_) (by rfl) rfl ?_ ?_
       rotate_left
       ·go_simp
        rfl
       refine hK.out _ _ ⟨((cell_far (p:=⟨gb53z,_,none⟩) NB71z.out _).trans (((cell_far (p:=⟨gb53z,_,none⟩) NB71z.out _).trans (((cell_far (p:=⟨gb53z,_,none⟩) NB71z.out _).trans (hHeld.1)))))),((cell_far (p:=⟨gb53z,_,none⟩) NB71z.out _).trans (((cell_far (p:=⟨gb53z,_,none⟩) NB71z.out _).trans (((cell_far (p:=⟨gb53z,_,none⟩) NB71z.out _).trans (hHeld.2.1)))))),((cell_far (p:=⟨gb53z,_,none⟩) NB71z.out _).trans (((cell_far (p:=⟨gb53z,_,none⟩) NB71z.out _).trans (((cell_far (p:=⟨gb53z,_,none⟩) NB71z.out _).trans (hHeld.2.2.1)))))),((cell_far (p:=⟨gb53z,_,none⟩) NB73z.out _).trans (((cell_far (p:=⟨gb53z,_,none⟩) NB73z.out _).trans (((cell_far (p:=⟨gb53z,_,none⟩) NB73z.out _).trans (hHeld.2.2.2.1)))))),((cell_far (p:=⟨gb53z,_,none⟩) NB73z.out _).trans (((cell_far (p:=⟨gb53z,_,none⟩) NB73z.out _).trans (((cell_far (p:=⟨gb53z,_,none⟩) NB73z.out _).trans (hHeld.2.2.2.2.1)))))),((cell_far (p:=⟨gb53z,_,none⟩) NB73z.out _).trans (((cell_far (p:=⟨gb53z,_,none⟩) NB73z.out _).trans (((cell_far (p:=⟨gb53z,_,none⟩) NB73z.out _).trans (hHeld.2.2.2.2.2))))))⟩ (fun hHeld=>?_)
       clear hK K
       refine done_ (Zex HT_.out (by kernel_rfl)) ?_
       try go_wp2
       have n0_:Aside0 (Kd.R (Kd.int .i64) 3 ((((((w54z.setCell ⟨gb52z,0,none⟩ (.bool x1)).setCell ⟨gb52z,1,none⟩ (.slice Ao77z X.length co78z)).setCell ⟨gb52z,2,none⟩ (.int .i64 x3)).setCell ⟨gb53z,0,none⟩ (.bool y1)).setCell ⟨gb53z,1,none⟩ (.slice Ao80z Y.length co81z)).setCell ⟨gb53z,2,none⟩ (.int .i64 y3)) w.heap.size (fun k_=>some k_ ≠ (.slice Ao80z Y.length co81z:Value).ownBlock) (.slice Ao77z X.length co78z) X):=⟨by refine rp ?_;exact Kd.Zo (Kd.Zau (p:=⟨gb53z,2,none⟩) (Kd.Zau (p:=⟨gb53z,1,none⟩) (Kd.Zau (p:=⟨gb53z,0,none⟩) (Kd.Zau (p:=⟨gb52z,2,none⟩) (Kd.Zau (p:=⟨gb52z,1,none⟩) (Kd.Zau (p:=⟨gb52z,0,none⟩) (Kd.Zba (Kd.Zba HO55z.out BK57z.out (by decide)) BK58z.out (by decide)) (fun _ hk=>hk.1.2) (.bool x1)) (fun _ hk=>hk.1.2) (.slice Ao77z X.length co78z)) (fun _ hk=>hk.1.2) (.int .i64 x3)) (fun _ hk=>hk.2) (.bool y1)) (fun _ hk=>hk.2) (.slice Ao80z Y.length co81z)) (fun _ hk=>hk.2) (.int .i64 y3)) (fun _ hk=>hk.1.1)⟩
       have n1_:Aside0 (Kd.R (Kd.int .i64) 3 ((((((w54z.setCell ⟨gb52z,0,none⟩ (.bool x1)).setCell ⟨gb52z,1,none⟩ (.slice Ao77z X.length co78z)).setCell ⟨gb52z,2,none⟩ (.int .i64 x3)).setCell ⟨gb53z,0,none⟩ (.bool y1)).setCell ⟨gb53z,1,none⟩ (.slice Ao80z Y.length co81z)).setCell ⟨gb53z,2,none⟩ (.int .i64 y3)) w.heap.size (fun k_=>some k_ ≠ (.slice Ao77z X.length co78z:Value).ownBlock) (.slice Ao80z Y.length co81z) Y):=⟨by refine rp ?_;exact Kd.Zo (Kd.Zau (p:=⟨gb53z,2,none⟩) (Kd.Zau (p:=⟨gb53z,1,none⟩) (Kd.Zau (p:=⟨gb53z,0,none⟩) (Kd.Zau (p:=⟨gb52z,2,none⟩) (Kd.Zau (p:=⟨gb52z,1,none⟩) (Kd.Zau (p:=⟨gb52z,0,none⟩) (Kd.Zba (Kd.Zba HO56z.out BK57z.out (by decide)) BK58z.out (by decide)) (fun _ hk=>hk.1.2) (.bool x1)) (fun _ hk=>hk.1.2) (.slice Ao77z X.length co78z)) (fun _ hk=>hk.1.2) (.int .i64 x3)) (fun _ hk=>hk.2) (.bool y1)) (fun _ hk=>hk.2) (.slice Ao80z Y.length co81z)) (fun _ hk=>hk.2) (.int .i64 y3)) (fun _ hk=>hk.1.1)⟩
       have n2_:Aside0 (((((((w54z.setCell ⟨gb52z,0,none⟩ (.bool x1)).setCell ⟨gb52z,1,none⟩ (.slice Ao77z X.length co78z)).setCell ⟨gb52z,2,none⟩ (.int .i64 x3)).setCell ⟨gb53z,0,none⟩ (.bool y1)).setCell ⟨gb53z,1,none⟩ (.slice Ao80z Y.length co81z)).setCell ⟨gb53z,2,none⟩ (.int .i64 y3)).heap[gb0z]? = some (.cells #[.bool a0_0,.slice A0_1 l0_1.length c0_1,.int .i64 a0_2] 24 (0,0))):=⟨by refine bp ?_;refine Zcy ?_ NB71z.out _;refine bp ?_;refine Zcy ?_ NB71z.out _;refine bp ?_;refine Zcy ?_ NB71z.out _;refine bp ?_;refine Zcy ?_ NB61z.out _;refine bp ?_;refine Zcy ?_ NB61z.out _;refine bp ?_;refine Zcy ?_ NB61z.out _;exact bp BK2z.out⟩
       have n3_:Aside0 (((((((w54z.setCell ⟨gb52z,0,none⟩ (.bool x1)).setCell ⟨gb52z,1,none⟩ (.slice Ao77z X.length co78z)).setCell ⟨gb52z,2,none⟩ (.int .i64 x3)).setCell ⟨gb53z,0,none⟩ (.bool y1)).setCell ⟨gb53z,1,none⟩ (.slice Ao80z Y.length co81z)).setCell ⟨gb53z,2,none⟩ (.int .i64 y3)).heap[gb5z]? = some (.cells #[.bool a1_0,.slice A1_1 l1_1.length c1_1,.int .i64 a1_2] 24 (0,0))):=⟨by refine bp ?_;refine Zcy ?_ NB73z.out _;refine bp ?_;refine Zcy ?_ NB73z.out _;refine bp ?_;refine Zcy ?_ NB73z.out _;refine bp ?_;refine Zcy ?_ NB63z.out _;refine bp ?_;refine Zcy ?_ NB63z.out _;refine bp ?_;refine Zcy ?_ NB63z.out _;exact bp BK7z.out⟩
       have n4_:Aside0 (((((((w54z.setCell ⟨gb52z,0,none⟩ (.bool x1)).setCell ⟨gb52z,1,none⟩ (.slice Ao77z X.length co78z)).setCell ⟨gb52z,2,none⟩ (.int .i64 x3)).setCell ⟨gb53z,0,none⟩ (.bool y1)).setCell ⟨gb53z,1,none⟩ (.slice Ao80z Y.length co81z)).setCell ⟨gb53z,2,none⟩ (.int .i64 y3)).heap[gb12z]? = some (.cells #[.bool false,.slice none 0 0,.int .i64 0] 24 (0,0))):=⟨by refine bp ?_;refine Zcy ?_ NB75z.out _;refine bp ?_;refine Zcy ?_ NB75z.out _;refine bp ?_;refine Zcy ?_ NB75z.out _;refine bp ?_;refine Zcy ?_ NB65z.out _;refine bp ?_;refine Zcy ?_ NB65z.out _;refine bp ?_;refine Zcy ?_ NB65z.out _;exact bp BK14z.out⟩
       have n5_:Aside0 (((((((w54z.setCell ⟨gb52z,0,none⟩ (.bool x1)).setCell ⟨gb52z,1,none⟩ (.slice Ao77z X.length co78z)).setCell ⟨gb52z,2,none⟩ (.int .i64 x3)).setCell ⟨gb53z,0,none⟩ (.bool y1)).setCell ⟨gb53z,1,none⟩ (.slice Ao80z Y.length co81z)).setCell ⟨gb53z,2,none⟩ (.int .i64 y3)).heap[gb52z]? = some (.cells #[.bool x1,.slice Ao77z X.length co78z,.int .i64 x3] 30 (0,0))):=⟨by refine bp ?_;refine Zcy ?_ NB68z.out _;refine bp ?_;refine Zcy ?_ NB68z.out _;refine bp ?_;refine Zcy ?_ NB68z.out _;exact p3 BK57z⟩
       have n6_:Aside0 (((((((w54z.setCell ⟨gb52z,0,none⟩ (.bool x1)).setCell ⟨gb52z,1,none⟩ (.slice Ao77z X.length co78z)).setCell ⟨gb52z,2,none⟩ (.int .i64 x3)).setCell ⟨gb53z,0,none⟩ (.bool y1)).setCell ⟨gb53z,1,none⟩ (.slice Ao80z Y.length co81z)).setCell ⟨gb53z,2,none⟩ (.int .i64 y3)).heap[gb53z]? = some (.cells #[.bool y1,.slice Ao80z Y.length co81z,.int .i64 y3] 30 (0,0))):=⟨by refine bp ?_;refine Zd7 (cs:=#[.bool y1,.slice Ao80z Y.length co81z,.int .i64 0]) ?_ 2 _ rfl;refine bp ?_;refine Zd7 (cs:=#[.bool y1,.slice none 0 0,.int .i64 0]) ?_ 1 _ rfl;refine bp ?_;refine Zd7 (cs:=#[.bool false,.slice none 0 0,.int .i64 0]) ?_ 0 _ rfl;refine bp ?_;refine Zcy ?_ NB67z.out _;refine bp ?_;refine Zcy ?_ NB67z.out _;refine bp ?_;refine Zcy ?_ NB67z.out _;exact bp BK58z.out⟩
       have n7_:Aside0 (Below w.heap.size w ((((((w54z.setCell ⟨gb52z,0,none⟩ (.bool x1)).setCell ⟨gb52z,1,none⟩ (.slice Ao77z X.length co78z)).setCell ⟨gb52z,2,none⟩ (.int .i64 x3)).setCell ⟨gb53z,0,none⟩ (.bool y1)).setCell ⟨gb53z,1,none⟩ (.slice Ao80z Y.length co81z)).setCell ⟨gb53z,2,none⟩ (.int .i64 y3))):=⟨pB⟩
       generalize ((((((w54z.setCell ⟨gb52z,0,none⟩ (.bool x1)).setCell ⟨gb52z,1,none⟩ (.slice Ao77z X.length co78z)).setCell ⟨gb52z,2,none⟩ (.int .i64 x3)).setCell ⟨gb53z,0,none⟩ (.bool y1)).setCell ⟨gb53z,1,none⟩ (.slice Ao80z Y.length co81z)).setCell ⟨gb53z,2,none⟩ (.int .i64 y3))=w143z at n0_ n1_ n2_ n3_ n4_ n5_ n6_ n7_ ⊢
       have HO55z:=n0_
       have HO56z:=n1_
       have BK2z:=n2_
       have BK7z:=n3_
       have BK14z:=n4_
       have BK57z:=n5_
       have BK58z:=n6_
       have HB:=n7_
       clear n0_ n1_ n2_ n3_ n4_ n5_ n6_ n7_
       obtain ⟨xa0,xa1,xa2,xf0,xf1,xf2⟩:=cEc BK57z.out
       obtain ⟨ya0,ya1,ya2,yf0,yf1,yf2⟩:=cEc BK58z.out
       go_wp2
       go_region_held3 (fun w'=>w'.cell? ⟨gb52z,1,none⟩=some (.slice Ao77z X.length co78z)/\w'.cell? ⟨gb53z,1,none⟩=some (.slice Ao80z Y.length co81z)) (exact ⟨by assumption,by assumption⟩)
         (first
           | (go_at_call 93;refine (Za7.calls Ao77z co78z X n s _ (Kd.Zi (Kd.Zc HO55z.out).2.2 pl) (Kd.Zc HO55z.out).2.1 HS.out).mono ?_;rintro e w10z ⟨v,rfl,ho,hb⟩;obtain ⟨As,ds,eo,hl,hC⟩:=Kd.Zgb ho;subst eo;have HCs:=am hC;have HLs:=am hl;replace HO56z:=rbl HO56z hb;replace BK14z:=bb BK14z hb;replace BK57z:=bb BK57z hb;replace BK58z:=bb BK58z hb;replace HB:=bS hb;clear ho hb hl hC xa0 xa1 xa2 xf0 xf1 xf2 ya0 ya1 ya2 yf0 yf1 yf2;obtain ⟨xa0,xa1,xa2,xf0,xf1,xf2⟩:=cEc BK57z.out;obtain ⟨ya0,ya1,ya2,yf0,yf1,yf2⟩:=cEc BK58z.out)
           | (go_at_call 92;refine (Zu.calls k As ds s Ao80z co81z Y q1 q2 _ (Kd.Zi HCs.out pl) HLs.out (Kd.Zi (Kd.Zc HO56z.out).2.2 pl) (Kd.Zc HO56z.out).2.1 HQ.out).mono ?_;rintro e w11z ⟨v0,v1,rfl,ho0,ho1,hb⟩;have HQ1:=am (Kd.Zo ho0 (ok':=fun _=>True) (fun _ _=>trivial));have HQ2:=am (Kd.Zo ho1 (ok':=fun _=>True) (fun _ _=>trivial));replace BK14z:=bb BK14z hb;replace BK57z:=bb BK57z hb;replace BK58z:=bb BK58z hb;replace HB:=bS hb;clear ho0 ho1 hb xa0 xa1 xa2 xf0 xf1 xf2 ya0 ya1 ya2 yf0 yf1 yf2;obtain ⟨xa0,xa1,xa2,xf0,xf1,xf2⟩:=cEc BK57z.out;obtain ⟨ya0,ya1,ya2,yf0,yf1,yf2⟩:=cEc BK58z.out;obtain ⟨Aq,dq,eo⟩:=Kd.Zh HQ1.out;subst eo;obtain ⟨Ar,dr,eo⟩:=Kd.Zh HQ2.out;subst eo))
       have h:=HH.out
       clear HH hn
       unfold rdivE at h
       obtain ⟨sg,hsg⟩:∃ sg,(x1 != y1)=sg:=⟨_,rfl⟩
       rw [hsg] at h
       have hsg':(!x1 == y1)=sg:=by rw [<- hsg];rfl
       replace h:=dI h
       rcases h with ⟨d1,h⟩|⟨d1,h⟩
       · have d1':decide (q1.length<=40)=true:=decide_eq_true (by have := of_decide_eq_true d1;omega)
         have HM:=am h
         clear h
         go_wp2_with (first
           | ((with_reducible refine gd 11 ?_);refine bx 11 #[.bool false,.slice none 0 0,.int .i64 0] 30 (h:=?_);intro g11 hg w12z hbox hb;have BK11:=am hbox;have GW11:=gW hg;have NB14:=nL hg BK14z;have NB14':=nG hg BK14z;replace HQ1:=rbl HQ1 hb;replace HQ2:=rbl HQ2 hb;replace BK14z:=bb BK14z hb;replace HB:=bS hb;clear hb hbox hg xa0 xa1 xa2 xf0 xf1 xf2 ya0 ya1 ya2 yf0 yf1 yf2;obtain ⟨b0,b1,b2,f0,f1,f2⟩:=cEc BK11.out)
           | (go_at_call 23;(with_reducible refine (Zp.calls k sg Aq dq q1 ex r1 r2 r3 r4 _ ?side1 ?side2 HM.out).mono ?_);(case side1=>exact (Kd.Zc (n:=q1.length) (c:=dq) (z3 HQ1.out BK11.out (by decide) (.bool sg) (.slice Aq q1.length dq) (.int .i64 ex))).2.2);(case side2=>exact (Kd.Zc HQ1.out).2.1);rintro e w13z ⟨v4,rfl,ho,hb⟩;have HO:=am (Kd.Zn ho (Zb pB));replace BK14z:=bfb NB14 BK14z hb;replace HB:=bS hb;clear ho hb b0 b1 b2 f0 f1 f2;obtain ⟨b0,b1,b2,f0,f1,f2⟩:=cEc BK14z.out;obtain ⟨A7,d7,eo⟩:=Kd.Zh HO.out;subst eo))
         refine bodyPost_ret (Zae rfl _ _ gb12z 24 #[.bool r1,.slice A7 r2.length d7,.int .i64 r3] (0,0) _ rfl (by exact p3 BK14z) Tryz.underlying24 rfl (by kernel_rfl)) rfl ?_
         have F:=Zl4 (.bool r1) (.slice A7 r2.length d7) (.int .i64 r3) HB.out HO.out BK14z.out GW14z.out
         exact ⟨_,pE,F.1,F.2⟩
       · have d1':decide (q1.length<=40)=false:=decide_eq_false (by have := of_decide_eq_false d1;omega)
         obtain ⟨cut,hcut⟩:∃ cut,wrap64 ((q1.length:Int) - 40)=cut:=⟨_,rfl⟩
         obtain ⟨cj,hcj⟩:∃ cj,wrap64 (cut - 1)=cj:=⟨_,rfl⟩
         obtain ⟨e2,he2⟩:∃ e2,wrap64 (ex+cut)=e2:=⟨_,rfl⟩
         obtain ⟨lo,hlo⟩:∃ lo,q1.take cut.toNat=lo:=⟨_,rfl⟩
         obtain ⟨hi,hhi⟩:∃ hi,q1.drop cut.toNat=hi:=⟨_,rfl⟩
         rw [hcut,hcj,he2,hlo,hhi] at h
         split at h
         case isFalse=>cases h
         case isTrue hc =>
         replace h:=ob h
         obtain ⟨hf,HF,h⟩:=h
         replace h:=ob h
         obtain ⟨lw,HL,h⟩:=h
         replace h:=ob h
         obtain ⟨o,HOr,h⟩:=h
         obtain ⟨up,hup⟩:∃ up,upR o q2 hi=up:=⟨_,rfl⟩
         rw [hup] at h
         have HH:=am h
         have HUP:=am hup
         have HCN:=am (show cut.toNat<=q1.length by omega)
         have HLO:=am hlo
         have HHI:=am hhi
         have hll:cut.toNat=lo.length:=by rw [<- hlo,List.length_take];omega
         have hhl:q1.length - cut.toNat=hi.length:=by rw [<- hhi,List.length_drop]
         have HH0:=am (show 0 < hi.length by omega)
         obtain ⟨i0,hi0,_,hsz,_⟩:=info_parts info3
         have hct:=Zh7 (P:=Tryz.prog) 28 3 .i64 Tryz.underlying28 hi0 Aq q1.length dq cut (by omega) (by omega) (Kd.Zc HQ1.out).2.1
         have hcf:=Zif (P:=Tryz.prog) 28 3 .i64 Tryz.underlying28 hi0 1 hsz Aq q1.length dq cut (by omega) (by omega)
         rw [hll] at hct
         obtain ⟨A5,hA5⟩:∃ A5,(if dq=cut.toNat then Aq else Aq.map (·.add (cut.toNat*1)))=A5:=⟨_,rfl⟩
         obtain ⟨d5,hd5⟩:∃ d5,dq - cut.toNat=d5:=⟨_,rfl⟩
         rw [hhl,hA5,hd5] at hcf
         have HA5:=am hA5
         have HD5:=am hd5
         have c0:=eq_true (show 0<=cut by omega)
         have c9:=eq_true (show cut<=(q1.length:Int) by omega)
         have hp5:∀ (B:Option Addr) (W:World),Kd.C (Kd.int .i64) W B 1 [5]->Calls Tryz.prog 93 #[.slice B 1 1,.int .i64 cj] W (fun e w' => ∃ v0_:Value,e=.returned (v0_)/\Kd.R (Kd.int .i64) 3 w' W.heap.size (fun _=>True) v0_ hf/\Below W.heap.size W w'):=fun B W h=>Za7.calls B 1 [5] cj hf W h (Nat.le_refl _) HF.out
         have HP5:=am hp5
         clear h hup hlo hhi hll hhl hA5 hd5 hp5 hc
         go_wp2_with (first
           | ((with_reducible refine gd 11 ?_);refine bx 11 #[.bool false,.slice none 0 0,.int .i64 0] 30 (h:=?_);intro g11 hg w12z hbox hb;have BK11:=am hbox;have GW11:=gW hg;have NB14:=nL hg BK14z;have NB14':=nG hg BK14z;replace HQ1:=rbl HQ1 hb;replace HQ2:=rbl HQ2 hb;replace BK14z:=bb BK14z hb;replace HB:=bS hb;clear hb hbox hg xa0 xa1 xa2 xf0 xf1 xf2 ya0 ya1 ya2 yf0 yf1 yf2;obtain ⟨b0,b1,b2,f0,f1,f2⟩:=cEc BK11.out))
         go_quiet (fail)
         go_upto_region 15 with (first
           | (go_at_call 93;(with_reducible refine (HP5.out _ _ ?side1).mono ?_);(case side1=>exact Zsg (by simp));rintro e w14z ⟨v,rfl,ho,hb⟩;obtain ⟨Ah,dh,eo,hl,hC⟩:=Kd.Zgb ho;subst eo;have HCh:=am hC;have HLh:=am hl;replace HQ1:=am (Kd.Za (rp (z3 HQ1.out BK11.out (by decide) (.bool sg) (.slice Aq q1.length dq) (.int .i64 ex))) hb);replace HQ2:=am (Kd.Za (rp (z3 HQ2.out BK11.out (by decide) (.bool sg) (.slice Aq q1.length dq) (.int .i64 ex))) hb);replace BK14z:=bfb NB14 BK14z hb;have BK11':Aside0 (w14z.heap[g11]? = some (.cells #[.bool sg,.slice Aq q1.length dq,.int .i64 ex] 30 (0,0))):=⟨Zg (by exact p3 BK11) hb⟩;replace HB:=bS hb;clear ho hb hl hC b0 b1 b2 f0 f1 f2;obtain ⟨b0,b1,b2,f0,f1,f2⟩:=cEc BK11'.out)
           | (go_at_call 79;refine (Zso k Aq dq lo lw _ (q_lo HQ1.out HCN.out HLO.out).1 (q_lo HQ1.out HCN.out HLO.out).2 HL.out).mono ?_;rintro e w' ⟨rfl,m1,rfl⟩)
           | (go_at_call 94;refine (Zal.calls k Aq dq lw Ah dh hf o _ (Kd.Zi (q_lw HQ1.out HCN.out HLO.out (Zfi _ _ _ _ HL.out)).1 pl) (q_lw HQ1.out HCN.out HLO.out (Zfi _ _ _ _ HL.out)).2 (Kd.Zi HCh.out pl) HLh.out HOr.out).mono ?_;rintro e w' ⟨rfl,m2,rfl⟩))
         obtain ⟨ah,eA,hx0⟩:=Kd.Zay (q_hi HQ1.out HCN.out HHI.out HA5.out HD5.out).1 0 (by omega) (by have := HH0.out;omega)
         cases eA
         rw [show ((0:Int)).toNat=0 from rfl,Addr.add_zero'] at hx0
         have qi0:(0 < hi.length)=True:=eq_true HH0.out
         have hi1:(0:Int) < (hi.length:Int):=by have := HH0.out;omega
         have hi2:0 < hi.length:=HH0.out
         go_cut [17] (fun v17 wc=>v17=.bool up/\Drawn0 w14z wc)
         case first =>
           by_cases o1:0 < o
           · have o1b:decide (0 < o)=true:=decide_eq_true o1
             have hu:up=true:=by rw [<- HUP.out];simp [upR,o1]
             go_wp2
             go_meet
             case rel=>exact ⟨by rw [hu],pD⟩
           · have o1b:decide (0 < o)=false:=decide_eq_false o1
             by_cases o2:o=0
             · have o2b:(o == 0)=true:=beq_iff_eq.2 o2
               by_cases o3:0 < q2.length
               · have o3b:decide (0 < q2.length)=true:=decide_eq_true o3
                 have hu:up=true:=by rw [<- HUP.out];simp [upR,o2,o3]
                 clear o2
                 go_wp2
                 go_meet
                 case rel=>exact ⟨by rw [hu],pD⟩
               · have o3b:decide (0 < q2.length)=false:=decide_eq_false o3
                 have hu:up=(Int.tmod (rd hi 0) 2 == 1):=by rw [<- HUP.out];simp [upR,o2,o3];rfl
                 clear o2
                 go_wp2
                 go_meet
                 case rel=>exact ⟨by rw [hu],pD⟩
             · have o2b:(o == 0)=false:=beq_eq_false_iff_ne.2 o2
               have hu:up=false:=by rw [<- HUP.out];simp [upR,o1,o2]
               go_wp2
               go_meet
               case rel=>exact ⟨by rw [hu],pD⟩
         case rest =>
           obtain ⟨rfl,m3,rfl⟩:=hcut
           have HQm:=am (rp (W':=w14z.drewN m3) HQ1.out)
           have BKm:=am (bp (W':=w14z.drewN m3) BK11'.out)
           have h:=HH.out
           clear HH hx0 hct hcf HP5
           cases up
           · rw [if_neg (by decide)] at h
             have HM:=am h
             clear h
             go_wp2_with (first
               | (go_at_call 23;(with_reducible refine (Zp.calls k sg _ _ hi e2 r1 r2 r3 r4 _ ?side1 ?side2 HM.out).mono ?_);(case side1=>exact (q_hi (z2 HQm.out BKm.out 1 2 _ _) HCN.out HHI.out HA5.out HD5.out).1);(case side2=>exact (q_hi HQm.out HCN.out HHI.out HA5.out HD5.out).2);rintro e w17z ⟨v4,rfl,ho,hb⟩;have HO:=am (Kd.Zn ho (Zb pB));replace BK14z:=bfb NB14 BK14z hb;replace HB:=bS hb;clear ho hb b0 b1 b2 f0 f1 f2;obtain ⟨b0,b1,b2,f0,f1,f2⟩:=cEc BK14z.out;obtain ⟨A7,d7,eo⟩:=Kd.Zh HO.out;subst eo))
             refine bodyPost_ret (Zae rfl _ _ gb12z 24 #[.bool r1,.slice A7 r2.length d7,.int .i64 r3] (0,0) _ rfl (by exact p3 BK14z) Tryz.underlying24 rfl (by kernel_rfl)) rfl ?_
             have F:=Zl4 (.bool r1) (.slice A7 r2.length d7) (.int .i64 r3) HB.out HO.out BK14z.out GW14z.out
             exact ⟨_,pE,F.1,F.2⟩
           · rw [if_pos rfl] at h
             replace h:=ob h
             obtain ⟨hr,HP,h⟩:=h
             have HM:=am h
             have hp1:∀ (A:Option Addr) (n:Nat) (B:Option Addr) (W:World),Kd.C (Kd.int .i64) W A hi.length hi->hi.length<=n->Kd.C (Kd.int .i64) W B 1 [1]->Calls Tryz.prog 85 #[.slice A hi.length n,.slice B 1 1] W (fun e w' => ∃ v0_:Value,e=.returned (v0_)/\Kd.R (Kd.int .i64) 3 w' W.heap.size (fun _=>True) v0_ hr/\Below W.heap.size W w'):=fun A n B W h1 h2 h3=>Zw.calls k A n hi B 1 [1] hr W h1 h2 h3 (Nat.le_refl _) HP.out
             have HP1:=am hp1
             clear h hp1
             go_wp2_with (first
               | (go_at_call 85;(with_reducible refine (HP1.out _ _ _ _ ?side1 ?side2 ?side3).mono ?_);(case side1=>exact Kd.Zi (q_hi HQm.out HCN.out HHI.out HA5.out HD5.out).1 pl);(case side2=>exact (q_hi HQm.out HCN.out HHI.out HA5.out HD5.out).2);(case side3=>exact Zsg (by simp));rintro e w16z ⟨v5,rfl,ho,hb⟩;have HR5:=am ho;replace BK11':=bb BK11' hb;replace BK14z:=bb BK14z hb;replace HB:=bS hb;clear ho hb b0 b1 b2 f0 f1 f2;obtain ⟨b0,b1,b2,f0,f1,f2⟩:=cEc BK11'.out;obtain ⟨A6,d6,eo⟩:=Kd.Zh HR5.out;subst eo)
               | (go_at_call 23;(with_reducible refine (Zp.calls k sg _ _ hr e2 r1 r2 r3 r4 _ ?side1 ?side2 HM.out).mono ?_);(case side1=>exact (Kd.Zc (z2 HR5.out BK11'.out 1 2 _ _)).2.2);(case side2=>exact (Kd.Zc HR5.out).2.1);rintro e w17z ⟨v4,rfl,ho,hb⟩;have HO:=am (Kd.Zn ho (Zb pB));replace BK14z:=bfb NB14 BK14z hb;replace HB:=bS hb;clear ho hb b0 b1 b2 f0 f1 f2;obtain ⟨b0,b1,b2,f0,f1,f2⟩:=cEc BK14z.out;obtain ⟨A7,d7,eo⟩:=Kd.Zh HO.out;subst eo))
             refine bodyPost_ret (Zae rfl _ _ gb12z 24 #[.bool r1,.slice A7 r2.length d7,.int .i64 r3] (0,0) _ rfl (by exact p3 BK14z) Tryz.underlying24 rfl (by kernel_rfl)) rfl ?_
             have F:=Zl4 (.bool r1) (.slice A7 r2.length d7) (.int .i64 r3) HB.out HO.out BK14z.out GW14z.out
             exact ⟨_,pE,F.1,F.2⟩
   · simp only [Option.some.injEq,Prod.mk.injEq] at h
     obtain ⟨rfl,rfl,rfl,rfl⟩:=h
     go_enter Tryz.func34,Tryz.ntmps34
     go_wp2_with (first
       | ((with_reducible refine gd 2 ?_);refine bx 2 #[.bool a0_0,.slice A0_1 l0_1.length c0_1,.int .i64 a0_2] 24 (h:=?_);intro gb0z hg w1z hbox hb;have BK2z:=am hbox;have GW2z:=gW hg;replace HB:=bS hb;clear hb hbox hg)
       | ((with_reducible refine gd 3 ?_);refine bx 3 #[.bool a1_0,.slice A1_1 l1_1.length c1_1,.int .i64 a1_2] 24 (h:=?_);intro gb5z hg w6z hbox hb;have BK7z:=am hbox;have NB10z:=nL hg BK2z;have NB11z:=nG hg BK2z;replace BK2z:=bb BK2z hb;replace HB:=bS hb;clear hb hbox hg)
       | ((with_reducible refine gd 4 ?_);refine bx 4 #[.bool false,.slice none 0 0,.int .i64 0] 24 (h:=?_);intro gb12z hg w8z hbox hb;have BK14z:=am hbox;have GW14z:=gW hg;have NB17z:=nL hg BK2z;have NB18z:=nG hg BK2z;have NB19z:=nL hg BK7z;have NB20z:=nG hg BK7z;replace BK2z:=bb BK2z hb;replace BK7z:=bb BK7z hb;replace HB:=bS hb;clear hb hbox hg;obtain ⟨b0,b1,b2,f0,f1,f2⟩:=cEc BK2z.out)
       | ((have q_:=T1;clear q_);go_at_call 33;(with_reducible refine (Ze.calls k a0_0 _ _ l0_1 a0_2 t1 _ ?side1 ?side2 T1.out).mono ?_);(case side1=>exact Kd.Zi HR0_1.out pB);(case side2=>exact HC0_1.out);rintro e w9z ⟨rfl,hb⟩;replace BK2z:=bb BK2z hb;replace BK7z:=bb BK7z hb;replace BK14z:=bb BK14z hb;replace HB:=bS hb;clear T1 hb b0 b1 b2 f0 f1 f2;obtain ⟨b0,b1,b2,f0,f1,f2⟩:=cEc BK7z.out)
       | (go_at_call 33;(with_reducible refine (Ze.calls k a1_0 _ _ l1_1 a1_2 t2 _ ?side1 ?side2 T2.out).mono ?_);(case side1=>exact Kd.Zi HR1_1.out pB);(case side2=>exact HC1_1.out);rintro e w9z ⟨rfl,hb⟩;replace BK2z:=bb BK2z hb;replace BK7z:=bb BK7z hb;replace BK14z:=bb BK14z hb;replace HB:=bS hb;clear hb b0 b1 b2 f0 f1 f2;obtain ⟨b0,b1,b2,f0,f1,f2⟩:=cEc BK14z.out))
     refine bodyPost_ret (Zae rfl _ _ gb12z 24 #[.bool false,.slice none 0 0,.int .i64 0] (0,0) _ rfl (by exact p3 BK14z) Tryz.underlying24 rfl (by kernel_rfl)) rfl ?_
     exact ⟨_,pE,Kd.Zip _ _ _ _ _,pB⟩
 · simp only [Option.some.injEq,Prod.mk.injEq] at h
   obtain ⟨rfl,rfl,rfl,rfl⟩:=h
   go_enter Tryz.func34,Tryz.ntmps34
   go_wp2_with (first
     | ((with_reducible refine gd 2 ?_);refine bx 2 #[.bool a0_0,.slice A0_1 l0_1.length c0_1,.int .i64 a0_2] 24 (h:=?_);intro gb0z hg w1z hbox hb;have BK2z:=am hbox;have GW2z:=gW hg;replace HB:=bS hb;clear hb hbox hg)
     | ((with_reducible refine gd 3 ?_);refine bx 3 #[.bool a1_0,.slice A1_1 l1_1.length c1_1,.int .i64 a1_2] 24 (h:=?_);intro gb5z hg w6z hbox hb;have BK7z:=am hbox;have NB10z:=nL hg BK2z;have NB11z:=nG hg BK2z;replace BK2z:=bb BK2z hb;replace HB:=bS hb;clear hb hbox hg)
     | ((with_reducible refine gd 4 ?_);refine bx 4 #[.bool false,.slice none 0 0,.int .i64 0] 24 (h:=?_);intro gb12z hg w8z hbox hb;have BK14z:=am hbox;have GW14z:=gW hg;have NB17z:=nL hg BK2z;have NB18z:=nG hg BK2z;have NB19z:=nL hg BK7z;have NB20z:=nG hg BK7z;replace BK2z:=bb BK2z hb;replace BK7z:=bb BK7z hb;replace HB:=bS hb;clear hb hbox hg;obtain ⟨b0,b1,b2,f0,f1,f2⟩:=cEc BK2z.out)
     | ((have q_:=T1;clear q_);go_at_call 33;(with_reducible refine (Ze.calls k a0_0 _ _ l0_1 a0_2 t1 _ ?side1 ?side2 T1.out).mono ?_);(case side1=>exact Kd.Zi HR0_1.out pB);(case side2=>exact HC0_1.out);rintro e w9z ⟨rfl,hb⟩;replace BK2z:=bb BK2z hb;replace BK7z:=bb BK7z hb;replace BK14z:=bb BK14z hb;replace HB:=bS hb;clear T1 hb b0 b1 b2 f0 f1 f2;obtain ⟨b0,b1,b2,f0,f1,f2⟩:=cEc BK14z.out))
   refine bodyPost_ret (Zae rfl _ _ gb12z 24 #[.bool false,.slice none 0 0,.int .i64 0] (0,0) _ rfl (by exact p3 BK14z) Tryz.underlying24 rfl (by kernel_rfl)) rfl ?_
   exact ⟨_,pE,Kd.Zip _ _ _ _ _,pB⟩
end YtjbjkmccfocikaaGreatDoor.B
end
section
namespace YtjbjkmccfocikaaGreatDoor.B
open Go.RowKit YtjbjkmccfocikaaGreatDoorW.PrintWords YtjbjkmccfocikaaGreatDoorW.PrintLast YtjbjkmccfocikaaGreatDoorW.PrintMore
attribute [local go_sem] Zch Zci Zc9 Zda Zb1 Zb2 Zcp Zcq
def Zaw.j0:Nat->Bool->Bool->List Int->Int->Bool->List Int->Int->Option (Bool × List Int × Int × Int)
 | 0,_,_,_,_,_,_,_=>none
 | k+1,x21,qo,qt,qu,qv,qw,qx=>if x21=true then (some (false,([]:List Int),0,9)) else ((Zai.f k qo qt qu).bind fun q6=>((Zai.f k qv qw qx).bind fun q0=>(if (q0.1.length:Int)=0 then (some (false,([]:List Int),0,53)) else ((Zu.f k q6.1 q0.1).bind fun q7=>((Zp.f k qo q7.2 0).bind fun qn=>(some (qn.1,qn.2.1,qn.2.2.1,qn.2.2.2)))))))
def Zaw.f (k:Nat) (a0_0:Bool) (l0_1:List Int) (a0_2:Int) (a1_0:Bool) (l1_1:List Int) (a1_2:Int):Option (Bool × List Int × Int × Int):=(Ze.f k a0_0 l0_1 a0_2).bind fun qp=>(if qp=0 then ((Ze.f k a1_0 l1_1 a1_2).bind fun qq=>(Zaw.j0 k (qq != 0) a0_0 l0_1 a0_2 a1_0 l1_1 a1_2)) else (Zaw.j0 k true a0_0 l0_1 a0_2 a1_0 l1_1 a1_2))
theorem Zaw.calls (k:Nat) (a0_0:Bool) (A0_1:Option Addr) (c0_1:Nat) (l0_1:List Int) (a0_2:Int) (a1_0:Bool) (A1_1:Option Addr) (c1_1:Nat) (l1_1:List Int) (a1_2:Int) (r1:Bool) (r2:List Int) (r3:Int) (r4:Int) (w:World) (hr0_1:Kd.C (Kd.int .u32) w A0_1 l0_1.length l0_1) (hc0_1:l0_1.length<=c0_1) (hr1_1:Kd.C (Kd.int .u32) w A1_1 l1_1.length l1_1) (hc1_1:l1_1.length<=c1_1) (h:Zaw.f k a0_0 l0_1 a0_2 a1_0 l1_1 a1_2=some (r1,r2,r3,r4)) :
  Calls Tryz.prog 35 #[.agg #[.bool a0_0,.slice A0_1 l0_1.length c0_1,.int .i64 a0_2],.agg #[.bool a1_0,.slice A1_1 l1_1.length c1_1,.int .i64 a1_2]] w fun e w' => ∃ v1_:Value,e=.returned (.tuple #[.agg #[.bool r1,v1_,.int .i64 r3],.int .i64 r4])/\Kd.R (Kd.int .u32) 85 w' w.heap.size (fun _=>True) v1_ r2/\Below w.heap.size w w':=by
 have hu24:=Tryz.underlying24
 have hu30:=Tryz.underlying30
 have HR0_1:=am hr0_1
 have HC0_1:=am hc0_1
 clear hr0_1 hc0_1
 have HR1_1:=am hr1_1
 have HC1_1:=am hc1_1
 clear hr1_1 hc1_1
 have HB:=am (Below.refl w.heap.size w)
 have H:((Ze.f k a0_0 l0_1 a0_2).bind fun qp=>(if qp=0 then ((Ze.f k a1_0 l1_1 a1_2).bind fun qq=>(Zaw.j0 k (qq != 0) a0_0 l0_1 a0_2 a1_0 l1_1 a1_2)) else (Zaw.j0 k true a0_0 l0_1 a0_2 a1_0 l1_1 a1_2)))=some (r1,r2,r3,r4):=h
 clear h
 have HC3:=am H
 clear H
 go_enter Tryz.func35,Tryz.ntmps35
 go_upto_region 1 with (first|((with_reducible refine gd 2 ?_);refine bx 2 #[.bool a0_0,.slice A0_1 l0_1.length c0_1,.int .i64 a0_2] 24 (h:=?_);intro q9 hg w4 hbox hb;have qa:=am hbox;have ju:=gW hg;replace HB:=bS hb;clear hb hbox hg)|((with_reducible refine gd 3 ?_);refine bx 3 #[.bool a1_0,.slice A1_1 l1_1.length c1_1,.int .i64 a1_2] 24 (h:=?_);intro ja hg w5 hbox hb;have qb:=am hbox;have jv:=gW hg;have qh:=nL hg qa;have qi:=nG hg qa;replace qa:=bb qa hb;replace HB:=bS hb;clear hb hbox hg)|((with_reducible refine gd 4 ?_);refine bx 4 #[.bool false,.slice none 0 0,.int .i64 0] 24 (h:=?_);intro ql hg w6 hbox hb;have qc:=am hbox;have jw:=gW hg;have qe:=nL hg qa;have qf:=nG hg qa;have qj:=nL hg qb;have qk:=nG hg qb;replace qa:=bb qa hb;replace qb:=bb qb hb;replace HB:=bS hb;clear hb hbox hg))
 (try simp only [Act.put,List.setIfInBounds_toArray,List.set_cons_zero,List.set_cons_succ])
 go_cut [21] (fun v21 wc => ∃ (kq:Nat) (x21_2:Bool),v21=.bool x21_2/\Aside0 (Zaw.j0 kq x21_2 a0_0 l0_1 a0_2 a1_0 l1_1 a1_2=some (r1,r2,r3,r4))/\Aside0 (kq<=k)/\Aside0 (wc.heap[q9]? = some (.cells #[.bool a0_0,(.slice A0_1 l0_1.length c0_1),.int .i64 a0_2] 24 (0,0)))/\Aside0 (wc.heap[ja]? = some (.cells #[.bool a1_0,(.slice A1_1 l1_1.length c1_1),.int .i64 a1_2] 24 (0,0)))/\Aside0 (wc.heap[ql]? = some (.cells #[.bool false,(.slice none 0 0),.int .i64 0] 24 (0,0)))/\Aside0 (Below w.heap.size w wc))
 case first =>
  have H:=HC3.o
  clear HC3
  replace H:=ob H
  obtain ⟨qp,A7,H⟩:=H
  replace H:=eI H
  rcases H with ⟨c8b0,c8b1,H⟩|⟨c8,c8b0,c8b1,H⟩
  ·(first|rw [c8b0]|(simp only [Zb9,Zdj];rw [c8b0])|skip)
   replace H:=ob H
   obtain ⟨qq,A9,H⟩:=H
   have H':=am H
   clear H
   have jx:=qh.o
   have qab:=qi.o
   have jy:=qe.o
   have qac:=qf.o
   obtain ⟨_,_,_,_,_,_⟩:=cEc qa.o
   go_wp2_with (first|(refine gL (some 15) Tryz.func33 #[.agg #[.bool a0_0,.slice A0_1 l0_1.length c0_1,.int .i64 a0_2]] (h:=?_);(with_reducible refine (Ze.calls k a0_0 _ _ l0_1 a0_2 qp _ ?side1 ?side2 A7.o).mono ?_);(case side1=>exact cB HR0_1 HB);(case side2=>exact HC0_1.o);rintro e w13 ⟨rfl,hb⟩;refine ⟨_,rfl,?_⟩;replace qa:=bb qa hb;replace qb:=bb qb hb;replace qc:=bb qc hb;replace HB:=bS hb;have jz:=qj.o;have qad:=qk.o;obtain ⟨_,_,_,_,_,_⟩:=cEc qb.o)|(go_at_call 33;(with_reducible refine (Ze.calls k a1_0 _ _ l1_1 a1_2 qq _ ?side1 ?side2 A9.o).mono ?_);(case side1=>exact cB HR1_1 HB);(case side2=>exact HC1_1.o);rintro e w16 ⟨rfl,hb⟩;replace qa:=bb qa hb;replace qb:=bb qb hb;replace qc:=bb qc hb;replace HB:=bS hb))
   go_meet
   case rel=>exact ⟨_,((qq != 0)),pR,H',pJ,⟨Zg qa.o pl⟩,⟨Zg qb.o pl⟩,⟨Zg qc.o pl⟩,⟨pB⟩⟩
  ·(first|rw [c8b0]|(simp only [Zb9,Zdj];rw [c8b0])|skip)
   have H':=am H
   clear H
   have j1:=qh.o
   have qae:=qi.o
   have j2:=qe.o
   have qaf:=qf.o
   obtain ⟨_,_,_,_,_,_⟩:=cEc qa.o
   go_wp2_with (first|(refine gL (some 15) Tryz.func33 #[.agg #[.bool a0_0,.slice A0_1 l0_1.length c0_1,.int .i64 a0_2]] (h:=?_);(with_reducible refine (Ze.calls k a0_0 _ _ l0_1 a0_2 qp _ ?side1 ?side2 A7.o).mono ?_);(case side1=>exact cB HR0_1 HB);(case side2=>exact HC0_1.o);rintro e w20 ⟨rfl,hb⟩;refine ⟨_,rfl,?_⟩;replace qa:=bb qa hb;replace qb:=bb qb hb;replace qc:=bb qc hb;replace HB:=bS hb))
   go_meet
   case rel=>exact ⟨_,(true),pR,H',pJ,⟨Zg qa.o pl⟩,⟨Zg qb.o pl⟩,⟨Zg qc.o pl⟩,⟨pB⟩⟩
 case rest =>
  clear HC3
  obtain ⟨kq,x21_2,rfl,HA,HJ2,qa,qb,qc,HB⟩:=hcut
  cases kq with
  | zero=>exact absurd HA.out (by simp [Zaw.j0])
  | succ kj2 =>
   have H:=HA.out
   clear HA
   simp only [Zaw.j0] at H
   replace H:=tI (t:=x21_2) H
   rcases H with ⟨rfl,H⟩|⟨rfl,H⟩
   ·simp only [Option.some.injEq,Prod.mk.injEq] at H
    obtain ⟨rfl,rfl,rfl,rfl⟩:=H
    have j3:=qf.o
    have qag:=qe.o
    have j4:=qk.o
    have qah:=qj.o
    obtain ⟨_,_,_,_,_,_⟩:=cEc qc.o
    go_wp2
    refine bodyPost_ret (Zae rfl _ _ ql 24 #[.bool false,.slice none 0 0,.int .i64 0] (0,0) _ rfl (by exact p3 qc) Tryz.underlying24 rfl (by kernel_rfl)) rfl ?_
    exact ⟨_,pE,pN,pB⟩
   ·replace H:=ob H
    obtain ⟨⟨qs,jb,jc⟩,A25,H⟩:=H;(try dsimp only at H)
    replace H:=ob H
    obtain ⟨⟨qr,jd,je⟩,A26,H⟩:=H;(try dsimp only at H)
    replace H:=eI H
    rcases H with ⟨c27b0,c27b1,H⟩|⟨c27,c27b0,c27b1,H⟩
    ·simp only [Option.some.injEq,Prod.mk.injEq] at H
     obtain ⟨rfl,rfl,rfl,rfl⟩:=H
     have j5:=qh.o
     have qai:=qi.o
     have j6:=qe.o
     have qaj:=qf.o
     obtain ⟨_,_,_,_,_,_⟩:=cEc qa.o
     go_wp2_with (first|(refine gL (some 25) Tryz.func95 #[.agg #[.bool a0_0,.slice A0_1 l0_1.length c0_1,.int .i64 a0_2]] (h:=?_);(with_reducible refine (Zai.calls kj2 a0_0 _ _ l0_1 a0_2 qs jb jc _ ?side1 ?side2 A25.o).mono ?_);(case side1=>exact cB HR0_1 HB);(case side2=>exact HC0_1.o);rintro e w31 ⟨js,rfl,ho0,hb⟩;refine ⟨_,rfl,?_⟩;have qd:=am (Kd.Zfa ho0 (Zb pB));replace qa:=bb qa hb;replace qb:=bb qb hb;replace qc:=bb qc hb;replace HB:=bS hb;have j7:=qj.o;have qak:=qk.o;obtain ⟨_,_,_,_,_,_⟩:=cEc qb.o)|(refine gL (some 31) Tryz.func95 #[.agg #[.bool a1_0,.slice A1_1 l1_1.length c1_1,.int .i64 a1_2]] (h:=?_);(with_reducible refine (Zai.calls kj2 a1_0 _ _ l1_1 a1_2 qr jd je _ ?side1 ?side2 A26.o).mono ?_);(case side1=>exact cB HR1_1 HB);(case side2=>exact HC1_1.o);rintro e w34 ⟨jt,rfl,ho0,hb⟩;refine ⟨_,rfl,?_⟩;have qg:=am (Kd.Zfa (Kd.Zr9 ho0 (Kd.Q_lt (by (with_reducible repeat (first|apply Kd.Zdq|apply Kd.Zdr|apply Kd.Zei));exact qd.o))) (Zb pB));replace qd:=am (Kd.Zm4 (by (with_reducible repeat (first|apply Kd.Zdq|apply Kd.Zdr|apply Kd.Zei));exact qd.o) (Kd.Zr7 ho0) hb);replace qa:=bb qa hb;replace qb:=bb qb hb;replace qc:=bb qc hb;replace HB:=bS hb;obtain ⟨qao,qap,jl,_⟩:=Kd.Zj0 qg.o;subst jl;obtain ⟨_,_,_,_,_,_⟩:=cEc qc.o))
     refine bodyPost_ret (Zae rfl _ _ ql 24 #[.bool false,.slice none 0 0,.int .i64 0] (0,0) _ rfl (by exact p3 qc) Tryz.underlying24 rfl (by kernel_rfl)) rfl ?_
     exact ⟨_,pE,pN,pB⟩
    ·have c27b2:¬ (qr=[]):=fun h_=>c27 (by rw [h_];rfl)
     replace H:=ob H
     obtain ⟨⟨jq,q1⟩,A37,H⟩:=H;(try dsimp only at H)
     replace H:=ob H
     obtain ⟨⟨q2,q3,q4,jr⟩,A38,H⟩:=H;(try dsimp only at H)
     simp only [Option.some.injEq,Prod.mk.injEq] at H
     obtain ⟨rfl,rfl,rfl,rfl⟩:=H
     have j8:=qh.o
     have qal:=qi.o
     have j9:=qe.o
     have qam:=qf.o
     obtain ⟨_,_,_,_,_,_⟩:=cEc qa.o
     go_wp2_with (first|(refine gL (some 25) Tryz.func95 #[.agg #[.bool a0_0,.slice A0_1 l0_1.length c0_1,.int .i64 a0_2]] (h:=?_);(with_reducible refine (Zai.calls kj2 a0_0 _ _ l0_1 a0_2 qs jb jc _ ?side1 ?side2 A25.o).mono ?_);(case side1=>exact cB HR0_1 HB);(case side2=>exact HC0_1.o);rintro e w42 ⟨js,rfl,ho0,hb⟩;refine ⟨_,rfl,?_⟩;have qd:=am (Kd.Zfa ho0 (Zb pB));replace qa:=bb qa hb;replace qb:=bb qb hb;replace qc:=bb qc hb;replace HB:=bS hb;have qaa:=qj.o;have qan:=qk.o;obtain ⟨_,_,_,_,_,_⟩:=cEc qb.o)|(refine gL (some 31) Tryz.func95 #[.agg #[.bool a1_0,.slice A1_1 l1_1.length c1_1,.int .i64 a1_2]] (h:=?_);(with_reducible refine (Zai.calls kj2 a1_0 _ _ l1_1 a1_2 qr jd je _ ?side1 ?side2 A26.o).mono ?_);(case side1=>exact cB HR1_1 HB);(case side2=>exact HC1_1.o);rintro e w45 ⟨jt,rfl,ho0,hb⟩;refine ⟨_,rfl,?_⟩;have qg:=am (Kd.Zfa (Kd.Zr9 ho0 (Kd.Q_lt (by (with_reducible repeat (first|apply Kd.Zdq|apply Kd.Zdr|apply Kd.Zei));exact qd.o))) (Zb pB));replace qd:=am (Kd.Zm4 (by (with_reducible repeat (first|apply Kd.Zdq|apply Kd.Zdr|apply Kd.Zei));exact qd.o) (Kd.Zr7 ho0) hb);replace qa:=bb qa hb;replace qb:=bb qb hb;replace qc:=bb qc hb;replace HB:=bS hb;obtain ⟨jf,ji,jm,_⟩:=Kd.Zj0 qg.o;subst jm;obtain ⟨jg,jj,jn,_⟩:=Kd.Zj0 qd.o;subst jn)|(refine gL (some 42) Tryz.func92 #[.slice jg qs.length jj,.slice jf qr.length ji] (h:=?_);(with_reducible refine (Zu.calls kj2 _ _ qs _ _ qr jq q1 _ ?side1 ?side2 ?side3 ?side4 A37.o).mono ?_);(case side1=>exact Kd.Zi (Kd.Zds qd.o).2.2 pl);(case side2=>exact (Kd.Zds qd.o).2.1);(case side3=>exact Kd.Zi (Kd.Zds qg.o).2.2 pl);(case side4=>exact (Kd.Zds qg.o).2.1);rintro e w48 ⟨qaq,qar,rfl,ho0,ho1,hb⟩;refine ⟨_,rfl,?_⟩;have qy:=am (Kd.Zn (Kd.Zf (Kd.Zf ho0 (Kd.Q_lt (by (with_reducible repeat (first|apply Kd.Zdq|apply Kd.Zdr|apply Kd.Zei));exact qd.o))) (Kd.Q_lt (by (with_reducible repeat (first|apply Kd.Zdq|apply Kd.Zdr|apply Kd.Zei));exact qg.o))) (Zb pB));have qm:=am (Kd.Zn (Kd.Zf (Kd.Zf ho1 (Kd.Q_lt (by (with_reducible repeat (first|apply Kd.Zdq|apply Kd.Zdr|apply Kd.Zei));exact qd.o))) (Kd.Q_lt (by (with_reducible repeat (first|apply Kd.Zdq|apply Kd.Zdr|apply Kd.Zei));exact qg.o))) (Zb pB));replace qd:=am (Kd.Zha (Kd.Zm6 (Kd.Zm6 (Kd.Zty (by (with_reducible repeat (first|apply Kd.Zdq|apply Kd.Zdr|apply Kd.Zei));exact qd.o) hb) (Kd.Zt ho0)) (Kd.Zt ho1)) (fun _ h_=>h_.1));replace qg:=am (Kd.Zha (Kd.Zm6 (Kd.Zm6 (Kd.Zty (by (with_reducible repeat (first|apply Kd.Zdq|apply Kd.Zdr|apply Kd.Zei));exact qg.o) hb) (Kd.Zt ho0)) (Kd.Zt ho1)) (fun _ h_=>h_.1));replace qa:=bb qa hb;replace qb:=bb qb hb;replace qc:=bb qc hb;replace HB:=bS hb;obtain ⟨_,_,_,_,_,_⟩:=cEc qa.o;obtain ⟨jh,jk,jo⟩:=Kd.Zh qm.o;subst jo)|(refine gL (some 49) Tryz.func23 #[.agg #[.bool a0_0,.slice jh q1.length jk,.int .i64 0]] (h:=?_);(with_reducible refine (Zp.calls kj2 a0_0 _ _ q1 0 q2 q3 q4 jr _ ?side1 ?side2 A38.o).mono ?_);(case side1=>exact Kd.Zi (Kd.Zc qm.o).2.2 pl);(case side2=>exact (Kd.Zc qm.o).2.1);rintro e w51 ⟨qas,rfl,ho0,hb⟩;refine ⟨_,rfl,?_⟩;replace qd:=am (Kd.Zej (by (with_reducible repeat (first|apply Kd.Zdq|apply Kd.Zdr|apply Kd.Zei));exact qd.o) hb);replace qg:=am (Kd.Zej (by (with_reducible repeat (first|apply Kd.Zdq|apply Kd.Zdr|apply Kd.Zei));exact qg.o) hb);replace qy:=rbl qy hb;replace qm:=rbl qm hb;have qz:=am (Kd.Zn ho0 (Zb pB));replace qa:=bb qa hb;replace qb:=bb qb hb;replace qc:=bb qc hb;replace HB:=bS hb;obtain ⟨_,_,_,_,_,_⟩:=cEc qc.o;obtain ⟨q5,q8,jp⟩:=Kd.Zh qz.o;subst jp))
     refine bodyPost_ret (Zae rfl _ _ ql 24 #[.bool q2,.slice q5 q3.length q8,.int .i64 q4] (0,0) _ rfl (by exact p3 qc) Tryz.underlying24 rfl (by kernel_rfl)) rfl ?_
     exact ⟨_,pE,by refine rp ?_;exact Kd.Zo (Kd.Zau (p:=⟨ql,2,none⟩) (Kd.Zau (p:=⟨ql,1,none⟩) (Kd.Zau (p:=⟨ql,0,none⟩) (Kd.Zba qz.o qc.o (by decide)) (fun _ hk=>hk.2) (.bool q2)) (fun _ hk=>hk.2) (.slice q5 q3.length q8)) (fun _ hk=>hk.2) (.int .i64 q4)) (fun _ hk=>trivial),pB⟩
def Zbd.f (k:Nat) (a0_0:Bool) (l0_1:List Int) (a0_2:Int):Option (Bool × List Int × Int × Int):=(Ze.f k a0_0 l0_1 a0_2).bind fun qg=>(if qg=0 then ((Zai.f k a0_0 l0_1 a0_2).bind fun qh=>(if qh.2.1=true then ((Zak.f k a0_0 l0_1 a0_2 a0_0).bind fun qa=>(some (qa.1,qa.2.1,qa.2.2.1,qa.2.2.2))) else ((Zak.f k a0_0 l0_1 a0_2 false).bind fun qb=>(some (qb.1,qb.2.1,qb.2.2.1,qb.2.2.2))))) else (some (false,([]:List Int),0,9)))
theorem Zbd.leaf {P:Prop} (h:P:=by
 go_enter Tryz.func36,Tryz.ntmps36
 go_wp2_with (first|((with_reducible refine gd 1 ?_);refine bx 1 #[.bool a0_0,.slice A0_1 l0_1.length c0_1,.int .i64 a0_2] 24 (h:=?_);intro gb0z hg w1z hbox hb;have BK2z:=am hbox;have GW3z:=gW hg;replace HB:=bS hb;clear hb hbox hg)|((with_reducible refine gd 2 ?_);refine bx 2 #[.bool false,.slice none 0 0,.int .i64 0] 24 (h:=?_);intro gb5z hg w6z hbox hb;have BK7z:=am hbox;have GW8z:=gW hg;have q7:=nL hg BK2z;have q8:=nG hg BK2z;replace BK2z:=bb BK2z hb;replace HB:=bS hb;clear hb hbox hg;have jb:=q7.o;have jc:=q8.o;obtain ⟨_,_,_,_,_,_⟩:=cEc BK2z.o)|((have q_:=A4;clear q_);refine gL (some 8) Tryz.func33 #[.agg #[.bool a0_0,.slice A0_1 l0_1.length c0_1,.int .i64 a0_2]] (h:=?_);(with_reducible refine (Ze.calls k a0_0 _ _ l0_1 a0_2 qg _ ?side1 ?side2 A2.o).mono ?_);(case side1=>exact cB HR0_1 HB);(case side2=>exact HC0_1.o);rintro e w20z ⟨rfl,hb⟩;refine ⟨_,rfl,?_⟩;replace BK2z:=bb BK2z hb;replace BK7z:=bb BK7z hb;replace HB:=bS hb;obtain ⟨qj,qk,ql,qs,qt,qu⟩:=cEc BK2z.o)|(refine gL (some 13) Tryz.func95 #[.agg #[.bool a0_0,.slice A0_1 l0_1.length c0_1,.int .i64 a0_2]] (h:=?_);(with_reducible refine (Zai.calls k a0_0 _ _ l0_1 a0_2 q9 true ja _ ?side1 ?side2 A4.o).mono ?_);(case side1=>exact cB HR0_1 HB);(case side2=>exact HC0_1.o);rintro e w27z ⟨v28z,rfl,ho29z,hb⟩;refine ⟨_,rfl,?_⟩;have qd:=am (Kd.Zfa ho29z (Zb pB));replace BK2z:=bb BK2z hb;replace BK7z:=bb BK7z hb;replace HB:=bS hb;obtain ⟨qm,qn,qo,qv,qw,qx⟩:=cEc BK2z.o)|(refine gL (some 23) Tryz.func96 #[.agg #[.bool a0_0,.slice A0_1 l0_1.length c0_1,.int .i64 a0_2],.bool a0_0] (h:=?_);(with_reducible refine (Zak.calls k a0_0 _ _ l0_1 a0_2 a0_0 q1 q2 q3 je _ ?side1 ?side2 A6.o).mono ?_);(case side1=>exact cB HR0_1 HB);(case side2=>exact HC0_1.o);rintro e w37z ⟨v38z,rfl,ho29z,hb⟩;refine ⟨_,rfl,?_⟩;replace qd:=am (Kd.Zej (by (with_reducible repeat (first|apply Kd.Zdq|apply Kd.Zdr|apply Kd.Zei));exact qd.o) hb);have qe:=am (Kd.Zn ho29z (Zb pB));replace BK2z:=bb BK2z hb;replace BK7z:=bb BK7z hb;replace HB:=bS hb;obtain ⟨qp,qq,qr,qy,qz,q0⟩:=cEc BK7z.o;obtain ⟨qc,qf,qi⟩:=Kd.Zh qe.o;subst qi)|(refine gL (some 13) Tryz.func95 #[.agg #[.bool a0_0,.slice A0_1 l0_1.length c0_1,.int .i64 a0_2]] (h:=?_);(with_reducible refine (Zai.calls k a0_0 _ _ l0_1 a0_2 q9 false ja _ ?side1 ?side2 A4.o).mono ?_);(case side1=>exact cB HR0_1 HB);(case side2=>exact HC0_1.o);rintro e w27z ⟨v28z,rfl,ho29z,hb⟩;refine ⟨_,rfl,?_⟩;have qd:=am (Kd.Zfa ho29z (Zb pB));replace BK2z:=bb BK2z hb;replace BK7z:=bb BK7z hb;replace HB:=bS hb;obtain ⟨qm,qn,qo,qv,qw,qx⟩:=cEc BK2z.o)|(refine gL (some 23) Tryz.func96 #[.agg #[.bool a0_0,.slice A0_1 l0_1.length c0_1,.int .i64 a0_2],.bool false] (h:=?_);(with_reducible refine (Zak.calls k a0_0 _ _ l0_1 a0_2 false q4 q5 q6 jf _ ?side1 ?side2 A18.o).mono ?_);(case side1=>exact cB HR0_1 HB);(case side2=>exact HC0_1.o);rintro e w37z ⟨v38z,rfl,ho29z,hb⟩;refine ⟨_,rfl,?_⟩;replace qd:=am (Kd.Zej (by (with_reducible repeat (first|apply Kd.Zdq|apply Kd.Zdr|apply Kd.Zei));exact qd.o) hb);have qe:=am (Kd.Zn ho29z (Zb pB));replace BK2z:=bb BK2z hb;replace BK7z:=bb BK7z hb;replace HB:=bS hb;obtain ⟨qp,qq,qr,qy,qz,q0⟩:=cEc BK7z.o;obtain ⟨qc,qf,qi⟩:=Kd.Zh qe.o;subst qi)|((have q_:(qg != 0)=true:=c3b1;clear q_);refine gL (some 8) Tryz.func33 #[.agg #[.bool a0_0,.slice A0_1 l0_1.length c0_1,.int .i64 a0_2]] (h:=?_);(with_reducible refine (Ze.calls k a0_0 _ _ l0_1 a0_2 qg _ ?side1 ?side2 A2.o).mono ?_);(case side1=>exact cB HR0_1 HB);(case side2=>exact HC0_1.o);rintro e w20z ⟨rfl,hb⟩;refine ⟨_,rfl,?_⟩;replace BK2z:=bb BK2z hb;replace BK7z:=bb BK7z hb;replace HB:=bS hb;obtain ⟨qj,qk,ql,qs,qt,qu⟩:=cEc BK7z.o))
 first
  | have q_:=A6
    refine bodyPost_ret (Zae rfl _ _ gb5z 24 #[.bool q1,.slice qc q2.length qf,.int .i64 q3] (0,0) _ rfl (by exact p3 BK7z) Tryz.underlying24 rfl (by kernel_rfl)) rfl ?_
    exact ⟨_,pE,by refine rp ?_;exact Kd.Zo (Kd.Zau (p:=⟨gb5z,2,none⟩) (Kd.Zau (p:=⟨gb5z,1,none⟩) (Kd.Zau (p:=⟨gb5z,0,none⟩) (Kd.Zba qe.o BK7z.o (by decide)) (fun _ hk=>hk.2) (.bool q1)) (fun _ hk=>hk.2) (.slice qc q2.length qf)) (fun _ hk=>hk.2) (.int .i64 q3)) (fun _ hk=>trivial),pB⟩
  | have q_:=A18
    refine bodyPost_ret (Zae rfl _ _ gb5z 24 #[.bool q4,.slice qc q5.length qf,.int .i64 q6] (0,0) _ rfl (by exact p3 BK7z) Tryz.underlying24 rfl (by kernel_rfl)) rfl ?_
    exact ⟨_,pE,by refine rp ?_;exact Kd.Zo (Kd.Zau (p:=⟨gb5z,2,none⟩) (Kd.Zau (p:=⟨gb5z,1,none⟩) (Kd.Zau (p:=⟨gb5z,0,none⟩) (Kd.Zba qe.o BK7z.o (by decide)) (fun _ hk=>hk.2) (.bool q4)) (fun _ hk=>hk.2) (.slice qc q5.length qf)) (fun _ hk=>hk.2) (.int .i64 q6)) (fun _ hk=>trivial),pB⟩
  | refine bodyPost_ret (Zae rfl _ _ gb5z 24 #[.bool false,.slice none 0 0,.int .i64 0] (0,0) _ rfl (by exact p3 BK7z) Tryz.underlying24 rfl (by kernel_rfl)) rfl ?_
    exact ⟨_,pE,pN,pB⟩):P:=h
theorem Zbd.calls (k:Nat) (a0_0:Bool) (A0_1:Option Addr) (c0_1:Nat) (l0_1:List Int) (a0_2:Int) (r1:Bool) (r2:List Int) (r3:Int) (r4:Int) (w:World) (hr0_1:Kd.C (Kd.int .u32) w A0_1 l0_1.length l0_1) (hc0_1:l0_1.length<=c0_1) (h:Zbd.f k a0_0 l0_1 a0_2=some (r1,r2,r3,r4)) :
  Calls Tryz.prog 36 #[.agg #[.bool a0_0,.slice A0_1 l0_1.length c0_1,.int .i64 a0_2]] w fun e w' => ∃ v1_:Value,e=.returned (.tuple #[.agg #[.bool r1,v1_,.int .i64 r3],.int .i64 r4])/\Kd.R (Kd.int .u32) 85 w' w.heap.size (fun _=>True) v1_ r2/\Below w.heap.size w w':=by
 have hu24:=Tryz.underlying24
 have HR0_1:=am hr0_1
 have HC0_1:=am hc0_1
 clear hr0_1 hc0_1
 have HB:=am (Below.refl w.heap.size w)
 have H:((Ze.f k a0_0 l0_1 a0_2).bind fun qg=>(if qg=0 then ((Zai.f k a0_0 l0_1 a0_2).bind fun qh=>(if qh.2.1=true then ((Zak.f k a0_0 l0_1 a0_2 a0_0).bind fun qa=>(some (qa.1,qa.2.1,qa.2.2.1,qa.2.2.2))) else ((Zak.f k a0_0 l0_1 a0_2 false).bind fun qb=>(some (qb.1,qb.2.1,qb.2.2.1,qb.2.2.2))))) else (some (false,([]:List Int),0,9))))=some (r1,r2,r3,r4):=h
 clear h
 replace H:=ob H
 obtain ⟨qg,A2,H⟩:=H
 replace H:=eI H
 rcases H with ⟨c3b0,c3b1,H⟩|⟨c3,c3b0,c3b1,H⟩
 ·replace H:=ob H
  obtain ⟨⟨q9,jd,ja⟩,A4,H⟩:=H;(try dsimp only at H)
  replace H:=tI (t:=jd) H
  rcases H with ⟨rfl,H⟩|⟨rfl,H⟩
  ·replace H:=ob H
   obtain ⟨⟨q1,q2,q3,je⟩,A6,H⟩:=H;(try dsimp only at H)
   simp only [Option.some.injEq,Prod.mk.injEq] at H
   obtain ⟨rfl,rfl,rfl,rfl⟩:=H
   exact Zbd.leaf
  ·replace H:=ob H
   obtain ⟨⟨q4,q5,q6,jf⟩,A18,H⟩:=H;(try dsimp only at H)
   simp only [Option.some.injEq,Prod.mk.injEq] at H
   obtain ⟨rfl,rfl,rfl,rfl⟩:=H
   exact Zbd.leaf
 ·simp only [Option.some.injEq,Prod.mk.injEq] at H
  obtain ⟨rfl,rfl,rfl,rfl⟩:=H
  exact Zbd.leaf
def Zbg.f (k:Nat) (a0_0:Bool) (l0_1:List Int) (a0_2:Int):Option (Bool × List Int × Int × Int):=(Ze.f k a0_0 l0_1 a0_2).bind fun qg=>(if qg=0 then ((Zai.f k a0_0 l0_1 a0_2).bind fun qh=>(if qh.2.1=true then ((Zak.f k a0_0 l0_1 a0_2 (!a0_0)).bind fun qa=>(some (qa.1,qa.2.1,qa.2.2.1,qa.2.2.2))) else ((Zak.f k a0_0 l0_1 a0_2 false).bind fun qb=>(some (qb.1,qb.2.1,qb.2.2.1,qb.2.2.2))))) else (some (false,([]:List Int),0,9)))
theorem Zbg.leaf {P:Prop} (h:P:=by
 go_enter Tryz.func37,Tryz.ntmps37
 go_wp2_with (first|((with_reducible refine gd 1 ?_);refine bx 1 #[.bool a0_0,.slice A0_1 l0_1.length c0_1,.int .i64 a0_2] 24 (h:=?_);intro gb0z hg w1z hbox hb;have BK2z:=am hbox;have GW3z:=gW hg;replace HB:=bS hb;clear hb hbox hg)|((with_reducible refine gd 2 ?_);refine bx 2 #[.bool false,.slice none 0 0,.int .i64 0] 24 (h:=?_);intro gb5z hg w6z hbox hb;have BK7z:=am hbox;have GW8z:=gW hg;have q7:=nL hg BK2z;have q8:=nG hg BK2z;replace BK2z:=bb BK2z hb;replace HB:=bS hb;clear hb hbox hg;have jb:=q7.o;have jc:=q8.o;obtain ⟨_,_,_,_,_,_⟩:=cEc BK2z.o)|((have q_:=A4;clear q_);refine gL (some 8) Tryz.func33 #[.agg #[.bool a0_0,.slice A0_1 l0_1.length c0_1,.int .i64 a0_2]] (h:=?_);(with_reducible refine (Ze.calls k a0_0 _ _ l0_1 a0_2 qg _ ?side1 ?side2 A2.o).mono ?_);(case side1=>exact cB HR0_1 HB);(case side2=>exact HC0_1.o);rintro e w20z ⟨rfl,hb⟩;refine ⟨_,rfl,?_⟩;replace BK2z:=bb BK2z hb;replace BK7z:=bb BK7z hb;replace HB:=bS hb;obtain ⟨qj,qk,ql,qs,qt,qu⟩:=cEc BK2z.o)|(refine gL (some 13) Tryz.func95 #[.agg #[.bool a0_0,.slice A0_1 l0_1.length c0_1,.int .i64 a0_2]] (h:=?_);(with_reducible refine (Zai.calls k a0_0 _ _ l0_1 a0_2 q9 true ja _ ?side1 ?side2 A4.o).mono ?_);(case side1=>exact cB HR0_1 HB);(case side2=>exact HC0_1.o);rintro e w27z ⟨v28z,rfl,ho29z,hb⟩;refine ⟨_,rfl,?_⟩;have qd:=am (Kd.Zfa ho29z (Zb pB));replace BK2z:=bb BK2z hb;replace BK7z:=bb BK7z hb;replace HB:=bS hb;obtain ⟨qm,qn,qo,qv,qw,qx⟩:=cEc BK2z.o)|(refine gL (some 24) Tryz.func96 #[.agg #[.bool a0_0,.slice A0_1 l0_1.length c0_1,.int .i64 a0_2],.bool (!a0_0)] (h:=?_);(with_reducible refine (Zak.calls k a0_0 _ _ l0_1 a0_2 (!a0_0) q1 q2 q3 je _ ?side1 ?side2 A6.o).mono ?_);(case side1=>exact cB HR0_1 HB);(case side2=>exact HC0_1.o);rintro e w37z ⟨v38z,rfl,ho29z,hb⟩;refine ⟨_,rfl,?_⟩;replace qd:=am (Kd.Zej (by (with_reducible repeat (first|apply Kd.Zdq|apply Kd.Zdr|apply Kd.Zei));exact qd.o) hb);have qe:=am (Kd.Zn ho29z (Zb pB));replace BK2z:=bb BK2z hb;replace BK7z:=bb BK7z hb;replace HB:=bS hb;obtain ⟨qp,qq,qr,qy,qz,q0⟩:=cEc BK7z.o;obtain ⟨qc,qf,qi⟩:=Kd.Zh qe.o;subst qi)|(refine gL (some 13) Tryz.func95 #[.agg #[.bool a0_0,.slice A0_1 l0_1.length c0_1,.int .i64 a0_2]] (h:=?_);(with_reducible refine (Zai.calls k a0_0 _ _ l0_1 a0_2 q9 false ja _ ?side1 ?side2 A4.o).mono ?_);(case side1=>exact cB HR0_1 HB);(case side2=>exact HC0_1.o);rintro e w27z ⟨v28z,rfl,ho29z,hb⟩;refine ⟨_,rfl,?_⟩;have qd:=am (Kd.Zfa ho29z (Zb pB));replace BK2z:=bb BK2z hb;replace BK7z:=bb BK7z hb;replace HB:=bS hb;obtain ⟨qm,qn,qo,qv,qw,qx⟩:=cEc BK2z.o)|(refine gL (some 24) Tryz.func96 #[.agg #[.bool a0_0,.slice A0_1 l0_1.length c0_1,.int .i64 a0_2],.bool false] (h:=?_);(with_reducible refine (Zak.calls k a0_0 _ _ l0_1 a0_2 false q4 q5 q6 jf _ ?side1 ?side2 A18.o).mono ?_);(case side1=>exact cB HR0_1 HB);(case side2=>exact HC0_1.o);rintro e w37z ⟨v38z,rfl,ho29z,hb⟩;refine ⟨_,rfl,?_⟩;replace qd:=am (Kd.Zej (by (with_reducible repeat (first|apply Kd.Zdq|apply Kd.Zdr|apply Kd.Zei));exact qd.o) hb);have qe:=am (Kd.Zn ho29z (Zb pB));replace BK2z:=bb BK2z hb;replace BK7z:=bb BK7z hb;replace HB:=bS hb;obtain ⟨qp,qq,qr,qy,qz,q0⟩:=cEc BK7z.o;obtain ⟨qc,qf,qi⟩:=Kd.Zh qe.o;subst qi)|((have q_:(qg != 0)=true:=c3b1;clear q_);refine gL (some 8) Tryz.func33 #[.agg #[.bool a0_0,.slice A0_1 l0_1.length c0_1,.int .i64 a0_2]] (h:=?_);(with_reducible refine (Ze.calls k a0_0 _ _ l0_1 a0_2 qg _ ?side1 ?side2 A2.o).mono ?_);(case side1=>exact cB HR0_1 HB);(case side2=>exact HC0_1.o);rintro e w20z ⟨rfl,hb⟩;refine ⟨_,rfl,?_⟩;replace BK2z:=bb BK2z hb;replace BK7z:=bb BK7z hb;replace HB:=bS hb;obtain ⟨qj,qk,ql,qs,qt,qu⟩:=cEc BK7z.o))
 first
  | have q_:=A6
    refine bodyPost_ret (Zae rfl _ _ gb5z 24 #[.bool q1,.slice qc q2.length qf,.int .i64 q3] (0,0) _ rfl (by exact p3 BK7z) Tryz.underlying24 rfl (by kernel_rfl)) rfl ?_
    exact ⟨_,pE,by refine rp ?_;exact Kd.Zo (Kd.Zau (p:=⟨gb5z,2,none⟩) (Kd.Zau (p:=⟨gb5z,1,none⟩) (Kd.Zau (p:=⟨gb5z,0,none⟩) (Kd.Zba qe.o BK7z.o (by decide)) (fun _ hk=>hk.2) (.bool q1)) (fun _ hk=>hk.2) (.slice qc q2.length qf)) (fun _ hk=>hk.2) (.int .i64 q3)) (fun _ hk=>trivial),pB⟩
  | have q_:=A18
    refine bodyPost_ret (Zae rfl _ _ gb5z 24 #[.bool q4,.slice qc q5.length qf,.int .i64 q6] (0,0) _ rfl (by exact p3 BK7z) Tryz.underlying24 rfl (by kernel_rfl)) rfl ?_
    exact ⟨_,pE,by refine rp ?_;exact Kd.Zo (Kd.Zau (p:=⟨gb5z,2,none⟩) (Kd.Zau (p:=⟨gb5z,1,none⟩) (Kd.Zau (p:=⟨gb5z,0,none⟩) (Kd.Zba qe.o BK7z.o (by decide)) (fun _ hk=>hk.2) (.bool q4)) (fun _ hk=>hk.2) (.slice qc q5.length qf)) (fun _ hk=>hk.2) (.int .i64 q6)) (fun _ hk=>trivial),pB⟩
  | refine bodyPost_ret (Zae rfl _ _ gb5z 24 #[.bool false,.slice none 0 0,.int .i64 0] (0,0) _ rfl (by exact p3 BK7z) Tryz.underlying24 rfl (by kernel_rfl)) rfl ?_
    exact ⟨_,pE,pN,pB⟩):P:=h
theorem Zbg.calls (k:Nat) (a0_0:Bool) (A0_1:Option Addr) (c0_1:Nat) (l0_1:List Int) (a0_2:Int) (r1:Bool) (r2:List Int) (r3:Int) (r4:Int) (w:World) (hr0_1:Kd.C (Kd.int .u32) w A0_1 l0_1.length l0_1) (hc0_1:l0_1.length<=c0_1) (h:Zbg.f k a0_0 l0_1 a0_2=some (r1,r2,r3,r4)) :
  Calls Tryz.prog 37 #[.agg #[.bool a0_0,.slice A0_1 l0_1.length c0_1,.int .i64 a0_2]] w fun e w' => ∃ v1_:Value,e=.returned (.tuple #[.agg #[.bool r1,v1_,.int .i64 r3],.int .i64 r4])/\Kd.R (Kd.int .u32) 85 w' w.heap.size (fun _=>True) v1_ r2/\Below w.heap.size w w':=by
 have hu24:=Tryz.underlying24
 have HR0_1:=am hr0_1
 have HC0_1:=am hc0_1
 clear hr0_1 hc0_1
 have HB:=am (Below.refl w.heap.size w)
 have H:((Ze.f k a0_0 l0_1 a0_2).bind fun qg=>(if qg=0 then ((Zai.f k a0_0 l0_1 a0_2).bind fun qh=>(if qh.2.1=true then ((Zak.f k a0_0 l0_1 a0_2 (!a0_0)).bind fun qa=>(some (qa.1,qa.2.1,qa.2.2.1,qa.2.2.2))) else ((Zak.f k a0_0 l0_1 a0_2 false).bind fun qb=>(some (qb.1,qb.2.1,qb.2.2.1,qb.2.2.2))))) else (some (false,([]:List Int),0,9))))=some (r1,r2,r3,r4):=h
 clear h
 replace H:=ob H
 obtain ⟨qg,A2,H⟩:=H
 replace H:=eI H
 rcases H with ⟨c3b0,c3b1,H⟩|⟨c3,c3b0,c3b1,H⟩
 ·replace H:=ob H
  obtain ⟨⟨q9,jd,ja⟩,A4,H⟩:=H;(try dsimp only at H)
  replace H:=tI (t:=jd) H
  rcases H with ⟨rfl,H⟩|⟨rfl,H⟩
  ·replace H:=ob H
   obtain ⟨⟨q1,q2,q3,je⟩,A6,H⟩:=H;(try dsimp only at H)
   simp only [Option.some.injEq,Prod.mk.injEq] at H
   obtain ⟨rfl,rfl,rfl,rfl⟩:=H
   exact Zbg.leaf
  ·replace H:=ob H
   obtain ⟨⟨q4,q5,q6,jf⟩,A18,H⟩:=H;(try dsimp only at H)
   simp only [Option.some.injEq,Prod.mk.injEq] at H
   obtain ⟨rfl,rfl,rfl,rfl⟩:=H
   exact Zbg.leaf
 ·simp only [Option.some.injEq,Prod.mk.injEq] at H
  obtain ⟨rfl,rfl,rfl,rfl⟩:=H
  exact Zbg.leaf
def Zcn.f (k:Nat) (a0_0:Bool) (l0_1:List Int) (a0_2:Int):Option (Bool × List Int × Int × Int):=(Ze.f k a0_0 l0_1 a0_2).bind fun qg=>(if qg=0 then ((Zai.f k a0_0 l0_1 a0_2).bind fun qh=>((Zak.f k a0_0 l0_1 a0_2 qh.2.2).bind fun qc=>(some (qc.1,qc.2.1,qc.2.2.1,qc.2.2.2)))) else (some (false,([]:List Int),0,9)))
theorem Zcn.calls (k:Nat) (a0_0:Bool) (A0_1:Option Addr) (c0_1:Nat) (l0_1:List Int) (a0_2:Int) (r1:Bool) (r2:List Int) (r3:Int) (r4:Int) (w:World) (hr0_1:Kd.C (Kd.int .u32) w A0_1 l0_1.length l0_1) (hc0_1:l0_1.length<=c0_1) (h:Zcn.f k a0_0 l0_1 a0_2=some (r1,r2,r3,r4)) :
  Calls Tryz.prog 38 #[.agg #[.bool a0_0,.slice A0_1 l0_1.length c0_1,.int .i64 a0_2]] w fun e w' => ∃ v1_:Value,e=.returned (.tuple #[.agg #[.bool r1,v1_,.int .i64 r3],.int .i64 r4])/\Kd.R (Kd.int .u32) 85 w' w.heap.size (fun _=>True) v1_ r2/\Below w.heap.size w w':=by
 have hu24:=Tryz.underlying24
 have HR0_1:=am hr0_1
 have HC0_1:=am hc0_1
 clear hr0_1 hc0_1
 have HB:=am (Below.refl w.heap.size w)
 have H:((Ze.f k a0_0 l0_1 a0_2).bind fun qg=>(if qg=0 then ((Zai.f k a0_0 l0_1 a0_2).bind fun qh=>((Zak.f k a0_0 l0_1 a0_2 qh.2.2).bind fun qc=>(some (qc.1,qc.2.1,qc.2.2.1,qc.2.2.2)))) else (some (false,([]:List Int),0,9))))=some (r1,r2,r3,r4):=h
 clear h
 replace H:=ob H
 obtain ⟨qg,A2,H⟩:=H
 replace H:=eI H
 rcases H with ⟨c3b0,c3b1,H⟩|⟨c3,c3b0,c3b1,H⟩
 ·replace H:=ob H
  obtain ⟨⟨qw,qx,qk⟩,A4,H⟩:=H;(try dsimp only at H)
  replace H:=ob H
  obtain ⟨⟨ql,qm,qn,qy⟩,A5,H⟩:=H;(try dsimp only at H)
  simp only [Option.some.injEq,Prod.mk.injEq] at H
  obtain ⟨rfl,rfl,rfl,rfl⟩:=H
  go_enter Tryz.func38,Tryz.ntmps38
  go_wp2_with (first|((with_reducible refine gd 1 ?_);refine bx 1 #[.bool a0_0,.slice A0_1 l0_1.length c0_1,.int .i64 a0_2] 24 (h:=?_);intro qu hg w6 hbox hb;have qa:=am hbox;have qr:=gW hg;have qp:=gW hg;replace HB:=bS hb;clear hb hbox hg)|((with_reducible refine gd 2 ?_);refine bx 2 #[.bool false,.slice none 0 0,.int .i64 0] 24 (h:=?_);intro qf hg w7 hbox hb;have qb:=am hbox;have qs:=gW hg;have qq:=gW hg;have qd:=nL hg qa;have qe:=nG hg qa;replace qa:=bb qa hb;replace HB:=bS hb;clear hb hbox hg;have hnb8:=qd.o;have hnc8:=qe.o;obtain ⟨_,_,_,_,_,_⟩:=cEc qa.o)|(refine gL (some 8) Tryz.func33 #[.agg #[.bool a0_0,.slice A0_1 l0_1.length c0_1,.int .i64 a0_2]] (h:=?_);(with_reducible refine (Ze.calls k a0_0 _ _ l0_1 a0_2 qg _ ?side1 ?side2 A2.o).mono ?_);(case side1=>exact cB HR0_1 HB);(case side2=>exact HC0_1.o);rintro e w10 ⟨rfl,hb⟩;refine ⟨_,rfl,?_⟩;replace qa:=bb qa hb;replace qb:=bb qb hb;replace HB:=bS hb;obtain ⟨_,_,_,_,_,_⟩:=cEc qa.o)|(refine gL (some 13) Tryz.func95 #[.agg #[.bool a0_0,.slice A0_1 l0_1.length c0_1,.int .i64 a0_2]] (h:=?_);(with_reducible refine (Zai.calls k a0_0 _ _ l0_1 a0_2 qw qx qk _ ?side1 ?side2 A4.o).mono ?_);(case side1=>exact cB HR0_1 HB);(case side2=>exact HC0_1.o);rintro e w12 ⟨q1,rfl,ho0,hb⟩;refine ⟨_,rfl,?_⟩;have qi:=am (Kd.Zfa ho0 (Zb pB));replace qa:=bb qa hb;replace qb:=bb qb hb;replace HB:=bS hb;obtain ⟨_,_,_,_,_,_⟩:=cEc qa.o)|(refine gL (some 19) Tryz.func96 #[.agg #[.bool a0_0,.slice A0_1 l0_1.length c0_1,.int .i64 a0_2],.bool qk] (h:=?_);(with_reducible refine (Zak.calls k a0_0 _ _ l0_1 a0_2 qk ql qm qn qy _ ?side1 ?side2 A5.o).mono ?_);(case side1=>exact cB HR0_1 HB);(case side2=>exact HC0_1.o);rintro e w14 ⟨q2,rfl,ho0,hb⟩;refine ⟨_,rfl,?_⟩;replace qi:=am (Kd.Zej (by (with_reducible repeat (first|apply Kd.Zdq|apply Kd.Zdr|apply Kd.Zei));exact qi.o) hb);have qj:=am (Kd.Zn ho0 (Zb pB));replace qa:=bb qa hb;replace qb:=bb qb hb;replace HB:=bS hb;obtain ⟨_,_,_,_,_,_⟩:=cEc qb.o;obtain ⟨qo,qt,qv⟩:=Kd.Zh qj.o;subst qv))
  refine bodyPost_ret (Zae rfl _ _ qf 24 #[.bool ql,.slice qo qm.length qt,.int .i64 qn] (0,0) _ rfl (by exact p3 qb) Tryz.underlying24 rfl (by kernel_rfl)) rfl ?_
  exact ⟨_,pE,by refine rp ?_;exact Kd.Zo (Kd.Zau (p:=⟨qf,2,none⟩) (Kd.Zau (p:=⟨qf,1,none⟩) (Kd.Zau (p:=⟨qf,0,none⟩) (Kd.Zba qj.o qb.o (by decide)) (fun _ hk=>hk.2) (.bool ql)) (fun _ hk=>hk.2) (.slice qo qm.length qt)) (fun _ hk=>hk.2) (.int .i64 qn)) (fun _ hk=>trivial),pB⟩
 ·simp only [Option.some.injEq,Prod.mk.injEq] at H
  obtain ⟨rfl,rfl,rfl,rfl⟩:=H
  go_enter Tryz.func38,Tryz.ntmps38
  go_wp2_with (first|((with_reducible refine gd 1 ?_);refine bx 1 #[.bool a0_0,.slice A0_1 l0_1.length c0_1,.int .i64 a0_2] 24 (h:=?_);intro qu hg w17 hbox hb;have qa:=am hbox;have qr:=gW hg;have qp:=gW hg;replace HB:=bS hb;clear hb hbox hg)|((with_reducible refine gd 2 ?_);refine bx 2 #[.bool false,.slice none 0 0,.int .i64 0] 24 (h:=?_);intro qf hg w18 hbox hb;have qb:=am hbox;have qs:=gW hg;have qq:=gW hg;have qd:=nL hg qa;have qe:=nG hg qa;replace qa:=bb qa hb;replace HB:=bS hb;clear hb hbox hg;have qz:=qd.o;have q0:=qe.o;obtain ⟨_,_,_,_,_,_⟩:=cEc qa.o)|(refine gL (some 8) Tryz.func33 #[.agg #[.bool a0_0,.slice A0_1 l0_1.length c0_1,.int .i64 a0_2]] (h:=?_);(with_reducible refine (Ze.calls k a0_0 _ _ l0_1 a0_2 qg _ ?side1 ?side2 A2.o).mono ?_);(case side1=>exact cB HR0_1 HB);(case side2=>exact HC0_1.o);rintro e w21 ⟨rfl,hb⟩;refine ⟨_,rfl,?_⟩;replace qa:=bb qa hb;replace qb:=bb qb hb;replace HB:=bS hb;obtain ⟨_,_,_,_,_,_⟩:=cEc qb.o))
  refine bodyPost_ret (Zae rfl _ _ qf 24 #[.bool false,.slice none 0 0,.int .i64 0] (0,0) _ rfl (by exact p3 qb) Tryz.underlying24 rfl (by kernel_rfl)) rfl ?_
  exact ⟨_,pE,pN,pB⟩
def Zfh.f (k:Nat) (a0_0:Bool) (l0_1:List Int) (a0_2:Int):Option (Bool × List Int × Int × Int):=(Za6.f k a0_0 l0_1 a0_2).bind fun qg=>(if qg=0 then ((Zan.f k false l0_1 a0_2).bind fun qc=>(some (qc.1,qc.2.1,qc.2.2.1,qc.2.2.2))) else (some (false,([]:List Int),0,qg)))
theorem Zfh.calls (k:Nat) (a0_0:Bool) (A0_1:Option Addr) (c0_1:Nat) (l0_1:List Int) (a0_2:Int) (r1:Bool) (r2:List Int) (r3:Int) (r4:Int) (w:World) (hr0_1:Kd.C (Kd.int .u32) w A0_1 l0_1.length l0_1) (hc0_1:l0_1.length<=c0_1) (h:Zfh.f k a0_0 l0_1 a0_2=some (r1,r2,r3,r4)) :
  Calls Tryz.prog 40 #[.agg #[.bool a0_0,.slice A0_1 l0_1.length c0_1,.int .i64 a0_2]] w fun e w' => ∃ v1_:Value,e=.returned (.tuple #[.agg #[.bool r1,v1_,.int .i64 r3],.int .i64 r4])/\Kd.R (Kd.int .u32) 85 w' w.heap.size (fun _=>True) v1_ r2/\Below w.heap.size w w':=by
 have hu24:=Tryz.underlying24
 have HR0_1:=am hr0_1
 have HC0_1:=am hc0_1
 clear hr0_1 hc0_1
 have HB:=am (Below.refl w.heap.size w)
 have H:((Za6.f k a0_0 l0_1 a0_2).bind fun qg=>(if qg=0 then ((Zan.f k false l0_1 a0_2).bind fun qc=>(some (qc.1,qc.2.1,qc.2.2.1,qc.2.2.2))) else (some (false,([]:List Int),0,qg))))=some (r1,r2,r3,r4):=h
 clear h
 replace H:=ob H
 obtain ⟨qg,A2,H⟩:=H
 replace H:=eI H
 rcases H with ⟨c3b0,c3b1,H⟩|⟨c3,c3b0,c3b1,H⟩
 ·replace H:=ob H
  obtain ⟨⟨qi,qj,qk,qt⟩,A4,H⟩:=H;(try dsimp only at H)
  simp only [Option.some.injEq,Prod.mk.injEq] at H
  obtain ⟨rfl,rfl,rfl,rfl⟩:=H
  go_enter Tryz.func40,Tryz.ntmps40
  go_wp2_with (first|((with_reducible refine gd 1 ?_);refine bx 1 #[.bool a0_0,.slice A0_1 l0_1.length c0_1,.int .i64 a0_2] 24 (h:=?_);intro qr hg w5 hbox hb;have qa:=am hbox;have qo:=gW hg;have qm:=gW hg;replace HB:=bS hb;clear hb hbox hg)|((with_reducible refine gd 2 ?_);refine bx 2 #[.bool false,.slice none 0 0,.int .i64 0] 24 (h:=?_);intro qf hg w6 hbox hb;have qb:=am hbox;have qp:=gW hg;have qn:=gW hg;have qd:=nL hg qa;have qe:=nG hg qa;replace qa:=bb qa hb;replace HB:=bS hb;clear hb hbox hg;have hnb7:=qd.o;have hnc7:=qe.o;obtain ⟨_,_,_,_,_,_⟩:=cEc qa.o)|(refine gL (some 6) Tryz.func55 #[.agg #[.bool a0_0,.slice A0_1 l0_1.length c0_1,.int .i64 a0_2]] (h:=?_);(with_reducible refine (Za6.calls k a0_0 _ _ l0_1 a0_2 qg _ ?side1 ?side2 A2.o).mono ?_);(case side1=>exact cB HR0_1 HB);(case side2=>exact HC0_1.o);rintro e w9 ⟨rfl,hb⟩;refine ⟨_,rfl,?_⟩;replace qa:=bb qa hb;replace qb:=bb qb hb;replace HB:=bS hb;obtain ⟨_,_,_,_,_,_⟩:=cEc qa.o)|(refine gL (some 15) Tryz.func60 #[.bool false,.slice A0_1 l0_1.length c0_1,.int .i64 a0_2] (h:=?_);(with_reducible refine (Zan.calls k false _ _ l0_1 a0_2 qi qj qk qt _ ?side1 ?side2 A4.o).mono ?_);(case side1=>exact cB HR0_1 HB);(case side2=>exact HC0_1.o);rintro e w11 ⟨qw,rfl,ho0,hb⟩;refine ⟨_,rfl,?_⟩;have qh:=am (Kd.Zn ho0 (Zb pB));replace qa:=bb qa hb;replace qb:=bb qb hb;replace HB:=bS hb;obtain ⟨_,_,_,_,_,_⟩:=cEc qb.o;obtain ⟨ql,qq,qs⟩:=Kd.Zh qh.o;subst qs))
  refine bodyPost_ret (Zae rfl _ _ qf 24 #[.bool qi,.slice ql qj.length qq,.int .i64 qk] (0,0) _ rfl (by exact p3 qb) Tryz.underlying24 rfl (by kernel_rfl)) rfl ?_
  exact ⟨_,pE,by refine rp ?_;exact Kd.Zo (Kd.Zau (p:=⟨qf,2,none⟩) (Kd.Zau (p:=⟨qf,1,none⟩) (Kd.Zau (p:=⟨qf,0,none⟩) (Kd.Zba qh.o qb.o (by decide)) (fun _ hk=>hk.2) (.bool qi)) (fun _ hk=>hk.2) (.slice ql qj.length qq)) (fun _ hk=>hk.2) (.int .i64 qk)) (fun _ hk=>trivial),pB⟩
 ·simp only [Option.some.injEq,Prod.mk.injEq] at H
  obtain ⟨rfl,rfl,rfl,rfl⟩:=H
  go_enter Tryz.func40,Tryz.ntmps40
  go_wp2_with (first|((with_reducible refine gd 1 ?_);refine bx 1 #[.bool a0_0,.slice A0_1 l0_1.length c0_1,.int .i64 a0_2] 24 (h:=?_);intro qr hg w14 hbox hb;have qa:=am hbox;have qo:=gW hg;have qm:=gW hg;replace HB:=bS hb;clear hb hbox hg)|((with_reducible refine gd 2 ?_);refine bx 2 #[.bool false,.slice none 0 0,.int .i64 0] 24 (h:=?_);intro qf hg w15 hbox hb;have qb:=am hbox;have qp:=gW hg;have qn:=gW hg;have qd:=nL hg qa;have qe:=nG hg qa;replace qa:=bb qa hb;replace HB:=bS hb;clear hb hbox hg;have qu:=qd.o;have qv:=qe.o;obtain ⟨_,_,_,_,_,_⟩:=cEc qa.o)|(refine gL (some 6) Tryz.func55 #[.agg #[.bool a0_0,.slice A0_1 l0_1.length c0_1,.int .i64 a0_2]] (h:=?_);(with_reducible refine (Za6.calls k a0_0 _ _ l0_1 a0_2 qg _ ?side1 ?side2 A2.o).mono ?_);(case side1=>exact cB HR0_1 HB);(case side2=>exact HC0_1.o);rintro e w18 ⟨rfl,hb⟩;refine ⟨_,rfl,?_⟩;replace qa:=bb qa hb;replace qb:=bb qb hb;replace HB:=bS hb;obtain ⟨_,_,_,_,_,_⟩:=cEc qb.o))
  refine bodyPost_ret (Zae rfl _ _ qf 24 #[.bool false,.slice none 0 0,.int .i64 0] (0,0) _ rfl (by exact p3 qb) Tryz.underlying24 rfl (by kernel_rfl)) rfl ?_
  exact ⟨_,pE,pN,pB⟩
end YtjbjkmccfocikaaGreatDoor.B
end
section
namespace YtjbjkmccfocikaaGreatDoor.P.Nm
open Go.RowKit YtjbjkmccfocikaaGreatDoorW.PrintWords YtjbjkmccfocikaaGreatDoorW.PrintLast YtjbjkmccfocikaaGreatDoorW.PrintMore YtjbjkmccfocikaaGreatDoor.B YtjbjkmccfocikaaGreatDoor.P
theorem Zhw {n c:Nat} (h:c<=nd n):val 10 ((digs n).take c)=((n % 10 ^ c:Nat):Int)/\val 10 ((digs n).drop c)=((n / 10 ^ c:Nat):Int):=by
 have hs:=Zhn (b:=10) (digs n) c h
 have h1:=Zd2 (b:=10) (by omega) ((Zcg n).take c)
 have h0:=Zbj (b:=10) (by omega) ((Zcg n).take c)
 have h2:=Zbj (b:=10) (by omega) ((Zcg n).drop c)
 rw [List.length_take,Nat.min_eq_left (show c<=(digs n).length from h),pw10] at h1
 rw [Zco,pw10] at hs
 obtain ⟨x,hx⟩:=Int.eq_ofNat_of_zero_le h0
 obtain ⟨y,hy⟩:=Int.eq_ofNat_of_zero_le h2
 rw [hx] at hs h1 ⊢
 rw [hy] at hs ⊢
 have hP:=Zbv c
 obtain ⟨T,hT⟩:∃ T,10 ^ c=T:=⟨_,rfl⟩
 rw [hT] at hs h1 hP ⊢
 have hn:n=x+T*y:=by exact_mod_cast hs
 have hx1:x < T:=by exact_mod_cast h1
 subst hn
 rw [Nat.add_mul_mod_self_left,Nat.mod_eq_of_lt hx1,Nat.add_mul_div_left _ _ hP,Nat.div_eq_of_lt hx1,Nat.zero_add]
 exact ⟨rfl,rfl⟩
theorem Zhb {n c:Nat} (h:c < nd n):(digs n).drop c=digs (n / 10 ^ c):=by
 refine Zj7 ((Zcg n).drop c) ?_ (Zhw (by omega)).2
 have hz:=Zix n
 unfold Nz at hz ⊢
 rw [List.getLast?_drop,if_neg (by show ¬ nd n<=c;omega)]
 exact hz
theorem Zqw {n c:Nat} (h:c<=nd n):trimL ((digs n).drop c)=digs (n / 10 ^ c):=Zee ((Zcg n).drop c) (Zhw h).2
theorem Zqx {n c:Nat} (h:c<=nd n):trimL ((digs n).take c)=digs (n % 10 ^ c):=Zee ((Zcg n).take c) (Zhw h).1
theorem Zub {n c:Nat} (h:c < nd n):(digs n).getD c 0=((n / 10 ^ c % 10:Nat):Int):=by
 have h1:(digs n).getD c 0=((digs n).drop c).getD 0 0:=by
  simp [List.getD,List.getElem?_drop]
 rw [h1,Zhb h]
 have hne:n / 10 ^ c ≠ 0:=fun e=>by
  have := congrArg List.length (Zhb h)
  rw [e,List.length_drop,Zef] at this
  have:nd n - c=0:=this
  omega
 exact Zig hne
theorem Zpq:([5]:List Int)=digs 5:=by decide +kernel
theorem Znq:([1]:List Int)=digs 1:=by decide +kernel
theorem RDivT {D E:Dm} (hD:OkD D) (hE:OkD E) (h0:E.n ≠ 0):Tells (fun k=>Zbt.f k D.neg (limbs D.n) D.e E.neg (limbs E.n) E.e) (outD (quotD D E)):=by
 have l1:=hD.len;have l2:=hE.len
 have b1:=hD.low;have b2:=hE.low;have b3:=hD.high;have b4:=hE.high
 have hpos:0 < (limbs E.n).length:=List.length_pos_iff.2 (Zdu h0)
 obtain ⟨p,hp⟩:∃ p:Nat,nd E.n+42 - nd D.n=p:=⟨_,rfl⟩
 have e1:rdN (digs D.n) (digs E.n)=(p:Int):=by
  show mx 0 (wrap64 (wrap64 (wrap64 ((nd E.n:Int) - (nd D.n:Int))+40)+2))=_
  rw [w64n (z:=(nd E.n:Int) - (nd D.n:Int)) (by omega) (by omega),w64n (z:=(nd E.n:Int) - (nd D.n:Int)+40) (by omega) (by omega),w64n (by omega) (by omega),Zpz]
  omega
 have hsh:=Zf0 D.n p (by omega) (by omega)
 have hX:nd (D.n*10 ^ p)<=700:=Nat.le_trans (Zfe D.n p) (by omega)
 have hq:=Zgy (D.n*10 ^ p) E.n h0 (by omega) (by omega)
 have e3:wrap64 (wrap64 (D.e - E.e) - (p:Int))=D.e - E.e - p:=by
  rw [w64n (z:=D.e - E.e) (by omega) (by omega),w64n (by omega) (by omega)]
 obtain ⟨q,hqe⟩:∃ q,D.n*10 ^ p / E.n=q:=⟨_,rfl⟩
 obtain ⟨r,hre⟩:∃ r,D.n*10 ^ p % E.n=r:=⟨_,rfl⟩
 rw [hqe,hre] at hq
 have hqn:nd q<=700:=by rw [<- hqe];exact Nat.le_trans (Zcv (Nat.div_le_self _ _)) hX
 unfold Zbt.f
 refine (RCheck D hD).bind (Tells.ifp rfl ((RCheck E hE).bind (Tells.ifp rfl (Tells.ifn (by omega) ((ROf D (by omega)).bind ((ROf E (by omega)).bind ?_))))))
 dsimp only
 rw [e1,hsh,e3]
 refine (Tells.pure _).bind (hq.bind ?_)
 dsimp only
 unfold rdivE
 by_cases hd:D.n=0
 ·have hq0:q=0:=by rw [<- hqe,hd];simp
  subst hq0
  refine Tells.ifp (by show ((nd 0:Nat):Int)<=40;decide) ((Made (D.neg != E.neg) 0 (D.e - E.e - p) (by decide) (by omega) (by omega)).val ?_)
  have hz:=Zk7 (E:=E) hd
  unfold quotD
  rw [Zmp]
  unfold settleD
  rw [if_pos hz]
 ·have hpp:padN D.n E.n=p:=by unfold padN;rw [Zjg hd,Zjg h0];exact hp
  obtain ⟨c,hce,hc2,hlo,hhi⟩:=Zjv (m:=D.n) (E:=E.n) hd h0
  rw [hpp,hqe] at hce hlo hhi
  have hq0:q ≠ 0:=fun e=>by
   rw [e,Nat.zero_div] at hlo
   have := Zbv 39
   omega
  have hcl:nd q=c+40:=by have:dl q - 40=c:=hce;rw [Zjg hq0] at this;omega
  have ec:wrap64 (((digs q).length:Int) - 40)=(c:Int):=by
   show wrap64 (((nd q:Nat):Int) - 40)=_
   rw [hcl,w64n (by omega) (by omega)];omega
  have ec1:wrap64 ((c:Int) - 1)=((c - 1:Nat):Int):=by rw [w64n (by omega) (by omega)];omega
  have ee:wrap64 (D.e - E.e - (p:Int)+(c:Int))=D.e - E.e - p+c:=w64n (by omega) (by omega)
  rw [ec,ec1,ee,Int.toNat_natCast,Zhb (by omega)]
  refine Tells.ifn (by show ¬ ((nd q:Nat):Int)<=40;omega) (Tells.ifp ⟨by omega,by show (c:Int) < ((nd q:Nat):Int);omega⟩ ?_)
  rw [Zpq,Zf0 5 (c - 1) (by decide +kernel) (by omega)]
  have ht:=Zdy ((digs q).take c) (by rw [List.length_take];omega)
  rw [Zqx (by omega)] at ht
  have hlq:nd (q % 10 ^ c)<=700:=Nat.le_trans (Zcv (Nat.mod_le _ _)) hqn
  have hhq:nd (q / 10 ^ c)<=700:=Nat.le_trans (Zcv (Nat.div_le_self _ _)) hqn
  have ho:=Zfz (q % 10 ^ c) (5*10 ^ (c - 1)) (by omega)
  obtain ⟨H,hH⟩:∃ H,q / 10 ^ c=H:=⟨_,rfl⟩
  obtain ⟨L,hL⟩:∃ L,q % 10 ^ c=L:=⟨_,rfl⟩
  rw [hL] at ht ho
  rw [hH] at hhq hlo
  have hH0:H ≠ 0:=fun e=>by rw [e] at hlo;have := Zbv 39;omega
  have hup:upR (cmpN L (5*10 ^ (c - 1))) (digs r) (digs H)=upB H L c (decide (r ≠ 0)):=by
   have hr:decide (0 < ((digs r).length:Int))=decide (r ≠ 0):=by
    by_cases hr:r=0
    ·subst hr;rfl
    ·have:0 < (digs r).length:=List.length_pos_iff.2 (Ziw hr)
     rw [decide_eq_true (show 0 < ((digs r).length:Int) by omega),decide_eq_true hr]
   have hpar:decide (Int.tmod (rd (digs H) 0) 2=1)=decide (H % 2=1):=by
    have:rd (digs H) 0=((H % 10:Nat):Int):=Zig hH0
    rw [this,Int.tmod_eq_emod_of_nonneg (by omega)]
    congr 1
    apply propext
    omega
   unfold upR upB
   rw [hr,hpar,if_neg (show ¬ c=0 by omega)]
   unfold cmpN
   by_cases a1:L < 5*10 ^ (c - 1)
   ·rw [if_pos a1,if_neg (by omega),if_neg (by omega)];simp
   ·rw [if_neg a1]
    by_cases a2:5*10 ^ (c - 1) < L
    ·rw [if_pos a2,if_pos a2];simp
    ·rw [if_neg a2,if_neg a2,if_pos (by omega)];simp
  have hgoal:quotD D E=settleD ⟨D.neg != E.neg,upN (upB H L c (decide (r ≠ 0))) H,D.e - E.e - p+c⟩:=by
   unfold quotD divD
   simp only [hpp,hqe,hre,hce,hH,hL]
  rw [hgoal,hH]
  refine (Tells.pure _).bind (ht.bind (ho.bind ?_))
  rw [hup]
  cases hu:upB H L c (decide (r ≠ 0))
  ·exact Tells.ifn (by simp) (Made (D.neg != E.neg) H (D.e - E.e - p+c) (by omega) (by omega) (by omega))
  ·have ha:=Zjk H 1 (by omega) (by decide +kernel)
   have hna:=Zmb (n:=H) (k:=700) (by omega)
   rw [Znq]
   exact Tells.ifp rfl (ha.bind (Made (D.neg != E.neg) (H+1) (D.e - E.e - p+c) (by omega) (by omega) (by omega)))
def halfB (D:Dm):Bool:=decide (D.e < 0) && decide (10 ^ (-D.e).toNat<=lowN D*2)
theorem RWhole3 {D:Dm} (hD:OkD D):Tells (fun k=>Zai.f k D.neg (limbs D.n) D.e) (digs (wholeN D),decide (lowN D ≠ 0),halfB D):=by
 have l1:=hD.len;have l2:=hD.high;have l3:=hD.low
 unfold Zai.f
 refine (ROf D (by omega)).bind (Tells.ifp (show -1000000<=D.e/\D.e<=1000000 from ⟨by omega,by omega⟩) ?_)
 dsimp only
 unfold halfB wholeN lowN
 by_cases h:0<=D.e
 ·rw [if_pos h,if_pos h]
  have hs:=Zf0 D.n D.e.toNat (by omega) (by omega)
  rw [Int.toNat_of_nonneg h] at hs
  rw [hs,decide_eq_false (show ¬ D.e < 0 by omega)]
  exact Tells.ifp h ((Tells.pure _).bind ((Tells.pure _).val (by simp)))
 ·obtain ⟨m,hm⟩:∃ m:Nat,(-D.e).toNat=m:=⟨_,rfl⟩
  have he:D.e = -(m:Int):=by omega
  have hm0:0 < m:=by omega
  have hn0:D.n ≠ 0:=fun e=>by have := hD.zero e;rw [this] at h;exact h (by decide)
  have hn10:=hD.last hn0
  rw [if_neg h,if_neg h,hm,decide_eq_true (show D.e < 0 by omega),Bool.true_and]
  have ew:wrap64 (-D.e)=(m:Int):=by rw [w64n (by omega) (by omega)];omega
  have ew1:wrap64 ((m:Int) - 1)=((m - 1:Nat):Int):=by rw [w64n (by omega) (by omega)];omega
  rw [ew,ew1,Int.toNat_natCast]
  refine Tells.ifn h ?_
  have hlt:=Zg5 D.n
  have hnp:=Zgh hn0
  by_cases hb:nd D.n < m
  ·have hle:10 ^ nd D.n*10<=10 ^ m:=by rw [<- Nat.pow_succ];exact Nat.pow_le_pow_right (by omega) hb
   generalize 10 ^ nd D.n=U at hlt hle
   refine Tells.ifp (by show ((nd D.n:Nat):Int) < _;omega) ((Tells.pure _).val ?_)
   rw [Nat.div_eq_of_lt (by omega),Nat.mod_eq_of_lt (by omega),Zef]
   rw [show decide (0 < ((digs D.n).length:Int))=true from decide_eq_true (by show (0:Int) < ((nd D.n:Nat):Int);omega),decide_eq_true hn0,decide_eq_false (by omega)]
  ·have ht:=Zdy ((digs D.n).drop m) (by rw [List.length_drop];show nd D.n - m<=_;omega)
   rw [Zqw (by omega)] at ht
   refine Tells.ifn (by show ¬ ((nd D.n:Nat):Int) < _;omega) (ht.bind ((Tells.pure _).val ?_))
   rw [rd_n,Zub (by omega)]
   have hT:10 ^ m=10 ^ (m - 1)*10:=by rw [<- Nat.pow_succ];congr 1;omega
   have hTp:=Zbv (m - 1)
   obtain ⟨T,hTe⟩:∃ T,10 ^ (m - 1)=T:=⟨_,rfl⟩
   rw [hT,hTe]
   rw [hTe] at hTp
   have hmod:D.n % (T*10)=D.n % T+T*(D.n / T % 10):=Nat.mod_mul
   have hml:=Nat.mod_lt D.n hTp
   have hlow:D.n % (T*10) ≠ 0:=fun e=>by
    have h10:D.n % 10=0:=by
     have := Nat.mod_mul_left_mod D.n T 10
     rw [e] at this
     simpa using this.symm
    exact hn10 h10
   rw [decide_eq_true hlow]
   congr 2
   apply decide_eq_decide.2
   rw [hmod]
   obtain ⟨d,hd⟩:∃ d,D.n / T % 10=d:=⟨_,rfl⟩
   have hd10:d < 10:=by rw [<- hd];exact Nat.mod_lt _ (by omega)
   rw [hd]
   constructor
   ·intro h5
    have:T*5<=T*d:=Nat.mul_le_mul_left _ (by omega)
    omega
   ·intro h5
    have:¬ d<=4:=fun h4=>by
     have := Nat.mul_le_mul_left T h4
     omega
    omega
theorem RNearT {D:Dm} (hD:OkD D) (b:Bool):Tells (fun k=>Zak.f k D.neg (limbs D.n) D.e b) (outD (nearV D b)):=by
 have hw:=Zeu hD
 unfold Zak.f
 refine (RWhole3 hD).bind ?_
 unfold nearV
 cases b
 ·exact Tells.ifn (by decide) (Made D.neg (wholeN D) 0 (by omega) (by omega) (by omega))
 ·have ha:=Zjk (wholeN D) 1 (by omega) (by decide +kernel)
  have hna:=Zmb (n:=wholeN D) (k:=1300) hw.1
  dsimp only
  rw [Znq]
  exact Tells.ifp rfl (ha.bind (Made D.neg (wholeN D+1) 0 (by omega) (by omega) (by omega)))
theorem RFloor {D:Dm} (hD:OkD D):Tells (fun k=>Zbd.f k D.neg (limbs D.n) D.e) (outD (nearV D (decide (lowN D ≠ 0) && D.neg))):=by
 unfold Zbd.f
 refine (RCheck D hD).bind (Tells.ifp rfl ((RWhole3 hD).bind ?_))
 dsimp only
 cases hb:decide (lowN D ≠ 0)
 ·exact Tells.ifn (by simp) ((RNearT hD false).bind (Tells.pure _))
 ·exact Tells.ifp rfl ((RNearT hD D.neg).bind ((Tells.pure _).val (by rw [Bool.true_and])))
theorem RCeil {D:Dm} (hD:OkD D):Tells (fun k=>Zbg.f k D.neg (limbs D.n) D.e) (outD (nearV D (decide (lowN D ≠ 0) && !D.neg))):=by
 unfold Zbg.f
 refine (RCheck D hD).bind (Tells.ifp rfl ((RWhole3 hD).bind ?_))
 dsimp only
 cases hb:decide (lowN D ≠ 0)
 ·exact Tells.ifn (by simp) ((RNearT hD false).bind (Tells.pure _))
 ·exact Tells.ifp rfl ((RNearT hD (!D.neg)).bind ((Tells.pure _).val (by rw [Bool.true_and])))
theorem RRound {D:Dm} (hD:OkD D):Tells (fun k=>Zcn.f k D.neg (limbs D.n) D.e) (outD (nearV D (halfB D))):=by
 unfold Zcn.f
 exact (RCheck D hD).bind (Tells.ifp rfl ((RWhole3 hD).bind ((RNearT hD (halfB D)).bind (Tells.pure _))))
theorem QRoundH {D:Dm} (hD:OkD D):Tells (fun k=>Zeb.f k D.neg (limbs D.n) D.e) (outD (nearV D (halfB D))):=by
 have hw:=Zeu hD
 have l3:=hD.low
 have hm:=Zf9 (m:=lowN D) (n:=2) (Zcb (by omega)) (by decide +kernel)
 have h2:nd (lowN D*2)<=301:=Nat.le_trans (Zcv (Nat.mul_le_mul_left _ (show 2<=10 ^ 1 by decide))) (Nat.le_trans (Zfe _ _) (by omega))
 rw [Zi0 (Zcb (by omega))] at hm
 have hc:=Zg9 (m:=lowN D*2) (n:=10 ^ (-D.e).toNat) (Zcb (by omega)) (Zcb (by rw [Zg0];omega))
 have hr:Tells (fun k=>Zdh.f k (limbs (lowN D)) ((-D.e).toNat:Int)) (decide (cmpN (lowN D*2) (10 ^ (-D.e).toNat) >= 0)):=by
  unfold Zdh.f Zs.f
  exact (Zfo 2 (by omega)).bind (hm.bind ((Tells.pure _).bind ((Zeo (by omega)).bind (hc.bind (Tells.pure _)))))
 have e1:(decide (lowN D ≠ 0) && decide (cmpN (lowN D*2) (10 ^ (-D.e).toNat) >= 0))=halfB D:=by
  have hp:=Zbv (-D.e).toNat
  unfold halfB
  by_cases h0:lowN D=0
  ·rw [decide_eq_false (by simp [h0]),Bool.false_and]
   rw [decide_eq_false (p:=10 ^ (-D.e).toNat<=lowN D*2) (by omega),Bool.and_false]
  ·have he:D.e < 0:=by
    rcases Int.lt_or_le D.e 0 with h|h
    ·exact h
    ·exact absurd (by unfold lowN;rw [if_pos h]) h0
   rw [decide_eq_true h0,decide_eq_true he,Bool.true_and,Bool.true_and]
   apply decide_eq_decide.2
   unfold cmpN
   constructor
   ·intro h;split at h
    ·exact absurd h (by decide)
    ·omega
   ·intro h;rw [if_neg (by omega)];split <;> decide
 unfold Zeb.f
 have := (QNear hD (u:=fun k x y=>Zdh.f k x y) (fun _=>hr))
 rw [e1] at this
 exact this.bind (Tells.pure _)
theorem RMod {D E:Dm} (hD:OkD D) (hE:OkD E):Tells (fun k=>Zaw.f k D.neg (limbs D.n) D.e E.neg (limbs E.n) E.e) (outD (modD D E)):=by
 have w1:=(Zeu hD).1
 have w2:=(Zeu hE).1
 unfold Zaw.f modD
 refine (RCheck D hD).bind (Tells.ifp rfl ((RCheck E hE).bind (Tells.succ ?_)))
 simp only [Zaw.j0]
 refine Tells.ifn (by decide) ((RWhole3 hD).bind ((RWhole3 hE).bind ?_))
 dsimp only
 by_cases h0:wholeN E=0
 ·rw [if_pos h0,h0]
  exact Tells.ifp rfl (Tells.pure _)
 ·have hq:=Zgy (wholeN D) (wholeN E) h0 (by omega) (by omega)
  have hr:nd (wholeN D % wholeN E)<=1300:=Nat.le_trans (Zcv (Nat.mod_le _ _)) w1
  have hp:0 < (digs (wholeN E)).length:=List.length_pos_iff.2 (Ziw h0)
  rw [if_neg h0]
  exact Tells.ifn (by omega) (hq.bind ((Made D.neg (wholeN D % wholeN E) 0 (by omega) (by omega) (by omega)).bind (Tells.pure _)))
theorem QAbs {D:Dm} (hD:OkD D):Tells (fun k=>Zfh.f k D.neg (limbs D.n) D.e) (outD (absD D,0)):=by
 have l1:=hD.len;have l2:=hD.high;have l3:=hD.low
 have hs:=Zec false D.n D.e (Zcb (by omega)) (by omega)
 have ok:OkD ⟨false,D.n,D.e⟩:=by rw [<- (Zg3 hD).1];exact (Zg3 hD).2
 rw [if_neg (by omega),Zja ok] at hs
 unfold Zfh.f
 refine (DCheck D hD).bind (Tells.ifp rfl (hs.bind ((Tells.pure _).val ?_)))
 rw [(Zg3 hD).1]
end YtjbjkmccfocikaaGreatDoor.P.Nm
end
section
namespace YtjbjkmccfocikaaGreatDoor.B
open Go.RowKit YtjbjkmccfocikaaGreatDoorW.PrintWords YtjbjkmccfocikaaGreatDoorW.PrintLast YtjbjkmccfocikaaGreatDoorW.PrintMore
attribute [local go_sem] Zch Zci Zc9 Zda Zb1 Zb2 Zcp Zcq
def Zas.j0:Nat->Int->Bool->List Int->Int->Option (Bool × List Int × Int × Int)
 | 0,_,_,_,_=>none
 | k+1,x5,jt,je,q3=>(Za7.f je x5).bind fun qt=>((Zd.f k qt).bind fun qi=>(if (qi.length:Int) > 40 then (if 0<=(wrap64 ((qi.length:Int) - 40)) then (if (wrap64 ((qi.length:Int) - 40))<=(qi.length:Int) then ((Zp.f k false (qi.drop ((wrap64 ((qi.length:Int) - 40)):Int).toNat) (wrap64 ((wrap64 (Int.tdiv (wrap64 (q3 - x5)) 2))+(wrap64 ((qi.length:Int) - 40))))).bind fun qk=>(some (qk.1,qk.2.1,qk.2.2.1,qk.2.2.2))) else (none)) else (none)) else ((Zp.f k false qi (wrap64 (Int.tdiv (wrap64 (q3 - x5)) 2))).bind fun q1=>(some (q1.1,q1.2.1,q1.2.2.1,q1.2.2.2)))))
def Zas.f (k:Nat) (a0_0:Bool) (l0_1:List Int) (a0_2:Int):Option (Bool × List Int × Int × Int):=(Ze.f k a0_0 l0_1 a0_2).bind fun qy=>(if qy=0 then (if a0_0=true then (some (false,([]:List Int),0,4)) else (if (l0_1.length:Int)=0 then (some (false,([]:List Int),0,0)) else ((Zac.f k a0_0 l0_1 a0_2).bind fun qg=>(if (Int.tmod (wrap64 (qg.2.2 - (mx 0 (wrap64 (80 - (qg.2.1.length:Int)))))) 2)=0 then (Zas.j0 k (mx 0 (wrap64 (80 - (qg.2.1.length:Int)))) qg.1 qg.2.1 qg.2.2) else (Zas.j0 k (wrap64 ((mx 0 (wrap64 (80 - (qg.2.1.length:Int))))+1)) qg.1 qg.2.1 qg.2.2))))) else (some (false,([]:List Int),0,9)))
theorem Zas.calls (k:Nat) (a0_0:Bool) (A0_1:Option Addr) (c0_1:Nat) (l0_1:List Int) (a0_2:Int) (r1:Bool) (r2:List Int) (r3:Int) (r4:Int) (w:World) (hr0_1:Kd.C (Kd.int .u32) w A0_1 l0_1.length l0_1) (hc0_1:l0_1.length<=c0_1) (h:Zas.f k a0_0 l0_1 a0_2=some (r1,r2,r3,r4)) :
  Calls Tryz.prog 39 #[.agg #[.bool a0_0,.slice A0_1 l0_1.length c0_1,.int .i64 a0_2]] w fun e w' => ∃ v1_:Value,e=.returned (.tuple #[.agg #[.bool r1,v1_,.int .i64 r3],.int .i64 r4])/\Kd.R (Kd.int .u32) 85 w' w.heap.size (fun _=>True) v1_ r2/\Below w.heap.size w w':=by
 have hu24:=Tryz.underlying24
 have hu30:=Tryz.underlying30
 have HR0_1:=am hr0_1
 have HC0_1:=am hc0_1
 clear hr0_1 hc0_1
 have HB:=am (Below.refl w.heap.size w)
 have H:((Ze.f k a0_0 l0_1 a0_2).bind fun qy=>(if qy=0 then (if a0_0=true then (some (false,([]:List Int),0,4)) else (if (l0_1.length:Int)=0 then (some (false,([]:List Int),0,0)) else ((Zac.f k a0_0 l0_1 a0_2).bind fun qg=>(if (Int.tmod (wrap64 (qg.2.2 - (mx 0 (wrap64 (80 - (qg.2.1.length:Int)))))) 2)=0 then (Zas.j0 k (mx 0 (wrap64 (80 - (qg.2.1.length:Int)))) qg.1 qg.2.1 qg.2.2) else (Zas.j0 k (wrap64 ((mx 0 (wrap64 (80 - (qg.2.1.length:Int))))+1)) qg.1 qg.2.1 qg.2.2))))) else (some (false,([]:List Int),0,9))))=some (r1,r2,r3,r4):=h
 clear h
 replace H:=ob H
 obtain ⟨qy,A2,H⟩:=H
 replace H:=eI H
 rcases H with ⟨c3b0,c3b1,H⟩|⟨c3,c3b0,c3b1,H⟩
 ·replace H:=tI (t:=a0_0) H
  rcases H with ⟨rfl,H⟩|⟨rfl,H⟩
  ·simp only [Option.some.injEq,Prod.mk.injEq] at H
   obtain ⟨rfl,rfl,rfl,rfl⟩:=H
   go_enter Tryz.func39,Tryz.ntmps39
   go_wp2_with (first|((with_reducible refine gd 1 ?_);refine bx 1 #[.bool true,.slice A0_1 l0_1.length c0_1,.int .i64 a0_2] 24 (h:=?_);intro q2 hg w5 hbox hb;have qa:=am hbox;have q8:=gW hg;have q6:=gW hg;replace HB:=bS hb;clear hb hbox hg)|((with_reducible refine gd 2 ?_);refine bx 2 #[.bool false,.slice none 0 0,.int .i64 0] 24 (h:=?_);intro qj hg w6 hbox hb;have qc:=am hbox;have q9:=gW hg;have q7:=gW hg;have qd:=nL hg qa;have qe:=nG hg qa;replace qa:=bb qa hb;replace HB:=bS hb;clear hb hbox hg;have hnb7:=qd.o;have hnc7:=qe.o;obtain ⟨_,_,_,_,_,_⟩:=cEc qa.o)|(refine gL (some 11) Tryz.func33 #[.agg #[.bool true,.slice A0_1 l0_1.length c0_1,.int .i64 a0_2]] (h:=?_);(with_reducible refine (Ze.calls k true _ _ l0_1 a0_2 qy _ ?side1 ?side2 A2.o).mono ?_);(case side1=>exact cB HR0_1 HB);(case side2=>exact HC0_1.o);rintro e w9 ⟨rfl,hb⟩;refine ⟨_,rfl,?_⟩;replace qa:=bb qa hb;replace qc:=bb qc hb;replace HB:=bS hb;obtain ⟨_,_,_,_,_,_⟩:=cEc qa.o;obtain ⟨_,_,_,_,_,_⟩:=cEc qc.o))
   refine bodyPost_ret (Zae rfl _ _ qj 24 #[.bool false,.slice none 0 0,.int .i64 0] (0,0) _ rfl (by exact p3 qc) Tryz.underlying24 rfl (by kernel_rfl)) rfl ?_
   exact ⟨_,pE,pN,pB⟩
  ·replace H:=eI H
   rcases H with ⟨c12b0,c12b1,H⟩|⟨c12,c12b0,c12b1,H⟩
   ·simp only [Option.some.injEq,Prod.mk.injEq] at H
    obtain ⟨rfl,rfl,rfl,rfl⟩:=H
    go_enter Tryz.func39,Tryz.ntmps39
    go_wp2_with (first|((with_reducible refine gd 1 ?_);refine bx 1 #[.bool false,.slice A0_1 l0_1.length c0_1,.int .i64 a0_2] 24 (h:=?_);intro q2 hg w13 hbox hb;have qa:=am hbox;have q8:=gW hg;have q6:=gW hg;replace HB:=bS hb;clear hb hbox hg)|((with_reducible refine gd 2 ?_);refine bx 2 #[.bool false,.slice none 0 0,.int .i64 0] 24 (h:=?_);intro qj hg w14 hbox hb;have qc:=am hbox;have q9:=gW hg;have q7:=gW hg;have qd:=nL hg qa;have qe:=nG hg qa;replace qa:=bb qa hb;replace HB:=bS hb;clear hb hbox hg;have qab:=qd.o;have qam:=qe.o;obtain ⟨_,_,_,_,_,_⟩:=cEc qa.o)|(refine gL (some 11) Tryz.func33 #[.agg #[.bool false,.slice A0_1 l0_1.length c0_1,.int .i64 a0_2]] (h:=?_);(with_reducible refine (Ze.calls k false _ _ l0_1 a0_2 qy _ ?side1 ?side2 A2.o).mono ?_);(case side1=>exact cB HR0_1 HB);(case side2=>exact HC0_1.o);rintro e w17 ⟨rfl,hb⟩;refine ⟨_,rfl,?_⟩;replace qa:=bb qa hb;replace qc:=bb qc hb;replace HB:=bS hb;obtain ⟨_,_,_,_,_,_⟩:=cEc qa.o;obtain ⟨_,_,_,_,_,_⟩:=cEc qc.o))
    refine bodyPost_ret (Zae rfl _ _ qj 24 #[.bool false,.slice none 0 0,.int .i64 0] (0,0) _ rfl (by exact p3 qc) Tryz.underlying24 rfl (by kernel_rfl)) rfl ?_
    exact ⟨_,pE,pN,pB⟩
   ·have c12b2:¬ (l0_1=[]):=fun h_=>c12 (by rw [h_];rfl)
    replace H:=ob H
    obtain ⟨⟨qz,qn,qp⟩,A20,H⟩:=H;(try dsimp only at H)
    obtain ⟨ji21,hji21⟩:∃ j_:Int,(mx 0 (wrap64 (80 - (qn.length:Int))))=j_:=⟨_,rfl⟩
    replace H:(if (Int.tmod (wrap64 (qp - (ji21))) 2)=0 then (Zas.j0 k ji21 qz qn qp) else (Zas.j0 k (wrap64 ((ji21)+1)) qz qn qp))=some (r1,r2,r3,r4):=by first|(rw [hji21] at H;exact H)|(simp only [hji21] at H ⊢;exact H)
    (try rw [hji21] at A2)
    (try rw [hji21] at A20)
    (try (have hji21l:0<=ji21:=by (rw [<- hji21];unfold mx;(repeat' split) <;> omega)))
    (try (have hji21m:0<=ji21:=by omega))
    have hji21_:(if 0 < (wrap64 (80 - (qn.length:Int))) then (wrap64 (80 - (qn.length:Int))) else 0)=ji21:=hji21
    have HC22:=am H
    clear H
    go_enter Tryz.func39,Tryz.ntmps39
    go_upto_if 36 with (first|((with_reducible refine gd 1 ?_);refine bx 1 #[.bool false,.slice A0_1 l0_1.length c0_1,.int .i64 a0_2] 24 (h:=?_);intro q2 hg w23 hbox hb;have qa:=am hbox;have q8:=gW hg;have q6:=gW hg;replace HB:=bS hb;clear hb hbox hg)|((with_reducible refine gd 2 ?_);refine bx 2 #[.bool false,.slice none 0 0,.int .i64 0] 24 (h:=?_);intro qj hg w24 hbox hb;have qc:=am hbox;have q9:=gW hg;have q7:=gW hg;have qd:=nL hg qa;have qe:=nG hg qa;replace qa:=bb qa hb;replace HB:=bS hb;clear hb hbox hg;have qac:=qd.o;have qan:=qe.o;obtain ⟨_,_,_,_,_,_⟩:=cEc qa.o)|(refine gL (some 11) Tryz.func33 #[.agg #[.bool false,.slice A0_1 l0_1.length c0_1,.int .i64 a0_2]] (h:=?_);(with_reducible refine (Ze.calls k false _ _ l0_1 a0_2 qy _ ?side1 ?side2 A2.o).mono ?_);(case side1=>exact cB HR0_1 HB);(case side2=>exact HC0_1.o);rintro e w27 ⟨rfl,hb⟩;refine ⟨_,rfl,?_⟩;replace qa:=bb qa hb;replace qc:=bb qc hb;replace HB:=bS hb;obtain ⟨_,_,_,_,_,_⟩:=cEc qa.o)|(refine gL (some 25) Tryz.func18 #[.agg #[.bool false,.slice A0_1 l0_1.length c0_1,.int .i64 a0_2]] (h:=?_);(with_reducible refine (Zac.calls k false _ _ l0_1 a0_2 qz qn qp _ ?side1 ?side2 A20.o).mono ?_);(case side1=>exact cB HR0_1 HB);(case side2=>exact HC0_1.o);rintro e w29 ⟨qay,rfl,ho0,hb⟩;refine ⟨_,rfl,?_⟩;have qx:=am (Kd.Zn ho0 (Zb pB));replace qa:=bb qa hb;replace qc:=bb qc hb;replace HB:=bS hb)|((with_reducible refine gd 4 ?_);refine bx 4 #[.bool false,.slice none 0 0,.int .i64 0] 30 (h:=?_);intro qs hg w30 hbox hb;have qf:=am hbox;have qaa:=gW hg;have ql:=nL hg qa;have qq:=nG hg qa;have qm:=nL hg qc;have qr:=nG hg qc;replace qx:=rbl qx hb;replace qa:=bb qa hb;replace qc:=bb qc hb;replace HB:=bS hb;clear hb hbox hg;have qad:=qq.o;have qao:=ql.o;have qae:=qr.o;have qap:=qm.o;obtain ⟨_,_,_,_,_,_⟩:=cEc qf.o;obtain ⟨qu,qv,jy⟩:=Kd.Zh qx.o;subst jy))
    (try simp only [Act.put,List.setIfInBounds_toArray,List.set_cons_zero,List.set_cons_succ])
    go_cut [5] (fun v5 wc => ∃ (kq:Nat) (x5_21:Int),v5=.int .i64 x5_21/\Aside0 (Zas.j0 kq x5_21 qz qn qp=some (r1,r2,r3,r4))/\Aside0 (kq<=k)/\Aside0 (Kd.R (Kd.int .i64) 3 wc w.heap.size (fun _=>True) (.slice qu qn.length qv) qn)/\Aside0 (wc.heap[q2]? = some (.cells #[.bool false,(.slice A0_1 l0_1.length c0_1),.int .i64 a0_2] 24 (0,0)))/\Aside0 (wc.heap[qj]? = some (.cells #[.bool false,(.slice none 0 0),.int .i64 0] 24 (0,0)))/\Aside0 (wc.heap[qs]? = some (.cells #[.bool qz,(.slice qu qn.length qv),.int .i64 qp] 30 (0,0)))/\Aside0 (Below w.heap.size w wc))
    case first =>
     have H:=HC22.o
     clear HC22
     replace H:=eI H
     rcases H with ⟨c35b0,c35b1,H⟩|⟨c35,c35b0,c35b1,H⟩
     ·(first|rw [c35b0]|(simp only [Zb9,Zdj];rw [c35b0])|skip)
      have H':=am H
      clear H
      go_wp2
      go_meet
      case rel=>exact ⟨_,(ji21),(by first|rfl|(simp;done)|(simp only [<- hji21] <;> (first|rfl|simp))|(simp [*];done)),H',pJ,⟨by refine rp ?_;exact Kd.Zo (Kd.Zau (p:=⟨qs,2,none⟩) (Kd.Zau (p:=⟨qs,1,none⟩) (Kd.Zau (p:=⟨qs,0,none⟩) (Kd.Zba qx.o qf.o (by decide)) (fun _ hk=>hk.2) (.bool qz)) (fun _ hk=>hk.2) (.slice qu qn.length qv)) (fun _ hk=>hk.2) (.int .i64 qp)) (fun _ hk=>trivial)⟩,⟨bf ql.o qa.o⟩,⟨bf qm.o qc.o⟩,⟨by exact p3 qf⟩,⟨pB⟩⟩
     ·(first|rw [c35b0]|(simp only [Zb9,Zdj];rw [c35b0])|skip)
      have H':=am H
      clear H
      go_wp2
      go_meet
      case rel=>exact ⟨_,(wrap64 ((ji21)+1)),(by first|rfl|(simp;done)|(simp only [<- hji21] <;> (first|rfl|simp))|(simp [*];done)),H',pJ,⟨by refine rp ?_;exact Kd.Zo (Kd.Zau (p:=⟨qs,2,none⟩) (Kd.Zau (p:=⟨qs,1,none⟩) (Kd.Zau (p:=⟨qs,0,none⟩) (Kd.Zba qx.o qf.o (by decide)) (fun _ hk=>hk.2) (.bool qz)) (fun _ hk=>hk.2) (.slice qu qn.length qv)) (fun _ hk=>hk.2) (.int .i64 qp)) (fun _ hk=>trivial)⟩,⟨bf ql.o qa.o⟩,⟨bf qm.o qc.o⟩,⟨by exact p3 qf⟩,⟨pB⟩⟩
    case rest =>
     clear HC22
     obtain ⟨kq,x5_21,rfl,HA,HJ21,qb,qa,qc,qf,HB⟩:=hcut
     cases kq with
     | zero=>exact absurd HA.out (by simp [Zas.j0])
     | succ q4 =>
      have H:=HA.out
      clear HA
      simp only [Zas.j0] at H
      replace H:=ob H
      obtain ⟨qt,A36,H⟩:=H
      replace H:=ob H
      obtain ⟨qi,A37,H⟩:=H
      by_cases c38:(qi.length:Int) > 40
      ·rw [if_pos c38] at H
       have c38b0:decide (40 < (qi.length:Int))=true:=decide_eq_true c38
       have c38b1:decide (40 < qi.length)=true:=decide_eq_true (by omega)
       clear c38
       obtain ⟨ji39,hji39⟩:∃ j_:Int,(wrap64 ((qi.length:Int) - 40))=j_:=⟨_,rfl⟩
       replace H:(if 0<=(ji39) then (if (ji39)<=(qi.length:Int) then ((Zp.f q4 false (qi.drop ((ji39):Int).toNat) (wrap64 ((wrap64 (Int.tdiv (wrap64 (qp - x5_21)) 2))+(ji39)))).bind fun qk=>(some (qk.1,qk.2.1,qk.2.2.1,qk.2.2.2))) else (none)) else (none))=some (r1,r2,r3,r4):=by first|(rw [hji39] at H;exact H)|(simp only [hji39] at H ⊢;exact H)
       (try rw [hji39] at A36)
       (try rw [hji39] at A37)
       have hji39w:(IntKind.i64.wrap ((qi.length:Int) - 40))=ji39:=(Zb9 _).trans hji39
       replace H:=iI H
       rcases H with ⟨c40b0,c40b1,H⟩|⟨_,_,H⟩
       ·replace H:=iI H
        rcases H with ⟨c41b0,c41b1,H⟩|⟨_,_,H⟩
        ·obtain ⟨qw,ja⟩:∃ y_:List Int,y_=(qi.drop ((ji39):Int).toNat):=⟨_,rfl⟩
         replace H:((Zp.f q4 false qw (wrap64 ((wrap64 (Int.tdiv (wrap64 (qp - x5_21)) 2))+(ji39)))).bind fun qk=>(some (qk.1,qk.2.1,qk.2.2.1,qk.2.2.2)))=some (r1,r2,r3,r4):=by have hy_:=ja;exact pH
         have jh:=am ja
         clear ja
         replace H:=ob H
         obtain ⟨⟨jj,jk,jl,j6⟩,A42,H⟩:=H;(try dsimp only at H)
         simp only [Option.some.injEq,Prod.mk.injEq] at H
         obtain ⟨rfl,rfl,rfl,rfl⟩:=H
         have qaf:=qq.o
         have qaq:=ql.o
         have qag:=qr.o
         have qar:=qm.o
         obtain ⟨_,_,_,_,_,_⟩:=cEc qf.o
         go_wp2_with (first|(refine gL (some 42) Tryz.func93 #[.slice qu qn.length qv,.int .i64 x5_21] (h:=?_);(with_reducible refine (Za7.calls _ _ qn x5_21 qt _ ?side1 ?side2 A36.o).mono ?_);(case side1=>exact Kd.Zi (Kd.Zc qb.o).2.2 pl);(case side2=>exact (Kd.Zc qb.o).2.1);rintro e w46 ⟨j8,rfl,ho0,hb⟩;refine ⟨_,rfl,?_⟩;have qh:=am (Kd.Zn (Kd.Zf ho0 (Kd.R_lt (Kd.Za qb.o pl))) (Zb pB));replace qb:=reR qb ho0 hb;replace qa:=bb qa hb;replace qc:=bb qc hb;replace qf:=bb qf hb;replace HB:=bS hb;obtain ⟨jb,jc,jz⟩:=Kd.Zh qh.o;subst jz)|(refine gL (some 43) Tryz.func97 #[.slice jb qt.length jc] (h:=?_);(with_reducible refine (Zd.calls q4 _ _ qt qi _ ?side1 ?side2 A37.o).mono ?_);(case side1=>exact Kd.Zi (Kd.Zc qh.o).2.2 pl);(case side2=>exact (Kd.Zc qh.o).2.1);rintro e w48 ⟨j9,rfl,ho0,hb⟩;refine ⟨_,rfl,?_⟩;have qo:=am (Kd.Zn (Kd.Zf (Kd.Zf ho0 (Kd.R_lt (Kd.Za qb.o pl))) (Kd.R_lt (Kd.Za qh.o pl))) (Zb pB));replace qb:=reR qb ho0 hb;replace qh:=reR qh ho0 hb;replace qa:=bb qa hb;replace qc:=bb qc hb;replace qf:=bb qf hb;replace HB:=bS hb;obtain ⟨_,_,_,_,_,_⟩:=cEc qf.o;obtain ⟨q5,jd,j1⟩:=Kd.Zh qo.o;subst j1;have n_:=am (Kd.Zo (ok':=(fun k_=>some k_ ≠ (.slice qu qn.length qv:Value).ownBlock/\some k_ ≠ (.slice jb qt.length jc:Value).ownBlock)) qo.o (fun k_ hk=>⟨hk.1.2,hk.2⟩));clear qo;have qo:=n_;clear n_;have q51:((ji39):Int)<=((qi.length:Int):Int):=of_decide_eq_true pQ;obtain ⟨qax,ji,_,hsz51,_⟩:=info_parts info3;have hcut51:=Zif (P:=Tryz.prog) 28 3 .i64 Tryz.underlying28 ji 1 hsz51 q5 qi.length jd (ji39) (of_decide_eq_true pQ) q51;have hr51:=Kd.Zo6 (k:=((ji39):Int).toNat) (Kd.Zil qo.o) (by omega);obtain ⟨A51,hA51⟩:∃ A1,A1=(if jd=((ji39):Int).toNat then q5 else (q5:Option Addr).map (·.add (((ji39):Int).toNat*1))):=⟨_,rfl⟩;obtain ⟨c51,hc51⟩:∃ c1,c1=jd - ((ji39):Int).toNat:=⟨_,rfl⟩;have hy51:qw.length=qi.length - ((ji39):Int).toNat:=(by rw [jh.out,List.length_drop]);rw [<- jh.out] at hr51;rw [<- hy51,<- hA51,<- hc51] at hcut51;replace hr51:Kd.Q (Kd.int .i64) 3 w48 w.heap.size (fun k_=>some k_ ≠ (.slice qu qn.length qv:Value).ownBlock/\some k_ ≠ (.slice jb qt.length jc:Value).ownBlock) (.slice A51 qw.length c51) qw:=(by rw [hA51,hc51,hy51];exact hr51);have HE51:Aside0 ((Value.slice A51 qw.length c51).ownBlock=(.slice q5 qi.length jd:Value).ownBlock):=⟨by rw [hA51];split <;> (cases (q5:Option Addr) <;> first|rfl|exact adB _ _ _ _ _ _)⟩;clear hy51 ji hsz51 qo hA51 hc51;have q0:=am hr51;clear hr51;replace q51:=eq_true q51;have n_:=am (Kd.Zo (ok':=fun k_=>((True/\some k_ ≠ (.slice jb qt.length jc:Value).ownBlock)/\some k_ ≠ (.slice A51 qw.length c51:Value).ownBlock)) qb.o (fun k_ hk=>⟨⟨trivial,hk.1.2⟩,(by rw [HE51.out];exact hk.2)⟩));clear qb;have qb:=n_;clear n_;have n_:=am (Kd.Zo (ok':=fun k_=>((True/\some k_ ≠ (.slice qu qn.length qv:Value).ownBlock)/\some k_ ≠ (.slice A51 qw.length c51:Value).ownBlock)) qh.o (fun k_ hk=>⟨⟨trivial,hk.1.2⟩,(by rw [HE51.out];exact hk.2)⟩));clear qh;have qh:=n_;clear n_)|((with_reducible refine Zfc (f:=23) rfl ?_);refine goesL_ (some 64) rfl rfl Tryz.func23 (by kernel_rfl) rfl #[.agg #[.bool false,.slice A51 qw.length c51,.int .i64 (wrap64 ((wrap64 (Int.tdiv (wrap64 (qp - x5_21)) 2))+(ji39)))]] rfl (by (try simp only [List.map_toArray,List.map_cons,List.map_nil]);first|done|(simp only [hji39];rfl)|rfl|(simp only [List.length_drop,List.length_take];rfl)) ?_;(with_reducible refine (Zp.calls q4 false _ _ qw (wrap64 ((wrap64 (Int.tdiv (wrap64 (qp - x5_21)) 2))+(ji39))) jj jk jl j6 _ ?side1 ?side2 A42.o).mono ?_);(case side1=>exact Kd.Zi (Kd.Zds q0.o).2.2 pl);(case side2=>exact (Kd.Zds q0.o).2.1);rintro e w52 ⟨qaz,rfl,ho0,hb⟩;refine ⟨_,rfl,?_⟩;replace qb:=rbl qb hb;replace qh:=rbl qh hb;replace q0:=am (Kd.Zej (by (with_reducible repeat (first|apply Kd.Zdq|apply Kd.Zdr|apply Kd.Zei));exact q0.o) hb);have jf:=am (Kd.Zn ho0 (Zb pB));replace qa:=bb qa hb;replace qc:=bb qc hb;replace qf:=bb qf hb;replace HB:=bS hb;have qah:=qe.o;have qas:=qd.o;obtain ⟨_,_,_,_,_,_⟩:=cEc qc.o;obtain ⟨jp,jr,j2⟩:=Kd.Zh jf.o;subst j2))
         refine bodyPost_ret (Zae rfl _ _ qj 24 #[.bool jj,.slice jp jk.length jr,.int .i64 jl] (0,0) _ rfl (by exact p3 qc) Tryz.underlying24 rfl (by kernel_rfl)) rfl ?_
         exact ⟨_,by first|rfl|(simp [Zap,Zaq] <;> rfl)|(simp only [<- hji21,<- hji39];first|rfl|(simp [Zap,Zaq] <;> rfl))|(simp [*,Zap,Zaq] <;> rfl),by refine rp ?_;exact Kd.Zo (Kd.Zau (p:=⟨qj,2,none⟩) (Kd.Zau (p:=⟨qj,1,none⟩) (Kd.Zau (p:=⟨qj,0,none⟩) (Kd.Zba jf.o qc.o (by decide)) (fun _ hk=>hk.2) (.bool jj)) (fun _ hk=>hk.2) (.slice jp jk.length jr)) (fun _ hk=>hk.2) (.int .i64 jl)) (fun _ hk=>trivial),pB⟩
        ·cases H
       ·cases H
      ·rw [if_neg c38] at H
       have c38b0:decide (40 < (qi.length:Int))=false:=decide_eq_false c38
       have c38b1:decide (40 < qi.length)=false:=decide_eq_false (by omega)
       clear c38
       replace H:=ob H
       obtain ⟨⟨jm,jn,jo,j7⟩,A56,H⟩:=H;(try dsimp only at H)
       simp only [Option.some.injEq,Prod.mk.injEq] at H
       obtain ⟨rfl,rfl,rfl,rfl⟩:=H
       have qai:=qq.o
       have qat:=ql.o
       have qaj:=qr.o
       have qau:=qm.o
       obtain ⟨_,_,_,_,_,_⟩:=cEc qf.o
       go_wp2_with (first|(refine gL (some 42) Tryz.func93 #[.slice qu qn.length qv,.int .i64 x5_21] (h:=?_);(with_reducible refine (Za7.calls _ _ qn x5_21 qt _ ?side1 ?side2 A36.o).mono ?_);(case side1=>exact Kd.Zi (Kd.Zc qb.o).2.2 pl);(case side2=>exact (Kd.Zc qb.o).2.1);rintro e w60 ⟨j8,rfl,ho0,hb⟩;refine ⟨_,rfl,?_⟩;have qh:=am (Kd.Zn (Kd.Zf ho0 (Kd.R_lt (Kd.Za qb.o pl))) (Zb pB));replace qb:=reR qb ho0 hb;replace qa:=bb qa hb;replace qc:=bb qc hb;replace qf:=bb qf hb;replace HB:=bS hb;obtain ⟨ju,jw,j3⟩:=Kd.Zh qh.o;subst j3)|(refine gL (some 43) Tryz.func97 #[.slice ju qt.length jw] (h:=?_);(with_reducible refine (Zd.calls q4 _ _ qt qi _ ?side1 ?side2 A37.o).mono ?_);(case side1=>exact Kd.Zi (Kd.Zc qh.o).2.2 pl);(case side2=>exact (Kd.Zc qh.o).2.1);rintro e w62 ⟨j9,rfl,ho0,hb⟩;refine ⟨_,rfl,?_⟩;have qo:=am (Kd.Zn (Kd.Zf (Kd.Zf ho0 (Kd.R_lt (Kd.Za qb.o pl))) (Kd.R_lt (Kd.Za qh.o pl))) (Zb pB));replace qb:=reR qb ho0 hb;replace qh:=reR qh ho0 hb;replace qa:=bb qa hb;replace qc:=bb qc hb;replace qf:=bb qf hb;replace HB:=bS hb;obtain ⟨_,_,_,_,_,_⟩:=cEc qf.o;obtain ⟨jv,jx,j4⟩:=Kd.Zh qo.o;subst j4)|(refine gL (some 64) Tryz.func23 #[.agg #[.bool false,.slice jv qi.length jx,.int .i64 (wrap64 (Int.tdiv (wrap64 (qp - x5_21)) 2))]] (h:=?_);(with_reducible refine (Zp.calls q4 false _ _ qi (wrap64 (Int.tdiv (wrap64 (qp - x5_21)) 2)) jm jn jo j7 _ ?side1 ?side2 A56.o).mono ?_);(case side1=>exact Kd.Zi (Kd.Zc qo.o).2.2 pl);(case side2=>exact (Kd.Zc qo.o).2.1);rintro e w65 ⟨qa0,rfl,ho0,hb⟩;refine ⟨_,rfl,?_⟩;replace qb:=rbl qb hb;replace qh:=rbl qh hb;replace qo:=rbl qo hb;have jg:=am (Kd.Zn ho0 (Zb pB));replace qa:=bb qa hb;replace qc:=bb qc hb;replace qf:=bb qf hb;replace HB:=bS hb;have qak:=qe.o;have qav:=qd.o;obtain ⟨_,_,_,_,_,_⟩:=cEc qc.o;obtain ⟨jq,js,j5⟩:=Kd.Zh jg.o;subst j5))
       refine bodyPost_ret (Zae rfl _ _ qj 24 #[.bool jm,.slice jq jn.length js,.int .i64 jo] (0,0) _ rfl (by exact p3 qc) Tryz.underlying24 rfl (by kernel_rfl)) rfl ?_
       exact ⟨_,by first|rfl|(simp [Zap,Zaq] <;> rfl)|(simp only [<- hji21];first|rfl|(simp [Zap,Zaq] <;> rfl))|(simp [*,Zap,Zaq] <;> rfl),by refine rp ?_;exact Kd.Zo (Kd.Zau (p:=⟨qj,2,none⟩) (Kd.Zau (p:=⟨qj,1,none⟩) (Kd.Zau (p:=⟨qj,0,none⟩) (Kd.Zba jg.o qc.o (by decide)) (fun _ hk=>hk.2) (.bool jm)) (fun _ hk=>hk.2) (.slice jq jn.length js)) (fun _ hk=>hk.2) (.int .i64 jo)) (fun _ hk=>trivial),pB⟩
 ·simp only [Option.some.injEq,Prod.mk.injEq] at H
  obtain ⟨rfl,rfl,rfl,rfl⟩:=H
  go_enter Tryz.func39,Tryz.ntmps39
  go_wp2_with (first|((with_reducible refine gd 1 ?_);refine bx 1 #[.bool a0_0,.slice A0_1 l0_1.length c0_1,.int .i64 a0_2] 24 (h:=?_);intro q2 hg w69 hbox hb;have qa:=am hbox;have q8:=gW hg;have q6:=gW hg;replace HB:=bS hb;clear hb hbox hg)|((with_reducible refine gd 2 ?_);refine bx 2 #[.bool false,.slice none 0 0,.int .i64 0] 24 (h:=?_);intro qj hg w70 hbox hb;have qc:=am hbox;have q9:=gW hg;have q7:=gW hg;have qd:=nL hg qa;have qe:=nG hg qa;replace qa:=bb qa hb;replace HB:=bS hb;clear hb hbox hg;have qal:=qd.o;have qaw:=qe.o;obtain ⟨_,_,_,_,_,_⟩:=cEc qa.o)|(refine gL (some 11) Tryz.func33 #[.agg #[.bool a0_0,.slice A0_1 l0_1.length c0_1,.int .i64 a0_2]] (h:=?_);(with_reducible refine (Ze.calls k a0_0 _ _ l0_1 a0_2 qy _ ?side1 ?side2 A2.o).mono ?_);(case side1=>exact cB HR0_1 HB);(case side2=>exact HC0_1.o);rintro e w73 ⟨rfl,hb⟩;refine ⟨_,rfl,?_⟩;replace qa:=bb qa hb;replace qc:=bb qc hb;replace HB:=bS hb;obtain ⟨_,_,_,_,_,_⟩:=cEc qc.o))
  refine bodyPost_ret (Zae rfl _ _ qj 24 #[.bool false,.slice none 0 0,.int .i64 0] (0,0) _ rfl (by exact p3 qc) Tryz.underlying24 rfl (by kernel_rfl)) rfl ?_
  exact ⟨_,pE,pN,pB⟩
def Zk.j0:Nat->Bool->Bool->List Int->Int->Option (Bool)
 | 0,_,_,_,_=>none
 | k+1,qr5,qa6,qa7,qa8=>if qr5=true then (some false) else ((Zeb.f k qa6 qa7 qa8).bind fun qf7=>((Zcn.f k qa6 qa7 qa8).bind fun qf8=>((Zbi.f k qa6 qa7 qa8).bind fun qf9=>((Zas.f k qa6 qa7 qa8).bind fun qga=>((Zfh.f k qa6 qa7 qa8).bind fun qgb=>((Zb0.f k qa6 qa7 qa8).bind fun qgc=>((Zq.f k qf7.1 qf7.2.1 qf7.2.2.1 qf8.1 qf8.2.1 qf8.2.2.1).bind fun qil=>(if qil=true then ((Zaj.f qf7.2.2.2).bind fun qim=>(if qim=qf8.2.2.2 then ((Zq.f k qf9.1 qf9.2.1 qf9.2.2.1 qga.1 qga.2.1 qga.2.2.1).bind fun qin=>(if qin=true then ((Zaj.f qf9.2.2.2).bind fun qio=>(if qio=qga.2.2.2 then ((Zq.f k qgb.1 qgb.2.1 qgb.2.2.1 qgc.1 qgc.2.1 qgc.2.2.1).bind fun qip=>(if qip=true then ((Zaj.f qgb.2.2.2).bind fun qiq=>(if qiq=qgc.2.2.2 then ((Zbx.f k).bind fun qir=>(some qir)) else (some false))) else (some false))) else (some false))) else (some false))) else (some false))) else (some false)))))))))
def Zk.f (k:Nat) (a0_0:Bool) (l0_1:List Int) (a0_2:Int) (a1_0:Bool) (l1_1:List Int) (a1_2:Int):Option (Bool):=(Za9.f k a0_0 l0_1 a0_2 a1_0 l1_1 a1_2).bind fun qbb=>((Zbt.f k a0_0 l0_1 a0_2 a1_0 l1_1 a1_2).bind fun qbc=>((Zd0.f k a0_0 l0_1 a0_2 a1_0 l1_1 a1_2).bind fun qbd=>((Zaw.f k a0_0 l0_1 a0_2 a1_0 l1_1 a1_2).bind fun qbe=>((Zdz.f k a0_0 l0_1 a0_2).bind fun qbf=>((Zbd.f k a0_0 l0_1 a0_2).bind fun qbg=>((Zeh.f k a0_0 l0_1 a0_2).bind fun qbh=>((Zbg.f k a0_0 l0_1 a0_2).bind fun qbi=>((Zq.f k qbb.1 qbb.2.1 qbb.2.2.1 qbc.1 qbc.2.1 qbc.2.2.1).bind fun qis=>(if qis=true then ((Zaj.f qbb.2.2.2).bind fun qit=>(if qit=qbc.2.2.2 then ((Zq.f k qbd.1 qbd.2.1 qbd.2.2.1 qbe.1 qbe.2.1 qbe.2.2.1).bind fun qiu=>(if qiu=true then ((Zaj.f qbd.2.2.2).bind fun qiv=>(if qiv=qbe.2.2.2 then ((Zq.f k qbf.1 qbf.2.1 qbf.2.2.1 qbg.1 qbg.2.1 qbg.2.2.1).bind fun qiw=>(if qiw=true then ((Zaj.f qbf.2.2.2).bind fun qix=>(if qix=qbg.2.2.2 then ((Zq.f k qbh.1 qbh.2.1 qbh.2.2.1 qbi.1 qbi.2.1 qbi.2.2.1).bind fun qiy=>(if qiy=true then ((Zaj.f qbh.2.2.2).bind fun qf6=>(Zk.j0 k (qf6 != qbi.2.2.2) a0_0 l0_1 a0_2)) else (Zk.j0 k true a0_0 l0_1 a0_2))) else (Zk.j0 k true a0_0 l0_1 a0_2))) else (Zk.j0 k true a0_0 l0_1 a0_2))) else (Zk.j0 k true a0_0 l0_1 a0_2))) else (Zk.j0 k true a0_0 l0_1 a0_2))) else (Zk.j0 k true a0_0 l0_1 a0_2))) else (Zk.j0 k true a0_0 l0_1 a0_2))))))))))
theorem Zk.dead {k:Nat} {y1:Bool} {y2:List Int} {y3:Int} {r:Bool} (H:Zk.j0 k true y1 y2 y3=some r) (hr:r=true):False:=by
 subst hr
 cases k <;> simp [Zk.j0] at H
theorem Zk.calls (k:Nat) (a0_0:Bool) (A0_1:Option Addr) (c0_1:Nat) (l0_1:List Int) (a0_2:Int) (a1_0:Bool) (A1_1:Option Addr) (c1_1:Nat) (l1_1:List Int) (a1_2:Int) (r:Bool) (w:World) (hr0_1:Kd.C (Kd.int .u32) w A0_1 l0_1.length l0_1) (hc0_1:l0_1.length<=c0_1) (hr1_1:Kd.C (Kd.int .u32) w A1_1 l1_1.length l1_1) (hc1_1:l1_1.length<=c1_1) (h:Zk.f k a0_0 l0_1 a0_2 a1_0 l1_1 a1_2=some r) (hr:r=true) :
  Calls Tryz.prog 8 #[.agg #[.bool a0_0,.slice A0_1 l0_1.length c0_1,.int .i64 a0_2],.agg #[.bool a1_0,.slice A1_1 l1_1.length c1_1,.int .i64 a1_2]] w fun e w'=>e=.returned (.bool r)/\Below w.heap.size w w':=by
 have hu24:=Tryz.underlying24
 have HR0_1:=am hr0_1
 have HC0_1:=am hc0_1
 clear hr0_1 hc0_1
 have HR1_1:=am hr1_1
 have HC1_1:=am hc1_1
 clear hr1_1 hc1_1
 have HB:=am (Below.refl w.heap.size w)
 have H:((Za9.f k a0_0 l0_1 a0_2 a1_0 l1_1 a1_2).bind fun qbb=>((Zbt.f k a0_0 l0_1 a0_2 a1_0 l1_1 a1_2).bind fun qbc=>((Zd0.f k a0_0 l0_1 a0_2 a1_0 l1_1 a1_2).bind fun qbd=>((Zaw.f k a0_0 l0_1 a0_2 a1_0 l1_1 a1_2).bind fun qbe=>((Zdz.f k a0_0 l0_1 a0_2).bind fun qbf=>((Zbd.f k a0_0 l0_1 a0_2).bind fun qbg=>((Zeh.f k a0_0 l0_1 a0_2).bind fun qbh=>((Zbg.f k a0_0 l0_1 a0_2).bind fun qbi=>((Zq.f k qbb.1 qbb.2.1 qbb.2.2.1 qbc.1 qbc.2.1 qbc.2.2.1).bind fun qis=>(if qis=true then ((Zaj.f qbb.2.2.2).bind fun qit=>(if qit=qbc.2.2.2 then ((Zq.f k qbd.1 qbd.2.1 qbd.2.2.1 qbe.1 qbe.2.1 qbe.2.2.1).bind fun qiu=>(if qiu=true then ((Zaj.f qbd.2.2.2).bind fun qiv=>(if qiv=qbe.2.2.2 then ((Zq.f k qbf.1 qbf.2.1 qbf.2.2.1 qbg.1 qbg.2.1 qbg.2.2.1).bind fun qiw=>(if qiw=true then ((Zaj.f qbf.2.2.2).bind fun qix=>(if qix=qbg.2.2.2 then ((Zq.f k qbh.1 qbh.2.1 qbh.2.2.1 qbi.1 qbi.2.1 qbi.2.2.1).bind fun qiy=>(if qiy=true then ((Zaj.f qbh.2.2.2).bind fun qf6=>(Zk.j0 k (qf6 != qbi.2.2.2) a0_0 l0_1 a0_2)) else (Zk.j0 k true a0_0 l0_1 a0_2))) else (Zk.j0 k true a0_0 l0_1 a0_2))) else (Zk.j0 k true a0_0 l0_1 a0_2))) else (Zk.j0 k true a0_0 l0_1 a0_2))) else (Zk.j0 k true a0_0 l0_1 a0_2))) else (Zk.j0 k true a0_0 l0_1 a0_2))) else (Zk.j0 k true a0_0 l0_1 a0_2)))))))))))=some r:=h
 clear h
 replace H:=ob H
 obtain ⟨⟨qgs,qaj,qgt,qjq⟩,A3,H⟩:=H;(try dsimp only at H)
 replace H:=ob H
 obtain ⟨⟨qgu,qak,qgv,qr1⟩,A4,H⟩:=H;(try dsimp only at H)
 replace H:=ob H
 obtain ⟨⟨qe2,qal,qe3,qjr⟩,A5,H⟩:=H;(try dsimp only at H)
 replace H:=ob H
 obtain ⟨⟨qda,qag,qdb,qr2⟩,A6,H⟩:=H;(try dsimp only at H)
 replace H:=ob H
 obtain ⟨⟨qbj,qac,qbk,qjs⟩,A7,H⟩:=H;(try dsimp only at H)
 replace H:=ob H
 obtain ⟨⟨qa9,j8,qba,qr3⟩,A8,H⟩:=H;(try dsimp only at H)
 replace H:=ob H
 obtain ⟨⟨qav,j2,qaw,qjt⟩,A9,H⟩:=H;(try dsimp only at H)
 replace H:=ob H
 obtain ⟨⟨qbl,qad,qbm,qju⟩,A10,H⟩:=H;(try dsimp only at H)
 have HC11:=am H
 clear H
 go_enter Tryz.func8,Tryz.ntmps8
 go_upto_region 9 with (first|((with_reducible refine gd 2 ?_);refine bx 2 #[.bool a0_0,.slice A0_1 l0_1.length c0_1,.int .i64 a0_2] 24 (h:=?_);intro qiz hg w12 hbox hb;have qa:=am hbox;have qr6:=gW hg;replace HB:=bS hb;clear hb hbox hg)|((with_reducible refine gd 3 ?_);refine bx 3 #[.bool a1_0,.slice A1_1 l1_1.length c1_1,.int .i64 a1_2] 24 (h:=?_);intro qi0 hg w13 hbox hb;have qb:=am hbox;have qr7:=gW hg;have qe4:=nL hg qa;have qe5:=nG hg qa;replace qa:=bb qa hb;replace HB:=bS hb;clear hb hbox hg;have qsg:=qe4.o;have qtn:=qe5.o;obtain ⟨_,_,_,_,_,_⟩:=cEc qa.o;obtain ⟨_,_,_,_,_,_⟩:=cEc qb.o)|(refine gL (some 36) Tryz.func19 #[.agg #[.bool a0_0,.slice A0_1 l0_1.length c0_1,.int .i64 a0_2],.agg #[.bool a1_0,.slice A1_1 l1_1.length c1_1,.int .i64 a1_2]] (h:=?_);(with_reducible refine (Za9.calls k a0_0 (fun k_=>k_ < w.heap.size) _ _ l0_1 a0_2 a1_0 (fun k_=>k_ < w.heap.size) _ _ l1_1 a1_2 qgs qaj qgt qjq _ ?side1 ?side2 A3.o).mono ?_);(case side1=>exact Kd.V_mk HC0_1.o (Kd.Ze9 (Kd.C_F (Kd.Ze4 .u32) HR0_1.o) pB));(case side2=>exact Kd.V_mk HC1_1.o (Kd.Ze9 (Kd.C_F (Kd.Ze4 .u32) HR1_1.o) pB));rintro e w17 ⟨qu6,rfl,ho0,hb⟩;refine ⟨_,rfl,?_⟩;have qy:=am (Kd.Zn (Kd.Zo (ok':=fun k_=>True) ho0 (fun _ hk_=>trivial)) (Zb pB));replace qa:=bb qa hb;replace qb:=bb qb hb;replace HB:=bS hb)|((with_reducible refine gd 5 ?_);refine bx 5 #[.bool false,.slice none 0 0,.int .i64 0] 24 (h:=?_);intro qik hg w18 hbox hb;have qc:=am hbox;have qr8:=gW hg;have qay:=nL hg qa;have qbv:=nG hg qa;have qbn:=nL hg qb;have qe6:=nG hg qb;replace qy:=rbl qy hb;replace qa:=bb qa hb;replace qb:=bb qb hb;replace HB:=bS hb;clear hb hbox hg;have qsh:=qbv.o;have qto:=qay.o;have qsi:=qe6.o;have qtp:=qbn.o;obtain ⟨_,_,_,_,_,_⟩:=cEc qc.o;obtain ⟨qat,qaq,qkm⟩:=Kd.Zh qy.o;subst qkm;obtain ⟨_,_,_,_,_,_⟩:=cEc qa.o;obtain ⟨_,_,_,_,_,_⟩:=cEc qb.o)|(refine gL (some 42) Tryz.func34 #[.agg #[.bool a0_0,.slice A0_1 l0_1.length c0_1,.int .i64 a0_2],.agg #[.bool a1_0,.slice A1_1 l1_1.length c1_1,.int .i64 a1_2]] (h:=?_);(with_reducible refine (Zbt.calls k a0_0 _ _ l0_1 a0_2 a1_0 _ _ l1_1 a1_2 qgu qak qgv qr1 _ ?side1 ?side2 ?side3 ?side4 A4.o).mono ?_);(case side1=>exact Kd.Zi HR0_1.o pB);(case side2=>exact HC0_1.o);(case side3=>exact Kd.Zi HR1_1.o pB);(case side4=>exact HC1_1.o);rintro e w25 ⟨qu7,rfl,ho0,hb⟩;refine ⟨_,rfl,?_⟩;have qz:=am (Kd.Zn (Kd.Zf ho0 (Kd.R_lt (Kd.Za (z3 qy.o qc.o (by decide) (.bool qgs) (.slice qat qaj.length qaq) (.int .i64 qgt)) pl))) (Zb pB));replace qy:=am (Kd.Zy (Kd.Za (z3 qy.o qc.o (by decide) (.bool qgs) (.slice qat qaj.length qaq) (.int .i64 qgt)) pl) (Kd.Zt ho0) hb);replace qa:=bfb qay qa hb;replace qb:=bfb qbn qb hb;replace qc:=am (Zg (g:=qik) (o:=.cells #[.bool qgs,.slice qat qaj.length qaq,.int .i64 qgt] 24 (0,0)) (by exact p3 qc) hb);replace HB:=bS hb)|((with_reducible refine gd 7 ?_);refine bx 7 #[.bool false,.slice none 0 0,.int .i64 0] 24 (h:=?_);intro qax hg w26 hbox hb;have qd:=am hbox;have qr9:=gW hg;have qaz:=nL hg qa;have qb3:=nG hg qa;have qbo:=nL hg qb;have qe7:=nG hg qb;have qbw:=nL hg qc;have qe8:=nG hg qc;replace qy:=rbl qy hb;replace qz:=rbl qz hb;replace qa:=bb qa hb;replace qb:=bb qb hb;replace qc:=bb qc hb;replace HB:=bS hb;clear hb hbox hg;have qsj:=qb3.o;have qtq:=qaz.o;have qsk:=qe7.o;have qtr:=qbo.o;have qsl:=qe8.o;have qts:=qbw.o;obtain ⟨_,_,_,_,_,_⟩:=cEc qd.o;obtain ⟨qau,qar,qkn⟩:=Kd.Zh qz.o;subst qkn)|((with_reducible refine Zel (t:=24) (p:=7) rfl ?_);refine Zd8 (t:=24) (p:=7) (v:=?vo_w32) (w1:=(((w26.setCell ⟨qax,0,none⟩ (.bool qgu)).setCell ⟨qax,1,none⟩ (.slice qau qak.length qar)).setCell ⟨qax,2,none⟩ (.int .i64 qgv))) ?hg ?ho ?hn ?hr ?_;(case ho=>rfl);(case hg=>rfl);(case hn=>rfl);(case hr=>first|(go_simp;done)|(go_simp;rfl));intro w32 hw;replace qy:Aside0 (Kd.R (Kd.int .u32) 85 w32 w.heap.size (fun k_=>some k_ ≠ (.slice qau qak.length qar:Value).ownBlock) (.slice qat qaj.length qaq) qaj):=⟨(by rw [hw];exact (Kd.Za (Kd.Zo (Kd.Zau (p:=⟨qax,2,none⟩) (Kd.Zau (p:=⟨qax,1,none⟩) (Kd.Zau (p:=⟨qax,0,none⟩) (Kd.Zba qy.o qd.o (by decide)) (fun _ hk=>hk.2) (.bool qgu)) (fun _ hk=>hk.2) (.slice qau qak.length qar)) (fun _ hk=>hk.2) (.int .i64 qgv)) (fun _ hk=>hk.1.2)) pl))⟩;replace qz:Aside0 (Kd.R (Kd.int .u32) 85 w32 w.heap.size (fun k_=>some k_ ≠ (.slice qat qaj.length qaq:Value).ownBlock) (.slice qau qak.length qar) qak):=⟨(by rw [hw];exact (Kd.Za (Kd.Zo (Kd.Zau (p:=⟨qax,2,none⟩) (Kd.Zau (p:=⟨qax,1,none⟩) (Kd.Zau (p:=⟨qax,0,none⟩) (Kd.Zba qz.o qd.o (by decide)) (fun _ hk=>hk.2) (.bool qgu)) (fun _ hk=>hk.2) (.slice qau qak.length qar)) (fun _ hk=>hk.2) (.int .i64 qgv)) (fun _ hk=>hk.1.2)) pl))⟩;replace qa:Aside0 (w32.heap[qiz]? = some (.cells #[.bool a0_0,.slice A0_1 l0_1.length c0_1,.int .i64 a0_2] 24 (0,0))):=⟨(by rw [hw];exact (bf qaz.o qa.o))⟩;replace qb:Aside0 (w32.heap[qi0]? = some (.cells #[.bool a1_0,.slice A1_1 l1_1.length c1_1,.int .i64 a1_2] 24 (0,0))):=⟨(by rw [hw];exact (bf qbo.o qb.o))⟩;replace qc:Aside0 (w32.heap[qik]? = some (.cells #[.bool qgs,.slice qat qaj.length qaq,.int .i64 qgt] 24 (0,0))):=⟨(by rw [hw];exact (bf qbw.o qc.o))⟩;replace qd:Aside0 (w32.heap[qax]? = some (.cells #[.bool qgu,.slice qau qak.length qar,.int .i64 qgv] 24 (0,0))):=⟨(by rw [hw];exact (by exact p3 qd))⟩;replace HB:Aside0 (Below w.heap.size w w32):=⟨(by rw [hw];exact pB)⟩;clear hw;obtain ⟨_,_,_,_,_,_⟩:=cEc qa.o;obtain ⟨_,_,_,_,_,_⟩:=cEc qb.o)|(refine gL (some 48) Tryz.func28 #[.agg #[.bool a0_0,.slice A0_1 l0_1.length c0_1,.int .i64 a0_2],.agg #[.bool a1_0,.slice A1_1 l1_1.length c1_1,.int .i64 a1_2]] (h:=?_);(with_reducible refine (Zd0.calls k a0_0 (fun k_=>k_ < w.heap.size) _ _ l0_1 a0_2 a1_0 (fun k_=>k_ < w.heap.size) _ _ l1_1 a1_2 qe2 qal qe3 qjr _ ?side1 ?side2 A5.o).mono ?_);(case side1=>exact Kd.V_mk HC0_1.o (Kd.Ze9 (Kd.C_F (Kd.Ze4 .u32) HR0_1.o) pB));(case side2=>exact Kd.V_mk HC1_1.o (Kd.Ze9 (Kd.C_F (Kd.Ze4 .u32) HR1_1.o) pB));rintro e w35 ⟨qu8,rfl,ho0,hb⟩;refine ⟨_,rfl,?_⟩;have q1:=am (Kd.Zn (Kd.Zf (Kd.Zf (Kd.Zo (ok':=fun k_=>True) ho0 (fun _ hk_=>trivial)) (Kd.R_lt (Kd.Za qy.o pl))) (Kd.R_lt (Kd.Za qz.o pl))) (Zb pB));replace qy:=reR qy ho0 hb;replace qz:=reR qz ho0 hb;replace qa:=bb qa hb;replace qb:=bb qb hb;replace qc:=bb qc hb;replace qd:=bb qd hb;replace HB:=bS hb)|((with_reducible refine gd 9 ?_);refine bx 9 #[.bool false,.slice none 0 0,.int .i64 0] 24 (h:=?_);intro qi1 hg w36 hbox hb;have qe:=am hbox;have qsa:=gW hg;have qa0:=nL hg qa;have qca:=nG hg qa;have qbp:=nL hg qb;have qe9:=nG hg qb;have qbx:=nL hg qc;have qfa:=nG hg qc;have qb4:=nL hg qd;have qfb:=nG hg qd;replace qy:=rbl qy hb;replace qz:=rbl qz hb;replace q1:=rbl q1 hb;replace qa:=bb qa hb;replace qb:=bb qb hb;replace qc:=bb qc hb;replace qd:=bb qd hb;replace HB:=bS hb;clear hb hbox hg;have qsm:=qca.o;have qtt:=qa0.o;have qsn:=qe9.o;have qtu:=qbp.o;have qso:=qfa.o;have qtv:=qbx.o;have qsp:=qfb.o;have qtw:=qb4.o;obtain ⟨_,_,_,_,_,_⟩:=cEc qe.o;obtain ⟨qap,qas,qko⟩:=Kd.Zh q1.o;subst qko;obtain ⟨_,_,_,_,_,_⟩:=cEc qa.o;obtain ⟨_,_,_,_,_,_⟩:=cEc qb.o)|(refine gL (some 54) Tryz.func35 #[.agg #[.bool a0_0,.slice A0_1 l0_1.length c0_1,.int .i64 a0_2],.agg #[.bool a1_0,.slice A1_1 l1_1.length c1_1,.int .i64 a1_2]] (h:=?_);(with_reducible refine (Zaw.calls k a0_0 _ _ l0_1 a0_2 a1_0 _ _ l1_1 a1_2 qda qag qdb qr2 _ ?side1 ?side2 ?side3 ?side4 A6.o).mono ?_);(case side1=>exact Kd.Zi HR0_1.o pB);(case side2=>exact HC0_1.o);(case side3=>exact Kd.Zi HR1_1.o pB);(case side4=>exact HC1_1.o);rintro e w45 ⟨qu9,rfl,ho0,hb⟩;refine ⟨_,rfl,?_⟩;have q4:=am (Kd.Zn (Kd.Zf (Kd.Zf (Kd.Zf ho0 (Kd.R_lt (Kd.Za (z3 qy.o qe.o (by decide) (.bool qe2) (.slice qap qal.length qas) (.int .i64 qe3)) pl))) (Kd.R_lt (Kd.Za (z3 qz.o qe.o (by decide) (.bool qe2) (.slice qap qal.length qas) (.int .i64 qe3)) pl))) (Kd.R_lt (Kd.Za (z3 q1.o qe.o (by decide) (.bool qe2) (.slice qap qal.length qas) (.int .i64 qe3)) pl))) (Zb pB));replace qy:=am (Kd.Zy (Kd.Za (z3 qy.o qe.o (by decide) (.bool qe2) (.slice qap qal.length qas) (.int .i64 qe3)) pl) (Kd.Zt ho0) hb);replace qz:=am (Kd.Zy (Kd.Za (z3 qz.o qe.o (by decide) (.bool qe2) (.slice qap qal.length qas) (.int .i64 qe3)) pl) (Kd.Zt ho0) hb);replace q1:=am (Kd.Zy (Kd.Za (z3 q1.o qe.o (by decide) (.bool qe2) (.slice qap qal.length qas) (.int .i64 qe3)) pl) (Kd.Zt ho0) hb);replace qa:=bfb qa0 qa hb;replace qb:=bfb qbp qb hb;replace qc:=bfb qbx qc hb;replace qd:=bfb qb4 qd hb;replace qe:=am (Zg (g:=qi1) (o:=.cells #[.bool qe2,.slice qap qal.length qas,.int .i64 qe3] 24 (0,0)) (by exact p3 qe) hb);replace HB:=bS hb)|((with_reducible refine gd 11 ?_);refine bx 11 #[.bool false,.slice none 0 0,.int .i64 0] 24 (h:=?_);intro qi2 hg w46 hbox hb;have qn:=am hbox;have qsb:=gW hg;have qa1:=nL hg qa;have qcg:=nG hg qa;have qbq:=nL hg qb;have qfc:=nG hg qb;have qby:=nL hg qc;have qfd:=nG hg qc;have qb5:=nL hg qd;have qfe:=nG hg qd;have qcb:=nL hg qe;have qff:=nG hg qe;replace qy:=rbl qy hb;replace qz:=rbl qz hb;replace q1:=rbl q1 hb;replace q4:=rbl q4 hb;replace qa:=bb qa hb;replace qb:=bb qb hb;replace qc:=bb qc hb;replace qd:=bb qd hb;replace qe:=bb qe hb;replace HB:=bS hb;clear hb hbox hg;have qsq:=qcg.o;have qtx:=qa1.o;have qsr:=qfc.o;have qty:=qbq.o;have qss:=qfd.o;have qtz:=qby.o;have qst:=qfe.o;have qt0:=qb5.o;have qsu:=qff.o;have qt1:=qcb.o;obtain ⟨_,_,_,_,_,_⟩:=cEc qn.o;obtain ⟨qam,qan,qkp⟩:=Kd.Zh q4.o;subst qkp;obtain ⟨_,_,_,_,_,_⟩:=cEc qa.o)|(refine gL (some 59) Tryz.func30 #[.agg #[.bool a0_0,.slice A0_1 l0_1.length c0_1,.int .i64 a0_2]] (h:=?_);(with_reducible refine (Zdz.calls k a0_0 _ _ l0_1 a0_2 qbj qac qbk qjs _ ?side1 ?side2 A7.o).mono ?_);(case side1=>exact Kd.Zi HR0_1.o pB);(case side2=>exact HC0_1.o);rintro e w55 ⟨qva,rfl,ho0,hb⟩;refine ⟨_,rfl,?_⟩;have q8:=am (Kd.Zn (Kd.Zf (Kd.Zf (Kd.Zf (Kd.Zf ho0 (Kd.R_lt (Kd.Za (z3 qy.o qn.o (by decide) (.bool qda) (.slice qam qag.length qan) (.int .i64 qdb)) pl))) (Kd.R_lt (Kd.Za (z3 qz.o qn.o (by decide) (.bool qda) (.slice qam qag.length qan) (.int .i64 qdb)) pl))) (Kd.R_lt (Kd.Za (z3 q1.o qn.o (by decide) (.bool qda) (.slice qam qag.length qan) (.int .i64 qdb)) pl))) (Kd.R_lt (Kd.Za (z3 q4.o qn.o (by decide) (.bool qda) (.slice qam qag.length qan) (.int .i64 qdb)) pl))) (Zb pB));replace qy:=am (Kd.Zy (Kd.Za (z3 qy.o qn.o (by decide) (.bool qda) (.slice qam qag.length qan) (.int .i64 qdb)) pl) (Kd.Zt ho0) hb);replace qz:=am (Kd.Zy (Kd.Za (z3 qz.o qn.o (by decide) (.bool qda) (.slice qam qag.length qan) (.int .i64 qdb)) pl) (Kd.Zt ho0) hb);replace q1:=am (Kd.Zy (Kd.Za (z3 q1.o qn.o (by decide) (.bool qda) (.slice qam qag.length qan) (.int .i64 qdb)) pl) (Kd.Zt ho0) hb);replace q4:=am (Kd.Zy (Kd.Za (z3 q4.o qn.o (by decide) (.bool qda) (.slice qam qag.length qan) (.int .i64 qdb)) pl) (Kd.Zt ho0) hb);replace qa:=bfb qa1 qa hb;replace qb:=bfb qbq qb hb;replace qc:=bfb qby qc hb;replace qd:=bfb qb5 qd hb;replace qe:=bfb qcb qe hb;replace qn:=am (Zg (g:=qi2) (o:=.cells #[.bool qda,.slice qam qag.length qan,.int .i64 qdb] 24 (0,0)) (by exact p3 qn) hb);replace HB:=bS hb)|((with_reducible refine gd 13 ?_);refine bx 13 #[.bool false,.slice none 0 0,.int .i64 0] 24 (h:=?_);intro qi3 hg w56 hbox hb;have qo:=am hbox;have qsc:=gW hg;have qa2:=nL hg qa;have qcl:=nG hg qa;have qbr:=nL hg qb;have qfg:=nG hg qb;have qbz:=nL hg qc;have qfh:=nG hg qc;have qb6:=nL hg qd;have qfi:=nG hg qd;have qcc:=nL hg qe;have qfj:=nG hg qe;have qch:=nL hg qn;have qfk:=nG hg qn;replace qy:=rbl qy hb;replace qz:=rbl qz hb;replace q1:=rbl q1 hb;replace q4:=rbl q4 hb;replace q8:=rbl q8 hb;replace qa:=bb qa hb;replace qb:=bb qb hb;replace qc:=bb qc hb;replace qd:=bb qd hb;replace qe:=bb qe hb;replace qn:=bb qn hb;replace HB:=bS hb;clear hb hbox hg;have qsv:=qcl.o;have qt2:=qa2.o;have qsw:=qfg.o;have qt3:=qbr.o;have qsx:=qfh.o;have qt4:=qbz.o;have qsy:=qfi.o;have qt5:=qb6.o;have qsz:=qfj.o;have qt6:=qcc.o;have qs0:=qfk.o;have qt7:=qch.o;obtain ⟨_,_,_,_,_,_⟩:=cEc qo.o;obtain ⟨qah,qai,qkq⟩:=Kd.Zh q8.o;subst qkq;obtain ⟨_,_,_,_,_,_⟩:=cEc qa.o)|(refine gL (some 64) Tryz.func36 #[.agg #[.bool a0_0,.slice A0_1 l0_1.length c0_1,.int .i64 a0_2]] (h:=?_);(with_reducible refine (Zbd.calls k a0_0 _ _ l0_1 a0_2 qa9 j8 qba qr3 _ ?side1 ?side2 A8.o).mono ?_);(case side1=>exact Kd.Zi HR0_1.o pB);(case side2=>exact HC0_1.o);rintro e w66 ⟨qvb,rfl,ho0,hb⟩;refine ⟨_,rfl,?_⟩;have jp:=am (Kd.Zn (Kd.Zf (Kd.Zf (Kd.Zf (Kd.Zf (Kd.Zf ho0 (Kd.R_lt (Kd.Za (z3 qy.o qo.o (by decide) (.bool qbj) (.slice qah qac.length qai) (.int .i64 qbk)) pl))) (Kd.R_lt (Kd.Za (z3 qz.o qo.o (by decide) (.bool qbj) (.slice qah qac.length qai) (.int .i64 qbk)) pl))) (Kd.R_lt (Kd.Za (z3 q1.o qo.o (by decide) (.bool qbj) (.slice qah qac.length qai) (.int .i64 qbk)) pl))) (Kd.R_lt (Kd.Za (z3 q4.o qo.o (by decide) (.bool qbj) (.slice qah qac.length qai) (.int .i64 qbk)) pl))) (Kd.R_lt (Kd.Za (z3 q8.o qo.o (by decide) (.bool qbj) (.slice qah qac.length qai) (.int .i64 qbk)) pl))) (Zb pB));replace qy:=am (Kd.Zy (Kd.Za (z3 qy.o qo.o (by decide) (.bool qbj) (.slice qah qac.length qai) (.int .i64 qbk)) pl) (Kd.Zt ho0) hb);replace qz:=am (Kd.Zy (Kd.Za (z3 qz.o qo.o (by decide) (.bool qbj) (.slice qah qac.length qai) (.int .i64 qbk)) pl) (Kd.Zt ho0) hb);replace q1:=am (Kd.Zy (Kd.Za (z3 q1.o qo.o (by decide) (.bool qbj) (.slice qah qac.length qai) (.int .i64 qbk)) pl) (Kd.Zt ho0) hb);replace q4:=am (Kd.Zy (Kd.Za (z3 q4.o qo.o (by decide) (.bool qbj) (.slice qah qac.length qai) (.int .i64 qbk)) pl) (Kd.Zt ho0) hb);replace q8:=am (Kd.Zy (Kd.Za (z3 q8.o qo.o (by decide) (.bool qbj) (.slice qah qac.length qai) (.int .i64 qbk)) pl) (Kd.Zt ho0) hb);replace qa:=bfb qa2 qa hb;replace qb:=bfb qbr qb hb;replace qc:=bfb qbz qc hb;replace qd:=bfb qb6 qd hb;replace qe:=bfb qcc qe hb;replace qn:=bfb qch qn hb;replace qo:=am (Zg (g:=qi3) (o:=.cells #[.bool qbj,.slice qah qac.length qai,.int .i64 qbk] 24 (0,0)) (by exact p3 qo) hb);replace HB:=bS hb)|((with_reducible refine gd 15 ?_);refine bx 15 #[.bool false,.slice none 0 0,.int .i64 0] 24 (h:=?_);intro qi4 hg w67 hbox hb;have qp:=am hbox;have qsd:=gW hg;have qa3:=nL hg qa;have qcp:=nG hg qa;have qbs:=nL hg qb;have qfl:=nG hg qb;have qb0:=nL hg qc;have qfm:=nG hg qc;have qb7:=nL hg qd;have qfn:=nG hg qd;have qcd:=nL hg qe;have qfo:=nG hg qe;have qci:=nL hg qn;have qfp:=nG hg qn;have qcm:=nL hg qo;have qfq:=nG hg qo;replace qy:=rbl qy hb;replace qz:=rbl qz hb;replace q1:=rbl q1 hb;replace q4:=rbl q4 hb;replace q8:=rbl q8 hb;replace jp:=rbl jp hb;replace qa:=bb qa hb;replace qb:=bb qb hb;replace qc:=bb qc hb;replace qd:=bb qd hb;replace qe:=bb qe hb;replace qn:=bb qn hb;replace qo:=bb qo hb;replace HB:=bS hb;clear hb hbox hg;have qs1:=qcp.o;have qt8:=qa3.o;have qs2:=qfl.o;have qt9:=qbs.o;have qs3:=qfm.o;have qua:=qb0.o;have qs4:=qfn.o;have qub:=qb7.o;have qs5:=qfo.o;have quc:=qcd.o;have qs6:=qfp.o;have qud:=qci.o;have qs7:=qfq.o;have que:=qcm.o;obtain ⟨_,_,_,_,_,_⟩:=cEc qp.o;obtain ⟨qae,qaf,qkr⟩:=Kd.Zh jp.o;subst qkr;obtain ⟨_,_,_,_,_,_⟩:=cEc qa.o)|(refine gL (some 69) Tryz.func31 #[.agg #[.bool a0_0,.slice A0_1 l0_1.length c0_1,.int .i64 a0_2]] (h:=?_);(with_reducible refine (Zeh.calls k a0_0 _ _ l0_1 a0_2 qav j2 qaw qjt _ ?side1 ?side2 A9.o).mono ?_);(case side1=>exact Kd.Zi HR0_1.o pB);(case side2=>exact HC0_1.o);rintro e w78 ⟨qvc,rfl,ho0,hb⟩;refine ⟨_,rfl,?_⟩;have j4:=am (Kd.Zn (Kd.Zf (Kd.Zf (Kd.Zf (Kd.Zf (Kd.Zf (Kd.Zf ho0 (Kd.R_lt (Kd.Za (z3 qy.o qp.o (by decide) (.bool qa9) (.slice qae j8.length qaf) (.int .i64 qba)) pl))) (Kd.R_lt (Kd.Za (z3 qz.o qp.o (by decide) (.bool qa9) (.slice qae j8.length qaf) (.int .i64 qba)) pl))) (Kd.R_lt (Kd.Za (z3 q1.o qp.o (by decide) (.bool qa9) (.slice qae j8.length qaf) (.int .i64 qba)) pl))) (Kd.R_lt (Kd.Za (z3 q4.o qp.o (by decide) (.bool qa9) (.slice qae j8.length qaf) (.int .i64 qba)) pl))) (Kd.R_lt (Kd.Za (z3 q8.o qp.o (by decide) (.bool qa9) (.slice qae j8.length qaf) (.int .i64 qba)) pl))) (Kd.R_lt (Kd.Za (z3 jp.o qp.o (by decide) (.bool qa9) (.slice qae j8.length qaf) (.int .i64 qba)) pl))) (Zb pB));replace qy:=am (Kd.Zy (Kd.Za (z3 qy.o qp.o (by decide) (.bool qa9) (.slice qae j8.length qaf) (.int .i64 qba)) pl) (Kd.Zt ho0) hb);replace qz:=am (Kd.Zy (Kd.Za (z3 qz.o qp.o (by decide) (.bool qa9) (.slice qae j8.length qaf) (.int .i64 qba)) pl) (Kd.Zt ho0) hb);replace q1:=am (Kd.Zy (Kd.Za (z3 q1.o qp.o (by decide) (.bool qa9) (.slice qae j8.length qaf) (.int .i64 qba)) pl) (Kd.Zt ho0) hb);replace q4:=am (Kd.Zy (Kd.Za (z3 q4.o qp.o (by decide) (.bool qa9) (.slice qae j8.length qaf) (.int .i64 qba)) pl) (Kd.Zt ho0) hb);replace q8:=am (Kd.Zy (Kd.Za (z3 q8.o qp.o (by decide) (.bool qa9) (.slice qae j8.length qaf) (.int .i64 qba)) pl) (Kd.Zt ho0) hb);replace jp:=am (Kd.Zy (Kd.Za (z3 jp.o qp.o (by decide) (.bool qa9) (.slice qae j8.length qaf) (.int .i64 qba)) pl) (Kd.Zt ho0) hb);replace qa:=bfb qa3 qa hb;replace qb:=bfb qbs qb hb;replace qc:=bfb qb0 qc hb;replace qd:=bfb qb7 qd hb;replace qe:=bfb qcd qe hb;replace qn:=bfb qci qn hb;replace qo:=bfb qcm qo hb;replace qp:=am (Zg (g:=qi4) (o:=.cells #[.bool qa9,.slice qae j8.length qaf,.int .i64 qba] 24 (0,0)) (by exact p3 qp) hb);replace HB:=bS hb)|((with_reducible refine gd 17 ?_);refine bx 17 #[.bool false,.slice none 0 0,.int .i64 0] 24 (h:=?_);intro qi5 hg w79 hbox hb;have qr:=am hbox;have qse:=gW hg;have qa4:=nL hg qa;have qcs:=nG hg qa;have qbt:=nL hg qb;have qfr:=nG hg qb;have qb1:=nL hg qc;have qfs:=nG hg qc;have qb8:=nL hg qd;have qft:=nG hg qd;have qce:=nL hg qe;have qfu:=nG hg qe;have qcj:=nL hg qn;have qfv:=nG hg qn;have qcn:=nL hg qo;have qfw:=nG hg qo;have qcq:=nL hg qp;have qfx:=nG hg qp;replace qy:=rbl qy hb;replace qz:=rbl qz hb;replace q1:=rbl q1 hb;replace q4:=rbl q4 hb;replace q8:=rbl q8 hb;replace jp:=rbl jp hb;replace j4:=rbl j4 hb;replace qa:=bb qa hb;replace qb:=bb qb hb;replace qc:=bb qc hb;replace qd:=bb qd hb;replace qe:=bb qe hb;replace qn:=bb qn hb;replace qo:=bb qo hb;replace qp:=bb qp hb;replace HB:=bS hb;clear hb hbox hg;have qs8:=qcs.o;have quf:=qa4.o;have qs9:=qfr.o;have qug:=qbt.o;have qta:=qfs.o;have quh:=qb1.o;have qtb:=qft.o;have qui:=qb8.o;have qtc:=qfu.o;have quj:=qce.o;have qtd:=qfv.o;have quk:=qcj.o;have qte:=qfw.o;have qul:=qcn.o;have qtf:=qfx.o;have qum:=qcq.o;obtain ⟨_,_,_,_,_,_⟩:=cEc qr.o;obtain ⟨j9,qaa,qks⟩:=Kd.Zh j4.o;subst qks;obtain ⟨_,_,_,_,_,_⟩:=cEc qa.o)|(refine gL (some 74) Tryz.func37 #[.agg #[.bool a0_0,.slice A0_1 l0_1.length c0_1,.int .i64 a0_2]] (h:=?_);(with_reducible refine (Zbg.calls k a0_0 _ _ l0_1 a0_2 qbl qad qbm qju _ ?side1 ?side2 A10.o).mono ?_);(case side1=>exact Kd.Zi HR0_1.o pB);(case side2=>exact HC0_1.o);rintro e w91 ⟨qvd,rfl,ho0,hb⟩;refine ⟨_,rfl,?_⟩;have qao:=am (Kd.Zn (Kd.Zf (Kd.Zf (Kd.Zf (Kd.Zf (Kd.Zf (Kd.Zf (Kd.Zf ho0 (Kd.R_lt (Kd.Za (z3 qy.o qr.o (by decide) (.bool qav) (.slice j9 j2.length qaa) (.int .i64 qaw)) pl))) (Kd.R_lt (Kd.Za (z3 qz.o qr.o (by decide) (.bool qav) (.slice j9 j2.length qaa) (.int .i64 qaw)) pl))) (Kd.R_lt (Kd.Za (z3 q1.o qr.o (by decide) (.bool qav) (.slice j9 j2.length qaa) (.int .i64 qaw)) pl))) (Kd.R_lt (Kd.Za (z3 q4.o qr.o (by decide) (.bool qav) (.slice j9 j2.length qaa) (.int .i64 qaw)) pl))) (Kd.R_lt (Kd.Za (z3 q8.o qr.o (by decide) (.bool qav) (.slice j9 j2.length qaa) (.int .i64 qaw)) pl))) (Kd.R_lt (Kd.Za (z3 jp.o qr.o (by decide) (.bool qav) (.slice j9 j2.length qaa) (.int .i64 qaw)) pl))) (Kd.R_lt (Kd.Za (z3 j4.o qr.o (by decide) (.bool qav) (.slice j9 j2.length qaa) (.int .i64 qaw)) pl))) (Zb pB));replace qy:=am (Kd.Zy (Kd.Za (z3 qy.o qr.o (by decide) (.bool qav) (.slice j9 j2.length qaa) (.int .i64 qaw)) pl) (Kd.Zt ho0) hb);replace qz:=am (Kd.Zy (Kd.Za (z3 qz.o qr.o (by decide) (.bool qav) (.slice j9 j2.length qaa) (.int .i64 qaw)) pl) (Kd.Zt ho0) hb);replace q1:=am (Kd.Zy (Kd.Za (z3 q1.o qr.o (by decide) (.bool qav) (.slice j9 j2.length qaa) (.int .i64 qaw)) pl) (Kd.Zt ho0) hb);replace q4:=am (Kd.Zy (Kd.Za (z3 q4.o qr.o (by decide) (.bool qav) (.slice j9 j2.length qaa) (.int .i64 qaw)) pl) (Kd.Zt ho0) hb);replace q8:=am (Kd.Zy (Kd.Za (z3 q8.o qr.o (by decide) (.bool qav) (.slice j9 j2.length qaa) (.int .i64 qaw)) pl) (Kd.Zt ho0) hb);replace jp:=am (Kd.Zy (Kd.Za (z3 jp.o qr.o (by decide) (.bool qav) (.slice j9 j2.length qaa) (.int .i64 qaw)) pl) (Kd.Zt ho0) hb);replace j4:=am (Kd.Zy (Kd.Za (z3 j4.o qr.o (by decide) (.bool qav) (.slice j9 j2.length qaa) (.int .i64 qaw)) pl) (Kd.Zt ho0) hb);replace qa:=bfb qa4 qa hb;replace qb:=bfb qbt qb hb;replace qc:=bfb qb1 qc hb;replace qd:=bfb qb8 qd hb;replace qe:=bfb qce qe hb;replace qn:=bfb qcj qn hb;replace qo:=bfb qcn qo hb;replace qp:=bfb qcq qp hb;replace qr:=am (Zg (g:=qi5) (o:=.cells #[.bool qav,.slice j9 j2.length qaa,.int .i64 qaw] 24 (0,0)) (by exact p3 qr) hb);replace HB:=bS hb)|((with_reducible refine gd 19 ?_);refine bx 19 #[.bool false,.slice none 0 0,.int .i64 0] 24 (h:=?_);intro qi6 hg w92 hbox hb;have qu:=am hbox;have qsf:=gW hg;have qa5:=nL hg qa;have qcu:=nG hg qa;have qbu:=nL hg qb;have qfy:=nG hg qb;have qb2:=nL hg qc;have qfz:=nG hg qc;have qb9:=nL hg qd;have qf0:=nG hg qd;have qcf:=nL hg qe;have qf1:=nG hg qe;have qck:=nL hg qn;have qf2:=nG hg qn;have qco:=nL hg qo;have qf3:=nG hg qo;have qcr:=nL hg qp;have qf4:=nG hg qp;have qct:=nL hg qr;have qf5:=nG hg qr;replace qy:=rbl qy hb;replace qz:=rbl qz hb;replace q1:=rbl q1 hb;replace q4:=rbl q4 hb;replace q8:=rbl q8 hb;replace jp:=rbl jp hb;replace j4:=rbl j4 hb;replace qao:=rbl qao hb;replace qa:=bb qa hb;replace qb:=bb qb hb;replace qc:=bb qc hb;replace qd:=bb qd hb;replace qe:=bb qe hb;replace qn:=bb qn hb;replace qo:=bb qo hb;replace qp:=bb qp hb;replace qr:=bb qr hb;replace HB:=bS hb;clear hb hbox hg;have qtg:=qcu.o;have qun:=qa5.o;have qth:=qfy.o;have quo:=qbu.o;have qti:=qfz.o;have qup:=qb2.o;have qtj:=qf0.o;have quq:=qb9.o;have qtk:=qf1.o;have qur:=qcf.o;have qtl:=qf2.o;have qus:=qck.o;have qtm:=qf3.o;have qut:=qco.o;have qkt:=qf4.o;have qof:=qcr.o;have qku:=qf5.o;have qog:=qct.o;obtain ⟨_,_,_,_,_,_⟩:=cEc qu.o;obtain ⟨jo,jq,qjg⟩:=Kd.Zh qao.o;subst qjg))
 (try simp only [Act.put,List.setIfInBounds_toArray,List.set_cons_zero,List.set_cons_succ])
 go_cut [122] (fun qr4 wc => ∃ (kq:Nat) (qdc:Bool),qr4=.bool qdc/\Aside0 (Zk.j0 kq qdc a0_0 l0_1 a0_2=some r)/\Aside0 (kq<=k)/\Aside0 (Kd.R (Kd.int .u32) 85 wc w.heap.size (fun k_=>some k_ ≠ ((.slice qau qak.length qar):Value).ownBlock/\some k_ ≠ ((.slice qap qal.length qas):Value).ownBlock/\some k_ ≠ ((.slice qam qag.length qan):Value).ownBlock/\some k_ ≠ ((.slice qah qac.length qai):Value).ownBlock/\some k_ ≠ ((.slice qae j8.length qaf):Value).ownBlock/\some k_ ≠ ((.slice j9 j2.length qaa):Value).ownBlock/\some k_ ≠ ((.slice jo qad.length jq):Value).ownBlock) (.slice qat qaj.length qaq) qaj)/\Aside0 (Kd.R (Kd.int .u32) 85 wc w.heap.size (fun k_=>some k_ ≠ ((.slice qat qaj.length qaq):Value).ownBlock/\some k_ ≠ ((.slice qap qal.length qas):Value).ownBlock/\some k_ ≠ ((.slice qam qag.length qan):Value).ownBlock/\some k_ ≠ ((.slice qah qac.length qai):Value).ownBlock/\some k_ ≠ ((.slice qae j8.length qaf):Value).ownBlock/\some k_ ≠ ((.slice j9 j2.length qaa):Value).ownBlock/\some k_ ≠ ((.slice jo qad.length jq):Value).ownBlock) (.slice qau qak.length qar) qak)/\Aside0 (Kd.R (Kd.int .u32) 85 wc w.heap.size (fun k_=>some k_ ≠ ((.slice qat qaj.length qaq):Value).ownBlock/\some k_ ≠ ((.slice qau qak.length qar):Value).ownBlock/\some k_ ≠ ((.slice qam qag.length qan):Value).ownBlock/\some k_ ≠ ((.slice qah qac.length qai):Value).ownBlock/\some k_ ≠ ((.slice qae j8.length qaf):Value).ownBlock/\some k_ ≠ ((.slice j9 j2.length qaa):Value).ownBlock/\some k_ ≠ ((.slice jo qad.length jq):Value).ownBlock) (.slice qap qal.length qas) qal)/\Aside0 (Kd.R (Kd.int .u32) 85 wc w.heap.size (fun k_=>some k_ ≠ ((.slice qat qaj.length qaq):Value).ownBlock/\some k_ ≠ ((.slice qau qak.length qar):Value).ownBlock/\some k_ ≠ ((.slice qap qal.length qas):Value).ownBlock/\some k_ ≠ ((.slice qah qac.length qai):Value).ownBlock/\some k_ ≠ ((.slice qae j8.length qaf):Value).ownBlock/\some k_ ≠ ((.slice j9 j2.length qaa):Value).ownBlock/\some k_ ≠ ((.slice jo qad.length jq):Value).ownBlock) (.slice qam qag.length qan) qag)/\Aside0 (Kd.R (Kd.int .u32) 85 wc w.heap.size (fun k_=>some k_ ≠ ((.slice qat qaj.length qaq):Value).ownBlock/\some k_ ≠ ((.slice qau qak.length qar):Value).ownBlock/\some k_ ≠ ((.slice qap qal.length qas):Value).ownBlock/\some k_ ≠ ((.slice qam qag.length qan):Value).ownBlock/\some k_ ≠ ((.slice qae j8.length qaf):Value).ownBlock/\some k_ ≠ ((.slice j9 j2.length qaa):Value).ownBlock/\some k_ ≠ ((.slice jo qad.length jq):Value).ownBlock) (.slice qah qac.length qai) qac)/\Aside0 (Kd.R (Kd.int .u32) 85 wc w.heap.size (fun k_=>some k_ ≠ ((.slice qat qaj.length qaq):Value).ownBlock/\some k_ ≠ ((.slice qau qak.length qar):Value).ownBlock/\some k_ ≠ ((.slice qap qal.length qas):Value).ownBlock/\some k_ ≠ ((.slice qam qag.length qan):Value).ownBlock/\some k_ ≠ ((.slice qah qac.length qai):Value).ownBlock/\some k_ ≠ ((.slice j9 j2.length qaa):Value).ownBlock/\some k_ ≠ ((.slice jo qad.length jq):Value).ownBlock) (.slice qae j8.length qaf) j8)/\Aside0 (Kd.R (Kd.int .u32) 85 wc w.heap.size (fun k_=>some k_ ≠ ((.slice qat qaj.length qaq):Value).ownBlock/\some k_ ≠ ((.slice qau qak.length qar):Value).ownBlock/\some k_ ≠ ((.slice qap qal.length qas):Value).ownBlock/\some k_ ≠ ((.slice qam qag.length qan):Value).ownBlock/\some k_ ≠ ((.slice qah qac.length qai):Value).ownBlock/\some k_ ≠ ((.slice qae j8.length qaf):Value).ownBlock/\some k_ ≠ ((.slice jo qad.length jq):Value).ownBlock) (.slice j9 j2.length qaa) j2)/\Aside0 (Kd.R (Kd.int .u32) 85 wc w.heap.size (fun k_=>some k_ ≠ ((.slice qat qaj.length qaq):Value).ownBlock/\some k_ ≠ ((.slice qau qak.length qar):Value).ownBlock/\some k_ ≠ ((.slice qap qal.length qas):Value).ownBlock/\some k_ ≠ ((.slice qam qag.length qan):Value).ownBlock/\some k_ ≠ ((.slice qah qac.length qai):Value).ownBlock/\some k_ ≠ ((.slice qae j8.length qaf):Value).ownBlock/\some k_ ≠ ((.slice j9 j2.length qaa):Value).ownBlock) (.slice jo qad.length jq) qad)/\Aside0 (wc.heap[qiz]? = some (.cells #[.bool a0_0,(.slice A0_1 l0_1.length c0_1),.int .i64 a0_2] 24 (0,0)))/\Aside0 (wc.heap[qi0]? = some (.cells #[.bool a1_0,(.slice A1_1 l1_1.length c1_1),.int .i64 a1_2] 24 (0,0)))/\Aside0 (wc.heap[qik]? = some (.cells #[.bool qgs,(.slice qat qaj.length qaq),.int .i64 qgt] 24 (0,0)))/\Aside0 (wc.heap[qax]? = some (.cells #[.bool qgu,(.slice qau qak.length qar),.int .i64 qgv] 24 (0,0)))/\Aside0 (wc.heap[qi1]? = some (.cells #[.bool qe2,(.slice qap qal.length qas),.int .i64 qe3] 24 (0,0)))/\Aside0 (wc.heap[qi2]? = some (.cells #[.bool qda,(.slice qam qag.length qan),.int .i64 qdb] 24 (0,0)))/\Aside0 (wc.heap[qi3]? = some (.cells #[.bool qbj,(.slice qah qac.length qai),.int .i64 qbk] 24 (0,0)))/\Aside0 (wc.heap[qi4]? = some (.cells #[.bool qa9,(.slice qae j8.length qaf),.int .i64 qba] 24 (0,0)))/\Aside0 (wc.heap[qi5]? = some (.cells #[.bool qav,(.slice j9 j2.length qaa),.int .i64 qaw] 24 (0,0)))/\Aside0 (wc.heap[qi6]? = some (.cells #[.bool qbl,(.slice jo qad.length jq),.int .i64 qbm] 24 (0,0)))/\Aside0 (Below w.heap.size w wc))
 case first =>
  have H:=HC11.o
  clear HC11
  replace H:=ob H
  obtain ⟨qis,qjv,H⟩:=H
  replace H:=tI (t:=qis) H
  rcases H with ⟨rfl,H⟩|⟨rfl,H⟩
  ·replace H:=ob H
   obtain ⟨qit,qjw,H⟩:=H
   replace H:=eI H
   rcases H with ⟨c107b0,c107b1,H⟩|⟨qu0,c107b0,c107b1,H⟩
   ·(first|rw [c107b0]|(simp only [Zb9,Zdj];rw [c107b0])|skip)
    replace H:=ob H
    obtain ⟨qiu,qjx,H⟩:=H
    replace H:=tI (t:=qiu) H
    rcases H with ⟨rfl,H⟩|⟨rfl,H⟩
    ·replace H:=ob H
     obtain ⟨qiv,qjy,H⟩:=H
     replace H:=eI H
     rcases H with ⟨c111b0,c111b1,H⟩|⟨qu1,c111b0,c111b1,H⟩
     ·replace H:=ob H
      obtain ⟨qiw,qjz,H⟩:=H
      replace H:=tI (t:=qiw) H
      rcases H with ⟨rfl,H⟩|⟨rfl,H⟩
      ·replace H:=ob H
       obtain ⟨qix,qj0,H⟩:=H
       replace H:=eI H
       rcases H with ⟨c115b0,c115b1,H⟩|⟨qu2,c115b0,c115b1,H⟩
       ·replace H:=ob H
        obtain ⟨qiy,qj1,H⟩:=H
        replace H:=tI (t:=qiy) H
        rcases H with ⟨rfl,H⟩|⟨rfl,H⟩
        ·replace H:=ob H
         obtain ⟨qf6,qj2,H⟩:=H
         have H':=am H
         clear H
         have qkv:=qbv.o
         have qoh:=qay.o
         have qkw:=qe6.o
         have qoi:=qbn.o
         have qkx:=qbw.o
         have qoj:=qe8.o
         have qky:=qbx.o
         have qok:=qfa.o
         have qkz:=qby.o
         have qol:=qfd.o
         have qk0:=qbz.o
         have qom:=qfh.o
         have qk1:=qb0.o
         have qon:=qfm.o
         have qk2:=qb1.o
         have qoo:=qfs.o
         have qk3:=qb2.o
         have qop:=qfz.o
         obtain ⟨_,_,_,_,_,_⟩:=cEc qc.o
         have qk4:=qb3.o
         have qoq:=qaz.o
         have qk5:=qe7.o
         have qor:=qbo.o
         have qk6:=qb4.o
         have qos:=qfb.o
         have qk7:=qb5.o
         have qot:=qfe.o
         have qk8:=qb6.o
         have qou:=qfi.o
         have qk9:=qb7.o
         have qov:=qfn.o
         have qla:=qb8.o
         have qow:=qft.o
         have qlb:=qb9.o
         have qox:=qf0.o
         obtain ⟨_,_,_,_,_,_⟩:=cEc qd.o
         go_wp2_with (first|(refine gL (some 79) Tryz.func21 #[.agg #[.bool qgs,.slice qat qaj.length qaq,.int .i64 qgt],.agg #[.bool qgu,.slice qau qak.length qar,.int .i64 qgv]] (h:=?_);(with_reducible refine (Zq.calls k qgs _ _ qaj qgt qgu _ _ qak qgv true _ ?side1 ?side2 ?side3 ?side4 qjv.o).mono ?_);(case side1=>refine (Kd.Zc (e:=85) (base:=w.heap.size) (ok:=fun k_=>((((((some k_ ≠ (.slice qau qak.length qar:Value).ownBlock/\some k_ ≠ (.slice qap qal.length qas:Value).ownBlock)/\some k_ ≠ (.slice qam qag.length qan:Value).ownBlock)/\some k_ ≠ (.slice qah qac.length qai:Value).ownBlock)/\some k_ ≠ (.slice qae j8.length qaf:Value).ownBlock)/\some k_ ≠ (.slice j9 j2.length qaa:Value).ownBlock)/\some k_ ≠ (.slice jo qad.length jq:Value).ownBlock)) (n:=qaj.length) (c:=qaq) ?_).2.2;exact (Kd.Za (z3 qy.o qu.o (by decide) (.bool qbl) (.slice jo qad.length jq) (.int .i64 qbm)) pl));(case side2=>exact (Kd.Zc qy.o).2.1);(case side3=>refine (Kd.Zc (e:=85) (base:=w.heap.size) (ok:=fun k_=>((((((some k_ ≠ (.slice qat qaj.length qaq:Value).ownBlock/\some k_ ≠ (.slice qap qal.length qas:Value).ownBlock)/\some k_ ≠ (.slice qam qag.length qan:Value).ownBlock)/\some k_ ≠ (.slice qah qac.length qai:Value).ownBlock)/\some k_ ≠ (.slice qae j8.length qaf:Value).ownBlock)/\some k_ ≠ (.slice j9 j2.length qaa:Value).ownBlock)/\some k_ ≠ (.slice jo qad.length jq:Value).ownBlock)) (n:=qak.length) (c:=qar) ?_).2.2;exact (Kd.Za (z3 qz.o qu.o (by decide) (.bool qbl) (.slice jo qad.length jq) (.int .i64 qbm)) pl));(case side4=>exact (Kd.Zc qz.o).2.1);rintro e qve ⟨rfl,hb⟩;refine ⟨_,rfl,?_⟩;replace qy:=am (Kd.Za (Kd.Za (z3 qy.o qu.o (by decide) (.bool qbl) (.slice jo qad.length jq) (.int .i64 qbm)) pl) hb);replace qz:=am (Kd.Za (Kd.Za (z3 qz.o qu.o (by decide) (.bool qbl) (.slice jo qad.length jq) (.int .i64 qbm)) pl) hb);replace q1:=am (Kd.Za (Kd.Za (z3 q1.o qu.o (by decide) (.bool qbl) (.slice jo qad.length jq) (.int .i64 qbm)) pl) hb);replace q4:=am (Kd.Za (Kd.Za (z3 q4.o qu.o (by decide) (.bool qbl) (.slice jo qad.length jq) (.int .i64 qbm)) pl) hb);replace q8:=am (Kd.Za (Kd.Za (z3 q8.o qu.o (by decide) (.bool qbl) (.slice jo qad.length jq) (.int .i64 qbm)) pl) hb);replace jp:=am (Kd.Za (Kd.Za (z3 jp.o qu.o (by decide) (.bool qbl) (.slice jo qad.length jq) (.int .i64 qbm)) pl) hb);replace j4:=am (Kd.Za (Kd.Za (z3 j4.o qu.o (by decide) (.bool qbl) (.slice jo qad.length jq) (.int .i64 qbm)) pl) hb);replace qao:=am (Kd.Za (Kd.Za (z3 qao.o qu.o (by decide) (.bool qbl) (.slice jo qad.length jq) (.int .i64 qbm)) pl) hb);replace qa:=bfb qa5 qa hb;replace qb:=bfb qbu qb hb;replace qc:=bfb qb2 qc hb;replace qd:=bfb qb9 qd hb;replace qe:=bfb qcf qe hb;replace qn:=bfb qck qn hb;replace qo:=bfb qco qo hb;replace qp:=bfb qcr qp hb;replace qr:=bfb qct qr hb;replace qu:=am (Zg (g:=qi6) (o:=.cells #[.bool qbl,.slice jo qad.length jq,.int .i64 qbm] 24 (0,0)) (by exact p3 qu) hb);replace HB:=bS hb)|(go_at_call 20;(with_reducible refine (Zaj.calls qjq qit _ qjw.o).mono ?_);rintro e w' ⟨rfl,⟨nd,rfl⟩⟩;have qlc:=qca.o;have qoy:=qa0.o;have qld:=qe9.o;have qoz:=qbp.o;have qle:=qcb.o;have qo0:=qff.o;have qlf:=qcc.o;have qo1:=qfj.o;have qlg:=qcd.o;have qo2:=qfo.o;have qlh:=qce.o;have qo3:=qfu.o;have qli:=qcf.o;have qo4:=qf1.o;obtain ⟨_,_,_,_,_,_⟩:=cEc qe.o;have qlj:=qcg.o;have qo5:=qa1.o;have qlk:=qfc.o;have qo6:=qbq.o;have qll:=qch.o;have qo7:=qfk.o;have qlm:=qci.o;have qo8:=qfp.o;have qln:=qcj.o;have qo9:=qfv.o;have qlo:=qck.o;have qpa:=qf2.o;obtain ⟨_,_,_,_,_,_⟩:=cEc qn.o)|(go_at_call 21;(with_reducible refine (Zq.calls k qe2 _ _ qal qe3 qda _ _ qag qdb true _ ?side1 ?side2 ?side3 ?side4 qjx.o).mono ?_);(case side1=>exact Kd.Zi (Kd.Zc q1.o).2.2 pl);(case side2=>exact (Kd.Zc q1.o).2.1);(case side3=>exact Kd.Zi (Kd.Zc q4.o).2.2 pl);(case side4=>exact (Kd.Zc q4.o).2.1);rintro e qvf ⟨rfl,hb⟩;replace qy:=rbl qy hb;replace qz:=rbl qz hb;replace q1:=rbl q1 hb;replace q4:=rbl q4 hb;replace q8:=rbl q8 hb;replace jp:=rbl jp hb;replace j4:=rbl j4 hb;replace qao:=rbl qao hb;replace qa:=bb qa hb;replace qb:=bb qb hb;replace qc:=bb qc hb;replace qd:=bb qd hb;replace qe:=bb qe hb;replace qn:=bb qn hb;replace qo:=bb qo hb;replace qp:=bb qp hb;replace qr:=bb qr hb;replace qu:=bb qu hb;replace HB:=bS hb)|(go_at_call 20;(with_reducible refine (Zaj.calls qjr qiv _ qjy.o).mono ?_);rintro e w' ⟨rfl,⟨nd,rfl⟩⟩;have qlp:=qcl.o;have qpb:=qa2.o;have qlq:=qfg.o;have qpc:=qbr.o;have qlr:=qcm.o;have qpd:=qfq.o;have qls:=qcn.o;have qpe:=qfw.o;have qlt:=qco.o;have qpf:=qf3.o;obtain ⟨_,_,_,_,_,_⟩:=cEc qo.o;have qlu:=qcp.o;have qpg:=qa3.o;have qlv:=qfl.o;have qph:=qbs.o;have qlw:=qcq.o;have qpi:=qfx.o;have qlx:=qcr.o;have qpj:=qf4.o;obtain ⟨_,_,_,_,_,_⟩:=cEc qp.o)|(go_at_call 21;(with_reducible refine (Zq.calls k qbj _ _ qac qbk qa9 _ _ j8 qba true _ ?side1 ?side2 ?side3 ?side4 qjz.o).mono ?_);(case side1=>exact Kd.Zi (Kd.Zc q8.o).2.2 pl);(case side2=>exact (Kd.Zc q8.o).2.1);(case side3=>exact Kd.Zi (Kd.Zc jp.o).2.2 pl);(case side4=>exact (Kd.Zc jp.o).2.1);rintro e qvg ⟨rfl,hb⟩;replace qy:=rbl qy hb;replace qz:=rbl qz hb;replace q1:=rbl q1 hb;replace q4:=rbl q4 hb;replace q8:=rbl q8 hb;replace jp:=rbl jp hb;replace j4:=rbl j4 hb;replace qao:=rbl qao hb;replace qa:=bb qa hb;replace qb:=bb qb hb;replace qc:=bb qc hb;replace qd:=bb qd hb;replace qe:=bb qe hb;replace qn:=bb qn hb;replace qo:=bb qo hb;replace qp:=bb qp hb;replace qr:=bb qr hb;replace qu:=bb qu hb;replace HB:=bS hb)|(go_at_call 20;(with_reducible refine (Zaj.calls qjs qix _ qj0.o).mono ?_);rintro e w' ⟨rfl,⟨nd,rfl⟩⟩;have qly:=qcs.o;have qpk:=qa4.o;have qlz:=qfr.o;have qpl:=qbt.o;have ql0:=qct.o;have qpm:=qf5.o;obtain ⟨_,_,_,_,_,_⟩:=cEc qr.o;have ql1:=qcu.o;have qpn:=qa5.o;have ql2:=qfy.o;have qpo:=qbu.o;obtain ⟨_,_,_,_,_,_⟩:=cEc qu.o)|(go_at_call 21;(with_reducible refine (Zq.calls k qav _ _ j2 qaw qbl _ _ qad qbm true _ ?side1 ?side2 ?side3 ?side4 qj1.o).mono ?_);(case side1=>exact Kd.Zi (Kd.Zc j4.o).2.2 pl);(case side2=>exact (Kd.Zc j4.o).2.1);(case side3=>exact Kd.Zi (Kd.Zc qao.o).2.2 pl);(case side4=>exact (Kd.Zc qao.o).2.1);rintro e qvh ⟨rfl,hb⟩;replace qy:=rbl qy hb;replace qz:=rbl qz hb;replace q1:=rbl q1 hb;replace q4:=rbl q4 hb;replace q8:=rbl q8 hb;replace jp:=rbl jp hb;replace j4:=rbl j4 hb;replace qao:=rbl qao hb;replace qa:=bb qa hb;replace qb:=bb qb hb;replace qc:=bb qc hb;replace qd:=bb qd hb;replace qe:=bb qe hb;replace qn:=bb qn hb;replace qo:=bb qo hb;replace qp:=bb qp hb;replace qr:=bb qr hb;replace qu:=bb qu hb;replace HB:=bS hb)|(go_at_call 20;(with_reducible refine (Zaj.calls qjt qf6 _ qj2.o).mono ?_);rintro e w' ⟨rfl,⟨nd,rfl⟩⟩))
         go_meet
         case rel=>exact ⟨_,((qf6 != qju)),pR,H',pJ,⟨by refine rp ?_;exact Kd.Zo qy.o (fun _ hk=>⟨hk.1.1.1.1.1.1,⟨hk.1.1.1.1.1.2,⟨hk.1.1.1.1.2,⟨hk.1.1.1.2,⟨hk.1.1.2,⟨hk.1.2,hk.2⟩⟩⟩⟩⟩⟩)⟩,⟨by refine rp ?_;exact Kd.Zo qz.o (fun _ hk=>⟨hk.1.1.1.1.1.1,⟨hk.1.1.1.1.1.2,⟨hk.1.1.1.1.2,⟨hk.1.1.1.2,⟨hk.1.1.2,⟨hk.1.2,hk.2⟩⟩⟩⟩⟩⟩)⟩,⟨by refine rp ?_;exact Kd.Zo q1.o (fun _ hk=>⟨hk.1.1.1.1.1.1.2,⟨hk.1.1.1.1.1.2,⟨hk.1.1.1.1.2,⟨hk.1.1.1.2,⟨hk.1.1.2,⟨hk.1.2,hk.2⟩⟩⟩⟩⟩⟩)⟩,⟨by refine rp ?_;exact Kd.Zo q4.o (fun _ hk=>⟨hk.1.1.1.1.1.1.2,⟨hk.1.1.1.1.1.2,⟨hk.1.1.1.1.2,⟨hk.1.1.1.2,⟨hk.1.1.2,⟨hk.1.2,hk.2⟩⟩⟩⟩⟩⟩)⟩,⟨by refine rp ?_;exact Kd.Zo q8.o (fun _ hk=>⟨hk.1.1.1.1.1.1.2,⟨hk.1.1.1.1.1.2,⟨hk.1.1.1.1.2,⟨hk.1.1.1.2,⟨hk.1.1.2,⟨hk.1.2,hk.2⟩⟩⟩⟩⟩⟩)⟩,⟨by refine rp ?_;exact Kd.Zo jp.o (fun _ hk=>⟨hk.1.1.1.1.1.1.2,⟨hk.1.1.1.1.1.2,⟨hk.1.1.1.1.2,⟨hk.1.1.1.2,⟨hk.1.1.2,⟨hk.1.2,hk.2⟩⟩⟩⟩⟩⟩)⟩,⟨by refine rp ?_;exact Kd.Zo j4.o (fun _ hk=>⟨hk.1.1.1.1.1.1.2,⟨hk.1.1.1.1.1.2,⟨hk.1.1.1.1.2,⟨hk.1.1.1.2,⟨hk.1.1.2,⟨hk.1.2,hk.2⟩⟩⟩⟩⟩⟩)⟩,⟨by refine rp ?_;exact Kd.Zo qao.o (fun _ hk=>⟨hk.1.1.1.1.1.1.2,⟨hk.1.1.1.1.1.2,⟨hk.1.1.1.1.2,⟨hk.1.1.1.2,⟨hk.1.1.2,⟨hk.1.2,hk.2⟩⟩⟩⟩⟩⟩)⟩,⟨Zg qa.o pl⟩,⟨Zg qb.o pl⟩,⟨Zg qc.o pl⟩,⟨Zg qd.o pl⟩,⟨Zg qe.o pl⟩,⟨Zg qn.o pl⟩,⟨Zg qo.o pl⟩,⟨Zg qp.o pl⟩,⟨Zg qr.o pl⟩,⟨Zg qu.o pl⟩,⟨pB⟩⟩
        ·exact (Zk.dead H hr).elim
       ·exact (Zk.dead H hr).elim
      ·exact (Zk.dead H hr).elim
     ·exact (Zk.dead H hr).elim
    ·exact (Zk.dead H hr).elim
   ·exact (Zk.dead H hr).elim
  ·exact (Zk.dead H hr).elim
 case rest =>
  clear HC11
  obtain ⟨kq,qdc,rfl,HA,HJ10,qf,qg,qh,qi,qj,qk,ql,qm,qa,qb,qc,qd,qe,qn,qo,qp,qr,qu,HB⟩:=hcut
  cases kq with
  | zero=>exact absurd HA.out (by simp [Zk.j0])
  | succ qe1 =>
   have H:=HA.out
   clear HA
   simp only [Zk.j0] at H
   replace H:=tI (t:=qdc) H
   rcases H with ⟨rfl,H⟩|⟨rfl,H⟩
   ·exact absurd ((Option.some.inj H).trans hr) Bool.false_ne_true
   ·replace H:=ob H
    obtain ⟨⟨jx,js,jy,qi7⟩,qj3,H⟩:=H;(try dsimp only at H)
    replace H:=ob H
    obtain ⟨⟨jt,ji,ju,qjn⟩,qj4,H⟩:=H;(try dsimp only at H)
    replace H:=ob H
    obtain ⟨⟨jl,jf,jm,qi8⟩,qj5,H⟩:=H;(try dsimp only at H)
    replace H:=ob H
    obtain ⟨⟨jg,ja,jh,qjo⟩,qj6,H⟩:=H;(try dsimp only at H)
    replace H:=ob H
    obtain ⟨⟨jb,q6,jc,qi9⟩,qj7,H⟩:=H;(try dsimp only at H)
    replace H:=ob H
    obtain ⟨⟨j6,j1,j7,qjp⟩,qj8,H⟩:=H;(try dsimp only at H)
    replace H:=ob H
    obtain ⟨qil,qj9,H⟩:=H
    replace H:=tI (t:=qil) H
    rcases H with ⟨rfl,H⟩|⟨rfl,H⟩
    ·replace H:=ob H
     obtain ⟨qim,qka,H⟩:=H
     replace H:=eI H
     rcases H with ⟨c449b0,c449b1,H⟩|⟨qu3,c449b0,c449b1,H⟩
     ·replace H:=ob H
      obtain ⟨qin,qkb,H⟩:=H
      replace H:=tI (t:=qin) H
      rcases H with ⟨rfl,H⟩|⟨rfl,H⟩
      ·replace H:=ob H
       obtain ⟨qio,qkc,H⟩:=H
       replace H:=eI H
       rcases H with ⟨c453b0,c453b1,H⟩|⟨qu4,c453b0,c453b1,H⟩
       ·replace H:=ob H
        obtain ⟨qip,qkd,H⟩:=H
        replace H:=tI (t:=qip) H
        rcases H with ⟨rfl,H⟩|⟨rfl,H⟩
        ·replace H:=ob H
         obtain ⟨qiq,qke,H⟩:=H
         replace H:=eI H
         rcases H with ⟨c457b0,c457b1,H⟩|⟨qu5,c457b0,c457b1,H⟩
         ·replace H:=ob H
          obtain ⟨qir,qkf,H⟩:=H
          obtain rfl:=Option.some.inj H
          have ql3:=qe4.o
          have qpp:=qe5.o
          have ql4:=qay.o
          have qpq:=qbv.o
          have ql5:=qaz.o
          have qpr:=qb3.o
          have ql6:=qa0.o
          have qps:=qca.o
          have ql7:=qa1.o
          have qpt:=qcg.o
          have ql8:=qa2.o
          have qpu:=qcl.o
          have ql9:=qa3.o
          have qpv:=qcp.o
          have qma:=qa4.o
          have qpw:=qcs.o
          have qmb:=qa5.o
          have qpx:=qcu.o
          obtain ⟨_,_,_,_,_,_⟩:=cEc qa.o
          go_wp2_with (first|(refine gL (some 125) Tryz.func32 #[.agg #[.bool a0_0,.slice A0_1 l0_1.length c0_1,.int .i64 a0_2]] (h:=?_);(with_reducible refine (Zeb.calls qe1 a0_0 _ _ l0_1 a0_2 jx js jy qi7 _ ?side1 ?side2 qj3.o).mono ?_);(case side1=>exact cB HR0_1 HB);(case side2=>exact HC0_1.o);rintro e qvi ⟨quu,rfl,ho0,hb⟩;refine ⟨_,rfl,?_⟩;have qx:=am (Kd.Zn (Kd.Zf (Kd.Zf (Kd.Zf (Kd.Zf (Kd.Zf (Kd.Zf (Kd.Zf (Kd.Zf ho0 (Kd.R_lt (Kd.Za qf.o pl))) (Kd.R_lt (Kd.Za qg.o pl))) (Kd.R_lt (Kd.Za qh.o pl))) (Kd.R_lt (Kd.Za qi.o pl))) (Kd.R_lt (Kd.Za qj.o pl))) (Kd.R_lt (Kd.Za qk.o pl))) (Kd.R_lt (Kd.Za ql.o pl))) (Kd.R_lt (Kd.Za qm.o pl))) (Zb pB));replace qf:=reR qf ho0 hb;replace qg:=reR qg ho0 hb;replace qh:=reR qh ho0 hb;replace qi:=reR qi ho0 hb;replace qj:=reR qj ho0 hb;replace qk:=reR qk ho0 hb;replace ql:=reR ql ho0 hb;replace qm:=reR qm ho0 hb;replace qa:=bb qa hb;replace qb:=bb qb hb;replace qc:=bb qc hb;replace qd:=bb qd hb;replace qe:=bb qe hb;replace qn:=bb qn hb;replace qo:=bb qo hb;replace qp:=bb qp hb;replace qr:=bb qr hb;replace qu:=bb qu hb;replace HB:=bS hb)|((with_reducible refine gd 21 ?_);refine bx 21 #[.bool false,.slice none 0 0,.int .i64 0] 24 (h:=?_);intro qja hg qvj hbox hb;have qq:=am hbox;have qkg:=gW hg;have qdd:=nL hg qa;have qgw:=nG hg qa;have qdj:=nL hg qb;have qgx:=nG hg qb;have qdp:=nL hg qc;have qgy:=nG hg qc;have qdv:=nL hg qd;have qgz:=nG hg qd;have qd1:=nL hg qe;have qg0:=nG hg qe;have qd7:=nL hg qn;have qg1:=nG hg qn;have qed:=nL hg qo;have qg2:=nG hg qo;have qej:=nL hg qp;have qg3:=nG hg qp;have qep:=nL hg qr;have qg4:=nG hg qr;have qev:=nL hg qu;have qg5:=nG hg qu;replace qf:=rbl qf hb;replace qg:=rbl qg hb;replace qh:=rbl qh hb;replace qi:=rbl qi hb;replace qj:=rbl qj hb;replace qk:=rbl qk hb;replace ql:=rbl ql hb;replace qm:=rbl qm hb;replace qx:=rbl qx hb;replace qa:=bb qa hb;replace qb:=bb qb hb;replace qc:=bb qc hb;replace qd:=bb qd hb;replace qe:=bb qe hb;replace qn:=bb qn hb;replace qo:=bb qo hb;replace qp:=bb qp hb;replace qr:=bb qr hb;replace qu:=bb qu hb;replace HB:=bS hb;clear hb hbox hg;have qmc:=qgw.o;have qpy:=qdd.o;have qmd:=qgx.o;have qpz:=qdj.o;have qme:=qgy.o;have qp0:=qdp.o;have qmf:=qgz.o;have qp1:=qdv.o;have qmg:=qg0.o;have qp2:=qd1.o;have qmh:=qg1.o;have qp3:=qd7.o;have qmi:=qg2.o;have qp4:=qed.o;have qmj:=qg3.o;have qp5:=qej.o;have qmk:=qg4.o;have qp6:=qep.o;have qml:=qg5.o;have qp7:=qev.o;obtain ⟨_,_,_,_,_,_⟩:=cEc qq.o;obtain ⟨jz,jw,qjh⟩:=Kd.Zh qx.o;subst qjh;obtain ⟨_,_,_,_,_,_⟩:=cEc qa.o)|(refine gL (some 130) Tryz.func38 #[.agg #[.bool a0_0,.slice A0_1 l0_1.length c0_1,.int .i64 a0_2]] (h:=?_);(with_reducible refine (Zcn.calls qe1 a0_0 _ _ l0_1 a0_2 jt ji ju qjn _ ?side1 ?side2 qj4.o).mono ?_);(case side1=>exact Kd.Zi HR0_1.o pB);(case side2=>exact HC0_1.o);rintro e qvk ⟨quv,rfl,ho0,hb⟩;refine ⟨_,rfl,?_⟩;have q0:=am (Kd.Zn (Kd.Zf (Kd.Zf (Kd.Zf (Kd.Zf (Kd.Zf (Kd.Zf (Kd.Zf (Kd.Zf (Kd.Zf ho0 (Kd.R_lt (Kd.Za (z3 qf.o qq.o (by decide) (.bool jx) (.slice jz js.length jw) (.int .i64 jy)) pl))) (Kd.R_lt (Kd.Za (z3 qg.o qq.o (by decide) (.bool jx) (.slice jz js.length jw) (.int .i64 jy)) pl))) (Kd.R_lt (Kd.Za (z3 qh.o qq.o (by decide) (.bool jx) (.slice jz js.length jw) (.int .i64 jy)) pl))) (Kd.R_lt (Kd.Za (z3 qi.o qq.o (by decide) (.bool jx) (.slice jz js.length jw) (.int .i64 jy)) pl))) (Kd.R_lt (Kd.Za (z3 qj.o qq.o (by decide) (.bool jx) (.slice jz js.length jw) (.int .i64 jy)) pl))) (Kd.R_lt (Kd.Za (z3 qk.o qq.o (by decide) (.bool jx) (.slice jz js.length jw) (.int .i64 jy)) pl))) (Kd.R_lt (Kd.Za (z3 ql.o qq.o (by decide) (.bool jx) (.slice jz js.length jw) (.int .i64 jy)) pl))) (Kd.R_lt (Kd.Za (z3 qm.o qq.o (by decide) (.bool jx) (.slice jz js.length jw) (.int .i64 jy)) pl))) (Kd.R_lt (Kd.Za (z3 qx.o qq.o (by decide) (.bool jx) (.slice jz js.length jw) (.int .i64 jy)) pl))) (Zb pB));replace qf:=am (Kd.Zy (Kd.Za (z3 qf.o qq.o (by decide) (.bool jx) (.slice jz js.length jw) (.int .i64 jy)) pl) (Kd.Zt ho0) hb);replace qg:=am (Kd.Zy (Kd.Za (z3 qg.o qq.o (by decide) (.bool jx) (.slice jz js.length jw) (.int .i64 jy)) pl) (Kd.Zt ho0) hb);replace qh:=am (Kd.Zy (Kd.Za (z3 qh.o qq.o (by decide) (.bool jx) (.slice jz js.length jw) (.int .i64 jy)) pl) (Kd.Zt ho0) hb);replace qi:=am (Kd.Zy (Kd.Za (z3 qi.o qq.o (by decide) (.bool jx) (.slice jz js.length jw) (.int .i64 jy)) pl) (Kd.Zt ho0) hb);replace qj:=am (Kd.Zy (Kd.Za (z3 qj.o qq.o (by decide) (.bool jx) (.slice jz js.length jw) (.int .i64 jy)) pl) (Kd.Zt ho0) hb);replace qk:=am (Kd.Zy (Kd.Za (z3 qk.o qq.o (by decide) (.bool jx) (.slice jz js.length jw) (.int .i64 jy)) pl) (Kd.Zt ho0) hb);replace ql:=am (Kd.Zy (Kd.Za (z3 ql.o qq.o (by decide) (.bool jx) (.slice jz js.length jw) (.int .i64 jy)) pl) (Kd.Zt ho0) hb);replace qm:=am (Kd.Zy (Kd.Za (z3 qm.o qq.o (by decide) (.bool jx) (.slice jz js.length jw) (.int .i64 jy)) pl) (Kd.Zt ho0) hb);replace qx:=am (Kd.Zy (Kd.Za (z3 qx.o qq.o (by decide) (.bool jx) (.slice jz js.length jw) (.int .i64 jy)) pl) (Kd.Zt ho0) hb);replace qa:=bfb qdd qa hb;replace qb:=bfb qdj qb hb;replace qc:=bfb qdp qc hb;replace qd:=bfb qdv qd hb;replace qe:=bfb qd1 qe hb;replace qn:=bfb qd7 qn hb;replace qo:=bfb qed qo hb;replace qp:=bfb qej qp hb;replace qr:=bfb qep qr hb;replace qu:=bfb qev qu hb;replace qq:=am (Zg (g:=qja) (o:=.cells #[.bool jx,.slice jz js.length jw,.int .i64 jy] 24 (0,0)) (by exact p3 qq) hb);replace HB:=bS hb)|((with_reducible refine gd 23 ?_);refine bx 23 #[.bool false,.slice none 0 0,.int .i64 0] 24 (h:=?_);intro qjb hg qvl hbox hb;have qs:=am hbox;have qkh:=gW hg;have qde:=nL hg qa;have qg6:=nG hg qa;have qdk:=nL hg qb;have qg7:=nG hg qb;have qdq:=nL hg qc;have qg8:=nG hg qc;have qdw:=nL hg qd;have qg9:=nG hg qd;have qd2:=nL hg qe;have qha:=nG hg qe;have qd8:=nL hg qn;have qhb:=nG hg qn;have qee:=nL hg qo;have qhc:=nG hg qo;have qek:=nL hg qp;have qhd:=nG hg qp;have qeq:=nL hg qr;have qhe:=nG hg qr;have qew:=nL hg qu;have qhf:=nG hg qu;have qcv:=nL hg qq;have qgd:=nG hg qq;replace qf:=rbl qf hb;replace qg:=rbl qg hb;replace qh:=rbl qh hb;replace qi:=rbl qi hb;replace qj:=rbl qj hb;replace qk:=rbl qk hb;replace ql:=rbl ql hb;replace qm:=rbl qm hb;replace qx:=rbl qx hb;replace q0:=rbl q0 hb;replace qa:=bb qa hb;replace qb:=bb qb hb;replace qc:=bb qc hb;replace qd:=bb qd hb;replace qe:=bb qe hb;replace qn:=bb qn hb;replace qo:=bb qo hb;replace qp:=bb qp hb;replace qr:=bb qr hb;replace qu:=bb qu hb;replace qq:=bb qq hb;replace HB:=bS hb;clear hb hbox hg;have qmm:=qg6.o;have qp8:=qde.o;have qmn:=qg7.o;have qp9:=qdk.o;have qmo:=qg8.o;have qqa:=qdq.o;have qmp:=qg9.o;have qqb:=qdw.o;have qmq:=qha.o;have qqc:=qd2.o;have qmr:=qhb.o;have qqd:=qd8.o;have qms:=qhc.o;have qqe:=qee.o;have qmt:=qhd.o;have qqf:=qek.o;have qmu:=qhe.o;have qqg:=qeq.o;have qmv:=qhf.o;have qqh:=qew.o;have qmw:=qgd.o;have qqi:=qcv.o;obtain ⟨_,_,_,_,_,_⟩:=cEc qs.o;obtain ⟨jv,jr,qji⟩:=Kd.Zh q0.o;subst qji;obtain ⟨_,_,_,_,_,_⟩:=cEc qa.o)|(refine gL (some 135) Tryz.func26 #[.agg #[.bool a0_0,.slice A0_1 l0_1.length c0_1,.int .i64 a0_2]] (h:=?_);(with_reducible refine (Zbi.calls qe1 a0_0 _ _ l0_1 a0_2 jl jf jm qi8 _ ?side1 ?side2 qj5.o).mono ?_);(case side1=>exact Kd.Zi HR0_1.o pB);(case side2=>exact HC0_1.o);rintro e qvm ⟨quw,rfl,ho0,hb⟩;refine ⟨_,rfl,?_⟩;have q2:=am (Kd.Zn (Kd.Zf (Kd.Zf (Kd.Zf (Kd.Zf (Kd.Zf (Kd.Zf (Kd.Zf (Kd.Zf (Kd.Zf (Kd.Zf ho0 (Kd.R_lt (Kd.Za (z3 qf.o qs.o (by decide) (.bool jt) (.slice jv ji.length jr) (.int .i64 ju)) pl))) (Kd.R_lt (Kd.Za (z3 qg.o qs.o (by decide) (.bool jt) (.slice jv ji.length jr) (.int .i64 ju)) pl))) (Kd.R_lt (Kd.Za (z3 qh.o qs.o (by decide) (.bool jt) (.slice jv ji.length jr) (.int .i64 ju)) pl))) (Kd.R_lt (Kd.Za (z3 qi.o qs.o (by decide) (.bool jt) (.slice jv ji.length jr) (.int .i64 ju)) pl))) (Kd.R_lt (Kd.Za (z3 qj.o qs.o (by decide) (.bool jt) (.slice jv ji.length jr) (.int .i64 ju)) pl))) (Kd.R_lt (Kd.Za (z3 qk.o qs.o (by decide) (.bool jt) (.slice jv ji.length jr) (.int .i64 ju)) pl))) (Kd.R_lt (Kd.Za (z3 ql.o qs.o (by decide) (.bool jt) (.slice jv ji.length jr) (.int .i64 ju)) pl))) (Kd.R_lt (Kd.Za (z3 qm.o qs.o (by decide) (.bool jt) (.slice jv ji.length jr) (.int .i64 ju)) pl))) (Kd.R_lt (Kd.Za (z3 qx.o qs.o (by decide) (.bool jt) (.slice jv ji.length jr) (.int .i64 ju)) pl))) (Kd.R_lt (Kd.Za (z3 q0.o qs.o (by decide) (.bool jt) (.slice jv ji.length jr) (.int .i64 ju)) pl))) (Zb pB));replace qf:=am (Kd.Zy (Kd.Za (z3 qf.o qs.o (by decide) (.bool jt) (.slice jv ji.length jr) (.int .i64 ju)) pl) (Kd.Zt ho0) hb);replace qg:=am (Kd.Zy (Kd.Za (z3 qg.o qs.o (by decide) (.bool jt) (.slice jv ji.length jr) (.int .i64 ju)) pl) (Kd.Zt ho0) hb);replace qh:=am (Kd.Zy (Kd.Za (z3 qh.o qs.o (by decide) (.bool jt) (.slice jv ji.length jr) (.int .i64 ju)) pl) (Kd.Zt ho0) hb);replace qi:=am (Kd.Zy (Kd.Za (z3 qi.o qs.o (by decide) (.bool jt) (.slice jv ji.length jr) (.int .i64 ju)) pl) (Kd.Zt ho0) hb);replace qj:=am (Kd.Zy (Kd.Za (z3 qj.o qs.o (by decide) (.bool jt) (.slice jv ji.length jr) (.int .i64 ju)) pl) (Kd.Zt ho0) hb);replace qk:=am (Kd.Zy (Kd.Za (z3 qk.o qs.o (by decide) (.bool jt) (.slice jv ji.length jr) (.int .i64 ju)) pl) (Kd.Zt ho0) hb);replace ql:=am (Kd.Zy (Kd.Za (z3 ql.o qs.o (by decide) (.bool jt) (.slice jv ji.length jr) (.int .i64 ju)) pl) (Kd.Zt ho0) hb);replace qm:=am (Kd.Zy (Kd.Za (z3 qm.o qs.o (by decide) (.bool jt) (.slice jv ji.length jr) (.int .i64 ju)) pl) (Kd.Zt ho0) hb);replace qx:=am (Kd.Zy (Kd.Za (z3 qx.o qs.o (by decide) (.bool jt) (.slice jv ji.length jr) (.int .i64 ju)) pl) (Kd.Zt ho0) hb);replace q0:=am (Kd.Zy (Kd.Za (z3 q0.o qs.o (by decide) (.bool jt) (.slice jv ji.length jr) (.int .i64 ju)) pl) (Kd.Zt ho0) hb);replace qa:=bfb qde qa hb;replace qb:=bfb qdk qb hb;replace qc:=bfb qdq qc hb;replace qd:=bfb qdw qd hb;replace qe:=bfb qd2 qe hb;replace qn:=bfb qd8 qn hb;replace qo:=bfb qee qo hb;replace qp:=bfb qek qp hb;replace qr:=bfb qeq qr hb;replace qu:=bfb qew qu hb;replace qq:=bfb qcv qq hb;replace qs:=am (Zg (g:=qjb) (o:=.cells #[.bool jt,.slice jv ji.length jr,.int .i64 ju] 24 (0,0)) (by exact p3 qs) hb);replace HB:=bS hb)|((with_reducible refine gd 25 ?_);refine bx 25 #[.bool false,.slice none 0 0,.int .i64 0] 24 (h:=?_);intro qjc hg qvn hbox hb;have qt:=am hbox;have qki:=gW hg;have qdf:=nL hg qa;have qhg:=nG hg qa;have qdl:=nL hg qb;have qhh:=nG hg qb;have qdr:=nL hg qc;have qhi:=nG hg qc;have qdx:=nL hg qd;have qhj:=nG hg qd;have qd3:=nL hg qe;have qhk:=nG hg qe;have qd9:=nL hg qn;have qhl:=nG hg qn;have qef:=nL hg qo;have qhm:=nG hg qo;have qel:=nL hg qp;have qhn:=nG hg qp;have qer:=nL hg qr;have qho:=nG hg qr;have qex:=nL hg qu;have qhp:=nG hg qu;have qcw:=nL hg qq;have qge:=nG hg qq;have qc0:=nL hg qs;have qgf:=nG hg qs;replace qf:=rbl qf hb;replace qg:=rbl qg hb;replace qh:=rbl qh hb;replace qi:=rbl qi hb;replace qj:=rbl qj hb;replace qk:=rbl qk hb;replace ql:=rbl ql hb;replace qm:=rbl qm hb;replace qx:=rbl qx hb;replace q0:=rbl q0 hb;replace q2:=rbl q2 hb;replace qa:=bb qa hb;replace qb:=bb qb hb;replace qc:=bb qc hb;replace qd:=bb qd hb;replace qe:=bb qe hb;replace qn:=bb qn hb;replace qo:=bb qo hb;replace qp:=bb qp hb;replace qr:=bb qr hb;replace qu:=bb qu hb;replace qq:=bb qq hb;replace qs:=bb qs hb;replace HB:=bS hb;clear hb hbox hg;have qmx:=qhg.o;have qqj:=qdf.o;have qmy:=qhh.o;have qqk:=qdl.o;have qmz:=qhi.o;have qql:=qdr.o;have qm0:=qhj.o;have qqm:=qdx.o;have qm1:=qhk.o;have qqn:=qd3.o;have qm2:=qhl.o;have qqo:=qd9.o;have qm3:=qhm.o;have qqp:=qef.o;have qm4:=qhn.o;have qqq:=qel.o;have qm5:=qho.o;have qqr:=qer.o;have qm6:=qhp.o;have qqs:=qex.o;have qm7:=qge.o;have qqt:=qcw.o;have qm8:=qgf.o;have qqu:=qc0.o;obtain ⟨_,_,_,_,_,_⟩:=cEc qt.o;obtain ⟨jj,jk,qjj⟩:=Kd.Zh q2.o;subst qjj;obtain ⟨_,_,_,_,_,_⟩:=cEc qa.o)|(refine gL (some 140) Tryz.func39 #[.agg #[.bool a0_0,.slice A0_1 l0_1.length c0_1,.int .i64 a0_2]] (h:=?_);(with_reducible refine (Zas.calls qe1 a0_0 _ _ l0_1 a0_2 jg ja jh qjo _ ?side1 ?side2 qj6.o).mono ?_);(case side1=>exact Kd.Zi HR0_1.o pB);(case side2=>exact HC0_1.o);rintro e qvo ⟨qux,rfl,ho0,hb⟩;refine ⟨_,rfl,?_⟩;have q5:=am (Kd.Zn (Kd.Zf (Kd.Zf (Kd.Zf (Kd.Zf (Kd.Zf (Kd.Zf (Kd.Zf (Kd.Zf (Kd.Zf (Kd.Zf (Kd.Zf ho0 (Kd.R_lt (Kd.Za (z3 qf.o qt.o (by decide) (.bool jl) (.slice jj jf.length jk) (.int .i64 jm)) pl))) (Kd.R_lt (Kd.Za (z3 qg.o qt.o (by decide) (.bool jl) (.slice jj jf.length jk) (.int .i64 jm)) pl))) (Kd.R_lt (Kd.Za (z3 qh.o qt.o (by decide) (.bool jl) (.slice jj jf.length jk) (.int .i64 jm)) pl))) (Kd.R_lt (Kd.Za (z3 qi.o qt.o (by decide) (.bool jl) (.slice jj jf.length jk) (.int .i64 jm)) pl))) (Kd.R_lt (Kd.Za (z3 qj.o qt.o (by decide) (.bool jl) (.slice jj jf.length jk) (.int .i64 jm)) pl))) (Kd.R_lt (Kd.Za (z3 qk.o qt.o (by decide) (.bool jl) (.slice jj jf.length jk) (.int .i64 jm)) pl))) (Kd.R_lt (Kd.Za (z3 ql.o qt.o (by decide) (.bool jl) (.slice jj jf.length jk) (.int .i64 jm)) pl))) (Kd.R_lt (Kd.Za (z3 qm.o qt.o (by decide) (.bool jl) (.slice jj jf.length jk) (.int .i64 jm)) pl))) (Kd.R_lt (Kd.Za (z3 qx.o qt.o (by decide) (.bool jl) (.slice jj jf.length jk) (.int .i64 jm)) pl))) (Kd.R_lt (Kd.Za (z3 q0.o qt.o (by decide) (.bool jl) (.slice jj jf.length jk) (.int .i64 jm)) pl))) (Kd.R_lt (Kd.Za (z3 q2.o qt.o (by decide) (.bool jl) (.slice jj jf.length jk) (.int .i64 jm)) pl))) (Zb pB));replace qf:=am (Kd.Zy (Kd.Za (z3 qf.o qt.o (by decide) (.bool jl) (.slice jj jf.length jk) (.int .i64 jm)) pl) (Kd.Zt ho0) hb);replace qg:=am (Kd.Zy (Kd.Za (z3 qg.o qt.o (by decide) (.bool jl) (.slice jj jf.length jk) (.int .i64 jm)) pl) (Kd.Zt ho0) hb);replace qh:=am (Kd.Zy (Kd.Za (z3 qh.o qt.o (by decide) (.bool jl) (.slice jj jf.length jk) (.int .i64 jm)) pl) (Kd.Zt ho0) hb);replace qi:=am (Kd.Zy (Kd.Za (z3 qi.o qt.o (by decide) (.bool jl) (.slice jj jf.length jk) (.int .i64 jm)) pl) (Kd.Zt ho0) hb);replace qj:=am (Kd.Zy (Kd.Za (z3 qj.o qt.o (by decide) (.bool jl) (.slice jj jf.length jk) (.int .i64 jm)) pl) (Kd.Zt ho0) hb);replace qk:=am (Kd.Zy (Kd.Za (z3 qk.o qt.o (by decide) (.bool jl) (.slice jj jf.length jk) (.int .i64 jm)) pl) (Kd.Zt ho0) hb);replace ql:=am (Kd.Zy (Kd.Za (z3 ql.o qt.o (by decide) (.bool jl) (.slice jj jf.length jk) (.int .i64 jm)) pl) (Kd.Zt ho0) hb);replace qm:=am (Kd.Zy (Kd.Za (z3 qm.o qt.o (by decide) (.bool jl) (.slice jj jf.length jk) (.int .i64 jm)) pl) (Kd.Zt ho0) hb);replace qx:=am (Kd.Zy (Kd.Za (z3 qx.o qt.o (by decide) (.bool jl) (.slice jj jf.length jk) (.int .i64 jm)) pl) (Kd.Zt ho0) hb);replace q0:=am (Kd.Zy (Kd.Za (z3 q0.o qt.o (by decide) (.bool jl) (.slice jj jf.length jk) (.int .i64 jm)) pl) (Kd.Zt ho0) hb);replace q2:=am (Kd.Zy (Kd.Za (z3 q2.o qt.o (by decide) (.bool jl) (.slice jj jf.length jk) (.int .i64 jm)) pl) (Kd.Zt ho0) hb);replace qa:=bfb qdf qa hb;replace qb:=bfb qdl qb hb;replace qc:=bfb qdr qc hb;replace qd:=bfb qdx qd hb;replace qe:=bfb qd3 qe hb;replace qn:=bfb qd9 qn hb;replace qo:=bfb qef qo hb;replace qp:=bfb qel qp hb;replace qr:=bfb qer qr hb;replace qu:=bfb qex qu hb;replace qq:=bfb qcw qq hb;replace qs:=bfb qc0 qs hb;replace qt:=am (Zg (g:=qjc) (o:=.cells #[.bool jl,.slice jj jf.length jk,.int .i64 jm] 24 (0,0)) (by exact p3 qt) hb);replace HB:=bS hb)|((with_reducible refine gd 27 ?_);refine bx 27 #[.bool false,.slice none 0 0,.int .i64 0] 24 (h:=?_);intro qjd hg qvp hbox hb;have qv:=am hbox;have qkj:=gW hg;have qdg:=nL hg qa;have qhq:=nG hg qa;have qdm:=nL hg qb;have qhr:=nG hg qb;have qds:=nL hg qc;have qhs:=nG hg qc;have qdy:=nL hg qd;have qht:=nG hg qd;have qd4:=nL hg qe;have qhu:=nG hg qe;have qea:=nL hg qn;have qhv:=nG hg qn;have qeg:=nL hg qo;have qhw:=nG hg qo;have qem:=nL hg qp;have qhx:=nG hg qp;have qes:=nL hg qr;have qhy:=nG hg qr;have qey:=nL hg qu;have qhz:=nG hg qu;have qcx:=nL hg qq;have qgg:=nG hg qq;have qc1:=nL hg qs;have qgh:=nG hg qs;have qc4:=nL hg qt;have qgi:=nG hg qt;replace qf:=rbl qf hb;replace qg:=rbl qg hb;replace qh:=rbl qh hb;replace qi:=rbl qi hb;replace qj:=rbl qj hb;replace qk:=rbl qk hb;replace ql:=rbl ql hb;replace qm:=rbl qm hb;replace qx:=rbl qx hb;replace q0:=rbl q0 hb;replace q2:=rbl q2 hb;replace q5:=rbl q5 hb;replace qa:=bb qa hb;replace qb:=bb qb hb;replace qc:=bb qc hb;replace qd:=bb qd hb;replace qe:=bb qe hb;replace qn:=bb qn hb;replace qo:=bb qo hb;replace qp:=bb qp hb;replace qr:=bb qr hb;replace qu:=bb qu hb;replace qq:=bb qq hb;replace qs:=bb qs hb;replace qt:=bb qt hb;replace HB:=bS hb;clear hb hbox hg;have qm9:=qhq.o;have qqv:=qdg.o;have qna:=qhr.o;have qqw:=qdm.o;have qnb:=qhs.o;have qqx:=qds.o;have qnc:=qht.o;have qqy:=qdy.o;have qnd:=qhu.o;have qqz:=qd4.o;have qne:=qhv.o;have qq0:=qea.o;have qnf:=qhw.o;have qq1:=qeg.o;have qng:=qhx.o;have qq2:=qem.o;have qnh:=qhy.o;have qq3:=qes.o;have qni:=qhz.o;have qq4:=qey.o;have qnj:=qgg.o;have qq5:=qcx.o;have qnk:=qgh.o;have qq6:=qc1.o;have qnl:=qgi.o;have qq7:=qc4.o;obtain ⟨_,_,_,_,_,_⟩:=cEc qv.o;obtain ⟨jd,je,qjk⟩:=Kd.Zh q5.o;subst qjk;obtain ⟨_,_,_,_,_,_⟩:=cEc qa.o)|(refine gL (some 145) Tryz.func40 #[.agg #[.bool a0_0,.slice A0_1 l0_1.length c0_1,.int .i64 a0_2]] (h:=?_);(with_reducible refine (Zfh.calls qe1 a0_0 _ _ l0_1 a0_2 jb q6 jc qi9 _ ?side1 ?side2 qj7.o).mono ?_);(case side1=>exact Kd.Zi HR0_1.o pB);(case side2=>exact HC0_1.o);rintro e qvq ⟨quy,rfl,ho0,hb⟩;refine ⟨_,rfl,?_⟩;have jn:=am (Kd.Zn (Kd.Zf (Kd.Zf (Kd.Zf (Kd.Zf (Kd.Zf (Kd.Zf (Kd.Zf (Kd.Zf (Kd.Zf (Kd.Zf (Kd.Zf (Kd.Zf ho0 (Kd.R_lt (Kd.Za (z3 qf.o qv.o (by decide) (.bool jg) (.slice jd ja.length je) (.int .i64 jh)) pl))) (Kd.R_lt (Kd.Za (z3 qg.o qv.o (by decide) (.bool jg) (.slice jd ja.length je) (.int .i64 jh)) pl))) (Kd.R_lt (Kd.Za (z3 qh.o qv.o (by decide) (.bool jg) (.slice jd ja.length je) (.int .i64 jh)) pl))) (Kd.R_lt (Kd.Za (z3 qi.o qv.o (by decide) (.bool jg) (.slice jd ja.length je) (.int .i64 jh)) pl))) (Kd.R_lt (Kd.Za (z3 qj.o qv.o (by decide) (.bool jg) (.slice jd ja.length je) (.int .i64 jh)) pl))) (Kd.R_lt (Kd.Za (z3 qk.o qv.o (by decide) (.bool jg) (.slice jd ja.length je) (.int .i64 jh)) pl))) (Kd.R_lt (Kd.Za (z3 ql.o qv.o (by decide) (.bool jg) (.slice jd ja.length je) (.int .i64 jh)) pl))) (Kd.R_lt (Kd.Za (z3 qm.o qv.o (by decide) (.bool jg) (.slice jd ja.length je) (.int .i64 jh)) pl))) (Kd.R_lt (Kd.Za (z3 qx.o qv.o (by decide) (.bool jg) (.slice jd ja.length je) (.int .i64 jh)) pl))) (Kd.R_lt (Kd.Za (z3 q0.o qv.o (by decide) (.bool jg) (.slice jd ja.length je) (.int .i64 jh)) pl))) (Kd.R_lt (Kd.Za (z3 q2.o qv.o (by decide) (.bool jg) (.slice jd ja.length je) (.int .i64 jh)) pl))) (Kd.R_lt (Kd.Za (z3 q5.o qv.o (by decide) (.bool jg) (.slice jd ja.length je) (.int .i64 jh)) pl))) (Zb pB));replace qf:=am (Kd.Zy (Kd.Za (z3 qf.o qv.o (by decide) (.bool jg) (.slice jd ja.length je) (.int .i64 jh)) pl) (Kd.Zt ho0) hb);replace qg:=am (Kd.Zy (Kd.Za (z3 qg.o qv.o (by decide) (.bool jg) (.slice jd ja.length je) (.int .i64 jh)) pl) (Kd.Zt ho0) hb);replace qh:=am (Kd.Zy (Kd.Za (z3 qh.o qv.o (by decide) (.bool jg) (.slice jd ja.length je) (.int .i64 jh)) pl) (Kd.Zt ho0) hb);replace qi:=am (Kd.Zy (Kd.Za (z3 qi.o qv.o (by decide) (.bool jg) (.slice jd ja.length je) (.int .i64 jh)) pl) (Kd.Zt ho0) hb);replace qj:=am (Kd.Zy (Kd.Za (z3 qj.o qv.o (by decide) (.bool jg) (.slice jd ja.length je) (.int .i64 jh)) pl) (Kd.Zt ho0) hb);replace qk:=am (Kd.Zy (Kd.Za (z3 qk.o qv.o (by decide) (.bool jg) (.slice jd ja.length je) (.int .i64 jh)) pl) (Kd.Zt ho0) hb);replace ql:=am (Kd.Zy (Kd.Za (z3 ql.o qv.o (by decide) (.bool jg) (.slice jd ja.length je) (.int .i64 jh)) pl) (Kd.Zt ho0) hb);replace qm:=am (Kd.Zy (Kd.Za (z3 qm.o qv.o (by decide) (.bool jg) (.slice jd ja.length je) (.int .i64 jh)) pl) (Kd.Zt ho0) hb);replace qx:=am (Kd.Zy (Kd.Za (z3 qx.o qv.o (by decide) (.bool jg) (.slice jd ja.length je) (.int .i64 jh)) pl) (Kd.Zt ho0) hb);replace q0:=am (Kd.Zy (Kd.Za (z3 q0.o qv.o (by decide) (.bool jg) (.slice jd ja.length je) (.int .i64 jh)) pl) (Kd.Zt ho0) hb);replace q2:=am (Kd.Zy (Kd.Za (z3 q2.o qv.o (by decide) (.bool jg) (.slice jd ja.length je) (.int .i64 jh)) pl) (Kd.Zt ho0) hb);replace q5:=am (Kd.Zy (Kd.Za (z3 q5.o qv.o (by decide) (.bool jg) (.slice jd ja.length je) (.int .i64 jh)) pl) (Kd.Zt ho0) hb);replace qa:=bfb qdg qa hb;replace qb:=bfb qdm qb hb;replace qc:=bfb qds qc hb;replace qd:=bfb qdy qd hb;replace qe:=bfb qd4 qe hb;replace qn:=bfb qea qn hb;replace qo:=bfb qeg qo hb;replace qp:=bfb qem qp hb;replace qr:=bfb qes qr hb;replace qu:=bfb qey qu hb;replace qq:=bfb qcx qq hb;replace qs:=bfb qc1 qs hb;replace qt:=bfb qc4 qt hb;replace qv:=am (Zg (g:=qjd) (o:=.cells #[.bool jg,.slice jd ja.length je,.int .i64 jh] 24 (0,0)) (by exact p3 qv) hb);replace HB:=bS hb)|((with_reducible refine gd 29 ?_);refine bx 29 #[.bool false,.slice none 0 0,.int .i64 0] 24 (h:=?_);intro qje hg qvr hbox hb;have qw:=am hbox;have qkk:=gW hg;have qdh:=nL hg qa;have qh0:=nG hg qa;have qdn:=nL hg qb;have qh1:=nG hg qb;have qdt:=nL hg qc;have qh2:=nG hg qc;have qdz:=nL hg qd;have qh3:=nG hg qd;have qd5:=nL hg qe;have qh4:=nG hg qe;have qeb:=nL hg qn;have qh5:=nG hg qn;have qeh:=nL hg qo;have qh6:=nG hg qo;have qen:=nL hg qp;have qh7:=nG hg qp;have qet:=nL hg qr;have qh8:=nG hg qr;have qez:=nL hg qu;have qh9:=nG hg qu;have qcy:=nL hg qq;have qgj:=nG hg qq;have qc2:=nL hg qs;have qgk:=nG hg qs;have qc5:=nL hg qt;have qgl:=nG hg qt;have qc7:=nL hg qv;have qgm:=nG hg qv;replace qf:=rbl qf hb;replace qg:=rbl qg hb;replace qh:=rbl qh hb;replace qi:=rbl qi hb;replace qj:=rbl qj hb;replace qk:=rbl qk hb;replace ql:=rbl ql hb;replace qm:=rbl qm hb;replace qx:=rbl qx hb;replace q0:=rbl q0 hb;replace q2:=rbl q2 hb;replace q5:=rbl q5 hb;replace jn:=rbl jn hb;replace qa:=bb qa hb;replace qb:=bb qb hb;replace qc:=bb qc hb;replace qd:=bb qd hb;replace qe:=bb qe hb;replace qn:=bb qn hb;replace qo:=bb qo hb;replace qp:=bb qp hb;replace qr:=bb qr hb;replace qu:=bb qu hb;replace qq:=bb qq hb;replace qs:=bb qs hb;replace qt:=bb qt hb;replace qv:=bb qv hb;replace HB:=bS hb;clear hb hbox hg;have qnm:=qh0.o;have qq8:=qdh.o;have qnn:=qh1.o;have qq9:=qdn.o;have qno:=qh2.o;have qra:=qdt.o;have qnp:=qh3.o;have qrb:=qdz.o;have qnq:=qh4.o;have qrc:=qd5.o;have qnr:=qh5.o;have qrd:=qeb.o;have qns:=qh6.o;have qre:=qeh.o;have qnt:=qh7.o;have qrf:=qen.o;have qnu:=qh8.o;have qrg:=qet.o;have qnv:=qh9.o;have qrh:=qez.o;have qnw:=qgj.o;have qri:=qcy.o;have qnx:=qgk.o;have qrj:=qc2.o;have qny:=qgl.o;have qrk:=qc5.o;have qnz:=qgm.o;have qrl:=qc7.o;obtain ⟨_,_,_,_,_,_⟩:=cEc qw.o;obtain ⟨q7,q9,qjl⟩:=Kd.Zh jn.o;subst qjl;obtain ⟨_,_,_,_,_,_⟩:=cEc qa.o)|(refine gL (some 150) Tryz.func24 #[.agg #[.bool a0_0,.slice A0_1 l0_1.length c0_1,.int .i64 a0_2]] (h:=?_);(with_reducible refine (Zb0.calls qe1 a0_0 _ _ l0_1 a0_2 j6 j1 j7 qjp _ ?side1 ?side2 qj8.o).mono ?_);(case side1=>exact Kd.Zi HR0_1.o pB);(case side2=>exact HC0_1.o);rintro e qvs ⟨quz,rfl,ho0,hb⟩;refine ⟨_,rfl,?_⟩;have qab:=am (Kd.Zn (Kd.Zf (Kd.Zf (Kd.Zf (Kd.Zf (Kd.Zf (Kd.Zf (Kd.Zf (Kd.Zf (Kd.Zf (Kd.Zf (Kd.Zf (Kd.Zf (Kd.Zf ho0 (Kd.R_lt (Kd.Za (z3 qf.o qw.o (by decide) (.bool jb) (.slice q7 q6.length q9) (.int .i64 jc)) pl))) (Kd.R_lt (Kd.Za (z3 qg.o qw.o (by decide) (.bool jb) (.slice q7 q6.length q9) (.int .i64 jc)) pl))) (Kd.R_lt (Kd.Za (z3 qh.o qw.o (by decide) (.bool jb) (.slice q7 q6.length q9) (.int .i64 jc)) pl))) (Kd.R_lt (Kd.Za (z3 qi.o qw.o (by decide) (.bool jb) (.slice q7 q6.length q9) (.int .i64 jc)) pl))) (Kd.R_lt (Kd.Za (z3 qj.o qw.o (by decide) (.bool jb) (.slice q7 q6.length q9) (.int .i64 jc)) pl))) (Kd.R_lt (Kd.Za (z3 qk.o qw.o (by decide) (.bool jb) (.slice q7 q6.length q9) (.int .i64 jc)) pl))) (Kd.R_lt (Kd.Za (z3 ql.o qw.o (by decide) (.bool jb) (.slice q7 q6.length q9) (.int .i64 jc)) pl))) (Kd.R_lt (Kd.Za (z3 qm.o qw.o (by decide) (.bool jb) (.slice q7 q6.length q9) (.int .i64 jc)) pl))) (Kd.R_lt (Kd.Za (z3 qx.o qw.o (by decide) (.bool jb) (.slice q7 q6.length q9) (.int .i64 jc)) pl))) (Kd.R_lt (Kd.Za (z3 q0.o qw.o (by decide) (.bool jb) (.slice q7 q6.length q9) (.int .i64 jc)) pl))) (Kd.R_lt (Kd.Za (z3 q2.o qw.o (by decide) (.bool jb) (.slice q7 q6.length q9) (.int .i64 jc)) pl))) (Kd.R_lt (Kd.Za (z3 q5.o qw.o (by decide) (.bool jb) (.slice q7 q6.length q9) (.int .i64 jc)) pl))) (Kd.R_lt (Kd.Za (z3 jn.o qw.o (by decide) (.bool jb) (.slice q7 q6.length q9) (.int .i64 jc)) pl))) (Zb pB));replace qf:=am (Kd.Zy (Kd.Za (z3 qf.o qw.o (by decide) (.bool jb) (.slice q7 q6.length q9) (.int .i64 jc)) pl) (Kd.Zt ho0) hb);replace qg:=am (Kd.Zy (Kd.Za (z3 qg.o qw.o (by decide) (.bool jb) (.slice q7 q6.length q9) (.int .i64 jc)) pl) (Kd.Zt ho0) hb);replace qh:=am (Kd.Zy (Kd.Za (z3 qh.o qw.o (by decide) (.bool jb) (.slice q7 q6.length q9) (.int .i64 jc)) pl) (Kd.Zt ho0) hb);replace qi:=am (Kd.Zy (Kd.Za (z3 qi.o qw.o (by decide) (.bool jb) (.slice q7 q6.length q9) (.int .i64 jc)) pl) (Kd.Zt ho0) hb);replace qj:=am (Kd.Zy (Kd.Za (z3 qj.o qw.o (by decide) (.bool jb) (.slice q7 q6.length q9) (.int .i64 jc)) pl) (Kd.Zt ho0) hb);replace qk:=am (Kd.Zy (Kd.Za (z3 qk.o qw.o (by decide) (.bool jb) (.slice q7 q6.length q9) (.int .i64 jc)) pl) (Kd.Zt ho0) hb);replace ql:=am (Kd.Zy (Kd.Za (z3 ql.o qw.o (by decide) (.bool jb) (.slice q7 q6.length q9) (.int .i64 jc)) pl) (Kd.Zt ho0) hb);replace qm:=am (Kd.Zy (Kd.Za (z3 qm.o qw.o (by decide) (.bool jb) (.slice q7 q6.length q9) (.int .i64 jc)) pl) (Kd.Zt ho0) hb);replace qx:=am (Kd.Zy (Kd.Za (z3 qx.o qw.o (by decide) (.bool jb) (.slice q7 q6.length q9) (.int .i64 jc)) pl) (Kd.Zt ho0) hb);replace q0:=am (Kd.Zy (Kd.Za (z3 q0.o qw.o (by decide) (.bool jb) (.slice q7 q6.length q9) (.int .i64 jc)) pl) (Kd.Zt ho0) hb);replace q2:=am (Kd.Zy (Kd.Za (z3 q2.o qw.o (by decide) (.bool jb) (.slice q7 q6.length q9) (.int .i64 jc)) pl) (Kd.Zt ho0) hb);replace q5:=am (Kd.Zy (Kd.Za (z3 q5.o qw.o (by decide) (.bool jb) (.slice q7 q6.length q9) (.int .i64 jc)) pl) (Kd.Zt ho0) hb);replace jn:=am (Kd.Zy (Kd.Za (z3 jn.o qw.o (by decide) (.bool jb) (.slice q7 q6.length q9) (.int .i64 jc)) pl) (Kd.Zt ho0) hb);replace qa:=bfb qdh qa hb;replace qb:=bfb qdn qb hb;replace qc:=bfb qdt qc hb;replace qd:=bfb qdz qd hb;replace qe:=bfb qd5 qe hb;replace qn:=bfb qeb qn hb;replace qo:=bfb qeh qo hb;replace qp:=bfb qen qp hb;replace qr:=bfb qet qr hb;replace qu:=bfb qez qu hb;replace qq:=bfb qcy qq hb;replace qs:=bfb qc2 qs hb;replace qt:=bfb qc5 qt hb;replace qv:=bfb qc7 qv hb;replace qw:=am (Zg (g:=qje) (o:=.cells #[.bool jb,.slice q7 q6.length q9,.int .i64 jc] 24 (0,0)) (by exact p3 qw) hb);replace HB:=bS hb)|((with_reducible refine gd 31 ?_);refine bx 31 #[.bool false,.slice none 0 0,.int .i64 0] 24 (h:=?_);intro qjf hg qvt hbox hb;have q3:=am hbox;have qkl:=gW hg;have qdi:=nL hg qa;have qia:=nG hg qa;have qdo:=nL hg qb;have qib:=nG hg qb;have qdu:=nL hg qc;have qic:=nG hg qc;have qd0:=nL hg qd;have qid:=nG hg qd;have qd6:=nL hg qe;have qie:=nG hg qe;have qec:=nL hg qn;have qif:=nG hg qn;have qei:=nL hg qo;have qig:=nG hg qo;have qeo:=nL hg qp;have qih:=nG hg qp;have qeu:=nL hg qr;have qii:=nG hg qr;have qe0:=nL hg qu;have qij:=nG hg qu;have qcz:=nL hg qq;have qgn:=nG hg qq;have qc3:=nL hg qs;have qgo:=nG hg qs;have qc6:=nL hg qt;have qgp:=nG hg qt;have qc8:=nL hg qv;have qgq:=nG hg qv;have qc9:=nL hg qw;have qgr:=nG hg qw;replace qf:=rbl qf hb;replace qg:=rbl qg hb;replace qh:=rbl qh hb;replace qi:=rbl qi hb;replace qj:=rbl qj hb;replace qk:=rbl qk hb;replace ql:=rbl ql hb;replace qm:=rbl qm hb;replace qx:=rbl qx hb;replace q0:=rbl q0 hb;replace q2:=rbl q2 hb;replace q5:=rbl q5 hb;replace jn:=rbl jn hb;replace qab:=rbl qab hb;replace qa:=bb qa hb;replace qb:=bb qb hb;replace qc:=bb qc hb;replace qd:=bb qd hb;replace qe:=bb qe hb;replace qn:=bb qn hb;replace qo:=bb qo hb;replace qp:=bb qp hb;replace qr:=bb qr hb;replace qu:=bb qu hb;replace qq:=bb qq hb;replace qs:=bb qs hb;replace qt:=bb qt hb;replace qv:=bb qv hb;replace qw:=bb qw hb;replace HB:=bS hb;clear hb hbox hg;have qn0:=qia.o;have qrm:=qdi.o;have qn1:=qib.o;have qrn:=qdo.o;have qn2:=qic.o;have qro:=qdu.o;have qn3:=qid.o;have qrp:=qd0.o;have qn4:=qie.o;have qrq:=qd6.o;have qn5:=qif.o;have qrr:=qec.o;have qn6:=qig.o;have qrs:=qei.o;have qn7:=qih.o;have qrt:=qeo.o;have qn8:=qii.o;have qru:=qeu.o;have qn9:=qij.o;have qrv:=qe0.o;have qoa:=qgn.o;have qrw:=qcz.o;have qob:=qgo.o;have qrx:=qc3.o;have qoc:=qgp.o;have qry:=qc6.o;have qod:=qgq.o;have qrz:=qc8.o;have qoe:=qgr.o;have qr0:=qc9.o;obtain ⟨_,_,_,_,_,_⟩:=cEc q3.o;obtain ⟨j3,j5,qjm⟩:=Kd.Zh qab.o;subst qjm;obtain ⟨_,_,_,_,_,_⟩:=cEc qq.o;obtain ⟨_,_,_,_,_,_⟩:=cEc qs.o)|(refine gL (some 155) Tryz.func21 #[.agg #[.bool jx,.slice jz js.length jw,.int .i64 jy],.agg #[.bool jt,.slice jv ji.length jr,.int .i64 ju]] (h:=?_);(with_reducible refine (Zq.calls qe1 jx _ _ js jy jt _ _ ji ju true _ ?side1 ?side2 ?side3 ?side4 qj9.o).mono ?_);(case side1=>refine (Kd.Zc (e:=85) (base:=w.heap.size) (ok:=fun k_=>(((((((((((((True/\some k_ ≠ (.slice qat qaj.length qaq:Value).ownBlock)/\some k_ ≠ (.slice qau qak.length qar:Value).ownBlock)/\some k_ ≠ (.slice qap qal.length qas:Value).ownBlock)/\some k_ ≠ (.slice qam qag.length qan:Value).ownBlock)/\some k_ ≠ (.slice qah qac.length qai:Value).ownBlock)/\some k_ ≠ (.slice qae j8.length qaf:Value).ownBlock)/\some k_ ≠ (.slice j9 j2.length qaa:Value).ownBlock)/\some k_ ≠ (.slice jo qad.length jq:Value).ownBlock)/\some k_ ≠ (.slice jv ji.length jr:Value).ownBlock)/\some k_ ≠ (.slice jj jf.length jk:Value).ownBlock)/\some k_ ≠ (.slice jd ja.length je:Value).ownBlock)/\some k_ ≠ (.slice q7 q6.length q9:Value).ownBlock)/\some k_ ≠ (.slice j3 j1.length j5:Value).ownBlock)) (n:=js.length) (c:=jw) ?_).2.2;exact (Kd.Za (z3 qx.o q3.o (by decide) (.bool j6) (.slice j3 j1.length j5) (.int .i64 j7)) pl));(case side2=>exact (Kd.Zc qx.o).2.1);(case side3=>refine (Kd.Zc (e:=85) (base:=w.heap.size) (ok:=fun k_=>(((((((((((((True/\some k_ ≠ (.slice qat qaj.length qaq:Value).ownBlock)/\some k_ ≠ (.slice qau qak.length qar:Value).ownBlock)/\some k_ ≠ (.slice qap qal.length qas:Value).ownBlock)/\some k_ ≠ (.slice qam qag.length qan:Value).ownBlock)/\some k_ ≠ (.slice qah qac.length qai:Value).ownBlock)/\some k_ ≠ (.slice qae j8.length qaf:Value).ownBlock)/\some k_ ≠ (.slice j9 j2.length qaa:Value).ownBlock)/\some k_ ≠ (.slice jo qad.length jq:Value).ownBlock)/\some k_ ≠ (.slice jz js.length jw:Value).ownBlock)/\some k_ ≠ (.slice jj jf.length jk:Value).ownBlock)/\some k_ ≠ (.slice jd ja.length je:Value).ownBlock)/\some k_ ≠ (.slice q7 q6.length q9:Value).ownBlock)/\some k_ ≠ (.slice j3 j1.length j5:Value).ownBlock)) (n:=ji.length) (c:=jr) ?_).2.2;exact (Kd.Za (z3 q0.o q3.o (by decide) (.bool j6) (.slice j3 j1.length j5) (.int .i64 j7)) pl));(case side4=>exact (Kd.Zc q0.o).2.1);rintro e qvu ⟨rfl,hb⟩;refine ⟨_,rfl,?_⟩;replace qf:=am (Kd.Za (Kd.Za (z3 qf.o q3.o (by decide) (.bool j6) (.slice j3 j1.length j5) (.int .i64 j7)) pl) hb);replace qg:=am (Kd.Za (Kd.Za (z3 qg.o q3.o (by decide) (.bool j6) (.slice j3 j1.length j5) (.int .i64 j7)) pl) hb);replace qh:=am (Kd.Za (Kd.Za (z3 qh.o q3.o (by decide) (.bool j6) (.slice j3 j1.length j5) (.int .i64 j7)) pl) hb);replace qi:=am (Kd.Za (Kd.Za (z3 qi.o q3.o (by decide) (.bool j6) (.slice j3 j1.length j5) (.int .i64 j7)) pl) hb);replace qj:=am (Kd.Za (Kd.Za (z3 qj.o q3.o (by decide) (.bool j6) (.slice j3 j1.length j5) (.int .i64 j7)) pl) hb);replace qk:=am (Kd.Za (Kd.Za (z3 qk.o q3.o (by decide) (.bool j6) (.slice j3 j1.length j5) (.int .i64 j7)) pl) hb);replace ql:=am (Kd.Za (Kd.Za (z3 ql.o q3.o (by decide) (.bool j6) (.slice j3 j1.length j5) (.int .i64 j7)) pl) hb);replace qm:=am (Kd.Za (Kd.Za (z3 qm.o q3.o (by decide) (.bool j6) (.slice j3 j1.length j5) (.int .i64 j7)) pl) hb);replace qx:=am (Kd.Za (Kd.Za (z3 qx.o q3.o (by decide) (.bool j6) (.slice j3 j1.length j5) (.int .i64 j7)) pl) hb);replace q0:=am (Kd.Za (Kd.Za (z3 q0.o q3.o (by decide) (.bool j6) (.slice j3 j1.length j5) (.int .i64 j7)) pl) hb);replace q2:=am (Kd.Za (Kd.Za (z3 q2.o q3.o (by decide) (.bool j6) (.slice j3 j1.length j5) (.int .i64 j7)) pl) hb);replace q5:=am (Kd.Za (Kd.Za (z3 q5.o q3.o (by decide) (.bool j6) (.slice j3 j1.length j5) (.int .i64 j7)) pl) hb);replace jn:=am (Kd.Za (Kd.Za (z3 jn.o q3.o (by decide) (.bool j6) (.slice j3 j1.length j5) (.int .i64 j7)) pl) hb);replace qab:=am (Kd.Za (Kd.Za (z3 qab.o q3.o (by decide) (.bool j6) (.slice j3 j1.length j5) (.int .i64 j7)) pl) hb);replace qa:=bfb qdi qa hb;replace qb:=bfb qdo qb hb;replace qc:=bfb qdu qc hb;replace qd:=bfb qd0 qd hb;replace qe:=bfb qd6 qe hb;replace qn:=bfb qec qn hb;replace qo:=bfb qei qo hb;replace qp:=bfb qeo qp hb;replace qr:=bfb qeu qr hb;replace qu:=bfb qe0 qu hb;replace qq:=bfb qcz qq hb;replace qs:=bfb qc3 qs hb;replace qt:=bfb qc6 qt hb;replace qv:=bfb qc8 qv hb;replace qw:=bfb qc9 qw hb;replace q3:=am (Zg (g:=qjf) (o:=.cells #[.bool j6,.slice j3 j1.length j5,.int .i64 j7] 24 (0,0)) (by exact p3 q3) hb);replace HB:=bS hb)|(go_at_call 20;(with_reducible refine (Zaj.calls qi7 qim _ qka.o).mono ?_);rintro e w' ⟨rfl,⟨nd,rfl⟩⟩;obtain ⟨_,_,_,_,_,_⟩:=cEc qt.o;obtain ⟨_,_,_,_,_,_⟩:=cEc qv.o)|(go_at_call 21;(with_reducible refine (Zq.calls qe1 jl _ _ jf jm jg _ _ ja jh true _ ?side1 ?side2 ?side3 ?side4 qkb.o).mono ?_);(case side1=>exact Kd.Zi (Kd.Zc q2.o).2.2 pl);(case side2=>exact (Kd.Zc q2.o).2.1);(case side3=>exact Kd.Zi (Kd.Zc q5.o).2.2 pl);(case side4=>exact (Kd.Zc q5.o).2.1);rintro e qvv ⟨rfl,hb⟩;replace qf:=rbl qf hb;replace qg:=rbl qg hb;replace qh:=rbl qh hb;replace qi:=rbl qi hb;replace qj:=rbl qj hb;replace qk:=rbl qk hb;replace ql:=rbl ql hb;replace qm:=rbl qm hb;replace qx:=rbl qx hb;replace q0:=rbl q0 hb;replace q2:=rbl q2 hb;replace q5:=rbl q5 hb;replace jn:=rbl jn hb;replace qab:=rbl qab hb;replace qa:=bb qa hb;replace qb:=bb qb hb;replace qc:=bb qc hb;replace qd:=bb qd hb;replace qe:=bb qe hb;replace qn:=bb qn hb;replace qo:=bb qo hb;replace qp:=bb qp hb;replace qr:=bb qr hb;replace qu:=bb qu hb;replace qq:=bb qq hb;replace qs:=bb qs hb;replace qt:=bb qt hb;replace qv:=bb qv hb;replace qw:=bb qw hb;replace q3:=bb q3 hb;replace HB:=bS hb)|(go_at_call 20;(with_reducible refine (Zaj.calls qi8 qio _ qkc.o).mono ?_);rintro e w' ⟨rfl,⟨nd,rfl⟩⟩;obtain ⟨_,_,_,_,_,_⟩:=cEc qw.o;obtain ⟨_,_,_,_,_,_⟩:=cEc q3.o)|(go_at_call 21;(with_reducible refine (Zq.calls qe1 jb _ _ q6 jc j6 _ _ j1 j7 true _ ?side1 ?side2 ?side3 ?side4 qkd.o).mono ?_);(case side1=>exact Kd.Zi (Kd.Zc jn.o).2.2 pl);(case side2=>exact (Kd.Zc jn.o).2.1);(case side3=>exact Kd.Zi (Kd.Zc qab.o).2.2 pl);(case side4=>exact (Kd.Zc qab.o).2.1);rintro e qvw ⟨rfl,hb⟩;replace qf:=rbl qf hb;replace qg:=rbl qg hb;replace qh:=rbl qh hb;replace qi:=rbl qi hb;replace qj:=rbl qj hb;replace qk:=rbl qk hb;replace ql:=rbl ql hb;replace qm:=rbl qm hb;replace qx:=rbl qx hb;replace q0:=rbl q0 hb;replace q2:=rbl q2 hb;replace q5:=rbl q5 hb;replace jn:=rbl jn hb;replace qab:=rbl qab hb;replace qa:=bb qa hb;replace qb:=bb qb hb;replace qc:=bb qc hb;replace qd:=bb qd hb;replace qe:=bb qe hb;replace qn:=bb qn hb;replace qo:=bb qo hb;replace qp:=bb qp hb;replace qr:=bb qr hb;replace qu:=bb qu hb;replace qq:=bb qq hb;replace qs:=bb qs hb;replace qt:=bb qt hb;replace qv:=bb qv hb;replace qw:=bb qw hb;replace q3:=bb q3 hb;replace HB:=bS hb)|(go_at_call 20;(with_reducible refine (Zaj.calls qi9 qiq _ qke.o).mono ?_);rintro e w' ⟨rfl,⟨nd,rfl⟩⟩)|(go_at_call 16;(with_reducible refine (Zbx.calls qe1  qir _ qkf.o).mono ?_);rintro e qvx ⟨rfl,hb⟩;replace qf:=rbl qf hb;replace qg:=rbl qg hb;replace qh:=rbl qh hb;replace qi:=rbl qi hb;replace qj:=rbl qj hb;replace qk:=rbl qk hb;replace ql:=rbl ql hb;replace qm:=rbl qm hb;replace qx:=rbl qx hb;replace q0:=rbl q0 hb;replace q2:=rbl q2 hb;replace q5:=rbl q5 hb;replace jn:=rbl jn hb;replace qab:=rbl qab hb;replace qa:=bb qa hb;replace qb:=bb qb hb;replace qc:=bb qc hb;replace qd:=bb qd hb;replace qe:=bb qe hb;replace qn:=bb qn hb;replace qo:=bb qo hb;replace qp:=bb qp hb;replace qr:=bb qr hb;replace qu:=bb qu hb;replace qq:=bb qq hb;replace qs:=bb qs hb;replace qt:=bb qt hb;replace qv:=bb qv hb;replace qw:=bb qw hb;replace q3:=bb q3 hb;replace HB:=bS hb))
          go_ret
          exact ⟨pE,pB⟩
         ·exact absurd ((Option.some.inj H).trans hr) Bool.false_ne_true
        ·exact absurd ((Option.some.inj H).trans hr) Bool.false_ne_true
       ·exact absurd ((Option.some.inj H).trans hr) Bool.false_ne_true
      ·exact absurd ((Option.some.inj H).trans hr) Bool.false_ne_true
     ·exact absurd ((Option.some.inj H).trans hr) Bool.false_ne_true
    ·exact absurd ((Option.some.inj H).trans hr) Bool.false_ne_true
end YtjbjkmccfocikaaGreatDoor.B
end
section
namespace YtjbjkmccfocikaaGreatDoor.P.Nm
open Go.RowKit YtjbjkmccfocikaaGreatDoorW.PrintWords YtjbjkmccfocikaaGreatDoorW.PrintLast YtjbjkmccfocikaaGreatDoorW.PrintMore YtjbjkmccfocikaaGreatDoor.B YtjbjkmccfocikaaGreatDoor.P
theorem Zo9 {D:Dm} (hD:OkD D) (hn0:D.n ≠ 0) {n:Nat} (hn:padR D=n):Tells (fun k=>Zas.j0 k (n:Int) D.neg (digs D.n) D.e) (outD (sqrtD D)):=by
 have l1:=hD.len
 have b1:=hD.low;have b3:=hD.high
 have dD:=Zk9 D.n
 obtain ⟨hev,hn1⟩:(D.e - (n:Int)) % 2=0/\n<=81:=by rw [<- hn];rcases Zhh D with h|h <;> omega
 have hX:nd (D.n*10 ^ n)<=700:=Nat.le_trans (Zfe D.n n) (by omega)
 have hsh:=Zf0 D.n n (by omega) (by omega)
 have hr:=Zic (D.n*10 ^ n) (by omega)
 have hrn:=Zmo (D.n*10 ^ n) 700 hX
 obtain ⟨c,hce,hlo,hhi⟩:=Zjx (m:=D.n) (p:=n) hn0 (by rw [<- hn];rcases Zhh D with h|h <;> omega)
 obtain ⟨q,hqe⟩:∃ q,root (D.n*10 ^ n)=q:=⟨_,rfl⟩
 rw [hqe] at hr hrn hce hlo hhi
 have hq0:q ≠ 0:=fun e=>by rw [e,Nat.zero_div] at hlo;have := Zbv 39;omega
 have hcl:nd q - 40=c:=by have:dl q - 40=c:=hce;rw [Zjg hq0] at this;exact this
 have et:Int.tdiv (D.e - (n:Int)) 2=(D.e - (n:Int)) / 2:=by
  obtain ⟨y,hy⟩:∃ y:Int,D.e - (n:Int)=2*y:=⟨(D.e - (n:Int)) / 2,by omega⟩
  rw [hy,Int.mul_tdiv_cancel_left y (by decide)]
  omega
 have e2:wrap64 (Int.tdiv (wrap64 (D.e - (n:Int))) 2)=(D.e - n) / 2:=by
  rw [w64n (z:=D.e - (n:Int)) (by omega) (by omega),et,w64n (z:=(D.e - (n:Int)) / 2) (by omega) (by omega)]
 have hgoal:sqrtD D=settleD ⟨false,q / 10 ^ c,(D.e - n) / 2+c⟩:=by
  unfold sqrtD rootD
  simp only [hn,hqe,hce]
 have hh:nd (q / 10 ^ c)<=700:=Nat.le_trans (Zcv (Nat.div_le_self _ _)) hrn
 rw [hgoal]
 refine Tells.succ ?_
 simp only [Zas.j0]
 rw [hsh,e2]
 refine (Tells.pure _).bind (hr.bind ?_)
 by_cases h40:nd q<=40
 ·have hc0:c=0:=by omega
  subst hc0
  rw [Nat.pow_zero,Nat.div_one] at hh ⊢
  have hm:=Made false q ((D.e - n) / 2) (by omega) (by omega) (by omega)
  exact Tells.ifn (by show ¬ ((nd q:Nat):Int) > 40;omega) (hm.bind ((Tells.pure _).val (by rw [show (((0:Nat):Int))=0 from rfl,Int.add_zero])))
 ·have ec:wrap64 (((digs q).length:Int) - 40)=(c:Int):=by
   show wrap64 (((nd q:Nat):Int) - 40)=_
   rw [w64n (by omega) (by omega)];omega
  have hm:=Made false (q / 10 ^ c) ((D.e - n) / 2+c) (by omega) (by omega) (by omega)
  rw [ec,Int.toNat_natCast,Zhb (by omega),w64n (z:=(D.e - (n:Int)) / 2+(c:Int)) (by omega) (by omega)]
  exact Tells.ifp (by show ((nd q:Nat):Int) > 40;omega) (Tells.ifp (by omega) (Tells.ifp (by show (c:Int)<=((nd q:Nat):Int);omega) (hm.bind (Tells.pure _))))
theorem RSqrt {D:Dm} (hD:OkD D) (hpos:D.neg=false):Tells (fun k=>Zas.f k D.neg (limbs D.n) D.e) (outD (sqrtD D)):=by
 have l1:=hD.len
 have b1:=hD.low;have b3:=hD.high
 unfold Zas.f
 refine (RCheck D hD).bind (Tells.ifp rfl (Tells.ifn (by rw [hpos];decide) ?_))
 by_cases hn0:D.n=0
 ·have hz:sqrtD D=(zeroD,0):=by
   have := Zjw hn0
   unfold sqrtD settleD;rw [if_pos this]
  rw [hz,hn0]
  exact Tells.ifp rfl (Tells.pure _)
 ·have hpl:0 < (limbs D.n).length:=List.length_pos_iff.2 (Zdu hn0)
  refine Tells.ifn (by omega) ((ROf D (by omega)).bind ?_)
  dsimp only
  have e0:mx 0 (wrap64 (80 - ((digs D.n).length:Int)))=((80 - nd D.n:Nat):Int):=by
   show mx 0 (wrap64 (80 - ((nd D.n:Nat):Int)))=_
   rw [w64n (by omega) (by omega),Zpz];omega
  rw [e0,w64n (z:=D.e - ((80 - nd D.n:Nat):Int)) (by omega) (by omega)]
  have hpd:padR D=(80 - nd D.n)+((D.e - ((80 - nd D.n:Nat):Int)) % 2).toNat:=by unfold padR;rw [Zjg hn0]
  obtain ⟨y,hy⟩:∃ y,D.e - ((80 - nd D.n:Nat):Int)=y:=⟨_,rfl⟩
  rw [hy] at hpd ⊢
  have hpar:Int.tmod y 2=0 ↔ y % 2=0:=by
   rw [<- Int.dvd_iff_tmod_eq_zero,Int.dvd_iff_emod_eq_zero]
  by_cases hev:y % 2=0
  ·exact Tells.ifp (hpar.2 hev) (Zo9 hD hn0 (n:=80 - nd D.n) (by rw [hpd,hev];rfl))
  ·have e1:wrap64 (((80 - nd D.n:Nat):Int)+1)=((80 - nd D.n+1:Nat):Int):=by rw [w64n (by omega) (by omega)];omega
   rw [e1]
   exact Tells.ifn (fun h=>hev (hpar.1 h)) (Zo9 hD hn0 (n:=80 - nd D.n+1) (by rw [hpd];omega))
theorem Zpa {D:Dm} (hD:OkD D) (hneg:D.neg=true):Tells (fun k=>Zas.f k D.neg (limbs D.n) D.e) (false,[],0,4):=by
 unfold Zas.f
 exact (RCheck D hD).bind (Tells.ifp rfl (Tells.ifp hneg (Tells.pure _)))
section
variable {a b:Bool} {l m:List Int} {e g:Int} (hl:RawD l) (hm:RawD m)
include hl
theorem Zkq {α:Type} {f:Nat->Option α} {v:α} (h:¬ chk a l e=0):Tells (fun k=>(Ze.f k a l e).bind fun t=>if t=0 then f k else some v) v :=
 (Zea a l e hl.dg hl.len).bind (Tells.ifn h (Tells.pure _))
theorem SqrtX:∃ R:Dm × Int,nd R.1.n<=1000/\Tells (fun k=>Zbi.f k a l e) (outD R)/\Tells (fun k=>Zas.f k a l e) (outD R):=by
 by_cases h:chk a l e=0
 ·obtain ⟨D,hD,rfl,rfl,rfl⟩:=Zhf hl.dg h
  cases hs:D.neg
  ·have h1:=QSqrt hD hs
   have h2:=RSqrt hD hs
   rw [hs] at h1 h2
   exact ⟨sqrtD D,Nat.le_trans (Zry D) (by omega),h1,h2⟩
  ·have h1:=Zo5 hD hs
   have h2:=Zpa hD hs
   rw [hs] at h1 h2
   exact ⟨(zeroD,4),by decide,h1,h2⟩
 ·exact ⟨(zeroD,9),by decide,Zo4 hl.dg hl.len h,Zkq hl h⟩
theorem AbsX:∃ R:Dm × Int,nd R.1.n<=1000/\Tells (fun k=>Zfh.f k a l e) (outD R)/\Tells (fun k=>Zb0.f k a l e) (outD R):=by
 by_cases h:chk a l e=0
 ·obtain ⟨D,hD,rfl,rfl,rfl⟩:=Zhf hl.dg h
  exact ⟨(absD D,0),by have := (Zg3 hD).2.len;show nd (absD D).n<=1000;omega,QAbs hD,RAbs hD⟩
 ·refine ⟨(zeroD,9),by decide,?_,Zkq hl h⟩
  unfold Zfh.f
  refine (Zes a l e hl.dg hl.len).bind (Tells.ifn h ((Tells.pure _).val ?_))
  rcases Zpl a l e with h1|h1
  ·exact absurd h1 h
  ·rw [h1];rfl
theorem Zkf {D:Dm} {b:Bool}:nd (nearV D b).1.n<=1000:=by have := (Zlp ⟨D.neg,wholeN D+(if b then 1 else 0),0⟩).len;unfold nearV;omega
theorem FloorX:∃ R:Dm × Int,nd R.1.n<=1000/\Tells (fun k=>Zdz.f k a l e) (outD R)/\Tells (fun k=>Zbd.f k a l e) (outD R):=by
 by_cases h:chk a l e=0
 ·obtain ⟨D,hD,rfl,rfl,rfl⟩:=Zhf hl.dg h
  exact ⟨_,Zkf hl,QFloor hD,RFloor hD⟩
 ·refine ⟨(zeroD,9),by decide,?_,Zkq hl h⟩
  unfold Zdz.f
  exact (Zke hl h).bind (Tells.pure _)
theorem CeilX:∃ R:Dm × Int,nd R.1.n<=1000/\Tells (fun k=>Zeh.f k a l e) (outD R)/\Tells (fun k=>Zbg.f k a l e) (outD R):=by
 by_cases h:chk a l e=0
 ·obtain ⟨D,hD,rfl,rfl,rfl⟩:=Zhf hl.dg h
  exact ⟨_,Zkf hl,QCeil hD,RCeil hD⟩
 ·refine ⟨(zeroD,9),by decide,?_,Zkq hl h⟩
  unfold Zeh.f
  exact (Zke hl h).bind (Tells.pure _)
theorem RoundX:∃ R:Dm × Int,nd R.1.n<=1000/\Tells (fun k=>Zeb.f k a l e) (outD R)/\Tells (fun k=>Zcn.f k a l e) (outD R):=by
 by_cases h:chk a l e=0
 ·obtain ⟨D,hD,rfl,rfl,rfl⟩:=Zhf hl.dg h
  exact ⟨_,Zkf hl,QRoundH hD,RRound hD⟩
 ·refine ⟨(zeroD,9),by decide,?_,Zkq hl h⟩
  unfold Zeb.f
  exact (Zke hl h).bind (Tells.pure _)
include hm
theorem DivX:∃ R:Dm × Int,nd R.1.n<=1000/\Tells (fun k=>Za9.f k a l e b m g) (outD R)/\Tells (fun k=>Zbt.f k a l e b m g) (outD R):=by
 by_cases h:chk a l e=0/\chk b m g=0
 ·obtain ⟨D,hD,rfl,rfl,rfl⟩:=Zhf hl.dg h.1
  obtain ⟨E,hE,rfl,rfl,rfl⟩:=Zhf hm.dg h.2
  by_cases h0:E.n=0
  ·refine ⟨(zeroD,53),by decide,Zo3 hD hE h0,?_⟩
   unfold Zbt.f
   exact (RCheck D hD).bind (Tells.ifp rfl ((RCheck E hE).bind (Tells.ifp rfl (Tells.ifp (by rw [h0];rfl) (Tells.pure _)))))
  ·exact ⟨quotD D E,by have := Zrv D E h0;omega,QDiv hD hE h0,RDivT hD hE h0⟩
 ·refine ⟨(zeroD,9),by decide,Zq2 hl.dg hl.len hm.dg hm.len h,?_⟩
  unfold Zbt.f
  refine (Zea a l e hl.dg hl.len).bind ?_
  by_cases h1:chk a l e=0
  ·exact Tells.ifp h1 ((Zea b m g hm.dg hm.len).bind (Tells.ifn (fun h2=>h ⟨h1,h2⟩) (Tells.pure _)))
  ·exact Tells.ifn h1 (Tells.pure _)
theorem ModX:∃ R:Dm × Int,nd R.1.n<=1000/\Tells (fun k=>Zd0.f k a l e b m g) (outD R)/\Tells (fun k=>Zaw.f k a l e b m g) (outD R):=by
 by_cases h:chk a l e=0/\chk b m g=0
 ·obtain ⟨D,hD,rfl,rfl,rfl⟩:=Zhf hl.dg h.1
  obtain ⟨E,hE,rfl,rfl,rfl⟩:=Zhf hm.dg h.2
  refine ⟨modD D E,?_,QMod hD hE,RMod hD hE⟩
  unfold modD
  split
  ·decide
  ·have := (Zlp ⟨D.neg,wholeN D % wholeN E,0⟩).len;omega
 ·have hj:Tells (fun k=>Zaw.j0 k true a l e b m g) (false,[],0,9):=by
   refine Tells.succ ?_
   simp only [Zaw.j0]
   exact Tells.ifp trivial (Tells.pure _)
  refine ⟨(zeroD,9),by decide,?_,?_⟩
  ·have := Zh3 a l e b m g hl.dg hl.len hm.dg hm.len
   rw [if_neg h] at this
   unfold Zd0.f
   exact this.bind (Tells.ifn (by decide) (Tells.pure _))
  ·unfold Zaw.f
   refine (Zea a l e hl.dg hl.len).bind ?_
   by_cases h1:chk a l e=0
   ·refine Tells.ifp h1 ((Zea b m g hm.dg hm.len).bind ?_)
    rw [show (chk b m g != 0)=true from bne_iff_ne.2 (fun h2=>h ⟨h1,h2⟩)]
    exact hj
   ·exact Tells.ifn h1 hj
end
theorem Zim {a b:Bool} {l m:List Int} {e f:Int} (hl:RawD l) (hm:RawD m):Tells (fun k=>Zk.f k a l e b m f) true:=by
 obtain ⟨V,hV,v1,v2⟩:=DivX (a:=a) (b:=b) (e:=e) (g:=f) hl hm
 obtain ⟨M,hM,m1,m2⟩:=ModX (a:=a) (b:=b) (e:=e) (g:=f) hl hm
 obtain ⟨F,hF,f1,f2⟩:=FloorX (a:=a) (e:=e) hl
 obtain ⟨C,hC,c1,c2⟩:=CeilX (a:=a) (e:=e) hl
 obtain ⟨R,hR,r1,r2⟩:=RoundX (a:=a) (e:=e) hl
 obtain ⟨S,hS,s1,s2⟩:=SqrtX (a:=a) (e:=e) hl
 obtain ⟨A,hA,a1,a2⟩:=AbsX (a:=a) (e:=e) hl
 have hj:Tells (fun k=>Zk.j0 k false a l e) true:=by
  refine Tells.succ ?_
  simp only [Zk.j0]
  unfold Zaj.f
  refine Tells.ifn (by decide) (r1.bind (r2.bind (s1.bind (s2.bind (a1.bind (a2.bind ?_))))))
  exact (Zfb R.1 (by omega)).bind (Tells.ifp rfl ((Tells.pure _).bind (Tells.ifp rfl ((Zfb S.1 (by omega)).bind (Tells.ifp rfl ((Tells.pure _).bind (Tells.ifp rfl ((Zfb A.1 (by omega)).bind (Tells.ifp rfl ((Tells.pure _).bind (Tells.ifp rfl (alive03.bind (Tells.pure _)))))))))))))
 unfold Zk.f Zaj.f
 refine v1.bind (v2.bind (m1.bind (m2.bind (f1.bind (f2.bind (c1.bind (c2.bind ?_)))))))
 refine (Zfb V.1 (by omega)).bind (Tells.ifp rfl ((Tells.pure _).bind (Tells.ifp rfl ((Zfb M.1 (by omega)).bind (Tells.ifp rfl ((Tells.pure _).bind (Tells.ifp rfl ((Zfb F.1 (by omega)).bind (Tells.ifp rfl ((Tells.pure _).bind (Tells.ifp rfl ((Zfb C.1 (by omega)).bind (Tells.ifp rfl ((Tells.pure _).bind ?_))))))))))))))
 refine hj.congr fun k=>?_
 rw [show (((outD C).2.2.2:Int) != (outD C).2.2.2)=false from bne_self_eq_false _]
end YtjbjkmccfocikaaGreatDoor.P.Nm
end
section
namespace YtjbjkmccfocikaaGreatDoor.R
open Go.ChangeShapes Go.WideShapes Go.ChangeAt Go.RowKit Go.Joins YtjbjkmccfocikaaGreatDoorW.PrintWords YtjbjkmccfocikaaGreatDoor.P.Nm
theorem laidOut:laidOutB Tryz.prog=true:=by kernel_rfl
theorem cellsD:Tryz.prog.cellsOf 24=3:=by kernel_rfl
theorem cellsU:Tryz.prog.cellsOf 85=1:=by kernel_rfl
theorem wf32 {n:Int} (h:(Lit.int .u32 n).wf=true):0<=n/\n < 4294967296:=by
 have e1:IntKind.u32.min=0:=by decide
 have e2:IntKind.u32.max=4294967295:=by decide
 simp only [Lit.wf,e1,e2,Bool.and_eq_true,decide_eq_true_eq] at h
 omega
theorem Zok {H:Type} {enc:TypeId × Value->H} {W:World} {v:Value} {fuel:Nat} {x:DataW H × List MemPlace}
  (hf:DataW.trod enc Tryz.prog W 0 (fun _=>true) true fuel 22 [v]=some x) :
  ∃ (A:Option Addr) (c:Nat) (l:List Int),v=.slice A l.length c/\l.length<=c/\Kd.C (Kd.int .u32) W A l.length l/\RawD l/\((x.1=.nil/\l=[]) \/ ∃ spare,x.1=.slice (lits .u32 l) spare):=by
 rcases open_ints Tryz.underlying22 Tryz.underlying85 cellsU hf with ⟨hcs,hx⟩|⟨a,len,cap,zs,hcs,_,hl,hm,hz,hx,hcell,hwf⟩
 ·simp at hcs
  subst hcs hx
  exact ⟨none,0,[],rfl,Nat.le_refl _,Kd.Zhr (enc:=Value.int .u32) (d:=0) ⟨rfl,by simp,fun h=>absurd h (by simp)⟩,RawD.nil,.inl ⟨rfl,rfl⟩⟩
 ·simp at hcs
  subst hcs hx
  simp only [if_true] at hz
  have hlen:(zs.take len).length=len:=by simp;omega
  refine ⟨some a,cap,zs.take len,by rw [hlen],by omega,Kd.Zhr (enc:=Value.int .u32) (d:=0) ⟨rfl,by unfold maxLen at hm;simp;omega,fun _=>⟨a,rfl,fun j hj=>?_⟩⟩,⟨fun y hy=>wf32 (hwf y (List.mem_of_mem_take hy)),by unfold maxLen at hm;omega⟩,.inr ⟨_,rfl⟩⟩
  have hj':j < len:=by simp at hj;omega
  rw [hcell j (by omega)]
  simp [List.getD,List.getElem?_take_of_lt hj']
theorem bytesU:Tryz.prog.bytesOf 85=4:=by kernel_rfl
theorem Zl9 {H:Type} {x:DataW H} {l:List Int} (h:(x=.nil/\l=[]) \/ ∃ spare,x=.slice (lits .u32 l) spare) (hw:(x.weights Tryz.prog 22).all (· <= reachBytes)=true):l.length<=35184372087808:=by
 rcases h with ⟨rfl,rfl⟩|⟨sp,rfl⟩
 ·simp
 ·have := List.all_eq_true.1 hw (((lits .u32 l:List (DataW H)).length+sp.length)*Tryz.prog.bytesOf 85) (by simp [DataW.weights,Tryz.underlying22])
  rw [bytesU] at this
  have hl:(lits .u32 l:List (DataW H)).length=l.length:=by simp [lits]
  rw [hl] at this
  have hb:reachBytes=140737488351232:=by decide
  rw [decide_eq_true_eq,hb] at this
  omega
theorem Zns {H:Type} {enc:TypeId × Value->H} {W:World} {base:Nat} {v:Value} {d:DataW H} {p:List MemPlace} (hv:Value.okWide Tryz.prog W .any base 24 v)
  (h:DataW.Trod enc Tryz.prog W 0 (fun _=>true) true 24 v d p) :
  ∃ (n:Bool) (A:Option Addr) (c:Nat) (l:List Int) (e:Int),v=.agg #[.bool n,.slice A l.length c,.int .i64 e]/\l.length<=c/\Kd.C (Kd.int .u32) W A l.length l/\RawD l/\(Lit.int .i64 e).wf=true /\
   ((d.weights Tryz.prog 24).all (· <= reachBytes)=true->l.length<=35184372087808):=by
 obtain ⟨c0,c1,c2,y0,y1,y2,m,rfl,rfl,rfl,hy0,hy1,hy2⟩:=open_agg3 Tryz.underlying24 (by kernel_rfl) cellsD hv h
 obtain ⟨n,e0,_⟩:=DataW.trod_bool Tryz.underlying4 hy0
 obtain ⟨A,c,l,e1,h1,h2,h3,h4⟩:=Zok hy1
 obtain ⟨e,e2,_,we⟩:=DataW.trod_int Tryz.underlying3 hy2
 simp at e0 e2
 subst e0 e1 e2
 refine ⟨n,A,c,l,e,rfl,h1,h2,h3,we,fun hw=>Zl9 h4 (List.all_eq_true.2 fun z hz=>List.all_eq_true.1 hw z ?_)⟩
 simp only [DataW.weights,Tryz.underlying24,List.map_cons,List.map_nil,DataW.weightsEach,List.mem_append]
 exact .inr (.inl hz)
end YtjbjkmccfocikaaGreatDoor.R
end
end Go.Proofs
