/- QuotTells, part 3 of 7 of its proof (no condition); names with a low line are shortened throughout. -/
import Derived.Test.YtjbjkmccfocikaaGreatDoorZQuotTells1
import Derived.RangeFuncWrites
import Derived.RangeFuncBox
import Derived.Test.YtjbjkmccfocikaaGreatDoorProg
import Derived.OrdersIn
import Derived.StillTail
import Derived.StillTactics
import Derived.Deep.Quiet
import Derived.Deep.QuietTactic
import Derived.BigQuiet
import Derived.OwnWalkIn
import Derived.RangeFuncCalls
import Derived.OrdersHeld
import Derived.Deep.RegionHeld3
import Derived.RangeFuncNested
import Derived.RangeFuncBound
import Derived.RangeFuncLeaves
import Derived.Shelf.Abstract
import Derived.Shelf.RegionOpen
import Derived.WalkKit
import Derived.TacticsInMore
import Derived.LoopNIn
import Derived.LoopIn
import Derived.Outline
import Derived.Deep.RegionHeld
import Derived.Lib.Hide
import Derived.Laws.BitsAllLaws
import Derived.WalkSpells
import Derived.Lib.BitFns
set_option linter.unusedVariables false
set_option linter.unusedSimpArgs false
set_option maxRecDepth 100000
set_option maxHeartbeats 8000000
namespace Go.Proofs
section
namespace YtjbjkmccfocikaaGreatDoor.B
open Go.RowKit
def Minds {β:Type} (b:Nat) (J:β->World->Prop):Prop:=∀ s W v,J s W->J s (W.setCell ⟨b,0,none⟩ v)
def SeqCell {α:Type} (F:Fence) (n:Nat) (P:Program) (g:Nat) (lb:Array Value) (encs:α->Array Value) (Kp:World->World->Prop) (S Sp:List α->Prop) (N b:Nat) (w:World):Prop :=
 ∀ (l:Nat) (J Jx:List α->World->Prop) (W:World),Below w.heap.size w W->AbidesFrom W.heap.size J->AbidesFrom W.heap.size Jx->Minds b J ->
  (∀ pre x W1,J pre W1->pre.length < N->Sp (pre ++ [x])->YieldAt F (n - 1) P l (encs x) W1 fun e W' =>
   (e=.returned (.bool true)/\J (pre ++ [x]) W'/\Kp W1 W')\/(e=.returned (.bool false)/\Jx (pre ++ [x]) W')) ->
  J [] W ->
  CallsIn F n P g (#[.func (.yield l) #[] #[]]++lb) W fun e W'=>(∃ v,e=.returned v)/\((∃ xs,S xs/\J xs W')\/(∃ pre,Sp pre/\Jx pre W'))
theorem Zbm (w:World) (b:Nat) (v:Value) (k:Nat) (h:k ≠ b):(w.setCell ⟨b,0,none⟩ v).heap[k]? = w.heap[k]?:=Below.heap_setCell _ _ _ _ h
def Recs (at_:Nat) (L:Loop) (W:World):Prop:=W.heap[at_+1]? = some (.loop L)/\W.heap[at_]? = some (.deferred (some []))
theorem Recs.grown {at_:Nat} {L:Loop} {A B:World} {row:Option Nat} (h:Recs at_ L A) (hg:A.grownBy B row) (hr:∀ r,row=some r -> ∃ o:Obj,A.heap[r]? = some o/\o.isWalk=true):Recs at_ L B :=
 ⟨(grownBy_keeps hg hr h.1 rfl).trans h.1,(grownBy_keeps hg hr h.2 rfl).trans h.2⟩
theorem Recs.set {at_ b:Nat} {L:Loop} {W:World} (h:Recs at_ L W) (hb:b < at_) (v:Value):Recs at_ L (W.setCell ⟨b,0,none⟩ v) :=
 ⟨(Zbm W b v _ (by omega)).trans h.1,(Zbm W b v _ (by omega)).trans h.2⟩
theorem Recs.lt {at_:Nat} {L:Loop} {W:World} (h:Recs at_ L W):at_+1 < W.heap.size:=(Array.getElem?_eq_some_iff.1 h.1).1
theorem Recs.put {at_:Nat} {L:Loop} {W:World} (h:Recs at_ L W) (L':Loop):Recs at_ L' (W.putObj (at_+1) (.loop L')) :=
 ⟨World.putObj_heap_same h.lt,(World.putObj_heap_other (by omega)).trans h.2⟩
theorem Recs.keeps {at_:Nat} {L:Loop} {A B:World} (h:Recs at_ L A) (k:KeepsFrom at_ A B):Recs at_ L B :=
 ⟨k.same _ _ (by omega) h.1 rfl,k.same _ _ (Nat.le_refl _) h.2 rfl⟩
variable {F:Fence} {n:Nat} {P:Program}
theorem Zd9 {α:Type} {g:Operand} {ps:Array Tmp} {assign body:Code} {Q:Exit->Act->World->Prop} {a:Act} {w:World}
  (hro:F.round=none) (h1:1<=n) {gf:Nat} {lb:Array Value} (hg:a.eval g=.func (.func gf) #[] lb) (hFg:F.fn gf) (eg:∀ args w,(callFunc gf args).run P w=.ok (.enter gf args) w)
  {encs:α->Array Value} {Kp:World->World->Prop} {S Sp:List α->Prop} {N b:Nat} {w0:World} (hseq:SeqCell F (n - 1) P gf lb encs Kp S Sp N b w0) (hb:b < w.heap.size)
  (hKt:∀ {A B C:World},Kp A B->Kp B C->Kp A C) (hKb:∀ (W:World) (l:Nat) (o o':Obj),w.heap.size<=l->W.heap[l]? = some o->o.isCells=false->o.isWalk=false->Kp W (W.putObj l o')) (hb0:Below w0.heap.size w0 w) (hps:∀ x,(encs x).size=ps.size)
  (I:List α->World->Prop) (Ix:Code->List α->World->Prop) (hI:OwnFrom w.heap.size I) (hIx:∀ c,OwnFrom w.heap.size (Ix c)) (hIm:Minds b I) (h0:I [] w) (a₁:α->Act)
  (hassign:∀ (l:Nat) (x:α) (W:World) (K:Act->World->Prop),K (a₁ x) W ->
   assign.wpIn (F.inRound l) (n - 1 - 1) P (Exit.then K (fun _ _ _=>False)) { tmps:=(ps.zip (encs x)).foldl (fun t (p,v)=>t.setIfInBounds p v) a.tmps,defers:=[] } W)
  (hbody:∀ (l:Nat) (pre:List α) (x:α) (W:World),I pre W->pre.length < N->Sp (pre ++ [x])->body.wpIn (F.inRound l) (n - 1 - 1) P (ownPostG w.heap.size Kp I Ix (pre ++ [x]) W) (a₁ x) W)
  (hdone:∀ (D:Nat) (xs:List α) (W:World),w.heap.size<=D->S xs->I xs W->W.heap[D]? = some (.deferred (some []))->Q .normal { a with defers:={ target:=.collected D,args:=#[] } :: a.defers } W)
  (hstop:∀ (D:Nat) (c:Code) (pre:List α) (W:World),w.heap.size<=D->Sp pre->Ix c pre W->W.heap[D]? = some (.deferred (some []))->c.wpIn F n P Q { a with defers:={ target:=.collected D,args:=#[] } :: a.defers } W) :
  (Code.rangeFunc g ps assign body).wpIn F n P Q a w:=by
 refine wpIn_rangeFunc fun fn hfn=>?_
 rw [hro]
 let R:LoopState->Option Code->Loop:=fun st pe=>{ state:=st,pending:=pe,fn,tmps:=a.tmps,params:=ps,assign,body,defers:=w.heap.size }
 have key:∃ W1,(w.alloc (.deferred (some []))).alloc (.loop (R .ready none))=W1/\Recs w.heap.size (R .ready none) W1/\I [] W1/\Below w0.heap.size w0 W1/\w.heap.size<=W1.heap.size:=by
  refine ⟨_,rfl,⟨?_,?_⟩,hI.alloc _ (hI.alloc _ h0),?_,by simp;omega⟩
  ·have := World.alloc_heap_new (w.alloc (.deferred (some []))) (.loop (R .ready none))
   rwa [World.size_alloc] at this
  ·exact (Below.heap_alloc _ _ _ (by simp)).trans (World.alloc_heap_new w _)
  ·exact hb0.trans ((((Below.refl _ w).alloc (Nat.le_refl _) _).alloc (by simp) _).mono hb0.size)
 obtain ⟨W1,e1,r1,i1,b1,z1⟩:=key
 have walks:∀ {A:World} {row:Option Nat},(∀ r,row=some r->W1.heap.size<=r /\ ∃ o:Obj,A.heap[r]? = some o/\o.isWalk=true) -> ∀ r,row=some r->w.heap.size<=r /\ ∃ o:Obj,A.heap[r]? = some o/\o.isCells=false :=
  fun hr r e=>by obtain ⟨h,o,ho,hw⟩:=hr r e;exact ⟨Nat.le_trans z1 h,o,ho,Obj.not_cells_of_walk hw⟩
 refine ⟨w.heap.size+1,[{ target:=.collected w.heap.size,args:=#[] }],W1,{ target:=.fn (.func gf) lb,args:=#[.func (.yield (w.heap.size+1)) #[] #[]] },W1,gf,
  #[.func (.yield (w.heap.size+1)) #[] #[]]++lb,W1,by rw [<- e1];exact run_enterLoop_outer _ _ _ _ _,by simp only [resolve,hg];simp [go_sem],fun f' hf'=>by simp [Target.leads] at hf';subst hf';exact hFg,by simp [invoke,go_sem,eg],fun _=>h1,?_⟩
 refine (hseq (w.heap.size+1) (fun pre W=>I pre W/\Recs w.heap.size (R .ready none) W) (fun pre W => ∃ c,Ix c pre W/\Recs w.heap.size (R .done (some c)) W) W1 b1
  (fun s A B row hs hg' hr=>⟨hI s A B row hs.1 hg' (walks hr),hs.2.grown hg' (fun r e=>(hr r e).2)⟩)
  (fun s A B row hs hg' hr=>by obtain ⟨c,hc,hl⟩:=hs;exact ⟨c,hIx c s A B row hc hg' (walks hr),hl.grown hg' (fun r e=>(hr r e).2)⟩)
  (fun s W v hs=>⟨hIm s W v hs.1,hs.2.set hb v⟩) ?round ⟨i1,r1⟩).mono ?behind
 case round =>
  rintro pre x W ⟨hi,hr⟩ hlen hsp
  refine ⟨fn,_,assign,body,run_yield (P:=P) (args:=encs x) hr.1 (hps x),roundIn_of_wpIn hfn (hassign _ x W _ ⟨_,run_beginRound hr.1 rfl,?_⟩)⟩
  have hr2:Recs w.heap.size { R .ready none with state:=.busy } (W.putObj (w.heap.size+1) (.loop { R .ready none with state:=.busy })):=hr.put _
  have hw2:Kp W (W.putObj (w.heap.size+1) (.loop { R .ready none with state:=.busy })):=hKb _ _ _ _ (by omega) hr.1 rfl rfl
  refine wpIn_mono (hbody _ pre x _ (hI.putObj _ hi (by omega) hr.1 rfl) hlen hsp) ?_
  rintro e a3 W3 hp
  have left:∀ (c:Code),KeepsFrom w.heap.size (W.putObj (w.heap.size+1) (.loop { R .ready none with state:=.busy })) W3->Ix c (pre ++ [x]) W3 ->
    ∃ v W',(Instr.endRound (w.heap.size+1) (some c)).run P W3=.ok v W'/\(v=.bool false /\ ∃ c',Ix c' (pre ++ [x]) W'/\Recs w.heap.size (R .done (some c')) W'):=fun c hk hx =>
   ⟨_,_,run_endRound (P:=P) (some c) (hr2.keeps hk).1,rfl,c,(hIx c).putObj _ hx (by omega) (hr2.keeps hk).1 rfl,(hr2.keeps hk).put _⟩
  cases e with
  | normal =>
   obtain ⟨hk,hkp,hi3⟩:=hp
   exact ⟨_,_,run_endRound (P:=P) none (hr2.keeps hk).1,.inl ⟨rfl,⟨hI.putObj _ hi3 (by omega) (hr2.keeps hk).1 rfl,(hr2.keeps hk).put _⟩,hKt (hKt hw2 hkp) (hKb _ _ _ _ (by omega) (hr2.keeps hk).1 rfl rfl)⟩⟩
  | ret=>obtain ⟨v,W',q,rfl,h⟩:=left .ret hp.1 hp.2;exact ⟨_,_,q,.inr ⟨rfl,h⟩⟩
  | exit id=>obtain ⟨v,W',q,rfl,h⟩:=left (.exit id) hp.1 hp.2;exact ⟨_,_,q,.inr ⟨rfl,h⟩⟩
  | goto t=>obtain ⟨v,W',q,rfl,h⟩:=left (.goto t) hp.1 hp.2;exact ⟨_,_,q,.inr ⟨rfl,h⟩⟩
  | panic ch=>exact hp.elim
  | outgrown=>exact hp.elim
 case behind =>
  rintro e W2 ⟨⟨v,rfl⟩,(⟨xs,hS,hi,hr⟩|⟨pre,hSp,c,hi,hr⟩)⟩
  ·exact ⟨none,_,run_endLoop (P:=P) hr.1 (by simp [R]),hdone _ xs _ (Nat.le_refl _) hS (hI.putObj _ hi (by omega) hr.1 rfl) (hr.put _).2⟩
  ·exact ⟨some c,_,run_endLoop (P:=P) hr.1 (by simp [R]),hstop _ c pre _ (Nat.le_refl _) hSp ((hIx c).putObj _ hi (by omega) hr.1 rfl) (hr.put _).2⟩
def noDefer (ops:Array Oper):Bool:=ops.all fun o=>match o.op with | .defer _=>false|_=>true
theorem Zli {ops:Array Oper} (h:noDefer ops=true) {i:Nat} {o:Oper} (ho:ops[i]? = some o):∀ c,o.op ≠ .defer c:=by
 intro c hc
 unfold noDefer at h
 rw [Array.all_eq_true_iff_forall_mem] at h
 have := h o (Array.mem_of_getElem? ho)
 rw [hc] at this
 cases this
variable {P:Program} {ops:Array Oper} {Q:Exit->Act->World->Prop} {md:Region.Mode}
theorem Zlu {r n i:Nat} {K K':Act->World->Prop} {a:Act} {w:World} (hd:noDefer ops=true) (hL:¬ LetsOut Q) (hK:∀ a w,K a w->K' a w) (h:wpOp P ops Q i K a w) :
  wpOpIn (Fence.wide.inRound r) n P ops Q i K' a w:=by
 unfold wpOp at h
 unfold wpOpIn
 cases ho:ops[i]? with
 | none=>simp only [ho] at h ⊢;exact hK _ _ h
 | some o =>
  simp only [ho] at h ⊢
  split
  ·rename_i hw
   simp only [hw,if_true] at h
   have h:=h.resolve_right (fun hx=>hL hx.2)
   refine ⟨fun _ _=>trivial,?_⟩
   rw [Oper.semAt_plain _ _ _ (Zli hd ho)]
   unfold Oper.wp at h
   generalize (execOp a.eval o).run P w=x at *
   cases x with
   | ok v w' =>
    cases v <;> simp only [Oper.upon] at h <;> simp only [Oper.uponIn]
    case value u=>exact hK _ _ h
    case skip=>exact hK _ _ h
    case defer d=>exact hK _ _ h
    case enter f args =>
     refine ⟨fun e=>(by cases e),?_⟩
     refine CallsIn.inRound r (callsIn_wide.2 (h.mono fun e w'' he=>?_))
     cases e with
     | returned v=>exact hK _ _ he
     | panicked c=>exact he
     | outgrown=>exact he
    case row row args =>
     refine ⟨fun e=>(by cases e),fun c cs _=>?_⟩
     obtain ⟨v,w'',hr,hs⟩:=h c cs
     exact ⟨v,w'',hK _ _ hr,stepsIn_wide.2 hs⟩
   | halt x w'=>cases x <;> simp only [Oper.upon] at h <;> simp only [Oper.uponIn] <;> exact h
  ·rename_i hw
   simp only [hw] at h
   exact ⟨fun _ _=>trivial,hK _ _ h⟩
theorem Ze7 {r n:Nat} (hd:noDefer ops=true) (hL:¬ LetsOut Q):∀ (fuel:Nat) (listed:Array Bool) (a:Act) (w:World),wpAny P md ops Q fuel listed a w->wpAnyIn (Fence.wide.inRound r) n P md ops Q fuel listed a w
 | 0,_,_,_,h=>h
 | fuel+1,_,_,_,h=>⟨h.1,fun i hi=>Zlu hd hL (fun a w=>Ze7 hd hL fuel _ a w) (h.2 i hi)⟩
theorem Zgr {r m id:Nat} {a:Act} {w:World} {l:List Oper} (n:Nat) (hm:P.follows .mixedOrders=true) (hd:noDefer l.toArray=true) (hL:¬ LetsOut Q) (hB:Region.lexTailB .any l.toArray n=true)
  (h:wpStill P l.toArray { w with drawn:=w.drawn+1 } (fun a'=>wpList P l.toArray Q (l.drop n) a' { w with drawn:=w.drawn+1 }) (l.take n) a):(Code.region id l.toArray true).wpIn (Fence.wide.inRound r) m P Q a w:=by
 simp only [Region.lexTailB,Bool.and_eq_true,decide_eq_true_eq] at hB
 obtain ⟨⟨⟨⟨hsel,hn⟩,hs⟩,hc⟩,hlex⟩:=hB
 have hn':n < l.length:=by simpa using hn
 have htl:(l.take n).length=n:=by simp;omega
 have hdl:(l.drop n).length=l.toArray.size - n:=by simp
 have inv0:HeadInv .any l.toArray n (Array.replicate l.toArray.size false) :=
  ⟨by simp,fun j oj _ hl=>(by rw [getD_replicate_false] at hl;cases hl),fun t _ ht=>getD_in (by simpa using ht) (getD_replicate_false _ _)⟩
 have H:=wpAnyL_lex (md:=.any) (g:=l.toArray.size - n) hsel hs hc hn (l.take n) 0 _ a (fun j hj=>by
  have hj':j < n:=by rw [htl] at hj;exact hj
  simp [hj']) (by simpa using htl) inv0 (by rw [htl];exact hlex) h
 refine wpIn_region_any hm (Ze7 hd hL _ _ _ _ ?_)
 have := wpAny_of_head (Q':=Q) (g:=l.toArray.size - n) (fun listed a' hL=>by
  have := wpAny_of_seq (md:=.any) (Q':=Q) (l.drop n) n listed a' { w with drawn:=w.drawn+1 } (fun j=>by simp [List.getElem?_drop]) (by rw [hdl];exact hL.1) hL.2
  rwa [hdl] at this) _ _ _ H
 rw [htl,show n+(l.toArray.size - n)=l.toArray.size by omega] at this
 exact this
theorem Ze1 {r m id:Nat} {a:Act} {w:World} {l:List Oper} (hm:P.follows .mixedOrders=true) (hd:noDefer l.toArray=true) (hL:¬ LetsOut Q) (hB:Region.lexB .any l.toArray=true)
  (h:wpQuiet P l.toArray (fun w' => ∃ n,w'=w.drewN n) (fun a' => ∀ w',(∃ n,w'=w.drewN n)->Q .normal a' w') l a):(Code.region id l.toArray true).wpIn (Fence.wide.inRound r) m P Q a w:=by
 simp only [Region.lexB,Bool.and_eq_true] at hB
 refine wpIn_region_any hm (Ze7 hd hL _ _ _ _ (wpAny_of_quiet (C:=fun w' => ∃ n,w'=w.drewN n) (Q:=fun a' => ∀ w',(∃ n,w'=w.drewN n)->Q .normal a' w') (fun _ w' hw' h=>h w' hw') _ _ _ _ ⟨1,rfl⟩ ?_))
 have := wpAnyQ_lex (C:=fun w' => ∃ n,w'=w.drewN n) (md:=.any) hB.1 l 0 (Array.replicate l.length false) a (by simp) (by simpa using hB.2) h
 simpa using this
section
variable {C:World->Prop}
end
section
variable {S:World->Prop}
theorem Zqc {i fuel:Nat} {o:Oper} {v:Value} {listed:Array Bool} {a:Act} {w w':World} (hr:Region.ready md ops listed=[i]) (ho:ops[i]? = some o) (hw:Region.wanted o (yielded ops a.tmps)=true)
  (hrun:(execOp a.eval o).run P w=.ok (.value v) w') (hS:S w') (h:wpAnyH P md ops Q S fuel (listed.setIfInBounds i true) (a.put o.dst v) w'):wpAnyH P md ops Q S (fuel+1) listed a w :=
 wpAnyH_all hr (by simp) fun j hj=>by
  obtain rfl:=List.mem_singleton.1 hj
  unfold wpOp
  simp only [ho,hw,if_true]
  refine .inl ?_
  unfold Oper.wp
  rw [hrun]
  exact ⟨hS,h⟩
theorem Znr {i fuel:Nat} {o:Oper} {listed:Array Bool} {a:Act} {w w':World} (hr:Region.ready md ops listed=[i]) (ho:ops[i]? = some o) (hw:Region.wanted o (yielded ops a.tmps)=true)
  (hrun:(execOp a.eval o).run P w=.ok .skip w') (hS:S w') (h:wpAnyH P md ops Q S fuel (listed.setIfInBounds i true) (a.put o.dst undef) w'):wpAnyH P md ops Q S (fuel+1) listed a w :=
 wpAnyH_all hr (by simp) fun j hj=>by
  obtain rfl:=List.mem_singleton.1 hj
  unfold wpOp
  simp only [ho,hw,if_true]
  refine .inl ?_
  unfold Oper.wp
  rw [hrun]
  exact ⟨hS,h⟩
theorem Zhg {i fuel:Nat} {o:Oper} {f:FuncId} {args:Array Value} {listed:Array Bool} {a:Act} {w:World} (hr:Region.ready md ops listed=[i]) (ho:ops[i]? = some o) (hw:Region.wanted o (yielded ops a.tmps)=true)
  (hrun:(execOp a.eval o).run P w=.ok (.enter f args) w) {R:Ending->World->Prop} (hc:Calls P f args w R) (h:∀ e w',R e w' -> ∃ v,e=.returned v/\S w'/\wpAnyH P md ops Q S fuel (listed.setIfInBounds i true) (a.put o.dst v) w'):wpAnyH P md ops Q S (fuel+1) listed a w :=
 wpAnyH_all hr (by simp) fun j hj=>by
  obtain rfl:=List.mem_singleton.1 hj
  unfold wpOp
  simp only [ho,hw,if_true]
  refine .inl ?_
  unfold Oper.wp
  rw [hrun]
  exact hc.mono fun e w' he=>by obtain ⟨v,rfl,hh⟩:=h e w' he;exact hh
theorem Zg1 {m id:Nat} {a:Act} {w:World} {l:List Oper} (S:World->Prop) (hm:P.follows .mixedOrders=true)
  (h:wpAnyH P .any l.toArray (NoPanic Q) S l.length (Array.replicate l.length false) a { w with drawn:=w.drawn+1 }):(Code.region id l.toArray true).wpIn Fence.wide m P Q a w :=
 wpIn_wide.2 (wp_region_noPanic (wp_region_any hm (wpAny_of_held (S:=S) _ _ _ _ (by simpa using h))))
end
end YtjbjkmccfocikaaGreatDoor.B
end
section
namespace YtjbjkmccfocikaaGreatDoor.B
open Go.RowKit Go.Shelf YtjbjkmccfocikaaGreatDoorW.PrintWords
attribute [local go_sem] Oper.semAt_some
theorem Zf1 {P:Program} {f:FuncId} {args:Array Value} {w:World} {n:Nat} {v:Value} (h:Calls P f args (w.drewN n) fun e w'=>e=.returned v/\Drawn0 (w.drewN n) w'):Calls P f args (w.drewN n) fun e w''=>e=.returned v /\ ∃ m,w''=w.drewN m :=
 h.mono fun _ _ ⟨he,hd⟩=>⟨he,by obtain ⟨m,hm⟩:=hd.out;exact ⟨n+m,by rw [hm,World.drewN_drewN]⟩⟩
theorem Zq9 {W:World} {b t:Nat} {v:Value} (h:Boxed W b t v) (n:Nat):Boxed (W.drewN n) b t v:=h
theorem Zms (W:World) (n:Nat):(W.drewN n).heap.size=W.heap.size:=rfl
theorem Zt8 (b o j:Nat):(⟨b,o,none⟩:Addr).add j=⟨b,o+j,none⟩:=by unfold Addr.add;split <;> simp_all
theorem Zj4 {w:World} {ad:Addr} {v:Value} (h:w.cell? ad=some v):∃ b o,ad=⟨b,o,none⟩:=by
 obtain ⟨b,o,s⟩:=ad
 cases s with
 | none=>exact ⟨b,o,rfl⟩
 | some s =>
  unfold World.cell? at h
  split at h
  ·simp at h
  ·cases h
abbrev bkEnc (p:Nat × Int):Array Value:=#[.int .i64 p.1,.int .u32 p.2]
def RdW (A:Option Addr) (m:Nat) (Rd:Nat->Int->Prop) (W:World):Prop:=m=0 \/ ∃ b o,A=some ⟨b,o,none⟩ /\ ∀ j,j < m -> ∃ x,W.cell? ⟨b,o+j,none⟩=some (.int .u32 x)/\Rd j x
def BkP (Rd:Nat->Int->Prop) (m:Nat) (ys:List (Nat × Int)):Prop:=ys.length<=m /\ ∀ k x,ys[k]? = some x->x.1=m - 1 - k/\Rd x.1 x.2
def KpB (Bs:Nat) (A:Option Addr) (m:Nat) (Rd:Nat->Int->Prop) (W W':World):Prop:=W'.heap[Bs]? = W.heap[Bs]? /\ (RdW A m Rd W->RdW A m Rd W')
theorem RdW.below {A:Option Addr} {m:Nat} {Rd:Nat->Int->Prop} {W W':World} (h:RdW A m Rd W) (hb:Below W.heap.size W W'):RdW A m Rd W':=by
 rcases h with h|⟨b,o,hA,h⟩
 ·exact .inl h
 ·refine .inr ⟨b,o,hA,fun j hj=>?_⟩
  obtain ⟨x,hx,hr⟩:=h j hj
  exact ⟨x,Zdg hb hx,hr⟩
theorem RdW.at {A:Option Addr} {m:Nat} {Rd:Nat->Int->Prop} {W:World} (h:RdW A m Rd W) {j:Nat} (hj:j < m):∃ b o x,A=some ⟨b,o,none⟩/\W.cell? ⟨b,o+j,none⟩=some (.int .u32 x)/\Rd j x:=by
 obtain ⟨b,o,hA,h⟩:=h.resolve_left (by omega)
 obtain ⟨x,hx,hr⟩:=h j hj
 exact ⟨b,o,x,hA,hx,hr⟩
theorem RdW.grown {A:Option Addr} {m:Nat} {Rd:Nat->Int->Prop} {W W':World} {row:Option Nat} (h:RdW A m Rd W) (hg:W.grownBy W' row) (hr:∀ r,row=some r -> ∃ o:Obj,W.heap[r]? = some o/\o.isCells=false):RdW A m Rd W':=by
 rcases h with h|⟨b,o,hA,h⟩
 ·exact .inl h
 ·refine .inr ⟨b,o,hA,fun j hj=>?_⟩
  obtain ⟨x,hx,hrd⟩:=h j hj
  exact ⟨x,cell_kept hx hg hr,hrd⟩
theorem KpB.trans {Bs:Nat} {A:Option Addr} {m:Nat} {Rd:Nat->Int->Prop} {X Y Z:World} (h:KpB Bs A m Rd X Y) (k:KpB Bs A m Rd Y Z):KpB Bs A m Rd X Z:=⟨k.1.trans h.1,fun x=>k.2 (h.2 x)⟩
theorem KpB.put {Bs:Nat} {A:Option Addr} {m:Nat} {Rd:Nat->Int->Prop} {W:World} {l:Nat} {o o':Obj} (hl:Bs ≠ l) (ho:W.heap[l]? = some o) (hc:o.isCells=false):KpB Bs A m Rd W (W.putObj l o') :=
 ⟨World.putObj_heap_other hl,fun h=>h.grown (grownBy_putObj' W l o') (fun r e=>by cases e;exact ⟨o,ho,hc⟩)⟩
theorem BkP.snoc {Rd:Nat->Int->Prop} {m:Nat} {pre:List (Nat × Int)} {x:Int} (h:BkP Rd m pre) (hl:pre.length < m) (hx:Rd (m - 1 - pre.length) x):BkP Rd m (pre ++ [(m - 1 - pre.length,x)]):=by
 refine ⟨by simp;omega,fun k y hy=>?_⟩
 rcases Nat.lt_trichotomy k pre.length with h1|h1|h1
 ·rw [List.getElem?_append_left h1] at hy;exact h.2 k y hy
 ·subst h1
  rw [List.getElem?_append_right (Nat.le_refl _),Nat.sub_self] at hy
  obtain rfl:=Option.some.inj hy
  exact ⟨rfl,hx⟩
 ·rw [List.getElem?_eq_none (by simp;omega)] at hy;cases hy
theorem Zl0 (w:World) (A:Option Addr) (m c:Nat) (n:Nat) :
  CallsIn Fence.wide n Tryz.prog 158 #[.slice A m c] w fun e w'=>e=.returned (.func (.func 184) #[] #[.pointer (some ⟨w.heap.size,0,none⟩)])/\w'=w.alloc (.cells #[.slice A m c] 134):=by
 refine callsIn_of_wp Tryz.func158 rfl trivial ?_ rfl
 simp only [Tryz.ntmps158,List.size_toArray,List.length_cons,List.length_nil,Nat.reduceAdd,Nat.reduceSub,Array.replicate_succ,Array.replicate_zero,List.push_toArray,List.append_toArray,List.nil_append,List.cons_append]
 gi_wp2
 go_ret
 exact ⟨rfl,rfl⟩
theorem Zq7 (n:Nat) (hn:1<=n) (l Bs:Nat) (A:Option Addr) (m c:Nat) (Rd:Nat->Int->Prop) (hm:m<=9223372036854775807) (J Jx:List (Nat × Int)->World->Prop)
  (W:World) (hJ:AbidesFrom W.heap.size J)
  (hY:∀ pre x W1,J pre W1->pre.length < m->BkP Rd m (pre ++ [x])->YieldAt Fence.wide (n - 1) Tryz.prog l (bkEnc x) W1 fun e W' =>
   (e=.returned (.bool true)/\J (pre ++ [x]) W'/\KpB Bs A m Rd W1 W')\/(e=.returned (.bool false)/\Jx (pre ++ [x]) W'))
  (hBs:Boxed W Bs 134 (.slice A m c)) (hR:RdW A m Rd W) (h0:J [] W) :
  CallsIn Fence.wide n Tryz.prog 184 #[.func (.yield l) #[] #[],.pointer (some ⟨Bs,0,none⟩)] W fun e W'=>(∃ v,e=.returned v) /\
   ((∃ ys,(BkP Rd m ys/\ys.length=m)/\J ys W')\/(∃ pre,BkP Rd m pre/\Jx pre W')):=by
 have hc0:=hBs.cell
 have HBs:=Lib.hid hBs
 have HJ:=Lib.hid hJ
 have HY:=Lib.hid hY
 clear hBs hJ hY
 refine callsIn_of_wp Tryz.func184 rfl trivial ?_ rfl
 simp only [Tryz.ntmps184,List.size_toArray,List.length_cons,List.length_nil,Nat.reduceAdd,Nat.reduceSub,Array.replicate_succ,Array.replicate_zero,List.push_toArray,List.append_toArray,List.nil_append,List.cons_append]
 gi_wp2
 gi_loopw [3] (fun i wr => ∃ pre:List (Nat × Int),i=.int .i64 ((m:Int) - 1 - (pre.length:Int))/\BkP Rd m pre/\Boxed wr Bs 134 (.slice A m c)/\RdW A m Rd wr/\J pre wr)
  (fun i _=>(intOf i+1).toNat)
 case atStart=>exact ⟨[],by simp,⟨Nat.zero_le _,fun k x h=>by simp at h⟩,HBs.out,hR,h0⟩
 case round =>
  obtain ⟨pre,rfl,hp,hb,hr,hj⟩:=hrel
  have hle:=hp.1
  have hc1:=hb.cell
  have HP:=Lib.hid hp
  have HB:=Lib.hid hb
  clear hp hb hc0 hR
  obtain ⟨k,hk⟩:∃ k,pre.length=k:=⟨_,rfl⟩
  rw [hk] at hle ⊢
  by_cases hlt:k < m
  ·have hlt':(0:Int)<=(m:Int) - 1 - (k:Int):=by omega
   obtain ⟨b,o,rfl,hcs⟩:∃ b o,A=some ⟨b,o,none⟩ /\ ∀ j,j < m -> ∃ x,wr.cell? ⟨b,o+j,none⟩=some (.int .u32 x)/\Rd j x:=hr.resolve_left (by omega)
   obtain ⟨x,hx,hrd⟩:=hcs (m - 1 - k) (by omega)
   have hsn:=HP.out.snoc (by omega) (by rw [hk];exact hrd)
   rw [hk] at hsn
   obtain ⟨fn,tmps,assign,body,hy,hRr⟩:=HY.out pre (m - 1 - k,x) wr hj (by omega) hsn
   obtain ⟨i,hi⟩:∃ i:Nat,m - 1 - k=i:=⟨_,rfl⟩
   have hi':(m:Int) - 1 - (k:Int)=(i:Int):=by omega
   rw [hi] at hx hy hsn hRr
   rw [hi']
   have hx0:(0:Int)<=(i:Int):=by omega
   have hx1:(i:Int) < (m:Int):=by omega
   have HI:=Lib.hid hi'
   have HK:=Lib.hid hk
   have HSn:=Lib.hid hsn
   have HRr:=Lib.hid hr
   clear hi' hi hk hlt' hsn hr hcs hrd
   dsimp only [bkEnc] at hy
   gi_wp2
   refine hRr.mono ?_
   rintro e W3 (⟨rfl,hJ3,hk1,hk2⟩|⟨rfl,hJx3⟩)
   ·have hb3:Boxed W3 Bs 134 (.slice (some ⟨b,o,none⟩) m c):=hk1.trans HB.out
    have hr3:=hk2 HRr.out
    gi_wp2
    go_roundw
    case rel=>exact ⟨pre ++ [(i,x)],by have := HI.out;have := HK.out;rw [List.length_append];simp only [List.length_cons,List.length_nil];exact congrArg (Value.int .i64) (by omega),HSn.out,hb3,hr3,hJ3⟩
    case measure=>simp [intOf]
   ·gi_wp2
    refine bodyPost_ret (results_none rfl _ _ _) rfl ?_
    exact ⟨⟨_,rfl⟩,.inr ⟨_,HSn.out,hJx3⟩⟩
  ·have hge:¬ (0:Int)<=(m:Int) - 1 - (k:Int):=by omega
   have HK:=Lib.hid hk
   clear hk
   gi_wp2
   go_end0
   exact ⟨⟨_,rfl⟩,.inl ⟨pre,⟨HP.out,by have := HK.out;omega⟩,hj⟩⟩
theorem Zhu (n:Nat) (hn:1<=n) (Bs:Nat) (A:Option Addr) (m c:Nat) (Rd:Nat->Int->Prop) (hm:m<=9223372036854775807) (w:World)
  (hBs:Boxed w Bs 134 (.slice A m c)) (hR:RdW A m Rd w) :
  SeqCell Fence.wide n Tryz.prog 184 #[.pointer (some ⟨Bs,0,none⟩)] bkEnc (KpB Bs A m Rd) (fun ys=>BkP Rd m ys/\ys.length=m) (BkP Rd m) m Bs w :=
 fun l J Jx W hW hJ _ _ hY h0=>Zq7 n hn l Bs A m c Rd hm J Jx W hJ hY ((hW.block Bs hBs.lt).trans hBs) (hR.below hW) h0
end YtjbjkmccfocikaaGreatDoor.B
end
section
namespace YtjbjkmccfocikaaGreatDoor.B
open Go.RowKit YtjbjkmccfocikaaGreatDoorW.PrintWords YtjbjkmccfocikaaGreatDoorW.PrintLast YtjbjkmccfocikaaGreatDoorW.PrintMore
attribute [local go_sem] Zch Zci Zc9 Zda Zb1 Zb2 Zcp Zcq
def cmp_isNaN_int.f (a0:Int):Option (Bool):=some (a0 != a0)
theorem cmp_isNaN_int.calls (a0:Int) (r:Bool) (w:World) (h:cmp_isNaN_int.f a0=some r) :
  Calls Tryz.prog 186 #[.int .i64 a0] w fun e w'=>e=.returned (.bool r)/\Drawn0 w w':=by
 have H:(some (a0 != a0))=some r:=h
 clear h
 obtain rfl:=Option.some.inj H
 go_enter Tryz.func186,Tryz.ntmps186
 go_wp2
 go_ret
 exact ⟨pR,pD⟩
def cmp_Compare_int.f (a0:Int) (a1:Int):Option (Int):=(cmp_isNaN_int.f a0).bind fun qb=>((cmp_isNaN_int.f a1).bind fun qa=>(if qb=true then (if qa=true then (some 0) else (some (-1))) else (if qa=true then (some 1) else (if a0 < a1 then (some (-1)) else (if a0 > a1 then (some 1) else (some 0))))))
theorem cmp_Compare_int.calls (a0:Int) (a1:Int) (r:Int) (w:World) (h:cmp_Compare_int.f a0 a1=some r) :
  Calls Tryz.prog 165 #[.int .i64 a0,.int .i64 a1] w fun e w'=>e=.returned (.int .i64 r)/\Drawn0 w w':=by
 have H:((cmp_isNaN_int.f a0).bind fun qb=>((cmp_isNaN_int.f a1).bind fun qa=>(if qb=true then (if qa=true then (some 0) else (some (-1))) else (if qa=true then (some 1) else (if a0 < a1 then (some (-1)) else (if a0 > a1 then (some 1) else (some 0)))))))=some r:=h
 clear h
 replace H:=ob H
 obtain ⟨qb,A3,H⟩:=H
 replace H:=ob H
 obtain ⟨qa,A4,H⟩:=H
 replace H:=tI (t:=qb) H
 rcases H with ⟨rfl,H⟩|⟨rfl,H⟩
 ·replace H:=tI (t:=qa) H
  rcases H with ⟨rfl,H⟩|⟨rfl,H⟩
  ·obtain rfl:=Option.some.inj H
   go_enter Tryz.func165,Tryz.ntmps165
   go_wp2_with (first|(refine gL (some 8) Tryz.func186 #[.int .i64 a0] (h:=?_);(with_reducible refine (cmp_isNaN_int.calls a0 true _ A3.o).mono ?_);rintro e w' ⟨rfl,⟨nd,rfl⟩⟩;refine ⟨_,rfl,?_⟩)|(refine gL (some 10) Tryz.func186 #[.int .i64 a1] (h:=?_);(with_reducible refine (cmp_isNaN_int.calls a1 true _ A4.o).mono ?_);rintro e w' ⟨rfl,⟨nd,rfl⟩⟩;refine ⟨_,rfl,?_⟩))
   go_ret
   exact ⟨pR,pD⟩
  ·obtain rfl:=Option.some.inj H
   go_enter Tryz.func165,Tryz.ntmps165
   go_wp2_with (first|(refine gL (some 8) Tryz.func186 #[.int .i64 a0] (h:=?_);(with_reducible refine (cmp_isNaN_int.calls a0 true _ A3.o).mono ?_);rintro e w' ⟨rfl,⟨nd,rfl⟩⟩;refine ⟨_,rfl,?_⟩)|(refine gL (some 10) Tryz.func186 #[.int .i64 a1] (h:=?_);(with_reducible refine (cmp_isNaN_int.calls a1 false _ A4.o).mono ?_);rintro e w' ⟨rfl,⟨nd,rfl⟩⟩;refine ⟨_,rfl,?_⟩))
   go_ret
   exact ⟨pR,pD⟩
 ·replace H:=tI (t:=qa) H
  rcases H with ⟨rfl,H⟩|⟨rfl,H⟩
  ·obtain rfl:=Option.some.inj H
   go_enter Tryz.func165,Tryz.ntmps165
   go_wp2_with (first|(refine gL (some 8) Tryz.func186 #[.int .i64 a0] (h:=?_);(with_reducible refine (cmp_isNaN_int.calls a0 false _ A3.o).mono ?_);rintro e w' ⟨rfl,⟨nd,rfl⟩⟩;refine ⟨_,rfl,?_⟩)|(refine gL (some 10) Tryz.func186 #[.int .i64 a1] (h:=?_);(with_reducible refine (cmp_isNaN_int.calls a1 true _ A4.o).mono ?_);rintro e w' ⟨rfl,⟨nd,rfl⟩⟩;refine ⟨_,rfl,?_⟩))
   go_ret
   exact ⟨pR,pD⟩
  ·replace H:=dI H
   rcases H with ⟨c8b0,H⟩|⟨c8b0,H⟩
   ·obtain rfl:=Option.some.inj H
    go_enter Tryz.func165,Tryz.ntmps165
    go_wp2_with (first|(refine gL (some 8) Tryz.func186 #[.int .i64 a0] (h:=?_);(with_reducible refine (cmp_isNaN_int.calls a0 false _ A3.o).mono ?_);rintro e w' ⟨rfl,⟨nd,rfl⟩⟩;refine ⟨_,rfl,?_⟩)|(refine gL (some 10) Tryz.func186 #[.int .i64 a1] (h:=?_);(with_reducible refine (cmp_isNaN_int.calls a1 false _ A4.o).mono ?_);rintro e w' ⟨rfl,⟨nd,rfl⟩⟩;refine ⟨_,rfl,?_⟩))
    go_ret
    exact ⟨pR,pD⟩
   ·replace H:=gI H
    rcases H with ⟨c9b0,H⟩|⟨c9b0,H⟩
    ·obtain rfl:=Option.some.inj H
     go_enter Tryz.func165,Tryz.ntmps165
     go_wp2_with (first|(refine gL (some 8) Tryz.func186 #[.int .i64 a0] (h:=?_);(with_reducible refine (cmp_isNaN_int.calls a0 false _ A3.o).mono ?_);rintro e w' ⟨rfl,⟨nd,rfl⟩⟩;refine ⟨_,rfl,?_⟩)|(refine gL (some 10) Tryz.func186 #[.int .i64 a1] (h:=?_);(with_reducible refine (cmp_isNaN_int.calls a1 false _ A4.o).mono ?_);rintro e w' ⟨rfl,⟨nd,rfl⟩⟩;refine ⟨_,rfl,?_⟩))
     go_ret
     exact ⟨pR,pD⟩
    ·obtain rfl:=Option.some.inj H
     go_enter Tryz.func165,Tryz.ntmps165
     go_wp2_with (first|(refine gL (some 8) Tryz.func186 #[.int .i64 a0] (h:=?_);(with_reducible refine (cmp_isNaN_int.calls a0 false _ A3.o).mono ?_);rintro e w' ⟨rfl,⟨nd,rfl⟩⟩;refine ⟨_,rfl,?_⟩)|(refine gL (some 10) Tryz.func186 #[.int .i64 a1] (h:=?_);(with_reducible refine (cmp_isNaN_int.calls a1 false _ A4.o).mono ?_);rintro e w' ⟨rfl,⟨nd,rfl⟩⟩;refine ⟨_,rfl,?_⟩))
     go_ret
     exact ⟨pR,pD⟩
def Zav.f (a0:Int):Option (Bool):=some (a0 != a0)
theorem Zav.calls (a0:Int) (r:Bool) (w:World) (h:Zav.f a0=some r) :
  Calls Tryz.prog 187 #[.int .u32 a0] w fun e w'=>e=.returned (.bool r)/\Drawn0 w w':=by
 have H:(some (a0 != a0))=some r:=h
 clear h
 obtain rfl:=Option.some.inj H
 go_enter Tryz.func187,Tryz.ntmps187
 go_wp2
 go_ret
 exact ⟨pR,pD⟩
def Zde.f (a0:Int) (a1:Int):Option (Int):=(Zav.f a0).bind fun qb=>((Zav.f a1).bind fun qa=>(if qb=true then (if qa=true then (some 0) else (some (-1))) else (if qa=true then (some 1) else (if a0 < a1 then (some (-1)) else (if a0 > a1 then (some 1) else (some 0))))))
theorem Zde.calls (a0:Int) (a1:Int) (r:Int) (w:World) (h:Zde.f a0 a1=some r) :
  Calls Tryz.prog 166 #[.int .u32 a0,.int .u32 a1] w fun e w'=>e=.returned (.int .i64 r)/\Drawn0 w w':=by
 have H:((Zav.f a0).bind fun qb=>((Zav.f a1).bind fun qa=>(if qb=true then (if qa=true then (some 0) else (some (-1))) else (if qa=true then (some 1) else (if a0 < a1 then (some (-1)) else (if a0 > a1 then (some 1) else (some 0)))))))=some r:=h
 clear h
 replace H:=ob H
 obtain ⟨qb,A3,H⟩:=H
 replace H:=ob H
 obtain ⟨qa,A4,H⟩:=H
 replace H:=tI (t:=qb) H
 rcases H with ⟨rfl,H⟩|⟨rfl,H⟩
 ·replace H:=tI (t:=qa) H
  rcases H with ⟨rfl,H⟩|⟨rfl,H⟩
  ·obtain rfl:=Option.some.inj H
   go_enter Tryz.func166,Tryz.ntmps166
   go_wp2_with (first|(refine gL (some 8) Tryz.func187 #[.int .u32 a0] (h:=?_);(with_reducible refine (Zav.calls a0 true _ A3.o).mono ?_);rintro e w' ⟨rfl,⟨nd,rfl⟩⟩;refine ⟨_,rfl,?_⟩)|(refine gL (some 10) Tryz.func187 #[.int .u32 a1] (h:=?_);(with_reducible refine (Zav.calls a1 true _ A4.o).mono ?_);rintro e w' ⟨rfl,⟨nd,rfl⟩⟩;refine ⟨_,rfl,?_⟩))
   go_ret
   exact ⟨pR,pD⟩
  ·obtain rfl:=Option.some.inj H
   go_enter Tryz.func166,Tryz.ntmps166
   go_wp2_with (first|(refine gL (some 8) Tryz.func187 #[.int .u32 a0] (h:=?_);(with_reducible refine (Zav.calls a0 true _ A3.o).mono ?_);rintro e w' ⟨rfl,⟨nd,rfl⟩⟩;refine ⟨_,rfl,?_⟩)|(refine gL (some 10) Tryz.func187 #[.int .u32 a1] (h:=?_);(with_reducible refine (Zav.calls a1 false _ A4.o).mono ?_);rintro e w' ⟨rfl,⟨nd,rfl⟩⟩;refine ⟨_,rfl,?_⟩))
   go_ret
   exact ⟨pR,pD⟩
 ·replace H:=tI (t:=qa) H
  rcases H with ⟨rfl,H⟩|⟨rfl,H⟩
  ·obtain rfl:=Option.some.inj H
   go_enter Tryz.func166,Tryz.ntmps166
   go_wp2_with (first|(refine gL (some 8) Tryz.func187 #[.int .u32 a0] (h:=?_);(with_reducible refine (Zav.calls a0 false _ A3.o).mono ?_);rintro e w' ⟨rfl,⟨nd,rfl⟩⟩;refine ⟨_,rfl,?_⟩)|(refine gL (some 10) Tryz.func187 #[.int .u32 a1] (h:=?_);(with_reducible refine (Zav.calls a1 true _ A4.o).mono ?_);rintro e w' ⟨rfl,⟨nd,rfl⟩⟩;refine ⟨_,rfl,?_⟩))
   go_ret
   exact ⟨pR,pD⟩
  ·replace H:=dI H
   rcases H with ⟨c8b0,H⟩|⟨c8b0,H⟩
   ·obtain rfl:=Option.some.inj H
    go_enter Tryz.func166,Tryz.ntmps166
    go_wp2_with (first|(refine gL (some 8) Tryz.func187 #[.int .u32 a0] (h:=?_);(with_reducible refine (Zav.calls a0 false _ A3.o).mono ?_);rintro e w' ⟨rfl,⟨nd,rfl⟩⟩;refine ⟨_,rfl,?_⟩)|(refine gL (some 10) Tryz.func187 #[.int .u32 a1] (h:=?_);(with_reducible refine (Zav.calls a1 false _ A4.o).mono ?_);rintro e w' ⟨rfl,⟨nd,rfl⟩⟩;refine ⟨_,rfl,?_⟩))
    go_ret
    exact ⟨pR,pD⟩
   ·replace H:=gI H
    rcases H with ⟨c9b0,H⟩|⟨c9b0,H⟩
    ·obtain rfl:=Option.some.inj H
     go_enter Tryz.func166,Tryz.ntmps166
     go_wp2_with (first|(refine gL (some 8) Tryz.func187 #[.int .u32 a0] (h:=?_);(with_reducible refine (Zav.calls a0 false _ A3.o).mono ?_);rintro e w' ⟨rfl,⟨nd,rfl⟩⟩;refine ⟨_,rfl,?_⟩)|(refine gL (some 10) Tryz.func187 #[.int .u32 a1] (h:=?_);(with_reducible refine (Zav.calls a1 false _ A4.o).mono ?_);rintro e w' ⟨rfl,⟨nd,rfl⟩⟩;refine ⟨_,rfl,?_⟩))
     go_ret
     exact ⟨pR,pD⟩
    ·obtain rfl:=Option.some.inj H
     go_enter Tryz.func166,Tryz.ntmps166
     go_wp2_with (first|(refine gL (some 8) Tryz.func187 #[.int .u32 a0] (h:=?_);(with_reducible refine (Zav.calls a0 false _ A3.o).mono ?_);rintro e w' ⟨rfl,⟨nd,rfl⟩⟩;refine ⟨_,rfl,?_⟩)|(refine gL (some 10) Tryz.func187 #[.int .u32 a1] (h:=?_);(with_reducible refine (Zav.calls a1 false _ A4.o).mono ?_);rintro e w' ⟨rfl,⟨nd,rfl⟩⟩;refine ⟨_,rfl,?_⟩))
     go_ret
     exact ⟨pR,pD⟩
end YtjbjkmccfocikaaGreatDoor.B
end
section
namespace YtjbjkmccfocikaaGreatDoor.B
open Go.RowKit Go.Shelf YtjbjkmccfocikaaGreatDoorW.PrintWords YtjbjkmccfocikaaGreatDoor.P.Nm
attribute [local go_sem] Oper.semAt_some
def cmpI (x y:Int):Int:=if x < y then -1 else if y < x then 1 else 0
theorem Ziu (x:Int):cmpI x x=0:=by simp [cmpI]
theorem Zsw (x y:Int):cmp_Compare_int.f x y=some (cmpI x y):=by
 unfold cmp_Compare_int.f cmp_isNaN_int.f cmpI
 simp
 split
 ·rfl
 ·split <;> rfl
theorem Zsy (x y:Int):Zde.f x y=some (cmpI x y):=by
 unfold Zde.f Zav.f cmpI
 simp
 split
 ·rfl
 ·split <;> rfl
theorem Zne {i:Nat} {a b:List Int} (ha:Dg 4294967296 a) (hb:Dg 4294967296 b) (hl:a.length=b.length) (hi:i < a.length) (hd:a.drop (i+1)=b.drop (i+1)) (h:a.getD i 0 < b.getD i 0):val 4294967296 a < val 4294967296 b:=by
 have e:∀ (l:List Int),i < l.length->val 4294967296 l=val 4294967296 (l.take i)+pw 4294967296 i*(l.getD i 0+4294967296*val 4294967296 (l.drop (i+1))):=fun l hl=>by
  conv=>lhs;rw [<- List.take_append_drop i l,List.drop_eq_getElem_cons hl]
  rw [Zg7,Zbk,List.length_take,Nat.min_eq_left (by omega)]
  simp [List.getD,List.getElem?_eq_getElem hl]
 rw [e a hi,e b (by omega),hd]
 have h1:=Zd2 (b:=4294967296) (by omega) (ha.take i)
 have h2:=Zbj (b:=4294967296) (by omega) (hb.take i)
 rw [List.length_take,Nat.min_eq_left (by omega)] at h1
 have hp:=Zfg (b:=4294967296) (by omega) i
 obtain ⟨T,hT⟩:∃ T,4294967296*val 4294967296 (b.drop (i+1))=T:=⟨_,rfl⟩
 rw [hT]
 have h3:=Int.mul_le_mul_of_nonneg_left (show a.getD i 0+T+1<=b.getD i 0+T by omega) (Int.le_of_lt hp)
 rw [Int.mul_add] at h3
 omega
theorem Zrb {a b:List Int} (hl:a.length=b.length) (h:∀ i,i < a.length->a.getD i 0=b.getD i 0):a=b:=by
 apply List.ext_getElem hl
 intro i h1 h2
 have := h i h1
 simpa [List.getD,List.getElem?_eq_getElem h1,List.getElem?_eq_getElem h2] using this
theorem Zra {a b:List Int} {k:Nat} (hl:a.length=b.length) (h:∀ i,k<=i->i < a.length->a.getD i 0=b.getD i 0):a.drop k=b.drop k:=by
 apply List.ext_getElem (by simp [hl])
 intro i h1 h2
 rw [List.length_drop] at h1 h2
 have := h (k+i) (by omega) (by omega)
 simpa [List.getD,List.getElem?_eq_getElem (show k+i < a.length by omega),List.getElem?_eq_getElem (show k+i < b.length by omega)] using this
theorem Zua {i:Nat} {a b:List Int} (ha:Dg 4294967296 a) (hb:Dg 4294967296 b) (hl:a.length=b.length) (hi:i < a.length) (hd:∀ j,i+1<=j->j < a.length->a.getD j 0=b.getD j 0) (h:a.getD i 0 ≠ b.getD i 0):cmpI (a.getD i 0) (b.getD i 0)=cmpI (num a) (num b):=by
 have hd':=Zra hl hd
 rw [Zdl ha,Zdl hb]
 unfold cmpI
 rcases Int.lt_trichotomy (a.getD i 0) (b.getD i 0) with h1|h1|h1
 ·have := Zne ha hb hl hi hd' h1
  rw [if_pos h1,if_pos this]
 ·exact absurd h1 h
 ·have := Zne hb ha hl.symm (by omega) hd'.symm h1
  rw [if_neg (by omega),if_pos h1,if_neg (by omega),if_pos this]
theorem Zsx {a b:List Int} (ha:Dg 4294967296 a) (hb:Dg 4294967296 b) (na:Nz a) (nb:Nz b) (h:a.length ≠ b.length):cmpI a.length b.length=cmpI (num a) (num b):=by
 rw [Zdl ha,Zdl hb]
 unfold cmpI
 rcases Nat.lt_trichotomy a.length b.length with h1|h1|h1
 ·have := Zfd (b:=4294967296) (by omega) ha hb nb h1
  rw [if_pos (by omega),if_pos this]
 ·exact absurd h1 h
 ·have := Zfd (b:=4294967296) (by omega) hb ha na h1
  rw [if_neg (by omega),if_pos (by omega),if_neg (by omega),if_pos this]
theorem Zgu {w:World} {A:Option Addr} {l:List Int} (h:Kd.C (Kd.int .u32) w A l.length l):RdW A l.length (fun j x=>x=l.getD j 0) w:=by
 have hR:ReadsOf (Value.int .u32) 0 w A l.length l:=Kd.Zgv h
 rcases Nat.eq_zero_or_pos l.length with h0|h0
 ·exact .inl h0
 ·obtain ⟨ad,rfl,hc⟩:=hR.2.2 h0
  obtain ⟨b,o,rfl⟩:=Zj4 (show w.cell? ad=_ from hc 0 h0)
  refine .inr ⟨b,o,rfl,fun j hj=>⟨_,?_,rfl⟩⟩
  have := hc j hj
  rwa [Zt8] at this
structure CmpI (w:World) (A0 A1:Option Addr) (m c0 c1:Nat) (l0 l1:List Int) (pre:List (Nat × Int)) (W:World):Prop where
 a:Boxed W w.heap.size 134 (.slice A0 m c0)
 b:Boxed W (w.heap.size+1) 134 (.slice A1 m c1)
 r:Boxed W (w.heap.size+1+1) 3 (.int .i64 0)
 s:∃ u,Boxed W (w.heap.size+1+1+1) 134 u
 low:Below w.heap.size w W
 same:∀ x ∈ pre,l0.getD x.1 0=l1.getD x.1 0
structure CmpX (w:World) (R:Int) (c:Code) (pre:List (Nat × Int)) (W:World):Prop where
 c:c=.ret
 r:Boxed W (w.heap.size+1+1) 3 (.int .i64 R)
 low:Below w.heap.size w W
theorem not_row {A:World} {row:Option Nat} {n:Nat} (hr:∀ r,row=some r->n<=r /\ ∃ o:Obj,A.heap[r]? = some o/\o.isCells=false) {k t:Nat} {u:Value} (hk:Boxed A k t u):some k ≠ row:=fun e=>by
 obtain ⟨_,o,ho,hc⟩:=hr k e.symm
 rw [show A.heap[k]? = _ from hk] at ho
 obtain rfl:=Option.some.inj ho
 cases hc
theorem CmpI.own {w:World} {A0 A1:Option Addr} {m c0 c1:Nat} {l0 l1:List Int} {n:Nat} (hn:w.heap.size<=n):OwnFrom n (CmpI w A0 A1 m c0 c1 l0 l1):=by
 rintro pre A W row ⟨a,b,r,⟨u,s⟩,hb,hs⟩ hg hr
 exact ⟨a.kept hg (not_row hr a),b.kept hg (not_row hr b),r.kept hg (not_row hr r),⟨u,s.kept hg (not_row hr s)⟩,(ownFrom_below (Nat.le_refl _) hn:OwnFrom _ (fun _:List (Nat × Int)=>Below w.heap.size w)) pre A W row hb hg hr,hs⟩
theorem CmpX.own {w:World} {R:Int} {n:Nat} (hn:w.heap.size<=n) (c:Code):OwnFrom n (CmpX w R c):=by
 rintro pre A W row ⟨hc,r,hb⟩ hg hr
 exact ⟨hc,r.kept hg (not_row hr r),(ownFrom_below (Nat.le_refl _) hn:OwnFrom _ (fun _:List (Nat × Int)=>Below w.heap.size w)) pre A W row hb hg hr⟩
theorem CmpI.minds {w:World} {A0 A1:Option Addr} {m c0 c1:Nat} {l0 l1:List Int}:Minds (w.heap.size+1+1+1) (CmpI w A0 A1 m c0 c1 l0 l1):=by
 rintro pre W u ⟨a,b,r,⟨v,s⟩,hb,hs⟩
 exact ⟨(Zbm W _ u _ (by omega)).trans a,(Zbm W _ u _ (by omega)).trans b,(Zbm W _ u _ (by omega)).trans r,⟨u,s.set u⟩,hb.setCell (p:=⟨w.heap.size+1+1+1,0,none⟩) (by simp;omega) u,hs⟩
theorem Zmd (A0:Option Addr) (c0:Nat) (l0:List Int) (A1:Option Addr) (c1:Nat) (l1:List Int) (w:World) (hr0:Kd.C (Kd.int .u32) w A0 l0.length l0) (hc0:l0.length<=c0) (hr1:Kd.C (Kd.int .u32) w A1 l1.length l1) (hc1:l1.length<=c1)
  (hd0:Dg 4294967296 l0) (hd1:Dg 4294967296 l1) (hn0:Nz l0) (hn1:Nz l1) (hz0:l0.length<=1000000) (hz1:l1.length<=1000000) :
  Calls Tryz.prog 138 #[.slice A0 l0.length c0,.slice A1 l1.length c1] w fun e w'=>e=.returned (.int .i64 (cmpI (num l0) (num l1)))/\Below w.heap.size w w':=by
 have cI:=fun W:World=>cmp_Compare_int.calls l0.length l1.length _ W (Zsw _ _)
 obtain ⟨R,hR⟩:∃ R,cmpI (num l0) (num l1)=R:=⟨_,rfl⟩
 have HRes:=Lib.hid hR
 rw [hR]
 clear hR
 refine (callsIn_wide (n:=4)).1 ?_
 refine callsIn_of_wp_marks Tryz.func138 rfl trivial ?_ rfl
 simp only [Tryz.ntmps138,List.size_toArray,List.length_cons,List.length_nil,Nat.reduceAdd,Nat.reduceSub,Array.replicate_succ,Array.replicate_zero,List.push_toArray,List.append_toArray,List.nil_append,List.cons_append]
 have e0:=Zgu hr0
 have e1:=Zgu hr1
 have E0:=Lib.hid e0
 have E1:=Lib.hid e1
 clear e0 e1 hr0 hr1
 obtain ⟨q,hq⟩:∃ q,cmpI l0.length l1.length=q:=⟨_,rfl⟩
 rw [hq] at cI
 have HQ:=Lib.hid hq
 clear hq
 by_cases hlen:l0.length=l1.length
 ·have hq0:q=0:=by rw [<- HQ.out,hlen,Ziu]
  subst hq0
  obtain ⟨m,hm⟩:∃ m,l0.length=m:=⟨_,rfl⟩
  have hm1:l1.length=m:=by omega
  rw [hm] at E0 hz0 hc0 cI ⊢
  rw [hm1] at E1 hz1 hc1 cI ⊢
  have HM:=Lib.hid hm
  have HM1:=Lib.hid hm1
  clear hm hm1 hlen
  gi_wp2_with (first|(refine ⟨trivial,?_⟩;gi_at_call 165;refine (callsIn_wide.2 (cI _)).mono ?_;rintro e w' ⟨rfl,nq,rfl⟩)|(refine ⟨trivial,?_⟩;gi_at_call 158;refine (Zl0 _ _ _ _ _).mono ?_;rintro e w' ⟨rfl,rfl⟩))
  have bA:=(Zq9 (((Boxed.new w 134 (.slice A0 m c0)).alloc (.cells #[.slice A1 m c1] 134)).alloc (.cells #[.int .i64 0] 3)) nq).alloc (.cells #[.slice A0 m c0] 134)
  have bB:=(Zq9 ((Boxed.new (w.alloc (.cells #[.slice A0 m c0] 134)) 134 (.slice A1 m c1)).alloc (.cells #[.int .i64 0] 3)) nq).alloc (.cells #[.slice A0 m c0] 134)
  have bR:=(Zq9 (Boxed.new ((w.alloc (.cells #[.slice A0 m c0] 134)).alloc (.cells #[.slice A1 m c1] 134)) 3 (.int .i64 0)) nq).alloc (.cells #[.slice A0 m c0] 134)
  have bS:=Boxed.new ((((w.alloc (.cells #[.slice A0 m c0] 134)).alloc (.cells #[.slice A1 m c1] 134)).alloc (.cells #[.int .i64 0] 3)).drewN nq) 134 (.slice A0 m c0)
  have hB0:Below w.heap.size w (((((w.alloc (.cells #[.slice A0 m c0] 134)).alloc (.cells #[.slice A1 m c1] 134)).alloc (.cells #[.int .i64 0] 3)).drewN nq).alloc (.cells #[.slice A0 m c0] 134)) :=
   (Zaz ((((Below.refl _ w).alloc (Nat.le_refl _) _).alloc (by simp) _).alloc (by simp;omega) _) nq).alloc (by simp;omega) _
  simp only [World.size_alloc,Zms] at bB bR bS
  have hle:c0=c0:=rfl
  obtain ⟨B,hB⟩:∃ B,w.heap.size=B:=⟨_,rfl⟩
  rw [hB] at bA bB bR bS ⊢
  refine Zd9 (b:=B+1+1+1) rfl (by decide) (gf:=184) (lb:=#[.pointer (some ⟨B+1+1+1,0,none⟩)]) rfl trivial (enters_of Tryz.func184 (by kernel_rfl) rfl)
   (Zhu 3 (by omega) (B+1+1+1) A0 m c0 (fun j x=>x=l0.getD j 0) (by omega) _ bS (E0.out.below hB0)) (by simp [Zms];omega) (fun h k=>h.trans k)
   (fun W l o o' hl ho hc hw=>KpB.put (by simp [Zms] at hl;omega) ho hc) (Below.refl _ _) (fun _=>rfl)
   (CmpI w A0 A1 m c0 c1 l0 l1) (CmpX w R) (CmpI.own (by simp [Zms];omega)) (CmpX.own (by simp [Zms];omega)) (by rw [<- hB];exact CmpI.minds) ?start
   (fun x=>{ tmps:=#[.slice A0 m c0,.slice A1 m c1,.pointer (some ⟨B,0,none⟩),.pointer (some ⟨B+1,0,none⟩),.pointer (some ⟨B+1+1,0,none⟩),.int .i64 0,.int .i64 x.1,undef,.slice A0 m c0,.int .i64 m,.slice A1 m c1,.int .i64 m,.int .i64 0,.int .i64 0,.bool false,undef,.slice A0 m c0,
    .func (.func 184) #[] #[.pointer (some ⟨B+1+1+1,0,none⟩)],.int .i64 x.1,.int .u32 x.2,undef,undef,undef,undef,undef,undef,undef,undef,undef,undef,undef,undef],defers:=[] }) ?assign ?body ?done ?stop
  case start=>exact ⟨by rw [hB];exact bA,by rw [hB];exact bB,by rw [hB];exact bR,⟨_,by rw [hB];exact bS⟩,hB0,fun x h=>by cases h⟩
  case assign =>
   intro l x W K hK
   gi_wp2
   exact hK
  case body =>
   rintro l pre x W ⟨a,b,r,⟨u,s⟩,hb,hs⟩ hlen hsp
   obtain ⟨hx1,hx2⟩:=hsp.2 pre.length x (by simp)
   obtain ⟨i,y⟩:=x
   simp only at hx1 hx2
   have hi:i < m:=by omega
   obtain ⟨b0,o0,x0,hA0,hc0',hx0⟩:=(E0.out.below hb).at hi
   obtain ⟨b1,o1,x1,hA1,hc1',hx1'⟩:=(E1.out.below hb).at hi
   subst hA0 hA1
   rw [hB] at a b r s
   have ha:=a.cell
   have hbc:=b.cell
   have hi0:(0:Int)<=(i:Int):=by omega
   have hi1:(i:Int) < (m:Int):=by omega
   have cU:=fun W:World=>Zde.calls x0 x1 _ W (Zsy _ _)
   obtain ⟨q,hq⟩:∃ q,cmpI x0 x1=q:=⟨_,rfl⟩
   rw [hq] at cU
   have HQx:=Lib.hid hq
   have HX0:=Lib.hid hx0
   have HX1:=Lib.hid hx1'
   have HRb:=Lib.hid r
   have HSb:=Lib.hid s
   have HAb:=Lib.hid a
   have HBb:=Lib.hid b
   have HB:=Lib.hid hb
   have HS:=Lib.hid hs
   have HI:=Lib.hid hx1
   have HP:=Lib.hid (show BkP (fun j x=>x=l0.getD j 0) m (pre ++ [(i,y)]) from hsp)
   have hrc:=r.cell
   have hrf:=r.frozen
   clear hq hx0 hx1' r s a b hb hs hx1 hx2 hsp
   by_cases hq0:q=0
   ·subst hq0
    gi_wp2
    rename_i K hK
    refine Ze1 (by kernel_rfl) (by kernel_rfl) (fun h=>by obtain ⟨_,_,h⟩:=h;exact h) (by kernel_rfl) ?_
    repeat (go_big_quiet_step ((go_at_call 166;exact Zf1 (cU _))))
    refine wpQuiet_nil ?_
    rintro _ ⟨nq2,rfl⟩
    refine hK _ _ ?_
    gi_wp2
    have hxx:x0=x1:=by
     have := HQx.out;unfold cmpI at this
     split at this
     ·cases this
     ·split at this
      ·cases this
      ·omega
    exact ⟨⟨Nat.le_refl _,fun k o _ h _=>h⟩,⟨rfl,fun h=>h⟩,⟨by rw [hB];exact HAb.out,by rw [hB];exact HBb.out,by rw [hB];exact HRb.out,⟨u,by rw [hB];exact HSb.out⟩,Zaz HB.out nq2,fun z hz=>by
     rcases List.mem_append.1 hz with h|h
     ·exact HS.out z h
     ·rw [List.mem_singleton.1 h];exact HX0.out.symm.trans (hxx.trans HX1.out)⟩⟩
   ·have hqt:(q != 0)=true:=by rw [bne_iff_ne];exact hq0
    clear hq0
    gi_wp2
    rename_i K hK
    refine Ze1 (by kernel_rfl) (by kernel_rfl) (fun h=>by obtain ⟨_,_,h⟩:=h;exact h) (by kernel_rfl) ?_
    repeat (go_big_quiet_step ((go_at_call 166;exact Zf1 (cU _))))
    refine wpQuiet_nil ?_
    rintro _ ⟨nq2,rfl⟩
    refine hK _ _ ?_
    gi_wp2
    have hne:x0 ≠ x1:=fun e=>by
     have := HQx.out;rw [e,Ziu] at this
     rw [<- this] at hqt;cases hqt
    have hqR:q=R:=by
     rw [<- HQx.out,<- HRes.out,HX0.out,HX1.out]
     refine Zua hd0 hd1 (by have := HM.out;have := HM1.out;omega) (by have := HM.out;omega) (fun j hj hj2=>?_) (by rw [<- HX0.out,<- HX1.out];exact hne)
     have hjm:j < m:=by have := HM.out;omega
     have hk:m - 1 - j < pre.length:=by have := HI.out;omega
     have h2:=HP.out.2 (m - 1 - j) (pre[m - 1 - j]'hk) (by rw [List.getElem?_append_left hk];exact List.getElem?_eq_getElem hk)
     have h3:=HS.out _ (List.getElem_mem hk)
     rw [h2.1,show m - 1 - (m - 1 - j)=j by omega] at h3
     exact h3
    subst hqR
    refine ⟨(KeepsOthers.trans (A:=W) (B:=W.drewN nq2) ⟨Nat.le_refl _,fun k o h _=>h⟩ (KeepsOthers.setCell (W.drewN nq2) _ _)).from _,⟨rfl,?_,?_⟩⟩
    ·rw [hB];exact Boxed.set _ HRb.out
    ·exact (Zaz HB.out nq2).setCell (p:=⟨B+1+1,0,none⟩) (by simp;omega) _
  case done =>
   rintro D ys W hD ⟨hp,hpl⟩ ⟨a,b,r,_,hb,hs⟩ hK
   have hR0:R=0:=by
    rw [<- HRes.out,Zrb (a:=l0) (b:=l1) (by have := HM.out;have := HM1.out;omega) (fun i hi=>by
     have him:i < m:=by have := HM.out;omega
     have hk:m - 1 - i < ys.length:=by omega
     have h2:=hp.2 (m - 1 - i) (ys[m - 1 - i]'hk) (List.getElem?_eq_getElem hk)
     have h3:=hs _ (List.getElem_mem hk)
     rw [h2.1,show m - 1 - (m - 1 - i)=i by omega] at h3
     exact h3),Ziu]
   subst hR0
   rw [hB] at r
   have hrc:=r.cell
   have hrf:=r.frozen
   have HRb:=Lib.hid r
   have HB:=Lib.hid hb
   have HK:=Lib.hid hK
   clear hp hpl a b r hb hs hK
   gi_wp2
   have hK':=(KeepsOthers.setCell W ⟨B+1+1,0,none⟩ (.int .i64 0)).same D _ HK.out rfl
   refine ⟨by simp,.inl ⟨_,_,rfl,run_takeDeferred hK',?_⟩⟩
   have hc5:=cell_kept (Boxed.set (.int .i64 0) HRb.out).cell (grownBy_putObj' _ D (.deferred none)) (fun r e=>by cases e;exact ⟨_,hK',rfl⟩)
   exact ⟨.int .i64 0,by simp [results,Tryz.f138,go_sem,hc5],rfl,hB ▸ ((HB.out.setCell (p:=⟨w.heap.size+1+1,0,none⟩) (by simp;omega) _).trans (belowK_b (w:=w) (Nat.le_refl _) _ D _ _ (by simp [Zms] at hD;omega) (by rw [hB];exact hK') rfl rfl))⟩
  case stop =>
   rintro D c pre W hD hpre ⟨rfl,r,hb⟩ hK
   rw [hB] at r
   gi_wp2
   refine ⟨by simp,.inl ⟨_,_,rfl,run_takeDeferred hK,?_⟩⟩
   have hc5:=cell_kept r.cell (grownBy_putObj' _ D (.deferred none)) (fun r e=>by cases e;exact ⟨_,hK,rfl⟩)
   exact ⟨.int .i64 R,by simp [results,Tryz.f138,go_sem,hc5],rfl,hB ▸ (hb.trans (belowK_b (w:=w) (Nat.le_refl _) W D _ _ (by simp [Zms] at hD;omega) hK rfl rfl))⟩
 ·have hq0:(q != 0)=true:=by
   rw [bne_iff_ne];intro e;subst e
   have := HQ.out;unfold cmpI at this;split at this
   ·cases this
   ·split at this
    ·cases this
    ·omega
  have hqR:q=R:=by rw [<- HQ.out,<- HRes.out];exact Zsx hd0 hd1 hn0 hn1 hlen
  subst hqR
  clear hlen
  gi_wp2_with (refine ⟨trivial,?_⟩;gi_at_call 165;refine (callsIn_wide.2 (cI _)).mono ?_;rintro e w' ⟨rfl,nq,rfl⟩)
  have hbx:=Zq9 (Boxed.new ((w.alloc (.cells #[.slice A0 l0.length c0] 134)).alloc (.cells #[.slice A1 l1.length c1] 134)) 3 (.int .i64 0)) nq
  simp only [World.size_alloc] at hbx
  have hc5:=(Boxed.set (.int .i64 q) hbx).cell
  exact ⟨.int .i64 q,by simp [results,Tryz.f138,go_sem,hc5],rfl,(Zaz ((((Below.refl _ w).alloc (Nat.le_refl _) _).alloc (by simp) _).alloc (by simp;omega) _) nq).setCell (p:=⟨w.heap.size+1+1,0,none⟩) (by simp;omega) _⟩
def Za0.f (l0 l1:List Int):Option Int:=if okW l0 && okW l1 then some (cmpI (num l0) (num l1)) else none
theorem Za0.calls (A0:Option Addr) (c0:Nat) (l0:List Int) (A1:Option Addr) (c1:Nat) (l1:List Int) (r:Int) (w:World) (hr0:Kd.C (Kd.int .u32) w A0 l0.length l0) (hc0:l0.length<=c0) (hr1:Kd.C (Kd.int .u32) w A1 l1.length l1) (hc1:l1.length<=c1) (h:Za0.f l0 l1=some r) :
  Calls Tryz.prog 138 #[.slice A0 l0.length c0,.slice A1 l1.length c1] w fun e w'=>e=.returned (.int .i64 r)/\Below w.heap.size w w':=by
 unfold Za0.f at h
 split at h
 case isFalse=>cases h
 case isTrue hk =>
 rw [Bool.and_eq_true,Ze0,Ze0] at hk
 obtain rfl:=Option.some.inj h
 exact Zmd A0 c0 l0 A1 c1 l1 w hr0 hc0 hr1 hc1 hk.1.dg hk.2.dg hk.1.nz hk.2.nz hk.1.len hk.2.len
end YtjbjkmccfocikaaGreatDoor.B
end
section
namespace YtjbjkmccfocikaaGreatDoor.B
open Go.RowKit YtjbjkmccfocikaaGreatDoorW.PrintWords YtjbjkmccfocikaaGreatDoor.P.Nm
attribute [local go_sem] Oper.semAt_some
theorem Ztd (h l:Int) (h1:0<=h) (h2:h < 4294967296) (h3:0<=l) (h4:l < 4294967296):bits .or .u64 (h*4294967296) l=h*4294967296+l:=by
 obtain ⟨A,rfl⟩:=Int.eq_ofNat_of_zero_le h1
 obtain ⟨B,rfl⟩:=Int.eq_ofNat_of_zero_le h3
 have e:(A:Int)*4294967296=((A*4294967296:Nat):Int):=by omega
 rw [e,bits_or_u64_nat (A*4294967296) B (by omega) (by omega),show A*4294967296=2 ^ 32*A by omega,<- Nat.two_pow_add_eq_or_of_lt (by omega:B < 2 ^ 32)]
 omega
theorem div32 (a0 a1 a2:Int) (w:World) (h1:0<=a0) (h2:a0 < a2) (h3:0<=a1) (h4:a1 < 4294967296) (h5:a2 < 4294967296) :
  Calls Tryz.prog 169 #[.int .u32 a0,.int .u32 a1,.int .u32 a2] w fun e w'=>e=.returned (.tuple #[.int .u32 ((a0*4294967296+a1) / a2),.int .u32 ((a0*4294967296+a1) % a2)])/\Drawn0 w w':=by
 have b1:(a2 != 0)=true:=bne_iff_ne.2 (by omega)
 have b1':decide (a2 ≠ 0)=true:=decide_eq_true (by omega)
 have b2:decide (a2<=a0)=false:=decide_eq_false (by omega)
 have b3:¬ a2=0:=by omega
 have e1:a0*4294967296 % 18446744073709551616=a0*4294967296:=by omega
 have e2:=Ztd a0 a1 h1 (by omega) h3 h4
 have e3:(a0*4294967296+a1) / a2 % 4294967296=(a0*4294967296+a1) / a2:=by
  have:(a0*4294967296+a1) / a2 < 4294967296:=Int.ediv_lt_of_lt_mul (by omega) (by
   have := Int.mul_le_mul_of_nonneg_right (show a0+1<=a2 by omega) (show (0:Int)<=4294967296 by omega)
   omega)
  have:0<=(a0*4294967296+a1) / a2:=Int.ediv_nonneg (by omega) (by omega)
  omega
 have e4:(a0*4294967296+a1) % a2 % 4294967296=(a0*4294967296+a1) % a2:=by
  have := Int.emod_lt_of_pos (a0*4294967296+a1) (show 0 < a2 by omega)
  have := Int.emod_nonneg (a0*4294967296+a1) (show a2 ≠ 0 by omega)
  omega
 go_enter Tryz.func169,Tryz.ntmps169
 go_wp2
 repeat (go_quiet (fail);try go_wp2)
 go_ret2
 exact ⟨rfl,⟨_,rfl⟩⟩
theorem Zti (l:List Int) (x:Int):rd (l ++ [x]) (l.length:Int)=x:=by
 unfold rd
 rw [Int.toNat_natCast]
 simp [List.getD]
theorem Zjc:∀ (n:Nat) (l:List Int) (k:Nat),l.length=n->n < k->n<=4611686018427387904->Zz.l0 k l=some (trimL l)
 | n,l,0,_,h,_=>by omega
 | 0,l,k+1,hn,_,_=>by
  obtain rfl:=List.eq_nil_of_length_eq_zero hn
  rfl
 | n+1,l,k+1,hn,hk,hb=>by
  obtain ⟨l',x,rfl⟩:=Zf5 (l:=l) (by intro e;subst e;simp at hn)
  have hl':l'.length=n:=by simpa using hn
  have e:wrap64 (((l' ++ [x]).length:Int) - 1)=(l'.length:Int):=by rw [hn];unfold wrap64;omega
  simp only [Zz.l0]
  rw [e,if_pos (by rw [hn];omega),if_pos (by omega),if_pos (by rw [hn];omega),Zti]
  by_cases hx:x=0
  ·subst hx
   rw [if_pos rfl,if_pos (by rw [hn];omega),Int.toNat_natCast,List.take_left,Ze8]
   exact Zjc n l' k hl' (by omega) (by omega)
  ·rw [if_neg hx,if_neg (by rw [hn];omega),Zfx _ hx]
theorem Zup (l:List Int) {k:Nat} (h:l.length < k) (hb:l.length<=4611686018427387904):Zz.f k l=some (trimL l):=Zjc _ l k rfl h hb
structure SmallAt (by_:Int) (l:List Int) (j:Nat) (xs:List Int) (rest:Int):Prop where
 len:xs.length=l.length
 dg:Dg 4294967296 xs
 r0:0<=rest
 r1:rest < by_
 law:val 4294967296 (l.drop (l.length - j))=val 4294967296 (xs.drop (l.length - j))*by_+rest
theorem Zj8 {xs:List Int} {i:Nat} (h:i < xs.length) (q:Int):(xs.set i q).drop i=q :: xs.drop (i+1):=by
 rw [List.drop_eq_getElem_cons (by simpa using h)]
 simp [List.drop_set]
theorem SmallAt.start {by_:Int} {l:List Int} (h:0 < by_):SmallAt by_ l 0 (List.replicate l.length 0) 0 :=
 ⟨by simp,Dg.zeros (by omega) _,by omega,h,by simp [val]⟩
theorem SmallAt.step {by_:Int} {l:List Int} {j:Nat} {xs:List Int} {rest:Int} (h:SmallAt by_ l j xs rest) (hb:0 < by_) (hb2:by_ < 4294967296) (hd:Dg 4294967296 l) (hj:j < l.length) :
  SmallAt by_ l (j+1) (xs.set (l.length - 1 - j) ((rest*4294967296+l.getD (l.length - 1 - j) 0) / by_)) ((rest*4294967296+l.getD (l.length - 1 - j) 0) % by_):=by
 have hi:l.length - 1 - j < l.length:=by omega
 obtain ⟨i,hiE⟩:∃ i,l.length - 1 - j=i:=⟨_,rfl⟩
 rw [hiE] at hi ⊢
 have hx:=hd _ (List.getElem_mem hi)
 obtain ⟨x,hxE⟩:∃ x,l[i]=x:=⟨_,rfl⟩
 have hg:l.getD i 0=x:=by rw [List.getD,List.getElem?_eq_getElem hi];exact hxE
 rw [hxE] at hx
 rw [hg]
 obtain ⟨z,hz⟩:∃ z,rest*4294967296+x=z:=⟨_,rfl⟩
 rw [hz]
 have hr0:=h.r0
 have hr1:=h.r1
 have hq:z / by_ < 4294967296:=Int.ediv_lt_of_lt_mul hb (by
  have := Int.mul_le_mul_of_nonneg_right (show rest+1<=by_ by omega) (show (0:Int)<=4294967296 by omega)
  omega)
 have hq0:0<=z / by_:=Int.ediv_nonneg (by omega) (by omega)
 refine ⟨by rw [List.length_set];exact h.len,fun y hy=>?_,Int.emod_nonneg _ (by omega),Int.emod_lt_of_pos _ hb,?_⟩
 ·rcases List.mem_or_eq_of_mem_set hy with hy|rfl
  ·exact h.dg y hy
  ·exact ⟨hq0,hq⟩
 ·have e1:l.length - (j+1)=i:=by omega
  have e2:l.length - j=i+1:=by omega
  have hlaw:=h.law
  rw [e2] at hlaw
  rw [e1,Zj8 (by rw [h.len];exact hi),List.drop_eq_getElem_cons hi,hxE,Zbk,Zbk,hlaw]
  have := Int.mul_ediv_add_emod z by_
  rw [Int.add_mul,Int.mul_assoc,Int.mul_comm (z / by_)]
  generalize val 4294967296 (List.drop (i+1) xs)*by_=V at *
  omega
theorem SmallAt.done {by_:Int} {l:List Int} {xs:List Int} {rest:Int} (h:SmallAt by_ l l.length xs rest) (hd:Dg 4294967296 l):trimL xs=limbs (num l / by_.toNat)/\rest=((num l % by_.toNat:Nat):Int):=by
 have hlaw:=h.law
 rw [Nat.sub_self,List.drop_zero,List.drop_zero,<- Zdl hd] at hlaw
 have hr0:=h.r0
 have hr1:=h.r1
 have hv:=Zdl h.dg
 obtain ⟨b,rfl⟩:=Int.eq_ofNat_of_zero_le (show 0<=by_ by omega)
 obtain ⟨r,rfl⟩:=Int.eq_ofNat_of_zero_le hr0
 rw [Int.toNat_natCast]
 rw [<- hv] at hlaw
 have e:num l=num xs*b+r:=by exact_mod_cast hlaw
 have hrb:r < b:=by omega
 have hb0:0 < b:=by omega
 have e1:num l / b=num xs:=by rw [e,Nat.mul_comm,Nat.mul_add_div hb0,Nat.div_eq_of_lt hrb,Nat.add_zero]
 have e2:num l % b=r:=by rw [e,Nat.mul_comm,Nat.mul_add_mod,Nat.mod_eq_of_lt hrb]
 exact ⟨by rw [e1];exact Zjt h.dg hv.symm,by rw [e2]⟩
theorem KpB.set {Bs:Nat} {A:Option Addr} {m:Nat} {Rd:Nat->Int->Prop} {W:World} {p:Addr} (u:Value) (hp:Bs ≠ p.block) (ha:m=0 \/ ∃ b o,A=some ⟨b,o,none⟩/\b ≠ p.block):KpB Bs A m Rd W (W.setCell p u) :=
 ⟨Below.heap_setCell W p u Bs hp,fun h=>by
  rcases h with h|⟨b,o,rfl,h⟩
  ·exact .inl h
  ·rcases ha with h0|⟨b',o',e,hne⟩
   ·exact .inl h0
   ·cases e
    exact .inr ⟨b,o,rfl,fun j hj=>by
     obtain ⟨x,hx,hR⟩:=h j hj
     exact ⟨x,(World.cell?_of_block (a:=⟨b,o+j,none⟩) (Below.heap_setCell W p u b hne)).trans hx,hR⟩⟩⟩
structure SmI (w:World) (A0:Option Addr) (m c0:Nat) (by_:Int) (l0:List Int) (pre:List (Nat × Int)) (W:World):Prop where
 a:Boxed W w.heap.size 134 (.slice A0 m c0)
 d:Boxed W (w.heap.size+1) 85 (.int .u32 by_)
 o:Boxed W (w.heap.size+1+1+1) 134 (.slice (some ⟨w.heap.size+1+1,0,none⟩) m m)
 s:∃ u,Boxed W (w.heap.size+1+1+1+1+1) 134 u
 st:∃ xs rest,SmallAt by_ l0 pre.length xs rest/\Boxed W (w.heap.size+1+1+1+1) 85 (.int .u32 rest)/\W.ownsRow w.heap.size 85 1 (.slice (some ⟨w.heap.size+1+1,0,none⟩) m m) m (nums .u32 xs)
 low:Below w.heap.size w W
theorem Zgt {A W:World} {base e size n:Nat} {v:Value} {xs:List Value} {row:Option Nat} {k:Nat} (h:A.ownsRow base e size v n xs) (hg:A.grownBy W row) (hr:∀ r,row=some r->k<=r /\ ∃ o:Obj,A.heap[r]? = some o/\o.isCells=false):W.ownsRow base e size v n xs:=by
 refine h.kept hg ?_
 rcases hb:v.ownBlock with _|b
 ·exact .inl rfl
 ·refine .inr (fun e=>?_)
  obtain ⟨_,o,ho,hc⟩:=hr b e.symm
  obtain ⟨cells,hcell⟩:=Zfw h b hb
  rw [hcell] at ho
  obtain rfl:=Option.some.inj ho
  cases hc
theorem SmI.own {w:World} {A0:Option Addr} {m c0:Nat} {by_:Int} {l0:List Int} {n:Nat} (hn:w.heap.size<=n):OwnFrom n (SmI w A0 m c0 by_ l0):=by
 rintro pre A W row ⟨a,d,o,⟨u,s⟩,⟨xs,rest,h1,h2,h3⟩,hb⟩ hg hr
 exact ⟨a.kept hg (not_row hr a),d.kept hg (not_row hr d),o.kept hg (not_row hr o),⟨u,s.kept hg (not_row hr s)⟩,⟨xs,rest,h1,h2.kept hg (not_row hr h2),Zgt h3 hg hr⟩,(ownFrom_below (Nat.le_refl _) hn:OwnFrom _ (fun _:List (Nat × Int)=>Below w.heap.size w)) pre A W row hb hg hr⟩
theorem SmI.minds {w:World} {A0:Option Addr} {m c0:Nat} {by_:Int} {l0:List Int}:Minds (w.heap.size+1+1+1+1+1) (SmI w A0 m c0 by_ l0):=by
 rintro pre W u ⟨a,d,o,⟨v,s⟩,⟨xs,rest,h1,h2,h3⟩,hb⟩
 exact ⟨(Zbm W _ u _ (by omega)).trans a,(Zbm W _ u _ (by omega)).trans d,(Zbm W _ u _ (by omega)).trans o,⟨u,s.set u⟩,⟨xs,rest,h1,(Zbm W _ u _ (by omega)).trans h2,Zi5 h3 (by simp [Value.ownBlock];omega) u⟩,hb.setCell (p:=⟨w.heap.size+1+1+1+1+1,0,none⟩) (by simp;omega) u⟩
theorem Zp7 (A0:Option Addr) (c0:Nat) (l0:List Int) (by_:Int) (w:World) (hr0:Kd.C (Kd.int .u32) w A0 l0.length l0) (hc0:l0.length<=c0) (hd0:Dg 4294967296 l0) (hz0:l0.length<=1000000) (hb1:0 < by_) (hb2:by_ < 4294967296) :
  Calls Tryz.prog 143 #[.slice A0 l0.length c0,.int .u32 by_] w fun e w' => ∃ v0_:Value,e=.returned (.tuple #[v0_,.int .u32 ((num l0 % by_.toNat:Nat):Int)])/\Kd.R (Kd.int .u32) 85 w' w.heap.size (fun _=>True) v0_ (limbs (num l0 / by_.toNat))/\Below w.heap.size w w':=by
 obtain ⟨RR,hRR⟩:∃ RR:Int,((num l0 % by_.toNat:Nat):Int)=RR:=⟨_,rfl⟩
 obtain ⟨QL,hQL⟩:∃ QL:List Int,limbs (num l0 / by_.toNat)=QL:=⟨_,rfl⟩
 rw [hRR,hQL]
 have HRR:=Lib.hid hRR
 have HQL:=Lib.hid hQL
 clear hRR hQL
 refine (callsIn_wide (n:=4)).1 ?_
 refine callsIn_of_wp_marks Tryz.func143 rfl trivial ?_ rfl
 simp only [Tryz.ntmps143,List.size_toArray,List.length_cons,List.length_nil,Nat.reduceAdd,Nat.reduceSub,Array.replicate_succ,Array.replicate_zero,List.push_toArray,List.append_toArray,List.nil_append,List.cons_append]
 have e0:=Zgu hr0
 have E0:=Lib.hid e0
 clear e0 hr0
 obtain ⟨m,hm⟩:∃ m,l0.length=m:=⟨_,rfl⟩
 rw [hm] at E0 hz0 hc0 ⊢
 have HM:=Lib.hid hm
 clear hm
 obtain ⟨i0,hi,hzz⟩:=Option.map_eq_some_iff.1 info85
 simp only [Prod.mk.injEq] at hzz
 obtain ⟨hz1,hz2,hz3⟩:=hzz
 have hmk:∀ W:World,(Instr.makeSlice 134 (.int .i64 m) (.int .i64 m)).run Tryz.prog W=.ok (.slice (some ⟨W.heap.size,0,none⟩) m m) (W.alloc (.cells (madeCells #[.int .u32 0] m) 85)):=fun W=>by
  have := run_make (P:=Tryz.prog) W 134 85 i0 (.int .u32 0) Tryz.underlying134 hi hz1 .i64 .i64 (m:Int) (m:Int) (by omega) (by omega) (by rw [hz3];omega) (by omega)
  simp only [Int.toNat_natCast,hz2,Nat.mul_one] at this
  exact this
 gi_wp2_with (refine ⟨trivial,?_⟩;gi_at_call 158;refine (Zl0 _ _ _ _ _).mono ?_;rintro e w' ⟨rfl,rfl⟩)
 have bA:=((((((Boxed.new w 134 (.slice A0 m c0)).alloc (.cells #[.int .u32 by_] 85)).alloc (.cells (madeCells #[.int .u32 0] m) 85)).alloc (.cells #[.slice (some ⟨w.heap.size+1+1,0,none⟩) m m] 134)).alloc (.cells #[.int .u32 0] 85)).alloc (.cells #[.slice A0 m c0] 134))
 have bD:=(((((Boxed.new (w.alloc (.cells #[.slice A0 m c0] 134)) 85 (.int .u32 by_)).alloc (.cells (madeCells #[.int .u32 0] m) 85)).alloc (.cells #[.slice (some ⟨w.heap.size+1+1,0,none⟩) m m] 134)).alloc (.cells #[.int .u32 0] 85)).alloc (.cells #[.slice A0 m c0] 134))
 have bW:=Zcw (Zcw (Zcw (Znt ((w.alloc (.cells #[.slice A0 m c0] 134)).alloc (.cells #[.int .u32 by_] 85)) w.heap.size 85 .u32 m (by simp;omega) (by omega)) (.cells #[.slice (some ⟨w.heap.size+1+1,0,none⟩) m m] 134)) (.cells #[.int .u32 0] 85)) (.cells #[.slice A0 m c0] 134)
 have bO:=(((Boxed.new (((w.alloc (.cells #[.slice A0 m c0] 134)).alloc (.cells #[.int .u32 by_] 85)).alloc (.cells (madeCells #[.int .u32 0] m) 85)) 134 (.slice (some ⟨w.heap.size+1+1,0,none⟩) m m)).alloc (.cells #[.int .u32 0] 85)).alloc (.cells #[.slice A0 m c0] 134))
 have bR:=((Boxed.new ((((w.alloc (.cells #[.slice A0 m c0] 134)).alloc (.cells #[.int .u32 by_] 85)).alloc (.cells (madeCells #[.int .u32 0] m) 85)).alloc (.cells #[.slice (some ⟨w.heap.size+1+1,0,none⟩) m m] 134)) 85 (.int .u32 0)).alloc (.cells #[.slice A0 m c0] 134))
 have bS:=(Boxed.new (((((w.alloc (.cells #[.slice A0 m c0] 134)).alloc (.cells #[.int .u32 by_] 85)).alloc (.cells (madeCells #[.int .u32 0] m) 85)).alloc (.cells #[.slice (some ⟨w.heap.size+1+1,0,none⟩) m m] 134)).alloc (.cells #[.int .u32 0] 85)) 134 (.slice A0 m c0))
 have hB0:Below w.heap.size w ((((((w.alloc (.cells #[.slice A0 m c0] 134)).alloc (.cells #[.int .u32 by_] 85)).alloc (.cells (madeCells #[.int .u32 0] m) 85)).alloc (.cells #[.slice (some ⟨w.heap.size+1+1,0,none⟩) m m] 134)).alloc (.cells #[.int .u32 0] 85)).alloc (.cells #[.slice A0 m c0] 134)) :=
  ((((((Below.refl _ w).alloc (Nat.le_refl _) _).alloc (by simp) _).alloc (by simp;omega) _).alloc (by simp;omega) _).alloc (by simp;omega) _).alloc (by simp;omega) _
 simp only [World.size_alloc] at bA bD bW bO bR bS
 have hSt:SmallAt by_ l0 0 (List.replicate m 0) 0:=HM.out ▸ SmallAt.start hb1
 have HSt:=Lib.hid hSt
 clear hSt hmk
 obtain ⟨B,hB⟩:∃ B,w.heap.size=B:=⟨_,rfl⟩
 rw [hB] at bA bD bW bO bR bS ⊢
 have HBw:=Lib.hid bW
 clear bW
 have hA0:m=0 \/ ∃ b o,A0=some ⟨b,o,none⟩/\b < B:=by
  rcases Nat.eq_zero_or_pos m with h|h
  ·exact .inl h
  ·obtain ⟨b,o,x,hA,hc,_⟩:=E0.out.at h
   exact .inr ⟨b,o,hA,by have := World.block_lt_of_cell? w _ hc;simp at this;omega⟩
 have HA0:=Lib.hid hA0
 clear hA0
 refine Zd9 (b:=B+1+1+1+1+1) rfl (by decide) (gf:=184) (lb:=#[.pointer (some ⟨B+1+1+1+1+1,0,none⟩)]) rfl trivial (enters_of Tryz.func184 (by kernel_rfl) rfl)
  (Zhu 3 (by omega) (B+1+1+1+1+1) A0 m c0 (fun j x=>x=l0.getD j 0) (by omega) _ bS (E0.out.below (by rw [<- hB];exact hB0))) (by simp;omega) (fun h k=>h.trans k)
  (fun W l o o' hl ho hc hw=>KpB.put (by simp at hl;omega) ho hc) (Below.refl _ _) (fun _=>rfl)
  (SmI w A0 m c0 by_ l0) (fun _ _ _=>False) (SmI.own (by simp;omega)) (fun _=>by rintro pre A W row h;exact h.elim) (by rw [<- hB];exact SmI.minds) ?start
  (fun x=>{ tmps:=#[.slice A0 m c0,.int .u32 by_,.pointer (some ⟨B,0,none⟩),.pointer (some ⟨B+1,0,none⟩),.slice none 0 0,.int .u32 0,.pointer (some ⟨B+1+1+1,0,none⟩),.pointer (some ⟨B+1+1+1+1,0,none⟩),.int .i64 x.1,.slice A0 m c0,
   .int .i64 m,.slice (some ⟨B+1+1,0,none⟩) m m,.slice A0 m c0,.func (.func 184) #[] #[.pointer (some ⟨B+1+1+1+1+1,0,none⟩)],.int .i64 x.1,.int .u32 x.2,
   undef,undef,undef,undef,undef,undef,undef,undef,undef,undef,undef,undef,undef,undef,undef,undef],defers:=[] }) ?assign ?body ?done ?stop
 case start=>exact ⟨by rw [hB];exact bA,by rw [hB];exact bD,by rw [hB];exact bO,⟨_,by rw [hB];exact bS⟩,⟨_,_,HSt.out,by rw [hB];exact bR,by rw [hB];exact HBw.out⟩,by rw [<- hB];exact hB0⟩
 case assign =>
  intro l x W K hK
  gi_wp2
  exact hK
 case body =>
  rintro l pre x W ⟨a,d,o,⟨u,s⟩,⟨xs,rest,hst,r,hrow⟩,hb⟩ hlen hsp
  obtain ⟨hx1,hx2⟩:=hsp.2 pre.length x (by simp)
  obtain ⟨i,y⟩:=x
  simp only at hx1 hx2
  have hi':i < m:=by omega
  obtain ⟨b0,o0,x0,hA0',hc0',hx0⟩:=(E0.out.below hb).at hi'
  subst hA0'
  rw [hB] at a d o r s hrow
  have hac:=a.cell
  have hdc:=d.cell
  have hoc:=o.cell
  have hrc:=r.cell
  have hrf:=r.frozen
  have hi0:(0:Int)<=(i:Int):=by omega
  have hi1:(i:Int) < (m:Int):=by omega
  have hcw:=Zgk hrow (i:Int) hi0 hi1
  rw [Int.toNat_natCast] at hcw
  have hcc:=hcw.1
  have hcf:=hcw.2
  have hlm:=HM.out
  have hxE:l0.getD (l0.length - 1 - pre.length) 0=x0:=by rw [hlm,<- hx1];exact hx0.symm
  have hst':=hst.step hb1 hb2 hd0 (by omega)
  rw [hxE,hlm,<- hx1] at hst'
  have hx0r:0<=x0/\x0 < 4294967296:=by
   have hin:i < l0.length:=by omega
   rw [hx0,List.getD,List.getElem?_eq_getElem hin]
   exact hd0 _ (List.getElem_mem hin)
  have cD:=fun W:World=>div32 rest x0 by_ W hst.r0 hst.r1 hx0r.1 hx0r.2 hb2
  obtain ⟨q,hq⟩:∃ q,(rest*4294967296+x0) / by_=q:=⟨_,rfl⟩
  obtain ⟨z,hz⟩:∃ z,(rest*4294967296+x0) % by_=z:=⟨_,rfl⟩
  rw [hq,hz] at cD hst'
  have HST:=Lib.hid hst'
  have HRb:=Lib.hid r
  have HSb:=Lib.hid s
  have HAb:=Lib.hid a
  have HDb:=Lib.hid d
  have HOb:=Lib.hid o
  have HRow:=Lib.hid hrow
  have HB:=Lib.hid hb
  clear hq hz hst hst' hxE hx0r hlm hcw r s a d o hrow hb hsp hx2 hx0
  have HX1:=Lib.hid hx1
  clear hx1
  gi_wp2
  rename_i K hK
  have hS0:∀ W':World,W'.heap=W.heap->W'.cell? ⟨B+1+1+1,0,none⟩=some (.slice (some ⟨B+1+1,0,none⟩) m m)/\W'.cell? ⟨B,0,none⟩=some (.slice (some ⟨b0,o0,none⟩) m c0)/\W'.cell? ⟨B+1,0,none⟩=some (.int .u32 by_)/\W'.cell? ⟨b0,o0+i,none⟩=some (.int .u32 x0):=fun W' hW'=>⟨(World.cell?_of_block (by rw [hW'])).trans hoc,(World.cell?_of_block (by rw [hW'])).trans hac,(World.cell?_of_block (by rw [hW'])).trans hdc,(World.cell?_of_block (by rw [hW'])).trans hc0'⟩
  have hb0B:b0 < B:=by
   rcases HA0.out with h|⟨b,o,hA,hlt⟩
   ·omega
   ·cases hA;exact hlt
  have hS1:∀ (W':World) (p:Addr) (u:Value),(p.block=B+1+1\/p.block=B+1+1+1+1)->(W'.cell? ⟨B+1+1+1,0,none⟩=some (.slice (some ⟨B+1+1,0,none⟩) m m)/\W'.cell? ⟨B,0,none⟩=some (.slice (some ⟨b0,o0,none⟩) m c0)/\W'.cell? ⟨B+1,0,none⟩=some (.int .u32 by_)/\W'.cell? ⟨b0,o0+i,none⟩=some (.int .u32 x0)) ->
    ((W'.setCell p u).cell? ⟨B+1+1+1,0,none⟩=some (.slice (some ⟨B+1+1,0,none⟩) m m)/\(W'.setCell p u).cell? ⟨B,0,none⟩=some (.slice (some ⟨b0,o0,none⟩) m c0)/\(W'.setCell p u).cell? ⟨B+1,0,none⟩=some (.int .u32 by_)/\(W'.setCell p u).cell? ⟨b0,o0+i,none⟩=some (.int .u32 x0)):=fun W' p u hp hs =>
   ⟨(World.cell?_of_block (Below.heap_setCell W' p u (B+1+1+1) (by omega))).trans hs.1,(World.cell?_of_block (Below.heap_setCell W' p u B (by omega))).trans hs.2.1,(World.cell?_of_block (Below.heap_setCell W' p u (B+1) (by omega))).trans hs.2.2.1,(World.cell?_of_block (Below.heap_setCell W' p u b0 (by omega))).trans hs.2.2.2⟩
  refine wpIn_region_any (by kernel_rfl) (Ze7 (by kernel_rfl) (fun h=>by obtain ⟨_,_,h⟩:=h;exact h) _ _ _ _ (wpAny_of_held (S:=fun W':World=>W'.cell? ⟨B+1+1+1,0,none⟩=some (.slice (some ⟨B+1+1,0,none⟩) m m)/\W'.cell? ⟨B,0,none⟩=some (.slice (some ⟨b0,o0,none⟩) m c0)/\W'.cell? ⟨B+1,0,none⟩=some (.int .u32 by_)/\W'.cell? ⟨b0,o0+i,none⟩=some (.int .u32 x0)) _ _ _ _ ?_))
  refine wpAnyH_take (i:=0) rfl (by kernel_rfl) (by kernel_rfl) (by kernel_rfl) (fun _ _ _ h=>h) (v:=.slice (some ⟨B+1+1,0,none⟩) m m) (.inl ⟨by kernel_rfl,fun w hw=>?_⟩) (hS0 _ rfl) ?_
  ·obtain ⟨h1,h2,h3,h4⟩:=hw
   simp [execOp,Act.eval,go_sem,h1]
  refine wpAnyH_take (i:=1) rfl (by kernel_rfl) (by kernel_rfl) (by kernel_rfl) (fun _ _ _ h=>h) (.inl ⟨rfl,fun w hw=>rfl⟩) (hS0 _ rfl) ?_
  refine wpAnyH_take (i:=3) rfl (by kernel_rfl) (by kernel_rfl) (by kernel_rfl) (fun _ _ _ h=>h) (v:=.slice (some ⟨b0,o0,none⟩) m c0) (.inl ⟨by kernel_rfl,fun w hw=>?_⟩) (hS0 _ rfl) ?_
  ·obtain ⟨h1,h2,h3,h4⟩:=hw
   simp [execOp,Act.eval,go_sem,h2]
  refine wpAnyH_take (i:=4) rfl (by kernel_rfl) (by kernel_rfl) (by kernel_rfl) (fun _ _ _ h=>h) (.inl ⟨rfl,fun w hw=>rfl⟩) (hS0 _ rfl) ?_
  refine wpAnyH_take (i:=5) rfl (by kernel_rfl) (by kernel_rfl) (by kernel_rfl) (fun _ _ _ h=>h) (v:=.pointer (some ⟨b0,o0+i,none⟩)) (.inl ⟨by kernel_rfl,fun w hw=>?_⟩) (hS0 _ rfl) ?_
  ·simp [execOp,Act.eval,go_sem,hi0,hi1]
  refine wpAnyH_take (i:=6) rfl (by kernel_rfl) (by kernel_rfl) (by kernel_rfl) (fun _ _ _ h=>h) (v:=.int .u32 x0) (.inl ⟨by kernel_rfl,fun w hw=>?_⟩) (hS0 _ rfl) ?_
  ·obtain ⟨h1,h2,h3,h4⟩:=hw
   simp [execOp,Act.eval,go_sem,h4]
  refine wpAnyH_take (i:=7) rfl (by kernel_rfl) (by kernel_rfl) (by kernel_rfl) (fun _ _ _ h=>h) (v:=.int .u32 by_) (.inl ⟨by kernel_rfl,fun w hw=>?_⟩) (hS0 _ rfl) ?_
  ·obtain ⟨h1,h2,h3,h4⟩:=hw
   simp [execOp,Act.eval,go_sem,h3]
  have hrc':W.drew.cell? ⟨B+1+1+1+1,0,none⟩=some (.int .u32 rest):=hrc
  refine Zqc (i:=2) (by kernel_rfl) rfl (by kernel_rfl) (v:=.int .u32 rest) (w':=W.drew) ?_ (hS0 _ rfl) ?_
  ·simp [execOp,Act.eval,go_sem,hrc']
  have e169:=enters_of Tryz.func169 (by kernel_rfl) rfl
  refine Zhg (i:=8) (by kernel_rfl) rfl (by kernel_rfl) (f:=169) (args:=#[.int .u32 rest,.int .u32 x0,.int .u32 by_]) ?_ (cD _) ?_
  ·simp [execOp,Act.eval,go_sem,e169]
  rintro e w' ⟨rfl,nq,rfl⟩
  refine ⟨_,rfl,hS0 _ rfl,?_⟩
  simp only [Act.put,List.setIfInBounds_toArray,List.set_cons_zero,List.set_cons_succ]
  refine wpAnyH_take (i:=9) rfl (by kernel_rfl) (by kernel_rfl) (by kernel_rfl) (fun _ _ _ h=>h) (.inl ⟨rfl,fun w hw=>rfl⟩) (hS0 _ rfl) ?_
  refine wpAnyH_take (i:=10) rfl (by kernel_rfl) (by kernel_rfl) (by kernel_rfl) (fun _ _ _ h=>h) (v:=.int .u32 q) (.inl ⟨by kernel_rfl,fun w hw=>?_⟩) (hS0 _ rfl) ?_
  ·simp [execOp,Act.eval,go_sem]
  refine wpAnyH_take (i:=11) rfl (by kernel_rfl) (by kernel_rfl) (by kernel_rfl) (fun _ _ _ h=>h) (v:=.int .u32 z) (.inl ⟨by kernel_rfl,fun w hw=>?_⟩) (hS0 _ rfl) ?_
  ·simp [execOp,Act.eval,go_sem]
  refine wpAnyH_take (i:=12) rfl (by kernel_rfl) (by kernel_rfl) (by kernel_rfl) (fun _ _ _ h=>h) (v:=.pointer (some ⟨B+1+1,i,none⟩)) (.inl ⟨by kernel_rfl,fun w hw=>?_⟩) (hS0 _ rfl) ?_
  ·simp [execOp,Act.eval,go_sem,hi0,hi1]
  obtain ⟨W1,hW1⟩:∃ W1,W.drew.drewN nq=W1:=⟨_,rfl⟩
  rw [hW1]
  have hS2:=hS0 W1 (by rw [<- hW1];rfl)
  have hcc':W1.cell? ⟨B+1+1,i,none⟩=some (.int .u32 (rd xs i)):=hW1 ▸ hcc
  have hcf':W1.frozen? ⟨B+1+1,i,none⟩=false:=hW1 ▸ hcf
  refine Znr (i:=13) (by kernel_rfl) rfl (by kernel_rfl) (w':=W1.setCell ⟨B+1+1,i,none⟩ (.int .u32 q)) ?_ (hS1 _ _ _ (.inl rfl) hS2) ?_
  ·simp [execOp,Act.eval,go_sem,hcc',hcf']
  have hne:(W1.setCell ⟨B+1+1,i,none⟩ (.int .u32 q)).heap[B+1+1+1+1]? = W1.heap[B+1+1+1+1]?:=Below.heap_setCell _ ⟨B+1+1,i,none⟩ _ _ (by show B+1+1+1+1 ≠ B+1+1;omega)
  have hrc1:W1.cell? ⟨B+1+1+1+1,0,none⟩=some (.int .u32 rest):=hW1 ▸ hrc
  have hrf1:W1.frozen? ⟨B+1+1+1+1,0,none⟩=false:=hW1 ▸ hrf
  have hrc2:(W1.setCell ⟨B+1+1,i,none⟩ (.int .u32 q)).cell? ⟨B+1+1+1+1,0,none⟩=some (.int .u32 rest):=(World.cell?_of_block (a:=⟨B+1+1+1+1,0,none⟩) hne).trans hrc1
  have hrf2:(W1.setCell ⟨B+1+1,i,none⟩ (.int .u32 q)).frozen? ⟨B+1+1+1+1,0,none⟩=false:=by
   rw [<- hrf1]
   simp only [World.frozen?,hne]
  have hS3:=hS1 _ ⟨B+1+1,i,none⟩ (.int .u32 q) (.inl rfl) hS2
  obtain ⟨W2,hW2⟩:∃ W2,W1.setCell ⟨B+1+1,i,none⟩ (.int .u32 q)=W2:=⟨_,rfl⟩
  rw [hW2] at hrc2 hrf2 hS3 ⊢
  refine Znr (i:=14) (by kernel_rfl) rfl (by kernel_rfl) (w':=W2.setCell ⟨B+1+1+1+1,0,none⟩ (.int .u32 z)) ?_ (hS1 _ _ _ (.inr rfl) hS3) ?_
  ·simp [execOp,Act.eval,go_sem,hrc2,hrf2]
  refine wpAnyH_done (by kernel_rfl) ?_ _
  have hWW:W1.heap=W.heap:=by rw [<- hW1];rfl
  have hK1:KeepsOthers W W1:=by rw [<- hW1];exact ⟨Nat.le_refl _,fun k o h _=>h⟩
  have hKp1:KpB (B+1+1+1+1+1) (some ⟨b0,o0,none⟩) m (fun j x=>x=l0.getD j 0) W W1:=by rw [<- hW1];exact ⟨rfl,fun h=>h⟩
  have hb1':Below w.heap.size w W1:=by rw [<- hW1];exact Zaz (Zbh HB.out) nq
  have hrow1:W1.ownsRow B 85 1 (.slice (some ⟨B+1+1,0,none⟩) m m) m (nums .u32 xs):=by rw [<- hW1];exact HRow.out
  have far:∀ {k t:Nat} {v:Value},k ≠ B+1+1->k ≠ B+1+1+1+1->Boxed W k t v->Boxed (W2.setCell ⟨B+1+1+1+1,0,none⟩ (.int .u32 z)) k t v:=fun {k t v} h1 h2 hv =>
   (Below.heap_setCell W2 ⟨B+1+1+1+1,0,none⟩ _ k h2).trans (by rw [<- hW2];exact (Below.heap_setCell W1 ⟨B+1+1,i,none⟩ _ k h1).trans (by rw [hWW];exact hv))
  have hst1:=Zfv hrow1 (i:Int) q
  rw [Int.toNat_natCast,hW2] at hst1
  refine ⟨?_,?_,?_⟩
  ·rw [<- hW2]
   exact ((hK1.trans (KeepsOthers.setCell W1 ⟨B+1+1,i,none⟩ (.int .u32 q))).trans (KeepsOthers.setCell _ ⟨B+1+1+1+1,0,none⟩ (.int .u32 z))).from _
  ·rw [<- hW2]
   exact hKp1.trans ((KpB.set (p:=⟨B+1+1,i,none⟩) _ (by show B+1+1+1+1+1 ≠ B+1+1;omega) (.inr ⟨b0,o0,rfl,by show b0 ≠ B+1+1;omega⟩)).trans (KpB.set (p:=⟨B+1+1+1+1,0,none⟩) _ (by show B+1+1+1+1+1 ≠ B+1+1+1+1;omega) (.inr ⟨b0,o0,rfl,by show b0 ≠ B+1+1+1+1;omega⟩)))
  ·refine ⟨by rw [hB];exact far (by omega) (by omega) HAb.out,by rw [hB];exact far (by omega) (by omega) HDb.out,by rw [hB];exact far (by omega) (by omega) HOb.out,⟨_,by rw [hB];exact far (by omega) (by omega) HSb.out⟩,⟨xs.set i q,z,by rw [List.length_append];exact HST.out,?_,?_⟩,?_⟩
   ·rw [hB]
    refine Boxed.set (v:=.int .u32 rest) (.int .u32 z) ?_
    show W2.heap[B+1+1+1+1]? = _
    rw [<- hW2,hne,hWW]
    exact HRb.out
   ·rw [hB]
    exact Zi5 hst1.1 (by simp [Value.ownBlock];omega) _
   ·rw [<- hW2]
    exact (hb1'.setCell (p:=⟨B+1+1,i,none⟩) (by simp;omega) _).setCell (p:=⟨B+1+1+1+1,0,none⟩) (by simp;omega) _
 case done =>
  rintro D ys W hD ⟨hp,hpl⟩ ⟨a,d,o,_,⟨xs,rest,hst,r,hrow⟩,hb⟩ hK
  rw [hB] at a d o r hrow
  have hlm:=HM.out
  have hlen:xs.length=m:=hst.len.trans hlm
  have hyl:ys.length=l0.length:=by omega
  rw [hyl] at hst
  obtain ⟨hq,hr2⟩:=hst.done hd0
  rw [hr2,HRR.out] at r
  rw [HQL.out] at hq
  have hrow':W.ownsRow w.heap.size 85 1 (.slice (some ⟨B+1+1,0,none⟩) m m) xs.length (encs (Value.int .u32) xs):=by rw [hlen,hB];exact hrow
  have hR:Kd.R (Kd.int .u32) 85 W w.heap.size (fun k=>k=B+1+1) (.slice (some ⟨B+1+1,0,none⟩) m m) xs:=Kd.Zdk (enc:=Value.int .u32) hrow' (fun k hk=>by simp [Value.ownBlock] at hk;exact hk.symm)
  have hDlt:D < W.heap.size:=by
   have := (Array.getElem?_eq_some_iff.1 hK).1
   exact this
  have hD2:B+1+1 < D:=by simp at hD;omega
  have hoc:=o.cell
  have hrc:=r.cell
  have hsz:B+1+1+1+1 < W.heap.size:=World.block_lt_of_cell? W _ hrc
  have cT:=Zz.calls (xs.length+1) (fun k=>k=B+1+1) _ xs (trimL xs) w W.drew (Zbh hb) (Kd.Zh5 hR) (Zup xs (Nat.lt_succ_self _) (by omega))
  rw [hq] at cT
  have HK:=Lib.hid hK
  have HBb:=Lib.hid hb
  clear hK hb hR hrow' hrow hst hq hr2 a d hp hpl hyl hlm
  gi_wp2
  rename_i K1 hK1
  have e132:=enters_of Tryz.func132 (by kernel_rfl) rfl
  have hS0:∀ W':World,(∀ k,k < W.heap.size->k ≠ B+1+1->W'.heap[k]? = W.heap[k]?)->W'.cell? ⟨B+1+1+1,0,none⟩=some (.slice (some ⟨B+1+1,0,none⟩) m m)/\W'.cell? ⟨B+1+1+1+1,0,none⟩=some (.int .u32 RR):=fun W' hW' =>
   ⟨(World.cell?_of_block (hW' (B+1+1+1) (by omega) (by omega))).trans hoc,(World.cell?_of_block (hW' (B+1+1+1+1) (by omega) (by omega))).trans hrc⟩
  refine Zg1 (fun W':World=>W'.cell? ⟨B+1+1+1,0,none⟩=some (.slice (some ⟨B+1+1,0,none⟩) m m)/\W'.cell? ⟨B+1+1+1+1,0,none⟩=some (.int .u32 RR)) (by kernel_rfl) ?_
  refine wpAnyH_take (i:=0) rfl (by kernel_rfl) (by kernel_rfl) (by kernel_rfl) (fun _ _ _ h=>h) (v:=.slice (some ⟨B+1+1,0,none⟩) m m) (.inl ⟨by kernel_rfl,fun w hw=>?_⟩) (hS0 _ (fun _ _ _=>rfl)) ?_
  ·simp [execOp,Act.eval,go_sem,hw.1]
  refine wpAnyH_take (i:=2) rfl (by kernel_rfl) (by kernel_rfl) (by kernel_rfl) (fun _ _ _ h=>h) (v:=.int .u32 RR) (.inl ⟨by kernel_rfl,fun w hw=>?_⟩) (hS0 _ (fun _ _ _=>rfl)) ?_
  ·simp [execOp,Act.eval,go_sem,hw.2]
  refine Zhg (i:=1) (by kernel_rfl) rfl (by kernel_rfl) (f:=132) (args:=#[.slice (some ⟨B+1+1,0,none⟩) m m]) ?_ cT ?_
  ·simp [execOp,Act.eval,go_sem,e132]
  rintro e w' ⟨v0,rfl,hRv,hbv,hkp⟩
  have hS2:=hS0 w' (fun k h1 h2=>hkp.2 k h1 h2)
  refine ⟨_,rfl,hS2,?_⟩
  refine wpAnyH_take (i:=3) rfl (by kernel_rfl) (by kernel_rfl) (by kernel_rfl) (fun _ _ _ h=>h) (v:=v0) (.inl ⟨by kernel_rfl,fun w hw=>?_⟩) hS2 ?_
  ·simp [execOp,Act.eval,go_sem]
  refine wpAnyH_take (i:=4) rfl (by kernel_rfl) (by kernel_rfl) (by kernel_rfl) (fun _ _ _ h=>h) (v:=.int .u32 RR) (.inl ⟨by kernel_rfl,fun w hw=>?_⟩) hS2 ?_
  ·simp [execOp,Act.eval,go_sem]
  refine wpAnyH_done (by kernel_rfl) ?_ _
  refine NoPanic.normal ?_
  refine hK1 _ _ ?_
  show Code.wpIn _ _ _ _ _ { tmps:=#[.slice A0 m c0,.int .u32 by_,.pointer (some ⟨B,0,none⟩),.pointer (some ⟨B+1,0,none⟩),v0,.int .u32 RR,.pointer (some ⟨B+1+1+1,0,none⟩),.pointer (some ⟨B+1+1+1+1,0,none⟩),undef,.slice A0 m c0,
   .int .i64 m,.slice (some ⟨B+1+1,0,none⟩) m m,.slice A0 m c0,.func (.func 184) #[] #[.pointer (some ⟨B+1+1+1+1+1,0,none⟩)],undef,undef,
   undef,undef,undef,undef,undef,undef,undef,undef,undef,undef,undef,undef,undef,.slice (some ⟨B+1+1,0,none⟩) m m,v0,.int .u32 RR],defers:=[{ target:=.collected D,args:=#[] }] } _
  clear hK1
  gi_wp2
  have hDn:∀ k,k < W.heap.size->k ≠ B+1+1->w'.heap[k]? = W.heap[k]?:=fun k h1 h2=>hkp.2 k h1 h2
  have hK':w'.heap[D]? = some (.deferred (some [])):=(hDn D hDlt (by omega)).trans HK.out
  refine ⟨by simp,.inl ⟨_,_,rfl,run_takeDeferred hK',?_⟩⟩
  refine ⟨_,by simp [results,Tryz.f143,go_sem],v0,rfl,?_,?_⟩
  ·refine Kd.Zo (Kd.Zlz hRv (grownBy_putObj' _ D (.deferred none)) (fun k hk e=>?_)) (fun _ _=>trivial)
   cases e
   rcases hk with h|h
   ·omega
   ·exact absurd hDlt (by simp at h;omega)
  ·exact hbv.trans (belowK_b (w:=w) (Nat.le_refl _) _ D _ _ (by omega) hK' rfl rfl)
 case stop =>
  rintro D c pre W hD hpre h hK
  exact h.elim
def Zc0.f (l0:List Int) (a1:Int):Option (List Int × Int):=if okW l0 && (decide (0 < a1) && decide (a1 < 4294967296)) then some (limbs (num l0 / a1.toNat),((num l0 % a1.toNat:Nat):Int)) else none
theorem Zc0.calls (A0:Option Addr) (c0:Nat) (l0:List Int) (a1:Int) (r1:List Int) (r2:Int) (w:World) (hr0:Kd.C (Kd.int .u32) w A0 l0.length l0) (hc0:l0.length<=c0) (h:Zc0.f l0 a1=some (r1,r2)) :
  Calls Tryz.prog 143 #[.slice A0 l0.length c0,.int .u32 a1] w fun e w' => ∃ v0_:Value,e=.returned (.tuple #[v0_,.int .u32 r2])/\Kd.R (Kd.int .u32) 85 w' w.heap.size (fun _=>True) v0_ r1/\Below w.heap.size w w':=by
 unfold Zc0.f at h
 split at h
 case isFalse=>cases h
 case isTrue hk =>
 simp only [Bool.and_eq_true,Ze0,decide_eq_true_eq] at hk
 obtain ⟨rfl,rfl⟩:=Prod.mk.inj (Option.some.inj h)
 exact Zp7 A0 c0 l0 a1 w hr0 hc0 hk.1.dg hk.1.len hk.2.1 hk.2.2
end YtjbjkmccfocikaaGreatDoor.B
end
section
namespace YtjbjkmccfocikaaGreatDoor.B
open Go.RowKit YtjbjkmccfocikaaGreatDoorW.PrintWords YtjbjkmccfocikaaGreatDoorW.PrintLast YtjbjkmccfocikaaGreatDoorW.PrintMore
attribute [local go_sem] Zch Zci Zc9 Zda Zb1 Zb2 Zcp Zcq
mutual
def Zax.l0:Nat->List Int->List Int->Option (ByteArray × Int)
 | 0,_,_=>none
 | k+1,x5,x6=>if (x6.length:Int) > 0 then ((Zc0.f x6 1000000000).bind fun qg=>(Zax.l1 k x5 qg.1 qg.2 0)) else (if (x5.length:Int)=0 then (some ((⟨#[48]⟩:ByteArray),0)) else ((Zr.f k x5).bind fun qh=>(some (strOfNums qh,0))))
def Zax.l1:Nat->List Int->List Int->Int->Int->Option (ByteArray × Int)
 | 0,_,_,_,_=>none
 | k+1,x5,x7,x8,x9=>if x9 < 9 then (if (x7.length:Int) > 0 then (if x5.length < 140737488355328 then (Zax.l1 k (x5 ++ [(48+(Int.tmod x8 10)) % 256]) x7 ((Int.tdiv x8 10) % 4294967296) (wrap64 (x9+1))) else (none)) else (if x8 > 0 then (if x5.length < 140737488355328 then (Zax.l1 k (x5 ++ [(48+(Int.tmod x8 10)) % 256]) x7 ((Int.tdiv x8 10) % 4294967296) (wrap64 (x9+1))) else (none)) else (Zax.l0 k x5 x7))) else (Zax.l0 k x5 x7)
end
def Zax.f (k:Nat) (l0:List Int):Option (ByteArray × Int):=(Za2.f l0).bind fun qb=>(if qb=0 then (Zax.l0 k ([]:List Int) l0) else (some ((⟨#[]⟩:ByteArray),qb)))
theorem Zax.calls (k:Nat) (P0_:Nat->Prop) (A0:Option Addr) (c0:Nat) (l0:List Int) (r1:ByteArray) (r2:Int) (w:World) (hs0:Kd.V (Kd.int .u32) 85 w w.heap.size (fun k_=>P0_ k_) (.slice A0 l0.length c0) l0) (h:Zax.f k l0=some (r1,r2)) :
  Calls Tryz.prog 112 #[.slice A0 l0.length c0] w fun e w'=>e=.returned (.tuple #[.string r1,.int .i64 r2])/\Below w.heap.size w w':=by
 have HO0:=am (show Kd.V (Kd.int .u32) 85 w w.heap.size (fun k_=>(P0_ k_\/w.heap.size<=k_)) (.slice A0 l0.length c0) l0 from Kd.Zb5 hs0 (fun k_ hk=>.inl hk))
 have HB:=am (Below.refl w.heap.size w)
 have H:((Za2.f l0).bind fun qb=>(if qb=0 then (Zax.l0 k ([]:List Int) l0) else (some ((⟨#[]⟩:ByteArray),qb))))=some (r1,r2):=h
 clear h
 replace H:=ob H
 obtain ⟨qb,A2,H⟩:=H
 replace H:=eI H
 rcases H with ⟨c3b0,c3b1,H⟩|⟨c3,c3b0,c3b1,H⟩
 ·have H':=am H
  clear H
  go_enter Tryz.func112,Tryz.ntmps112
  go_wp2_with (first|(refine gL (some 11) Tryz.func108 #[.slice A0 l0.length c0] (h:=?_);(with_reducible refine (Za2.calls _ _ l0 qb _ ?side1 ?side2 A2.o).mono ?_);(case side1=>exact Kd.Zi (Kd.Za5 HO0.o).2.2 pl);(case side2=>exact (Kd.Za5 HO0.o).2.1);rintro e w' ⟨rfl,⟨nd,rfl⟩⟩;refine ⟨_,rfl,?_⟩))
  go_loopg [5,6] k (fun kq v5 v6 w' => ∃ (x5_1:List Int) (x6_1:List Int),Aside0 (Zax.l0 kq x5_1 x6_1=some (r1,r2))/\Aside0 (kq<=k)/\Aside0 (Kd.R (Kd.int .u8) 5 w' w.heap.size (fun k_=>(w.heap.size<=k_)) v5 x5_1)/\Aside0 (Kd.V (Kd.int .u32) 85 w' w.heap.size (fun k_=>(P0_ k_\/w.heap.size<=k_)/\some k_ ≠ (v5:Value).ownBlock) v6 x6_1)/\Aside0 (Below w.heap.size w w'))
  case atStart=>exact ⟨(([]:List Int)),(l0),H',⟨Nat.le_refl _⟩,⟨pN⟩,⟨by refine vp ?_;exact Kd.Zb5 HO0.o (fun _ hk=>⟨hk,(by simp [Value.ownBlock])⟩)⟩,⟨pB⟩⟩
  case round =>
   clear H'
   obtain ⟨x5_1,x6_1,HA,HK1,HO_5,HO_6,HB⟩:=hrel
   cases gk with
   | zero=>exact absurd HA.out (by simp [Zax.l0])
   | succ k1 =>
    have H:=HA.out
    clear HA
    simp only [Zax.l0] at H
    by_cases c4:(x6_1.length:Int) > 0
    ·rw [if_pos c4] at H
     have c4b0:decide (0 < (x6_1.length:Int))=true:=decide_eq_true c4
     have c4b1:decide (0 < x6_1.length)=true:=decide_eq_true (by omega)
     clear c4
     replace H:=ob H
     obtain ⟨⟨qa,qn⟩,A5,H⟩:=H;(try dsimp only at H)
     have H':=am H
     clear H
     obtain ⟨Ao6,co6,eo6⟩:=Kd.Zew HO_6.o
     subst eo6
     go_wp2_with (first|(refine gL (some 21) Tryz.func143 #[.slice Ao6 x6_1.length co6,.int .u32 1000000000] (h:=?_);(with_reducible refine (Zc0.calls _ _ x6_1 1000000000 qa qn _ ?side1 ?side2 A5.o).mono ?_);(case side1=>exact Kd.Zi (Kd.Za5 HO_6.o).2.2 pl);(case side2=>exact (Kd.Za5 HO_6.o).2.1);rintro e w7 ⟨qx,rfl,ho0,hb⟩;refine ⟨_,rfl,?_⟩;replace HO_5:=rbl HO_5 hb;replace HO_6:=am (Kd.Zcx (Kd.Zbn HO_6.o pl) (Kd.Zt ho0) hb);have qi:=am (Kd.Zn (Kd.Zd4 (M:=fun k_=>(w.heap.size<=k_)) ho0 (Zb pB) (fun k_ h_=>h_)) (Zb pB));replace HB:=bS hb))
     go_loopg [5,8,9] k1 (fun kq v5 v8 v9 w' => ∃ (x5_2:List Int) (x8_2:Int) (x9_2:Int),v8=.int .u32 x8_2/\v9=.int .i64 x9_2/\Aside0 (Zax.l1 kq x5_2 qa x8_2 x9_2=some (r1,r2))/\Aside0 (kq<=k1)/\Aside0 (Kd.R (Kd.int .u8) 5 w' w.heap.size (fun k_=>(w.heap.size<=k_)) v5 x5_2)/\Aside0 (Kd.R (Kd.int .u32) 85 w' w.heap.size (fun k_=>(w.heap.size<=k_)) qx qa)/\Aside0 (Below w.heap.size w w'))
     case atStart=>exact ⟨(x5_1),(qn),(0),pR,pR,H',⟨Nat.le_refl _⟩,⟨by refine rp ?_;exact HO_5.o⟩,⟨by refine rp ?_;exact Kd.Zo qi.o (fun _ hk=>hk.1)⟩,⟨pB⟩⟩
     case round =>
      clear H'
      obtain ⟨x5_2,x8_2,x9_2,rfl,rfl,HA,HK2,HO_5,HO_7,HB⟩:=hrel
      cases gk with
      | zero=>exact absurd HA.out (by simp [Zax.l1])
      | succ k2 =>
       have H:=HA.out
       clear HA
       simp only [Zax.l1] at H
       replace H:=dI H
       rcases H with ⟨c8b0,H⟩|⟨c8b0,H⟩
       ·by_cases c9:(qa.length:Int) > 0
        ·rw [if_pos c9] at H
         have c9b0:decide (0 < (qa.length:Int))=true:=decide_eq_true c9
         have c9b1:decide (0 < qa.length)=true:=decide_eq_true (by omega)
         clear c9
         by_cases c10:x5_2.length < 140737488355328
         ·rw [if_pos c10] at H
          have LMc10:=am c10
          clear c10
          obtain ⟨qo,qc⟩:∃ y_:List Int,y_=(x5_2 ++ [(48+(Int.tmod x8_2 10)) % 256]):=⟨_,rfl⟩
          replace H:(Zax.l1 k2 qo qa ((Int.tdiv x8_2 10) % 4294967296) (wrap64 (x9_2+1)))=some (r1,r2):=by have hy_:=qc;exact pH
          have ql:=am qc
          clear qc
          have H':=am H
          clear H
          obtain ⟨qy,q4,qq⟩:=Kd.Zh HO_7.o
          subst qq
          go_wp2_with (first|((with_reducible refine Zar (b:=.append) (xs:=#[.tmp 37,.tmp 42]) rfl ?_);(try (refine Za1 (by rfl) ?_;dsimp only));at_builtin;refine Kd.Zb3 (Kd.int .u8) (w0:=w) w.heap.size rfl (.tmp 37) (.tmp 42) 146 5 (.int .u8 0) 1 rfl Tryz.underlying146 info5 rfl (by decide) (by omega) u5 x5_2 ((48+(Int.tmod x8_2 10)) % 256) [.int .u8 ((48+(Int.tmod x8_2 10)) % 256)] (fun k_=>(w.heap.size<=k_)) (fun _=>False) rfl rfl ?aP (fun _ hk=>hk.elim) ?aF ?aO ?aB ?aS ?aL ?_;(case aP=>exact rfl);(case aB=>exact pB);(case aF=>exact (fun k_ hk=>(Nat.le_trans (Zb pB) hk)));(case aO=>exact (Kd.Za HO_5.o pl));(case aS=>exact (Zb pB));(case aL=>have := LMc10.o;omega);intro ja w12 ho hb hg hat;rw [<- ql.out] at ho;have qj:=am ho;replace HO_7:=am (Kd.Zj1 (Kd.Za HO_7.o pl) (Kd.Zht (Kd.Za HO_5.o pl)) (by decide) hg);replace HB:=am hb;clear HO_5 ho hb hg hat))
          go_roundg k2
          case measure=>exact pM
          case rel=>exact ⟨(qo),((Int.tdiv x8_2 10) % 4294967296),(wrap64 (x9_2+1)),pR,pR,H',pJ,⟨by refine rp ?_;exact qj.o⟩,⟨by refine rp ?_;exact HO_7.o⟩,⟨pB⟩⟩
         ·rw [if_neg c10] at H
          cases H
        ·rw [if_neg c9] at H
         have c9b0:decide (0 < (qa.length:Int))=false:=decide_eq_false c9
         have c9b1:decide (0 < qa.length)=false:=decide_eq_false (by omega)
         clear c9
         replace H:=gI H
         rcases H with ⟨c13b0,H⟩|⟨c13b0,H⟩
         ·by_cases c14:x5_2.length < 140737488355328
          ·rw [if_pos c14] at H
           have LMc14:=am c14
           clear c14
           obtain ⟨qp,qd⟩:∃ y_:List Int,y_=(x5_2 ++ [(48+(Int.tmod x8_2 10)) % 256]):=⟨_,rfl⟩
           replace H:(Zax.l1 k2 qp qa ((Int.tdiv x8_2 10) % 4294967296) (wrap64 (x9_2+1)))=some (r1,r2):=by have hy_:=qd;exact pH
           have qm:=am qd
           clear qd
           have H':=am H
           clear H
           obtain ⟨qz,q5,qr⟩:=Kd.Zh HO_7.o
           subst qr
           go_wp2_with (first|((with_reducible refine Zar (b:=.append) (xs:=#[.tmp 37,.tmp 42]) rfl ?_);(try (refine Za1 (by rfl) ?_;dsimp only));at_builtin;refine Kd.Zb3 (Kd.int .u8) (w0:=w) w.heap.size rfl (.tmp 37) (.tmp 42) 146 5 (.int .u8 0) 1 rfl Tryz.underlying146 info5 rfl (by decide) (by omega) u5 x5_2 ((48+(Int.tmod x8_2 10)) % 256) [.int .u8 ((48+(Int.tmod x8_2 10)) % 256)] (fun k_=>(w.heap.size<=k_)) (fun _=>False) rfl rfl ?aP (fun _ hk=>hk.elim) ?aF ?aO ?aB ?aS ?aL ?_;(case aP=>exact rfl);(case aB=>exact pB);(case aF=>exact (fun k_ hk=>(Nat.le_trans (Zb pB) hk)));(case aO=>exact (Kd.Za HO_5.o pl));(case aS=>exact (Zb pB));(case aL=>have := LMc14.o;omega);intro jb w16 ho hb hg hat;rw [<- qm.out] at ho;have qk:=am ho;replace HO_7:=am (Kd.Zj1 (Kd.Za HO_7.o pl) (Kd.Zht (Kd.Za HO_5.o pl)) (by decide) hg);replace HB:=am hb;clear HO_5 ho hb hg hat))
           go_roundg k2
           case measure=>exact pM
           case rel=>exact ⟨(qp),((Int.tdiv x8_2 10) % 4294967296),(wrap64 (x9_2+1)),pR,pR,H',pJ,⟨by refine rp ?_;exact qk.o⟩,⟨by refine rp ?_;exact HO_7.o⟩,⟨pB⟩⟩
          ·rw [if_neg c14] at H
           cases H
         ·have H':=am H
          clear H
          obtain ⟨q0,q6,qs⟩:=Kd.Zh HO_7.o
          subst qs
          go_wp2
          go_roundg k2
          case measure=>exact pM
          case rel=>exact ⟨(x5_2),(qa),H',pJ,⟨by refine rp ?_;exact HO_5.o⟩,⟨Kd.Zb5 (Kd.R_V (Kd.Za (Kd.Zm7 HO_7.o (Kd.Zht HO_5.o) (by decide)) pl)) (fun k_ hk=>by first|exact ⟨(.inr (hk.1)),hk.2⟩|exact (.inr (hk)))⟩,⟨pB⟩⟩
       ·have H':=am H
        clear H
        go_wp2
        go_roundg k2
        case measure=>exact pM
        case rel=>exact ⟨(x5_2),(qa),H',pJ,⟨by refine rp ?_;exact HO_5.o⟩,⟨Kd.Zb5 (Kd.R_V (Kd.Za (Kd.Zm7 HO_7.o (Kd.Zht HO_5.o) (by decide)) pl)) (fun k_ hk=>by first|exact ⟨(.inr (hk.1)),hk.2⟩|exact (.inr (hk)))⟩,⟨pB⟩⟩
    ·rw [if_neg c4] at H
     have c4b0:decide (0 < (x6_1.length:Int))=false:=decide_eq_false c4
     have c4b1:decide (0 < x6_1.length)=false:=decide_eq_false (by omega)
     clear c4
     replace H:=eI H
     rcases H with ⟨c18b0,c18b1,H⟩|⟨c18,c18b0,c18b1,H⟩
     ·simp only [Option.some.injEq,Prod.mk.injEq] at H
      obtain ⟨rfl,rfl⟩:=H
      obtain ⟨q1,q7,qt⟩:=Kd.Zew HO_6.o
      subst qt
      obtain ⟨q2,q8,qu⟩:=Kd.Zh HO_5.o
      subst qu
      go_wp2
      go_ret2
      exact ⟨pE,pB⟩
     ·have c18b2:¬ (x5_1=[]):=fun h_=>c18 (by rw [h_];rfl)
      replace H:=ob H
      obtain ⟨qh,A21,H⟩:=H
      simp only [Option.some.injEq,Prod.mk.injEq] at H
      obtain ⟨rfl,rfl⟩:=H
      obtain ⟨q3,q9,qv⟩:=Kd.Zew HO_6.o
      subst qv
      obtain ⟨qe,qf,qw⟩:=Kd.Zh HO_5.o
      subst qw
      go_wp2_with (first|(refine gL (some 51) Tryz.func144 #[.slice qe x5_1.length qf] (h:=?_);(with_reducible refine (Zr.calls k1 (fun k_=>some k_=(.slice qe x5_1.length qf:Value).ownBlock) (.slice qe x5_1.length qf) x5_1 qh w _ ?side1 ?side2 A21.o).mono ?_);(case side1=>exact pB);(case side2=>exact Kd.Zby rfl HO_5.o);rintro e w24 ⟨rfl,hy0,hb,hkp⟩;refine ⟨_,rfl,?_⟩;replace HO_5:=am (Kd.Zt3 rfl hy0 (fun k_ e_=>HO_5.o.1 k_ e_));replace HO_6:=am (Kd.Zb5 (ok':=fun k_=>(P0_ k_\/w.heap.size<=k_)/\some k_ ≠ (.slice qe x5_1.length qf:Value).ownBlock) (Kd.Ziq (HO_6.o) hkp (fun k_ hk_ hs_=>(hk_.2) hs_)) (fun k_ hk_=>⟨hk_.1.1,hk_.1.2⟩));replace HB:=am hb;have hcv25:=Zh2 (P:=Tryz.prog) Tryz.underlying146 Tryz.underlying5 Tryz.underlying9 (Kd.Zd6 HO_5.o)))
      go_ret2
      exact ⟨pE,pB⟩
 ·simp only [Option.some.injEq,Prod.mk.injEq] at H
  obtain ⟨rfl,rfl⟩:=H
  go_enter Tryz.func112,Tryz.ntmps112
  go_wp2_with (first|(refine gL (some 11) Tryz.func108 #[.slice A0 l0.length c0] (h:=?_);(with_reducible refine (Za2.calls _ _ l0 qb _ ?side1 ?side2 A2.o).mono ?_);(case side1=>exact Kd.Zi (Kd.Za5 HO0.o).2.2 pl);(case side2=>exact (Kd.Za5 HO0.o).2.1);rintro e w' ⟨rfl,⟨nd,rfl⟩⟩;refine ⟨_,rfl,?_⟩))
  go_ret2
  exact ⟨pE,pB⟩
def Zbs.l0:Nat->Int->List Int->Int->Int->Option (Int)
 | 0,_,_,_,_=>none
 | k+1,x3,x6,x7,x8=>if x8 < x7 then (if 0<=x8 then (if x8 < (x6.length:Int) then (if (rd x6 x8)=x3 then (Zbs.l0 k x3 x6 x7 (wrap64 (x8+1))) else (some (rd x6 x8))) else (none)) else (none)) else (some x3)
def Zbs.f (k:Nat) (l0:List Int):Option (Int):=Zbs.l0 k 0 l0 (l0.length:Int) 0
theorem Zbs.calls (k:Nat) (A0:Option Addr) (c0:Nat) (l0:List Int) (r:Int) (w:World) (hr0:Kd.C (Kd.int .i64) w A0 l0.length l0) (hc0:l0.length<=c0) (h:Zbs.f k l0=some r) :
  Calls Tryz.prog 137 #[.slice A0 l0.length c0] w fun e w'=>e=.returned (.int .i64 r)/\Drawn0 w w':=by
 have HR0:=am hr0
 have HC0:=am hc0
 clear hr0 hc0
 have H:(Zbs.l0 k 0 l0 (l0.length:Int) 0)=some r:=h
 clear h
 have H':=am H
 clear H
 go_enter Tryz.func137,Tryz.ntmps137
 go_wp2
 go_loopg [8] k (fun kq v8 w' => ∃ (x8_1:Int),v8=.int .i64 x8_1/\Aside0 (Zbs.l0 kq 0 l0 (l0.length:Int) x8_1=some r)/\Aside0 (kq<=k)/\Drawn0 w w')
 case atStart=>exact ⟨(0),pR,H',⟨Nat.le_refl _⟩,pD⟩
 case round =>
  clear H'
  obtain ⟨x8_1,rfl,HA,HK1,⟨m1,rfl⟩⟩:=hrel
  cases gk with
  | zero=>exact absurd HA.out (by simp [Zbs.l0])
  | succ k1 =>
   have H:=HA.out
   clear HA
   simp only [Zbs.l0] at H
   replace H:=dI H
   rcases H with ⟨c2b0,H⟩|⟨c2b0,H⟩
   ·replace H:=dI H
    rcases H with ⟨c3b0,H⟩|⟨_,H⟩
    ·replace H:=dI H
     rcases H with ⟨c4b0,H⟩|⟨_,H⟩
     ·replace H:=eI H
      rcases H with ⟨c5b0,c5b1,H⟩|⟨c5,c5b0,c5b1,H⟩
      ·have H':=am H
       clear H
       have qa:0<=(x8_1:Int):=of_decide_eq_true pQ
       have qb:x8_1 < (l0.length:Int):=of_decide_eq_true pQ
       obtain ⟨qe,qd,qc⟩:=Kd.Zay HR0.o x8_1 qa qb
       cases qd
       replace qa:=eq_true qa
       replace qb:=eq_true qb
       go_wp2
       go_roundg k1
       case measure=>exact pM
       case rel=>exact ⟨(wrap64 (x8_1+1)),pR,H',pJ,pD⟩
      ·obtain rfl:=Option.some.inj H
       have qa:0<=(x8_1:Int):=of_decide_eq_true pQ
       have qb:x8_1 < (l0.length:Int):=of_decide_eq_true pQ
       obtain ⟨qe,qd,qc⟩:=Kd.Zay HR0.o x8_1 qa qb
       cases qd
       replace qa:=eq_true qa
       replace qb:=eq_true qb
       go_wp2
       go_ret
       exact ⟨pR,pD⟩
     ·cases H
    ·cases H
   ·obtain rfl:=Option.some.inj H
    go_wp2
    go_ret
    exact ⟨pR,pD⟩
def Zdw.f (k:Nat) (l0:List Int) (l1:List Int):Option (Int):=(Za2.f l0).bind fun qa=>((Za2.f l1).bind fun qb=>((Zbs.f k (([qa,qb]:List Int))).bind fun qc=>(some qc)))
theorem Zdw.calls (k:Nat) (A0:Option Addr) (c0:Nat) (l0:List Int) (A1:Option Addr) (c1:Nat) (l1:List Int) (r:Int) (w:World) (hr0:Kd.C (Kd.int .u32) w A0 l0.length l0) (hc0:l0.length<=c0) (hr1:Kd.C (Kd.int .u32) w A1 l1.length l1) (hc1:l1.length<=c1) (h:Zdw.f k l0 l1=some r) :
  Calls Tryz.prog 126 #[.slice A0 l0.length c0,.slice A1 l1.length c1] w fun e w'=>e=.returned (.int .i64 r)/\Below w.heap.size w w':=by
 have HR0:=am hr0
 have HC0:=am hc0
 clear hr0 hc0
 have HR1:=am hr1
 have HC1:=am hc1
 clear hr1 hc1
 have HB:=am (Below.refl w.heap.size w)
 have H:((Za2.f l0).bind fun qa=>((Za2.f l1).bind fun qb=>((Zbs.f k (([qa,qb]:List Int))).bind fun qc=>(some qc))))=some r:=h
 clear h
 obtain ⟨qa,A3,H⟩:=ob H
 obtain ⟨qb,A4,H⟩:=ob H
 obtain ⟨qg,qe⟩:∃ y_:List Int,y_=(([qa,qb]:List Int)):=⟨_,rfl⟩
 replace H:((Zbs.f k qg).bind fun qc=>(some qc))=some r:=by have hy_:=qe;exact pH
 have qf:=am qe
 clear qe
 obtain ⟨qc,A5,H⟩:=ob H
 obtain rfl:=Option.some.inj H
 go_enter Tryz.func126,Tryz.ntmps126
 go_wp2_with (first|(refine gL (some 6) Tryz.func108 #[.slice A0 l0.length c0] (h:=?_);(with_reducible refine (Za2.calls _ _ l0 qa _ ?side1 ?side2 A3.o).mono ?_);(case side1=>refine cp ?_;exact HR0.o);(case side2=>exact HC0.o);rintro e w' ⟨rfl,⟨nd,rfl⟩⟩;refine ⟨_,rfl,?_⟩)|(refine gL (some 8) Tryz.func108 #[.slice A1 l1.length c1] (h:=?_);(with_reducible refine (Za2.calls _ _ l1 qb _ ?side1 ?side2 A4.o).mono ?_);(case side1=>refine cp ?_;exact HR1.o);(case side2=>exact HC1.o);rintro e w' ⟨rfl,⟨nd,rfl⟩⟩;refine ⟨_,rfl,?_⟩)|((with_reducible refine gd 9 ?_);refine Kd.Zhs (Kd.int .i64) _ 32 ?hg (N:=9) ?hd (xs:=([qa,qb]:List Int)) (inner:=[.int .i64 qa,.int .i64 qb]) (ok:=fun _=>True) (okp:=fun _=>True) ?hr ?hp (fun _ hk=>hk) trivial (Below.refl _ _) (Nat.le_refl _) (by simp) ?_;(case hd=>rfl);(case hg=>rfl);(case hr=>first|(go_simp;done)|(go_simp;rfl));(case hp=>exact (Reps.one (show Kd.M (Kd.int .i64) _ _ _ qa [.int .i64 qa] from rfl) (Reps.one (show Kd.M (Kd.int .i64) _ _ _ qb [.int .i64 qb] from rfl) (Reps.none _ _))));intro qh w6 ho7 hb hg_ hnew_;clear hg_ hnew_;(first|rw [<- qf.out] at ho7|(simp only [Int.reduceToNat] at ho7;rw [<- qf.out] at ho7));have qd:=am (Kd.Zn ho7 (Zb pB));replace HB:=bS hb;clear hb ho7;obtain ⟨Ao8,co8,eo8⟩:=Kd.Zh qd.o;subst eo8)|(refine gL (some 10) Tryz.func137 #[.slice Ao8 qg.length co8] (h:=?_);(with_reducible refine (Zbs.calls k _ _ qg qc _ ?side1 ?side2 A5.o).mono ?_);(case side1=>exact Kd.Zi (Kd.Zc qd.o).2.2 pl);(case side2=>exact (Kd.Zc qd.o).2.1);rintro e w' ⟨rfl,⟨nd,rfl⟩⟩;refine ⟨_,rfl,?_⟩))
 go_ret
 exact ⟨pE,pB⟩
def Zer.f (l0:List Int):Option (List Int × Int):=if (l0.length:Int) > 256 then (some (([]:List Int),51)) else (some (l0,0))
theorem Zer.calls (P0_:Nat->Prop) (u9000_:Value) (l0:List Int) (r1:List Int) (r2:Int) (w0 w:World) (hB:Below w0.heap.size w0 w) (ho0:Kd.R (Kd.int .u32) 85 w w0.heap.size P0_ u9000_ l0) (h:Zer.f l0=some (r1,r2)) :
  Calls Tryz.prog 128 #[u9000_] w fun e w' => ∃ v0_:Value,e=.returned (.tuple #[v0_,.int .i64 r2])/\Kd.R (Kd.int .u32) 85 w' w0.heap.size (fun k_=>(P0_ k_\/w.heap.size<=k_)) v0_ r1/\Below w0.heap.size w0 w'/\Kept w w' (fun k_=>P0_ k_):=by
 have HO0:=am (show Kd.R (Kd.int .u32) 85 w w0.heap.size (fun k_=>(P0_ k_\/w.heap.size<=k_)) u9000_ l0 from Kd.Zo ho0 (fun k_ hk=>(.inl hk)))
 have HK:=am (Kept.refl w (fun k_=>P0_ k_))
 have HW0:=am hB.size
 have HB:=am hB
 clear hB
 have H:(if (l0.length:Int) > 256 then (some (([]:List Int),51)) else (some (l0,0)))=some (r1,r2):=h
 clear h
 by_cases c2:(l0.length:Int) > 256
 ·rw [if_pos c2] at H
  have c2b0:decide (256 < (l0.length:Int))=true:=decide_eq_true c2
  have c2b1:decide (256 < l0.length)=true:=decide_eq_true (by omega)
  clear c2
  simp only [Option.some.injEq,Prod.mk.injEq] at H
  obtain ⟨rfl,rfl⟩:=H
  obtain ⟨Ao3,co3,eo3⟩:=Kd.Zh HO0.o
  subst eo3
  go_enter Tryz.func128,Tryz.ntmps128
  go_wp2
  go_ret2
  exact ⟨_,pE,pN,pB,by repeat (first|(with_reducible first|exact HK.out|apply Kept.alloc|apply Kept.drewN|apply Kept.drew)|exact HK.out)⟩
 ·rw [if_neg c2] at H
  have c2b0:decide (256 < (l0.length:Int))=false:=decide_eq_false c2
  have c2b1:decide (256 < l0.length)=false:=decide_eq_false (by omega)
  clear c2
  simp only [Option.some.injEq,Prod.mk.injEq] at H
  obtain ⟨rfl,rfl⟩:=H
  obtain ⟨Ao4,co4,eo4⟩:=Kd.Zh HO0.o
  subst eo4
  go_enter Tryz.func128,Tryz.ntmps128
  go_wp2
  go_ret2
  exact ⟨_,pE,by refine rp ?_;exact HO0.o,pB,by repeat (first|(with_reducible first|exact HK.out|apply Kept.alloc|apply Kept.drewN|apply Kept.drew)|exact HK.out)⟩
def Zdb.f (k:Nat) (l0:List Int) (l1:List Int):Option (List Int × Int):=(Zdw.f k l0 l1).bind fun qc=>(if qc=0 then ((Zag.f k l0 l1).bind fun qa=>((Zer.f qa).bind fun qb=>(some (qb.1,qb.2)))) else (some (([]:List Int),qc)))
theorem Zdb.calls (k:Nat) (A0:Option Addr) (c0:Nat) (l0:List Int) (A1:Option Addr) (c1:Nat) (l1:List Int) (r1:List Int) (r2:Int) (w:World) (hr0:Kd.C (Kd.int .u32) w A0 l0.length l0) (hc0:l0.length<=c0) (hr1:Kd.C (Kd.int .u32) w A1 l1.length l1) (hc1:l1.length<=c1) (h:Zdb.f k l0 l1=some (r1,r2)) :
  Calls Tryz.prog 71 #[.slice A0 l0.length c0,.slice A1 l1.length c1] w fun e w' => ∃ v0_:Value,e=.returned (.tuple #[v0_,.int .i64 r2])/\Kd.R (Kd.int .u32) 85 w' w.heap.size (fun _=>True) v0_ r1/\Below w.heap.size w w':=by
 have HR0:=am hr0
 have HC0:=am hc0
 clear hr0 hc0
 have HR1:=am hr1
 have HC1:=am hc1
 clear hr1 hc1
 have HB:=am (Below.refl w.heap.size w)
 have H:((Zdw.f k l0 l1).bind fun qc=>(if qc=0 then ((Zag.f k l0 l1).bind fun qa=>((Zer.f qa).bind fun qb=>(some (qb.1,qb.2)))) else (some (([]:List Int),qc))))=some (r1,r2):=h
 clear h
 replace H:=ob H
 obtain ⟨qc,A3,H⟩:=H
 replace H:=eI H
 rcases H with ⟨c4b0,c4b1,H⟩|⟨c4,c4b0,c4b1,H⟩
 ·replace H:=ob H
  obtain ⟨qa,A5,H⟩:=H
  replace H:=ob H
  obtain ⟨⟨qf,qg⟩,A6,H⟩:=H;(try dsimp only at H)
  simp only [Option.some.injEq,Prod.mk.injEq] at H
  obtain ⟨rfl,rfl⟩:=H
  go_enter Tryz.func71,Tryz.ntmps71
  go_wp2_with (first|(refine gL (some 9) Tryz.func126 #[.slice A0 l0.length c0,.slice A1 l1.length c1] (h:=?_);(with_reducible refine (Zdw.calls k _ _ l0 _ _ l1 qc _ ?side1 ?side2 ?side3 ?side4 A3.o).mono ?_);(case side1=>refine cp ?_;exact HR0.o);(case side2=>exact HC0.o);(case side3=>refine cp ?_;exact HR1.o);(case side4=>exact HC1.o);rintro e w7 ⟨rfl,hb⟩;refine ⟨_,rfl,?_⟩;replace HB:=bS hb)|(refine gL (some 15) Tryz.func129 #[.slice A0 l0.length c0,.slice A1 l1.length c1] (h:=?_);(with_reducible refine (Zag.calls k _ _ l0 _ _ l1 qa _ ?side1 ?side2 ?side3 ?side4 A5.o).mono ?_);(case side1=>exact cB HR0 HB);(case side2=>exact HC0.o);(case side3=>exact cB HR1 HB);(case side4=>exact HC1.o);rintro e w8 ⟨qh,rfl,ho0,hb⟩;refine ⟨_,rfl,?_⟩;have qd:=am (Kd.Zn ho0 (Zb pB));replace HB:=bS hb;obtain ⟨Ao9,co9,eo9⟩:=Kd.Zh qd.o;subst eo9)|(refine gL (some 16) Tryz.func128 #[.slice Ao9 qa.length co9] (h:=?_);(with_reducible refine (Zer.calls (fun k_=>some k_=(.slice Ao9 qa.length co9:Value).ownBlock) (.slice Ao9 qa.length co9) qa qf qg w _ ?side1 ?side2 A6.o).mono ?_);(case side1=>exact pB);(case side2=>exact Kd.Zby rfl qd.o);rintro e w10 ⟨qi,rfl,ho0,hb,hkp⟩;refine ⟨_,rfl,?_⟩;have qe:=am (Kd.Zo (ok':=fun k_=>True) ho0 (fun k_ hk_=>trivial));replace HB:=am hb;clear qd))
  go_ret2
  exact ⟨_,pE,by refine rp ?_;exact qe.o,pB⟩
 ·simp only [Option.some.injEq,Prod.mk.injEq] at H
  obtain ⟨rfl,rfl⟩:=H
  go_enter Tryz.func71,Tryz.ntmps71
  go_wp2_with (first|(refine gL (some 9) Tryz.func126 #[.slice A0 l0.length c0,.slice A1 l1.length c1] (h:=?_);(with_reducible refine (Zdw.calls k _ _ l0 _ _ l1 qc _ ?side1 ?side2 ?side3 ?side4 A3.o).mono ?_);(case side1=>refine cp ?_;exact HR0.o);(case side2=>exact HC0.o);(case side3=>refine cp ?_;exact HR1.o);(case side4=>exact HC1.o);rintro e w11 ⟨rfl,hb⟩;refine ⟨_,rfl,?_⟩;replace HB:=bS hb))
  go_ret2
  exact ⟨_,pE,pN,pB⟩
def Zbu.l0:Nat->Int->List Int->List Int->Option (List Int)
 | 0,_,_,_=>none
 | k+1,x0,x3,x4=>if x0 > 0 then (if (Int.tmod x0 2)=1 then ((Zag.f k x3 x4).bind fun qb=>(if x0 > 1 then ((Zag.f k x4 x4).bind fun qf=>(Zbu.l0 k (wrap64 (Int.tdiv x0 2)) qb qf)) else (Zbu.l0 k (wrap64 (Int.tdiv x0 2)) qb x4))) else (if x0 > 1 then ((Zag.f k x4 x4).bind fun qg=>(Zbu.l0 k (wrap64 (Int.tdiv x0 2)) x3 qg)) else (Zbu.l0 k (wrap64 (Int.tdiv x0 2)) x3 x4))) else (some x3)
def Zbu.f (k:Nat) (a0:Int):Option (List Int):=Zbu.l0 k a0 (([1]:List Int)) (([10]:List Int))
theorem Zbu.calls (k:Nat) (a0:Int) (r:List Int) (w:World) (h:Zbu.f k a0=some r) :
  Calls Tryz.prog 163 #[.int .i64 a0] w fun e w' => ∃ v0_:Value,e=.returned (v0_)/\Kd.R (Kd.int .u32) 85 w' w.heap.size (fun _=>True) v0_ r/\Below w.heap.size w w':=by
 have HB:=am (Below.refl w.heap.size w)
 have H:(Zbu.l0 k a0 (([1]:List Int)) (([10]:List Int)))=some r:=h
 clear h
 obtain ⟨ql,qd⟩:∃ y_:List Int,y_=(([1]:List Int)):=⟨_,rfl⟩
 replace H:(Zbu.l0 k a0 ql (([10]:List Int)))=some r:=by have hy_:=qd;exact pH
 have qh:=am qd
 clear qd
 obtain ⟨qr,qe⟩:∃ y_:List Int,y_=(([10]:List Int)):=⟨_,rfl⟩
 replace H:(Zbu.l0 k a0 ql qr)=some r:=by have hy_:=qe;exact pH
 have qi:=am qe
 clear qe
 have H':=am H
 clear H
 go_enter Tryz.func163,Tryz.ntmps163
 go_wp2_with (first|((with_reducible refine gd 5 ?_);refine Kd.Zhs (Kd.int .u32) _ 85 ?hg (N:=5) ?hd (xs:=([1]:List Int)) (inner:=[.int .u32 1]) (ok:=fun _=>True) (okp:=fun _=>True) ?hr ?hp (fun _ hk=>hk) trivial (Below.refl _ _) (Nat.le_refl _) (by simp) ?_;(case hd=>rfl);(case hg=>rfl);(case hr=>first|(go_simp;done)|(go_simp;rfl));(case hp=>exact (Reps.one (show Kd.M (Kd.int .u32) _ _ _ 1 [.int .u32 1] from rfl) (Reps.none _ _)));intro q4 w2 ho3 hb hg_ hnew_;clear hg_ hnew_;(first|rw [<- qh.out] at ho3|(simp only [Int.reduceToNat] at ho3;rw [<- qh.out] at ho3));have qc:=am (Kd.Zn ho3 (Zb pB));replace HB:=bS hb;clear hb ho3)|((with_reducible refine gd 6 ?_);refine Kd.Zhs (Kd.int .u32) _ 85 ?hg (N:=6) ?hd (xs:=([10]:List Int)) (inner:=[.int .u32 10]) (ok:=fun _=>True) (okp:=fun _=>True) ?hr ?hp (fun _ hk=>hk) trivial (Below.refl _ _) (Nat.le_refl _) (by simp) ?_;(case hd=>rfl);(case hg=>rfl);(case hr=>first|(go_simp;done)|(go_simp;rfl));(case hp=>exact (Reps.one (show Kd.M (Kd.int .u32) _ _ _ 10 [.int .u32 10] from rfl) (Reps.none _ _)));intro q5 w4 ho5 hb hg_ hnew_;clear hg_ hnew_;(first|rw [<- qi.out] at ho5|(simp only [Int.reduceToNat] at ho5;rw [<- qi.out] at ho5));have qn:=am (Kd.Zn (Kd.Zf ho5 (Kd.R_lt (Kd.Za qc.o pl))) (Zb pB));replace qc:=reR qc ho5 hb;replace HB:=bS hb;clear hb ho5))
 go_loopg [0,3,4] k (fun kq v0 v3 v4 w' => ∃ (x0_1:Int) (x3_1:List Int) (x4_1:List Int),v0=.int .i64 x0_1/\Aside0 (Zbu.l0 kq x0_1 x3_1 x4_1=some r)/\Aside0 (kq<=k)/\Aside0 (Kd.R (Kd.int .u32) 85 w' w.heap.size (fun k_=>some k_ ≠ (v4:Value).ownBlock) v3 x3_1)/\Aside0 (Kd.R (Kd.int .u32) 85 w' w.heap.size (fun k_=>some k_ ≠ (v3:Value).ownBlock) v4 x4_1)/\Aside0 (Below w.heap.size w w'))
 case atStart=>exact ⟨(a0),(ql),(qr),pR,H',⟨Nat.le_refl _⟩,⟨by refine rp ?_;exact Kd.Zo qc.o (fun _ hk=>hk.2)⟩,⟨by refine rp ?_;exact Kd.Zo qn.o (fun _ hk=>hk.2)⟩,⟨pB⟩⟩
 case round =>
  clear H'
  obtain ⟨x0_1,x3_1,x4_1,rfl,HA,HK1,HO_3,HO_4,HB⟩:=hrel
  cases gk with
  | zero=>exact absurd HA.out (by simp [Zbu.l0])
  | succ k1 =>
   have H:=HA.out
   clear HA
   simp only [Zbu.l0] at H
   replace H:=gI H
   rcases H with ⟨c6b0,H⟩|⟨c6b0,H⟩
   ·replace H:=eI H
    rcases H with ⟨c7b0,c7b1,H⟩|⟨c7,c7b0,c7b1,H⟩
    ·replace H:=ob H
     obtain ⟨qb,A8,H⟩:=H
     replace H:=gI H
     rcases H with ⟨c9b0,H⟩|⟨c9b0,H⟩
     ·replace H:=ob H
      obtain ⟨qf,A10,H⟩:=H
      have H':=am H
      clear H
      obtain ⟨qs,qv,qy⟩:=Kd.Zh HO_3.o
      subst qy
      obtain ⟨qj,qk,qz⟩:=Kd.Zh HO_4.o
      subst qz
      go_wp2_with (first|(refine gL (some 16) Tryz.func129 #[.slice qs x3_1.length qv,.slice qj x4_1.length qk] (h:=?_);(with_reducible refine (Zag.calls k1 _ _ x3_1 _ _ x4_1 qb _ ?side1 ?side2 ?side3 ?side4 A8.o).mono ?_);(case side1=>exact Kd.Zi (Kd.Zc HO_3.o).2.2 pl);(case side2=>exact (Kd.Zc HO_3.o).2.1);(case side3=>exact Kd.Zi (Kd.Zc HO_4.o).2.2 pl);(case side4=>exact (Kd.Zc HO_4.o).2.1);rintro e w13 ⟨q3,rfl,ho0,hb⟩;refine ⟨_,rfl,?_⟩;have qa:=am (Kd.Zn (Kd.Zf (Kd.Zf ho0 (Kd.R_lt (Kd.Za HO_3.o pl))) (Kd.R_lt (Kd.Za HO_4.o pl))) (Zb pB));replace HO_3:=reR HO_3 ho0 hb;replace HO_4:=reR HO_4 ho0 hb;replace HB:=bS hb)|(refine gL (some 21) Tryz.func129 #[.slice qj x4_1.length qk,.slice qj x4_1.length qk] (h:=?_);(with_reducible refine (Zag.calls k1 _ _ x4_1 _ _ x4_1 qf _ ?side1 ?side2 ?side3 ?side4 A10.o).mono ?_);(case side1=>exact Kd.Zi (Kd.Zc HO_4.o).2.2 pl);(case side2=>exact (Kd.Zc HO_4.o).2.1);(case side3=>exact Kd.Zi (Kd.Zc HO_4.o).2.2 pl);(case side4=>exact (Kd.Zc HO_4.o).2.1);rintro e w14 ⟨q6,rfl,ho0,hb⟩;refine ⟨_,rfl,?_⟩;have qo:=am (Kd.Zn (Kd.Zf (Kd.Zf (Kd.Zf ho0 (Kd.R_lt (Kd.Za HO_3.o pl))) (Kd.R_lt (Kd.Za HO_4.o pl))) (Kd.R_lt (Kd.Za qa.o pl))) (Zb pB));replace HO_3:=reR HO_3 ho0 hb;replace HO_4:=reR HO_4 ho0 hb;replace qa:=reR qa ho0 hb;replace HB:=bS hb))
      go_roundg k1
      case measure=>exact pM
      case rel=>exact ⟨(wrap64 (Int.tdiv x0_1 2)),(qb),(qf),pR,H',pJ,⟨by refine rp ?_;exact Kd.Zo qa.o (fun _ hk=>hk.2)⟩,⟨by refine rp ?_;exact Kd.Zo qo.o (fun _ hk=>hk.2)⟩,⟨pB⟩⟩
     ·have H':=am H
      clear H
      obtain ⟨qt,qw,q0⟩:=Kd.Zh HO_3.o
      subst q0
      obtain ⟨qu,qx,q1⟩:=Kd.Zh HO_4.o
      subst q1
      go_wp2_with (first|(refine gL (some 16) Tryz.func129 #[.slice qt x3_1.length qw,.slice qu x4_1.length qx] (h:=?_);(with_reducible refine (Zag.calls k1 _ _ x3_1 _ _ x4_1 qb _ ?side1 ?side2 ?side3 ?side4 A8.o).mono ?_);(case side1=>exact Kd.Zi (Kd.Zc HO_3.o).2.2 pl);(case side2=>exact (Kd.Zc HO_3.o).2.1);(case side3=>exact Kd.Zi (Kd.Zc HO_4.o).2.2 pl);(case side4=>exact (Kd.Zc HO_4.o).2.1);rintro e w17 ⟨q3,rfl,ho0,hb⟩;refine ⟨_,rfl,?_⟩;have qa:=am (Kd.Zn (Kd.Zf (Kd.Zf ho0 (Kd.R_lt (Kd.Za HO_3.o pl))) (Kd.R_lt (Kd.Za HO_4.o pl))) (Zb pB));replace HO_3:=reR HO_3 ho0 hb;replace HO_4:=reR HO_4 ho0 hb;replace HB:=bS hb))
      go_roundg k1
      case measure=>exact pM
      case rel=>exact ⟨(wrap64 (Int.tdiv x0_1 2)),(qb),(x4_1),pR,H',pJ,⟨by refine rp ?_;exact Kd.Zo qa.o (fun _ hk=>hk.2)⟩,⟨by refine rp ?_;exact Kd.Zo HO_4.o (fun _ hk=>hk.2)⟩,⟨pB⟩⟩
    ·replace H:=gI H
     rcases H with ⟨c18b0,H⟩|⟨c18b0,H⟩
     ·replace H:=ob H
      obtain ⟨qg,A19,H⟩:=H
      have H':=am H
      clear H
      obtain ⟨qm,qq,q2⟩:=Kd.Zh HO_4.o
      subst q2
      go_wp2_with (first|(refine gL (some 21) Tryz.func129 #[.slice qm x4_1.length qq,.slice qm x4_1.length qq] (h:=?_);(with_reducible refine (Zag.calls k1 _ _ x4_1 _ _ x4_1 qg _ ?side1 ?side2 ?side3 ?side4 A19.o).mono ?_);(case side1=>exact Kd.Zi (Kd.Zc HO_4.o).2.2 pl);(case side2=>exact (Kd.Zc HO_4.o).2.1);(case side3=>exact Kd.Zi (Kd.Zc HO_4.o).2.2 pl);(case side4=>exact (Kd.Zc HO_4.o).2.1);rintro e w21 ⟨q7,rfl,ho0,hb⟩;refine ⟨_,rfl,?_⟩;have qp:=am (Kd.Zn (Kd.Zf (Kd.Zf ho0 (Kd.R_lt (Kd.Za HO_3.o pl))) (Kd.R_lt (Kd.Za HO_4.o pl))) (Zb pB));replace HO_3:=reR HO_3 ho0 hb;replace HO_4:=reR HO_4 ho0 hb;replace HB:=bS hb))
      go_roundg k1
      case measure=>exact pM
      case rel=>exact ⟨(wrap64 (Int.tdiv x0_1 2)),(x3_1),(qg),pR,H',pJ,⟨by refine rp ?_;exact Kd.Zo HO_3.o (fun _ hk=>hk.2)⟩,⟨by refine rp ?_;exact Kd.Zo qp.o (fun _ hk=>hk.1.2)⟩,⟨pB⟩⟩
     ·have H':=am H
      clear H
      go_wp2
      go_roundg k1
      case measure=>exact pM
      case rel=>exact ⟨(wrap64 (Int.tdiv x0_1 2)),(x3_1),(x4_1),pR,H',pJ,⟨by refine rp ?_;exact HO_3.o⟩,⟨by refine rp ?_;exact HO_4.o⟩,⟨pB⟩⟩
   ·obtain rfl:=Option.some.inj H
    go_wp2
    go_ret
    exact ⟨_,pE,by refine rp ?_;exact Kd.Zo HO_3.o (fun _ hk=>trivial),pB⟩
def Zg4.f (k:Nat) (a0:Int):Option (List Int × Int):=if a0 < 0 then (some (([]:List Int),4)) else (if a0 > 2400 then (some (([]:List Int),4)) else ((Zbu.f k a0).bind fun qa=>(some (qa,0))))
theorem Zg4.calls (k:Nat) (a0:Int) (r1:List Int) (r2:Int) (w:World) (h:Zg4.f k a0=some (r1,r2)) :
  Calls Tryz.prog 130 #[.int .i64 a0] w fun e w' => ∃ v0_:Value,e=.returned (.tuple #[v0_,.int .i64 r2])/\Kd.R (Kd.int .u32) 85 w' w.heap.size (fun _=>True) v0_ r1/\Below w.heap.size w w':=by
 have HB:=am (Below.refl w.heap.size w)
 have H:(if a0 < 0 then (some (([]:List Int),4)) else (if a0 > 2400 then (some (([]:List Int),4)) else ((Zbu.f k a0).bind fun qa=>(some (qa,0)))))=some (r1,r2):=h
 clear h
 replace H:=dI H
 rcases H with ⟨c2b0,H⟩|⟨c2b0,H⟩
 ·simp only [Option.some.injEq,Prod.mk.injEq] at H
  obtain ⟨rfl,rfl⟩:=H
  go_enter Tryz.func130,Tryz.ntmps130
  go_wp2
  go_ret2
  exact ⟨_,pE,pN,pB⟩
 ·replace H:=gI H
  rcases H with ⟨c3b0,H⟩|⟨c3b0,H⟩
  ·simp only [Option.some.injEq,Prod.mk.injEq] at H
   obtain ⟨rfl,rfl⟩:=H
   go_enter Tryz.func130,Tryz.ntmps130
   go_wp2
   go_ret2
   exact ⟨_,pE,pN,pB⟩
  ·replace H:=ob H
   obtain ⟨qa,A4,H⟩:=H
   simp only [Option.some.injEq,Prod.mk.injEq] at H
   obtain ⟨rfl,rfl⟩:=H
   go_enter Tryz.func130,Tryz.ntmps130
   go_wp2_with (first|(refine gL (some 11) Tryz.func163 #[.int .i64 a0] (h:=?_);(with_reducible refine (Zbu.calls k a0 qa _ A4.o).mono ?_);rintro e w5 ⟨qc,rfl,ho0,hb⟩;refine ⟨_,rfl,?_⟩;have qb:=am (Kd.Zn ho0 (Zb pB));replace HB:=bS hb))
   go_ret2
   exact ⟨_,pE,by refine rp ?_;exact qb.o,pB⟩
def Zc3.f (k:Nat) (l0:List Int) (l1:List Int):Option (Int × Int):=(Za2.f l0).bind fun qa=>((Za2.f l1).bind fun qb=>((Zbs.f k (([qa,qb]:List Int))).bind fun qd=>(if qd=0 then ((Za0.f l0 l1).bind fun qe=>(some (qe,0))) else (some (0,qd)))))
theorem Zc3.calls (k:Nat) (A0:Option Addr) (c0:Nat) (l0:List Int) (A1:Option Addr) (c1:Nat) (l1:List Int) (r1:Int) (r2:Int) (w:World) (hr0:Kd.C (Kd.int .u32) w A0 l0.length l0) (hc0:l0.length<=c0) (hr1:Kd.C (Kd.int .u32) w A1 l1.length l1) (hc1:l1.length<=c1) (h:Zc3.f k l0 l1=some (r1,r2)) :
  Calls Tryz.prog 90 #[.slice A0 l0.length c0,.slice A1 l1.length c1] w fun e w'=>e=.returned (.tuple #[.int .i64 r1,.int .i64 r2])/\Below w.heap.size w w':=by
 have HR0:=am hr0
 have HC0:=am hc0
 clear hr0 hc0
 have HR1:=am hr1
 have HC1:=am hc1
 clear hr1 hc1
 have HB:=am (Below.refl w.heap.size w)
 have H:((Za2.f l0).bind fun qa=>((Za2.f l1).bind fun qb=>((Zbs.f k (([qa,qb]:List Int))).bind fun qd=>(if qd=0 then ((Za0.f l0 l1).bind fun qe=>(some (qe,0))) else (some (0,qd))))))=some (r1,r2):=h
 clear h
 replace H:=ob H
 obtain ⟨qa,A3,H⟩:=H
 replace H:=ob H
 obtain ⟨qb,A4,H⟩:=H
 obtain ⟨qh,qg⟩:∃ y_:List Int,y_=(([qa,qb]:List Int)):=⟨_,rfl⟩
 replace H:((Zbs.f k qh).bind fun qd=>(if qd=0 then ((Za0.f l0 l1).bind fun qe=>(some (qe,0))) else (some (0,qd))))=some (r1,r2):=by have hy_:=qg;exact pH
 have qf:=am qg
 clear qg
 replace H:=ob H
 obtain ⟨qd,A5,H⟩:=H
 replace H:=eI H
 rcases H with ⟨c6b0,c6b1,H⟩|⟨c6,c6b0,c6b1,H⟩
 ·replace H:=ob H
  obtain ⟨qe,A7,H⟩:=H
  simp only [Option.some.injEq,Prod.mk.injEq] at H
  obtain ⟨rfl,rfl⟩:=H
  go_enter Tryz.func90,Tryz.ntmps90
  go_wp2_with (first|(refine gL (some 8) Tryz.func108 #[.slice A0 l0.length c0] (h:=?_);(with_reducible refine (Za2.calls _ _ l0 qa _ ?side1 ?side2 A3.o).mono ?_);(case side1=>refine cp ?_;exact HR0.o);(case side2=>exact HC0.o);rintro e w' ⟨rfl,⟨nd,rfl⟩⟩;refine ⟨_,rfl,?_⟩)|(refine gL (some 10) Tryz.func108 #[.slice A1 l1.length c1] (h:=?_);(with_reducible refine (Za2.calls _ _ l1 qb _ ?side1 ?side2 A4.o).mono ?_);(case side1=>refine cp ?_;exact HR1.o);(case side2=>exact HC1.o);rintro e w' ⟨rfl,⟨nd,rfl⟩⟩;refine ⟨_,rfl,?_⟩)|((with_reducible refine gd 11 ?_);refine Kd.Zhs (Kd.int .i64) _ 32 ?hg (N:=11) ?hd (xs:=([qa,qb]:List Int)) (inner:=[.int .i64 qa,.int .i64 qb]) (ok:=fun _=>True) (okp:=fun _=>True) ?hr ?hp (fun _ hk=>hk) trivial (Below.refl _ _) (Nat.le_refl _) (by simp) ?_;(case hd=>rfl);(case hg=>rfl);(case hr=>first|(go_simp;done)|(go_simp;rfl));(case hp=>exact (Reps.one (show Kd.M (Kd.int .i64) _ _ _ qa [.int .i64 qa] from rfl) (Reps.one (show Kd.M (Kd.int .i64) _ _ _ qb [.int .i64 qb] from rfl) (Reps.none _ _))));intro qo w8 ho9 hb hg_ hnew_;clear hg_ hnew_;(first|rw [<- qf.out] at ho9|(simp only [Int.reduceToNat] at ho9;rw [<- qf.out] at ho9));have qc:=am (Kd.Zn ho9 (Zb pB));replace HB:=bS hb;clear hb ho9;obtain ⟨qi,qk,qm⟩:=Kd.Zh qc.o;subst qm)|(refine gL (some 12) Tryz.func137 #[.slice qi qh.length qk] (h:=?_);(with_reducible refine (Zbs.calls k _ _ qh qd _ ?side1 ?side2 A5.o).mono ?_);(case side1=>exact Kd.Zi (Kd.Zc qc.o).2.2 pl);(case side2=>exact (Kd.Zc qc.o).2.1);rintro e w' ⟨rfl,⟨nd,rfl⟩⟩;refine ⟨_,rfl,?_⟩)|(refine gL (some 18) Tryz.func138 #[.slice A0 l0.length c0,.slice A1 l1.length c1] (h:=?_);(with_reducible refine (Za0.calls _ _ l0 _ _ l1 qe _ ?side1 ?side2 ?side3 ?side4 A7.o).mono ?_);(case side1=>refine cp ?_;exact (Kd.Zi HR0.o pB));(case side2=>exact HC0.o);(case side3=>refine cp ?_;exact (Kd.Zi HR1.o pB));(case side4=>exact HC1.o);rintro e w11 ⟨rfl,hb⟩;refine ⟨_,rfl,?_⟩;replace qc:=rbl qc hb;replace HB:=bS hb))
  go_ret2
  exact ⟨pE,pB⟩
 ·simp only [Option.some.injEq,Prod.mk.injEq] at H
  obtain ⟨rfl,rfl⟩:=H
  go_enter Tryz.func90,Tryz.ntmps90
  go_wp2_with (first|(refine gL (some 8) Tryz.func108 #[.slice A0 l0.length c0] (h:=?_);(with_reducible refine (Za2.calls _ _ l0 qa _ ?side1 ?side2 A3.o).mono ?_);(case side1=>refine cp ?_;exact HR0.o);(case side2=>exact HC0.o);rintro e w' ⟨rfl,⟨nd,rfl⟩⟩;refine ⟨_,rfl,?_⟩)|(refine gL (some 10) Tryz.func108 #[.slice A1 l1.length c1] (h:=?_);(with_reducible refine (Za2.calls _ _ l1 qb _ ?side1 ?side2 A4.o).mono ?_);(case side1=>refine cp ?_;exact HR1.o);(case side2=>exact HC1.o);rintro e w' ⟨rfl,⟨nd,rfl⟩⟩;refine ⟨_,rfl,?_⟩)|((with_reducible refine gd 11 ?_);refine Kd.Zhs (Kd.int .i64) _ 32 ?hg (N:=11) ?hd (xs:=([qa,qb]:List Int)) (inner:=[.int .i64 qa,.int .i64 qb]) (ok:=fun _=>True) (okp:=fun _=>True) ?hr ?hp (fun _ hk=>hk) trivial (Below.refl _ _) (Nat.le_refl _) (by simp) ?_;(case hd=>rfl);(case hg=>rfl);(case hr=>first|(go_simp;done)|(go_simp;rfl));(case hp=>exact (Reps.one (show Kd.M (Kd.int .i64) _ _ _ qa [.int .i64 qa] from rfl) (Reps.one (show Kd.M (Kd.int .i64) _ _ _ qb [.int .i64 qb] from rfl) (Reps.none _ _))));intro qo w12 ho13 hb hg_ hnew_;clear hg_ hnew_;(first|rw [<- qf.out] at ho13|(simp only [Int.reduceToNat] at ho13;rw [<- qf.out] at ho13));have qc:=am (Kd.Zn ho13 (Zb pB));replace HB:=bS hb;clear hb ho13;obtain ⟨qj,ql,qn⟩:=Kd.Zh qc.o;subst qn)|(refine gL (some 12) Tryz.func137 #[.slice qj qh.length ql] (h:=?_);(with_reducible refine (Zbs.calls k _ _ qh qd _ ?side1 ?side2 A5.o).mono ?_);(case side1=>exact Kd.Zi (Kd.Zc qc.o).2.2 pl);(case side2=>exact (Kd.Zc qc.o).2.1);rintro e w' ⟨rfl,⟨nd,rfl⟩⟩;refine ⟨_,rfl,?_⟩))
  go_ret2
  exact ⟨pE,pB⟩
def Zey.f (k:Nat) (l0:List Int) (l1:List Int):Option (List Int × Int):=(Zdw.f k l0 l1).bind fun qc=>(if qc=0 then ((Zaf.f k l0 l1).bind fun qa=>((Zer.f qa).bind fun qb=>(some (qb.1,qb.2)))) else (some (([]:List Int),qc)))
theorem Zey.calls (k:Nat) (A0:Option Addr) (c0:Nat) (l0:List Int) (A1:Option Addr) (c1:Nat) (l1:List Int) (r1:List Int) (r2:Int) (w:World) (hr0:Kd.C (Kd.int .u32) w A0 l0.length l0) (hc0:l0.length<=c0) (hr1:Kd.C (Kd.int .u32) w A1 l1.length l1) (hc1:l1.length<=c1) (h:Zey.f k l0 l1=some (r1,r2)) :
  Calls Tryz.prog 75 #[.slice A0 l0.length c0,.slice A1 l1.length c1] w fun e w' => ∃ v0_:Value,e=.returned (.tuple #[v0_,.int .i64 r2])/\Kd.R (Kd.int .u32) 85 w' w.heap.size (fun _=>True) v0_ r1/\Below w.heap.size w w':=by
 have HR0:=am hr0
 have HC0:=am hc0
 clear hr0 hc0
 have HR1:=am hr1
 have HC1:=am hc1
 clear hr1 hc1
 have HB:=am (Below.refl w.heap.size w)
 have H:((Zdw.f k l0 l1).bind fun qc=>(if qc=0 then ((Zaf.f k l0 l1).bind fun qa=>((Zer.f qa).bind fun qb=>(some (qb.1,qb.2)))) else (some (([]:List Int),qc))))=some (r1,r2):=h
 clear h
 replace H:=ob H
 obtain ⟨qc,A3,H⟩:=H
 replace H:=eI H
 rcases H with ⟨c4b0,c4b1,H⟩|⟨c4,c4b0,c4b1,H⟩
 ·replace H:=ob H
  obtain ⟨qa,A5,H⟩:=H
  replace H:=ob H
  obtain ⟨⟨qf,qg⟩,A6,H⟩:=H;(try dsimp only at H)
  simp only [Option.some.injEq,Prod.mk.injEq] at H
  obtain ⟨rfl,rfl⟩:=H
  go_enter Tryz.func75,Tryz.ntmps75
  go_wp2_with (first|(refine gL (some 9) Tryz.func126 #[.slice A0 l0.length c0,.slice A1 l1.length c1] (h:=?_);(with_reducible refine (Zdw.calls k _ _ l0 _ _ l1 qc _ ?side1 ?side2 ?side3 ?side4 A3.o).mono ?_);(case side1=>refine cp ?_;exact HR0.o);(case side2=>exact HC0.o);(case side3=>refine cp ?_;exact HR1.o);(case side4=>exact HC1.o);rintro e w7 ⟨rfl,hb⟩;refine ⟨_,rfl,?_⟩;replace HB:=bS hb)|(refine gL (some 15) Tryz.func131 #[.slice A0 l0.length c0,.slice A1 l1.length c1] (h:=?_);(with_reducible refine (Zaf.calls k _ _ l0 _ _ l1 qa _ ?side1 ?side2 ?side3 ?side4 A5.o).mono ?_);(case side1=>exact cB HR0 HB);(case side2=>exact HC0.o);(case side3=>exact cB HR1 HB);(case side4=>exact HC1.o);rintro e w8 ⟨qh,rfl,ho0,hb⟩;refine ⟨_,rfl,?_⟩;have qd:=am (Kd.Zn ho0 (Zb pB));replace HB:=bS hb;obtain ⟨Ao9,co9,eo9⟩:=Kd.Zh qd.o;subst eo9)|(refine gL (some 16) Tryz.func128 #[.slice Ao9 qa.length co9] (h:=?_);(with_reducible refine (Zer.calls (fun k_=>some k_=(.slice Ao9 qa.length co9:Value).ownBlock) (.slice Ao9 qa.length co9) qa qf qg w _ ?side1 ?side2 A6.o).mono ?_);(case side1=>exact pB);(case side2=>exact Kd.Zby rfl qd.o);rintro e w10 ⟨qi,rfl,ho0,hb,hkp⟩;refine ⟨_,rfl,?_⟩;have qe:=am (Kd.Zo (ok':=fun k_=>True) ho0 (fun k_ hk_=>trivial));replace HB:=am hb;clear qd))
  go_ret2
  exact ⟨_,pE,by refine rp ?_;exact qe.o,pB⟩
 ·simp only [Option.some.injEq,Prod.mk.injEq] at H
  obtain ⟨rfl,rfl⟩:=H
  go_enter Tryz.func75,Tryz.ntmps75
  go_wp2_with (first|(refine gL (some 9) Tryz.func126 #[.slice A0 l0.length c0,.slice A1 l1.length c1] (h:=?_);(with_reducible refine (Zdw.calls k _ _ l0 _ _ l1 qc _ ?side1 ?side2 ?side3 ?side4 A3.o).mono ?_);(case side1=>refine cp ?_;exact HR0.o);(case side2=>exact HC0.o);(case side3=>refine cp ?_;exact HR1.o);(case side4=>exact HC1.o);rintro e w11 ⟨rfl,hb⟩;refine ⟨_,rfl,?_⟩;replace HB:=bS hb))
  go_ret2
  exact ⟨_,pE,pN,pB⟩
end YtjbjkmccfocikaaGreatDoor.B
end
section
namespace YtjbjkmccfocikaaGreatDoor.B
open Go.RowKit YtjbjkmccfocikaaGreatDoorW.PrintWords YtjbjkmccfocikaaGreatDoor.P.Nm
theorem Zod (A B C D:Nat) (hA:A < 4294967296) (hB:B < 4294967296) (hC:C<=1) (hD:D < 4294967296) (h:(D:Int)=((A:Int) - B - C) % 4294967296) :
  (((4294967295 ^^^ A) &&& B) ||| ((4294967295 ^^^ (A ^^^ B)) &&& D)) / 2147483648=if A < B+C then 1 else 0:=by
 rw [show (2147483648:Nat)=2 ^ 31 by rfl,<- Nat.shiftRight_eq_div_pow,Nat.shiftRight_or_distrib,Nat.shiftRight_and_distrib,Nat.shiftRight_and_distrib,Nat.shiftRight_xor_distrib,Nat.shiftRight_xor_distrib,Nat.shiftRight_xor_distrib]
 rw [show (4294967295 >>> 31:Nat)=1 by rfl]
 simp only [Nat.shiftRight_eq_div_pow]
 rw [show (2 ^ 31:Nat)=2147483648 by rfl]
 obtain ⟨a,ha⟩:∃ a,A / 2147483648=a:=⟨_,rfl⟩
 obtain ⟨b,hb⟩:∃ b,B / 2147483648=b:=⟨_,rfl⟩
 obtain ⟨d,hd⟩:∃ d,D / 2147483648=d:=⟨_,rfl⟩
 rw [ha,hb,hd]
 have ha1:a=0\/a=1:=by omega
 have hb1:b=0\/b=1:=by omega
 have hd1:d=0\/d=1:=by omega
 obtain rfl|rfl:=ha1 <;> obtain rfl|rfl:=hb1 <;> obtain rfl|rfl:=hd1 <;> (split <;> first|rfl|(exfalso;omega))
theorem Zoe (a0 a1 a2:Int) (h1:0<=a0) (h2:a0 < 4294967296) (h3:0<=a1) (h4:a1 < 4294967296) (h5:0<=a2) (h6:a2<=1) :
  bits .or .u32 (bits .and .u32 (bits .xor .u32 IntKind.u32.max a0) a1) (bits .and .u32 (bits .xor .u32 IntKind.u32.max (bits .xor .u32 a0 a1)) ((a0 - a1 - a2) % 4294967296)) / 2147483648=if a0 < a1+a2 then 1 else 0:=by
 obtain ⟨D,hD⟩:=Int.eq_ofNat_of_zero_le (show 0<=(a0 - a1 - a2) % 4294967296 by omega)
 obtain ⟨A,rfl⟩:=Int.eq_ofNat_of_zero_le h1
 obtain ⟨B,rfl⟩:=Int.eq_ofNat_of_zero_le h3
 obtain ⟨C,rfl⟩:=Int.eq_ofNat_of_zero_le h5
 have key:=Zod A B C D (by omega) (by omega) (by omega) (by omega) hD.symm
 have e1:bits .xor .u32 IntKind.u32.max (A:Int)=((4294967295 ^^^ A:Nat):Int):=u32_xor_nat 4294967295 A (by omega) (by omega)
 have e2:bits .xor .u32 (A:Int) (B:Int)=((A ^^^ B:Nat):Int):=u32_xor_nat A B (by omega) (by omega)
 have x2:A ^^^ B < 2 ^ 32:=Nat.xor_lt_two_pow (by omega) (by omega)
 have e3:bits .xor .u32 IntKind.u32.max ((A ^^^ B:Nat):Int)=((4294967295 ^^^ (A ^^^ B):Nat):Int):=u32_xor_nat 4294967295 _ (by omega) (by omega)
 have x1:4294967295 ^^^ A < 2 ^ 32:=Nat.xor_lt_two_pow (by omega) (by omega)
 have x3:4294967295 ^^^ (A ^^^ B) < 2 ^ 32:=Nat.xor_lt_two_pow (by omega) (by omega)
 have e4:bits .and .u32 ((4294967295 ^^^ A:Nat):Int) (B:Int)=(((4294967295 ^^^ A) &&& B:Nat):Int):=u32_and_nat _ B (by omega) (by omega)
 have e5:bits .and .u32 ((4294967295 ^^^ (A ^^^ B):Nat):Int) (D:Int)=(((4294967295 ^^^ (A ^^^ B)) &&& D:Nat):Int):=u32_and_nat _ D (by omega) (by omega)
 have x4:(4294967295 ^^^ A) &&& B < 2 ^ 32:=Nat.and_lt_two_pow _ (by omega)
 have x5:(4294967295 ^^^ (A ^^^ B)) &&& D < 2 ^ 32:=Nat.and_lt_two_pow _ (by omega)
 have e6:bits .or .u32 (((4294967295 ^^^ A) &&& B:Nat):Int) (((4294967295 ^^^ (A ^^^ B)) &&& D:Nat):Int)=((((4294967295 ^^^ A) &&& B) ||| ((4294967295 ^^^ (A ^^^ B)) &&& D):Nat):Int):=u32_or_nat _ _ (by omega) (by omega)
 rw [hD,e1,e2,e3,e4,e5,e6]
 have := congrArg (Nat.cast:Nat->Int) key
 rw [Int.natCast_ediv] at this
 refine this.trans ?_
 by_cases hlt:A < B+C
 ·rw [if_pos hlt,if_pos (by omega)];rfl
 ·rw [if_neg hlt,if_neg (by omega)];rfl
def Zek.f (x y b:Int):Option (Int × Int) :=
 if 0<=x/\x < 4294967296/\0<=y/\y < 4294967296/\0<=b/\b<=1 then some ((x - y - b) % 4294967296,if x < y+b then 1 else 0) else none
theorem Zek.calls (a0 a1 a2 r1 r2:Int) (w:World) (h:Zek.f a0 a1 a2=some (r1,r2)) :
  Calls Tryz.prog 185 #[.int .u32 a0,.int .u32 a1,.int .u32 a2] w fun e w'=>e=.returned (.tuple #[.int .u32 r1,.int .u32 r2])/\Drawn0 w w':=by
 unfold Zek.f at h
 split at h
 case isFalse=>cases h
 case isTrue hk =>
 obtain ⟨h1,h2,h3,h4,h5,h6⟩:=hk
 obtain ⟨rfl,hr2⟩:=Prod.mk.inj (Option.some.inj h)
 have HF:=Aside0.mk ((Zoe a0 a1 a2 h1 h2 h3 h4 h5 h6).trans hr2)
 clear h h1 h2 h3 h4 h5 h6 hr2
 go_enter Tryz.func185,Tryz.ntmps185
 go_wp2
 go_ret2
 refine ⟨?_,Drawn0.refl _⟩
 exact congrArg (fun z=>Ending.returned (Value.tuple #[Value.int .u32 ((a0 - a1 - a2) % 4294967296),Value.int .u32 z])) HF.out
def bits_LeadingZeros32.f (x:Int):Option Int:=if 0<=x/\x<=4294967295 then some (32 - (Lib.bitLen x.toNat:Int)) else none
theorem bits_LeadingZeros32.calls (a0 r:Int) (w:World) (h:bits_LeadingZeros32.f a0=some r) :
  Calls Tryz.prog 156 #[.int .u32 a0] w fun e w'=>e=.returned (.int .i64 r)/\Drawn0 w w':=by
 unfold bits_LeadingZeros32.f at h
 split at h
 case isFalse=>cases h
 case isTrue hk =>
 obtain rfl:=Option.some.inj h
 refine (Tryz.bits_LeadingZeros32 a0 w hk.1 hk.2).mono ?_
 rintro e w' ⟨rfl,rfl⟩
 exact ⟨rfl,Drawn0.refl _⟩
def Zam.f (l0:List Int):Option (List Int):=if l0.length*4<=140737488355328 then some l0 else none
theorem Zam.zer (a:Addr) (c:Nat) (w:World) :
  Calls Tryz.prog 102 #[.slice (some a) 0 c] w fun e w' => ∃ v',e=.returned v'/\w'.ownsRow w.heap.size 85 1 v' 0 []/\Below w.heap.size w w':=by
 obtain ⟨i0,hi,hz0,hz1,hz2⟩:=info_parts info85
 have q22:∀ (w:World) (a:Option Addr) (n c n' c':Nat),(binOp .eql 22 (.slice a n c) (.slice none n' c')).run Tryz.prog w=.ok (.bool a.isNone) w:=fun w a n c n' c'=>Lib.run_eql_slice_nil w _ _ a n c n' c' Tryz.underlying22
 go_enter Tryz.func102,Tryz.ntmps102
 go_wp2_with (at_builtin;refine wpList_append_own _ rfl _ _ 22 rfl w.heap.size 85 i0 (.int .u32 0) 1 4 Tryz.underlying22 hi hz0 hz1 hz2 rfl (by decide) _ _ _ rfl (World.ownsRow_made w #[] 0 (Nat.le_refl _) (Nat.zero_le _) rfl) a 0 c [] rfl rfl (by intro j u hj;simp at hj) (by intro u hu;cases hu) (by unfold maxLen;omega) (by omega) (by simp) ?_)
 intro v' w1 hown hgrow hnil
 go_wp2
 go_ret
 exact ⟨v',rfl,by simpa using hown,((Below.refl _ w).alloc (Nat.le_refl _) _).grown hgrow (by simp) (by intro k hk;simp [Value.ownBlock] at hk;omega)⟩
theorem Zam.many (b off n c:Nat) (news:List Value) (w:World) (hl:news.length=n*1) (hn:n<=maxLen) (hbig:n*4<=140737488355328) (hc:∀ j u,news[j]? = some u->w.cell? ⟨b,off+j,none⟩=some u) (h1:∀ u ∈ news,u.oneCell'=true) :
  Calls Tryz.prog 102 #[.slice (some ⟨b,off,none⟩) n c] w fun e w' => ∃ v',e=.returned v'/\w'.ownsRow w.heap.size 85 1 v' n news/\Below w.heap.size w w':=by
 obtain ⟨i0,hi,hz0,hz1,hz2⟩:=info_parts info85
 have q22:∀ (w:World) (a:Option Addr) (n c n' c':Nat),(binOp .eql 22 (.slice a n c) (.slice none n' c')).run Tryz.prog w=.ok (.bool a.isNone) w:=fun w a n c n' c'=>Lib.run_eql_slice_nil w _ _ a n c n' c' Tryz.underlying22
 have AA:=Aside0.mk hc
 clear hc
 go_enter Tryz.func102,Tryz.ntmps102
 go_wp2_with (at_builtin;refine wpList_append_own _ rfl _ _ 22 rfl w.heap.size 85 i0 (.int .u32 0) 1 4 Tryz.underlying22 hi hz0 hz1 hz2 rfl (by decide) _ _ _ rfl (World.ownsRow_made w #[] 0 (Nat.le_refl _) (Nat.zero_le _) rfl) ⟨b,off,none⟩ n c news rfl ?qc1 ?qc2 ?qc3 ?qc4 ?qc5 ?qc6 ?_)
 case qc1=>exact hl
 case qc2 =>
  intro j u hj
  rw [Zh6]
  exact Lib.cell?_alloc_some _ (AA.out j u hj)
 case qc3=>exact h1
 case qc4=>rw [Nat.zero_add];exact hn
 case qc5=>rw [Nat.zero_add];exact hbig
 case qc6=>simp
 intro v' w1 hown hgrow hnil
 go_wp2
 go_ret
 exact ⟨v',rfl,by simpa using hown,((Below.refl _ w).alloc (Nat.le_refl _) _).grown hgrow (by simp) (by intro k hk;simp [Value.ownBlock] at hk;omega)⟩
theorem Zam.nul (n c:Nat) (w:World):Calls Tryz.prog 102 #[.slice none n c] w fun e w'=>e=.returned (.slice none 0 0)/\w'=w:=by
 have q22:∀ (w:World) (a:Option Addr) (n c n' c':Nat),(binOp .eql 22 (.slice a n c) (.slice none n' c')).run Tryz.prog w=.ok (.bool a.isNone) w:=fun w a n c n' c'=>Lib.run_eql_slice_nil w _ _ a n c n' c' Tryz.underlying22
 go_enter Tryz.func102,Tryz.ntmps102
 go_wp2
 go_ret
 exact ⟨rfl,rfl⟩
theorem Zam.calls (A0:Option Addr) (c0:Nat) (l0:List Int) (r:List Int) (w:World) (hr0:Kd.C (Kd.int .u32) w A0 l0.length l0) (hc0:l0.length<=c0) (h:Zam.f l0=some r) :
  Calls Tryz.prog 102 #[.slice A0 l0.length c0] w fun e w' => ∃ v0_:Value,e=.returned v0_/\Kd.R (Kd.int .u32) 85 w' w.heap.size (fun _=>True) v0_ r/\Below w.heap.size w w':=by
 unfold Zam.f at h
 split at h
 case isFalse=>cases h
 case isTrue hb =>
 obtain rfl:=Option.some.inj h
 have hR:ReadsOf (Value.int .u32) 0 w A0 l0.length l0:=Kd.Zgv hr0
 rcases Nat.eq_zero_or_pos l0.length with h0|h0
 ·obtain rfl:l0=[]:=List.eq_nil_of_length_eq_zero h0
  cases A0 with
  | none =>
   refine (Zam.nul _ _ w).mono ?_
   rintro e w' ⟨rfl,rfl⟩
   exact ⟨_,rfl,Kd.Zip _ _ _ _ _,Below.refl _ _⟩
  | some a =>
   refine (Zam.zer a c0 w).mono ?_
   rintro e w' ⟨v,rfl,ho,hb⟩
   exact ⟨v,rfl,Kd.Zdk (enc:=Value.int .u32) (xs:=[]) ho (fun _ _=>trivial),hb⟩
 ·obtain ⟨ad,rfl,hc⟩:=hR.2.2 h0
  obtain ⟨b,o,rfl⟩:=Zj4 (show w.cell? ad=_ from hc 0 h0)
  refine (Zam.many b o l0.length c0 (encs (Value.int .u32) l0) w (by simp [encs]) (by simp [maxLen];omega) hb (fun j u hj=>?_) (fun u hu=>?_)).mono ?_
  ·have hjl:j < l0.length:=by have := (List.getElem?_eq_some_iff.1 hj).1;simpa [encs] using this
   have := hc j hjl
   rw [Zh6] at this
   rw [this,<- hj]
   simp [encs,List.getD,List.getElem?_eq_getElem hjl]
  ·obtain ⟨x,_,rfl⟩:=List.mem_map.1 (show u ∈ l0.map (Value.int .u32) from hu)
   rfl
  ·rintro e w' ⟨v,rfl,ho,hb⟩
   exact ⟨v,rfl,Kd.Zdk (enc:=Value.int .u32) ho (fun _ _=>trivial),hb⟩
def Zdv.f (l0:List Int):Option (List Int):=if l0.length*4<=140737488355328 then some l0 else none
theorem Zdv.zer (a:Addr) (c:Nat) (w:World) :
  Calls Tryz.prog 155 #[.slice (some a) 0 c] w fun e w' => ∃ v',e=.returned v'/\w'.ownsRow w.heap.size 85 1 v' 0 []/\Below w.heap.size w w':=by
 obtain ⟨i0,hi,hz0,hz1,hz2⟩:=info_parts info85
 have q22:∀ (w:World) (a:Option Addr) (n c n' c':Nat),(binOp .eql 134 (.slice a n c) (.slice none n' c')).run Tryz.prog w=.ok (.bool a.isNone) w:=fun w a n c n' c'=>Lib.run_eql_slice_nil w _ _ a n c n' c' Tryz.underlying134
 go_enter Tryz.func155,Tryz.ntmps155
 go_wp2_with (at_builtin;refine wpList_append_own _ rfl _ _ 134 rfl w.heap.size 85 i0 (.int .u32 0) 1 4 Tryz.underlying134 hi hz0 hz1 hz2 rfl (by decide) _ _ _ rfl (World.ownsRow_made w #[] 0 (Nat.le_refl _) (Nat.zero_le _) rfl) a 0 c [] rfl rfl (by intro j u hj;simp at hj) (by intro u hu;cases hu) (by unfold maxLen;omega) (by omega) (by simp) ?_)
 intro v' w1 hown hgrow hnil
 go_wp2
 go_ret
 exact ⟨v',rfl,by simpa using hown,((Below.refl _ w).alloc (Nat.le_refl _) _).grown hgrow (by simp) (by intro k hk;simp [Value.ownBlock] at hk;omega)⟩
theorem Zdv.many (b off n c:Nat) (news:List Value) (w:World) (hl:news.length=n*1) (hn:n<=maxLen) (hbig:n*4<=140737488355328) (hc:∀ j u,news[j]? = some u->w.cell? ⟨b,off+j,none⟩=some u) (h1:∀ u ∈ news,u.oneCell'=true) :
  Calls Tryz.prog 155 #[.slice (some ⟨b,off,none⟩) n c] w fun e w' => ∃ v',e=.returned v'/\w'.ownsRow w.heap.size 85 1 v' n news/\Below w.heap.size w w':=by
 obtain ⟨i0,hi,hz0,hz1,hz2⟩:=info_parts info85
 have q22:∀ (w:World) (a:Option Addr) (n c n' c':Nat),(binOp .eql 134 (.slice a n c) (.slice none n' c')).run Tryz.prog w=.ok (.bool a.isNone) w:=fun w a n c n' c'=>Lib.run_eql_slice_nil w _ _ a n c n' c' Tryz.underlying134
 have AA:=Aside0.mk hc
 clear hc
 go_enter Tryz.func155,Tryz.ntmps155
 go_wp2_with (at_builtin;refine wpList_append_own _ rfl _ _ 134 rfl w.heap.size 85 i0 (.int .u32 0) 1 4 Tryz.underlying134 hi hz0 hz1 hz2 rfl (by decide) _ _ _ rfl (World.ownsRow_made w #[] 0 (Nat.le_refl _) (Nat.zero_le _) rfl) ⟨b,off,none⟩ n c news rfl ?qc1 ?qc2 ?qc3 ?qc4 ?qc5 ?qc6 ?_)
 case qc1=>exact hl
 case qc2 =>
  intro j u hj
  rw [Zh6]
  exact Lib.cell?_alloc_some _ (AA.out j u hj)
 case qc3=>exact h1
 case qc4=>rw [Nat.zero_add];exact hn
 case qc5=>rw [Nat.zero_add];exact hbig
 case qc6=>simp
 intro v' w1 hown hgrow hnil
 go_wp2
 go_ret
 exact ⟨v',rfl,by simpa using hown,((Below.refl _ w).alloc (Nat.le_refl _) _).grown hgrow (by simp) (by intro k hk;simp [Value.ownBlock] at hk;omega)⟩
theorem Zdv.nul (n c:Nat) (w:World):Calls Tryz.prog 155 #[.slice none n c] w fun e w'=>e=.returned (.slice none 0 0)/\w'=w:=by
 have q22:∀ (w:World) (a:Option Addr) (n c n' c':Nat),(binOp .eql 134 (.slice a n c) (.slice none n' c')).run Tryz.prog w=.ok (.bool a.isNone) w:=fun w a n c n' c'=>Lib.run_eql_slice_nil w _ _ a n c n' c' Tryz.underlying134
 go_enter Tryz.func155,Tryz.ntmps155
 go_wp2
 go_ret
 exact ⟨rfl,rfl⟩
theorem Zdv.calls (A0:Option Addr) (c0:Nat) (l0:List Int) (r:List Int) (w:World) (hr0:Kd.C (Kd.int .u32) w A0 l0.length l0) (hc0:l0.length<=c0) (h:Zdv.f l0=some r) :
  Calls Tryz.prog 155 #[.slice A0 l0.length c0] w fun e w' => ∃ v0_:Value,e=.returned v0_/\Kd.R (Kd.int .u32) 85 w' w.heap.size (fun _=>True) v0_ r/\Below w.heap.size w w':=by
 unfold Zdv.f at h
 split at h
 case isFalse=>cases h
 case isTrue hb =>
 obtain rfl:=Option.some.inj h
 have hR:ReadsOf (Value.int .u32) 0 w A0 l0.length l0:=Kd.Zgv hr0
 rcases Nat.eq_zero_or_pos l0.length with h0|h0
 ·obtain rfl:l0=[]:=List.eq_nil_of_length_eq_zero h0
  cases A0 with
  | none =>
   refine (Zdv.nul _ _ w).mono ?_
   rintro e w' ⟨rfl,rfl⟩
   exact ⟨_,rfl,Kd.Zip _ _ _ _ _,Below.refl _ _⟩
  | some a =>
   refine (Zdv.zer a c0 w).mono ?_
   rintro e w' ⟨v,rfl,ho,hb⟩
   exact ⟨v,rfl,Kd.Zdk (enc:=Value.int .u32) (xs:=[]) ho (fun _ _=>trivial),hb⟩
 ·obtain ⟨ad,rfl,hc⟩:=hR.2.2 h0
  obtain ⟨b,o,rfl⟩:=Zj4 (show w.cell? ad=_ from hc 0 h0)
  refine (Zdv.many b o l0.length c0 (encs (Value.int .u32) l0) w (by simp [encs]) (by simp [maxLen];omega) hb (fun j u hj=>?_) (fun u hu=>?_)).mono ?_
  ·have hjl:j < l0.length:=by have := (List.getElem?_eq_some_iff.1 hj).1;simpa [encs] using this
   have := hc j hjl
   rw [Zh6] at this
   rw [this,<- hj]
   simp [encs,List.getD,List.getElem?_eq_getElem hjl]
  ·obtain ⟨x,_,rfl⟩:=List.mem_map.1 (show u ∈ l0.map (Value.int .u32) from hu)
   rfl
  ·rintro e w' ⟨v,rfl,ho,hb⟩
   exact ⟨v,rfl,Kd.Zdk (enc:=Value.int .u32) ho (fun _ _=>trivial),hb⟩
theorem Zfn {b:Int}:∀ {l:List Int} {j:Nat} (x:Int),j < l.length->val b (l.set j x)=val b l+pw b j*(x - l.getD j 0)
 | [],j,x,h=>by simp at h
 | y :: l,0,x,_=>by simp [val,pw];omega
 | y :: l,j+1,x,h=>by
  have ih:=Zfn (b:=b) (l:=l) (j:=j) x (by simpa using h)
  rw [List.set_cons_succ,Zbk,Zbk,ih,Zen,Int.mul_add,Int.mul_assoc]
  simp [List.getD]
  omega
theorem Zh8 {b:Int} {l:List Int} (h:Dg b l) (j:Nat) {x:Int} (h0:0<=x) (h1:x < b):Dg b (l.set j x):=fun y hy=>by
 rcases List.mem_or_eq_of_mem_set hy with hy|rfl
 ·exact h y hy
 ·exact ⟨h0,h1⟩
theorem Zho {b:Int} {l:List Int} {k:Nat} (h:k < l.length):val b (l.take (k+1))=val b (l.take k)+pw b k*l.getD k 0:=by
 rw [List.take_succ_eq_append_getElem h,Zdm,List.length_take,Nat.min_eq_left (by omega),List.getD,List.getElem?_eq_getElem h]
 rfl
theorem Zet {l:List Int} {i j:Nat} (x:Int) (h:i ≠ j):(l.set i x).getD j 0=l.getD j 0:=by
 simp [List.getD,List.getElem?_set_ne h]
structure OffAt (q:Int) (xs v:List Int) (i k:Nat) (c b:Int) (ds:List Int):Prop where
 len:ds.length=xs.length
 dg:Dg 4294967296 ds
 c0:0<=c
 c1:c < 4294967296
 b01:b=0\/b=1
 law:val 4294967296 ds=val 4294967296 xs - pw 4294967296 i*(q*val 4294967296 (v.take k))+pw 4294967296 (i+k)*(c+b)
 hi:∀ j,i+k<=j->ds.getD j 0=xs.getD j 0
theorem OffAt.start {q:Int} {xs v:List Int} {i:Nat} (h:Dg 4294967296 xs):OffAt q xs v i 0 0 0 xs :=
 ⟨rfl,h,by omega,by omega,.inl rfl,by simp [val],fun _ _=>rfl⟩
theorem OffAt.prod {q y c:Int} (q0:0<=q) (q1:q < 4294967296) (y0:0<=y) (y1:y < 4294967296) (c0:0<=c) (c1:c < 4294967296):0<=q*y/\q*y+c < 18446744073709551616:=by
 have h1:=Int.mul_nonneg q0 y0
 have h2:=Int.mul_le_mul_of_nonneg_right (show q<=4294967295 by omega) y0
 exact ⟨h1,by omega⟩
theorem OffAt.step {q:Int} {xs v:List Int} {i k:Nat} {c b:Int} {ds:List Int} (h:OffAt q xs v i k c b ds) (q0:0<=q) (q1:q < 4294967296) (hv:Dg 4294967296 v) (hk:k < v.length) (hi:i+k < xs.length) :
  OffAt q xs v i (k+1) ((q*v.getD k 0+c) / 4294967296) (if ds.getD (i+k) 0 < (q*v.getD k 0+c) % 4294967296+b then 1 else 0) (ds.set (i+k) ((ds.getD (i+k) 0 - (q*v.getD k 0+c) % 4294967296 - b) % 4294967296)):=by
 have hy:0<=v.getD k 0/\v.getD k 0 < 4294967296:=by rw [List.getD,List.getElem?_eq_getElem hk];exact hv _ (List.getElem_mem hk)
 have hlt:i+k < ds.length:=by rw [h.len];exact hi
 have hu:0<=ds.getD (i+k) 0/\ds.getD (i+k) 0 < 4294967296:=by rw [List.getD,List.getElem?_eq_getElem hlt];exact h.dg _ (List.getElem_mem hlt)
 obtain ⟨p0,p1⟩:=OffAt.prod q0 q1 hy.1 hy.2 h.c0 h.c1
 have hb:=h.b01
 have hlaw:=h.law
 have ev:=Zfn (b:=4294967296) (l:=ds) ((ds.getD (i+k) 0 - (q*v.getD k 0+c) % 4294967296 - b) % 4294967296) hlt
 have et:=Zho (b:=4294967296) hk
 have c0:=h.c0
 obtain ⟨y,hyE⟩:∃ y,v.getD k 0=y:=⟨_,rfl⟩
 obtain ⟨u,huE⟩:∃ u,ds.getD (i+k) 0=u:=⟨_,rfl⟩
 rw [hyE] at hy ev et p0 p1 ⊢
 rw [huE] at hu ev ⊢
 obtain ⟨p,hp⟩:∃ p,q*y+c=p:=⟨_,rfl⟩
 rw [hp] at ev p1 ⊢
 refine ⟨by rw [List.length_set];exact h.len,Zh8 h.dg _ (by omega) (by omega),by omega,by omega,by split <;> simp,?_,fun j hj=>by rw [Zet _ (by omega)];exact h.hi j (by omega)⟩
 obtain ⟨d,hd⟩:∃ d,(u - p % 4294967296 - b) % 4294967296=d:=⟨_,rfl⟩
 obtain ⟨bw,hbw⟩:∃ bw,(if u < p % 4294967296+b then (1:Int) else 0)=bw:=⟨_,rfl⟩
 rw [hd] at ev ⊢
 rw [hbw]
 have key:c+b+(d - u)=4294967296*(p / 4294967296+bw) - q*y:=by
  rw [<- hbw,<- hd]
  split <;> omega
 rw [ev,hlaw,et,show i+(k+1)=i+k+1 by omega,Zen,Zhj,Int.mul_add q,Int.mul_add (pw 4294967296 i)]
 have e1:pw 4294967296 i*(q*(pw 4294967296 k*y))=pw 4294967296 i*pw 4294967296 k*(q*y):=by
  rw [Int.mul_left_comm q,Int.mul_assoc]
 have e2:4294967296*(pw 4294967296 i*pw 4294967296 k)*(p / 4294967296+bw)=pw 4294967296 i*pw 4294967296 k*(4294967296*(p / 4294967296+bw)):=by
  rw [Int.mul_comm 4294967296 (pw _ _*_),Int.mul_assoc]
 rw [e1,e2]
 generalize pw 4294967296 i*pw 4294967296 k=M
 have e3:=congrArg (M * ·) key
 simp only [Int.mul_sub,Int.mul_add] at e3 ⊢
 omega
theorem OffAt.done {q:Int} {xs v:List Int} {i:Nat} {c b:Int} {ds:List Int} (h:OffAt q xs v i v.length c b ds) (hi:i+v.length < xs.length) :
  Dg 4294967296 (ds.set (i+v.length) ((ds.getD (i+v.length) 0 - c - b) % 4294967296))/\val 4294967296 (ds.set (i+v.length) ((ds.getD (i+v.length) 0 - c - b) % 4294967296))=val 4294967296 xs - pw 4294967296 i*(q*val 4294967296 v)+pw 4294967296 (i+v.length+1)*(if ds.getD (i+v.length) 0 < c+b then 1 else 0) /\
  ∀ j,i+v.length+1<=j->(ds.set (i+v.length) ((ds.getD (i+v.length) 0 - c - b) % 4294967296)).getD j 0=xs.getD j 0:=by
 have hlt:i+v.length < ds.length:=by rw [h.len];exact hi
 have hu:0<=ds.getD (i+v.length) 0/\ds.getD (i+v.length) 0 < 4294967296:=by rw [List.getD,List.getElem?_eq_getElem hlt];exact h.dg _ (List.getElem_mem hlt)
 have hb:=h.b01
 have c0:=h.c0
 have c1:=h.c1
 refine ⟨Zh8 h.dg _ (by omega) (by omega),?_,fun j hj=>by rw [Zet _ (by omega)];exact h.hi j (by omega)⟩
 have hlaw:=h.law
 rw [List.take_length] at hlaw
 rw [Zfn _ hlt,hlaw,Zen]
 obtain ⟨u,huE⟩:∃ u,ds.getD (i+v.length) 0=u:=⟨_,rfl⟩
 rw [huE] at hu ⊢
 obtain ⟨bw,hbw⟩:∃ bw,(if u < c+b then (1:Int) else 0)=bw:=⟨_,rfl⟩
 rw [hbw]
 have key:c+b+((u - c - b) % 4294967296 - u)=4294967296*bw:=by
  rw [<- hbw]
  split <;> omega
 generalize pw 4294967296 (i+v.length)=M
 have e3:=congrArg (M * ·) key
 rw [Int.mul_comm 4294967296 M,Int.mul_assoc,<- e3]
 simp only [Int.mul_sub,Int.mul_add]
 omega
theorem Zrz (base g i n cap:Nat) (xs:List Int) (A1:Option Addr) (c1:Nat) (lv:List Int) (q:Int) (w:World) (hrow:w.ownsRow base 85 1 (.slice (some ⟨g,0,none⟩) n cap) n (nums .u32 xs)) (hbg:g < w.heap.size) (hx:Dg 4294967296 xs) (hr1:Kd.C (Kd.int .u32) w A1 lv.length lv) (hc1:lv.length<=c1) (hv:Dg 4294967296 lv)
  (hne:∀ ad,A1=some ad->lv.length=0\/ad.block ≠ g) (hi:i+lv.length < n) (hn:n<=cap) (hz:n<=2000000) (q0:0<=q) (q1:q < 4294967296) :
  Calls Tryz.prog 160 #[.slice (some ⟨g,i,none⟩) (n - i) (cap - i),.slice A1 lv.length c1,.int .u64 q] w fun e w' => ∃ (b:Int) (ds:List Int),e=.returned (.int .u32 b)/\(b=0\/b=1)/\w'.ownsRow base 85 1 (.slice (some ⟨g,0,none⟩) n cap) n (nums .u32 ds)/\Dg 4294967296 ds/\ds.length=xs.length /\
   val 4294967296 ds=val 4294967296 xs - pw 4294967296 i*(q*val 4294967296 lv)+pw 4294967296 (i+lv.length+1)*b/\(∀ j,i+lv.length+1<=j->ds.getD j 0=xs.getD j 0)/\Kept w w' (fun k=>k=g)/\Below g w w':=by
 have hlx:xs.length=n:=by have := hrow.1;simpa [nums] using this
 have e1:=Zgu hr1
 have HR:=Aside0.mk e1
 have HN:=Aside0.mk hne
 have HRow:=Aside0.mk hrow
 clear hr1 hne hrow e1
 obtain ⟨m,hm⟩:∃ m:Int,(lv.length:Int)=m:=⟨_,rfl⟩
 have HM:=Aside0.mk hm
 obtain ⟨L,hL⟩:∃ L,n - i=L:=⟨_,rfl⟩
 obtain ⟨C2,hC2⟩:∃ C2,cap - i=C2:=⟨_,rfl⟩
 rw [hL,hC2]
 go_enter Tryz.func160,Tryz.ntmps160
 go_wp2
 go_loopg [7,8,14] (lv.length+1) (fun kq v7 v8 v14 w' => ∃ (x7 x8 x14:Int) (ds:List Int),v7=.int .u64 x7/\v8=.int .u32 x8/\v14=.int .i64 x14/\Aside0 (0<=x14/\x14<=lv.length)/\Aside0 (OffAt q xs lv i x14.toNat x7 x8 ds)/\Aside0 (w'.ownsRow base 85 1 (.slice (some ⟨g,0,none⟩) n cap) n (nums .u32 ds))/\Aside0 (Kept w w' (fun k=>k=g))/\Aside0 (Below g w w')/\Aside0 (kq+x14.toNat=lv.length+1))
 case atStart=>exact ⟨0,0,0,xs,rfl,rfl,rfl,⟨by omega⟩,⟨OffAt.start hx⟩,HRow,⟨Kept.refl _ _⟩,⟨Below.refl _ _⟩,⟨rfl⟩⟩
 case round =>
  obtain ⟨x7,x8,x14,ds,rfl,rfl,rfl,HX,HO,HW,HKp,HB,HK⟩:=hrel
  obtain ⟨hx0,hx1⟩:=HX.out
  have hds:ds.length=n:=HO.out.len.trans hlx
  have hc7:=HO.out.c0
  have hc8:=HO.out.c1
  have hb8:=HO.out.b01
  have hct:x14.toNat<=lv.length:=by omega
  have hcell:=Zgk HW.out ((i+x14.toNat:Nat):Int) (by omega) (by omega)
  rw [Int.toNat_natCast] at hcell
  obtain ⟨u,hu⟩:∃ u,rd ds ((i+x14.toNat:Nat):Int)=u:=⟨_,rfl⟩
  rw [hu] at hcell
  obtain ⟨hcu,hfu⟩:=hcell
  have hug:ds.getD (i+x14.toNat) 0=u:=by rw [<- hu];unfold rd;rw [Int.toNat_natCast]
  have hur:0<=u/\u < 4294967296:=by
   have hin:i+x14.toNat < ds.length:=by omega
   rw [<- hug,List.getD,List.getElem?_eq_getElem hin]
   exact HO.out.dg _ (List.getElem_mem hin)
  by_cases hlt:x14 < lv.length
  ·have hltn:x14.toNat < lv.length:=by omega
   obtain ⟨b1,o1,y,hA,hcy,hy⟩:=HR.out.at hltn
   subst hA
   have hb1:b1 ≠ g:=by
    rcases HN.out _ rfl with h|h
    ·omega
    ·exact h
   have hcyW:=(World.cell?_of_block (a:=⟨b1,o1+x14.toNat,none⟩) (HKp.out.2 b1 (World.block_lt_of_cell? w _ hcy) hb1)).trans hcy
   have hyr:0<=y/\y < 4294967296:=by
    rw [hy,List.getD,List.getElem?_eq_getElem hltn]
    exact hv _ (List.getElem_mem hltn)
   obtain ⟨pp0,pp1⟩:=OffAt.prod q0 q1 hyr.1 hyr.2 hc7 hc8
   have hst:=HO.out.step q0 q1 hv hltn (by omega)
   rw [hug,<- hy] at hst
   have e0:IntKind.u64.wrap y=y:=by simp [IntKind.wrap,IntKind.bits,IntKind.signed];omega
   have e1:IntKind.u64.wrap (q*y)=q*y:=by simp [IntKind.wrap,IntKind.bits,IntKind.signed];omega
   have e2:IntKind.u64.wrap (q*y+x7)=q*y+x7:=by simp [IntKind.wrap,IntKind.bits,IntKind.signed];omega
   obtain ⟨p,hp⟩:∃ p,q*y+x7=p:=⟨_,rfl⟩
   have e3:IntKind.u64.wrap (q*y+x7)=p:=e2.trans hp
   clear e2
   rw [hp] at hst pp1
   obtain ⟨lo,hlo⟩:∃ lo,p % 4294967296=lo:=⟨_,rfl⟩
   obtain ⟨hi2,hhi⟩:∃ hi2,p / 4294967296=hi2:=⟨_,rfl⟩
   rw [hlo,hhi] at hst
   obtain ⟨d,hd⟩:∃ d,(u - lo - x8) % 4294967296=d:=⟨_,rfl⟩
   obtain ⟨bw,hbw⟩:∃ bw:Int,(if u < lo+x8 then 1 else 0)=bw:=⟨_,rfl⟩
   rw [hd,hbw] at hst
   have cS:=fun W:World=>Zek.calls u lo x8 d bw W (by unfold Zek.f;rw [if_pos (by omega),hd,hbw])
   have d1:decide (x14 < m)=true:=decide_eq_true (by omega)
   have p1:=eq_true hx0
   have p2:=eq_true hlt
   have p4:=eq_true (show x14 < m by omega)
   have p3:=eq_true (show x14 < (L:Int) by omega)
   have w1:IntKind.i64.wrap (x14+1)=x14+1:=by rw [IntKind.wrap_i64];omega
   have HST:=Aside0.mk hst
   have HQ:=Aside0.mk (And.intro q0 q1)
   have HXR:=Aside0.mk (show i+x14.toNat < n/\ds.length=n/\L=n - i from ⟨by omega,hds,hL.symm⟩)
   clear hst hur hyr pp0 pp1 hd hbw hp hy hug hu hcy hc7 hc8 hb8 HO
   go_wp2_with (go_at_call 185;(with_reducible refine (cS _).mono ?_);rintro e w' ⟨rfl,⟨nq,rfl⟩⟩)
   go_roundg (gk - 1)
   case measure=>have := HK.out;omega
   case rel =>
    have hst1:=Zfv (W:=wr.drewN nq) HW.out ((i+x14.toNat:Nat):Int) d
    rw [Int.toNat_natCast] at hst1
    have e5:(x14+1).toNat=x14.toNat+1:=by omega
    refine ⟨hi2,bw,x14+1,ds.set (i+x14.toNat) d,rfl,rfl,rfl,⟨by omega⟩,⟨by rw [e5];exact HST.out⟩,⟨hst1.1⟩,⟨⟨?_,fun k h1 h2=>(Below.heap_setCell _ ⟨g,i+x14.toNat,none⟩ _ k h2).trans (HKp.out.2 k h1 h2)⟩⟩,⟨(Zaz HB.out nq).setCell (p:=⟨g,i+x14.toNat,none⟩) (Nat.le_refl _) _⟩,⟨by have := HK.out;rw [e5];omega⟩⟩
    have := HKp.out.1
    simpa using this
  ·obtain rfl:x14=m:=by omega
   have hxm:x14.toNat=lv.length:=by omega
   have hst:=HO.out
   rw [hxm] at hst
   have hfin:=hst.done (by omega)
   rw [<- hxm,hug] at hfin
   obtain ⟨d,hd⟩:∃ d,(u - x7 - x8) % 4294967296=d:=⟨_,rfl⟩
   obtain ⟨bw,hbw⟩:∃ bw:Int,(if u < x7+x8 then 1 else 0)=bw:=⟨_,rfl⟩
   rw [hd,hbw] at hfin
   have hb01:bw=0\/bw=1:=by rw [<- hbw];split <;> simp
   have cS:=fun W:World=>Zek.calls u x7 x8 d bw W (by unfold Zek.f;rw [if_pos (by omega),hd,hbw])
   have d1:decide (x14 < x14)=false:=decide_eq_false (by omega)
   have p1:=eq_true hx0
   have p3:=eq_true (show x14 < (L:Int) by omega)
   have ec:x7 % 4294967296=x7:=by omega
   have HFin:=Aside0.mk hfin
   have HBw:=Aside0.mk hb01
   have HXM:=Aside0.mk hxm
   have HDS:=Aside0.mk (hds.trans hlx.symm)
   clear hst hfin hb01 hd hbw hur hug hu hc7 hc8 hb8 HO hxm hds hct
   go_wp2_with (go_at_call 185;(with_reducible refine (cS _).mono ?_);rintro e w' ⟨rfl,⟨nq,rfl⟩⟩)
   go_ret
   have hst1:=Zfv (W:=wr.drewN nq) HW.out ((i+x14.toNat:Nat):Int) d
   rw [Int.toNat_natCast] at hst1
   have hf:=HFin.out
   rw [HXM.out] at hf hst1
   refine ⟨bw,_,rfl,HBw.out,by rw [HXM.out];exact hst1.1,hf.1,by rw [List.length_set];exact HDS.out,hf.2.1,hf.2.2,⟨?_,fun k h1 h2=>(Below.heap_setCell _ ⟨g,i+x14.toNat,none⟩ _ k h2).trans (HKp.out.2 k h1 h2)⟩,(Zaz HB.out nq).setCell (p:=⟨g,i+x14.toNat,none⟩) (Nat.le_refl _) _⟩
   have := HKp.out.1
   simpa using this
theorem Zst (x y c:Int) (h1:0<=x) (h2:x < 4294967296) (h3:0<=y) (h4:y < 4294967296) (h5:c=0\/c=1):Zcl.f x y c=some ((x+y+c) % 4294967296,(x+y+c) / 4294967296):=by
 have e:∀ z:Int,IntKind.u64.wrap z=z % 18446744073709551616:=fun z=>by simp [IntKind.wrap,IntKind.bits,IntKind.signed]
 unfold Zcl.f
 simp only [e]
 congr 2
 ·omega
 ·omega
structure PutAt (xs v:List Int) (i k:Nat) (c:Int) (ds:List Int):Prop where
 len:ds.length=xs.length
 dg:Dg 4294967296 ds
 c01:c=0\/c=1
 law:val 4294967296 ds=val 4294967296 xs+pw 4294967296 i*val 4294967296 (v.take k) - pw 4294967296 (i+k)*c
 hi:∀ j,i+k<=j->ds.getD j 0=xs.getD j 0
theorem PutAt.start {xs v:List Int} {i:Nat} (h:Dg 4294967296 xs):PutAt xs v i 0 0 xs:=⟨rfl,h,.inl rfl,by simp [val],fun _ _=>rfl⟩
theorem PutAt.step {xs v:List Int} {i k:Nat} {c:Int} {ds:List Int} (h:PutAt xs v i k c ds) (hv:Dg 4294967296 v) (hk:k < v.length) (hi:i+k < xs.length) :
  PutAt xs v i (k+1) ((ds.getD (i+k) 0+v.getD k 0+c) / 4294967296) (ds.set (i+k) ((ds.getD (i+k) 0+v.getD k 0+c) % 4294967296)):=by
 have hy:0<=v.getD k 0/\v.getD k 0 < 4294967296:=by rw [List.getD,List.getElem?_eq_getElem hk];exact hv _ (List.getElem_mem hk)
 have hlt:i+k < ds.length:=by rw [h.len];exact hi
 have hu:0<=ds.getD (i+k) 0/\ds.getD (i+k) 0 < 4294967296:=by rw [List.getD,List.getElem?_eq_getElem hlt];exact h.dg _ (List.getElem_mem hlt)
 have hc:=h.c01
 have ev:=Zfn (b:=4294967296) (l:=ds) ((ds.getD (i+k) 0+v.getD k 0+c) % 4294967296) hlt
 have et:=Zho (b:=4294967296) hk
 obtain ⟨y,hyE⟩:∃ y,v.getD k 0=y:=⟨_,rfl⟩
 obtain ⟨u,huE⟩:∃ u,ds.getD (i+k) 0=u:=⟨_,rfl⟩
 rw [hyE] at hy ev et ⊢
 rw [huE] at hu ev ⊢
 refine ⟨by rw [List.length_set];exact h.len,Zh8 h.dg _ (by omega) (by omega),by omega,?_,fun j hj=>by rw [Zet _ (by omega)];exact h.hi j (by omega)⟩
 obtain ⟨s,hs⟩:∃ s,u+y+c=s:=⟨_,rfl⟩
 rw [hs] at ev ⊢
 have key:s % 4294967296 - u=y+c - 4294967296*(s / 4294967296):=by omega
 rw [ev,h.law,et,show i+(k+1)=i+k+1 by omega,Zen,Zhj,key,Int.mul_add (pw 4294967296 i)]
 have e1:pw 4294967296 i*(pw 4294967296 k*y)=pw 4294967296 i*pw 4294967296 k*y:=by rw [Int.mul_assoc]
 rw [e1]
 generalize pw 4294967296 i*pw 4294967296 k=M
 rw [Int.mul_comm 4294967296 M,Int.mul_assoc]
 simp only [Int.mul_sub,Int.mul_add]
 omega
theorem PutAt.done {xs v:List Int} {i:Nat} {c:Int} {ds:List Int} (h:PutAt xs v i v.length c ds) (hi:i+v.length < xs.length) :
  ∃ o:Int,(o=0\/o=1)/\Dg 4294967296 (ds.set (i+v.length) ((ds.getD (i+v.length) 0+c) % 4294967296))/\val 4294967296 (ds.set (i+v.length) ((ds.getD (i+v.length) 0+c) % 4294967296))=val 4294967296 xs+pw 4294967296 i*val 4294967296 v - pw 4294967296 (i+v.length+1)*o /\
   ∀ j,i+v.length+1<=j->(ds.set (i+v.length) ((ds.getD (i+v.length) 0+c) % 4294967296)).getD j 0=xs.getD j 0:=by
 have hlt:i+v.length < ds.length:=by rw [h.len];exact hi
 have hu:0<=ds.getD (i+v.length) 0/\ds.getD (i+v.length) 0 < 4294967296:=by rw [List.getD,List.getElem?_eq_getElem hlt];exact h.dg _ (List.getElem_mem hlt)
 have hc:=h.c01
 have hlaw:=h.law
 rw [List.take_length] at hlaw
 obtain ⟨u,huE⟩:∃ u,ds.getD (i+v.length) 0=u:=⟨_,rfl⟩
 refine ⟨(u+c) / 4294967296,by omega,?_,?_,fun j hj=>by rw [Zet _ (by omega)];exact h.hi j (by omega)⟩
 ·rw [huE] at hu ⊢
  exact Zh8 h.dg _ (by omega) (by omega)
 ·rw [Zfn _ hlt,hlaw,huE,Zen]
  have key:(u+c) % 4294967296 - u=c - 4294967296*((u+c) / 4294967296):=by omega
  rw [key]
  generalize pw 4294967296 (i+v.length)=M
  rw [Int.mul_comm 4294967296 M,Int.mul_assoc,Int.mul_sub]
  omega
structure PutR (base g i n cap:Nat) (xs lv:List Int) (w w':World):Prop where
 out:∃ (o:Int) (ds:List Int),(o=0\/o=1)/\w'.ownsRow base 85 1 (.slice (some ⟨g,0,none⟩) n cap) n (nums .u32 ds)/\Dg 4294967296 ds/\ds.length=xs.length /\
   val 4294967296 ds=val 4294967296 xs+pw 4294967296 i*val 4294967296 lv - pw 4294967296 (i+lv.length+1)*o/\(∀ j,i+lv.length+1<=j->ds.getD j 0=xs.getD j 0)
 kept:Kept w w' (fun k=>k=g)
 low:Below g w w'
theorem Zrs (base g i n cap:Nat) (xs:List Int) (A1:Option Addr) (c1:Nat) (lv:List Int) (w:World) (hrow:w.ownsRow base 85 1 (.slice (some ⟨g,0,none⟩) n cap) n (nums .u32 xs)) (hbg:g < w.heap.size) (hx:Dg 4294967296 xs) (hr1:Kd.C (Kd.int .u32) w A1 lv.length lv) (hc1:lv.length<=c1) (hv:Dg 4294967296 lv)
  (hne:∀ ad,A1=some ad->lv.length=0\/ad.block ≠ g) (hi:i+lv.length < n) (hn:n<=cap) (hz:n<=2000000) :
  Calls Tryz.prog 161 #[.slice (some ⟨g,i,none⟩) (n - i) (cap - i),.slice A1 lv.length c1] w fun e w'=>e=.returned (.tuple #[])/\PutR base g i n cap xs lv w w':=by
 have hlx:xs.length=n:=by have := hrow.1;simpa [nums] using this
 have e1:=Zgu hr1
 have HR:=Aside0.mk e1
 have HN:=Aside0.mk hne
 have HRow:=Aside0.mk hrow
 clear hr1 hne hrow e1
 obtain ⟨m,hm⟩:∃ m:Int,(lv.length:Int)=m:=⟨_,rfl⟩
 have HM:=Aside0.mk hm
 obtain ⟨L,hL⟩:∃ L,n - i=L:=⟨_,rfl⟩
 obtain ⟨C2,hC2⟩:∃ C2,cap - i=C2:=⟨_,rfl⟩
 rw [hL,hC2]
 go_enter Tryz.func161,Tryz.ntmps161
 go_wp2
 go_loopg [4,9] (lv.length+1) (fun kq v4 v9 w' => ∃ (x4 x9:Int) (ds:List Int),v4=.int .u32 x4/\v9=.int .i64 x9/\Aside0 (0<=x9/\x9<=lv.length)/\Aside0 (PutAt xs lv i x9.toNat x4 ds)/\Aside0 (w'.ownsRow base 85 1 (.slice (some ⟨g,0,none⟩) n cap) n (nums .u32 ds))/\Aside0 (Kept w w' (fun k=>k=g))/\Aside0 (Below g w w')/\Aside0 (kq+x9.toNat=lv.length+1))
 case atStart=>exact ⟨0,0,xs,rfl,rfl,⟨by omega⟩,⟨PutAt.start hx⟩,HRow,⟨Kept.refl _ _⟩,⟨Below.refl _ _⟩,⟨rfl⟩⟩
 case round =>
  obtain ⟨x4,x9,ds,rfl,rfl,HX,HO,HW,HKp,HB,HK⟩:=hrel
  obtain ⟨hx0,hx1⟩:=HX.out
  have hds:ds.length=n:=HO.out.len.trans hlx
  have hb4:=HO.out.c01
  have hct:x9.toNat<=lv.length:=by omega
  have hcell:=Zgk HW.out ((i+x9.toNat:Nat):Int) (by omega) (by omega)
  rw [Int.toNat_natCast] at hcell
  obtain ⟨u,hu⟩:∃ u,rd ds ((i+x9.toNat:Nat):Int)=u:=⟨_,rfl⟩
  rw [hu] at hcell
  obtain ⟨hcu,hfu⟩:=hcell
  have hug:ds.getD (i+x9.toNat) 0=u:=by rw [<- hu];unfold rd;rw [Int.toNat_natCast]
  have hur:0<=u/\u < 4294967296:=by
   have hin:i+x9.toNat < ds.length:=by omega
   rw [<- hug,List.getD,List.getElem?_eq_getElem hin]
   exact HO.out.dg _ (List.getElem_mem hin)
  by_cases hlt:x9 < lv.length
  ·have hltn:x9.toNat < lv.length:=by omega
   obtain ⟨b1,o1,y,hA,hcy,hy⟩:=HR.out.at hltn
   subst hA
   have hb1:b1 ≠ g:=by
    rcases HN.out _ rfl with h|h
    ·omega
    ·exact h
   have hcyW:=(World.cell?_of_block (a:=⟨b1,o1+x9.toNat,none⟩) (HKp.out.2 b1 (World.block_lt_of_cell? w _ hcy) hb1)).trans hcy
   have hyr:0<=y/\y < 4294967296:=by
    rw [hy,List.getD,List.getElem?_eq_getElem hltn]
    exact hv _ (List.getElem_mem hltn)
   have hst:=HO.out.step hv hltn (by omega)
   rw [hug,<- hy] at hst
   have cA:=fun W:World=>Zcl.calls u y x4 _ _ W (Zst u y x4 hur.1 hur.2 hyr.1 hyr.2 hb4)
   obtain ⟨d,hd⟩:∃ d,(u+y+x4) % 4294967296=d:=⟨_,rfl⟩
   obtain ⟨cw,hcw⟩:∃ cw,(u+y+x4) / 4294967296=cw:=⟨_,rfl⟩
   rw [hd,hcw] at hst cA
   have d1:decide (x9 < m)=true:=decide_eq_true (by omega)
   have p1:=eq_true hx0
   have p2:=eq_true hlt
   have p4:=eq_true (show x9 < m by omega)
   have p3:=eq_true (show x9 < (L:Int) by omega)
   have w1:IntKind.i64.wrap (x9+1)=x9+1:=by rw [IntKind.wrap_i64];omega
   have HST:=Aside0.mk hst
   have HXR:=Aside0.mk (show i+x9.toNat < n/\ds.length=n/\L=n - i from ⟨by omega,hds,hL.symm⟩)
   clear hst hur hyr hd hcw hy hug hu hcy hb4 HO
   go_wp2_with (go_at_call 164;(with_reducible refine (cA _).mono ?_);rintro e w' ⟨rfl,⟨nq,rfl⟩⟩)
   go_roundg (gk - 1)
   case measure=>have := HK.out;omega
   case rel =>
    have hst1:=Zfv (W:=wr.drewN nq) HW.out ((i+x9.toNat:Nat):Int) d
    rw [Int.toNat_natCast] at hst1
    have e5:(x9+1).toNat=x9.toNat+1:=by omega
    refine ⟨cw,x9+1,ds.set (i+x9.toNat) d,rfl,rfl,⟨by omega⟩,⟨by rw [e5];exact HST.out⟩,⟨hst1.1⟩,⟨⟨?_,fun k h1 h2=>(Below.heap_setCell _ ⟨g,i+x9.toNat,none⟩ _ k h2).trans (HKp.out.2 k h1 h2)⟩⟩,⟨(Zaz HB.out nq).setCell (p:=⟨g,i+x9.toNat,none⟩) (Nat.le_refl _) _⟩,⟨by have := HK.out;rw [e5];omega⟩⟩
    have := HKp.out.1
    simpa using this
  ·obtain rfl:x9=m:=by omega
   have hxm:x9.toNat=lv.length:=by omega
   have hst:=HO.out
   rw [hxm] at hst
   obtain ⟨o,ho,hfin⟩:=hst.done (by omega)
   rw [<- hxm,hug] at hfin
   obtain ⟨d,hd⟩:∃ d,(u+x4) % 4294967296=d:=⟨_,rfl⟩
   rw [hd] at hfin
   have d1:decide (x9 < x9)=false:=decide_eq_false (by omega)
   have p1:=eq_true hx0
   have p3:=eq_true (show x9 < (L:Int) by omega)
   have HFin:=Aside0.mk hfin
   have HOo:=Aside0.mk ho
   have HXM:=Aside0.mk hxm
   have HDS:=Aside0.mk (hds.trans hlx.symm)
   clear hst hfin ho hur hug hu hb4 HO hxm hds hct
   go_wp2
   refine ⟨rfl,.tuple #[],by simp [results,Tryz.f161,go_sem],rfl,?_,?_,?_⟩
   ·have hst1:=Zfv (W:=wr) HW.out ((i+x9.toNat:Nat):Int) d
    rw [Int.toNat_natCast] at hst1
    have hf:=HFin.out
    rw [HXM.out] at hf hst1
    exact ⟨o,_,HOo.out,by rw [HXM.out];exact hst1.1,hf.1,by rw [List.length_set];exact HDS.out,hf.2.1,hf.2.2⟩
   ·refine ⟨?_,fun k h1 h2=>(Below.heap_setCell _ ⟨g,i+x9.toNat,none⟩ _ k h2).trans (HKp.out.2 k h1 h2)⟩
    have := HKp.out.1
    simpa using this
   ·exact HB.out.setCell (p:=⟨g,i+x9.toNat,none⟩) (Nat.le_refl _) _
end YtjbjkmccfocikaaGreatDoor.B
end
section
namespace YtjbjkmccfocikaaGreatDoor.P.Nm
abbrev LB:Int:=4294967296
theorem pwB (k:Nat):pw LB k=((4294967296 ^ k:Nat):Int):=Zgl 4294967296 k
theorem Zgo {b:Int} (l:List Int) (j:Nat) (h:j<=l.length):val b l=val b (l.take j)+pw b j*val b (l.drop j):=by
 conv=>lhs;rw [<- List.take_append_drop j l]
 rw [Zg7,List.length_take,Nat.min_eq_left h]
theorem drop_one {l:List Int} {i:Nat} (h:i < l.length):l.drop i=l.getD i 0 :: l.drop (i+1):=by
 rw [List.getD,List.getElem?_eq_getElem h];exact List.drop_eq_getElem_cons h
theorem Zg8 {b:Int}:∀ {l:List Int} {k:Nat},(∀ j,k<=j->l.getD j 0=0)->val b (l.drop k)=0
 | l,k,h=>by
  have key:∀ m:List Int,(∀ x ∈ m,x=0)->val b m=0:=fun m=>by
   induction m with
   | nil=>intro _;rfl
   | cons x m ih =>
    intro hm
    rw [Zbk,hm x List.mem_cons_self,ih (fun y hy=>hm y (List.mem_cons_of_mem _ hy))]
    simp
  refine key _ (fun x hx=>?_)
  obtain ⟨j,hj⟩:=List.mem_iff_getElem?.1 hx
  rw [List.getElem?_drop] at hj
  have := h (k+j) (by omega)
  rw [List.getD,hj] at this
  exact this
theorem Zl6 {l:List Int} {k:Nat} (hd:Dg LB l) (hv:val LB l < pw LB k):∀ j,k<=j->l.getD j 0=0:=fun j hj=>by
 by_cases h:j < l.length
 ·have h1:=Zgo (b:=LB) l j (by omega)
  rw [drop_one h,Zbk] at h1
  have h2:=Zbj (b:=LB) (by decide) (hd.take j)
  have h3:=Zbj (b:=LB) (by decide) (hd.drop (j+1))
  have h4:=hd (l.getD j 0) (by rw [List.getD,List.getElem?_eq_getElem h];exact List.getElem_mem h)
  have h5:=Zqj (b:=LB) (by decide) hj
  have h6:=Zfg (b:=LB) (by decide) j
  rcases Int.lt_or_le 0 (l.getD j 0) with h7|h7
  ·exfalso
   have h8:=Int.mul_le_mul_of_nonneg_left (show 1<=l.getD j 0+LB*val LB (l.drop (j+1)) by
    have := Int.mul_nonneg (show (0:Int)<=LB by decide) h3
    omega) (Int.le_of_lt h6)
   omega
  ·omega
 ·rw [List.getD,List.getElem?_eq_none (by omega)];rfl
structure DivAt (U V:List Int) (m j:Nat) (ds qs:List Int):Prop where
 len:ds.length=U.length
 dg:Dg LB ds
 qlen:qs.length=m
 qdg:Dg LB qs
 qlo:∀ i,i < j->qs.getD i 0=0
 law:val LB U=val LB ds+val LB qs*val LB V
 low:val LB ds < pw LB j*val LB V
structure DivOk (U V:List Int) (m:Nat):Prop where
 ud:Dg LB U
 vd:Dg LB V
 ulen:U.length=m+V.length
 vlen:2<=V.length
 top:2147483648<=V.getD (V.length - 1) 0
 start:val LB U < pw LB m*val LB V
theorem DivAt.start {U V:List Int} {m:Nat} (h:DivOk U V m):DivAt U V m m U (List.replicate m 0) :=
 ⟨rfl,h.ud,by simp,Dg.zeros (by decide) _,fun i hi=>by simp [List.getD,List.getElem?_replicate,hi],by rw [Zgp];omega,h.start⟩
theorem DivAt.vpos {U V:List Int} {m:Nat} (h:DivOk U V m):0 < val LB V/\val LB V < pw LB V.length:=by
 have hl:=h.vlen
 have h1:=Zgo (b:=LB) V (V.length - 1) (by omega)
 rw [drop_one (by omega),Zbk,List.drop_of_length_le (by omega),Zf6] at h1
 have h2:=Zbj (b:=LB) (by decide) (h.vd.take (V.length - 1))
 have h3:=Zfg (b:=LB) (by decide) (V.length - 1)
 have h4:=Int.mul_le_mul_of_nonneg_left (show 1<=V.getD (V.length - 1) 0+LB*0 by have := h.top;omega) (Int.le_of_lt h3)
 exact ⟨by omega,Zd2 (by decide) h.vd⟩
structure Digit (U V:List Int) (i:Nat) (ds:List Int) (g q:Int):Prop where
 q0:0<=q
 q1:q < LB
 g0:0<=g
 g1:g < LB
 ge:q<=g
 le:g<=q+1
 lo:pw LB i*(q*val LB V)<=val LB ds
 hi:val LB ds < pw LB i*((q+1)*val LB V)
theorem top3 {l:List Int} {k:Nat} (h:k+2 < l.length) (hz:∀ j,k+3<=j->l.getD j 0=0):val LB l=val LB (l.take k)+pw LB k*(l.getD k 0+LB*(l.getD (k+1) 0+LB*l.getD (k+2) 0)):=by
 rw [Zgo l k (by omega),drop_one (show k < l.length by omega),Zbk,drop_one (show k+1 < l.length by omega),Zbk,drop_one (show k+1+1 < l.length by omega),Zbk,Zg8 (k:=k+1+1+1) hz]
 simp
theorem top2 {l:List Int} {k:Nat} (h:k+2=l.length):val LB l=val LB (l.take k)+pw LB k*(l.getD k 0+LB*l.getD (k+1) 0):=by
 rw [Zgo l k (by omega),drop_one (show k < l.length by omega),Zbk,drop_one (show k+1 < l.length by omega),Zbk,List.drop_of_length_le (by omega),Zf6]
 simp
theorem Zfm {l:List Int} (h:Dg LB l) (k:Nat):0<=l.getD k 0/\l.getD k 0 < LB:=by
 by_cases hk:k < l.length
 ·rw [List.getD,List.getElem?_eq_getElem hk];exact h _ (List.getElem_mem hk)
 ·rw [List.getD,List.getElem?_eq_none (by omega)];exact ⟨Int.le_refl _,by decide⟩
theorem DivAt.digit {U V:List Int} {m i:Nat} {ds qs:List Int} (h:DivAt U V m (i+1) ds qs) (ok:DivOk U V m) (hi:i < m) :
  ds.getD (i+V.length) 0<=V.getD (V.length - 1) 0 /\
  ∃ q,Digit U V i ds (min ((((ds.getD (i+V.length) 0)*LB+ds.getD (i+V.length - 1) 0)*LB+ds.getD (i+V.length - 2) 0) / (V.getD (V.length - 1) 0*LB+V.getD (V.length - 2) 0)) 4294967295) q:=by
 obtain ⟨vp,vl⟩:=DivAt.vpos ok
 have hvl:=ok.vlen
 obtain ⟨n,hn⟩:∃ n,V.length=n+2:=⟨V.length - 2,by omega⟩
 have hlen:i+n+2 < ds.length:=by rw [h.len,ok.ulen];omega
 have hz:∀ j,i+n+3<=j->ds.getD j 0=0:=Zl6 h.dg (by
  refine Int.lt_of_lt_of_le h.low ?_
  rw [show i+n+3=(i+1)+(n+2) by omega,Zhj LB (i+1) (n+2),<- hn]
  exact Int.mul_le_mul_of_nonneg_left (Int.le_of_lt vl) (Int.le_of_lt (Zfg (b:=LB) (by decide) _)))
 have eD:=top3 (l:=ds) (k:=i+n) hlen hz
 have eV:=top2 (l:=V) (k:=n) hn.symm
 rw [hn]
 rw [show i+(n+2)=i+n+2 by omega,show i+n+2 - 1=i+n+1 by omega,show i+n+2 - 2=i+n by omega,show n+2 - 1=n+1 by omega,show n+2 - 2=n by omega]
 have d2:=Zfm h.dg (i+n+2)
 have d1:=Zfm h.dg (i+n+1)
 have d0:=Zfm h.dg (i+n)
 have v1:=Zfm ok.vd (n+1)
 have v0:=Zfm ok.vd n
 have ht:=ok.top
 rw [hn,show n+2 - 1=n+1 by omega] at ht
 have hlow:=h.low
 obtain ⟨D,hD⟩:∃ D,val LB ds=D:=⟨_,rfl⟩
 obtain ⟨W,hW⟩:∃ W,val LB V=W:=⟨_,rfl⟩
 rw [hD] at eD hlow
 rw [hW] at eV hlow vp vl
 have t0:=Zbj (b:=LB) (by decide) (h.dg.take (i+n))
 have t1:=Zd2 (b:=LB) (by decide) (h.dg.take (i+n))
 rw [List.length_take,Nat.min_eq_left (by omega)] at t1
 have s0:=Zbj (b:=LB) (by decide) (ok.vd.take n)
 have s1:=Zd2 (b:=LB) (by decide) (ok.vd.take n)
 rw [List.length_take,Nat.min_eq_left (by omega)] at s1
 obtain ⟨x2,hx2⟩:∃ x,ds.getD (i+n+2) 0=x:=⟨_,rfl⟩
 obtain ⟨x1,hx1⟩:∃ x,ds.getD (i+n+1) 0=x:=⟨_,rfl⟩
 obtain ⟨x0,hx0⟩:∃ x,ds.getD (i+n) 0=x:=⟨_,rfl⟩
 obtain ⟨y1,hy1⟩:∃ x,V.getD (n+1) 0=x:=⟨_,rfl⟩
 obtain ⟨y0,hy0⟩:∃ x,V.getD n 0=x:=⟨_,rfl⟩
 rw [hx2,hx1,hx0] at eD
 rw [hy1,hy0] at eV
 rw [hx2] at d2 ⊢
 rw [hx1] at d1 ⊢
 rw [hx0] at d0 ⊢
 rw [hy1] at v1 ht ⊢
 rw [hy0] at v0 ⊢
 obtain ⟨u3,hu3⟩:∃ u3,(x2*LB+x1)*LB+x0=u3:=⟨_,rfl⟩
 obtain ⟨v2,hv2⟩:∃ v2,y1*LB+y0=v2:=⟨_,rfl⟩
 rw [hu3,hv2]
 have hB:LB=4294967296:=rfl
 have eu:x0+LB*(x1+LB*x2)=u3:=by rw [<- hu3,hB];omega
 have ev:y0+LB*y1=v2:=by rw [<- hv2,hB];omega
 rw [eu] at eD
 rw [ev] at eV
 have pi:=Zfg (b:=LB) (by decide) i
 have pn:=Zfg (b:=LB) (by decide) n
 have ein:pw LB (i+n)=pw LB i*pw LB n:=Zhj _ _ _
 obtain ⟨Y,hY⟩:∃ Y,D / pw LB i=Y:=⟨_,rfl⟩
 obtain ⟨r,hr⟩:∃ r,D % pw LB i=r:=⟨_,rfl⟩
 have hdm:D=pw LB i*Y+r:=by rw [<- hY,<- hr];exact (Int.mul_ediv_add_emod D (pw LB i)).symm
 have hr0:0<=r:=by rw [<- hr];exact Int.emod_nonneg _ (by omega)
 have hr1:r < pw LB i:=by rw [<- hr];exact Int.emod_lt_of_pos _ pi
 have hYlo:u3*pw LB n<=Y:=by
  refine Int.not_lt.1 (fun hc=>?_)
  have h1:=Int.mul_le_mul_of_nonneg_left (show Y+1<=u3*pw LB n by omega) (Int.le_of_lt pi)
  rw [Int.mul_add,Int.mul_one,Int.mul_left_comm (pw LB i) u3,<- ein,Int.mul_comm u3] at h1
  omega
 have hYhi:Y < (u3+1)*pw LB n:=by
  refine Int.not_le.1 (fun hc=>?_)
  have h1:=Int.mul_le_mul_of_nonneg_left hc (Int.le_of_lt pi)
  rw [Int.mul_left_comm (pw LB i) (u3+1),<- ein,Int.add_mul,Int.one_mul,Int.mul_comm u3] at h1
  omega
 have hVlo:v2*pw LB n<=W:=by rw [eV,Int.mul_comm];omega
 have hVhi:W < (v2+1)*pw LB n:=by rw [eV,Int.add_mul,Int.mul_comm v2];omega
 have hYW:Y < LB*W:=by
  refine Int.not_le.1 (fun hc=>?_)
  have h1:=Int.mul_le_mul_of_nonneg_left hc (Int.le_of_lt pi)
  rw [Zen,Int.mul_comm LB,Int.mul_assoc] at hlow
  omega
 have hx2y:x2<=y1:=by
  refine Int.not_lt.1 (fun hc=>?_)
  have h1:LB*(v2+1)<=u3:=by rw [<- hv2,<- hu3,hB];omega
  have h2:LB*W < LB*((v2+1)*pw LB n):=Int.mul_lt_mul_of_pos_left hVhi (by decide)
  have h3:=Int.mul_le_mul_of_nonneg_right h1 (Int.le_of_lt pn)
  rw [Int.mul_assoc] at h3
  omega
 refine ⟨hx2y,Y / W,?_⟩
 have hY0:0<=Y:=by
  have hu0:0<=u3:=by rw [<- hu3,hB];omega
  exact Int.le_trans (Int.mul_nonneg hu0 (Int.le_of_lt pn)) hYlo
 obtain ⟨q,hq⟩:∃ q,Y / W=q:=⟨_,rfl⟩
 rw [hq]
 have hq0:0<=q:=by rw [<- hq];exact Int.ediv_nonneg hY0 (Int.le_of_lt vp)
 have hq1:q < LB:=by rw [<- hq];exact Int.ediv_lt_of_lt_mul vp hYW
 have hqlo:q*W<=Y:=by rw [<- hq];exact Int.ediv_mul_le _ (by omega)
 have hqhi:Y < (q+1)*W:=by
  have := Int.lt_ediv_add_one_mul_self Y vp
  rwa [hq] at this
 have hv2pos:0 < v2:=by rw [<- hv2,hB];omega
 have hg0:0<=u3 / v2:=Int.ediv_nonneg (by rw [<- hu3,hB];omega) (Int.le_of_lt hv2pos)
 have hg1:u3 / v2*v2<=u3:=Int.ediv_mul_le _ (by omega)
 have l1:=Zps pn hYhi hVlo hq0 hqlo
 have l2:q<=u3 / v2:=(Int.le_ediv_iff_mul_le hv2pos).2 l1
 have l3:=Zoh pn hYlo hVhi (g:=u3 / v2) hg1 hqhi hq0 (by rw [<- hv2,hB];rw [hB] at hq1;omega)
 obtain ⟨g,hg⟩:∃ g,u3 / v2=g:=⟨_,rfl⟩
 rw [hg] at hg0 l2 l3 ⊢
 refine ⟨hq0,hq1,by omega,by rw [hB];omega,by rw [hB] at hq1;omega,by omega,?_,?_⟩
 ·rw [hD,hW]
  have := Int.mul_le_mul_of_nonneg_left hqlo (Int.le_of_lt pi)
  omega
 ·rw [hD,hW]
  have := Int.mul_le_mul_of_nonneg_left (show Y+1<=(q+1)*W by omega) (Int.le_of_lt pi)
  rw [Int.mul_add,Int.mul_one] at this
  omega
theorem Digit.off {U V:List Int} {m i:Nat} {ds ds':List Int} {g q b:Int} (h:Digit U V i ds g q) (ok:DivOk U V m) (hb:b=0\/b=1) (hd:Dg LB ds) (hd':Dg LB ds') (hlen:ds'.length=ds.length)
  (hv:val LB ds'=val LB ds - pw LB i*(g*val LB V)+pw LB (i+V.length+1)*b) (hsame:∀ j,i+V.length+1<=j->ds'.getD j 0=ds.getD j 0) (hlow:val LB ds < pw LB (i+1)*val LB V) :
  (b=0/\g=q/\val LB ds'=val LB ds - pw LB i*(q*val LB V))\/(b=1/\g=q+1/\val LB ds'=val LB ds - pw LB i*(g*val LB V)+pw LB (i+V.length+1)):=by
 obtain ⟨vp,vl⟩:=DivAt.vpos ok
 have hz:∀ j,i+V.length+1<=j->ds.getD j 0=0:=Zl6 hd (by
  refine Int.lt_of_lt_of_le hlow ?_
  rw [show i+V.length+1=(i+1)+V.length by omega,Zhj LB (i+1) V.length]
  exact Int.mul_le_mul_of_nonneg_left (Int.le_of_lt vl) (Int.le_of_lt (Zfg (b:=LB) (by decide) _)))
 have hup:val LB ds' < pw LB (i+V.length+1):=by
  by_cases hc:i+V.length+1<=ds'.length
  ·rw [Zgo ds' (i+V.length+1) hc,Zg8 (fun j hj=>(hsame j hj).trans (hz j hj)),Int.mul_zero,Int.add_zero]
   have := Zd2 (b:=LB) (by decide) (hd'.take (i+V.length+1))
   rwa [List.length_take,Nat.min_eq_left hc] at this
  ·exact Int.lt_of_lt_of_le (Zd2 (by decide) hd') (Zqj (by decide) (by omega))
 have h0:=Zbj (b:=LB) (by decide) hd'
 have hgq:g=q\/g=q+1:=by have := h.ge;have := h.le;omega
 rcases hgq with rfl|rfl
 ·left
  have := h.lo
  rcases hb with rfl|rfl
  ·exact ⟨rfl,rfl,by rw [hv];omega⟩
  ·exfalso;omega
 ·right
  have := h.hi
  rcases hb with rfl|rfl
  ·exfalso
   rw [Int.mul_zero] at hv;omega
  ·exact ⟨rfl,rfl,by rw [hv];omega⟩
theorem Digit.back {U V:List Int} {m i:Nat} {ds ds' ds2:List Int} {q o:Int} (h:Digit U V i ds (q+1) q) (ok:DivOk U V m) (ho:o=0\/o=1) (hd:Dg LB ds) (hd2:Dg LB ds2)
  (hv:val LB ds'=val LB ds - pw LB i*((q+1)*val LB V)+pw LB (i+V.length+1)) (hv2:val LB ds2=val LB ds'+pw LB i*val LB V - pw LB (i+V.length+1)*o)
  (hsame:∀ j,i+V.length+1<=j->ds'.getD j 0=ds.getD j 0) (hsame2:∀ j,i+V.length+1<=j->ds2.getD j 0=ds'.getD j 0) (hlow:val LB ds < pw LB (i+1)*val LB V) :
  val LB ds2=val LB ds - pw LB i*(q*val LB V):=by
 obtain ⟨vp,vl⟩:=DivAt.vpos ok
 have hz:∀ j,i+V.length+1<=j->ds.getD j 0=0:=Zl6 hd (by
  refine Int.lt_of_lt_of_le hlow ?_
  rw [show i+V.length+1=(i+1)+V.length by omega,Zhj LB (i+1) V.length]
  exact Int.mul_le_mul_of_nonneg_left (Int.le_of_lt vl) (Int.le_of_lt (Zfg (b:=LB) (by decide) _)))
 have hup:val LB ds2 < pw LB (i+V.length+1):=by
  by_cases hc:i+V.length+1<=ds2.length
  ·rw [Zgo ds2 (i+V.length+1) hc,Zg8 (fun j hj=>(hsame2 j hj).trans ((hsame j hj).trans (hz j hj))),Int.mul_zero,Int.add_zero]
   have := Zd2 (b:=LB) (by decide) (hd2.take (i+V.length+1))
   rwa [List.length_take,Nat.min_eq_left hc] at this
  ·exact Int.lt_of_lt_of_le (Zd2 (by decide) hd2) (Zqj (by decide) (by omega))
 have e:pw LB i*((q+1)*val LB V)=pw LB i*(q*val LB V)+pw LB i*val LB V:=by rw [Int.add_mul,Int.one_mul,Int.mul_add]
 rw [e] at hv
 have := h.lo
 rcases ho with rfl|rfl
 ·exfalso;omega
 ·omega
theorem DivAt.next {U V:List Int} {m i:Nat} {ds ds2 qs:List Int} {g q:Int} (h:DivAt U V m (i+1) ds qs) (ok:DivOk U V m) (hi:i < m) (hq:Digit U V i ds g q) (hlen:ds2.length=ds.length) (hd2:Dg LB ds2)
  (hv:val LB ds2=val LB ds - pw LB i*(q*val LB V)) (hset:val LB (qs.set i q)=val LB qs+pw LB i*(q - qs.getD i 0)) (hg:∀ j,i ≠ j->(qs.set i q).getD j 0=qs.getD j 0):DivAt U V m i ds2 (qs.set i q):=by
 refine ⟨hlen.trans h.len,hd2,by rw [List.length_set];exact h.qlen,fun y hy=>?_,fun j hj=>?_,?_,?_⟩
 ·rcases List.mem_or_eq_of_mem_set hy with hy|rfl
  ·exact h.qdg y hy
  ·exact ⟨hq.q0,hq.q1⟩
 ·rw [hg j (by omega)];exact h.qlo j (by omega)
 ·rw [h.law,hset,h.qlo i (by omega),hv,Int.sub_zero,Int.add_mul,Int.mul_assoc];omega
 ·rw [hv]
  have := hq.hi
  rw [Int.add_mul,Int.one_mul,Int.mul_add] at this
  omega
theorem DivAt.done {U V:List Int} {m:Nat} {ds qs:List Int} (h:DivAt U V m 0 ds qs) (ok:DivOk U V m) {a b P:Nat} (hP:0 < P) (hU:val LB U=((a*P:Nat):Int)) (hV:val LB V=((b*P:Nat):Int)) (hb:0 < b) :
  val LB qs=((a / b:Nat):Int)/\val LB ds=((a % b*P:Nat):Int):=by
 have hl:=h.low
 have hlaw:=h.law
 have d0:=Zbj (b:=LB) (by decide) h.dg
 have q0:=Zbj (b:=LB) (by decide) h.qdg
 obtain ⟨d,hd⟩:∃ d:Nat,val LB ds=d:=⟨(val LB ds).toNat,by omega⟩
 obtain ⟨q,hq⟩:∃ q:Nat,val LB qs=q:=⟨(val LB qs).toNat,by omega⟩
 rw [hd,hV] at hl
 rw [hU,hd,hq,hV] at hlaw
 simp only [pw,Int.one_mul] at hl
 have hl':d < b*P:=Int.ofNat_lt.1 hl
 have hn:a*P=d+q*(b*P):=by
  have:((a*P:Nat):Int)=((d+q*(b*P):Nat):Int):=by rw [hlaw,Int.natCast_add,Int.natCast_mul q]
  exact Int.ofNat.inj this
 have hdv:P ∣ d:=by
  have h1:P ∣ q*(b*P):=Nat.dvd_mul_left_of_dvd (Nat.dvd_mul_left P b) q
  have h2:P ∣ d+q*(b*P):=by rw [<- hn];exact Nat.dvd_mul_left P a
  exact (Nat.dvd_add_iff_left h1).2 h2
 obtain ⟨r,hr⟩:=hdv
 have ha:a=r+q*b:=by
  have:a*P=(r+q*b)*P:=by rw [hn,hr,Nat.add_mul,Nat.mul_comm P r,Nat.mul_assoc]
  exact Nat.eq_of_mul_eq_mul_right hP this
 have hrb:r < b:=by
  rw [hr,Nat.mul_comm P r] at hl'
  exact Nat.lt_of_mul_lt_mul_right hl'
 have e1:a / b=q:=by rw [ha,Nat.add_mul_div_right _ _ hb,Nat.div_eq_of_lt hrb,Nat.zero_add]
 have e2:a % b=r:=by rw [ha,Nat.add_mul_mod_self_right,Nat.mod_eq_of_lt hrb]
 rw [hq,hd,e1,e2,hr,Nat.mul_comm r]
 exact ⟨rfl,rfl⟩
end YtjbjkmccfocikaaGreatDoor.P.Nm
end
section
namespace YtjbjkmccfocikaaGreatDoor.P.Nm
open Go.Lib
theorem Zkx:∀ (f x:Nat),x<=f->x ≠ 0->x < 2 ^ 64->1<=Lib.bitLen x/\2 ^ (Lib.bitLen x - 1)<=x/\x < 2 ^ Lib.bitLen x
 | 0,x,hf,h0,h=>by omega
 | f+1,x,hf,h0,h=>by
  rw [Lib.bitLen_half x h0 h]
  by_cases h1:x / 2=0
  ·rw [h1]
   have e:Lib.bitLen 0=0:=by decide
   rw [e]
   have:x=1:=by omega
   subst this
   decide
  ·obtain ⟨a1,a2,a3⟩:=Zkx f (x / 2) (by omega) h1 (by omega)
   obtain ⟨m,hm⟩:∃ m,Lib.bitLen (x / 2)=m+1:=⟨Lib.bitLen (x / 2) - 1,by omega⟩
   rw [hm] at a2 a3 ⊢
   refine ⟨by omega,?_,?_⟩
   ·rw [show 1+(m+1) - 1=m+1 by omega,Nat.pow_succ]
    rw [show m+1 - 1=m by omega] at a2
    omega
   ·rw [show 1+(m+1)=m+1+1 by omega,Nat.pow_succ];omega
theorem Zno {x s:Nat} (h0:x ≠ 0) (h:x < 4294967296) (hs:(s:Int)=32 - (Lib.bitLen x:Int)):s < 32/\2147483648<=x*2 ^ s/\(x+1)*2 ^ s<=4294967296:=by
 obtain ⟨b1,b2,b3⟩:=Zkx x x (Nat.le_refl _) h0 (by omega)
 have b4:=Lib.bitLen_le x 32 (by omega) (by simpa using h)
 obtain ⟨m,hm⟩:∃ m,Lib.bitLen x=m+1:=⟨Lib.bitLen x - 1,by omega⟩
 rw [hm] at b2 b3 hs b4
 rw [show m+1 - 1=m by omega] at b2
 have hsm:m+s=31:=by omega
 refine ⟨by omega,?_,?_⟩
 ·have h1:=Nat.mul_le_mul_right (2 ^ s) b2
  rw [<- Nat.pow_add,hsm] at h1
  exact Nat.le_trans (by decide) h1
 ·have h1:=Nat.mul_le_mul_right (2 ^ s) (show x+1<=2 ^ (m+1) by omega)
  rw [<- Nat.pow_add,show m+1+s=32 by omega] at h1
  exact Nat.le_trans h1 (by decide)
theorem numB {l:List Int} (h:Dg LB l):val LB l=((num l:Nat):Int):=(Zdl h).symm
theorem Zsf {b:List Int} (hb:OkW b) (hne:b ≠ []):4294967296 ^ (b.length - 1)<=num b:=by
 have h:=Znp (b:=LB) (by decide) hb.dg hb.nz hne
 rw [pwB,numB hb.dg] at h
 exact Int.ofNat_le.1 h
theorem Ztb {a b:List Int} (ha:OkW a) (hb:OkW b) (h2:2<=b.length) (hle:num b<=num a) (hab:b.length<=a.length) {U:List Int} {s x:Nat} (hx:b.getD (b.length - 1) 0=(x:Int)) (hx0:x ≠ 0) (hx1:x < 4294967296) (hs:(s:Int)=32 - (Lib.bitLen x:Int)) (hU:U.length=a.length+1) (hUd:Dg LB U) (hUv:val LB U=val LB a*((2 ^ s:Nat):Int)) :
  DivOk U (limbs (num b*2 ^ s)) (a.length+1 - b.length)/\(limbs (num b*2 ^ s)).length=b.length:=by
 obtain ⟨s1,s2,s3⟩:=Zno hx0 hx1 hs
 obtain ⟨P,hP⟩:∃ P,2 ^ s=P:=⟨_,rfl⟩
 rw [hP] at s2 s3 hUv ⊢
 have hP0:0 < P:=by rw [<- hP];exact Nat.pow_pos (by omega)
 obtain ⟨n,hn⟩:∃ n,b.length=n+1:=⟨b.length - 1,by omega⟩
 have hbv:=Zgo (b:=LB) b n (by omega)
 rw [drop_one (by omega),Zbk,List.drop_of_length_le (by omega),Zf6,Int.mul_zero,Int.add_zero,show n=b.length - 1 by omega,hx,<- show n=b.length - 1 by omega,numB hb.dg,pwB] at hbv
 have t0:=Zbj (b:=LB) (by decide) (hb.dg.take n)
 have t1:=Zd2 (b:=LB) (by decide) (hb.dg.take n)
 rw [List.length_take,Nat.min_eq_left (by omega),pwB] at t1
 obtain ⟨r,hr⟩:∃ r:Nat,val LB (b.take n)=r:=⟨(val LB (b.take n)).toNat,by omega⟩
 rw [hr] at hbv t1
 obtain ⟨Q,hQ⟩:∃ Q,4294967296 ^ n=Q:=⟨_,rfl⟩
 rw [hQ] at hbv t1
 have hnb:num b=r+Q*x:=by
  have:((num b:Nat):Int)=((r+Q*x:Nat):Int):=by rw [hbv,Int.natCast_add,Int.natCast_mul]
  exact Int.ofNat.inj this
 have hrQ:r < Q:=Int.ofNat_lt.1 t1
 have hQ0:0 < Q:=by rw [<- hQ];exact Nat.pow_pos (by omega)
 have hup:num b*P < Q*4294967296:=by
  have h1:num b+1<=Q*(x+1):=by rw [hnb,Nat.mul_add];omega
  have h2:=Nat.mul_le_mul_right P h1
  rw [Nat.mul_assoc] at h2
  have h3:=Nat.mul_le_mul_left Q s3
  have h4:=Nat.mul_lt_mul_of_pos_right (show num b < num b+1 by omega) hP0
  omega
 have hlo:Q*2147483648<=num b*P:=by
  have h1:=Nat.mul_le_mul_left Q s2
  have h2:Q*(x*P)<=num b*P:=by rw [hnb,Nat.add_mul,Nat.mul_assoc];omega
  omega
 have hlen:(limbs (num b*P)).length=b.length:=by
  rw [hn]
  refine Zp9 (b:=4294967296) (by omega) (k:=n) ?_ ?_
  ·rw [hQ];exact Nat.le_trans (Nat.le_mul_of_pos_right Q (by omega)) hlo
  ·rw [Nat.pow_succ,hQ];exact hup
 have hVv:val LB (limbs (num b*P))=((num b*P:Nat):Int):=Zhd _
 refine ⟨⟨hUd,Zdf _,by rw [hU,hlen];omega,by rw [hlen];exact h2,?_,?_⟩,hlen⟩
 ·-- the highest place
  have hcut:=Zgo (b:=LB) (limbs (num b*P)) n (by omega)
  rw [drop_one (by omega),Zbk,List.drop_of_length_le (by omega),Zf6,Int.mul_zero,Int.add_zero,hVv,pwB,hQ] at hcut
  have u1:=Zd2 (b:=LB) (by decide) ((Zdf (num b*P)).take n)
  rw [List.length_take,Nat.min_eq_left (by omega),pwB,hQ] at u1
  rw [hlen,hn,show n+1 - 1=n by omega]
  obtain ⟨t,ht⟩:∃ t,(limbs (num b*P)).getD n 0=t:=⟨_,rfl⟩
  rw [ht] at hcut ⊢
  refine Int.not_lt.1 (fun hc=>?_)
  have h3:=Int.mul_le_mul_of_nonneg_left (show t<=2147483647 by omega) (show (0:Int)<=(Q:Int) by omega)
  have h4:((Q*2147483648:Nat):Int)<=((num b*P:Nat):Int):=Int.ofNat_le.2 hlo
  rw [Int.natCast_mul] at h4
  omega
 ·rw [hUv,hVv,pwB,numB ha.dg]
  have h1:num a < 4294967296 ^ a.length:=Zp6 ha.dg
  have h2:Q*P<=num b*P:=by
   have := Zsf hb (by intro e;rw [e] at h2;simp at h2)
   rw [hn,show n+1 - 1=n by omega,hQ] at this
   exact Nat.mul_le_mul_right P this
  have h3:4294967296 ^ (a.length+1 - b.length)*(Q*P)=4294967296 ^ a.length*P:=by
   rw [<- Nat.mul_assoc,<- hQ,<- Nat.pow_add]
   congr 2;omega
  have h4:=Nat.mul_le_mul_left (4294967296 ^ (a.length+1 - b.length)) h2
  have h5:=Nat.mul_lt_mul_of_pos_right h1 hP0
  have:num a*P < 4294967296 ^ (a.length+1 - b.length)*(num b*P):=by omega
  have h6:=Int.ofNat_lt.2 this
  rw [Int.natCast_mul,Int.natCast_mul] at h6
  exact h6
end YtjbjkmccfocikaaGreatDoor.P.Nm
end
section
namespace YtjbjkmccfocikaaGreatDoor.B
open Go.RowKit YtjbjkmccfocikaaGreatDoorW.PrintWords YtjbjkmccfocikaaGreatDoor.P.Nm
attribute [local go_sem] Oper.semAt_some
theorem Zrf (A0:Option Addr) (c0:Nat) (l0:List Int) (A1:Option Addr) (c1:Nat) (l1:List Int) (w:World) (hr0:Kd.C (Kd.int .u32) w A0 l0.length l0) (hc0:l0.length<=c0) (hr1:Kd.C (Kd.int .u32) w A1 l1.length l1) (hc1:l1.length<=c1)
  (h0:OkW l0) (h1:OkW l1) (hlt:num l0 < num l1) :
  Calls Tryz.prog 127 #[.slice A0 l0.length c0,.slice A1 l1.length c1] w fun e w' => ∃ v0_ v1_:Value,e=.returned (.tuple #[v0_,v1_])/\Kd.R (Kd.int .u32) 85 w' w.heap.size (fun k_=>some k_ ≠ (v1_:Value).ownBlock) v0_ []/\Kd.R (Kd.int .u32) 85 w' w.heap.size (fun k_=>some k_ ≠ (v0_:Value).ownBlock) v1_ l0/\Below w.heap.size w w':=by
 have cC:=Za0.calls A0 c0 l0 A1 c1 l1 (-1) w hr0 hc0 hr1 hc1 (by
  unfold Za0.f
  rw [Ze0.2 h0,Ze0.2 h1,Bool.and_self,if_pos rfl]
  unfold cmpI;rw [if_pos (by omega)])
 have hl0:=h0.len
 have HR:=Aside0.mk hr0
 have HC:=Aside0.mk hc0
 refine (callsIn_wide (n:=4)).1 ?_
 refine callsIn_of_wp_marks Tryz.func127 rfl trivial ?_ rfl
 simp only [Tryz.ntmps127,List.size_toArray,List.length_cons,List.length_nil,Nat.reduceAdd,Nat.reduceSub,Array.replicate_succ,Array.replicate_zero,List.push_toArray,List.append_toArray,List.nil_append,List.cons_append]
 clear hr0 hc0 hr1 hc1 hlt h0 h1
 have cl:=fun (W:World) (hB:Below w.heap.size w W)=>Zdv.calls A0 c0 l0 l0 W (Kd.Zi HR.out hB) HC.out (by unfold Zdv.f;rw [if_pos (by omega)])
 have CL:=Aside0.mk cl
 clear cl
 gi_wp2_with (first|(refine ⟨trivial,?_⟩;gi_at_call 138;refine (callsIn_wide.2 cC).mono ?_;rintro e w1 ⟨rfl,hb1⟩)|(refine ⟨trivial,?_⟩;gi_at_call 155;refine (callsIn_wide.2 (CL.out _ hb1)).mono ?_;rintro e w2 ⟨v1,rfl,hR,hb2⟩))
 refine ⟨_,by simp [results,Tryz.f127,go_sem],.slice none 0 0,v1,rfl,Kd.Zip _ _ _ _ _,?_,hb1.trans (hb2.mono hb1.size)⟩
 exact Kd.Zo (Kd.Zn hR hb1.size) (fun k hk=>by simp [Value.ownBlock])
theorem Zs8 (w:World) (r:Nat):Kd.R (Kd.int .u32) 85 (w.alloc (.cells #[.int .u32 (r:Int)] 85)) w.heap.size (fun k=>k=w.heap.size) (.slice (some ⟨w.heap.size,0,none⟩) 1 1) [(r:Int)] :=
 Kd.Zdk (enc:=Value.int .u32) (World.ownsRow_lit (base:=w.heap.size) (e:=85) (size:=1) w #[.int .u32 (r:Int)] 1 (Nat.le_refl _) (by decide) rfl) (fun k hk=>by simp [Value.ownBlock] at hk;exact hk.symm)
theorem Zfu {W:World} {b base n:Nat} {e:TypeId} {size:Nat} {v:Value} {xs:List Value} (h:W.ownsRow b e size v n xs) (hle:base<=b):W.ownsRow base e size v n xs:=by
 obtain ⟨h1,h2⟩:=h
 refine ⟨h1,?_⟩
 rcases h2 with h2|⟨g,cap,cur,h3,h4,h5⟩
 ·exact .inl h2
 ·exact .inr ⟨g,cap,cur,h3,Nat.le_trans hle h4,h5⟩
theorem Zis {W W':World} {base base' n:Nat} {e:TypeId} {size:Nat} {v v':Value} {xs:List Value} {l:List Int} {e':TypeId} {ok:Nat->Prop} (h:W.ownsRow base e size v n xs) (h':Kd.R (Kd.int .u32) e' W' base' ok v' l) (hok:∀ k,ok k->W.heap.size<=k) {k:Nat} (hk:v.ownBlock=some k) (hk':v'.ownBlock=some k):False:=by
 obtain ⟨cells,hc⟩:=Zfw h k hk
 have h1:=(Array.getElem?_eq_some_iff.1 hc).1
 have h2:=hok k (h'.1 k hk')
 omega
theorem Zu3 {b:Int} {l:List Int} (h:Dg b l) {i:Nat} (hi:i < l.length):0<=l.getD i 0/\l.getD i 0 < b:=by
 rw [List.getD,List.getElem?_eq_getElem hi];exact h _ (List.getElem_mem hi)
theorem size1 {l:List Int} (h:l.length=1):l=[l.getD 0 0]:=by
 obtain ⟨x,rfl⟩:=List.length_eq_one_iff.1 h
 rfl
theorem div_one (A0:Option Addr) (c0:Nat) (l0:List Int) (A1:Option Addr) (c1:Nat) (l1:List Int) (w:World) (hr0:Kd.C (Kd.int .u32) w A0 l0.length l0) (hc0:l0.length<=c0) (hr1:Kd.C (Kd.int .u32) w A1 l1.length l1) (hc1:l1.length<=c1)
  (h0:OkW l0) (h1:OkW l1) (hge:¬ num l0 < num l1) (hone:l1.length=1) :
  Calls Tryz.prog 127 #[.slice A0 l0.length c0,.slice A1 l1.length c1] w fun e w' => ∃ v0_ v1_:Value,e=.returned (.tuple #[v0_,v1_])/\Kd.R (Kd.int .u32) 85 w' w.heap.size (fun k_=>some k_ ≠ (v1_:Value).ownBlock) v0_ (limbs (num l0 / num l1))/\Kd.R (Kd.int .u32) 85 w' w.heap.size (fun k_=>some k_ ≠ (v0_:Value).ownBlock) v1_ (limbs (num l0 % num l1))/\Below w.heap.size w w':=by
 obtain ⟨ad,y,hA,hy,hcy⟩:∃ (ad:Addr) (y:Nat),A1=some ad/\l1=[(y:Int)]/\w.cell? (ad.add 0)=some (.int .u32 (y:Int)):=by
  obtain ⟨ad,c,hA,_,hK,hcc⟩:=Kd.Zor hr1 (0:Int) (0:Int) (by omega) (by omega)
  have e1:=size1 hone
  obtain ⟨y,hy⟩:∃ y:Nat,l1.getD 0 0=(y:Int):=⟨(l1.getD 0 0).toNat,by
   have := h1.dg (l1.getD 0 0) (by rw [e1];simp)
   omega⟩
  refine ⟨ad,y,hA,by rw [<- hy];exact e1,?_⟩
  obtain rfl:c=[.int .u32 (l1.getD (0:Int).toNat 0)]:=hK
  have := hcc 0 _ rfl
  rw [show (0:Int).toNat=0 from rfl,hy] at this
  exact this
 subst hA hy
 obtain ⟨b_,o_,rfl⟩:=Zj4 (show w.cell? ad=_ from hcy)
 have hcy0:w.cell? ⟨b_,o_,none⟩=some (.int .u32 (y:Int)):=hcy
 have hny:num [(y:Int)]=y:=by unfold num;simp [val]
 have hy1:(y:Int) < 4294967296:=(h1.dg (y:Int) (by simp)).2
 have hy0:0 < y:=by
  have := h1.nz
  rcases Nat.eq_zero_or_pos y with e|e
  ·subst e;exact absurd rfl this
  ·exact e
 rw [hny] at hge ⊢
 have cC:=fun (W:World) (hB:Below w.heap.size w W)=>Za0.calls A0 c0 l0 (some ⟨b_,o_,none⟩) c1 [(y:Int)] (cmpI (num l0) y) W (Kd.Zi hr0 hB) hc0 (Kd.Zi hr1 hB) hc1 (by
  unfold Za0.f
  rw [Ze0.2 h0,Ze0.2 h1,Bool.and_self,if_pos rfl,hny])
 have hcm:decide (cmpI (num l0) y < 0)=false:=decide_eq_false (by unfold cmpI;rw [if_neg (by omega)];split <;> omega)
 obtain ⟨cm,hcme⟩:∃ cm,cmpI (num l0) y=cm:=⟨_,rfl⟩
 rw [hcme] at cC hcm
 have cS:=fun (W:World) (hB:Below w.heap.size w W)=>Zc0.calls A0 c0 l0 (y:Int) _ _ W (Kd.Zi hr0 hB) hc0 (by
  unfold Zc0.f
  rw [Ze0.2 h0,decide_eq_true (show (0:Int) < (y:Int) by omega),decide_eq_true hy1,Bool.and_self,if_pos (by rfl),Int.toNat_natCast])
 have hrem:num l0 % y < 4294967296:=Nat.lt_of_lt_of_le (Nat.mod_lt _ hy0) (by omega)
 obtain ⟨QL,hQL⟩:∃ QL,limbs (num l0 / y)=QL:=⟨_,rfl⟩
 obtain ⟨r,hr⟩:∃ r,num l0 % y=r:=⟨_,rfl⟩
 rw [hQL,hr] at cS ⊢
 rw [hr] at hrem
 obtain ⟨kT,hkT⟩:=(P.Zd1 (l:=[(r:Int)]) (n:=r) (Dg.one (by omega) (by omega)) (by rw [val_one]) (by simp)).ex
 have CC:=Aside0.mk cC
 have CS:=Aside0.mk cS
 have HKT:=Aside0.mk hkT
 have H1:=Aside0.mk hc1
 have hlen1:([(y:Int)]:List Int).length=1:=rfl
 rw [hlen1]
 refine (callsIn_wide (n:=4)).1 ?_
 refine callsIn_of_wp_marks Tryz.func127 rfl trivial ?_ rfl
 simp only [Tryz.ntmps127,List.size_toArray,List.length_cons,List.length_nil,Nat.reduceAdd,Nat.reduceSub,Array.replicate_succ,Array.replicate_zero,List.push_toArray,List.append_toArray,List.nil_append,List.cons_append]
 clear hr0 hc0 hr1 hc1 hge h0 h1 hone hcy hny hy0 hcme cC cS hQL hr hkT hlen1 hrem
 gi_wp2_with (first|(refine ⟨trivial,?_⟩;gi_at_call 138;refine (callsIn_wide.2 (CC.out _ (Below.refl _ _))).mono ?_;rintro e w1 ⟨rfl,hb1⟩;have hcy1:=Zdg hb1 hcy0)|(refine ⟨trivial,?_⟩;gi_at_call 143;refine (callsIn_wide.2 (CS.out _ hb1)).mono ?_;rintro e w2 ⟨v0,rfl,hR,hb2⟩)|(refine ⟨trivial,?_⟩;gi_at_call 132;refine (callsIn_wide.2 (Zz.calls kT (fun k=>k=w2.heap.size) _ [(r:Int)] (limbs r) w2 _ ((Below.refl _ _).alloc (Nat.le_refl _) _) (Zs8 w2 r) HKT.out)).mono ?_;rintro e w3 ⟨v1,rfl,hR1,hb3,hkp⟩))
 refine ⟨_,by simp [results,Tryz.f127,go_sem],v0,v1,rfl,?_,?_,hb1.trans ((hb2.mono hb1.size).trans (hb3.mono (Nat.le_trans hb1.size hb2.size)))⟩
 ·exact Kd.Zdk (enc:=Value.int .u32) (Zfu (Kd.Zd6 (enc:=Value.int .u32) (Kd.Za hR hb3)) hb1.size) (fun k hk he=>Zis (Kd.Zd6 (enc:=Value.int .u32) hR) hR1 (fun k h=>by
   rcases h with h|h
   ·omega
   ·simp at h;omega) hk he.symm)
 ·exact Kd.Zdk (enc:=Value.int .u32) (Zfu (Kd.Zd6 (enc:=Value.int .u32) hR1) (Nat.le_trans hb1.size hb2.size)) (fun k hk he=>Zis (Kd.Zd6 (enc:=Value.int .u32) hR) hR1 (fun k h=>by
   rcases h with h|h
   ·omega
   ·simp at h;omega) he.symm hk)
theorem Znz {W:World} {base n:Nat} {e:TypeId} {ok:Nat->Prop} {v:Value} {l:List Int} (h:Kd.R (Kd.int .u32) e W base ok v l) (hl:l.length=n) (hp:0 < n):∃ g cap,v=.slice (some ⟨g,0,none⟩) n cap/\base<=g/\g < W.heap.size/\n<=cap/\W.ownsRow base e 1 (.slice (some ⟨g,0,none⟩) n cap) n (nums .u32 l):=by
 have ho:=Kd.Zd6 (enc:=Value.int .u32) h
 subst hl
 have ho':=ho
 obtain ⟨_,h2⟩:=ho'
 rcases h2 with ⟨_,h0⟩|⟨g,cap,cur,rfl,hg,hh,hle,_⟩
 ·omega
 ·exact ⟨g,cap,rfl,hg,(Array.getElem?_eq_some_iff.1 hh).1,hle,ho⟩
theorem Ze5 {W W':World} {base n g m c:Nat} {e:TypeId} {size:Nat} {xs:List Value} (h:W.ownsRow base e size (.slice (some ⟨g,0,none⟩) m c) n xs) (hk:W'.heap[g]? = W.heap[g]?):W'.ownsRow base e size (.slice (some ⟨g,0,none⟩) m c) n xs:=by
 obtain ⟨h1,h2⟩:=h
 refine ⟨h1,?_⟩
 rcases h2 with h2|⟨g',cap,cur,he,hg,hh,r⟩
 ·exact .inl h2
 ·obtain ⟨rfl,rfl,rfl⟩:g=g'/\m=n/\c=cap:=by simpa using he
  exact .inr ⟨_,_,cur,rfl,hg,hk.trans hh,r⟩
structure DvB (w:World) (K gu cu gv cv p m:Nat) (V:List Int) (sv:Value) (ds qs:List Int) (W:World):Prop where
 u:Boxed W K 134 (.slice (some ⟨gu,0,none⟩) (p+m+1) cu)
 v:Boxed W (K+1) 134 (.slice (some ⟨gv,0,none⟩) (p+1) cv)
 n:Boxed W (K+1+1) 3 (.int .i64 ((p:Int)+1))
 q:Boxed W (K+1+1+1+1) 134 (.slice (some ⟨K+1+1+1,0,none⟩) m m)
 s:Boxed W (K+1+1+1+1+1) 134 sv
 urow:W.ownsRow w.heap.size 85 1 (.slice (some ⟨gu,0,none⟩) (p+m+1) cu) (p+m+1) (nums .u32 ds)
 vrow:W.ownsRow w.heap.size 85 1 (.slice (some ⟨gv,0,none⟩) (p+1) cv) (p+1) (nums .u32 V)
 qrow:W.ownsRow w.heap.size 85 1 (.slice (some ⟨K+1+1+1,0,none⟩) m m) m (nums .u32 qs)
 low:Below w.heap.size w W
 lu:w.heap.size<=gu
 uv:gu < gv
 vK:gv < K
section
variable {w W W':World} {K gu cu gv cv p m:Nat} {V ds qs ds' qs':List Int} {sv:Value}
theorem DvB.drewN (h:DvB w K gu cu gv cv p m V sv ds qs W) (n:Nat):DvB w K gu cu gv cv p m V sv ds qs (W.drewN n) :=
 ⟨h.u,h.v,h.n,h.q,h.s,h.urow,h.vrow,h.qrow,Zaz h.low n,h.lu,h.uv,h.vK⟩
theorem DvB.ofU (h:DvB w K gu cu gv cv p m V sv ds qs W) (hk:Kept W W' (fun k=>k=gu)) (hb:Below gu W W') (hrow:W'.ownsRow w.heap.size 85 1 (.slice (some ⟨gu,0,none⟩) (p+m+1) cu) (p+m+1) (nums .u32 ds')):DvB w K gu cu gv cv p m V sv ds' qs W':=by
 have h1:=h.uv
 have h2:=h.vK
 have h3:=h.s.lt
 exact ⟨(hk.2 _ h.u.lt (by omega)).trans h.u,(hk.2 _ h.v.lt (by omega)).trans h.v,(hk.2 _ h.n.lt (by omega)).trans h.n,(hk.2 _ h.q.lt (by omega)).trans h.q,(hk.2 _ h.s.lt (by omega)).trans h.s,hrow,Ze5 h.vrow (hk.2 _ (by omega) (by omega)),Ze5 h.qrow (hk.2 _ (by omega) (by omega)),h.low.trans (hb.mono h.lu),h.lu,h.uv,h.vK⟩
theorem DvB.store (h:DvB w K gu cu gv cv p m V sv ds qs W) (i:Nat) (x:Int):DvB w K gu cu gv cv p m V sv ds (qs.set i x) (W.setCell ⟨K+1+1+1,i,none⟩ (.int .u32 x)):=by
 have h1:=h.uv
 have h2:=h.vK
 have h3:=h.lu
 have hs:=(Zfv h.qrow (i:Int) x).1
 rw [Int.toNat_natCast] at hs
 have hk:∀ k,k ≠ K+1+1+1->(W.setCell ⟨K+1+1+1,i,none⟩ (.int .u32 x)).heap[k]? = W.heap[k]?:=fun k hk=>Below.heap_setCell W ⟨K+1+1+1,i,none⟩ _ k hk
 exact ⟨(hk _ (by omega)).trans h.u,(hk _ (by omega)).trans h.v,(hk _ (by omega)).trans h.n,(hk _ (by omega)).trans h.q,(hk _ (by omega)).trans h.s,Ze5 h.urow (hk _ (by omega)),Ze5 h.vrow (hk _ (by omega)),hs,h.low.setCell (p:=⟨K+1+1+1,i,none⟩) (by simp;omega) _,h.lu,h.uv,h.vK⟩
theorem DvB.grown {row:Option Nat} {n:Nat} (hn:w.heap.size<=n) (h:DvB w K gu cu gv cv p m V sv ds qs W) (hg:W.grownBy W' row) (hr:∀ r,row=some r->n<=r /\ ∃ o:Obj,W.heap[r]? = some o/\o.isCells=false):DvB w K gu cu gv cv p m V sv ds qs W' :=
 ⟨h.u.kept hg (not_row hr h.u),h.v.kept hg (not_row hr h.v),h.n.kept hg (not_row hr h.n),h.q.kept hg (not_row hr h.q),h.s.kept hg (not_row hr h.s),Zgt h.urow hg hr,Zgt h.vrow hg hr,Zgt h.qrow hg hr,
  (ownFrom_below (Nat.le_refl _) hn:OwnFrom _ (fun _:List (Nat × Int)=>Below w.heap.size w)) [] W W' row h.low hg hr,h.lu,h.uv,h.vK⟩
theorem DvB.setS (h:DvB w K gu cu gv cv p m V sv ds qs W) (u:Value):DvB w K gu cu gv cv p m V u ds qs (W.setCell ⟨K+1+1+1+1+1,0,none⟩ u):=by
 have h1:=h.uv
 have h2:=h.vK
 have h3:=h.lu
 exact ⟨(Zbm W _ u _ (by omega)).trans h.u,(Zbm W _ u _ (by omega)).trans h.v,(Zbm W _ u _ (by omega)).trans h.n,(Zbm W _ u _ (by omega)).trans h.q,h.s.set u,Ze5 h.urow (Zbm W _ u _ (by omega)),Ze5 h.vrow (Zbm W _ u _ (by omega)),Ze5 h.qrow (Zbm W _ u _ (by omega)),h.low.setCell (p:=⟨K+1+1+1+1+1,0,none⟩) (by simp;omega) u,h.lu,h.uv,h.vK⟩
theorem DvB.rdw (h:DvB w K gu cu gv cv p m V sv ds qs W):RdW (some ⟨K+1+1+1,0,none⟩) m (fun _ _=>True) W:=.inr ⟨_,0,rfl,fun j hj=>⟨rd qs j,by
 have := (Zgk h.qrow (j:Int) (by omega) (by omega)).1
 rw [Int.toNat_natCast] at this
 rw [Nat.zero_add];exact this,trivial⟩⟩
theorem DvB.kp (h:DvB w K gu cu gv cv p m V sv ds qs W) (h':DvB w K gu cu gv cv p m V sv ds' qs' W'):KpB (K+1+1+1+1+1) (some ⟨K+1+1+1,0,none⟩) m (fun _ _=>True) W W' :=
 ⟨(show W'.heap[K+1+1+1+1+1]? = _ from h'.s).trans (show W.heap[K+1+1+1+1+1]? = _ from h.s).symm,fun _=>h'.rdw⟩
theorem Zjq {base n g c k:Nat} {e:TypeId} {size:Nat} {xs:List Value} (h:W.ownsRow base e size (.slice (some ⟨g,0,none⟩) k c) n xs) (hk:Kept W W' (fun k=>k=g)):KeepsOthers W W' :=
 ⟨hk.1,fun j o ho hc=>by
  by_cases e:j=g
  ·subst e
   obtain ⟨cells,hcell⟩:=Zfw h j rfl
   rw [hcell] at ho
   obtain rfl:=Option.some.inj ho
   cases hc
  ·exact (hk.2 j (Array.getElem?_eq_some_iff.1 ho).1 e).trans ho⟩
end
def DvI (w:World) (K gu cu gv cv p m:Nat) (U V:List Int) (pre:List (Nat × Int)) (W:World):Prop:=∃ sv ds qs,DivAt U V m (m - pre.length) ds qs/\DvB w K gu cu gv cv p m V sv ds qs W
theorem DvI.own {w:World} {K gu cu gv cv p m:Nat} {U V:List Int} {n:Nat} (hn:w.heap.size<=n):OwnFrom n (DvI w K gu cu gv cv p m U V):=by
 rintro pre A W row ⟨sv,ds,qs,h1,h⟩ hg hr
 exact ⟨sv,ds,qs,h1,h.grown hn hg hr⟩
theorem DvI.minds {w:World} {K gu cu gv cv p m:Nat} {U V:List Int}:Minds (K+1+1+1+1+1) (DvI w K gu cu gv cv p m U V):=by
 rintro pre W u ⟨sv,ds,qs,h1,h⟩
 exact ⟨u,ds,qs,h1,h.setS u⟩
theorem Zuj {W:World} {base g n c:Nat} {e:TypeId} {xs:List Int} (h:W.ownsRow base e 1 (.slice (some ⟨g,0,none⟩) n c) n (nums .u32 xs)):Kd.C (Kd.int .u32) W (some ⟨g,0,none⟩) n xs:=by
 have hl:xs.length=n:=by have := h.1;simpa [nums] using this
 subst hl
 have hR:Kd.R (Kd.int .u32) e W base (fun _=>True) (.slice (some ⟨g,0,none⟩) xs.length c) xs:=Kd.Zdk (enc:=Value.int .u32) h (fun _ _=>trivial)
 obtain ⟨A,c',he,_,hC⟩:=Kd.Zgb hR
 simp only [Value.slice.injEq] at he
 rw [he.1]
 exact hC
theorem DvB.start {w w4:World} {gu cu gv cv p m:Nat} {U V:List Int} (hU:w4.ownsRow w.heap.size 85 1 (.slice (some ⟨gu,0,none⟩) (p+m+1) cu) (p+m+1) (nums .u32 U)) (hV:w4.ownsRow w.heap.size 85 1 (.slice (some ⟨gv,0,none⟩) (p+1) cv) (p+1) (nums .u32 V))
  (hlow:Below w.heap.size w w4) (lu:w.heap.size<=gu) (uv:gu < gv) (vK:gv < w4.heap.size) (hm:m<=1000000) :
  DvB w w4.heap.size gu cu gv cv p m V (.slice (some ⟨w4.heap.size+1+1+1,0,none⟩) m m) U (List.replicate m 0)
   ((((((w4.alloc (.cells #[.slice (some ⟨gu,0,none⟩) (p+m+1) cu] 134)).alloc (.cells #[.slice (some ⟨gv,0,none⟩) (p+1) cv] 134)).alloc (.cells #[.int .i64 ((p:Int)+1)] 3)).alloc (.cells (madeCells #[.int .u32 0] m) 85)).alloc (.cells #[.slice (some ⟨w4.heap.size+1+1+1,0,none⟩) m m] 134)).alloc (.cells #[.slice (some ⟨w4.heap.size+1+1+1,0,none⟩) m m] 134)):=by
 obtain ⟨X1,hX1⟩:∃ X,w4.alloc (.cells #[.slice (some ⟨gu,0,none⟩) (p+m+1) cu] 134)=X:=⟨_,rfl⟩
 have b1:=Boxed.new w4 134 (.slice (some ⟨gu,0,none⟩) (p+m+1) cu)
 have s1:X1.heap.size=w4.heap.size+1:=by rw [<- hX1];simp
 have u1:=Zcw hU (.cells #[.slice (some ⟨gu,0,none⟩) (p+m+1) cu] 134)
 have v1:=Zcw hV (.cells #[.slice (some ⟨gu,0,none⟩) (p+m+1) cu] 134)
 have l1:=hlow.alloc hlow.size (.cells #[.slice (some ⟨gu,0,none⟩) (p+m+1) cu] 134)
 rw [hX1] at b1 u1 v1 l1 ⊢
 obtain ⟨X2,hX2⟩:∃ X,X1.alloc (.cells #[.slice (some ⟨gv,0,none⟩) (p+1) cv] 134)=X:=⟨_,rfl⟩
 have b2:=Boxed.new X1 134 (.slice (some ⟨gv,0,none⟩) (p+1) cv)
 have s2:X2.heap.size=X1.heap.size+1:=by rw [<- hX2];simp
 have u2:=Zcw u1 (.cells #[.slice (some ⟨gv,0,none⟩) (p+1) cv] 134)
 have v2:=Zcw v1 (.cells #[.slice (some ⟨gv,0,none⟩) (p+1) cv] 134)
 have l2:=l1.alloc l1.size (.cells #[.slice (some ⟨gv,0,none⟩) (p+1) cv] 134)
 have c1:=b1.alloc (.cells #[.slice (some ⟨gv,0,none⟩) (p+1) cv] 134)
 rw [hX2] at b2 u2 v2 l2 c1 ⊢
 obtain ⟨X3,hX3⟩:∃ X,X2.alloc (.cells #[.int .i64 ((p:Int)+1)] 3)=X:=⟨_,rfl⟩
 have b3:=Boxed.new X2 3 (.int .i64 ((p:Int)+1))
 have s3:X3.heap.size=X2.heap.size+1:=by rw [<- hX3];simp
 have u3:=Zcw u2 (.cells #[.int .i64 ((p:Int)+1)] 3)
 have v3:=Zcw v2 (.cells #[.int .i64 ((p:Int)+1)] 3)
 have l3:=l2.alloc l2.size (.cells #[.int .i64 ((p:Int)+1)] 3)
 have d1:=c1.alloc (.cells #[.int .i64 ((p:Int)+1)] 3)
 have d2:=b2.alloc (.cells #[.int .i64 ((p:Int)+1)] 3)
 rw [hX3] at b3 u3 v3 l3 d1 d2 ⊢
 have e3:X3.heap.size=w4.heap.size+1+1+1:=by omega
 have q4:=Znt X3 w.heap.size 85 .u32 m (by have := l3.size;omega) (by omega)
 have b5:=Boxed.new (X3.alloc (.cells (madeCells #[.int .u32 0] m) 85)) 134 (.slice (some ⟨w4.heap.size+1+1+1,0,none⟩) m m)
 have b6:=Boxed.new ((X3.alloc (.cells (madeCells #[.int .u32 0] m) 85)).alloc (.cells #[.slice (some ⟨w4.heap.size+1+1+1,0,none⟩) m m] 134)) 134 (.slice (some ⟨w4.heap.size+1+1+1,0,none⟩) m m)
 simp only [World.size_alloc,s3,s2,s1] at b1 b2 b3 b5 b6 q4 c1 d1 d2
 have a1:=hlow.size
 exact ⟨((d1.alloc _).alloc _).alloc _,((d2.alloc _).alloc _).alloc _,((b3.alloc _).alloc _).alloc _,b5.alloc _,b6,Zcw (Zcw (Zcw u3 _) _) _,Zcw (Zcw (Zcw v3 _) _) _,Zcw (Zcw q4 _) _,
  ((l3.alloc l3.size _).alloc (by simp;omega) _).alloc (by simp;omega) _,lu,uv,vK⟩
theorem Zlm (l:List Int) {j:Int} {k:Nat} (h:j=(k:Int)):rd l j=l.getD k 0:=by subst h;unfold rd;rw [Int.toNat_natCast]
theorem DivAt.guess {U V:List Int} {m i p:Nat} {ds qs:List Int} (h:DivAt U V m (i+1) ds qs) (ok:DivOk U V m) (hi:i < m) (hp:V.length=p+1) (hp1:1<=p) :
  ∃ (x2 x1 x0 y1 y0 g:Nat) (q:Int) (k:Nat),rd ds ((i:Int)+((p:Int)+1))=x2/\rd ds ((i:Int)+((p:Int)+1) - 1)=x1/\rd ds ((i:Int)+((p:Int)+1) - 2)=x0/\rd V p=y1/\rd V ((p:Int)+1 - 2)=y0/\Zbp.f k x2 x1 x0 y1 y0=some (g:Int)/\Digit U V i ds (g:Int) q:=by
 obtain ⟨ht,q,hd⟩:=h.digit ok hi
 rw [hp] at ht hd
 have a2:=Zfm h.dg (i+(p+1))
 have a1:=Zfm h.dg (i+(p+1) - 1)
 have a0:=Zfm h.dg (i+(p+1) - 2)
 have b1:=Zfm ok.vd (p+1 - 1)
 have b0:=Zfm ok.vd (p+1 - 2)
 have tp:=ok.top
 rw [hp] at tp
 obtain ⟨x2,e2⟩:=Int.eq_ofNat_of_zero_le a2.1
 obtain ⟨x1,e1⟩:=Int.eq_ofNat_of_zero_le a1.1
 obtain ⟨x0,e0⟩:=Int.eq_ofNat_of_zero_le a0.1
 obtain ⟨y1,f1⟩:=Int.eq_ofNat_of_zero_le b1.1
 obtain ⟨y0,f0⟩:=Int.eq_ofNat_of_zero_le b0.1
 rw [e2] at a2 ht hd
 rw [e1] at a1 hd
 rw [e0] at a0 hd
 rw [f1] at b1 ht tp hd
 rw [f0] at b0 hd
 have hB:LB=4294967296:=rfl
 rw [hB] at a2 a1 a0 b1 b0 hd
 obtain ⟨k,hk⟩:=(P.Zl5 x2 x1 x0 y1 y0 (by omega) (by omega) (by omega) (by omega) (by omega) (by omega)).ex
 refine ⟨x2,x1,x0,y1,y0,_,q,k,(Zlm _ (by omega)).trans e2,(Zlm _ (k:=i+(p+1) - 1) (by omega)).trans e1,(Zlm _ (k:=i+(p+1) - 2) (by omega)).trans e0,(Zlm _ (k:=p+1 - 1) (by omega)).trans f1,(Zlm _ (k:=p+1 - 2) (by omega)).trans f0,hk,?_⟩
 have e:((min (((x2*4294967296+x1)*4294967296+x0) / (y1*4294967296+y0)) 4294967295:Nat):Int)=min ((((x2:Int)*4294967296+x1)*4294967296+x0) / ((y1:Int)*4294967296+y0)) 4294967295:=by
  have hm:∀ a b:Nat,((min a b:Nat):Int)=min (a:Int) (b:Int):=fun a b=>by omega
  rw [hm]
  simp
 rw [e]
 exact hd
theorem DvI.next {w W2:World} {K gu cu gv cv p m i:Nat} {U V ds ds2 qs:List Int} {sv:Value} {g q:Int} {pre:List (Nat × Int)} {x:Nat × Int} (hat:DivAt U V m (i+1) ds qs) (ok:DivOk U V m) (hi:i < m) (hdig:Digit U V i ds g q) (hl2:ds2.length=ds.length) (hd2:Dg LB ds2)
  (hval:val LB ds2=val LB ds - pw LB i*(q*val LB V)) (hD:DvB w K gu cu gv cv p m V sv ds2 qs W2) (hnx:m - (pre ++ [x]).length=i):DvI w K gu cu gv cv p m U V (pre ++ [x]) (W2.setCell ⟨K+1+1+1,i,none⟩ (.int .u32 q)) :=
 ⟨sv,ds2,qs.set i q,by rw [hnx];exact hat.next ok hi hdig hl2 hd2 hval (Zfn q (by rw [hat.qlen];exact hi)) (fun j hj=>Zet q hj),hD.store i q⟩
theorem Zqe {W W':World} {base n g:Nat} {e:TypeId} {size:Nat} {v:Value} {xs:List Value} (h:W.ownsRow base e size v n xs) (hk:Kept W W' (fun k=>k=g)) (hne:v.ownBlock ≠ some g):W'.ownsRow base e size v n xs:=by
 obtain ⟨h1,h2⟩:=h
 refine ⟨h1,?_⟩
 rcases h2 with h2|⟨g',cap,cur,rfl,hg,hh,r⟩
 ·exact .inl h2
 ·exact .inr ⟨g',cap,cur,rfl,hg,(hk.2 g' (Array.getElem?_eq_some_iff.1 hh).1 (fun e=>hne (by rw [e];rfl))).trans hh,r⟩
theorem Zs0 {U V l0 l1 ds qs:List Int} {m p s:Nat} (hat:DivAt U V m 0 ds qs) (ok:DivOk U V m) (hU:val 4294967296 U=val 4294967296 l0*((2 ^ s:Nat):Int)) (hV:val LB V=((num l1*2 ^ s:Nat):Int)) (h0:OkW l0) (h1:OkW l1) (hp:V.length=p+1) (hpb:p+1<=1000000) (hm:m<=1000000) (hs:s < 32) (h2:2<=l1.length) :
  ∃ kq ku kr,Zz.f kq qs=some (limbs (num l0 / num l1))/\Zz.f ku ds=some (limbs (num l0 % num l1*2 ^ s))/\Zad.f kr (limbs (num l0 % num l1*2 ^ s)) (s:Int)=some (limbs (num l0 % num l1)):=by
 have hb:0 < num l1:=Nat.lt_of_lt_of_le (Nat.pow_pos (by omega)) (Zsf h1 (by intro e;rw [e] at h2;simp at h2))
 have hP:0 < 2 ^ s:=Nat.pow_pos (by omega)
 obtain ⟨vq,vr⟩:=hat.done ok (a:=num l0) (b:=num l1) (P:=2 ^ s) hP (by show val 4294967296 U=_;rw [hU];rw [<- Zdl h0.dg];exact (Int.natCast_mul _ _).symm) hV hb
 obtain ⟨kq,hq⟩:=(P.Zd1 hat.qdg vq (by rw [hat.qlen];omega)).ex
 obtain ⟨ku,hu⟩:=(P.Zd1 hat.dg vr (by rw [hat.len,ok.ulen,hp];omega)).ex
 have hlt:num l0 % num l1*2 ^ s < 4294967296 ^ (p+1):=by
  have e1:num l0 % num l1*2 ^ s < num l1*2 ^ s:=Nat.mul_lt_mul_of_pos_right (Nat.mod_lt _ hb) hP
  have e2:=Zd2 (b:=LB) (by decide) ok.vd
  rw [hV,hp,pwB] at e2
  exact Nat.lt_trans e1 (Int.ofNat_lt.1 e2)
 have hr:=P.Zi9 (Zdf (num l0 % num l1*2 ^ s)) (Nat.le_trans (P.Zgf hlt) hpb) s hs
 rw [Zc5,Nat.mul_div_cancel _ hP] at hr
 obtain ⟨kr,hr⟩:=hr.ex
 exact ⟨kq,ku,kr,hq,hu,hr⟩
theorem Zoq {F:Fence} {n:Nat} {P:Program} {c:Code} {Q:Exit->Act->World->Prop} {a b:Act} {w:World} (h:a=b) (k:Code.wpIn F n P c Q b w):Code.wpIn F n P c Q a w:=h ▸ k
theorem Zrg (A0:Option Addr) (c0:Nat) (l0:List Int) (A1:Option Addr) (c1:Nat) (l1:List Int) (w:World) (hr0:Kd.C (Kd.int .u32) w A0 l0.length l0) (hc0:l0.length<=c0) (hr1:Kd.C (Kd.int .u32) w A1 l1.length l1) (hc1:l1.length<=c1)
  (h0:OkW l0) (h1:OkW l1) (hge:¬ num l0 < num l1) (h2:2<=l1.length) :
  Calls Tryz.prog 127 #[.slice A0 l0.length c0,.slice A1 l1.length c1] w fun e w' => ∃ v0_ v1_:Value,e=.returned (.tuple #[v0_,v1_])/\Kd.R (Kd.int .u32) 85 w' w.heap.size (fun k_=>some k_ ≠ (v1_:Value).ownBlock) v0_ (limbs (num l0 / num l1))/\Kd.R (Kd.int .u32) 85 w' w.heap.size (fun k_=>some k_ ≠ (v0_:Value).ownBlock) v1_ (limbs (num l0 % num l1))/\Below w.heap.size w w':=by
 have hz0:=h0.len
 have hz1:=h1.len
 have hab:=P.Zoj h0.dg h1.dg h1.nz (by omega)
 obtain ⟨p,hp⟩:∃ p,l1.length=p+1:=⟨l1.length - 1,by omega⟩
 obtain ⟨m,hm⟩:∃ m,l0.length=p+m:=⟨l0.length - p,by omega⟩
 have hm1:1<=m:=by omega
 have hp1:1<=p:=by omega
 obtain ⟨x0,hx,hx0,hx1⟩:∃ x0:Nat,l1.getD p 0=(x0:Int)/\x0 ≠ 0/\x0 < 4294967296:=by
  have hin:=Zu3 h1.dg (show p < l1.length by omega)
  refine ⟨(l1.getD p 0).toNat,by omega,fun e=>?_,by omega⟩
  have hne:l1 ≠ []:=by intro e;rw [e] at h2;simp at h2
  obtain ⟨l',y,hl'⟩:=Zf5 hne
  have hy:=Zez.1 (hl' ▸ h1.nz)
  have hlen:l'.length=p:=by have := congrArg List.length hl';simp at this;omega
  have hyp:l1.getD p 0=y:=by rw [hl',List.getD,List.getElem?_append_right (by omega),hlen,Nat.sub_self];rfl
  rw [hyp] at e hin
  omega
 obtain ⟨b1,o1,x',hA1,hcx,hx'⟩:=(Zgu hr1).at (show p < l1.length by omega)
 rw [hx] at hx'
 subst hx' hA1
 obtain ⟨s,hs⟩:∃ s:Nat,(s:Int)=32 - (Lib.bitLen x0:Int):=⟨(32 - (Lib.bitLen x0:Int)).toNat,by have := Lib.bitLen_le x0 32 (by omega) (by simpa using hx1);omega⟩
 obtain ⟨s1,s2,s3⟩:=Zno hx0 hx1 hs
 obtain ⟨U,hU,hUl,hUd,hUv⟩:=P.Zjr h0.dg h0.len s s1
 obtain ⟨V0,hV0,hV0l,hV0d,hV0v⟩:=P.Zjr h1.dg h1.len s s1
 obtain ⟨hok,hVl⟩:=Ztb h0 h1 h2 (by omega) hab (by rw [hp];exact hx) hx0 hx1 hs hUl hUd hUv
 have hT:=P.Zd1 (n:=num l1*2 ^ s) hV0d (by rw [hV0v,<- Zdl h1.dg];exact (Int.natCast_mul _ _).symm) (by omega)
 obtain ⟨V,hV⟩:∃ V,limbs (num l1*2 ^ s)=V:=⟨_,rfl⟩
 have hVv:val LB V=((num l1*2 ^ s:Nat):Int):=by rw [<- hV];exact Zhd _
 rw [hV] at hok hVl hT
 obtain ⟨kU,hkU⟩:=hU.ex
 obtain ⟨kV,hkV⟩:=hV0.ex
 obtain ⟨kT,hkT⟩:=hT.ex
 have hzl:bits_LeadingZeros32.f (x0:Int)=some (s:Int):=by
  unfold bits_LeadingZeros32.f
  rw [if_pos (by omega),Int.toNat_natCast,hs]
 have cC:=fun (W:World) (hB:Below w.heap.size w W)=>Za0.calls A0 c0 l0 (some ⟨b1,o1,none⟩) c1 l1 (cmpI (num l0) (num l1)) W (Kd.Zi hr0 hB) hc0 (Kd.Zi hr1 hB) hc1 (by
  unfold Za0.f
  rw [Ze0.2 h0,Ze0.2 h1,Bool.and_self,if_pos rfl])
 have hcm:decide (cmpI (num l0) (num l1) < 0)=false:=decide_eq_false (by unfold cmpI;rw [if_neg (by omega)];split <;> omega)
 obtain ⟨cm,hcme⟩:∃ cm,cmpI (num l0) (num l1)=cm:=⟨_,rfl⟩
 rw [hcme] at cC hcm
 have cL0:=fun (W:World) (hB:Below w.heap.size w W)=>Za4.calls kU A0 c0 l0 (s:Int) U W (Kd.Zi hr0 hB) hc0 hkU
 have cL1:=fun (W:World) (hB:Below w.heap.size w W)=>Za4.calls kV (some ⟨b1,o1,none⟩) c1 l1 (s:Int) V0 W (Kd.Zi hr1 hB) hc1 hkV
 have cZ:=fun (W:World)=>bits_LeadingZeros32.calls (x0:Int) (s:Int) W hzl
 rw [hp] at cC cL1 hVl
 rw [hm] at cC cL0 hUl
 have hpb:p<=1000000:=by omega
 have hmb:m<=1000000:=by omega
 have hone:((p+1:Nat):Int) ≠ 1:=by omega
 have honeb:(((p+1:Nat):Int) == 1)=false:=beq_eq_false_iff_ne.2 hone
 obtain ⟨i0,hi,hzz⟩:=Option.map_eq_some_iff.1 info85
 simp only [Prod.mk.injEq] at hzz
 obtain ⟨hz1',hz2',hz3'⟩:=hzz
 have hmk:∀ W:World,(Instr.makeSlice 134 (.int .i64 m) (.int .i64 m)).run Tryz.prog W=.ok (.slice (some ⟨W.heap.size,0,none⟩) m m) (W.alloc (.cells (madeCells #[.int .u32 0] m) 85)):=fun W=>by
  have := run_make (P:=Tryz.prog) W 134 85 i0 (.int .u32 0) Tryz.underlying134 hi hz1' .i64 .i64 (m:Int) (m:Int) (by omega) (by omega) (by rw [hz3'];omega) (by omega)
  simp only [Int.toNat_natCast,hz2',Nat.mul_one] at this
  exact this
 have e57:(p:Int)+(m:Int)+1 - ((p:Int)+1)=(m:Int):=by omega
 have e0m:l0.length+1 - l1.length=m:=by omega
 rw [e0m] at hok
 clear e0m
 have CC:=Aside0.mk cC
 have CL0:=Aside0.mk cL0
 have CL1:=Aside0.mk cL1
 have HKT:=Aside0.mk hkT
 have HOK:=Aside0.mk hok
 have HUV:=Aside0.mk (And.intro hUv hVv)
 have HUL:=Aside0.mk hUl
 have HVL:=Aside0.mk hVl
 have HMK:=Aside0.mk hmk
 have HW0:=Aside0.mk (And.intro h0 h1)
 have HE57:=Aside0.mk e57
 have HS1:=Aside0.mk s1
 have HV0l:=Aside0.mk hV0l
 rw [hp,hm]
 have HP:=Aside0.mk hp
 have HM:=Aside0.mk hm
 refine (callsIn_wide (n:=4)).1 ?_
 refine callsIn_of_wp_marks Tryz.func127 rfl trivial ?_ rfl
 simp only [Tryz.ntmps127,List.size_toArray,List.length_cons,List.length_nil,Nat.reduceAdd,Nat.reduceSub,Array.replicate_succ,Array.replicate_zero,List.push_toArray,List.append_toArray,List.nil_append,List.cons_append]
 clear hr0 hc0 hr1 hc1 hge h0 h1 hcme cC cL0 cL1 hkT hok hUv hVv hUl hVl hmk e57 s1 s2 s3 hU hV0 hT hkU hkV hzl hV hV0l hV0d hV0v hUd hs hx hx0 hz1' hz2' hz3' hi hp hm hab
 gi_wp2_with (first
  | (refine ⟨trivial,?_⟩;gi_at_call 138;refine (callsIn_wide.2 (CC.out _ (Below.refl _ _))).mono ?_;rintro e w1 ⟨rfl,hb1⟩;have hcx1:=Zdg hb1 hcx)
  | (refine ⟨trivial,?_⟩;gi_at_call 156;refine (callsIn_wide.2 (cZ _)).mono ?_;rintro e wz ⟨rfl,nq,rfl⟩;have hbz:=Zaz hb1 nq)
  | (refine ⟨trivial,?_⟩;gi_at_call 157;refine (callsIn_wide.2 (CL1.out _ hbB)).mono ?_;rintro e w3 ⟨vb,rfl,hRb,hb3⟩)
  | (refine ⟨trivial,?_⟩;gi_at_call 157;refine (callsIn_wide.2 (CL0.out _ hbz)).mono ?_;rintro e w2 ⟨vu,rfl,hRu,hb2⟩;obtain ⟨gu,cu,rfl,hgu,hgu2,hcu,hrowU⟩:=Znz hRu HUL.out (by omega);have hbB:=hbz.trans (hb2.mono hbz.size);have HRU:=Aside0.mk hRu;have HROWU:=Aside0.mk hrowU;clear hRu hrowU)
  | (refine ⟨trivial,?_⟩;gi_at_call 132;refine (callsIn_wide.2 (Zz.calls kT (fun _=>True) _ V0 V w2 _ hb3 hRb HKT.out)).mono ?_;rintro e w4 ⟨vv,rfl,hRv,hb4,hkp⟩;obtain ⟨gv,cv,rfl,hgv,hgv2,hcv,hrowV⟩:=Znz hRv HVL.out (by omega);have HROWV:=Aside0.mk hrowV;have HRV:=Aside0.mk hRv;have HKP:=Aside0.mk hkp;clear hrowV hRv hkp hRb;have hmk:=HMK.out;have e57:=HE57.out)
  | (refine ⟨trivial,?_⟩;gi_at_call 158;refine (Zl0 _ _ _ _ _).mono ?_;rintro e w' ⟨rfl,rfl⟩))
 have hD0:DvB w w4.heap.size gu cu gv cv p m V _ U (List.replicate m 0) _:=DvB.start (Zfu (Ze5 HROWU.out (hb4.block _ hgu2)) hbz.size) (Zfu HROWV.out hbB.size) (hbB.trans (hb4.mono hbB.size)) (Nat.le_trans hbz.size hgu) (by omega) hgv2 hmb
 have hat0:=DivAt.start HOK.out
 have HD0:=Aside0.mk hD0
 have HAT0:=Aside0.mk hat0
 clear hat0 hcx hcx1 hmk e57 hb1 hbz nq hb2 hb3 hb4 hgu hgu2 hgv hgv2 hcm hone honeb cZ HRV HKP HRU HROWU HROWV HMK
 obtain ⟨K,hK⟩:∃ K,w4.heap.size=K:=⟨_,rfl⟩
 rw [hK] at hD0 HD0 ⊢
 refine Zd9 (b:=K+1+1+1+1+1) rfl (by decide) (gf:=184) (lb:=#[.pointer (some ⟨K+1+1+1+1+1,0,none⟩)]) rfl trivial (enters_of Tryz.func184 (by kernel_rfl) rfl)
  (Zhu 3 (by omega) (K+1+1+1+1+1) (some ⟨K+1+1+1,0,none⟩) m m (fun _ _=>True) (by omega) _ hD0.s hD0.rdw) (by simp [hK] <;> omega) (fun h k=>h.trans k)
  (fun W l o o' hl ho hc hw=>KpB.put (by simp [hK] at hl;omega) ho hc) (Below.refl _ _) (fun _=>rfl)
  (DvI w K gu cu gv cv p m U V) (fun _ _ _=>False) (DvI.own hD0.low.size) (fun _=>by rintro pre A W row h;exact h.elim) DvI.minds ?start
  (fun x=>{ tmps:=#[.slice A0 (p+m) c0,.slice (some ⟨b1,o1,none⟩) (p+1) c1,undef,undef,.slice none 0 0,.slice none 0 0,undef,undef,.int .i64 s,.pointer (some ⟨K,0,none⟩),.pointer (some ⟨K+1,0,none⟩),.pointer (some ⟨K+1+1,0,none⟩),.pointer (some ⟨K+1+1+1+1,0,none⟩),.int .i64 x.1,undef,.bool false,
   .slice A0 (p+m) c0,.slice (some ⟨b1,o1,none⟩) (p+1) c1,.int .i64 cm,.bool false,undef,undef,.bool false,.slice (some ⟨b1,o1,none⟩) (p+1) c1,.int .i64 ((p:Int)+1),.bool false,undef,undef,undef,undef,undef,undef,undef,undef,undef,undef,undef,undef,
   .slice (some ⟨b1,o1,none⟩) (p+1) c1,.slice (some ⟨b1,o1,none⟩) (p+1) c1,.int .i64 ((p:Int)+1),.int .i64 p,.pointer (some ⟨b1,o1+p,none⟩),.int .u32 (x0:Int),.int .i64 s,.slice A0 (p+m) c0,.int .i64 s,.slice (some ⟨gu,0,none⟩) (p+m+1) cu,.slice (some ⟨b1,o1,none⟩) (p+1) c1,.int .i64 s,vb,.slice (some ⟨gv,0,none⟩) (p+1) cv,
   .slice (some ⟨gv,0,none⟩) (p+1) cv,.int .i64 ((p:Int)+1),.slice (some ⟨gu,0,none⟩) (p+m+1) cu,.int .i64 ((p:Int)+(m:Int)+1),.int .i64 ((p:Int)+1),.int .i64 m,.slice (some ⟨K+1+1+1,0,none⟩) m m,.slice (some ⟨K+1+1+1,0,none⟩) m m,.func (.func 184) #[] #[.pointer (some ⟨K+1+1+1+1+1,0,none⟩)],.int .i64 x.1,.int .u32 x.2,undef,undef,undef,undef,undef,undef,undef,undef,undef,undef,undef,undef,undef,undef,undef,undef,undef,undef,undef,undef,undef,undef,undef,undef,undef,undef,undef,undef,undef,undef,undef,undef,undef,undef,undef,undef,undef,undef,undef,undef,undef,undef,undef,undef,undef,undef,undef,undef,undef,undef,undef,undef,undef,undef,undef,undef],defers:=[] }) ?assign ?body ?done ?stop
 case start=>exact ⟨_,_,_,HAT0.out,HD0.out⟩
 case assign =>
  intro l x W K hK
  gi_wp2
  exact hK
 case stop =>
  rintro D c pre W hD hpre h hK
  exact h.elim
 case body =>
  rintro l pre x W ⟨sv,ds,qs,hat,hD⟩ hlen hsp
  obtain ⟨hx1,hx2⟩:=hsp.2 pre.length x (by simp)
  obtain ⟨i,y⟩:=x
  simp only at hx1 hx2
  have hi:i < m:=by omega
  have hji:m - pre.length=i+1:=by omega
  rw [hji] at hat
  have hnx:m - (pre ++ [(i,y)]).length=i:=by simp;omega
  obtain ⟨x2,x1,xz,y1,y0,g,q,k,r2,r1,r0,t1,t0,hg,hdig⟩:=DivAt.guess hat HOK.out hi HVL.out hp1
  have cG:=fun W:World=>Zbp.calls k x2 x1 xz y1 y0 g W hg
  have hu:=hD.u.cell
  have hv:=hD.v.cell
  have hn:=hD.n.cell
  have k2:=(Zgk hD.urow ((i:Int)+((p:Int)+1)) (by omega) (by omega)).1
  have k1:=(Zgk hD.urow ((i:Int)+((p:Int)+1) - 1) (by omega) (by omega)).1
  have k0:=(Zgk hD.urow ((i:Int)+((p:Int)+1) - 2) (by omega) (by omega)).1
  have m1:=(Zgk hD.vrow (p:Int) (by omega) (by omega)).1
  have m0:=(Zgk hD.vrow ((p:Int)+1 - 2) (by omega) (by omega)).1
  rw [r2] at k2
  rw [r1] at k1
  rw [r0] at k0
  rw [t1] at m1
  rw [t0] at m0
  rw [show ((i:Int)+((p:Int)+1)).toNat=i+(p+1) by omega] at k2
  rw [Int.toNat_natCast] at m1
  rw [show ((i:Int)+((p:Int)+1) - 2).toNat=i+(p+1) - 2 by omega] at k0
  rw [show ((p:Int)+1 - 2).toNat=p - 1 by omega] at m0
  rw [show ((i:Int)+((p:Int)+1) - 1).toNat=i+p by omega] at k1
  have HAT:=Aside0.mk hat
  have HD:=Aside0.mk hD
  have HDG:=Aside0.mk hdig
  have HNX:=Aside0.mk hnx
  clear hat hD hdig hg r2 r1 r0 t1 t0 hlen hsp hx1 hx2 hji hnx hD0 HD0 HAT0 HUV HW0 HKT HUL HS1 HV0l CC CL0 CL1 HE57
  gi_wp2
  rename_i K1 hK1
  refine Ze1 (by kernel_rfl) (by kernel_rfl) (fun h=>by obtain ⟨_,_,h⟩:=h;exact h) (by kernel_rfl) ?_
  repeat (go_big_quiet_step ((go_at_call 159;exact Zf1 (cG _))))
  refine wpQuiet_nil ?_
  rintro _ ⟨nq,rfl⟩
  refine hK1 _ _ ?_
  clear hK1 k2 k1 k0 m1 m0 hn cG
  gi_wp2
  rename_i K2 hK2
  refine Zgr 5 (by kernel_rfl) (by kernel_rfl) (fun h=>by obtain ⟨_,_,h⟩:=h;exact h) (by kernel_rfl) ?_
  rw [show ({ W.drewN nq with drawn:=(W.drewN nq).drawn+1 }:World)=W.drewN (nq+1) from rfl]
  have hD1:=HD.out.drewN (nq+1)
  have hKO1:KeepsOthers W (W.drewN (nq+1)):=⟨Nat.le_refl _,fun k o h _=>h⟩
  obtain ⟨W1,hW1⟩:∃ W1,W.drewN (nq+1)=W1:=⟨_,rfl⟩
  rw [hW1] at hD1 hKO1 ⊢
  clear hW1 hu hv
  have hu:=hD1.u.cell
  have hv:=hD1.v.cell
  have hult:=hD1.u.lt
  have huv:=hD1.uv
  have hvK:=hD1.vK
  have hcV:=Zuj hD1.vrow
  have HDG0:=HDG.out
  have cT:=Zrz w.heap.size gu i (p+m+1) cu ds (some ⟨gv,0,none⟩) cv V g W1 hD1.urow (by omega) HAT.out.dg (by rw [HVL.out];exact hcV) (by rw [HVL.out];exact hcv) HOK.out.vd (fun ad h=>.inr (by cases h;show gv ≠ gu;omega)) (by rw [HVL.out];omega) hcu (by have := HM.out;omega) HDG0.g0 HDG0.g1
  rw [HVL.out] at cT
  have g0:(0:Int)<=(g:Int):=HDG0.g0
  have g1:(g:Int) < 18446744073709551616:=by have := HDG0.g1;have hB:LB=4294967296:=rfl;omega
  have HD1:=Aside0.mk hD1
  have HKO1:=Aside0.mk hKO1
  have CT:=Aside0.mk cT
  clear hcV HDG0 hD1 hKO1 cT hult
  have hsl:(i:Int)<=(p:Int)+(m:Int)+1:=by omega
  have hci:¬ cu=i:=by omega
  simp only [List.take_succ_cons,List.take_zero,List.drop_succ_cons,List.drop_zero]
  repeat still_step
  refine wpStill_nil ?_
  go_wp2_with (go_at_call 160;refine (CT.out).mono ?_;rintro e W2 ⟨b,ds2,rfl,hb01,hrow2,hd2,hl2,hv2,hs2,hk2,hlow2⟩)
  have hD2:=HD1.out.ofU hk2 hlow2 hrow2
  have hKO2:=HKO1.out.trans (Zjq HD1.out.urow hk2)
  have hoff:=HDG.out.off HOK.out hb01 HAT.out.dg hd2 hl2 (by rw [HVL.out];exact hv2) (by rw [HVL.out];exact hs2) HAT.out.low
  clear hu hv CT HD1 HKO1
  rcases hoff with ⟨rfl,hgq,hval⟩|⟨rfl,hgq,hval⟩
  ·rw [show decide ((0:Int) < 0)=false from rfl]
   have hq:=hD2.q.cell
   have hc:=Zgk hD2.qrow (i:Int) (by omega) (by omega)
   rw [Int.toNat_natCast] at hc
   have hcc:=hc.1
   have hcf:=hc.2
   have hg1:(g:Int) < 4294967296:=HDG.out.g1
   have HD2:=Aside0.mk hD2
   have HKO2:=Aside0.mk hKO2
   have HK2:=Aside0.mk hk2
   have HV:=Aside0.mk (And.intro hl2 (And.intro hd2 hval))
   have HGQ:=Aside0.mk hgq
   clear hD2 hKO2 hk2 hl2 hd2 hval hgq hrow2 hlow2 hs2 hv2 hb01 hc
   gi_wp2
   have hgq':=HGQ.out
   rw [hgq']
   exact ⟨((HKO2.out.trans (KeepsOthers.setCell W2 _ _)).from _),HD.out.kp (HD2.out.store i q),DvI.next HAT.out HOK.out hi HDG.out HV.out.1 HV.out.2.1 HV.out.2.2 HD2.out HNX.out⟩
  ·rw [show decide ((0:Int) < 1)=true from rfl]
   have hq1:(1:Int)<=(g:Int):=by have := HDG.out.q0;omega
   have HD2:=Aside0.mk hD2
   have HKO2:=Aside0.mk hKO2
   have HK2:=Aside0.mk hk2
   have HV:=Aside0.mk (And.intro hl2 (And.intro hd2 (And.intro hval hs2)))
   have HGQ:=Aside0.mk hgq
   clear hD2 hKO2 hk2 hl2 hd2 hval hgq hrow2 hlow2 hs2 hv2 hb01
   gi_wp2
   rename_i K5 hK5
   have hDd:=HD2.out.drewN 1
   have hKOd:=HKO2.out.trans (⟨Nat.le_refl _,fun k o h _=>h⟩:KeepsOthers W2 (W2.drewN 1))
   refine Zgr 4 (by kernel_rfl) (by kernel_rfl) (fun h=>by obtain ⟨_,_,h⟩:=h;exact h) (by kernel_rfl) ?_
   rw [show ({ W2 with drawn:=W2.drawn+1 }:World)=W2.drewN 1 from rfl]
   obtain ⟨Wd,hWd⟩:∃ Wd,W2.drewN 1=Wd:=⟨_,rfl⟩
   rw [hWd] at hDd hKOd ⊢
   have hu:=hDd.u.cell
   have hv:=hDd.v.cell
   have hult:=hDd.u.lt
   have hcV:=Zuj hDd.vrow
   have cP:=Zrs w.heap.size gu i (p+m+1) cu ds2 (some ⟨gv,0,none⟩) cv V Wd hDd.urow (by omega) HV.out.2.1 (by rw [HVL.out];exact hcV) (by rw [HVL.out];exact hcv) HOK.out.vd (fun ad h=>.inr (by cases h;show gv ≠ gu;omega)) (by rw [HVL.out];omega) hcu (by have := HM.out;omega)
   rw [HVL.out] at cP
   have HDd:=Aside0.mk hDd
   have HKOd:=Aside0.mk hKOd
   have CP:=Aside0.mk cP
   clear hcV hDd hKOd cP hult hWd
   simp only [List.take_succ_cons,List.take_zero,List.drop_succ_cons,List.drop_zero]
   repeat still_step
   refine wpStill_nil ?_
   go_wp2_with (go_at_call 161;refine (CP.out).mono ?_;rintro e W3 ⟨rfl,hP⟩)
   obtain ⟨o,ds3,ho,hrow3,hd3,hl3,hv3,hs3⟩:=hP.out
   have hD3:=HDd.out.ofU hP.kept hP.low hrow3
   have hKO3:=HKOd.out.trans (Zjq HDd.out.urow hP.kept)
   have hval3:=Digit.back (HGQ.out ▸ HDG.out) HOK.out ho HAT.out.dg hd3 (by have := HV.out.2.2.1;rw [HGQ.out] at this;exact this) hv3 (by rw [HVL.out];exact HV.out.2.2.2) hs3 HAT.out.low
   have hq:=hD3.q.cell
   have hc:=Zgk hD3.qrow (i:Int) (by omega) (by omega)
   rw [Int.toNat_natCast] at hc
   have hcc:=hc.1
   have hcf:=hc.2
   have hg1:(g:Int) < 4294967296:=HDG.out.g1
   have HD3:=Aside0.mk hD3
   have HKO3:=Aside0.mk hKO3
   have HV3:=Aside0.mk (And.intro (hl3.trans HV.out.1) (And.intro hd3 hval3))
   clear hD3 hKO3 hP hl3 hd3 hval3 hrow3 hs3 hv3 ho hc
   gi_wp2
   have hgq':(g:Int) - 1=q:=by have := HGQ.out;omega
   rw [hgq']
   exact ⟨((HKO3.out.trans (KeepsOthers.setCell W3 _ _)).from _),HD.out.kp (HD3.out.store i q),DvI.next HAT.out HOK.out hi HDG.out HV3.out.1 HV3.out.2.1 HV3.out.2.2 HD3.out HNX.out⟩
 case done =>
  rintro D ys W hDD ⟨hp',hpl⟩ ⟨sv,ds,qs,hat,hB⟩ hKD
  rw [hpl,Nat.sub_self] at hat
  obtain ⟨kq,ku,kr,tq,tu,tr⟩:=Zs0 hat HOK.out HUV.out.1 HUV.out.2 HW0.out.1 HW0.out.2 HVL.out (by have := HP.out;omega) hmb HS1.out h2
  obtain ⟨QL,hQL⟩:∃ QL,limbs (num l0 / num l1)=QL:=⟨_,rfl⟩
  obtain ⟨RS,hRS⟩:∃ RS,limbs (num l0 % num l1*2 ^ s)=RS:=⟨_,rfl⟩
  obtain ⟨RL,hRL⟩:∃ RL,limbs (num l0 % num l1)=RL:=⟨_,rfl⟩
  rw [hQL] at tq
  rw [hRS] at tu tr
  rw [hRL] at tr
  have HQL:=Aside0.mk hQL
  have HRL:=Aside0.mk hRL
  have hql:=hat.qlen
  have hdl:ds.length=p+m+1:=by rw [hat.len];exact HUL.out
  have hlu:=hB.lu
  have huv:=hB.uv
  have hvK:=hB.vK
  have hslt:=hB.s.lt
  have hDlt:D < W.heap.size:=(Array.getElem?_eq_some_iff.1 hKD).1
  have hD2:K+1+1+1+1+1 < D:=by simp [hK] at hDD;omega
  have hRq:Kd.R (Kd.int .u32) 85 W.drew w.heap.size (fun k=>k=K+1+1+1) (.slice (some ⟨K+1+1+1,0,none⟩) m m) qs:=Kd.Zh5 (Kd.Zdk (enc:=Value.int .u32) (by rw [hql];exact hB.qrow) (fun k hk=>by simp [Value.ownBlock] at hk;exact hk.symm))
  have cT1:=Zz.calls kq (fun k=>k=K+1+1+1) _ qs QL w W.drew (Zbh hB.low) hRq tq
  have hqc:=hB.q.cell
  have huc:=hB.u.cell
  have HBs:=Aside0.mk hB
  have HKD:=Aside0.mk hKD
  have CT1:=Aside0.mk cT1
  have TU:=Aside0.mk tu
  have TR:=Aside0.mk tr
  have HDL:=Aside0.mk hdl
  clear hB hKD cT1 tu tr tq hat hRq hQL hRS hRL hp' hpl hD0 HD0 HAT0 HUV HW0 HKT HUL CC CL0 CL1 HE57 HS1 HV0l HOK hdl hql
  gi_wp2
  rename_i K1 hK1
  have e132:=enters_of Tryz.func132 (by kernel_rfl) rfl
  have e162:=enters_of Tryz.func162 (by kernel_rfl) rfl
  have hS0:∀ W':World,(∀ k,k < W.heap.size->k ≠ K+1+1+1->k ≠ gu->W'.heap[k]? = W.heap[k]?)->W'.cell? ⟨K+1+1+1+1,0,none⟩=some (.slice (some ⟨K+1+1+1,0,none⟩) m m)/\W'.cell? ⟨K,0,none⟩=some (.slice (some ⟨gu,0,none⟩) (p+m+1) cu):=fun W' hW' =>
   ⟨(World.cell?_of_block (hW' (K+1+1+1+1) (by omega) (by omega) (by omega))).trans hqc,(World.cell?_of_block (hW' K (by omega) (by omega) (by omega))).trans huc⟩
  refine Zg1 (fun W':World=>W'.cell? ⟨K+1+1+1+1,0,none⟩=some (.slice (some ⟨K+1+1+1,0,none⟩) m m)/\W'.cell? ⟨K,0,none⟩=some (.slice (some ⟨gu,0,none⟩) (p+m+1) cu)) (by kernel_rfl) ?_
  refine wpAnyH_take (i:=0) rfl (by kernel_rfl) (by kernel_rfl) (by kernel_rfl) (fun _ _ _ h=>h) (v:=.slice (some ⟨K+1+1+1,0,none⟩) m m) (.inl ⟨by kernel_rfl,fun w hw=>?_⟩) (hS0 _ (fun _ _ _ _=>rfl)) ?_
  ·simp [execOp,Act.eval,go_sem,hw.1]
  refine wpAnyH_take (i:=2) rfl (by kernel_rfl) (by kernel_rfl) (by kernel_rfl) (fun _ _ _ h=>h) (v:=.slice (some ⟨gu,0,none⟩) (p+m+1) cu) (.inl ⟨by kernel_rfl,fun w hw=>?_⟩) (hS0 _ (fun _ _ _ _=>rfl)) ?_
  ·simp [execOp,Act.eval,go_sem,hw.2]
  refine wpAnyH_take (i:=4) rfl (by kernel_rfl) (by kernel_rfl) (by kernel_rfl) (fun _ _ _ h=>h) (v:=.int .i64 s) (.inl ⟨by kernel_rfl,fun w hw=>?_⟩) (hS0 _ (fun _ _ _ _=>rfl)) ?_
  ·simp [execOp,Act.eval,go_sem]
  refine Zhg (i:=1) (by kernel_rfl) rfl (by kernel_rfl) (f:=132) (args:=#[.slice (some ⟨K+1+1+1,0,none⟩) m m]) ?_ CT1.out ?_
  ·simp [execOp,Act.eval,go_sem,e132]
  rintro e w1' ⟨v0,rfl,hR0,hb0,hk0⟩
  have hS1:=hS0 w1' (fun k h1 h2 _=>hk0.2 k h1 h2)
  have hRu:Kd.R (Kd.int .u32) 85 w1' w.heap.size (fun k=>k=gu) (.slice (some ⟨gu,0,none⟩) (p+m+1) cu) ds:=Kd.Zdk (enc:=Value.int .u32) (by rw [HDL.out];exact Ze5 HBs.out.urow (hk0.2 gu (by show gu < W.heap.size;omega) (by omega))) (fun k hk=>by simp [Value.ownBlock] at hk;exact hk.symm)
  have cT2:=Zz.calls ku (fun k=>k=gu) _ ds RS w w1' hb0 hRu TU.out
  refine ⟨_,rfl,hS1,?_⟩
  refine Zhg (i:=3) (by kernel_rfl) rfl (by kernel_rfl) (f:=132) (args:=#[.slice (some ⟨gu,0,none⟩) (p+m+1) cu]) ?_ cT2 ?_
  ·simp [execOp,Act.eval,go_sem,e132]
  rintro e w2' ⟨v1,rfl,hR1,hb1',hk1⟩
  have hsz1:W.heap.size<=w1'.heap.size:=hk0.1
  have hS2:=hS0 w2' (fun k h1 h2 h3=>(hk1.2 k (by omega) h3).trans (hk0.2 k h1 h2))
  obtain ⟨A,c,rfl,hc,hC⟩:=Kd.Zgb hR1
  have cR:=Zad.calls kr A c RS (s:Int) RL w2' hC hc TR.out
  refine ⟨_,rfl,hS2,?_⟩
  refine Zhg (i:=5) (by kernel_rfl) rfl (by kernel_rfl) (f:=162) (args:=#[.slice A RS.length c,.int .i64 s]) ?_ cR ?_
  ·simp [execOp,Act.eval,go_sem,e162]
  rintro e w3' ⟨v2,rfl,hR2,hb2⟩
  have hS3:=hS0 w3' (fun k h1 h2 h3=>(hb2.block k (by have := hk1.1;omega)).trans ((hk1.2 k (by omega) h3).trans (hk0.2 k h1 h2)))
  refine ⟨_,rfl,hS3,?_⟩
  refine wpAnyH_take (i:=6) rfl (by kernel_rfl) (by kernel_rfl) (by kernel_rfl) (fun _ _ _ h=>h) (v:=v0) (.inl ⟨by kernel_rfl,fun w hw=>?_⟩) hS3 ?_
  ·simp [execOp,Act.eval,go_sem]
  refine wpAnyH_take (i:=7) rfl (by kernel_rfl) (by kernel_rfl) (by kernel_rfl) (fun _ _ _ h=>h) (v:=v2) (.inl ⟨by kernel_rfl,fun w hw=>?_⟩) hS3 ?_
  ·simp [execOp,Act.eval,go_sem]
  refine wpAnyH_done (by kernel_rfl) ?_ _
  refine NoPanic.normal ?_
  refine hK1 _ _ ?_
  refine Zoq (b:={ tmps:=#[.slice A0 (p+m) c0,.slice (some ⟨b1,o1,none⟩) (p+1) c1,undef,undef,v0,v2,undef,undef,.int .i64 s,.pointer (some ⟨K,0,none⟩),.pointer (some ⟨K+1,0,none⟩),.pointer (some ⟨K+1+1,0,none⟩),.pointer (some ⟨K+1+1+1+1,0,none⟩),undef,undef,.bool false,
   .slice A0 (p+m) c0,.slice (some ⟨b1,o1,none⟩) (p+1) c1,.int .i64 cm,.bool false,undef,undef,.bool false,.slice (some ⟨b1,o1,none⟩) (p+1) c1,.int .i64 ((p:Int)+1),.bool false,undef,undef,undef,undef,undef,undef,undef,undef,undef,undef,undef,undef,
   .slice (some ⟨b1,o1,none⟩) (p+1) c1,.slice (some ⟨b1,o1,none⟩) (p+1) c1,.int .i64 ((p:Int)+1),.int .i64 p,.pointer (some ⟨b1,o1+p,none⟩),.int .u32 (x0:Int),.int .i64 s,.slice A0 (p+m) c0,.int .i64 s,.slice (some ⟨gu,0,none⟩) (p+m+1) cu,.slice (some ⟨b1,o1,none⟩) (p+1) c1,.int .i64 s,vb,.slice (some ⟨gv,0,none⟩) (p+1) cv,
   .slice (some ⟨gv,0,none⟩) (p+1) cv,.int .i64 ((p:Int)+1),.slice (some ⟨gu,0,none⟩) (p+m+1) cu,.int .i64 ((p:Int)+(m:Int)+1),.int .i64 ((p:Int)+1),.int .i64 m,.slice (some ⟨K+1+1+1,0,none⟩) m m,.slice (some ⟨K+1+1+1,0,none⟩) m m,.func (.func 184) #[] #[.pointer (some ⟨K+1+1+1+1+1,0,none⟩)],undef,undef,undef,undef,undef,undef,undef,undef,undef,undef,undef,undef,undef,undef,undef,undef,undef,undef,undef,undef,undef,undef,undef,undef,undef,undef,undef,undef,undef,undef,undef,undef,undef,undef,undef,undef,undef,undef,undef,undef,undef,undef,undef,undef,undef,undef,undef,undef,undef,undef,undef,undef,
   .slice (some ⟨K+1+1+1,0,none⟩) m m,v0,.slice (some ⟨gu,0,none⟩) (p+m+1) cu,.slice A RS.length c,.int .i64 s,v2],defers:=[{ target:=.collected D,args:=#[] }] }) (by kernel_rfl) ?_
  clear hK1
  gi_wp2
  have hK':w3'.heap[D]? = some (.deferred (some [])):=(hb2.block D (by have := hk1.1;omega)).trans ((hk1.2 D (by omega) (by omega)).trans ((hk0.2 D hDlt (by omega)).trans HKD.out))
  refine ⟨by simp,.inl ⟨_,_,rfl,run_takeDeferred hK',?_⟩⟩
  have hO0:=Kd.Zd6 (enc:=Value.int .u32) hR0
  have hne0:v0.ownBlock ≠ some gu:=fun e=>by
   rcases hR0.1 gu e with h|h
   ·omega
   ·have:W.heap.size<=gu:=h
    omega
  have hO2:=Zqe hO0 hk1 hne0
  have hR0':Kd.R (Kd.int .u32) 85 w2' w.heap.size (fun k=>some k=v0.ownBlock) v0 QL:=Kd.Zdk (enc:=Value.int .u32) hO2 (fun k hk=>hk.symm)
  have hR2':=Kd.Zev hR2
  have hap:∀ k,v0.ownBlock=some k->v2.ownBlock=some k->False:=fun k h1 h2=>Zis hO2 hR2' (fun k hk=>hk.2.1) h1 h2
  have hnD0:v0.ownBlock ≠ some D:=fun e=>by
   rcases hR0.1 D e with h|h
   ·omega
   ·have:W.heap.size<=D:=h
    omega
  have hnD2:v2.ownBlock ≠ some D:=fun e=>by
   have h1:=hk1.1
   have h2:=(hR2'.1 D e).2.1
   omega
  refine ⟨_,by simp [results,Tryz.f127,go_sem],v0,v2,rfl,?_,?_,?_⟩
  ·rw [HQL.out]
   exact Kd.Zo (Kd.Zlz (Kd.Za hR0' hb2) (grownBy_putObj' _ D (.deferred none)) (fun k hk e=>by cases e;exact hnD0 hk.symm)) (fun k hk e=>hap k hk.symm e.symm)
  ·rw [HRL.out]
   exact Kd.Zo (Kd.Zlz (Kd.Zdk (ok:=fun k=>some k=v2.ownBlock) (enc:=Value.int .u32) (Zfu (Kd.Zd6 (enc:=Value.int .u32) hR2) hb1'.size) (fun k hk=>hk.symm)) (grownBy_putObj' _ D (.deferred none)) (fun k hk e=>by cases e;exact hnD2 hk.symm)) (fun k hk e=>hap k e.symm hk.symm)
  ·exact (hb1'.trans (hb2.mono hb1'.size)).trans (belowK_b (w:=w) (Nat.le_refl _) _ D _ _ (by omega) hK' rfl rfl)
def Zc4.f (l0 l1:List Int):Option (List Int × List Int):=if okW l0 && (okW l1 && decide (l1 ≠ [])) then some (limbs (num l0 / num l1),limbs (num l0 % num l1)) else none
theorem Zc4.calls (A0:Option Addr) (c0:Nat) (l0:List Int) (A1:Option Addr) (c1:Nat) (l1:List Int) (r1 r2:List Int) (w:World) (hr0:Kd.C (Kd.int .u32) w A0 l0.length l0) (hc0:l0.length<=c0) (hr1:Kd.C (Kd.int .u32) w A1 l1.length l1) (hc1:l1.length<=c1) (h:Zc4.f l0 l1=some (r1,r2)) :
  Calls Tryz.prog 127 #[.slice A0 l0.length c0,.slice A1 l1.length c1] w fun e w' => ∃ v0_ v1_:Value,e=.returned (.tuple #[v0_,v1_])/\Kd.R (Kd.int .u32) 85 w' w.heap.size (fun k_=>some k_ ≠ (v1_:Value).ownBlock) v0_ r1/\Kd.R (Kd.int .u32) 85 w' w.heap.size (fun k_=>some k_ ≠ (v0_:Value).ownBlock) v1_ r2/\Below w.heap.size w w':=by
 unfold Zc4.f at h
 split at h
 case isFalse=>cases h
 case isTrue hk =>
 simp only [Bool.and_eq_true,Ze0,decide_eq_true_eq] at hk
 obtain ⟨rfl,rfl⟩:=Prod.mk.inj (Option.some.inj h)
 obtain ⟨h0,h1,hne⟩:=hk
 by_cases hlt:num l0 < num l1
 ·have := Zrf A0 c0 l0 A1 c1 l1 w hr0 hc0 hr1 hc1 h0 h1 hlt
  rw [Nat.div_eq_of_lt hlt,Nat.mod_eq_of_lt hlt,show limbs (num l0)=l0 from Zsm (b:=4294967296) (by omega) h0.dg h0.nz]
  exact this
 ·by_cases hone:l1.length=1
  ·exact div_one A0 c0 l0 A1 c1 l1 w hr0 hc0 hr1 hc1 h0 h1 hlt hone
  ·exact Zrg A0 c0 l0 A1 c1 l1 w hr0 hc0 hr1 hc1 h0 h1 hlt (by
    have:l1.length ≠ 0:=fun e=>hne (List.eq_nil_of_length_eq_zero e)
    omega)
end YtjbjkmccfocikaaGreatDoor.B
end
section
namespace YtjbjkmccfocikaaGreatDoor.B
open Go.RowKit YtjbjkmccfocikaaGreatDoorW.PrintWords YtjbjkmccfocikaaGreatDoorW.PrintLast YtjbjkmccfocikaaGreatDoorW.PrintMore
attribute [local go_sem] Zch Zci Zc9 Zda Zb1 Zb2 Zcp Zcq
def Zbe.l0:Nat->List Int->List Int->Option (List Int)
 | 0,_,_=>none
 | k+1,x0,x3=>(Zc4.f x0 x3).bind fun qt=>((Zaf.f k x3 qt.1).bind fun qg=>((Zad.f k qg 1).bind fun qf=>((Za0.f qf x3).bind fun qk=>(if qk >= 0 then (some x3) else (Zbe.l0 k x0 qf)))))
def Zbe.f (k:Nat) (l0:List Int):Option (List Int):=if (l0.length:Int)=0 then (some ([]:List Int)) else (if 0<=(wrap64 (Int.tdiv (wrap64 ((l0.length:Int)+1)) 2)) then (if (wrap64 (Int.tdiv (wrap64 ((l0.length:Int)+1)) 2):Int).toNat<=70368744177664 then ((some (List.replicate (wrap64 (Int.tdiv (wrap64 ((l0.length:Int)+1)) 2):Int).toNat 0:List Int)).bind fun qe=>(if qe.length < 35184372088832 then (Zbe.l0 k l0 (qe ++ [1])) else (none))) else (none)) else (none))
theorem Zbe.calls (k:Nat) (A0:Option Addr) (c0:Nat) (l0:List Int) (r:List Int) (w:World) (hr0:Kd.C (Kd.int .u32) w A0 l0.length l0) (hc0:l0.length<=c0) (h:Zbe.f k l0=some r) :
  Calls Tryz.prog 135 #[.slice A0 l0.length c0] w fun e w' => ∃ v0_:Value,e=.returned (v0_)/\Kd.R (Kd.int .u32) 85 w' w.heap.size (fun _=>True) v0_ r/\Below w.heap.size w w':=by
 have HR0:=am hr0
 have HC0:=am hc0
 clear hr0 hc0
 have HB:=am (Below.refl w.heap.size w)
 have H:(if (l0.length:Int)=0 then (some ([]:List Int)) else (if 0<=(wrap64 (Int.tdiv (wrap64 ((l0.length:Int)+1)) 2)) then (if (wrap64 (Int.tdiv (wrap64 ((l0.length:Int)+1)) 2):Int).toNat<=70368744177664 then ((some (List.replicate (wrap64 (Int.tdiv (wrap64 ((l0.length:Int)+1)) 2):Int).toNat 0:List Int)).bind fun qe=>(if qe.length < 35184372088832 then (Zbe.l0 k l0 (qe ++ [1])) else (none))) else (none)) else (none)))=some r:=h
 clear h
 replace H:=eI H
 rcases H with ⟨c2b0,c2b1,H⟩|⟨c2,c2b0,c2b1,H⟩
 ·obtain rfl:=Option.some.inj H
  go_enter Tryz.func135,Tryz.ntmps135
  go_wp2
  go_ret
  exact ⟨_,pE,pN,pB⟩
 ·have c2b2:¬ (l0=[]):=fun h_=>c2 (by rw [h_];rfl)
  obtain ⟨ji3,hji3⟩:∃ j_:Int,(wrap64 (Int.tdiv (wrap64 ((l0.length:Int)+1)) 2))=j_:=⟨_,rfl⟩
  replace H:(if 0<=(ji3) then (if (ji3:Int).toNat<=70368744177664 then ((some (List.replicate (ji3:Int).toNat 0:List Int)).bind fun qe=>(if qe.length < 35184372088832 then (Zbe.l0 k l0 (qe ++ [1])) else (none))) else (none)) else (none))=some r:=by first|(rw [hji3] at H;exact H)|(simp only [hji3] at H ⊢;exact H)
  have hji3w:(IntKind.i64.wrap (Int.tdiv (wrap64 ((l0.length:Int)+1)) 2))=ji3:=(Zb9 _).trans hji3
  replace H:=iI H
  rcases H with ⟨c4b0,c4b1,H⟩|⟨_,_,H⟩
  ·replace H:=iI H
   rcases H with ⟨c5b0,c5b1,H⟩|⟨_,_,H⟩
   ·obtain ⟨qe,qi⟩:∃ y_:List Int,y_=(List.replicate (ji3:Int).toNat 0):=⟨_,rfl⟩
    replace H:(if qe.length < 35184372088832 then (Zbe.l0 k l0 (qe ++ [1])) else (none))=some r:=by have hy_:=qi;exact pH
    have qm:=am qi
    clear qi
    by_cases c6:qe.length < 35184372088832
    ·rw [if_pos c6] at H
     have LMc6:=am c6
     clear c6
     obtain ⟨qv,qj⟩:∃ y_:List Int,y_=(qe ++ [1]):=⟨_,rfl⟩
     replace H:(Zbe.l0 k l0 qv)=some r:=by have hy_:=qj;exact pH
     have qs:=am qj
     clear qj
     have H':=am H
     clear H
     go_enter Tryz.func135,Tryz.ntmps135
     go_wp2_with (first|((with_reducible refine gd 14 ?_);refine Kd.Zks (Kd.int .u32) _ 85 rfl (N:=14) rfl 134 _ _ rfl ji3 rfl rfl Tryz.underlying134 (.int .u32 0) 4 info85 rfl (by decide) (by omega) 0 (ok:=fun _=>True) (okp:=fun _=>True) rfl (fun _ hk=>hk) trivial (of_decide_eq_true pQ) (Nat.le_trans (Nat.mul_le_mul_right _ (of_decide_eq_true pQ:ji3.toNat<=70368744177664)) (by omega)) (Below.refl _ _) (Nat.le_refl _) ?_;intro jg w7 ho8 hb hg_ hnew_;clear hg_ hnew_;(first|rw [<- qm.out] at ho8|(simp only [Int.reduceToNat] at ho8;rw [<- qm.out] at ho8));have ql:=am (Kd.Zn ho8 (Zb pB));replace HB:=bS hb;clear hb ho8)|((with_reducible refine Zar (b:=.append) (xs:=#[.tmp 14,.tmp 15]) rfl ?_);at_builtin;refine Kd.Zb3 (Kd.int .u32) (w0:=w) w.heap.size rfl (.tmp 14) (.tmp 15) 134 85 (.int .u32 0) 4 rfl Tryz.underlying134 info85 rfl (by decide) (by omega) jg qe 1 [.int .u32 1] (fun _=>True) (fun _=>False) rfl rfl ?aP (fun _ hk=>hk.elim) ?aF ?aO ?aB ?aS ?aL ?_;(case aP=>exact rfl);(case aB=>exact pB);(case aF=>exact (fun _ _=>trivial));(case aO=>exact (Kd.Za ql.o pl));(case aS=>exact (Zb pB));(case aL=>have := LMc6.o;omega);intro jl w9 ho hb hg hat;rw [<- qs.out] at ho;have qr:=am ho;replace HB:=am hb;clear ql ho hb hg hat))
     go_loopg [3] k (fun kq v3 w' => ∃ (x3_1:List Int),Aside0 (Zbe.l0 kq l0 x3_1=some r)/\Aside0 (kq<=k)/\Aside0 (Kd.R (Kd.int .u32) 85 w' w.heap.size (fun _=>True) v3 x3_1)/\Aside0 (Below w.heap.size w w'))
     case atStart=>exact ⟨(qv),H',⟨Nat.le_refl _⟩,⟨by refine rp ?_;exact qr.o⟩,⟨pB⟩⟩
     case round =>
      clear H'
      obtain ⟨x3_1,HA,HK1,HO_3,HB⟩:=hrel
      cases gk with
      | zero=>exact absurd HA.out (by simp [Zbe.l0])
      | succ k1 =>
       have H:=HA.out
       clear HA
       simp only [Zbe.l0] at H
       replace H:=ob H
       obtain ⟨⟨qh,qu⟩,A10,H⟩:=H;(try dsimp only at H)
       replace H:=ob H
       obtain ⟨qg,A11,H⟩:=H
       replace H:=ob H
       obtain ⟨qf,A12,H⟩:=H
       replace H:=ob H
       obtain ⟨qk,A13,H⟩:=H
       replace H:=hI H
       rcases H with ⟨c14b0,H⟩|⟨c14b0,H⟩
       ·obtain rfl:=Option.some.inj H
        obtain ⟨qn,qp,q8⟩:=Kd.Zh HO_3.o
        subst q8
        go_wp2_with (first|(refine gL (some 20) Tryz.func127 #[.slice A0 l0.length c0,.slice qn x3_1.length qp] (h:=?_);(with_reducible refine (Zc4.calls _ _ l0 _ _ x3_1 qh qu _ ?side1 ?side2 ?side3 ?side4 A10.o).mono ?_);(case side1=>exact cB HR0 HB);(case side2=>exact HC0.o);(case side3=>exact Kd.Zi (Kd.Zc HO_3.o).2.2 pl);(case side4=>exact (Kd.Zc HO_3.o).2.1);rintro e w16 ⟨jh,ji,rfl,ho0,ho1,hb⟩;refine ⟨_,rfl,?_⟩;have qa:=am (Kd.Zn (Kd.Zf ho0 (Kd.R_lt (Kd.Za HO_3.o pl))) (Zb pB));have qb:=am (Kd.Zn (Kd.Zf ho1 (Kd.R_lt (Kd.Za HO_3.o pl))) (Zb pB));replace HO_3:=am (Kd.Zo (Kd.Zbr (Kd.Zbr (Kd.Ze2 (Kd.Za HO_3.o pl) hb) (Kd.Zt ho0)) (Kd.Zt ho1)) (fun _ h_=>h_.1));replace HB:=bS hb;obtain ⟨qw,q2,q9⟩:=Kd.Zh qa.o;subst q9)|(refine gL (some 25) Tryz.func131 #[.slice qn x3_1.length qp,.slice qw qh.length q2] (h:=?_);(with_reducible refine (Zaf.calls k1 _ _ x3_1 _ _ qh qg _ ?side1 ?side2 ?side3 ?side4 A11.o).mono ?_);(case side1=>exact Kd.Zi (Kd.Zc HO_3.o).2.2 pl);(case side2=>exact (Kd.Zc HO_3.o).2.1);(case side3=>exact Kd.Zi (Kd.Zc qa.o).2.2 pl);(case side4=>exact (Kd.Zc qa.o).2.1);rintro e w18 ⟨jj,rfl,ho0,hb⟩;refine ⟨_,rfl,?_⟩;have qc:=am (Kd.Zn (Kd.Zf (Kd.Zf (Kd.Zf ho0 (Kd.R_lt (Kd.Za HO_3.o pl))) (Kd.R_lt (Kd.Za qa.o pl))) (Kd.R_lt (Kd.Za qb.o pl))) (Zb pB));replace HO_3:=reR HO_3 ho0 hb;replace qa:=reR qa ho0 hb;replace qb:=reR qb ho0 hb;replace HB:=bS hb;obtain ⟨qx,q3,ja⟩:=Kd.Zh qc.o;subst ja)|(refine gL (some 26) Tryz.func162 #[.slice qx qg.length q3,.int .i64 1] (h:=?_);(with_reducible refine (Zad.calls k1 _ _ qg 1 qf _ ?side1 ?side2 A12.o).mono ?_);(case side1=>exact Kd.Zi (Kd.Zc qc.o).2.2 pl);(case side2=>exact (Kd.Zc qc.o).2.1);rintro e w20 ⟨jk,rfl,ho0,hb⟩;refine ⟨_,rfl,?_⟩;have qd:=am (Kd.Zn (Kd.Zf (Kd.Zf (Kd.Zf (Kd.Zf ho0 (Kd.R_lt (Kd.Za HO_3.o pl))) (Kd.R_lt (Kd.Za qa.o pl))) (Kd.R_lt (Kd.Za qb.o pl))) (Kd.R_lt (Kd.Za qc.o pl))) (Zb pB));replace HO_3:=reR HO_3 ho0 hb;replace qa:=reR qa ho0 hb;replace qb:=reR qb ho0 hb;replace qc:=reR qc ho0 hb;replace HB:=bS hb;obtain ⟨qy,q4,jb⟩:=Kd.Zh qd.o;subst jb)|(refine gL (some 29) Tryz.func138 #[.slice qy qf.length q4,.slice qn x3_1.length qp] (h:=?_);(with_reducible refine (Za0.calls _ _ qf _ _ x3_1 qk _ ?side1 ?side2 ?side3 ?side4 A13.o).mono ?_);(case side1=>exact Kd.Zi (Kd.Zc qd.o).2.2 pl);(case side2=>exact (Kd.Zc qd.o).2.1);(case side3=>exact Kd.Zi (Kd.Zc HO_3.o).2.2 pl);(case side4=>exact (Kd.Zc HO_3.o).2.1);rintro e w22 ⟨rfl,hb⟩;refine ⟨_,rfl,?_⟩;replace HO_3:=rbl HO_3 hb;replace qa:=rbl qa hb;replace qb:=rbl qb hb;replace qc:=rbl qc hb;replace qd:=rbl qd hb;replace HB:=bS hb))
        go_ret
        exact ⟨_,by first|rfl|(simp [Zap,Zaq] <;> rfl)|(simp only [<- hji3];first|rfl|(simp [Zap,Zaq] <;> rfl))|(simp [*,Zap,Zaq] <;> rfl),by refine rp ?_;exact Kd.Zo HO_3.o (fun _ hk=>trivial),pB⟩
       ·have H':=am H
        clear H
        obtain ⟨qo,qq,jc⟩:=Kd.Zh HO_3.o
        subst jc
        go_wp2_with (first|(refine gL (some 20) Tryz.func127 #[.slice A0 l0.length c0,.slice qo x3_1.length qq] (h:=?_);(with_reducible refine (Zc4.calls _ _ l0 _ _ x3_1 qh qu _ ?side1 ?side2 ?side3 ?side4 A10.o).mono ?_);(case side1=>exact cB HR0 HB);(case side2=>exact HC0.o);(case side3=>exact Kd.Zi (Kd.Zc HO_3.o).2.2 pl);(case side4=>exact (Kd.Zc HO_3.o).2.1);rintro e w24 ⟨jh,ji,rfl,ho0,ho1,hb⟩;refine ⟨_,rfl,?_⟩;have qa:=am (Kd.Zn (Kd.Zf ho0 (Kd.R_lt (Kd.Za HO_3.o pl))) (Zb pB));have qb:=am (Kd.Zn (Kd.Zf ho1 (Kd.R_lt (Kd.Za HO_3.o pl))) (Zb pB));replace HO_3:=am (Kd.Zo (Kd.Zbr (Kd.Zbr (Kd.Ze2 (Kd.Za HO_3.o pl) hb) (Kd.Zt ho0)) (Kd.Zt ho1)) (fun _ h_=>h_.1));replace HB:=bS hb;obtain ⟨qz,q5,jd⟩:=Kd.Zh qa.o;subst jd)|(refine gL (some 25) Tryz.func131 #[.slice qo x3_1.length qq,.slice qz qh.length q5] (h:=?_);(with_reducible refine (Zaf.calls k1 _ _ x3_1 _ _ qh qg _ ?side1 ?side2 ?side3 ?side4 A11.o).mono ?_);(case side1=>exact Kd.Zi (Kd.Zc HO_3.o).2.2 pl);(case side2=>exact (Kd.Zc HO_3.o).2.1);(case side3=>exact Kd.Zi (Kd.Zc qa.o).2.2 pl);(case side4=>exact (Kd.Zc qa.o).2.1);rintro e w26 ⟨jj,rfl,ho0,hb⟩;refine ⟨_,rfl,?_⟩;have qc:=am (Kd.Zn (Kd.Zf (Kd.Zf (Kd.Zf ho0 (Kd.R_lt (Kd.Za HO_3.o pl))) (Kd.R_lt (Kd.Za qa.o pl))) (Kd.R_lt (Kd.Za qb.o pl))) (Zb pB));replace HO_3:=reR HO_3 ho0 hb;replace qa:=reR qa ho0 hb;replace qb:=reR qb ho0 hb;replace HB:=bS hb;obtain ⟨q0,q6,je⟩:=Kd.Zh qc.o;subst je)|(refine gL (some 26) Tryz.func162 #[.slice q0 qg.length q6,.int .i64 1] (h:=?_);(with_reducible refine (Zad.calls k1 _ _ qg 1 qf _ ?side1 ?side2 A12.o).mono ?_);(case side1=>exact Kd.Zi (Kd.Zc qc.o).2.2 pl);(case side2=>exact (Kd.Zc qc.o).2.1);rintro e w28 ⟨jk,rfl,ho0,hb⟩;refine ⟨_,rfl,?_⟩;have qd:=am (Kd.Zn (Kd.Zf (Kd.Zf (Kd.Zf (Kd.Zf ho0 (Kd.R_lt (Kd.Za HO_3.o pl))) (Kd.R_lt (Kd.Za qa.o pl))) (Kd.R_lt (Kd.Za qb.o pl))) (Kd.R_lt (Kd.Za qc.o pl))) (Zb pB));replace HO_3:=reR HO_3 ho0 hb;replace qa:=reR qa ho0 hb;replace qb:=reR qb ho0 hb;replace qc:=reR qc ho0 hb;replace HB:=bS hb;obtain ⟨q1,q7,jf⟩:=Kd.Zh qd.o;subst jf)|(refine gL (some 29) Tryz.func138 #[.slice q1 qf.length q7,.slice qo x3_1.length qq] (h:=?_);(with_reducible refine (Za0.calls _ _ qf _ _ x3_1 qk _ ?side1 ?side2 ?side3 ?side4 A13.o).mono ?_);(case side1=>exact Kd.Zi (Kd.Zc qd.o).2.2 pl);(case side2=>exact (Kd.Zc qd.o).2.1);(case side3=>exact Kd.Zi (Kd.Zc HO_3.o).2.2 pl);(case side4=>exact (Kd.Zc HO_3.o).2.1);rintro e w30 ⟨rfl,hb⟩;refine ⟨_,rfl,?_⟩;replace HO_3:=rbl HO_3 hb;replace qa:=rbl qa hb;replace qb:=rbl qb hb;replace qc:=rbl qc hb;replace qd:=rbl qd hb;replace HB:=bS hb))
        go_roundg k1
        case measure=>exact pM
        case rel=>exact ⟨(qf),(by first|exact H'|(have H_:=H'.out;simp only [<- hji3] at H_;exact ⟨H_⟩)|(refine ⟨?_⟩;have H_:=H'.out;simp only [<- hji3] at H_ ⊢;exact H_)),pJ,⟨by refine rp ?_;exact Kd.Zo qd.o (fun _ hk=>trivial)⟩,⟨pB⟩⟩
    ·rw [if_neg c6] at H
     cases H
   ·cases H
  ·cases H
def Zff.f (k:Nat) (l0:List Int):Option (List Int × Int):=(Za2.f l0).bind fun qa=>(if qa=0 then ((Zbe.f k l0).bind fun qb=>(some (qb,0))) else (some (([]:List Int),qa)))
theorem Zff.calls (k:Nat) (A0:Option Addr) (c0:Nat) (l0:List Int) (r1:List Int) (r2:Int) (w:World) (hr0:Kd.C (Kd.int .u32) w A0 l0.length l0) (hc0:l0.length<=c0) (h:Zff.f k l0=some (r1,r2)) :
  Calls Tryz.prog 82 #[.slice A0 l0.length c0] w fun e w' => ∃ v0_:Value,e=.returned (.tuple #[v0_,.int .i64 r2])/\Kd.R (Kd.int .u32) 85 w' w.heap.size (fun _=>True) v0_ r1/\Below w.heap.size w w':=by
 have HR0:=am hr0
 have HC0:=am hc0
 clear hr0 hc0
 have HB:=am (Below.refl w.heap.size w)
 have H:((Za2.f l0).bind fun qa=>(if qa=0 then ((Zbe.f k l0).bind fun qb=>(some (qb,0))) else (some (([]:List Int),qa))))=some (r1,r2):=h
 clear h
 replace H:=ob H
 obtain ⟨qa,A2,H⟩:=H
 replace H:=eI H
 rcases H with ⟨c3b0,c3b1,H⟩|⟨c3,c3b0,c3b1,H⟩
 ·replace H:=ob H
  obtain ⟨qb,A4,H⟩:=H
  simp only [Option.some.injEq,Prod.mk.injEq] at H
  obtain ⟨rfl,rfl⟩:=H
  go_enter Tryz.func82,Tryz.ntmps82
  go_wp2_with (first|(refine gL (some 6) Tryz.func108 #[.slice A0 l0.length c0] (h:=?_);(with_reducible refine (Za2.calls _ _ l0 qa _ ?side1 ?side2 A2.o).mono ?_);(case side1=>refine cp ?_;exact HR0.o);(case side2=>exact HC0.o);rintro e w' ⟨rfl,⟨nd,rfl⟩⟩;refine ⟨_,rfl,?_⟩)|(refine gL (some 11) Tryz.func135 #[.slice A0 l0.length c0] (h:=?_);(with_reducible refine (Zbe.calls k _ _ l0 qb _ ?side1 ?side2 A4.o).mono ?_);(case side1=>refine cp ?_;exact HR0.o);(case side2=>exact HC0.o);rintro e w5 ⟨qd,rfl,ho0,hb⟩;refine ⟨_,rfl,?_⟩;have qc:=am (Kd.Zn ho0 (Zb pB));replace HB:=bS hb))
  go_ret2
  exact ⟨_,pE,by refine rp ?_;exact qc.o,pB⟩
 ·simp only [Option.some.injEq,Prod.mk.injEq] at H
  obtain ⟨rfl,rfl⟩:=H
  go_enter Tryz.func82,Tryz.ntmps82
  go_wp2_with (first|(refine gL (some 6) Tryz.func108 #[.slice A0 l0.length c0] (h:=?_);(with_reducible refine (Za2.calls _ _ l0 qa _ ?side1 ?side2 A2.o).mono ?_);(case side1=>refine cp ?_;exact HR0.o);(case side2=>exact HC0.o);rintro e w' ⟨rfl,⟨nd,rfl⟩⟩;refine ⟨_,rfl,?_⟩))
  go_ret2
  exact ⟨_,pE,pN,pB⟩
def Zcz.f (k:Nat) (l0:List Int) (l1:List Int):Option (List Int × List Int × Int):=(Zdw.f k l0 l1).bind fun qa=>(if qa=0 then (if (l1.length:Int)=0 then (some (([]:List Int),([]:List Int),53)) else ((Zc4.f l0 l1).bind fun qb=>(some (qb.1,qb.2,0)))) else (some (([]:List Int),([]:List Int),qa)))
theorem Zcz.calls (k:Nat) (A0:Option Addr) (c0:Nat) (l0:List Int) (A1:Option Addr) (c1:Nat) (l1:List Int) (r1:List Int) (r2:List Int) (r3:Int) (w:World) (hr0:Kd.C (Kd.int .u32) w A0 l0.length l0) (hc0:l0.length<=c0) (hr1:Kd.C (Kd.int .u32) w A1 l1.length l1) (hc1:l1.length<=c1) (h:Zcz.f k l0 l1=some (r1,r2,r3)) :
  Calls Tryz.prog 69 #[.slice A0 l0.length c0,.slice A1 l1.length c1] w fun e w' => ∃ v0_ v1_:Value,e=.returned (.tuple #[v0_,v1_,.int .i64 r3])/\Kd.R (Kd.int .u32) 85 w' w.heap.size (fun k_=>some k_ ≠ (v1_:Value).ownBlock) v0_ r1/\Kd.R (Kd.int .u32) 85 w' w.heap.size (fun k_=>some k_ ≠ (v0_:Value).ownBlock) v1_ r2/\Below w.heap.size w w':=by
 have HR0:=am hr0
 have HC0:=am hc0
 clear hr0 hc0
 have HR1:=am hr1
 have HC1:=am hc1
 clear hr1 hc1
 have HB:=am (Below.refl w.heap.size w)
 have H:((Zdw.f k l0 l1).bind fun qa=>(if qa=0 then (if (l1.length:Int)=0 then (some (([]:List Int),([]:List Int),53)) else ((Zc4.f l0 l1).bind fun qb=>(some (qb.1,qb.2,0)))) else (some (([]:List Int),([]:List Int),qa))))=some (r1,r2,r3):=h
 clear h
 replace H:=ob H
 obtain ⟨qa,A3,H⟩:=H
 replace H:=eI H
 rcases H with ⟨c4b0,c4b1,H⟩|⟨c4,c4b0,c4b1,H⟩
 ·replace H:=eI H
  rcases H with ⟨c5b0,c5b1,H⟩|⟨c5,c5b0,c5b1,H⟩
  ·simp only [Option.some.injEq,Prod.mk.injEq] at H
   obtain ⟨rfl,rfl,rfl⟩:=H
   go_enter Tryz.func69,Tryz.ntmps69
   go_wp2_with (first|(refine gL (some 12) Tryz.func126 #[.slice A0 l0.length c0,.slice A1 l1.length c1] (h:=?_);(with_reducible refine (Zdw.calls k _ _ l0 _ _ l1 qa _ ?side1 ?side2 ?side3 ?side4 A3.o).mono ?_);(case side1=>refine cp ?_;exact HR0.o);(case side2=>exact HC0.o);(case side3=>refine cp ?_;exact HR1.o);(case side4=>exact HC1.o);rintro e w6 ⟨rfl,hb⟩;refine ⟨_,rfl,?_⟩;replace HB:=bS hb))
   go_ret3
   exact ⟨_,_,pE,pN,pN,pB⟩
  ·have c5b2:¬ (l1=[]):=fun h_=>c5 (by rw [h_];rfl)
   replace H:=ob H
   obtain ⟨⟨qe,qf⟩,A7,H⟩:=H;(try dsimp only at H)
   simp only [Option.some.injEq,Prod.mk.injEq] at H
   obtain ⟨rfl,rfl,rfl⟩:=H
   go_enter Tryz.func69,Tryz.ntmps69
   go_wp2_with (first|(refine gL (some 12) Tryz.func126 #[.slice A0 l0.length c0,.slice A1 l1.length c1] (h:=?_);(with_reducible refine (Zdw.calls k _ _ l0 _ _ l1 qa _ ?side1 ?side2 ?side3 ?side4 A3.o).mono ?_);(case side1=>refine cp ?_;exact HR0.o);(case side2=>exact HC0.o);(case side3=>refine cp ?_;exact HR1.o);(case side4=>exact HC1.o);rintro e w8 ⟨rfl,hb⟩;refine ⟨_,rfl,?_⟩;replace HB:=bS hb)|(refine gL (some 22) Tryz.func127 #[.slice A0 l0.length c0,.slice A1 l1.length c1] (h:=?_);(with_reducible refine (Zc4.calls _ _ l0 _ _ l1 qe qf _ ?side1 ?side2 ?side3 ?side4 A7.o).mono ?_);(case side1=>exact cB HR0 HB);(case side2=>exact HC0.o);(case side3=>exact cB HR1 HB);(case side4=>exact HC1.o);rintro e w9 ⟨qg,qh,rfl,ho0,ho1,hb⟩;refine ⟨_,rfl,?_⟩;have qc:=am (Kd.Zn ho0 (Zb pB));have qd:=am (Kd.Zn ho1 (Zb pB));replace HB:=bS hb))
   go_ret3
   exact ⟨_,_,pE,by refine rp ?_;exact qc.o,by refine rp ?_;exact qd.o,pB⟩
 ·simp only [Option.some.injEq,Prod.mk.injEq] at H
  obtain ⟨rfl,rfl,rfl⟩:=H
  go_enter Tryz.func69,Tryz.ntmps69
  go_wp2_with (first|(refine gL (some 12) Tryz.func126 #[.slice A0 l0.length c0,.slice A1 l1.length c1] (h:=?_);(with_reducible refine (Zdw.calls k _ _ l0 _ _ l1 qa _ ?side1 ?side2 ?side3 ?side4 A3.o).mono ?_);(case side1=>refine cp ?_;exact HR0.o);(case side2=>exact HC0.o);(case side3=>refine cp ?_;exact HR1.o);(case side4=>exact HC1.o);rintro e w10 ⟨rfl,hb⟩;refine ⟨_,rfl,?_⟩;replace HB:=bS hb))
  go_ret3
  exact ⟨_,_,pE,pN,pN,pB⟩
def Zcr.f (k:Nat) (a0:Int):Option (List Int):=(Zz.f k (([(a0) % 4294967296,(a0 / 4294967296) % 4294967296]:List Int))).bind fun qa=>(some qa)
theorem Zcr.calls (k:Nat) (a0:Int) (r:List Int) (w:World) (h:Zcr.f k a0=some r) :
  Calls Tryz.prog 76 #[.int .u64 a0] w fun e w' => ∃ v0_:Value,e=.returned (v0_)/\Kd.R (Kd.int .u32) 85 w' w.heap.size (fun _=>True) v0_ r/\Below w.heap.size w w':=by
 have HB:=am (Below.refl w.heap.size w)
 have H:((Zz.f k (([(a0) % 4294967296,(a0 / 4294967296) % 4294967296]:List Int))).bind fun qa=>(some qa))=some r:=h
 clear h
 obtain ⟨qd,qc⟩:∃ y_:List Int,y_=(([(a0) % 4294967296,(a0 / 4294967296) % 4294967296]:List Int)):=⟨_,rfl⟩
 replace H:((Zz.f k qd).bind fun qa=>(some qa))=some r:=by have hy_:=qc;exact pH
 have qe:=am qc
 clear qc
 obtain ⟨qa,A2,H⟩:=ob H
 obtain rfl:=Option.some.inj H
 go_enter Tryz.func76,Tryz.ntmps76
 go_wp2_with (first|((with_reducible refine gd 8 ?_);refine Kd.Zhs (Kd.int .u32) _ 85 ?hg (N:=8) ?hd (xs:=([(a0) % 4294967296,(a0 / 4294967296) % 4294967296]:List Int)) (inner:=[.int .u32 ((a0) % 4294967296),.int .u32 ((a0 / 4294967296) % 4294967296)]) (ok:=fun _=>True) (okp:=fun _=>True) ?hr ?hp (fun _ hk=>hk) trivial (Below.refl _ _) (Nat.le_refl _) (by simp) ?_;(case hd=>rfl);(case hg=>rfl);(case hr=>first|(go_simp;done)|(go_simp;rfl));(case hp=>exact (Reps.one (show Kd.M (Kd.int .u32) _ _ _ ((a0) % 4294967296) [.int .u32 ((a0) % 4294967296)] from rfl) (Reps.one (show Kd.M (Kd.int .u32) _ _ _ ((a0 / 4294967296) % 4294967296) [.int .u32 ((a0 / 4294967296) % 4294967296)] from rfl) (Reps.none _ _))));intro qg w3 ho4 hb hg_ hnew_;clear hg_ hnew_;(first|rw [<- qe.out] at ho4|(simp only [Int.reduceToNat] at ho4;rw [<- qe.out] at ho4));have qb:=am (Kd.Zn ho4 (Zb pB));replace HB:=bS hb;clear hb ho4;obtain ⟨Ao5,co5,eo5⟩:=Kd.Zh qb.o;subst eo5)|(refine gL (some 9) Tryz.func132 #[.slice Ao5 qd.length co5] (h:=?_);(with_reducible refine (Zz.calls k (fun k_=>some k_=(.slice Ao5 qd.length co5:Value).ownBlock) (.slice Ao5 qd.length co5) qd qa w _ ?side1 ?side2 A2.o).mono ?_);(case side1=>exact pB);(case side2=>exact Kd.Zby rfl qb.o);rintro e w6 ⟨qh,rfl,ho0,hb,hkp⟩;refine ⟨_,rfl,?_⟩;have qf:=am (Kd.Zo (ok':=fun k_=>True) ho0 (fun k_ hk_=>trivial));replace HB:=am hb;clear qb))
 go_ret
 exact ⟨_,pE,by refine rp ?_;exact qf.o,pB⟩
end YtjbjkmccfocikaaGreatDoor.B
end
end Go.Proofs
