/- QuotTells, part 7 of 7 of its proof (no condition); names with a low line are shortened throughout. -/
import Derived.Test.YtjbjkmccfocikaaGreatDoorZQuotTells5
import Derived.SizedLaws
set_option linter.unusedVariables false
set_option linter.unusedSimpArgs false
set_option maxRecDepth 100000
set_option maxHeartbeats 8000000
namespace Go.Proofs
section
namespace YtjbjkmccfocikaaGreatDoor.R.quotTells
open Go.ChangeShapes Go.WideShapes Go.ChangeAt Go.RowKit
open Go.ChangeMaps (open_string shut_string)
theorem reads (os:Os) {H:Type} (enc:TypeId × Value->H):∃ places,DataW.whole enc Tryz.prog ((laidWorld os).forCall (fun _ _=>0) ⟨#[],#[Value.agg #[.bool false,.slice none 0 0,.int .i64 0],Value.agg #[.bool false,.slice none 0 0,.int .i64 0]],[]⟩).memory Tryz.f8.params.toList Rows.quotTellsSpec.vars false (#[Value.agg #[.bool false,.slice none 0 0,.int .i64 0],Value.agg #[.bool false,.slice none 0 0,.int .i64 0]]:Array Value).toList 8=some ([.agg [.lit (.bool false),.nil,.lit (.int .i64 0)],.agg [.lit (.bool false),.nil,.lit (.int .i64 0)]],[],places) :=
 ⟨[],by kernel_rfl⟩
theorem contract (H:Type) (enc:TypeId × Value->H) (W:World) (base:Nat) (args:Array Value) (ds gs:List (DataW H)) (before:List MemPlace)
  (hval:∀ (j:Nat) t v,Tryz.f8.params[j]? = some t->args[j]? = some v->Value.okWide Tryz.prog W .any base t v)
  (hW:DataW.Whole enc Tryz.prog Tryz.f8.params.toList Rows.quotTellsSpec.vars false W args.toList ds gs before) (hk:(DataW.weightsEach Tryz.prog (Tryz.f8.params.toList++(OpenSpec.ofChange Rows.quotTellsSpec).bare.plain.varTypes Tryz.prog) (ds++gs)).all (· <= reachBytes)=true) (hL:laidMetH Tryz.prog laidL W) (hsh:W.ShapedOpen Tryz.prog) :
  Calls Tryz.prog 8 args W fun e W' => ∃ v,e=.returned v/\Rows.quotTellsSpec.post enc Tryz.prog Tryz.f8 false true false false W args v W':=by
 have hG:=glob hL hsh
 have hW':=hW
 obtain ⟨p,q,hA0,hV,rfl,hfz,hnd⟩:=hW
 have hA:DataW.TrodAll enc Tryz.prog W 0 (fun _=>true) true Tryz.f8.params.toList args.toList ds p:=hA0
 rw [Tryz.params8] at hA hval hk
 obtain ⟨v0,vs0,d0,ds0,p0,q0,hargs,rfl,rfl,h0,r0⟩:=trodAll_cons hA
 obtain ⟨v1,vs1,d1,ds1,p1,q1,rfl,rfl,rfl,h1,r1⟩:=trodAll_cons r0
 obtain ⟨rfl,rfl,rfl⟩:=trodAll_nil r1
 obtain rfl:args=#[v0,v1]:=by cases args;simp_all
 obtain ⟨rfl,rfl⟩:=trodVars_none hV
 have h0k:=h0
 obtain ⟨n0,A0,c0,l0,e0,rfl,hc0,hC0,hR0,we0,hs0⟩:=Zns (hval 0 24 v0 rfl rfl) h0
 have h1k:=h1
 obtain ⟨n1,A1,c1,l1,e1,rfl,hc1,hC1,hR1,we1,hs1⟩:=Zns (hval 1 24 v1 rfl rfl) h1
 simp only [List.append_nil] at hW'
 have hlt:∀ x ∈ p0++p1,x.block < W.heap.size:=fun x hx=>hW'.lt x (by simpa using hx)
 clear hA0 hA hk hL
 obtain ⟨k,hp⟩:=(P.Nm.Zim hR0 hR1).ex
 refine (B.Zk.calls k n0 A0 c0 l0 e0 n1 A1 c1 l1 e1 true W hC0 hc0 hC1 hc1 hp rfl).mono fun e W' ⟨he,bel⟩=>?_
 subst he
 exact ⟨_,rfl,_,_,_,[],_,[],hW',trodAll_mk1 (shut_bool Tryz.underlying4 _),(trodAll_cons_mk (Below.trod laidOut (by kernel_rfl) (of_decide_eq_true (by kernel_rfl)) h0k bel (fun x hx=>hlt x (by simp [hx]))) (trodAll_cons_mk (Below.trod laidOut (by kernel_rfl) (of_decide_eq_true (by kernel_rfl)) h1k bel (fun x hx=>hlt x (by simp [hx]))) trodAll_mk0)),rfl,bel.frame _,fun h=>by cases h⟩
theorem lifted (os:Os) (started:os.Started) (H:Type) (enc:TypeId × Value->H) (F:Stop.Interp) :
  ReturnsInHanded {} Tryz.checked os 8 .any ((OpenSpec.ofChange Rows.quotTellsSpec).preRow enc Tryz.prog Tryz.f8 Rows.quotTellsRow.domain false Rows.quotTellsRow.laid) (((OpenSpec.ofChange Rows.quotTellsSpec).at F).post enc Tryz.prog Tryz.f8 false true false false):=by
 obtain ⟨places,hx⟩:=reads os enc
 refine returnsInHanded_of_row (C:=Tryz.checked) (s:=OpenSpec.ofChange Rows.quotTellsSpec) own started (by kernel_rfl) Tryz.func8
  (witness_row_at (enc:=enc) (C:=Tryz.checked) false (laidWorld os) #[Value.agg #[.bool false,.slice none 0 0,.int .i64 0],Value.agg #[.bool false,.slice none 0 0,.int .i64 0]] rfl (by kernel_rfl) (by kernel_rfl) (by kernel_rfl)
   (OpenSpec.preRow_of_cond 8 hx (by kernel_rfl) (fun k hk=>by cases hk) (by kernel_rfl) (Zrj os _))) ?_
 intro W base args ds gs before hval hW _ _ hk hL hsh _
 exact contract H enc W base args ds gs before hval hW hk hL hsh
theorem said : Rows.QuotTellsSaid :=
 OpenClaim.holds_of_cond 8 Tryz.f8 rfl rfl rfl rfl rfl rfl rfl ⟨rfl,rfl,rfl,rfl,rfl⟩ rfl rfl rfl rfl rfl (by kernel_rfl) Tryz.func8 (by kernel_rfl)
  (of_decide_eq_true (by kernel_rfl)) (by unfold Func.isWrapper;first|(rw [if_pos (by decide +kernel)];kernel_rfl)|(rw [if_neg (by decide +kernel)];exact ⟨rfl,rfl⟩))
  (fun os started H enc _ F=>by rw [OpenClaim.pre_eq_preRow];exact lifted os started H enc F)
theorem plain (f : FuncId) (fn : Func) (hf : Tryz.pinned.checked.prog.funcNamed "bolter/bolterlaw03.QuotTells" = some f) (hfn : Tryz.pinned.checked.prog.funcs[f]? = some fn) :
  false=Tryz.pinned.checked.prog.looks [] /\ ∀ (j:Nat) t,fn.params[j]? = some t->Tryz.pinned.checked.prog.wantsStandIn t=false:=by
 obtain rfl : f = 8 := Option.some.inj ((show Tryz.prog.funcNamed "bolter/bolterlaw03.QuotTells" = some 8 by kernel_rfl).symm.trans hf) |>.symm
 obtain rfl:fn=Tryz.f8:=(Option.some.inj (Tryz.func8.symm.trans hfn)).symm
 refine ⟨by kernel_rfl,fun j t ht=>?_⟩
 rw [Tryz.params8] at ht
 have hm:t ∈ (#[24,24]:Array TypeId):=Array.mem_of_getElem? ht
 have hall:∀ t ∈ [24,24],Tryz.prog.wantsStandIn t=false:=by
  intro t h
  simp only [List.mem_cons,List.mem_nil_iff,or_false] at h
  rcases h with rfl|rfl <;> kernel_rfl
 exact hall t (by simpa using hm)
theorem card : Rows.QuotTellsCardSaid :=
 Claim7.holds_tied_plain_at .later [] _ _ _ _ said (fun _ h=>by cases h) (by kernel_rfl) (fun _ h=>by cases h) quotTells_row_tie rfl ⟨rfl,rfl⟩ (by kernel_rfl) rfl plain (by kernel_rfl)
#print axioms card
end YtjbjkmccfocikaaGreatDoor.R.quotTells
end
end Go.Proofs
