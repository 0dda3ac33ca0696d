/- QuotTells, part 1 of 7 of its proof (no condition); names with a low line are shortened throughout. -/
import Derived.Shelf.Strings.Builder1
import Derived.Shelf.Strings.Builder2
import Derived.Shelf.Strings.Trim
import Derived.Shelf.Small.Utf8
import Derived.Shelf.Small.Bits
import Derived.Shelf.Small.Strs
import Derived.Shelf.Small.Wraps
import Derived.Shelf.Strings.BuilderF
import Derived.Shelf.Strings.BuilderK
import Derived.Shelf.Strings.Builder2Cap
import Derived.Shelf.Strings.Search1
import Derived.Shelf.Strings.Prefix
import Derived.Shelf.Unicode.Decode
import Derived.Shelf.Strings.Runes
import Derived.Shelf.Strings.AsciiSet
import Derived.Shelf.Bits.Mul64
import Derived.Shelf.Strings.Repeat
import Derived.Shelf.Unicode.DecodeSlow
import Derived.Shelf.Unicode.DecodeAny
import Derived.Shelf.Unicode.DecodeLast
import Derived.Shelf.Strings.BuilderCap
import Derived.Ground.Names2Prog
import Derived.Shelf.Slices.SearchI
import Derived.Test.YtjbjkmccfocikaaGreatDoorProg
import Derived.Below
import Derived.Deep.Draws
import Derived.Deep.AppendLies
import Derived.Maps.AppendAt
import Derived.OwnWalk
import Derived.Laws.BytesArg
import Derived.Laws.MakeOwn
import Derived.Laws.OwnMore
import Derived.Deep.OwnRows
import Derived.Tactics
import Derived.Lib.ConvBytes
import Derived.Laws.Slices
import Derived.WalkKit
import Derived.KernelRfl
import Derived.RowKit3
import Derived.Deep.LoopGhost
import Derived.Deep.QuietTactic
import Derived.BigQuiet
import Derived.WideLaws
import Derived.Deep.DeepCutAuto
import Derived.Deep.CutBlock
import Derived.Deep.RegionHeld3
import Derived.Laws.Rows
import Derived.Lib.AppendStr
import Derived.ArgAppend
import Derived.Laws.IdiomCopy
import Derived.RowKit
import Derived.OrdersHeld
import Derived.Laws.BitsLemmas
import Derived.Lib.LaidU8
import Derived.Test.YtjbjkmccfocikaaGreatDoorCards
import Derived.Test.YtjbjkmccfocikaaGreatDoorTie
import Derived.ProofKit
import Derived.OpenShut
import Derived.ShutString
import Derived.ChangeOld
import Derived.Deep.DeepHandedRow
import Derived.PinnedBridge
import Derived.HandedShaped
import Derived.Shelf.Vars
import Derived.Laws.StructEq
set_option linter.unusedVariables false
set_option linter.unusedSimpArgs false
set_option maxRecDepth 100000
set_option maxHeartbeats 8000000
namespace Go.Proofs
section
section
open Go.Shelf
def Tryz.Zs7:Go.Shelf.Ren:=⟨fun|161=>149|231=>178|227=>179|233=>180|235=>181|228=>197|197=>198|151=>199|260=>204|152=>205|137=>177|119=>207|224=>208|225=>209|217=>196|266=>203|n=>n,fun|9=>9|4=>4|3=>3|5=>5|117=>188|116=>187|0=>0|124=>191|105=>199|21=>21|119=>206|46=>113|139=>209|138=>208|n=>n,fun|3=>2|4=>3|n=>n⟩
def Tryz.Zl8:Go.Shelf.Ren:=⟨fun|162=>167|232=>188|227=>179|234=>189|236=>190|228=>197|271=>200|151=>199|120=>206|197=>198|152=>205|260=>204|137=>177|119=>207|224=>208|225=>209|217=>196|266=>203|n=>n,fun|9=>9|4=>4|3=>3|5=>5|117=>188|116=>187|0=>0|124=>191|21=>21|105=>199|46=>113|119=>206|139=>209|138=>208|n=>n,fun|3=>2|4=>3|n=>n⟩
theorem Tryz.lays162:Go.Proofs.Lays.n162 Tryz.prog Tryz.Zl8:={
 mixed:=by kernel_rfl
 f119:=Tryz.func207.trans (congrArg some (by kernel_rfl))
 f120:=Tryz.func206.trans (congrArg some (by kernel_rfl))
 f137:=Tryz.func177.trans (congrArg some (by kernel_rfl))
 f151:=Tryz.func199.trans (congrArg some (by kernel_rfl))
 f152:=Tryz.func205.trans (congrArg some (by kernel_rfl))
 f162:=Tryz.func167.trans (congrArg some (by kernel_rfl))
 f197:=Tryz.func198.trans (congrArg some (by kernel_rfl))
 f217:=Tryz.func196.trans (congrArg some (by kernel_rfl))
 f224:=Tryz.func208.trans (congrArg some (by kernel_rfl))
 f225:=Tryz.func209.trans (congrArg some (by kernel_rfl))
 f227:=Tryz.func179.trans (congrArg some (by kernel_rfl))
 f228:=Tryz.func197.trans (congrArg some (by kernel_rfl))
 f232:=Tryz.func188.trans (congrArg some (by kernel_rfl))
 f234:=Tryz.func189.trans (congrArg some (by kernel_rfl))
 f236:=Tryz.func190.trans (congrArg some (by kernel_rfl))
 f260:=Tryz.func204.trans (congrArg some (by kernel_rfl))
 f266:=Tryz.func203.trans (congrArg some (by kernel_rfl))
 f271:=Tryz.func200.trans (congrArg some (by kernel_rfl))
 t0:=Tryz.underlying0
 a0:=Tryz.isAgg0
 z0:=Tryz.sizeOf0
 v0:=Tryz.zeroValue0
 t3:=Tryz.underlying3
 a3:=Tryz.isAgg3
 z3:=Tryz.sizeOf3
 v3:=Tryz.zeroValue3
 t4:=Tryz.underlying4
 a4:=Tryz.isAgg4
 z4:=Tryz.sizeOf4
 v4:=Tryz.zeroValue4
 t5:=Tryz.underlying5
 a5:=Tryz.isAgg5
 z5:=Tryz.sizeOf5
 v5:=Tryz.zeroValue5
 t9:=Tryz.underlying9
 a9:=Tryz.isAgg9
 z9:=Tryz.sizeOf9
 v9:=Tryz.zeroValue9
 t21:=Tryz.underlying21
 a21:=Tryz.isAgg21
 z21:=Tryz.sizeOf21
 v21:=Tryz.zeroValue21
 t46:=Tryz.underlying113
 a46:=Tryz.isAgg113
 z46:=Tryz.sizeOf113
 v46:=Tryz.zeroValue113
 t105:=Tryz.underlying199
 a105:=Tryz.isAgg199
 z105:=Tryz.sizeOf199
 v105:=Tryz.zeroValue199
 t116:=Tryz.underlying187
 a116:=Tryz.isAgg187
 z116:=Tryz.sizeOf187
 t117:=Tryz.underlying188
 a117:=Tryz.isAgg188
 z117:=Tryz.sizeOf188
 v117:=Tryz.zeroValue188
 t119:=Tryz.underlying206
 a119:=Tryz.isAgg206
 z119:=Tryz.sizeOf206
 t124:=Tryz.underlying191
 a124:=Tryz.isAgg191
 z124:=Tryz.sizeOf191
 v124:=Tryz.zeroValue191
 t138:=Tryz.underlying208
 a138:=Tryz.isAgg208
 z138:=Tryz.sizeOf208
 v138:=Tryz.zeroValue208
 t139:=Tryz.underlying209
 a139:=Tryz.isAgg209
 z139:=Tryz.sizeOf209
 v139:=Tryz.zeroValue209
 g3:=by kernel_rfl
 g4:=by kernel_rfl }
open Go.RowKit in
/-- strings.TrimRight: "TrimRight returns a slice of the string s, with all trailing Unicode code points contained in cutset removed.": AT A cutset OF ONE ASCII BYTE. The world is as it was. (LAID: no walk: one application.) -/
theorem Tryz.strings_TrimRight_one (s:ByteArray) (c:UInt8) (hc:c.toNat < 128) (w:World) (hs:s.size<=9223372036854775807) :
  Calls Tryz.prog 167 #[.string s,.string ⟨#[c]⟩] w fun e w'=>e=.returned (.string ⟨(Lib.trimRightB s.data.toList c).toArray⟩)/\w'=w:=Any.strings_TrimRight_one Tryz.lays162 s c hc w hs
def Tryz.Zs6:Go.Shelf.Ren:=⟨fun|128=>183|n=>n,fun|51=>85|3=>3|4=>4|46=>113|5=>5|9=>9|n=>n,fun|n=>n⟩
def Tryz.Zl7:Go.Shelf.Ren:=⟨fun|133=>156|128=>183|n=>n,fun|51=>85|3=>3|4=>4|46=>113|5=>5|9=>9|n=>n,fun|n=>n⟩
theorem Tryz.lays133:Go.Proofs.Lays.n133 Tryz.prog Tryz.Zl7:={
 mixed:=by kernel_rfl
 f128:=Tryz.func183.trans (congrArg some (by kernel_rfl))
 f133:=Tryz.func156.trans (congrArg some (by kernel_rfl))
 t3:=Tryz.underlying3
 a3:=Tryz.isAgg3
 z3:=Tryz.sizeOf3
 v3:=Tryz.zeroValue3
 t4:=Tryz.underlying4
 a4:=Tryz.isAgg4
 z4:=Tryz.sizeOf4
 v4:=Tryz.zeroValue4
 t5:=Tryz.underlying5
 a5:=Tryz.isAgg5
 z5:=Tryz.sizeOf5
 v5:=Tryz.zeroValue5
 t9:=Tryz.underlying9
 a9:=Tryz.isAgg9
 z9:=Tryz.sizeOf9
 v9:=Tryz.zeroValue9
 t46:=Tryz.underlying113
 a46:=Tryz.isAgg113
 z46:=Tryz.sizeOf113
 v46:=Tryz.zeroValue113
 t51:=Tryz.underlying85
 a51:=Tryz.isAgg85
 z51:=Tryz.sizeOf85
 v51:=Tryz.zeroValue85 }
theorem Tryz.bits_LeadingZeros32 (x:Int) (w:World) (h0:0<=x) (h1:x<=4294967295) :
  Calls Tryz.prog 156 #[.int .u32 x] w fun e w'=>e=.returned (.int .i64 (32 - (Lib.bitLen x.toNat:Int)))/\w'=w:=Any.bits_LeadingZeros32 Tryz.lays133 x w h0 h1
def Tryz.Zi2:Go.Shelf.Ren:=⟨fun|260=>204|n=>n,fun|9=>9|21=>21|3=>3|4=>4|5=>5|119=>206|0=>0|46=>113|139=>209|138=>208|n=>n,fun|3=>2|4=>3|n=>n⟩
theorem Tryz.lays260:Go.Proofs.Lays.n260 Tryz.prog Tryz.Zi2:={
 mixed:=by kernel_rfl
 f260:=Tryz.func204.trans (congrArg some (by kernel_rfl))
 t0:=Tryz.underlying0
 a0:=Tryz.isAgg0
 z0:=Tryz.sizeOf0
 v0:=Tryz.zeroValue0
 t3:=Tryz.underlying3
 a3:=Tryz.isAgg3
 z3:=Tryz.sizeOf3
 v3:=Tryz.zeroValue3
 t4:=Tryz.underlying4
 a4:=Tryz.isAgg4
 z4:=Tryz.sizeOf4
 v4:=Tryz.zeroValue4
 t5:=Tryz.underlying5
 a5:=Tryz.isAgg5
 z5:=Tryz.sizeOf5
 v5:=Tryz.zeroValue5
 t9:=Tryz.underlying9
 a9:=Tryz.isAgg9
 z9:=Tryz.sizeOf9
 v9:=Tryz.zeroValue9
 t21:=Tryz.underlying21
 a21:=Tryz.isAgg21
 z21:=Tryz.sizeOf21
 v21:=Tryz.zeroValue21
 t46:=Tryz.underlying113
 a46:=Tryz.isAgg113
 z46:=Tryz.sizeOf113
 v46:=Tryz.zeroValue113
 t119:=Tryz.underlying206
 a119:=Tryz.isAgg206
 z119:=Tryz.sizeOf206
 t138:=Tryz.underlying208
 a138:=Tryz.isAgg208
 z138:=Tryz.sizeOf208
 v138:=Tryz.zeroValue208
 t139:=Tryz.underlying209
 a139:=Tryz.isAgg209
 z139:=Tryz.sizeOf209
 v139:=Tryz.zeroValue209
 g3:=by kernel_rfl
 g4:=by kernel_rfl }
end
end
section
namespace YtjbjkmccfocikaaGreatDoorW.PrintWords
open Go.RowKit
structure Aside0 (p:Prop):Prop where mk :: (out:p)
structure Drawn0 (w w':World):Prop where mk :: (out:∃ n,w'=w.drewN n)
theorem Drawn0.refl (w:World):Drawn0 w w:=⟨⟨0,rfl⟩⟩
theorem Drawn0.step {w w':World} (h:Drawn0 w w') (n:Nat):Drawn0 w (w'.drewN n):=by
 obtain ⟨m,rfl⟩:=h
 exact ⟨⟨m+n,World.drewN_drewN ..⟩⟩
theorem Drawn0.below {w w':World} (h:Drawn0 w w'):Below w.heap.size w w':=by
 obtain ⟨n,rfl⟩:=h
 induction n with
 | zero=>exact Below.refl _ _
 | succ n ih=>rw [<- World.drew_drewN];exact ih.drew
def rd (xs:List Int) (i:Int):Int:=xs.getD i.toNat 0
def bt (s:ByteArray) (i:Int):Int:=if h:i.toNat < s.size then ((s[i.toNat]'h).toNat:Int) else 0
theorem Zgx (s:ByteArray) (i:Int):∀ h:i.toNat < s.size,((s[i.toNat]'h).toNat:Int)=bt s i:=fun h=>by simp [bt,h]
def nums (k:IntKind) (xs:List Int):List Value:=xs.map fun x=>.int k x
theorem Zck {w W:World} (h:Below w.heap.size w W) (o:Obj):Below w.heap.size w (W.alloc o):=h.alloc h.size o
theorem Zfp {B:Nat} {w W:World} (h:Below B w W):Below B w W.drew:=⟨h.os,h.tape,h.output,h.size,h.block⟩
theorem Zaz {B:Nat} {w W:World} (h:Below B w W) (n:Nat):Below B w (W.drewN n):=⟨h.os,h.tape,h.output,h.size,h.block⟩
theorem Zoc {B:Nat} {w w1 w2:World} (h:Below B w w1) (hB:B<=w1.heap.size) (k:Below w1.heap.size w1 w2):Below B w w2 :=
 h.trans ⟨k.os,k.tape,k.output,k.size,fun i hi=>k.block i (Nat.lt_of_lt_of_le hi hB)⟩
theorem Zdg {w w1:World} (h:Below w.heap.size w w1) {a:Addr} {v:Value} (hc:w.cell? a=some v):w1.cell? a=some v:=(h.cell (World.block_lt_of_cell? w a hc)).trans hc
theorem add_plain (g j:Nat):(⟨g,0,none⟩:Addr).add j=⟨g,j,none⟩:=by unfold Addr.add;split <;> simp_all
theorem Zte (W:World) (base:Nat) (e:TypeId) (size:Nat):W.ownsRow base e size (.slice none 0 0) 0 []:=⟨by simp,.inl ⟨rfl,rfl⟩⟩
theorem Zii {w:World} {base:Nat} {e:TypeId} {size n:Nat} {v:Value} {xs:List Value} (h:w.ownsRow base e size v n xs) (k:Nat) (hk:v.ownBlock=some k):base<=k:=by
 rcases h.2 with ⟨rfl,_⟩|⟨g,cap,cur,rfl,hb,_⟩
 ·simp [Value.ownBlock] at hk
 ·have:g=k:=by simpa [Value.ownBlock] using hk
  omega
theorem Zsn {w:World} {base:Nat} {e:TypeId} {size n:Nat} {v:Value} {xs:List Value} (h:w.ownsRow base e size v n xs) (k:Nat) (hk:v.ownBlock=some k):k < w.heap.size:=by
 rcases h.2 with ⟨rfl,_⟩|⟨g,cap,cur,rfl,hb,hh,_⟩
 ·simp [Value.ownBlock] at hk
 ·have:g=k:=by simpa [Value.ownBlock] using hk
  subst this
  exact (Array.getElem?_eq_some_iff.1 hh).1
theorem Zqf {w:World} {base n:Nat} {e:TypeId} {size:Nat} {v:Value} {xs:List Value} (h:w.ownsRow base e size v n xs):∃ A c,v=.slice A n c:=by
 rcases h.2 with ⟨rfl,rfl⟩|⟨g,cap,cur,rfl,_⟩
 ·exact ⟨none,0,rfl⟩
 ·exact ⟨_,cap,rfl⟩
theorem Zh2 {P:Program} {w:World} {base n:Nat} {e' src dst e:TypeId} {v:Value} {xs:List Int} (hs:P.underlying src=some (.slice e)) (he:P.underlying e=some (.int .u8)) (hd:P.underlying dst=some .string)
  (h:w.ownsRow base e' 1 v n (nums .u8 xs)):(convert src dst v).run P w=.ok (.string (strOfNums xs)) w:=by
 have hl:xs.length=n:=by have := h.1;simp [nums] at this;exact this
 rcases h.2 with ⟨rfl,rfl⟩|⟨g,cap,cur,rfl,_⟩
 ·obtain rfl:xs=[]:=List.eq_nil_of_length_eq_zero hl
  exact run_convert_bytes_nil w src e hs he 0 0 dst hd
 ·refine run_convert_bytes_arg w src e hs he g 0 n cap xs hl (fun i hi=>?_) dst hd
  have hc:=h.cells (g:=g) rfl i (.int .u8 (xs.getD i 0)) (by simp [nums,List.getElem?_eq_getElem (show i < xs.length by omega),List.getD_eq_getElem?_getD])
  have ha:(⟨g,0,none⟩:Addr).add i=⟨g,0+i,none⟩:=by unfold Addr.add;split <;> simp_all
  rwa [ha] at hc
section
variable {P:Program} {ops:Array Oper} {rest:List Oper} {o:Oper} {a:Act} {Q:Exit->Act->World->Prop}
end
section
variable {P:Program}
end
theorem Znt (W:World) (base:Nat) (e:TypeId) (k:IntKind) (m:Nat) (hb:base<=W.heap.size) (hm:m<=9223372036854775807) :
  (W.alloc (.cells (madeCells #[.int k 0] m) e)).ownsRow base e 1 (.slice (some ⟨W.heap.size,0,none⟩) m m) m (nums k (List.replicate m 0)):=by
 have h:=World.ownsRow_lit (base:=base) (e:=e) (size:=1) W (madeCells #[.int k 0] m) m hb (by simpa [maxLen] using hm) (by simp [size_madeCells])
 have hl:(madeCells #[Value.int k 0] m).toList=nums k (List.replicate m 0):=by
  apply List.ext_getElem
  ·simp [nums,madeCells]
  ·intro i h1 h2
   simp [nums,madeCells,Nat.mod_one]
 rwa [hl] at h
theorem Zgk {W:World} {base g n cap:Nat} {e:TypeId} {k:IntKind} {xs:List Int} (h:W.ownsRow base e 1 (.slice (some ⟨g,0,none⟩) n cap) n (nums k xs)) (i:Int) (h0:0<=i) (h1:i < n) :
  W.cell? ⟨g,i.toNat,none⟩=some (.int k (rd xs i))/\W.frozen? ⟨g,i.toNat,none⟩=false:=by
 have hl:xs.length=n:=by have := h.1;simp [nums] at this;exact this
 constructor
 ·have hc:=h.cells (g:=g) rfl i.toNat (.int k (rd xs i)) (by simp [nums,rd,List.getElem?_eq_getElem (show i.toNat < xs.length by omega),List.getD_eq_getElem?_getD])
  rwa [add_plain] at hc
 ·rcases h.2 with ⟨h',_⟩|⟨g',cap',cur,h',_,hh,_⟩
  ·cases h'
  ·have:g=g':=by injection h' with h';injection h' with h';injection h' with h'
   subst this
   simp [World.frozen?,hh]
theorem Zfv {W:World} {base g n cap:Nat} {e:TypeId} {k:IntKind} {xs:List Int} (h:W.ownsRow base e 1 (.slice (some ⟨g,0,none⟩) n cap) n (nums k xs)) (i x:Int) :
  (W.setCell ⟨g,i.toNat,none⟩ (.int k x)).ownsRow base e 1 (.slice (some ⟨g,0,none⟩) n cap) n (nums k (xs.set i.toNat x))/\W.grownBy (W.setCell ⟨g,i.toNat,none⟩ (.int k x)) (some g):=by
 have hs:=h.stored i.toNat (.int k x)
 have he:(nums k xs).set i.toNat (.int k x)=nums k (xs.set i.toNat x):=by simp [nums,List.map_set]
 rwa [he] at hs
section
variable {P:Program} {ops:Array Oper} {rest:List Oper} {o:Oper} {a:Act} {Q:Exit->Act->World->Prop}
end
def bytesOf (s:ByteArray):List Int:=s.data.toList.map fun b=>(b.toNat:Int)
def Reps {α:Type} (R:α->List Value->Prop) (size:Nat) (ps:List α) (cs:List Value):Prop :=
 cs.length=ps.length*size /\ ∀ j p,ps[j]? = some p->R p ((cs.drop (j*size)).take size)
theorem Reps.none {α:Type} (R:α->List Value->Prop) (size:Nat):Reps R size [] []:=⟨by simp,fun j p h=>by simp at h⟩
theorem Reps.snoc {α:Type} {R:α->List Value->Prop} {size:Nat} {ps:List α} {cs c:List Value} {p:α} (h:Reps R size ps cs) (hp:R p c) (hc:c.length=size):Reps R size (ps ++ [p]) (cs++c):=by
 refine ⟨by rw [List.length_append,h.1,hc,List.length_append,List.length_singleton,Nat.add_mul,Nat.one_mul],fun j q hq=>?_⟩
 rcases Nat.lt_or_ge j ps.length with hj|hj
 ·rw [List.getElem?_append_left hj] at hq
  have h1:j*size+size<=cs.length:=by rw [h.1,<- Nat.succ_mul];exact Nat.mul_le_mul_right _ hj
  have h2:=h.2 j q hq
  rw [List.drop_append_of_le_length (by omega),List.take_append_of_le_length (by rw [List.length_drop];omega)]
  exact h2
 ·have hj':j=ps.length:=by
   have := (List.getElem?_eq_some_iff.1 hq).1
   rw [List.length_append,List.length_singleton] at this
   omega
  subst hj'
  have hq':p=q:=by simpa using hq
  subst hq'
  rw [<- h.1,List.drop_left,<- hc,List.take_length]
  exact hp
theorem Reps.imp_ {α:Type} {R R':α->List Value->Prop} {size:Nat} {ps:List α} {cs:List Value} (h:Reps R size ps cs) (hR:∀ p c,R p c->R' p c):Reps R' size ps cs:=⟨h.1,fun j p hj=>hR _ _ (h.2 j p hj)⟩
def ReadsRow {α:Type} (R:α->List Value->Prop) (size:Nat) (w:World) (A:Option Addr) (n:Nat) (ps:List α):Prop :=
 ps.length=n/\n<=9223372036854775807/\(0 < n -> ∃ ad,A=some ad /\ ∀ j p,ps[j]? = some p -> ∃ c,c.length=size/\R p c /\ ∀ i u,c[i]? = some u->w.cell? (ad.add (j*size+i))=some u)
theorem ReadsRow.get_ {α:Type} {R:α->List Value->Prop} {size:Nat} {w:World} {A:Option Addr} {n:Nat} {ps:List α} (h:ReadsRow R size w A n ps) (d:α) (i:Int) (h0:0<=i) (h1:i < n) :
  ∃ ad c,A=some ad/\c.length=size/\R (ps.getD i.toNat d) c /\ ∀ j u,c[j]? = some u->w.cell? (ad.add (i.toNat*size+j))=some u:=by
 obtain ⟨ad,e,hc⟩:=h.2.2 (by omega)
 have hl:i.toNat < ps.length:=by have := h.1;omega
 obtain ⟨c,hs,hr,hcell⟩:=hc i.toNat _ (List.getElem?_eq_getElem hl)
 refine ⟨ad,c,e,hs,?_,hcell⟩
 rw [List.getD_eq_getElem?_getD,List.getElem?_eq_getElem hl]
 exact hr
theorem ReadsRow.imp_ {α:Type} {R R':α->List Value->Prop} {size:Nat} {w w1:World} {A:Option Addr} {n:Nat} {ps:List α} (h:ReadsRow R size w A n ps) (hb:Below w.heap.size w w1) (hR:∀ p c,R p c->R' p c):ReadsRow R' size w1 A n ps :=
 ⟨h.1,h.2.1,fun hn=>by
  obtain ⟨ad,e,hc⟩:=h.2.2 hn
  refine ⟨ad,e,fun j p hj=>?_⟩
  obtain ⟨c,hs,hr,hcell⟩:=hc j p hj
  exact ⟨c,hs,hR _ _ hr,fun i u hu=>Zdg hb (hcell i u hu)⟩⟩
theorem Zkh {α:Type} {R:α->List Value->Prop} {w:World} {base n size:Nat} {e:TypeId} {v:Value} {ps:List α} {cs:List Value} (h:w.ownsRow base e size v n cs) (hR:Reps R size ps cs) (hn:ps.length=n) :
  ∃ A c,v=.slice A n c/\ReadsRow R size w A n ps:=by
 rcases Nat.eq_zero_or_pos n with h0|h0
 ·rcases h.2 with ⟨rfl,rfl⟩|⟨g,cap,cur,rfl,_⟩
  ·exact ⟨none,0,rfl,hn,by omega,fun hp=>absurd hp (by omega)⟩
  ·exact ⟨_,cap,rfl,hn,by omega,fun hp=>absurd hp (by omega)⟩
 ·obtain ⟨g,cap,rfl,_,_⟩:=h.form h0
  have hm:n<=9223372036854775807:=by
   rcases h.2 with ⟨_,h1⟩|⟨g',cap',cur,he,_,_,h1,h2,_⟩
   ·omega
   ·simp only [maxLen] at h2
    omega
  refine ⟨_,cap,rfl,hn,hm,fun _=>⟨_,rfl,fun j p hj=>⟨(cs.drop (j*size)).take size,?_,hR.2 j p hj,fun i u hu=>?_⟩⟩⟩
  ·have hjl:=(List.getElem?_eq_some_iff.1 hj).1
   have h1:j*size+size<=cs.length:=by rw [hR.1,<- Nat.succ_mul];exact Nat.mul_le_mul_right _ hjl
   rw [List.length_take,List.length_drop]
   omega
  ·refine h.cells (g:=g) rfl _ u ?_
   rw [List.getElem?_take] at hu
   split at hu
   ·rw [List.getElem?_drop] at hu
    exact hu
   ·cases hu
section
variable {P:Program} {ops:Array Oper} {rest:List Oper} {o:Oper} {a:Act} {Q:Exit->Act->World->Prop}
theorem Zhi {w0 W:World} (base:Nat) (hgd:o.guard=none) (s x:Operand) (t e:TypeId) (z:Value) (size bytes:Nat)
  (ho:o.op=.call { callee:=.builtin .append,args:=#[s,x],argTypes:=#[t,t] })
  (ht:P.underlying t=some (.slice e)) (hinfo:(P.info? e).map (fun i=>(i.zero,i.size,i.bytes))=some (some z,size,bytes)) (hz:z.cells.size=size) (hs0:0 < size) (hb0:0 < bytes)
  (v:Value) (n:Nat) (xs ys:List Value) (hs:a.eval s=v) (hx:a.eval x=.slice (some ⟨W.heap.size,0,none⟩) 1 1) (hys:ys.length=size) (h1:∀ u ∈ ys,u.oneCell'=true)
  (HO:W.ownsRow base e size v n xs) (HB:Below base w0 W) (hbase:base<=W.heap.size) (hl:(n+1)*bytes<=140737488355328)
  (h:∀ v1 w1,w1.ownsRow base e size v1 (n+1) (xs++ys)->Below base w0 w1->W.grownBy w1 v.ownBlock->(v1.ownBlock=v.ownBlock \/ ∃ b,v1.ownBlock=some b/\W.heap.size<=b)->wpList P ops Q rest (a.put o.dst v1) w1) :
  wpList P ops Q (o :: rest) a (W.alloc (.cells ys.toArray e)):=by
 obtain ⟨i0,hi,hzz⟩:=Option.map_eq_some_iff.1 hinfo
 simp only [Prod.mk.injEq] at hzz
 obtain ⟨hz0,hz1,hz2⟩:=hzz
 have hlen:n+1<=140737488355328:=Nat.le_trans (Nat.le_mul_of_pos_right _ hb0) hl
 refine wpList_append_own_at (W.alloc (.cells ys.toArray e)) hgd s x t ho base e i0 z size bytes ht hi hz0 hz1 hz2 hz hs0 v n xs hs (HO.alloc _) ⟨W.heap.size,0,none⟩ 1 1 ys hx (by rw [hys];simp)
  (by simpa using World.news_of_block (cs:=ys.toArray) (t:=e) (fr:=(0,0)) (heap_alloc_new W (.cells ys.toArray e))) h1 (by simp only [maxLen];omega) hl (by simp;omega) ?_
 intro v1 w1 hown hg _ hat
 refine h v1 w1 hown ((HB.alloc hbase _).grown hg (by simp;omega) (Zii HO)) (World.grownBy.trans (World.grownBy_alloc W _ _) hg) ?_
 rcases hat with hat|hat
 ·exact .inl hat
 ·exact .inr ⟨_,hat,by simp⟩
end
theorem Zul {w:World} {base:Nat} {e t:TypeId} {size n g:Nat} {v:Value} {xs:List Value} {cs:Array Value} (h:w.ownsRow base e size v n xs) (hg:w.heap[g]? = some (.cells cs t (0,0))) (hne:e ≠ t):some g ≠ v.ownBlock:=by
 rcases h.2 with ⟨rfl,_⟩|⟨g',cap,cur,rfl,_,hh,_⟩
 ·simp [Value.ownBlock]
 ·intro he
  have:g=g':=by simpa [Value.ownBlock] using he
  subst this
  rw [hg] at hh
  injection hh with hh
  injection hh with _ ht
  exact hne ht.symm
theorem Zi5 {w:World} {base:Nat} {e:TypeId} {size n:Nat} {v:Value} {xs:List Value} (h:w.ownsRow base e size v n xs) {p:Addr} (hne:some p.block ≠ v.ownBlock) (u:Value):(w.setCell p u).ownsRow base e size v n xs:=by
 obtain ⟨h1,h2⟩:=h
 refine ⟨h1,?_⟩
 rcases h2 with h2|⟨g,cap,cur,rfl,hg,hh,r⟩
 ·exact .inl h2
 ·exact .inr ⟨g,cap,cur,rfl,hg,by rw [Below.heap_setCell _ _ _ _ (fun e=>hne (by rw [e];rfl))];exact hh,r⟩
theorem Zsu {w:World} {g:Nat} {t:TypeId} {cs:Array Value} (h:w.heap[g]? = some (.cells cs t (0,0))) (i:Nat) (u:Value):(w.setCell ⟨g,i,none⟩ u).heap[g]? = some (.cells (cs.setIfInBounds i u) t (0,0)):=by
 simp [World.setCell,Array.getElem?_modify,h]
theorem Zcy {w:World} {g:Nat} {t:TypeId} {cs:Array Value} (h:w.heap[g]? = some (.cells cs t (0,0))) {p:Addr} (hp:g ≠ p.block) (u:Value):(w.setCell p u).heap[g]? = some (.cells cs t (0,0)):=(Below.heap_setCell w p u g hp).trans h
theorem Zgz {w:World} {g:Nat} {o:Obj} (h:w.heap[g]? = some o):g < w.heap.size:=(Array.getElem?_eq_some_iff.1 h).1
theorem Zie {w:World} {g:Nat} {t:TypeId} {cs:Array Value} (h:w.heap[g]? = some (.cells cs t (0,0))) (i:Nat):w.cell? ⟨g,i,none⟩=cs[i]?:=cell_of_row w g i cs t (0,0) h
theorem Zcm {w:World} {g:Nat} {t:TypeId} {cs:Array Value} (h:w.heap[g]? = some (.cells cs t (0,0))) (i:Nat):w.frozen? ⟨g,i,none⟩=false:=by simp [World.frozen?,h]
theorem Zky {w w1:World} {g:Nat} {o:Obj} {row:Option Nat} (h:w.heap[g]? = some o) (hg:w.grownBy w1 row) (hne:some g ≠ row):w1.heap[g]? = some o:=(hg.block g (Zgz h) hne).trans h
section
variable {P:Program} {ops:Array Oper} {o:Oper} {a:Act} {Q:Exit->Act->World->Prop} {K:Act->World->Prop}
end
theorem Zol {w:World} {base base':Nat} {e:TypeId} {size n:Nat} {v:Value} {xs:List Value} (h:w.ownsRow base e size v n xs) (hb:base'<=base):w.ownsRow base' e size v n xs:=by
 obtain ⟨h1,h2⟩:=h
 refine ⟨h1,?_⟩
 rcases h2 with h2|⟨g,cap,cur,rfl,hg,r⟩
 ·exact .inl h2
 ·exact .inr ⟨g,cap,cur,rfl,Nat.le_trans hb hg,r⟩
section
variable {α:Type} {enc:α->Value} {d:α}
def encs (enc:α->Value) (xs:List α):List Value:=xs.map enc
def rdOf (d:α) (xs:List α) (i:Int):α:=xs.getD i.toNat d
theorem Ziy (xs:List α):(encs enc xs).length=xs.length:=by simp [encs]
theorem Zrh (xs:List α) (j:Nat) (h:j < xs.length):(encs enc xs)[j]? = some (enc (xs.getD j d)):=by
 simp [encs,List.getElem?_eq_getElem h,List.getD_eq_getElem?_getD]
def ReadsOf (enc:α->Value) (d:α) (w:World) (A:Option Addr) (n:Nat) (xs:List α):Prop :=
 xs.length=n/\n<=9223372036854775807/\(0 < n -> ∃ ad,A=some ad /\ ∀ j,j < n->w.cell? (ad.add j)=some (enc (xs.getD j d)))
theorem ReadsOf.at_ {w:World} {A:Option Addr} {n:Nat} {xs:List α} (h:ReadsOf enc d w A n xs) (i:Int) (h0:0<=i) (h1:i < n):∃ ad,A=some ad/\w.cell? (ad.add i.toNat)=some (enc (rdOf d xs i)):=by
 obtain ⟨ad,e,hc⟩:=h.2.2 (by omega)
 exact ⟨ad,e,hc _ (by omega)⟩
theorem Zqd {W:World} {base g n cap:Nat} {e:TypeId} {xs:List α} (h:W.ownsRow base e 1 (.slice (some ⟨g,0,none⟩) n cap) n (encs enc xs)) (i:Int) (h0:0<=i) (h1:i < n) :
  W.cell? ⟨g,i.toNat,none⟩=some (enc (rdOf d xs i))/\W.frozen? ⟨g,i.toNat,none⟩=false:=by
 have hl:xs.length=n:=by have := h.1;simp [encs] at this;exact this
 constructor
 ·have hc:=h.cells (g:=g) rfl i.toNat _ (Zrh (d:=d) xs i.toNat (by omega))
  rwa [add_plain] at hc
 ·rcases h.2 with ⟨h',_⟩|⟨g',cap',cur,h',_,hh,_⟩
  ·cases h'
  ·have:g=g':=by injection h' with h';injection h' with h';injection h' with h'
   subst this
   simp [World.frozen?,hh]
theorem Zlk {W:World} {base g n cap:Nat} {e:TypeId} {xs:List α} (h:W.ownsRow base e 1 (.slice (some ⟨g,0,none⟩) n cap) n (encs enc xs)) (i:Int) (x:α) :
  (W.setCell ⟨g,i.toNat,none⟩ (enc x)).ownsRow base e 1 (.slice (some ⟨g,0,none⟩) n cap) n (encs enc (xs.set i.toNat x))/\W.grownBy (W.setCell ⟨g,i.toNat,none⟩ (enc x)) (some g):=by
 have hs:=h.stored i.toNat (enc x)
 have he:(encs enc xs).set i.toNat (enc x)=encs enc (xs.set i.toNat x):=by simp [encs,List.map_set]
 rwa [he] at hs
end
section
variable {α:Type} {P:Program} {ops:Array Oper} {rest:List Oper} {o:Oper} {a:Act} {Q:Exit->Act->World->Prop}
end
theorem Zc7 {w:World} {g:Nat} {o:Obj} (h:w.heap[g]? = some o):w.drew.heap[g]? = some o:=h
theorem Zg {w w1:World} {g:Nat} {o:Obj} (h:w.heap[g]? = some o) (hb:Below w.heap.size w w1):w1.heap[g]? = some o:=(hb.block g (Zgz h)).trans h
theorem Zpi (w:World) (o:Obj):(w.alloc o).heap[w.heap.size]? = some o:=heap_alloc_new w o
section
variable {P:Program}
theorem Zae {fn:Func} {p u:Tmp} {ty:TypeId} (h:fn.results=#[.cell p ty,.tmp u]) (tmps:Array Value) (w:World) (g:Nat) (t:TypeId) (cs:Array Value) (fr:Nat × Nat) (d:TypeDesc)
  (hp:tmps.getD p undef=.pointer (some ⟨g,0,none⟩)) (hg:w.heap[g]? = some (.cells cs t fr))
  (hu:P.underlying ty=some d) (hd:(match d with | .struct _ | .array _ _=>true|_=>false)=true) (hi:(P.info? ty).map (·.size)=some cs.size) :
  (results fn tmps).run P w=.ok (.tuple #[.agg cs,tmps.getD u undef]) w:=by
 have hp':tmps[p]?.getD undef=.pointer (some ⟨g,0,none⟩):=by simpa using hp
 simp [results,h,hp',asAddr,run_loadVar_row w g t ty cs fr d hg hu hd hi]
end
theorem Zuk {w:World} {base n m c size:Nat} {e:TypeId} {A:Option Addr} {xs:List Value} (h:w.ownsRow base e size (.slice A m c) n xs):m<=c:=by
 rcases h.2 with ⟨he,_⟩|⟨g,cap,cur,he,_,_,hnc,_⟩
 ·injection he with _ h2 h3
  omega
 ·injection he with _ h2 h3
  omega
def OwnRow {α:Type} (R:α->List Value->Prop) (e:TypeId) (size:Nat) (w:World) (base:Nat) (v:Value) (ps:List α):Prop :=
 ∃ inner,w.ownsRow base e size v ps.length inner/\Reps R size ps inner
section
variable {α:Type} {R R':α->List Value->Prop} {e:TypeId} {size:Nat} {w w1:World} {base:Nat} {v:Value} {ps:List α}
theorem OwnRow.none_ (R:α->List Value->Prop) (e:TypeId) (size:Nat) (w:World) (base:Nat):OwnRow R e size w base (.slice none 0 0) []:=⟨[],Zte _ _ _ _,Reps.none _ _⟩
theorem OwnRow.imp_ (h:OwnRow R e size w base v ps) (hR:∀ p c,R p c->R' p c):OwnRow R' e size w base v ps:=by
 obtain ⟨inner,ho,hr⟩:=h
 exact ⟨inner,ho,hr.imp_ hR⟩
theorem OwnRow.reads (h:OwnRow R e size w base v ps):∃ A c,v=.slice A ps.length c/\ps.length<=c/\ReadsRow R size w A ps.length ps:=by
 obtain ⟨inner,ho,hr⟩:=h
 obtain ⟨A,c,rfl,hrow⟩:=Zkh ho hr rfl
 exact ⟨A,c,rfl,Zuk ho,hrow⟩
theorem OwnRow.Zrl (h:OwnRow R e size w base v ps) {g:Nat} {t:TypeId} {cells:Array Value} (hb:w.heap[g]? = some (.cells cells t (0,0))) (ht:e ≠ t):some g ≠ v.ownBlock:=by
 obtain ⟨inner,ho,hr⟩:=h
 exact Zul ho hb ht
end
section
variable {P:Program} {ops:Array Oper} {rest:List Oper} {o:Oper} {a:Act} {Q:Exit->Act->World->Prop} {α:Type} {R:α->List Value->Prop}
end
section
variable {P:Program} {ops:Array Oper} {o:Oper} {a:Act} {Q:Exit->Act->World->Prop} {K:Act->World->Prop} {α:Type} {R:α->List Value->Prop}
end
theorem ReadsRow.inner_ {α:Type} {R:α->List Value->Prop} {size:Nat} {w:World} {ad:Addr} {n:Nat} {ps:List α} (h:ReadsRow R size w (some ad) n ps) :
  ∃ inner,Reps R size ps inner /\ ∀ j u,inner[j]? = some u->w.cell? (ad.add j)=some u:=by
 have key:∀ m,m<=ps.length -> ∃ inner,Reps R size (ps.take m) inner /\ ∀ j u,inner[j]? = some u->w.cell? (ad.add j)=some u:=by
  intro m
  induction m with
  | zero=>exact fun _=>⟨[],Reps.none _ _,fun j u hu=>by simp at hu⟩
  | succ m ih =>
   intro hm
   obtain ⟨inner,hr,hc⟩:=ih (by omega)
   obtain ⟨ad',he,hcell⟩:=h.2.2 (by have := h.1;omega)
   injection he with he
   subst he
   obtain ⟨c,hcl,hp,hcc⟩:=hcell m _ (List.getElem?_eq_getElem (show m < ps.length by omega))
   refine ⟨inner++c,?_,fun j u hu=>?_⟩
   ·rw [List.take_succ_eq_append_getElem (show m < ps.length by omega)]
    exact hr.snoc hp hcl
   ·have hil:inner.length=m*size:=by rw [hr.1,List.length_take,Nat.min_eq_left (by omega)]
    rcases Nat.lt_or_ge j inner.length with hj|hj
    ·rw [List.getElem?_append_left hj] at hu
     exact hc j u hu
    ·rw [List.getElem?_append_right hj] at hu
     have := hcc (j - inner.length) u hu
     rwa [hil,Nat.add_sub_cancel' (by omega)] at this
 obtain ⟨inner,hr,hc⟩:=key ps.length (Nat.le_refl _)
 rw [List.take_length] at hr
 exact ⟨inner,hr,hc⟩
section
variable {α:Type} {P:Program}
end
section
variable {P:Program} {ops:Array Oper} {rest:List Oper} {o:Oper} {a:Act} {Q:Exit->Act->World->Prop}
end
structure Kd (α:Type) where
 sz:Nat
 E:List Nat
 K:World->α->List Value->Prop
 M:World->Nat->(Nat->Prop)->α->List Value->Prop
 K_len:∀ {w x cs},K w x cs->cs.length=sz
 K_one:∀ {w x cs},K w x cs -> ∀ u ∈ cs,u.oneCell'=true
 K_below:∀ {w w1:World} {x cs},Below w.heap.size w w1->K w x cs->K w1 x cs
 K_of_M:∀ {w base ok x cs},M w base ok x cs->K w x cs
 M_mono:∀ {w base ok ok' x cs},(∀ k,ok k->ok' k)->M w base ok x cs->M w base ok' x cs
 M_bound:∀ {w:World} {base ok x cs},M w base ok x cs->M w base (fun k=>ok k/\base<=k/\k < w.heap.size /\ ∃ q,q ∈ E /\ ∃ cells,w.heap[k]? = some (.cells cells q (0,0))) x cs
 M_move:∀ {w w1:World} {base ok x cs},(∀ k,ok k->w1.heap[k]? = w.heap[k]?)->M w base ok x cs->M w1 base ok x cs
 M_lower:∀ {w base base' ok x cs},base'<=base->M w base ok x cs->M w base' ok x cs
theorem Zrq {w w1:World} {base:Nat} {e:TypeId} {size n:Nat} {v:Value} {xs:List Value} (h:w.ownsRow base e size v n xs) (hm:∀ k,v.ownBlock=some k->w1.heap[k]? = w.heap[k]?):w1.ownsRow base e size v n xs:=by
 obtain ⟨h1,h2⟩:=h
 refine ⟨h1,?_⟩
 rcases h2 with h2|⟨g,cap,cur,rfl,hg,hh,r⟩
 ·exact .inl h2
 ·exact .inr ⟨g,cap,cur,rfl,hg,(hm g (by simp [Value.ownBlock])).trans hh,r⟩
theorem Zfw {w:World} {base:Nat} {e:TypeId} {size n:Nat} {v:Value} {xs:List Value} (h:w.ownsRow base e size v n xs) (k:Nat) (hk:v.ownBlock=some k):∃ cells,w.heap[k]? = some (.cells cells e (0,0)):=by
 rcases h.2 with ⟨rfl,_⟩|⟨g,cap,cur,rfl,hg,hh,r⟩
 ·simp [Value.ownBlock] at hk
 ·have:g=k:=by simpa [Value.ownBlock] using hk
  subst this
  exact ⟨cur,hh⟩
namespace Kd
def C {α:Type} (d:Kd α) (w:World) (A:Option Addr) (n:Nat) (xs:List α):Prop:=ReadsRow (d.K w) d.sz w A n xs
def R {α:Type} (d:Kd α) (e:Nat) (w:World) (base:Nat) (ok:Nat->Prop) (v:Value) (xs:List α):Prop :=
 (∀ k,v.ownBlock=some k->ok k)/\OwnRow (d.M w base (fun k=>ok k/\some k ≠ v.ownBlock)) e d.sz w base v xs
section
variable {α:Type} {d:Kd α} {e:Nat} {w w1:World} {base:Nat} {ok ok':Nat->Prop} {v:Value} {xs:List α}
theorem Zi {A:Option Addr} {n:Nat} (h:d.C w A n xs) (hb:Below w.heap.size w w1):d.C w1 A n xs:=ReadsRow.imp_ h hb (fun _ _ hp=>d.K_below hb hp)
theorem Zip (d:Kd α) (e:Nat) (w:World) (base:Nat) (ok:Nat->Prop):d.R e w base ok (.slice none 0 0) []:=⟨fun k hk=>by simp [Value.ownBlock] at hk,OwnRow.none_ _ _ _ _ _⟩
theorem Zo (h:d.R e w base ok v xs) (hok:∀ k,ok k->ok' k):d.R e w base ok' v xs:=⟨fun k hk=>hok k (h.1 k hk),h.2.imp_ (fun _ _ hp=>d.M_mono (fun k hk=>⟨hok k hk.1,hk.2⟩) hp)⟩
theorem Zev (h:d.R e w base ok v xs):d.R e w base (fun k=>ok k/\base<=k/\k < w.heap.size /\ ∃ q,q ∈ e :: d.E /\ ∃ cells,w.heap[k]? = some (.cells cells q (0,0))) v xs:=by
 obtain ⟨h0,inner,ho,hr⟩:=h
 refine ⟨fun k hk=>?_,inner,ho,hr.imp_ (fun _ _ hp=>d.M_mono (fun k hk=>?_) (d.M_bound hp))⟩
 ·obtain ⟨cells,hc⟩:=Zfw ho k hk
  exact ⟨h0 k hk,Zii ho k hk,Zsn ho k hk,e,List.mem_cons_self,cells,hc⟩
 ·obtain ⟨⟨h1,h2⟩,h3,h4,q,hq,hc⟩:=hk
  exact ⟨⟨h1,h3,h4,q,List.mem_cons_of_mem _ hq,hc⟩,h2⟩
theorem Zkt (h:d.R e w base ok v xs) (hm:∀ k,ok k->w1.heap[k]? = w.heap[k]?):d.R e w1 base ok v xs:=by
 obtain ⟨h0,inner,ho,hr⟩:=h
 exact ⟨h0,inner,Zrq ho (fun k hk=>hm k (h0 k hk)),hr.imp_ (fun _ _ hp=>d.M_move (fun k hk=>hm k hk.1) hp)⟩
theorem Zn {base':Nat} (h:d.R e w base ok v xs) (hb:base'<=base):d.R e w base' ok v xs:=by
 obtain ⟨h0,inner,ho,hr⟩:=h
 exact ⟨h0,inner,Zol ho hb,hr.imp_ (fun _ _ hp=>d.M_lower hb hp)⟩
theorem Zjn (h:d.R e w base ok v xs) (hm:∀ k,ok k->k < w.heap.size->w1.heap[k]? = w.heap[k]?):d.R e w1 base ok v xs :=
 Zo (Zkt (Zev h) (fun k hk=>hm k hk.1 hk.2.2.1)) (fun _ hk=>hk.1)
theorem Zr4 {x:α} {cs:List Value} (h:d.M w base ok x cs) (hm:∀ k,ok k->k < w.heap.size->w1.heap[k]? = w.heap[k]?):d.M w1 base ok x cs :=
 d.M_mono (fun _ hk=>hk.1) (d.M_move (fun k hk=>hm k hk.1 hk.2.2.1) (d.M_bound h))
theorem Za (h:d.R e w base ok v xs) (hb:Below w.heap.size w w1):d.R e w1 base ok v xs:=Zjn h (fun k _ hk=>hb.block k hk)
theorem Zow {x:α} {cs:List Value} (h:d.M w base ok x cs) (hb:Below w.heap.size w w1):d.M w1 base ok x cs:=Zr4 h (fun k _ hk=>hb.block k hk)
theorem Zlz (h:d.R e w base ok v xs) {row:Option Nat} (hg:w.grownBy w1 row) (hok:∀ k,ok k->some k ≠ row):d.R e w1 base ok v xs:=Zjn h (fun k ho hk=>hg.block k hk (hok k ho))
theorem Zau (h:d.R e w base ok v xs) {p:Addr} (hok:∀ k,ok k->k ≠ p.block) (u:Value):d.R e (w.setCell p u) base ok v xs:=Zjn h (fun k ho _=>Below.heap_setCell w p u k (hok k ho))
theorem Zba (h:d.R e w base ok v xs) {g t:Nat} {cells:Array Value} (hb:w.heap[g]? = some (.cells cells t (0,0))) (ht:∀ q,q ∈ e :: d.E->q ≠ t):d.R e w base (fun k=>ok k/\k ≠ g) v xs :=
 Zo (Zev h) (fun k hk=>⟨hk.1,by
  obtain ⟨_,_,_,q,hq,cells',hc⟩:=hk
  rintro rfl
  rw [hc] at hb
  injection hb with hb
  injection hb with _ hb
  exact ht q hq hb⟩)
theorem Zgb (h:d.R e w base ok v xs):∃ A c,v=.slice A xs.length c/\xs.length<=c/\d.C w A xs.length xs:=by
 obtain ⟨A,c,he,hl,hr⟩:=OwnRow.reads h.2
 exact ⟨A,c,he,hl,hr.imp_ (Below.refl _ _) (fun _ _ hp=>d.K_of_M hp)⟩
theorem Zh (h:d.R e w base ok v xs):∃ A c,v=.slice A xs.length c:=by
 obtain ⟨A,c,he,_⟩:=Zgb h
 exact ⟨A,c,he⟩
theorem Zq3 (h:d.R e w base ok v xs):∃ inner,w.ownsRow base e d.sz v xs.length inner:=by
 obtain ⟨_,inner,ho,_⟩:=h
 exact ⟨inner,ho⟩
theorem R_ne (h:d.R e w base ok v xs) {g t:Nat} {cells:Array Value} (hb:w.heap[g]? = some (.cells cells t (0,0))) (ht:e ≠ t):some g ≠ v.ownBlock:=OwnRow.Zrl h.2 hb ht
end
def scalar {α:Type} (enc:α->Value) (h1:∀ x,(enc x).oneCell'=true):Kd α where
 sz:=1
 E:=[]
 K:=fun _ x cs=>cs=[enc x]
 M:=fun _ _ _ x cs=>cs=[enc x]
 K_len:=fun h=>by rw [h];rfl
 K_one:=fun h u hu=>by
  rw [h] at hu
  rw [List.mem_singleton.1 hu]
  exact h1 _
 K_below:=fun _ h=>h
 K_of_M:=fun h=>h
 M_mono:=fun _ h=>h
 M_bound:=fun h=>h
 M_move:=fun _ h=>h
 M_lower:=fun _ h=>h
def int (k:IntKind):Kd Int:=scalar (Value.int k) (fun _=>rfl)
def bool:Kd Bool:=scalar Value.bool (fun _=>rfl)
def string:Kd ByteArray:=scalar Value.string (fun _=>rfl)
def slice {α:Type} (e:Nat) (d:Kd α):Kd (List α) where
 sz:=1
 E:=e :: d.E
 K:=fun w xs cs => ∃ A c,cs=[.slice A xs.length c]/\xs.length<=c/\d.C w A xs.length xs
 M:=fun w base ok xs cs => ∃ v,cs=[v]/\d.R e w base ok v xs
 K_len:=by
  rintro w x cs ⟨A,c,rfl,_⟩
  rfl
 K_one:=by
  rintro w x cs ⟨A,c,rfl,_⟩ u hu
  rw [List.mem_singleton.1 hu]
  rfl
 K_below:=by
  rintro w w1 x cs hb ⟨A,c,rfl,hl,hr⟩
  exact ⟨A,c,rfl,hl,Zi hr hb⟩
 K_of_M:=by
  rintro w base ok x cs ⟨v,rfl,h⟩
  obtain ⟨A,c,rfl,hl,hr⟩:=Zgb h
  exact ⟨A,c,rfl,hl,hr⟩
 M_mono:=by
  rintro w base ok ok' x cs hok ⟨v,rfl,h⟩
  exact ⟨v,rfl,Zo h hok⟩
 M_bound:=by
  rintro w base ok x cs ⟨v,rfl,h⟩
  exact ⟨v,rfl,Zev h⟩
 M_move:=by
  rintro w w1 base ok x cs hm ⟨v,rfl,h⟩
  exact ⟨v,rfl,Zkt h hm⟩
 M_lower:=by
  rintro w base base' ok x cs hb ⟨v,rfl,h⟩
  exact ⟨v,rfl,Zn h hb⟩
def pair {α β:Type} (a:Kd α) (b:Kd β):Kd (α × β) where
 sz:=a.sz+b.sz
 E:=a.E++b.E
 K:=fun w x cs => ∃ c0 c1,cs=c0++c1/\a.K w x.1 c0/\b.K w x.2 c1
 M:=fun w base ok x cs => ∃ c0 c1,cs=c0++c1/\a.M w base ok x.1 c0/\b.M w base ok x.2 c1
 K_len:=by
  rintro w x cs ⟨c0,c1,rfl,h0,h1⟩
  rw [List.length_append,a.K_len h0,b.K_len h1]
 K_one:=by
  rintro w x cs ⟨c0,c1,rfl,h0,h1⟩ u hu
  rcases List.mem_append.1 hu with hu|hu
  ·exact a.K_one h0 u hu
  ·exact b.K_one h1 u hu
 K_below:=by
  rintro w w1 x cs hb ⟨c0,c1,rfl,h0,h1⟩
  exact ⟨c0,c1,rfl,a.K_below hb h0,b.K_below hb h1⟩
 K_of_M:=by
  rintro w base ok x cs ⟨c0,c1,rfl,h0,h1⟩
  exact ⟨c0,c1,rfl,a.K_of_M h0,b.K_of_M h1⟩
 M_mono:=by
  rintro w base ok ok' x cs hok ⟨c0,c1,rfl,h0,h1⟩
  exact ⟨c0,c1,rfl,a.M_mono hok h0,b.M_mono hok h1⟩
 M_bound:=by
  rintro w base ok x cs ⟨c0,c1,rfl,h0,h1⟩
  refine ⟨c0,c1,rfl,a.M_mono ?_ (a.M_bound h0),b.M_mono ?_ (b.M_bound h1)⟩
  ·rintro k ⟨h2,h3,h4,q,hq,hc⟩
   exact ⟨h2,h3,h4,q,List.mem_append_left _ hq,hc⟩
  ·rintro k ⟨h2,h3,h4,q,hq,hc⟩
   exact ⟨h2,h3,h4,q,List.mem_append_right _ hq,hc⟩
 M_move:=by
  rintro w w1 base ok x cs hm ⟨c0,c1,rfl,h0,h1⟩
  exact ⟨c0,c1,rfl,a.M_move hm h0,b.M_move hm h1⟩
 M_lower:=by
  rintro w base base' ok x cs hb ⟨c0,c1,rfl,h0,h1⟩
  exact ⟨c0,c1,rfl,a.M_lower hb h0,b.M_lower hb h1⟩
def iso {α β:Type} (d:Kd α) (f:β->α):Kd β where
 sz:=d.sz
 E:=d.E
 K:=fun w x cs=>d.K w (f x) cs
 M:=fun w base ok x cs=>d.M w base ok (f x) cs
 K_len:=d.K_len
 K_one:=d.K_one
 K_below:=d.K_below
 K_of_M:=d.K_of_M
 M_mono:=d.M_mono
 M_bound:=d.M_bound
 M_move:=d.M_move
 M_lower:=d.M_lower
def bot {α:Type} (sz:Nat) (E:List Nat):Kd α where
 sz:=sz
 E:=E
 K:=fun _ _ _=>False
 M:=fun _ _ _ _ _=>False
 K_len:=fun h=>h.elim
 K_one:=fun h=>h.elim
 K_below:=fun _ h=>h
 K_of_M:=fun h=>h
 M_mono:=fun _ h=>h
 M_bound:=fun h=>h
 M_move:=fun _ h=>h
 M_lower:=fun _ h=>h
def upto {α:Type} (F:Kd α->Kd α) (sz:Nat) (E:List Nat):Nat->Kd α
 | 0=>bot sz E
 | n+1=>F (upto F sz E n)
theorem Zor {α:Type} {d:Kd α} {w:World} {A:Option Addr} {n:Nat} {xs:List α} (h:d.C w A n xs) (z:α) (i:Int) (h0:0<=i) (h1:i < n) :
  ∃ ad c,A=some ad/\c.length=d.sz/\d.K w (xs.getD i.toNat z) c /\ ∀ j u,c[j]? = some u->w.cell? (ad.add (i.toNat*d.sz+j))=some u:=ReadsRow.get_ h z i h0 h1
theorem Zn8 {α:Type} {d:Kd α} {e base:Nat} {ok okp:Nat->Prop} {W w1:World} {v v1:Value} {xs:List α} {p:α} {inner cs:List Value} (h0:∀ k,v.ownBlock=some k->ok k) (hr:Reps (d.M W base (fun k=>ok k/\some k ≠ v.ownBlock)) d.sz xs inner) (hp:d.M W base okp p cs) (hokp:∀ k,okp k->ok k/\some k ≠ v.ownBlock) (hfresh:∀ k,W.heap.size<=k->ok k)
  (hown:w1.ownsRow base e d.sz v1 (xs.length+1) (inner++cs)) (hg:W.grownBy w1 v.ownBlock) (hat:v1.ownBlock=v.ownBlock \/ ∃ b,v1.ownBlock=some b/\W.heap.size<=b):d.R e w1 base ok v1 (xs ++ [p]):=by
 have hne:∀ k,some k ≠ v.ownBlock->k < W.heap.size->some k ≠ v1.ownBlock:=by
  intro k hk hlt
  rcases hat with hat|⟨b,hb,hle⟩
  ·rw [hat];exact hk
  ·rw [hb]
   intro he
   injection he with he
   omega
 have step:∀ {q:α} {c:List Value} {o:Nat->Prop},d.M W base o q c->(∀ k,o k->ok k/\some k ≠ v.ownBlock)->d.M w1 base (fun k=>ok k/\some k ≠ v1.ownBlock) q c:=by
  intro q c o hq ho
  have h1:=d.M_move (w1:=w1) (fun k hk=>hg.block k hk.2.2.1 (ho k hk.1).2) (d.M_bound hq)
  exact d.M_mono (fun k hk=>⟨(ho k hk.1).1,hne k (ho k hk.1).2 hk.2.2.1⟩) h1
 refine ⟨fun k hk=>?_,inner++cs,by rw [List.length_append,List.length_singleton];exact hown,?_⟩
 ·rcases hat with hat|⟨b,hb,hle⟩
  ·exact h0 k (hat ▸ hk)
  ·rw [hb] at hk
   injection hk with hk
   exact hfresh k (by omega)
 ·exact (hr.imp_ (fun _ _ hq=>step hq (fun _ hk=>hk))).snoc (step hp hokp) (d.K_len (d.K_of_M hp))
section
variable {P:Program} {ops:Array Oper} {rest:List Oper} {o:Oper} {a:Act} {Q:Exit->Act->World->Prop} {α:Type}
theorem Zb3 (d:Kd α) {w0 W:World} (base:Nat) (hgd:o.guard=none) (s x:Operand) (t e:TypeId) (z:Value) (bytes:Nat)
  (ho:o.op=.call { callee:=.builtin .append,args:=#[s,x],argTypes:=#[t,t] })
  (ht:P.underlying t=some (.slice e)) (hinfo:(P.info? e).map (fun i=>(i.zero,i.size,i.bytes))=some (some z,d.sz,bytes)) (hz:z.cells.size=d.sz) (hs0:0 < d.sz) (hb0:0 < bytes)
  (v:Value) (xs:List α) (p:α) (cs:List Value) (ok okp:Nat->Prop) (hs:a.eval s=v) (hx:a.eval x=.slice (some ⟨W.heap.size,0,none⟩) 1 1) (hp:d.M W base okp p cs) (hokp:∀ k,okp k->ok k/\some k ≠ v.ownBlock) (hfresh:∀ k,W.heap.size<=k->ok k)
  (HO:d.R e W base ok v xs) (HB:Below base w0 W) (hbase:base<=W.heap.size) (hl:(xs.length+1)*bytes<=140737488355328)
  (h:∀ v1 w1,d.R e w1 base ok v1 (xs ++ [p])->Below base w0 w1->W.grownBy w1 v.ownBlock->(v1.ownBlock=v.ownBlock \/ ∃ b,v1.ownBlock=some b/\W.heap.size<=b)->wpList P ops Q rest (a.put o.dst v1) w1) :
  wpList P ops Q (o :: rest) a (W.alloc (.cells cs.toArray e)):=by
 obtain ⟨h0,inner,hown,hr⟩:=HO
 refine Zhi base hgd s x t e z d.sz bytes ho ht hinfo hz hs0 hb0 v xs.length inner cs hs hx (d.K_len (d.K_of_M hp)) (d.K_one (d.K_of_M hp)) hown HB hbase hl ?_
 intro v1 w1 hown1 hb1 hg1 hat1
 exact h v1 w1 (Zn8 h0 hr hp hokp hfresh hown1 hg1 hat1) hb1 hg1 hat1
end
section
variable {P:Program} {ops:Array Oper} {o:Oper} {a:Act} {Q:Exit->Act->World->Prop} {Kc:Act->World->Prop} {α:Type}
end
theorem Zml {α:Type} {enc:α->Value} (xs:List α):Reps (fun (x:α) (cs:List Value)=>cs=[enc x]) 1 xs (encs enc xs):=by
 refine ⟨by simp [encs],fun j p hj=>?_⟩
 obtain ⟨hl,hp⟩:=List.getElem?_eq_some_iff.1 hj
 have hl':j < (encs enc xs).length:=by rw [Ziy];exact hl
 rw [Nat.mul_one,List.drop_eq_getElem_cons hl']
 simp [encs,hp]
theorem Zdk {α:Type} {enc:α->Value} {h1:∀ x,(enc x).oneCell'=true} {e:Nat} {w:World} {base:Nat} {ok:Nat->Prop} {v:Value} {xs:List α} (ho:w.ownsRow base e 1 v xs.length (encs enc xs)) (hok:∀ k,v.ownBlock=some k->ok k):(scalar enc h1).R e w base ok v xs:=⟨hok,encs enc xs,ho,Zml xs⟩
theorem Zd6 {α:Type} {enc:α->Value} {h1:∀ x,(enc x).oneCell'=true} {e:Nat} {w:World} {base:Nat} {ok:Nat->Prop} {v:Value} {xs:List α} (h:(scalar enc h1).R e w base ok v xs):w.ownsRow base e 1 v xs.length (encs enc xs):=by
 obtain ⟨_,inner,ho,hr⟩:=h
 have:inner=encs enc xs:=by
  apply List.ext_getElem?
  intro j
  rcases Nat.lt_or_ge j xs.length with hj|hj
  ·have h2:=hr.2 j _ (List.getElem?_eq_getElem hj)
   have hl:j < inner.length:=by have := hr.1;simp [scalar] at this;omega
   have h3:(inner.drop (j*1)).take 1=[enc xs[j]]:=h2
   rw [Nat.mul_one,List.drop_eq_getElem_cons hl] at h3
   have h4:inner[j]=enc xs[j]:=by
    have h5:=congrArg List.head? h3
    rw [List.take_succ_cons] at h5
    exact Option.some.inj h5
   rw [List.getElem?_eq_getElem hl,h4]
   simp [encs,List.getElem?_eq_getElem hj]
  ·have h3:inner.length=xs.length:=by have := hr.1;simp [scalar] at this;omega
   rw [List.getElem?_eq_none (by omega),List.getElem?_eq_none (by rw [Ziy];omega)]
 rw [<- this]
 exact ho
theorem Zhr {α:Type} {enc:α->Value} {d:α} {h1:∀ x,(enc x).oneCell'=true} {w:World} {A:Option Addr} {n:Nat} {xs:List α} (h:ReadsOf enc d w A n xs):(scalar enc h1).C w A n xs:=by
 refine ⟨h.1,h.2.1,fun hn=>?_⟩
 obtain ⟨ad,e,hc⟩:=h.2.2 hn
 refine ⟨ad,e,fun j p hj=>⟨[enc p],rfl,rfl,fun i u hu=>?_⟩⟩
 obtain ⟨hl,hp⟩:=List.getElem?_eq_some_iff.1 hj
 have h2:=hc j (by have := h.1;omega)
 rw [List.getD_eq_getElem?_getD,hj] at h2
 cases i with
 | zero =>
  have:enc p=u:=by simpa using hu
  subst this
  simpa [scalar] using h2
 | succ i=>simp at hu
theorem Zgv {α:Type} {enc:α->Value} {d:α} {h1:∀ x,(enc x).oneCell'=true} {w:World} {A:Option Addr} {n:Nat} {xs:List α} (h:(scalar enc h1).C w A n xs):ReadsOf enc d w A n xs:=by
 refine ⟨h.1,h.2.1,fun hn=>?_⟩
 obtain ⟨ad,e,hc⟩:=h.2.2 hn
 refine ⟨ad,e,fun j hj=>?_⟩
 have hl:j < xs.length:=by have := h.1;omega
 obtain ⟨c,_,hK,hcell⟩:=hc j _ (List.getElem?_eq_getElem hl)
 have hK':c=[enc xs[j]]:=hK
 subst hK'
 have := hcell 0 _ rfl
 simpa [scalar,List.getD_eq_getElem?_getD,List.getElem?_eq_getElem hl] using this
end Kd
namespace Kd
section
variable {α:Type} {F:Kd α->Kd α} {sz:Nat} {E:List Nat} {hs:∀ n,(upto F sz E n).sz=sz} {hE:∀ n q,q ∈ (upto F sz E n).E->q ∈ E}
end
end Kd
namespace Kd
theorem Zfj {α:Type} {d:Kd α} {e base:Nat} {ok:Nat->Prop} {W w1:World} {u v v1:Value} {xs:List α} (h:d.R e W base (fun k=>ok k/\some k ≠ v.ownBlock) u xs) (hg:W.grownBy w1 v.ownBlock) (hat:v1.ownBlock=v.ownBlock \/ ∃ b,v1.ownBlock=some b/\W.heap.size<=b):d.R e w1 base (fun k=>ok k/\some k ≠ v1.ownBlock) u xs:=by
 refine Zo (Zkt (Zev h) (fun k hk=>hg.block k hk.2.2.1 hk.1.2)) (fun k hk=>⟨hk.1.1,?_⟩)
 rcases hat with hat|⟨b,hb,hle⟩
 ·rw [hat];exact hk.1.2
 ·rw [hb]
  intro he
  injection he with he
  have := hk.2.2.1
  omega
end Kd
namespace Kd
section
variable {α β:Type} {d:Kd α} {d':Kd β} {e e':Nat} {w w1 W:World} {base b b':Nat} {ok ok' okv oku:Nat->Prop} {v u:Value} {xs:List α} {ys:List β}
theorem Zh5 (h:d.R e w base ok v xs):d.R e w.drew base ok v xs:=Za h (Zfp (Below.refl _ _))
theorem Zus (d:Kd α) (w:World):d.C w none ([]:List α).length []:=⟨rfl,by simp,fun h=>absurd h (Nat.lt_irrefl 0)⟩
theorem Zto {A:Option Addr} {n:Nat} (h:d.C w A n xs):n<=9223372036854775807:=h.2.1
theorem Zc {A:Option Addr} {n c:Nat} (h:d.R e w base ok (.slice A n c) xs):n=xs.length/\n<=c/\d.C w A xs.length xs:=by
 obtain ⟨A',c',he,hl,hr⟩:=Zgb h
 injection he with h1 h2 h3
 subst h1
 exact ⟨h2,by omega,hr⟩
theorem R_lt (h:d.R e w base ok v xs):∀ k,v.ownBlock=some k->k < w.heap.size:=by
 obtain ⟨inner,ho⟩:=Zq3 h
 exact Zsn ho
theorem Zt (h:d.R e w base ok v xs):∀ k,v.ownBlock=some k->base<=k:=by
 obtain ⟨inner,ho⟩:=Zq3 h
 exact Zii ho
theorem Zin (h:d.R e w base ok v xs) (hp:0 < xs.length):∃ g cap,v=.slice (some ⟨g,0,none⟩) xs.length cap/\base<=g/\g < w.heap.size /\ ∃ cells,w.heap[g]? = some (.cells cells e (0,0)):=by
 obtain ⟨inner,ho⟩:=Zq3 h
 obtain ⟨g,cap,he,hb,hl⟩:=ho.form hp
 obtain ⟨cells,hc⟩:=Zfw ho g (by rw [he];simp [Value.ownBlock])
 exact ⟨g,cap,he,hb,hl,cells,hc⟩
end
section
variable {w W:World} {A:Option Addr} {n:Nat}
theorem Zay {k:IntKind} {xs:List Int} (h:(Kd.int k).C w A n xs) (i:Int) (h0:0<=i) (h1:i < n):∃ ad,A=some ad/\w.cell? (ad.add i.toNat)=some (.int k (rd xs i)) :=
 ReadsOf.at_ (Zgv (enc:=Value.int k) (d:=(0:Int)) (h1:=fun _=>rfl) h) i h0 h1
variable {α:Type} {enc:α->Value} {h1:∀ x,(enc x).oneCell'=true} {e base g cap:Nat} {ok:Nat->Prop} {xs:List α}
theorem Zt0 (d:α) (h:(scalar enc h1).R e W base ok (.slice (some ⟨g,0,none⟩) xs.length cap) xs) (i:Int) (h0:0<=i) (hi:i < xs.length):W.cell? ⟨g,i.toNat,none⟩=some (enc (rdOf d xs i))/\W.frozen? ⟨g,i.toNat,none⟩=false:=Zqd (Zd6 h) i h0 hi
theorem Zt2 (h:(scalar enc h1).R e W base ok (.slice (some ⟨g,0,none⟩) xs.length cap) xs) (i:Int) (x:α):(scalar enc h1).R e (W.setCell ⟨g,i.toNat,none⟩ (enc x)) base ok (.slice (some ⟨g,0,none⟩) xs.length cap) (xs.set i.toNat x)/\W.grownBy (W.setCell ⟨g,i.toNat,none⟩ (enc x)) (some g):=by
 obtain ⟨ho,hg⟩:=Zlk (Zd6 h) i x
 exact ⟨Zdk (by rw [List.length_set];exact ho) h.1,hg⟩
end
section
variable {P:Program} {ops:Array Oper} {rest:List Oper} {o:Oper} {a:Act} {Q:Exit->Act->World->Prop}
theorem Zhc {W w1:World} {v:Value} (hgd:o.guard=none) (hrun:(execOp a.eval o).run P W=.ok (.value v) w1) (h:wpList P ops Q rest (a.put o.dst v) w1):wpList P ops Q (o :: rest) a W:=by
 refine wpList_plain hgd fun K hK=>?_
 unfold Oper.wp
 rw [hrun]
 exact hK _ _ h
variable {α:Type}
theorem Zhs (d:Kd α) {w0 W:World} (base e:Nat) (hgd:o.guard=none) {N:Tmp} (_hd:o.dst=some N) {xs:List α} {inner:List Value} {ok okp:Nat->Prop}
  (hrun:(execOp a.eval o).run P W=.ok (.value (.slice (some ⟨W.heap.size,0,none⟩) xs.length xs.length)) (W.alloc (.cells inner.toArray e)))
  (hrep:Reps (d.M W base okp) d.sz xs inner) (hok:∀ k,okp k->ok k) (hfresh:ok W.heap.size) (HB:Below base w0 W) (hbase:base<=W.heap.size) (hm:xs.length<=9223372036854775807)
  (h:∀ v1 w1,d.R e w1 base ok v1 xs->Below base w0 w1->W.grownBy w1 none->(∃ b,v1.ownBlock=some b/\W.heap.size<=b)->wpList P ops Q rest (a.put o.dst v1) w1):wpList P ops Q (o :: rest) a W:=by
 refine Zhc hgd hrun (h _ _ ⟨fun k hk=>?_,inner,?_,?_⟩ (HB.alloc hbase _) (World.grownBy_alloc W _ none) ⟨W.heap.size,by simp [Value.ownBlock],Nat.le_refl _⟩)
 ·have:W.heap.size=k:=by simpa [Value.ownBlock] using hk
  subst this
  exact hfresh
 ·have h2:=World.ownsRow_lit (base:=base) (e:=e) (size:=d.sz) W inner.toArray xs.length hbase (by simpa [maxLen] using hm) (by simpa using hrep.1)
  simpa using h2
 ·refine hrep.imp_ (fun p c hp=>d.M_mono (fun k hk=>⟨hok k hk.1,fun he=>?_⟩) (Zow (d.M_bound hp) (Zck (Below.refl _ _) _)))
  have h3:k=W.heap.size:=by simpa [Value.ownBlock] using he
  have := hk.2.2.1
  omega
theorem Zqo {α:Type} {R:α->List Value->Prop} {z:Value} {size:Nat} {z0:α} (hz:z.cells.size=size) (hs:0 < size) (h0:R z0 z.cells.toList) (m:Nat):Reps R size (List.replicate m z0) (madeCells z.cells (m*size)).toList:=by
 refine ⟨by simp [size_madeCells],fun j p hj=>?_⟩
 obtain ⟨hjl,hp⟩:=List.getElem?_eq_some_iff.1 hj
 have hjm:j < m:=by simpa using hjl
 have hp':z0=p:=by simpa using hp
 subst hp'
 have hle:j*size+size<=m*size:=by rw [<- Nat.succ_mul];exact Nat.mul_le_mul_right _ hjm
 have:((madeCells z.cells (m*size)).toList.drop (j*size)).take size=z.cells.toList:=by
  apply List.ext_getElem
  ·simp [size_madeCells,hz]
   omega
  ·intro i h1 h2
   have hi:i < size:=by rw [Array.length_toList,hz] at h2;exact h2
   have hmod:(j*size+i) % size=i:=by
    rw [Nat.mul_comm,Nat.mul_add_mod]
    exact Nat.mod_eq_of_lt hi
   simp [madeCells,hz,hmod]
   rw [getElem!_pos z.cells i (by omega)]
 rw [this]
 exact h0
theorem Zks (d:Kd α) {w0 W:World} (base e:Nat) (hgd:o.guard=none) {N:Tmp} (hd:o.dst=some N) (t:TypeId) (x y:Operand) (ho:o.op=.makeSlice t x y) (n:Int) (hx:a.eval x=.int .i64 n) (hy:a.eval y=.int .i64 n)
  (ht:P.underlying t=some (.slice e)) (z:Value) (bytes:Nat) (hinfo:(P.info? e).map (fun i=>(i.zero,i.size,i.bytes))=some (some z,d.sz,bytes)) (hz:z.cells.size=d.sz) (hs0:0 < d.sz) (hb0:0 < bytes)
  (z0:α) {ok okp:Nat->Prop} (hzero:d.M W base okp z0 z.cells.toList) (hok:∀ k,okp k->ok k) (hfresh:ok W.heap.size) (h0:0<=n) (hl:n.toNat*bytes<=281474976710656) (HB:Below base w0 W) (hbase:base<=W.heap.size)
  (h:∀ v1 w1,d.R e w1 base ok v1 (List.replicate n.toNat z0)->Below base w0 w1->W.grownBy w1 none->(∃ b,v1.ownBlock=some b/\W.heap.size<=b)->wpList P ops Q rest (a.put o.dst v1) w1):wpList P ops Q (o :: rest) a W:=by
 obtain ⟨m,rfl⟩:=Int.eq_ofNat_of_zero_le h0
 simp only [Int.toNat_natCast] at hl h
 obtain ⟨i0,hi,hzz⟩:=Option.map_eq_some_iff.1 hinfo
 simp only [Prod.mk.injEq] at hzz
 obtain ⟨hz0,hz1,hz2⟩:=hzz
 have hm:m<=281474976710656:=Nat.le_trans (Nat.le_mul_of_pos_right _ hb0) hl
 have hr:=run_make (P:=P) W t e i0 z ht hi hz0 .i64 .i64 (m:Int) (m:Int) (by omega) (by omega)
  (by
   have h3:((i0.bytes*m:Nat):Int)<=281474976710656:=by rw [hz2,Nat.mul_comm];omega
   rwa [Int.natCast_mul] at h3) (by omega)
 simp only [Int.toNat_natCast] at hr
 rw [hz1] at hr
 refine Zhs d base e hgd hd (xs:=List.replicate m z0) (inner:=(madeCells z.cells (m*d.sz)).toList) (okp:=okp) (ok:=ok) ?_ (Zqo hz hs0 hzero m) hok hfresh HB hbase (by simp;omega) h
 simp [execOp,ho,hx,hy,hr]
end
end Kd
theorem Zrr {w:World} {base n m c size:Nat} {e:TypeId} {A:Option Addr} {xs:List Value} (h:w.ownsRow base e size (.slice A n c) n xs) (hm:m<=n):w.ownsRow base e size (.slice A m c) m (xs.take (m*size)):=by
 obtain ⟨h1,h2⟩:=h
 refine ⟨by rw [List.length_take,h1];exact Nat.min_eq_left (Nat.mul_le_mul_right _ hm),?_⟩
 rcases h2 with ⟨he,h0⟩|⟨g,cap,cur,he,hb,hh,hnc,hcm,hcs,ht⟩
 ·injection he with ha _ hc
  subst ha;subst hc
  exact .inl ⟨by rw [show m=0 by omega],by omega⟩
 ·injection he with ha _ hc
  subst ha;subst hc
  refine .inr ⟨g,c,cur,rfl,hb,hh,by omega,hcm,hcs,?_⟩
  rw [<- ht,List.take_take,Nat.min_eq_left (Nat.mul_le_mul_right _ hm)]
section
variable {P:Program}
theorem Zh7 (t e:TypeId) (kh:IntKind) {i:TypeInfo} (ht:P.underlying t=some (.slice e)) (hi:P.info? e=some i) (A:Option Addr) (n c:Nat) (j:Int) (h0:0<=j) (hm:j<=n) (hc:n<=c) :
  ∀ W:World,(Instr.slice t (.slice A n c) none (some (.int kh j)) none).run P W=.ok (.slice A j.toNat c) W:=by
 intro W
 have hel:P.elem t=e:=by simp [Program.elem,ht]
 have hu:P.underlying t=some (.slice (P.elem t)):=by rw [hel];exact ht
 have ha:(A.map fun x=>x.add 0)=A:=by cases A <;> simp [Addr.add]
 rw [run_slice_h W t A n c hu kh j h0 (by omega),hel]
 simp [sizeOf,typeInfo,hi,sliced,Result.andThen,ha]
theorem Zif (t e:TypeId) (kl:IntKind) {i:TypeInfo} (ht:P.underlying t=some (.slice e)) (hi:P.info? e=some i) (size:Nat) (hsz:i.size=size) (A:Option Addr) (n c:Nat) (j:Int) (h0:0<=j) (hm:j<=n) :
  ∀ W:World,(Instr.slice t (.slice A n c) (some (.int kl j)) none none).run P W=.ok (.slice (if c=j.toNat then A else A.map (·.add (j.toNat*size))) (n - j.toNat) (c - j.toNat)) W:=by
 intro W
 have hel:P.elem t=e:=by simp [Program.elem,ht]
 have hu:P.underlying t=some (.slice (P.elem t)):=by rw [hel];exact ht
 rw [run_slice_l W t A n c hu kl j h0 hm,hel]
 simp [sizeOf,typeInfo,hi,hsz,sliced,Result.andThen]
end
def QRow (w:World) (base:Nat) (e:TypeId) (size:Nat) (v:Value) (n:Nat) (xs:List Value):Prop :=
  xs.length=n*size /\
  ((n=0 /\ ∃ A,v=.slice A 0 0 /\ ∀ a,A=some a->base<=a.block /\ ∃ cur,w.heap[a.block]? = some (.cells cur e (0,0))) \/
   ∃ g off cap cur,v=.slice (some ⟨g,off*size,none⟩) n cap/\base<=g/\w.heap[g]? = some (.cells cur e (0,0))/\n<=cap/\off+cap<=maxLen/\cur.size=(off+cap)*size/\(cur.toList.drop (off*size)).take (n*size)=xs)
section
variable {w w1:World} {base n size:Nat} {e:TypeId} {v:Value} {xs:List Value}
theorem Zru (h:w.ownsRow base e size v n xs):QRow w base e size v n xs:=by
 obtain ⟨h1,h2⟩:=h
 refine ⟨h1,?_⟩
 rcases h2 with ⟨rfl,h0⟩|⟨g,cap,cur,rfl,hb,hh,hnc,hcm,hcs,ht⟩
 ·exact .inl ⟨h0,none,rfl,fun a ha=>by cases ha⟩
 ·exact .inr ⟨g,0,cap,cur,by rw [Nat.zero_mul],hb,hh,hnc,by rw [Nat.zero_add];exact hcm,by rw [Nat.zero_add];exact hcs,by rw [Nat.zero_mul,List.drop_zero];exact ht⟩
theorem Zun (h:QRow w base e size v n xs) (hm:∀ k,v.ownBlock=some k->w1.heap[k]? = w.heap[k]?):QRow w1 base e size v n xs:=by
 obtain ⟨h1,h2⟩:=h
 refine ⟨h1,?_⟩
 rcases h2 with ⟨h0,A,rfl,hA⟩|⟨g,off,cap,cur,rfl,hg,hh,r⟩
 ·refine .inl ⟨h0,A,rfl,fun a ha=>?_⟩
  obtain ⟨hb,cur,hc⟩:=hA a ha
  subst ha
  exact ⟨hb,cur,(hm a.block (by simp [Value.ownBlock])).trans hc⟩
 ·exact .inr ⟨g,off,cap,cur,rfl,hg,(hm g (by simp [Value.ownBlock])).trans hh,r⟩
theorem Zmi (h:QRow w base e size v n xs) (k:Nat) (hk:v.ownBlock=some k):base<=k /\ ∃ cells,w.heap[k]? = some (.cells cells e (0,0)):=by
 rcases h.2 with ⟨_,A,rfl,hA⟩|⟨g,off,cap,cur,rfl,hg,hh,r⟩
 ·cases A with
  | none=>simp [Value.ownBlock] at hk
  | some a =>
   have:a.block=k:=by simpa [Value.ownBlock] using hk
   subst this
   exact hA a rfl
 ·have:g=k:=by simpa [Value.ownBlock] using hk
  subst this
  exact ⟨hg,cur,hh⟩
theorem q_lt (h:QRow w base e size v n xs) (k:Nat) (hk:v.ownBlock=some k):k < w.heap.size:=by
 obtain ⟨_,cells,hc⟩:=Zmi h k hk
 exact (Array.getElem?_eq_some_iff.1 hc).1
theorem Zth {base':Nat} (h:QRow w base e size v n xs) (hb:base'<=base):QRow w base' e size v n xs:=by
 obtain ⟨h1,h2⟩:=h
 refine ⟨h1,?_⟩
 rcases h2 with ⟨h0,A,rfl,hA⟩|⟨g,off,cap,cur,rfl,hg,r⟩
 ·exact .inl ⟨h0,A,rfl,fun a ha=>⟨Nat.le_trans hb (hA a ha).1,(hA a ha).2⟩⟩
 ·exact .inr ⟨g,off,cap,cur,rfl,Nat.le_trans hb hg,r⟩
theorem Zqk (h:QRow w base e size v n xs):∃ A c,v=.slice A n c/\n<=c:=by
 rcases h.2 with ⟨h0,A,rfl,_⟩|⟨g,off,cap,cur,rfl,hg,hh,hnc,r⟩
 ·exact ⟨A,0,by rw [h0],by omega⟩
 ·exact ⟨_,cap,rfl,hnc⟩
theorem Zu5 (h:QRow w base e size v n xs):n<=9223372036854775807:=by
 rcases h.2 with ⟨h0,_⟩|⟨g,off,cap,cur,rfl,hg,hh,hnc,hm,r⟩
 ·omega
 ·simp only [maxLen] at hm
  omega
theorem Zh6 (g o j:Nat):(⟨g,o,none⟩:Addr).add j=⟨g,o+j,none⟩:=by unfold Addr.add;split <;> simp_all
theorem Ztg {A:Option Addr} {c:Nat} (h:QRow w base e size (.slice A n c) n xs) (hn:0 < n):∃ ad,A=some ad /\ ∀ j u,xs[j]? = some u->w.cell? (ad.add j)=some u:=by
 rcases h.2 with ⟨h0,_⟩|⟨g,off,cap,cur,he,hg,hh,hnc,hm,hcs,ht⟩
 ·omega
 ·injection he with ha _ hc
  subst ha
  refine ⟨_,rfl,fun j u hu=>?_⟩
  rw [Zh6,cell_of_row w g _ cur e (0,0) hh]
  rw [<- ht,List.getElem?_take] at hu
  split at hu
  ·rw [List.getElem?_drop] at hu
   rw [<- Array.getElem?_toList]
   exact hu
  ·cases hu
theorem Zuo {A:Option Addr} {c m:Nat} (h:QRow w base e size (.slice A n c) n xs) (hm:m<=n):QRow w base e size (.slice A m c) m (xs.take (m*size)):=by
 obtain ⟨h1,h2⟩:=h
 refine ⟨by rw [List.length_take,h1];exact Nat.min_eq_left (Nat.mul_le_mul_right _ hm),?_⟩
 rcases h2 with ⟨h0,A',he,hA⟩|⟨g,off,cap,cur,he,hb,hh,hnc,hcm,hcs,ht⟩
 ·injection he with ha hb hc
  subst ha;subst hc
  exact .inl ⟨by omega,A,by rw [show m=0 by omega],hA⟩
 ·injection he with ha _ hc
  subst ha;subst hc
  refine .inr ⟨g,off,c,cur,rfl,hb,hh,by omega,hcm,hcs,?_⟩
  rw [<- ht,List.take_take,Nat.min_eq_left (Nat.mul_le_mul_right _ hm)]
theorem Zum {A:Option Addr} {c k:Nat} (h:QRow w base e size (.slice A n c) n xs) (hk:k<=n):QRow w base e size (.slice (if c=k then A else A.map (·.add (k*size))) (n - k) (c - k)) (n - k) (xs.drop (k*size)):=by
 obtain ⟨h1,h2⟩:=h
 refine ⟨by rw [List.length_drop,h1,Nat.sub_mul],?_⟩
 rcases h2 with ⟨h0,A',he,hA⟩|⟨g,off,cap,cur,he,hb,hh,hnc,hcm,hcs,ht⟩
 ·injection he with ha hb hc
  subst ha;subst hc
  have hk0:k=0:=by omega
  subst hk0
  exact .inl ⟨by omega,A,by rw [if_pos rfl,h0],hA⟩
 ·injection he with ha _ hc
  subst ha;subst hc
  by_cases hck:c=k
  ·rw [if_pos hck]
   refine .inl ⟨by omega,some ⟨g,off*size,none⟩,?_,fun a ha=>?_⟩
   ·rw [show n - k=0 by omega,show c - k=0 by omega]
   ·injection ha with ha
    subst ha
    exact ⟨hb,cur,hh⟩
  ·rw [if_neg hck]
   refine .inr ⟨g,off+k,c - k,cur,?_,hb,hh,by omega,by omega,by rw [hcs];congr 1;omega,?_⟩
   ·rw [Option.map_some,Zh6,Nat.add_mul]
   ·rw [<- ht,List.drop_take,List.drop_drop,Nat.add_mul,Nat.sub_mul]
end
section
variable {P:Program}
end
namespace Kd
theorem Zlo {α:Type} {R:α->List Value->Prop} {size m:Nat} {ps:List α} {cs:List Value} (h:Reps R size ps cs) (hm:m<=ps.length):Reps R size (ps.take m) (cs.take (m*size)):=by
 refine ⟨by rw [List.length_take,List.length_take,h.1,Nat.min_eq_left hm,Nat.min_eq_left (Nat.mul_le_mul_right _ hm)],fun j p hj=>?_⟩
 rw [List.getElem?_take] at hj
 split at hj
 ·rename_i hjm
  have := h.2 j p hj
  have hle:j*size+size<=m*size:=by rw [<- Nat.succ_mul];exact Nat.mul_le_mul_right _ hjm
  rw [List.drop_take,List.take_take,Nat.min_eq_left (by omega)]
  exact this
 ·cases hj
theorem Zqn {α:Type} {R:α->List Value->Prop} {size m:Nat} {ps:List α} {cs:List Value} (h:Reps R size ps cs):Reps R size (ps.drop m) (cs.drop (m*size)):=by
 refine ⟨by rw [List.length_drop,List.length_drop,h.1,Nat.sub_mul],fun j p hj=>?_⟩
 rw [List.getElem?_drop] at hj
 have := h.2 (m+j) p hj
 rw [List.drop_drop,<- Nat.add_mul]
 exact this
theorem Zpc {α:Type} {d:Kd α} {e m n c:Nat} {w:World} {base:Nat} {ok:Nat->Prop} {A:Option Addr} {xs:List α} (h:d.R e w base ok (.slice A n c) xs) (hm:m<=xs.length):d.R e w base ok (.slice A m c) (xs.take m):=by
 obtain ⟨h0,inner,ho,hr⟩:=h
 have hn:n=xs.length:=by
  obtain ⟨A',c',he⟩:=Zqf ho
  injection he
 subst hn
 have hb:∀ x y:Nat,(Value.slice A x c).ownBlock=(Value.slice A y c).ownBlock:=by
  intro x y
  cases A <;> rfl
 refine ⟨fun k hk=>h0 k (by rw [hb _ m];exact hk),inner.take (m*d.sz),?_,?_⟩
 ·rw [List.length_take,Nat.min_eq_left hm]
  exact Zrr ho hm
 ·rw [hb m xs.length]
  exact Zlo hr hm
def Q {α:Type} (d:Kd α) (e:Nat) (w:World) (base:Nat) (ok:Nat->Prop) (v:Value) (xs:List α):Prop :=
 (∀ k,v.ownBlock=some k->ok k) /\ ∃ inner,QRow w base e d.sz v xs.length inner/\Reps (d.M w base (fun k=>ok k/\some k ≠ v.ownBlock)) d.sz xs inner
section
variable {α:Type} {d:Kd α} {e:Nat} {w w1 W:World} {base:Nat} {ok ok':Nat->Prop} {v:Value} {xs:List α}
theorem Zil (h:d.R e w base ok v xs):d.Q e w base ok v xs:=by
 obtain ⟨h0,inner,ho,hr⟩:=h
 exact ⟨h0,inner,Zru ho,hr⟩
theorem Ztx (d:Kd α) (e:Nat) (w:World) (base:Nat) (ok:Nat->Prop):d.Q e w base ok (.slice none 0 0) []:=Zil (Zip d e w base ok)
theorem Zha (h:d.Q e w base ok v xs) (hok:∀ k,ok k->ok' k):d.Q e w base ok' v xs:=by
 obtain ⟨h0,inner,ho,hr⟩:=h
 exact ⟨fun k hk=>hok k (h0 k hk),inner,ho,hr.imp_ (fun _ _ hp=>d.M_mono (fun k hk=>⟨hok k hk.1,hk.2⟩) hp)⟩
theorem Zjz (h:d.Q e w base ok v xs):d.Q e w base (fun k=>ok k/\base<=k/\k < w.heap.size /\ ∃ q,q ∈ e :: d.E /\ ∃ cells,w.heap[k]? = some (.cells cells q (0,0))) v xs:=by
 obtain ⟨h0,inner,ho,hr⟩:=h
 refine ⟨fun k hk=>?_,inner,ho,hr.imp_ (fun _ _ hp=>d.M_mono (fun k hk=>?_) (d.M_bound hp))⟩
 ·obtain ⟨hb,cells,hc⟩:=Zmi ho k hk
  exact ⟨h0 k hk,hb,q_lt ho k hk,e,List.mem_cons_self,cells,hc⟩
 ·obtain ⟨⟨h1,h2⟩,h3,h4,q,hq,hc⟩:=hk
  exact ⟨⟨h1,h3,h4,q,List.mem_cons_of_mem _ hq,hc⟩,h2⟩
theorem Zr8 (h:d.Q e w base ok v xs) (hm:∀ k,ok k->w1.heap[k]? = w.heap[k]?):d.Q e w1 base ok v xs:=by
 obtain ⟨h0,inner,ho,hr⟩:=h
 exact ⟨h0,inner,Zun ho (fun k hk=>hm k (h0 k hk)),hr.imp_ (fun _ _ hp=>d.M_move (fun k hk=>hm k hk.1) hp)⟩
theorem Zfa {base':Nat} (h:d.Q e w base ok v xs) (hb:base'<=base):d.Q e w base' ok v xs:=by
 obtain ⟨h0,inner,ho,hr⟩:=h
 exact ⟨h0,inner,Zth ho hb,hr.imp_ (fun _ _ hp=>d.M_lower hb hp)⟩
theorem Ztz (h:d.Q e w base ok v xs) (hm:∀ k,ok k->k < w.heap.size->w1.heap[k]? = w.heap[k]?):d.Q e w1 base ok v xs:=Zha (Zr8 (Zjz h) (fun k hk=>hm k hk.1 hk.2.2.1)) (fun _ hk=>hk.1)
theorem Zej (h:d.Q e w base ok v xs) (hb:Below w.heap.size w w1):d.Q e w1 base ok v xs:=Ztz h (fun k _ hk=>hb.block k hk)
theorem Zdq (h:d.Q e w base ok v xs) (o:Obj):d.Q e (w.alloc o) base ok v xs:=Zej h (Zck (Below.refl _ _) o)
theorem Zei (h:d.Q e w base ok v xs):d.Q e w.drew base ok v xs:=Zej h (Zfp (Below.refl _ _))
theorem Zdr (h:d.Q e w base ok v xs) (m:Nat):d.Q e (w.drewN m) base ok v xs:=Zej h (Zaz (Below.refl _ _) m)
theorem Q_lt (h:d.Q e w base ok v xs):∀ k,v.ownBlock=some k->k < w.heap.size:=by
 obtain ⟨_,inner,ho,_⟩:=h
 exact q_lt ho
theorem Zr7 (h:d.Q e w base ok v xs):∀ k,v.ownBlock=some k->base<=k:=by
 obtain ⟨_,inner,ho,_⟩:=h
 exact fun k hk=>(Zmi ho k hk).1
theorem Zj0 (h:d.Q e w base ok v xs):∃ A c,v=.slice A xs.length c/\xs.length<=c:=by
 obtain ⟨_,inner,ho,_⟩:=h
 exact Zqk ho
theorem Zds {A:Option Addr} {n c:Nat} (h:d.Q e w base ok (.slice A n c) xs):n=xs.length/\n<=c/\d.C w A xs.length xs:=by
 obtain ⟨_,inner,ho,hr⟩:=h
 obtain ⟨A',c',he,hl⟩:=Zqk ho
 injection he with h1 h2 h3
 subst h1;subst h2;subst h3
 refine ⟨rfl,hl,rfl,Zu5 ho,fun hp=>?_⟩
 obtain ⟨ad,ha,hc⟩:=Ztg ho hp
 refine ⟨ad,ha,fun j p hj=>⟨(inner.drop (j*d.sz)).take d.sz,?_,d.K_of_M (hr.2 j p hj),fun i u hu=>?_⟩⟩
 ·have hjl:=(List.getElem?_eq_some_iff.1 hj).1
  have h1:j*d.sz+d.sz<=inner.length:=by rw [hr.1,<- Nat.succ_mul];exact Nat.mul_le_mul_right _ hjl
  rw [List.length_take,List.length_drop]
  omega
 ·refine hc _ u ?_
  rw [List.getElem?_take] at hu
  split at hu
  ·rw [List.getElem?_drop] at hu
   exact hu
  ·cases hu
theorem Zo7 (h:d.Q e w base ok v xs):∃ A c,v=.slice A xs.length c/\xs.length<=c/\d.C w A xs.length xs:=by
 obtain ⟨A,c,rfl,hl⟩:=Zj0 h
 exact ⟨A,c,rfl,hl,(Zds h).2.2⟩
theorem Zm5 {A:Option Addr} {m n c:Nat} (h:d.Q e w base ok (.slice A n c) xs) (hm:m<=xs.length):d.Q e w base ok (.slice A m c) (xs.take m):=by
 have hn:n=xs.length:=(Zds h).1
 subst hn
 obtain ⟨h0,inner,ho,hr⟩:=h
 have hb:∀ x y:Nat,(Value.slice A x c).ownBlock=(Value.slice A y c).ownBlock:=by
  intro x y
  cases A <;> rfl
 refine ⟨fun k hk=>h0 k (by rw [hb _ m];exact hk),inner.take (m*d.sz),?_,?_⟩
 ·rw [List.length_take,Nat.min_eq_left hm]
  exact Zuo ho hm
 ·rw [hb m xs.length]
  exact Zlo hr hm
theorem Zo6 {A:Option Addr} {k n c:Nat} (h:d.Q e w base ok (.slice A n c) xs) (hk:k<=xs.length):d.Q e w base ok (.slice (if c=k then A else A.map (·.add (k*d.sz))) (n - k) (c - k)) (xs.drop k):=by
 have hn:n=xs.length:=(Zds h).1
 subst hn
 obtain ⟨h0,inner,ho,hr⟩:=h
 have hb:(Value.slice (if c=k then A else A.map (·.add (k*d.sz))) (xs.length - k) (c - k)).ownBlock=(Value.slice A xs.length c).ownBlock:=by
  split
  ·cases A <;> rfl
  ·cases A with
   | none=>rfl
   | some a=>simp [Value.ownBlock];unfold Addr.add;split <;> rfl
 refine ⟨fun j hj=>h0 j (by rw [<- hb];exact hj),inner.drop (k*d.sz),?_,?_⟩
 ·rw [List.length_drop]
  exact Zum ho hk
 ·rw [hb]
  exact Zqn hr
end
section
variable {P:Program} {ops:Array Oper} {rest:List Oper} {o:Oper} {a:Act} {Q':Exit->Act->World->Prop} {Kc:Act->World->Prop} {α:Type}
end
end Kd
namespace Kd
section
variable {α:Type} {d:Kd α} {e e':Nat} {w w1 W:World} {base:Nat} {ok:Nat->Prop} {u v:Value} {xs:List α}
theorem Zht (h:d.R e w base ok v xs):∀ k,v.ownBlock=some k -> ∃ cells,w.heap[k]? = some (.cells cells e (0,0)):=by
 obtain ⟨inner,ho⟩:=Zq3 h
 exact fun k hk=>Zfw ho k hk
theorem Zj1 (h:d.R e W base ok u xs) (hty:∀ k,v.ownBlock=some k -> ∃ cells,W.heap[k]? = some (.cells cells e' (0,0))) (ht:∀ q,q ∈ e :: d.E->q ≠ e') (hg:W.grownBy w1 v.ownBlock):d.R e w1 base ok u xs:=by
 refine Zo (Zkt (Zev h) (fun k hk=>hg.block k hk.2.2.1 (fun he=>?_))) (fun _ hk=>hk.1)
 obtain ⟨_,_,_,q,hq,cells,hc⟩:=hk
 obtain ⟨cells',hc'⟩:=hty k he.symm
 rw [hc] at hc'
 injection hc' with hc'
 injection hc' with _ hc'
 exact ht q hq hc'
theorem Zm7 (h:d.R e W base ok u xs) (hty:∀ k,v.ownBlock=some k -> ∃ cells,W.heap[k]? = some (.cells cells e' (0,0))) (ht:∀ q,q ∈ e :: d.E->q ≠ e'):d.R e W base (fun k=>ok k/\some k ≠ v.ownBlock) u xs:=by
 refine Zo (Zev h) (fun k hk=>⟨hk.1,fun he=>?_⟩)
 obtain ⟨_,_,_,q,hq,cells,hc⟩:=hk
 obtain ⟨cells',hc'⟩:=hty k he.symm
 rw [hc] at hc'
 injection hc' with hc'
 injection hc' with _ hc'
 exact ht q hq hc'
theorem Zy (hu:d.R e W base ok u xs) (hbase:∀ k,v.ownBlock=some k->W.heap.size<=k) (hb:Below W.heap.size W w1):d.R e w1 base (fun k=>ok k/\some k ≠ v.ownBlock) u xs :=
 Zo (Zkt (Zev hu) (fun k hk=>hb.block k hk.2.2.1)) (fun k hk=>⟨hk.1,fun he=>by have := hbase k he.symm;have := hk.2.2.1;omega⟩)
theorem Zf (h:d.R e w1 W.heap.size ok v xs) (hlt:∀ k,u.ownBlock=some k->k < W.heap.size):d.R e w1 W.heap.size (fun k=>ok k/\some k ≠ u.ownBlock) v xs :=
 Zo (Zev h) (fun k hk=>⟨hk.1,fun he=>by have := hlt k he.symm;have := hk.2.1;omega⟩)
theorem Zm4 (hu:d.Q e W base ok u xs) (hbase:∀ k,v.ownBlock=some k->W.heap.size<=k) (hb:Below W.heap.size W w1):d.Q e w1 base (fun k=>ok k/\some k ≠ v.ownBlock) u xs :=
 Zha (Zr8 (Zjz hu) (fun k hk=>hb.block k hk.2.2.1)) (fun k hk=>⟨hk.1,fun he=>by have := hbase k he.symm;have := hk.2.2.1;omega⟩)
theorem Zr9 (h:d.Q e w1 W.heap.size ok v xs) (hlt:∀ k,u.ownBlock=some k->k < W.heap.size):d.Q e w1 W.heap.size (fun k=>ok k/\some k ≠ u.ownBlock) v xs :=
 Zha (Zjz h) (fun k hk=>⟨hk.1,fun he=>by have := hlt k he.symm;have := hk.2.1;omega⟩)
theorem fresh' (hlt:∀ k,u.ownBlock=some k->k < W.heap.size):∀ k,W.heap.size<=k->some k ≠ u.ownBlock:=fun k hk he=>by have := hlt k he.symm;omega
end
end Kd
namespace Kd
section
variable {α:Type} {d:Kd α} {e base g n cap:Nat} {ok okp:Nat->Prop} {W:World} {xs:List α}
end
end Kd
namespace Kd
section
variable {α:Type} {F:Kd α->Kd α} {sz:Nat} {E:List Nat} {hs:∀ n,(upto F sz E n).sz=sz} {hE:∀ n q,q ∈ (upto F sz E n).E->q ∈ E}
end
end Kd
namespace Kd
theorem Zmk {α:Type} {R:α->List Value->Prop} {size:Nat} {ps qs:List α} {cs ds:List Value} (h:Reps R size ps cs) (h':Reps R size qs ds):Reps R size (ps++qs) (cs++ds):=by
 refine ⟨by rw [List.length_append,List.length_append,h.1,h'.1,Nat.add_mul],fun j p hj=>?_⟩
 rcases Nat.lt_or_ge j ps.length with hlt|hge
 ·rw [List.getElem?_append_left hlt] at hj
  have hle:j*size+size<=cs.length:=by rw [h.1,<- Nat.succ_mul];exact Nat.mul_le_mul_right _ hlt
  rw [List.drop_append_of_le_length (by omega),List.take_append_of_le_length (by rw [List.length_drop];omega)]
  exact h.2 j p hj
 ·rw [List.getElem?_append_right hge] at hj
  have h2:=h'.2 (j - ps.length) p hj
  have hle:ps.length*size<=j*size:=Nat.mul_le_mul_right _ hge
  rw [List.drop_append,List.drop_eq_nil_of_le (by rw [h.1];exact hle),List.nil_append,h.1,<- Nat.sub_mul]
  exact h2
section
variable {P:Program} {ops:Array Oper} {rest:List Oper} {o:Oper} {a:Act} {Q:Exit->Act->World->Prop} {α:Type}
theorem Zdx (d:Kd α) {Rr:α->List Value->Prop} {w0 W:World} (base:Nat) (hgd:o.guard=none) (s x:Operand) (t e:TypeId) (z:Value) (bytes:Nat)
  (ho:o.op=.call { callee:=.builtin .append,args:=#[s,x],argTypes:=#[t,t] })
  (ht:P.underlying t=some (.slice e)) (hinfo:(P.info? e).map (fun i=>(i.zero,i.size,i.bytes))=some (some z,d.sz,bytes)) (hz:z.cells.size=d.sz) (hs0:0 < d.sz) (hb0:0 < bytes)
  (v:Value) (xs ys:List α) (A:Option Addr) (m c:Nat) (ok okp:Nat->Prop) (hs:a.eval s=v) (hx:a.eval x=.slice A m c)
  (HO:d.R e W base ok v xs) (HR:ReadsRow Rr d.sz W A m ys) (hKM:∀ x cs,Rr x cs->d.M W base okp x cs) (hokp:∀ k,okp k->ok k/\some k ≠ v.ownBlock) (hfresh:∀ k,W.heap.size<=k->ok k)
  (HB:Below base w0 W) (hbase:base<=W.heap.size) (hl:(xs.length+m)*bytes<=140737488355328)
  (h:∀ v1 w1,d.R e w1 base ok v1 (xs++ys)->Below base w0 w1->W.grownBy w1 v.ownBlock->(v1.ownBlock=v.ownBlock \/ ∃ b,v1.ownBlock=some b/\W.heap.size<=b)->wpList P ops Q rest (a.put o.dst v1) w1) :
  wpList P ops Q (o :: rest) a W:=by
 obtain ⟨i0,hi,hzz⟩:=Option.map_eq_some_iff.1 hinfo
 simp only [Prod.mk.injEq] at hzz
 obtain ⟨hz0,hz1,hz2⟩:=hzz
 have hm:ys.length=m:=HR.1
 have hlen:xs.length+m<=140737488355328:=Nat.le_trans (Nat.le_mul_of_pos_right _ hb0) hl
 obtain ⟨hok,inner,hown,hr⟩:=HO
 have hrun:∃ v1 w1,(Builtin.append_ #[t,t] o.type #[v,.slice A m c]).run P W=.ok v1 w1/\d.R e w1 base ok v1 (xs++ys)/\W.grownBy w1 v.ownBlock/\(v1.ownBlock=v.ownBlock \/ ∃ b,v1.ownBlock=some b/\W.heap.size<=b):=by
  rcases A with _|ad
  ·have h0:m=0:=by
    rcases Nat.eq_zero_or_pos m with h0|h0
    ·exact h0
    ·obtain ⟨ad,h,_⟩:=HR.2.2 h0
     cases h
   subst h0
   obtain rfl:ys=[]:=List.eq_nil_of_length_eq_zero hm
   refine ⟨v,W,?_,by rw [List.append_nil];exact ⟨hok,inner,hown,hr⟩,World.grownBy.refl W _,.inl rfl⟩
   rcases hown.2 with ⟨rfl,hn⟩|⟨g,cap,cur,rfl,_,_,hnc,_⟩
   ·simp [Builtin.append_,run_underlying ht,sizeOf,typeInfo,hi,Builtin.lenOf,Builtin.firstCells]
   ·simp [Builtin.append_,run_underlying ht,sizeOf,typeInfo,hi,Builtin.lenOf,Builtin.firstCells,hnc,storeCells]
  ·obtain ⟨news,hnr,hnc⟩:=ReadsRow.inner_ HR
   have hnM:Reps (d.M W base okp) d.sz ys news:=hnr.imp_ (fun p c hp=>hKM p c hp)
   have hone:∀ u ∈ news,u.oneCell'=true:=by
    intro u hu
    obtain ⟨q,hq,rfl⟩:=List.mem_iff_getElem.1 hu
    have hql:q / d.sz < ys.length:=by
     rw [Nat.div_lt_iff_lt_mul hs0]
     rw [<- hnM.1]
     exact hq
    have hc:=hnM.2 (q / d.sz) _ (List.getElem?_eq_getElem hql)
    refine d.K_one (d.K_of_M hc) _ ?_
    rw [List.mem_iff_getElem?]
    refine ⟨q % d.sz,?_⟩
    rw [List.getElem?_take,if_pos (Nat.mod_lt _ hs0),List.getElem?_drop,Nat.mul_comm,Nat.div_add_mod,List.getElem?_eq_getElem hq]
   obtain ⟨v1,w1,hrun,h2,hg,_,hat⟩:=run_append_own_at (P:=P) W base t o.type e i0 z d.sz bytes ht hi hz0 hz1 hz2 hz hs0 v xs.length inner hown ad m c news (by rw [hnM.1,hm]) hnc hone (by simp only [maxLen];omega) hl hbase
   have hat':v1.ownBlock=v.ownBlock \/ ∃ b,v1.ownBlock=some b/\W.heap.size<=b:=by
    rcases hat with hat|hat
    ·exact .inl hat
    ·exact .inr ⟨_,hat,Nat.le_refl _⟩
   have hne:∀ k,some k ≠ v.ownBlock->k < W.heap.size->some k ≠ v1.ownBlock:=by
    intro k hk hlt
    rcases hat' with hat|⟨b,hb,hle⟩
    ·rw [hat];exact hk
    ·rw [hb]
     intro he
     injection he with he
     omega
   have step:∀ {q:α} {c:List Value} {o:Nat->Prop},d.M W base o q c->(∀ k,o k->ok k/\some k ≠ v.ownBlock)->d.M w1 base (fun k=>ok k/\some k ≠ v1.ownBlock) q c:=by
    intro q c o hq ho
    have h1:=d.M_move (w1:=w1) (fun k hk=>hg.block k hk.2.2.1 (ho k hk.1).2) (d.M_bound hq)
    exact d.M_mono (fun k hk=>⟨(ho k hk.1).1,hne k (ho k hk.1).2 hk.2.2.1⟩) h1
   refine ⟨v1,w1,hrun,⟨fun k hk=>?_,inner++news,by rw [List.length_append,hm];exact h2,Zmk (hr.imp_ (fun _ _ hq=>step hq (fun _ hk=>hk))) (hnM.imp_ (fun _ _ hq=>step hq hokp))⟩,hg,hat'⟩
   rcases hat' with hat|⟨b,hb,hle⟩
   ·exact hok k (hat ▸ hk)
   ·rw [hb] at hk
    injection hk with hk
    exact hfresh k (by omega)
 obtain ⟨v1,w1,hr1,h1,hg,hat⟩:=hrun
 refine wpList_plain hgd fun K hK=>?_
 unfold Oper.wp execOp
 simp only [ho,resolve,invoke,builtin,Sem.run_bind,Sem.run_pure,Result.andThen_ok,List.map_toArray,List.map_cons,List.map_nil,hs,hx,hr1]
 exact hK _ _ (h v1 w1 h1 (HB.grown hg hbase (Zii hown)) hg hat)
end
end Kd
namespace Kd
section
variable {P:Program} {ops:Array Oper} {rest:List Oper} {o:Oper} {a:Act} {Q:Exit->Act->World->Prop} {α:Type}
end
end Kd
theorem add_add (a:Addr) (i j:Nat):(a.add i).add j=a.add (i+j):=by
 unfold Addr.add
 by_cases h1:i=0 <;> by_cases h2:j=0 <;> simp [h1,h2,Nat.add_assoc]
namespace Kd
section
variable {α:Type} {k:Kd α} {w:World} {A:Option Addr} {xs:List α} {m c:Nat}
theorem Ztp (h:k.C w A xs.length xs) (hm:m<=xs.length):k.C w A (xs.take m).length (xs.take m):=by
 have hl:(xs.take m).length=m:=by rw [List.length_take];omega
 refine ⟨rfl,by rw [hl];have := h.2.1;omega,fun hp=>?_⟩
 obtain ⟨ad,e,hc⟩:=h.2.2 (by omega)
 refine ⟨ad,e,fun j p hj=>hc j p ?_⟩
 rw [List.getElem?_take] at hj
 split at hj
 ·exact hj
 ·cases hj
theorem Ztn (h:k.C w A xs.length xs) (hm:m<=xs.length) (hc:xs.length<=c):k.C w (if c=m then A else A.map (·.add (m*k.sz))) (xs.drop m).length (xs.drop m):=by
 have hl:(xs.drop m).length=xs.length - m:=List.length_drop
 refine ⟨rfl,by rw [hl];have := h.2.1;omega,fun hp=>?_⟩
 rw [hl] at hp
 obtain ⟨ad,rfl,hcell⟩:=h.2.2 (by omega)
 rw [if_neg (by omega)]
 refine ⟨ad.add (m*k.sz),rfl,fun j p hj=>?_⟩
 rw [List.getElem?_drop] at hj
 obtain ⟨cs,h1,h2,h3⟩:=hcell (m+j) p hj
 refine ⟨cs,h1,h2,fun i u hu=>?_⟩
 rw [add_add,show m*k.sz+(j*k.sz+i)=(m+j)*k.sz+i by rw [Nat.add_mul];omega]
 exact h3 i u hu
end
end Kd
section
variable {P:Program}
end
theorem Zb {w W:World} (h:Below w.heap.size w W):w.heap.size<=W.heap.size:=h.size
theorem Zjo {w W w2:World} (h:Below w.heap.size w W) (k:Below W.heap.size W w2):Below w.heap.size w w2:=Zoc h h.size k
theorem Zcw {W:World} {base n:Nat} {e:TypeId} {size:Nat} {v:Value} {xs:List Value} (h:W.ownsRow base e size v n xs) (o:Obj):(W.alloc o).ownsRow base e size v n xs:=h.alloc o
theorem Zdn {w W:World} {g j:Nat} {v:Value} (h:Below w.heap.size w W) (hg:w.heap.size<=g):Below w.heap.size w (W.setCell ⟨g,j,none⟩ v):=h.setCell hg _
theorem Zbb (a:Addr) (i:Nat):(a.add i).block=a.block:=by unfold Addr.add;split <;> rfl
theorem cell_far {W:World} {p a:Addr} (h:a.block ≠ p.block) (u:Value):(W.setCell p u).cell? a=W.cell? a:=by
 have := Below.heap_setCell W p u a.block h
 simp [World.cell?,this]
theorem Zd7 {w:World} {g:Nat} {t:TypeId} {cs cs':Array Value} (h:w.heap[g]? = some (.cells cs t (0,0))) (i:Nat) (u:Value) (e:cs.setIfInBounds i u=cs'):(w.setCell ⟨g,i,none⟩ u).heap[g]? = some (.cells cs' t (0,0)):=e ▸ Zsu h i u
theorem Zd3 {W:World} {base n c:Nat} {e:TypeId} {size g:Nat} {ad:Addr} {xs:List Value} (_:W.ownsRow base e size (.slice (some ad) n c) n xs) (hne:some g ≠ (Value.slice (some ad) n c).ownBlock):ad.block ≠ g:=by
 rintro rfl
 exact hne (by simp [Value.ownBlock])
theorem Zbh {base:Nat} {w W:World} (h:Below base w W):Below base w W.drew:=h.drew
namespace Kd
section
variable {α β:Type} {d:Kd α} {d':Kd β} {e e' base base' n:Nat} {ok ok':Nat->Prop} {w W w1 W1:World} {v u:Value} {xs:List α} {ys:List β} {A:Option Addr} {c:Nat}
theorem Zd3 {ad:Addr} {g:Nat} (hne:some g ≠ (Value.slice (some ad) n c).ownBlock):ad.block ≠ g:=by
 rintro rfl
 exact hne (by simp [Value.ownBlock])
end
section
variable {α:Type} {enc:α->Value} {h1:∀ x,(enc x).oneCell'=true} {w W:World} {A:Option Addr} {n g:Nat} {xs:List α}
end
end Kd
namespace Kd
section
variable {α:Type} {d:Kd α} {e base g:Nat} {ok:Nat->Prop} {w w1:World} {v:Value} {xs:List α} {o:Obj}
theorem freshB (hb:w.heap[g]? = some o):∀ k,w.heap.size<=k->k ≠ g:=fun k hk=>by have := Zgz hb;omega
end
end Kd
section
variable {P:Program} {ops:Array Oper} {rest:List Oper} {o:Oper} {a:Act} {Q:Exit->Act->World->Prop}
theorem Zpj {W:World} (hgd:o.guard=none) {N:Tmp} (_hd:o.dst=some N) {cs:Array Value} {t:TypeId}
  (hrun:(execOp a.eval o).run P W=.ok (.value (.pointer (some ⟨W.heap.size,0,none⟩))) (W.alloc (.cells cs t (0,0))))
  (h:∀ g,g=W.heap.size -> ∀ w1,w1.heap[g]? = some (.cells cs t (0,0))->Below W.heap.size W w1->wpList P ops Q rest (a.put o.dst (.pointer (some ⟨g,0,none⟩))) w1):wpList P ops Q (o :: rest) a W :=
 Kd.Zhc hgd hrun (h _ rfl _ (Zpi W _) (Zck (Below.refl _ _) _))
end
namespace Kd
section
variable {α:Type} {enc:α->Value} {h1:∀ x,(enc x).oneCell'=true} {e base g n cap:Nat} {ok:Nat->Prop} {W:World} {xs:List α}
theorem Zfk (d:α) (h:(scalar enc h1).R e W base ok (.slice (some ⟨g,0,none⟩) n cap) xs) (i:Int) (h0:0<=i) (hi:i < n):W.cell? ⟨g,i.toNat,none⟩=some (enc (rdOf d xs i))/\W.frozen? ⟨g,i.toNat,none⟩=false:=by
 obtain ⟨rfl,_⟩:=Zc h
 exact Zt0 d h i h0 hi
theorem Zpb (h:(scalar enc h1).R e W base ok (.slice (some ⟨g,0,none⟩) n cap) xs) (i:Int) (x:α):(scalar enc h1).R e (W.setCell ⟨g,i.toNat,none⟩ (enc x)) base ok (.slice (some ⟨g,0,none⟩) n cap) (xs.set i.toNat x):=by
 obtain ⟨rfl,_⟩:=Zc h
 exact (Zt2 h i x).1
end
end Kd
section
variable {P:Program} {ops:Array Oper} {rest:List Oper} {o:Oper} {a:Act} {Q:Exit->Act->World->Prop}
theorem Zd8 {W w1:World} (hgd:o.guard=none) {t:TypeId} {p:Tmp} {v:Operand} (_ho:o.op=.store t (.tmp p) v) (hN:o.dst=none)
  (hrun:(execOp a.eval o).run P W=.ok .skip w1) (h:∀ w',w'=w1->wpList P ops Q rest a w'):wpList P ops Q (o :: rest) a W:=by
 refine wpList_plain hgd fun K hK=>?_
 unfold Oper.wp
 rw [hrun]
 show K (a.put o.dst undef) w1
 rw [hN]
 exact hK _ _ (h _ rfl)
end
namespace Kd
section
variable {α:Type} {enc:α->Value} {h1:∀ x,(enc x).oneCell'=true} {e base g n cap:Nat} {ok:Nat->Prop} {W:World} {xs:List α}
theorem Zjm (h:(scalar enc h1).R e W base ok (.slice (some ⟨g,0,none⟩) n cap) xs) (i:Int) (x:α):(scalar enc h1).R e (W.setCell ⟨g,i.toNat,none⟩ (enc x)) base ok (.slice (some ⟨g,0,none⟩) n cap) (xs.set i.toNat x)/\W.grownBy (W.setCell ⟨g,i.toNat,none⟩ (enc x)) (some g):=by
 obtain ⟨rfl,_⟩:=Zc h
 exact Zt2 h i x
end
end Kd
section
variable {P:Program} {ops:Array Oper} {rest:List Oper} {o:Oper} {a:Act} {Q:Exit->Act->World->Prop} {W:World}
theorem Zel {t:TypeId} {p:Tmp} {v:Operand} (_ho:o.op=.store t (.tmp p) v) (h:wpList P ops Q (o :: rest) a W):wpList P ops Q (o :: rest) a W:=h
end
section
variable {P:Program} {ops:Array Oper} {o:Oper} {a:Act} {Q:Exit->Act->World->Prop} {Kc:Act->World->Prop}
theorem Zjp {W w1:World} {v:Value} (hw:Region.wanted o (yielded ops a.tmps)=true) (hrun:(execOp a.eval o).run P W=.ok (.value v) w1) (h:Kc (a.put o.dst v) w1):if Region.wanted o (yielded ops a.tmps)=true then Oper.wp P o a W Kc Q else Kc (a.put o.dst undef) W:=by
 rw [if_pos hw]
 unfold Oper.wp
 rw [hrun]
 exact h
theorem Zq8 {W:World} (hw:Region.wanted o (yielded ops a.tmps)=true) {N:Tmp} (_hd:o.dst=some N) {cs:Array Value} {t:TypeId}
  (hrun:(execOp a.eval o).run P W=.ok (.value (.pointer (some ⟨W.heap.size,0,none⟩))) (W.alloc (.cells cs t (0,0))))
  (h:∀ g,g=W.heap.size -> ∀ w1,w1.heap[g]? = some (.cells cs t (0,0))->Below W.heap.size W w1->Kc (a.put o.dst (.pointer (some ⟨g,0,none⟩))) w1):if Region.wanted o (yielded ops a.tmps)=true then Oper.wp P o a W Kc Q else Kc (a.put o.dst undef) W :=
 Zjp hw hrun (h _ rfl _ (Zpi W _) (Zck (Below.refl _ _) _))
namespace Kd
variable {α:Type}
theorem Zjl (d:Kd α) {w0 W:World} (base e:Nat) (hw:Region.wanted o (yielded ops a.tmps)=true) {N:Tmp} (_hd:o.dst=some N) {xs:List α} {inner:List Value} {ok okp:Nat->Prop}
  (hrun:(execOp a.eval o).run P W=.ok (.value (.slice (some ⟨W.heap.size,0,none⟩) xs.length xs.length)) (W.alloc (.cells inner.toArray e)))
  (hrep:Reps (d.M W base okp) d.sz xs inner) (hok:∀ k,okp k->ok k) (hfresh:ok W.heap.size) (HB:Below base w0 W) (hbase:base<=W.heap.size) (hm:xs.length<=9223372036854775807)
  (h:∀ v1 w1,d.R e w1 base ok v1 xs->Below base w0 w1->W.grownBy w1 none->(∃ b,v1.ownBlock=some b/\W.heap.size<=b)->Kc (a.put o.dst v1) w1):if Region.wanted o (yielded ops a.tmps)=true then Oper.wp P o a W Kc Q else Kc (a.put o.dst undef) W:=by
 refine Zjp hw hrun (h _ _ ⟨fun k hk=>?_,inner,?_,?_⟩ (HB.alloc hbase _) (World.grownBy_alloc W _ none) ⟨W.heap.size,by simp [Value.ownBlock],Nat.le_refl _⟩)
 ·have:W.heap.size=k:=by simpa [Value.ownBlock] using hk
  subst this
  exact hfresh
 ·have h2:=World.ownsRow_lit (base:=base) (e:=e) (size:=d.sz) W inner.toArray xs.length hbase (by simpa [maxLen] using hm) (by simpa using hrep.1)
  simpa using h2
 ·refine hrep.imp_ (fun p c hp=>d.M_mono (fun k hk=>⟨hok k hk.1,fun he=>?_⟩) (Zow (d.M_bound hp) (Zck (Below.refl _ _) _)))
  have h3:k=W.heap.size:=by simpa [Value.ownBlock] using he
  have := hk.2.2.1
  omega
end Kd
end
section
variable {P:Program} {tmps:Array Value} {w:World}
end
namespace Kd
section
variable {P:Program} {α:Type}
end
section
variable {P:Program} {ops:Array Oper} {rest:List Oper} {o:Oper} {a:Act} {Q:Exit->Act->World->Prop} {Kc:Act->World->Prop} {α:Type}
end
end Kd
end YtjbjkmccfocikaaGreatDoorW.PrintWords
end
section
namespace YtjbjkmccfocikaaGreatDoorW.PrintLast
section
variable {P:Program} {ops:Array Oper} {Q:Exit->Act->World->Prop} {md:Region.Mode} {S:World->Prop} {ds:List Nat}
def Region.reachB (md:Region.Mode) (ops:Array Oper) (i:Nat):Nat->Nat->Bool
 | 0,_=>false
 | fuel+1,d=>match ops[d]? with
  | some o=>o.after.any fun e=>Region.binds md e && (e.on == i || Region.reachB md ops i fuel e.on)
  | none=>false
def Region.closedB (md:Region.Mode) (ops:Array Oper) (listed:Array Bool):Bool :=
 (List.range ops.size).all fun j => !listed.getD j false || match ops[j]? with
  | some o=>o.after.all fun e => !Region.binds md e || listed.getD e.on false
  | none=>true
def Region.lastB (md:Region.Mode) (ops:Array Oper) (listed:Array Bool) (ds:List Nat) (i:Nat):Bool :=
 ds.all fun d=>listed.getD d true || Region.reachB md ops i ops.size d
def ListedClosed (md:Region.Mode) (ops:Array Oper) (listed:Array Bool):Prop :=
 ∀ j oj,ops[j]? = some oj->listed.getD j false=true -> ∀ e ∈ oj.after,Region.binds md e=true->listed.getD e.on false=true
theorem Region.Zk2 {listed:Array Bool} (h:Region.closedB md ops listed=true):ListedClosed md ops listed:=by
 intro j oj hj hl e he hb
 have hlt:j < ops.size:=(Array.getElem?_eq_some_iff.1 hj).1
 have h1:=List.all_eq_true.1 h j (List.mem_range.2 hlt)
 simp only [hl,hj,Bool.not_true,Bool.false_or] at h1
 have h2:=Array.all_eq_true_iff_forall_mem.1 h1 e he
 simpa [hb] using h2
theorem ListedClosed.set {listed:Array Bool} {i:Nat} (h:ListedClosed md ops listed) (hi:i ∈ Region.ready md ops listed):ListedClosed md ops (listed.setIfInBounds i true):=by
 obtain ⟨_,oi,hoi,hall⟩:=mem_ready.1 hi
 intro j oj hj hl e he hb
 by_cases hij:i=j
 ·subst hij
  have:oj=oi:=Option.some.inj (hj.symm.trans hoi)
  subst this
  exact getD_set_true (hall e he hb)
 ·rw [getD_set_ne false hij] at hl
  exact getD_set_true (h j oj hj hl e he hb)
theorem Region.Zib {listed:Array Bool} {i:Nat} (hc:ListedClosed md ops listed):∀ (fuel d:Nat),Region.reachB md ops i fuel d=true->listed.getD d false=true->listed.getD i false=true
 | 0,_,h,_=>by simp [Region.reachB] at h
 | fuel+1,d,h,hl=>by
  unfold Region.reachB at h
  cases ho:ops[d]? with
  | none=>rw [ho] at h;simp at h
  | some o =>
   rw [ho] at h
   obtain ⟨e,he,h1⟩:=Array.any_eq_true'.1 h
   simp only [Bool.and_eq_true,Bool.or_eq_true,beq_iff_eq] at h1
   have hle:=hc d o ho hl e he h1.1
   rcases h1.2 with h2|h2
   ·rw [<- h2];exact hle
   ·exact Region.Zib hc fuel e.on h2 hle
theorem Region.Zi7 {listed:Array Bool} {i d fuel:Nat} (hc:ListedClosed md ops listed) (hr:Region.reachB md ops i fuel d=true) (hun:listed.getD i true=false):d ∉ Region.ready md ops listed:=by
 intro hd
 obtain ⟨_,o,ho,hall⟩:=mem_ready.1 hd
 have hi:listed.getD i false=true:=by
  cases fuel with
  | zero=>simp [Region.reachB] at hr
  | succ n =>
   unfold Region.reachB at hr
   rw [ho] at hr
   obtain ⟨e,he,h1⟩:=Array.any_eq_true'.1 hr
   simp only [Bool.and_eq_true,Bool.or_eq_true,beq_iff_eq] at h1
   have hle:=hall e he h1.1
   rcases h1.2 with h2|h2
   ·rw [<- h2];exact hle
   ·exact Region.Zib hc n e.on h2 hle
 rcases Nat.lt_or_ge i listed.size with h'|h'
 ·simp [h'] at hun hi
  rw [hun] at hi
  cases hi
 ·simp [Array.getElem?_eq_none h'] at hun
def wpAnyLast (P:Program) (md:Region.Mode) (ops:Array Oper) (Q:Exit->Act->World->Prop) (S:World->Prop) (ds:List Nat):Nat->Array Bool->Act->World->Prop
 | 0,listed,a,w=>Region.ready md ops listed=[]/\Q .normal a w
 | fuel+1,listed,a,w =>
  (Region.ready md ops listed=[]->Q .normal a w) /\
  ∀ i ∈ Region.ready md ops listed,wpOp P ops Q i (fun a' w'=>(i ∉ ds->S w->S w')/\wpAnyLast P md ops Q S ds fuel (listed.setIfInBounds i true) a' w') a w
theorem Zhq:∀ (fuel:Nat) (listed:Array Bool) (a:Act) (w:World),wpAnyLast P md ops Q S ds fuel listed a w->wpAny P md ops Q fuel listed a w
 | 0,_,_,_,h=>h
 | fuel+1,_,_,_,h=>⟨h.1,fun i hi=>wpOp_mono (fun a' w' h'=>Zhq fuel _ a' w' h'.2) (h.2 i hi)⟩
theorem Zje {i:Nat} {oi:Oper} {v:Value} (hi:ops[i]? = some oi) (hsel:∀ (j:Nat) (o:Oper) cs b,ops[j]? = some o->o.op ≠ .select cs b)
  (hQ:∀ c a w,Q (.panic c) (a.put oi.dst v) w->Q (.panic c) a w) (n:Nat) :
  ∀ (fuel:Nat) (listed:Array Bool) (a:Act) (w:World),
   (∀ j oj,ops[j]? = some oj->j ≠ i->listed.getD j true=false->(∀ e ∈ oj.after,Region.binds md e=true->e.on ≠ i)->oi.apart ops oj=true) ->
   ListedClosed md ops listed->(∀ d ∈ ds,listed.getD d true=false->Region.reachB md ops i n d=true) ->
   i ∈ Region.ready md ops listed->YieldsIf P ops S oi v a->S w ->
   wpAnyLast P md ops Q S ds fuel (listed.setIfInBounds i true) (a.put oi.dst v) w->wpAnyLast P md ops Q S ds (fuel+1) listed a w:=by
 intro fuel
 induction fuel with
 | zero =>
  intro listed a w _ _ _ hr hy hS H
  refine ⟨fun h=>(by rw [h] at hr;cases hr),fun j hj=>?_⟩
  by_cases hji:j=i
  ·subst hji;exact hy.wpOp hi hS ⟨fun _ h=>h,H⟩
  ·have := ready_mono hj hji
   rw [H.1] at this
   cases this
 | succ fuel ih =>
  intro listed a w hfree hc hd hr hy hS H
  refine ⟨fun h=>(by rw [h] at hr;cases hr),fun j hj=>?_⟩
  by_cases hji:j=i
  ·subst hji;exact hy.wpOp hi hS ⟨fun _ h=>h,H⟩
  ·have h1:=H.2 j (ready_mono hj hji)
   obtain ⟨hjun,oj,hoj,hall⟩:=mem_ready.1 hj
   have hiun:=(mem_ready.1 hr).1
   have hnot:∀ e ∈ oj.after,Region.binds md e=true->e.on ≠ i:=fun e he hb heq=>by
    have h1:=hall e he hb
    rw [heq] at h1
    rcases Nat.lt_or_ge i listed.size with h'|h'
    ·simp [h'] at hiun h1;rw [hiun] at h1;cases h1
    ·simp [Array.getElem?_eq_none h'] at h1
   have hjd:j ∉ ds:=fun hm=>Region.Zi7 hc (hd j hm hjun) hiun hj
   have h2:=wpOp_putIf hoj (hfree j oj hoj hji hjun hnot) (fun cs b=>hsel i oi cs b hi) (fun cs b=>hsel j oj cs b hoj) hQ hy h1
   have hfree':∀ k ok,ops[k]? = some ok->k ≠ i->(listed.setIfInBounds j true).getD k true=false ->
     (∀ e ∈ ok.after,Region.binds md e=true->e.on ≠ i)->oi.apart ops ok=true:=fun k ok hk hki hun hno=>by
    refine hfree k ok hk hki ?_ hno
    by_cases hjk:j=k
    ·subst hjk;exact hjun
    ·rw [getD_set_ne true hjk] at hun;exact hun
   have hd':∀ d ∈ ds,(listed.setIfInBounds j true).getD d true=false->Region.reachB md ops i n d=true:=fun d hm hun=>by
    refine hd d hm ?_
    by_cases hjk:j=d
    ·subst hjk;exact hjun
    ·rw [getD_set_ne true hjk] at hun;exact hun
   refine wpOp_mono (fun a' w' h3=>⟨h3.2.1,ih (listed.setIfInBounds j true) a' w' hfree' (hc.set hj) hd' (ready_mono hr (Ne.symm hji)) h3.1 (h3.2.1 hjd hS) ?_⟩) h2
   rw [Array.setIfInBounds_comm _ _ hji]
   exact h3.2.2
theorem Zkm {i:Nat} {oi:Oper} {v:Value} (hi:ops[i]? = some oi) (hsel:∀ (j:Nat) (o:Oper) cs b,ops[j]? = some o->o.op ≠ .select cs b)
  (hQ:∀ c a w,Q (.panic c) (a.put oi.dst v) w->Q (.panic c) a w) :
  ∀ (fuel:Nat) (listed:Array Bool) (a:Act) (w:World),
   (∀ j oj,ops[j]? = some oj->j ≠ i->listed.getD j true=false->(∀ e ∈ oj.after,Region.binds md e=true->e.on ≠ i)->oi.apart ops oj=true) ->
   i ∈ Region.ready md ops listed->Yields P ops oi v a ->
   wpAnyLast P md ops Q S ds fuel (listed.setIfInBounds i true) (a.put oi.dst v) w->wpAnyLast P md ops Q S ds (fuel+1) listed a w:=by
 intro fuel
 induction fuel with
 | zero =>
  intro listed a w _ hr hy H
  refine ⟨fun h=>(by rw [h] at hr;cases hr),fun j hj=>?_⟩
  by_cases hji:j=i
  ·subst hji;exact (hy.yieldsIf (S:=fun _=>True)).wpOp hi trivial ⟨fun _ h=>h,H⟩
  ·have := ready_mono hj hji
   rw [H.1] at this
   cases this
 | succ fuel ih =>
  intro listed a w hfree hr hy H
  refine ⟨fun h=>(by rw [h] at hr;cases hr),fun j hj=>?_⟩
  by_cases hji:j=i
  ·subst hji;exact (hy.yieldsIf (S:=fun _=>True)).wpOp hi trivial ⟨fun _ h=>h,H⟩
  ·have h1:=H.2 j (ready_mono hj hji)
   obtain ⟨hjun,oj,hoj,hall⟩:=mem_ready.1 hj
   have hiun:=(mem_ready.1 hr).1
   have hnot:∀ e ∈ oj.after,Region.binds md e=true->e.on ≠ i:=fun e he hb heq=>by
    have h1:=hall e he hb
    rw [heq] at h1
    rcases Nat.lt_or_ge i listed.size with h'|h'
    ·simp [h'] at hiun h1;rw [hiun] at h1;cases h1
    ·simp [Array.getElem?_eq_none h'] at h1
   have h2:=wpOp_put hoj (hfree j oj hoj hji hjun hnot) (fun cs b=>hsel i oi cs b hi) (fun cs b=>hsel j oj cs b hoj) hQ hy h1
   have hfree':∀ k ok,ops[k]? = some ok->k ≠ i->(listed.setIfInBounds j true).getD k true=false ->
     (∀ e ∈ ok.after,Region.binds md e=true->e.on ≠ i)->oi.apart ops ok=true:=fun k ok hk hki hun hno=>by
    refine hfree k ok hk hki ?_ hno
    by_cases hjk:j=k
    ·subst hjk;exact hjun
    ·rw [getD_set_ne true hjk] at hun;exact hun
   refine wpOp_mono (fun a' w' h3=>⟨h3.2.1,ih (listed.setIfInBounds j true) a' w' hfree' (ready_mono hr (Ne.symm hji)) h3.1 ?_⟩) h2
   rw [Array.setIfInBounds_comm _ _ hji]
   exact h3.2.2
theorem Zji {i:Nat} {oi:Oper} {v:Value} {fuel:Nat} {listed:Array Bool} {a:Act} {w:World} (hi:ops[i]? = some oi)
  (hs:Region.noSelect ops=true) (hf:Region.free md ops listed i=true) (hr:(Region.ready md ops listed).contains i=true)
  (hc:Region.closedB md ops listed=true) (hl:Region.lastB md ops listed ds i=true)
  (hQ:∀ c a w,Q (.panic c) (a.put oi.dst v) w->Q (.panic c) a w) (hy:YieldsIf P ops S oi v a) (hS:S w)
  (h:wpAnyLast P md ops Q S ds fuel (listed.setIfInBounds i true) (a.put oi.dst v) w):wpAnyLast P md ops Q S ds (fuel+1) listed a w :=
 Zje hi (Region.noSelect_spec hs) hQ ops.size fuel listed a w (Region.free_spec hi hf) (Region.Zk2 hc)
  (fun d hm hun=>by have := List.all_eq_true.1 hl d hm;rw [hun] at this;simpa using this) (by simpa using hr) hy hS h
theorem Zhp {rs:List Nat} {fuel:Nat} {listed:Array Bool} {a:Act} {w:World} (hr:Region.ready md ops listed=rs) (hne:rs ≠ [])
  (h:∀ i ∈ rs,wpOp P ops Q i (fun a' w'=>(i ∉ ds->S w->S w')/\wpAnyLast P md ops Q S ds fuel (listed.setIfInBounds i true) a' w') a w):wpAnyLast P md ops Q S ds (fuel+1) listed a w :=
 ⟨fun h0=>absurd (hr ▸ h0) hne,hr ▸ h⟩
theorem Zjh {listed:Array Bool} {a:Act} {w:World} (hr:Region.ready md ops listed=[]) (h:Q .normal a w) :
  ∀ fuel,wpAnyLast P md ops Q S ds fuel listed a w
 | 0=>⟨hr,h⟩
 | _+1=>⟨fun _=>h,by rw [hr];simp⟩
theorem Zjj {id:Nat} {a:Act} {w:World} (hm:P.follows .mixedOrders=true)
  (h:wpAnyLast P .any ops Q S ds ops.size (Array.replicate ops.size false) a { w with drawn:=w.drawn+1 }):(Code.region id ops true).wp P Q a w :=
 wp_region_any hm (Zhq _ _ _ _ h)
end
section
variable {P:Program} {ops:Array Oper} {Q:Exit->Act->World->Prop} {md:Region.Mode} {S:World->Prop} {ds:List Nat}
def AllReadyL (P:Program) (md:Region.Mode) (ops:Array Oper) (Q:Exit->Act->World->Prop) (S:World->Prop) (ds:List Nat) (fuel:Nat) (listed:Array Bool) (a:Act) (w:World) (rs:List Nat):Prop :=
 ∀ i ∈ rs,wpOp P ops Q i (fun a' w'=>(i ∉ ds->S w->S w')/\wpAnyLast P md ops Q S ds fuel (listed.setIfInBounds i true) a' w') a w
theorem AllReadyL.nil {fuel:Nat} {listed:Array Bool} {a:Act} {w:World}:AllReadyL P md ops Q S ds fuel listed a w []:=fun _ h=>by cases h
theorem AllReadyL.cons {fuel:Nat} {listed:Array Bool} {a:Act} {w:World} {i:Nat} {o:Oper} {rs:List Nat} (ho:ops[i]? = some o) (hd:i ∉ ds)
  (h:∀ K':Act->World->Prop,Shut (∀ a w,S w->(S w->wpAnyLast P md ops Q S ds fuel (listed.setIfInBounds i true) a w)->K' a w)->if Region.wanted o (yielded ops a.tmps)=true then Oper.wp P o a w K' Q else K' (a.put o.dst undef) w)
  (hs:AllReadyL P md ops Q S ds fuel listed a w rs):AllReadyL P md ops Q S ds fuel listed a w (i :: rs):=fun j hj=>by
 rcases List.mem_cons.1 hj with rfl|hj
 ·exact wpOp_step ho (fun K' hK=>h K' (fun a w hS hW=>hK a w ⟨fun _ _=>hS,hW hS⟩))
 ·exact hs j hj
theorem AllReadyL.Zpo {fuel:Nat} {listed:Array Bool} {a:Act} {w:World} {i:Nat} {o:Oper} {rs:List Nat} (ho:ops[i]? = some o) (hd:i ∈ ds)
  (h:∀ K':Act->World->Prop,Shut (∀ a w,wpAnyLast P md ops Q S ds fuel (listed.setIfInBounds i true) a w->K' a w)->if Region.wanted o (yielded ops a.tmps)=true then Oper.wp P o a w K' Q else K' (a.put o.dst undef) w)
  (hs:AllReadyL P md ops Q S ds fuel listed a w rs):AllReadyL P md ops Q S ds fuel listed a w (i :: rs):=fun j hj=>by
 rcases List.mem_cons.1 hj with rfl|hj
 ·exact wpOp_step ho (fun K' hK=>h K' (fun a w hW=>hK a w ⟨fun hn=>absurd hd hn,hW⟩))
 ·exact hs j hj
theorem Zgq {rs:List Nat} {fuel:Nat} {listed:Array Bool} {a:Act} {w:World} (hr:Region.ready md ops listed=rs) (hne:rs ≠ [])
  (h:AllReadyL P md ops Q S ds fuel listed a w rs):wpAnyLast P md ops Q S ds (fuel+1) listed a w:=Zhp hr hne h
theorem start_ {id n:Nat} {a:Act} {w:World} (l:Array Bool) (hm:P.follows .mixedOrders=true) (hn:ops.size=n) (hl:Array.replicate n false=l) (hS:S w.drew)
  (h:S w.drew->wpAnyLast P .any ops Q S ds n l a w.drew):(Code.region id ops true).wp P Q a w:=by
 subst hn
 subst hl
 exact Zjj hm (h hS)
def takeB (md:Region.Mode) (ops:Array Oper) (ds:List Nat) (l l':Array Bool) (i:Nat):Bool :=
 Region.noSelect ops && Region.free md ops l i && (Region.ready md ops l).contains i && Region.closedB md ops l && Region.lastB md ops l ds i && (l.setIfInBounds i true == l')
theorem take_ {i:Nat} {N:Option Tmp} {oi:Oper} {v:Value} {fuel:Nat} {l:Array Bool} {a:Act} {w:World} (l':Array Bool) (hi:ops[i]? = some oi) (hN:oi.dst=N) (hc:takeB md ops ds l l' i=true)
  (hQ:∀ c a w,Q (.panic c) (a.put oi.dst v) w->Q (.panic c) a w) (hy:YieldsIf P ops S oi v a) (hS:S w) {a':Act} (ha:a.put N v=a')
  (h:wpAnyLast P md ops Q S ds fuel l' a' w):wpAnyLast P md ops Q S ds (fuel+1) l a w:=by
 subst ha
 subst hN
 simp only [takeB,Bool.and_eq_true,beq_iff_eq] at hc
 obtain ⟨⟨⟨⟨⟨h1,h2⟩,h3⟩,h4⟩,h5⟩,h6⟩:=hc
 subst h6
 exact Zji hi h1 h2 h3 h4 h5 hQ hy hS h
def anyB (md:Region.Mode) (ops:Array Oper) (l l':Array Bool) (i:Nat):Bool :=
 Region.noSelect ops && Region.free md ops l i && (Region.ready md ops l).contains i && (l.setIfInBounds i true == l')
theorem pure_ {i:Nat} {N:Option Tmp} {oi:Oper} {v:Value} {fuel:Nat} {l:Array Bool} {a:Act} {w:World} (l':Array Bool) (hi:ops[i]? = some oi) (hN:oi.dst=N) (hc:anyB md ops l l' i=true)
  (hQ:∀ c a w,Q (.panic c) (a.put oi.dst v) w->Q (.panic c) a w) (hy:Yields P ops oi v a) {a':Act} (ha:a.put N v=a')
  (h:wpAnyLast P md ops Q S ds fuel l' a' w):wpAnyLast P md ops Q S ds (fuel+1) l a w:=by
 subst ha
 subst hN
 simp only [anyB,Bool.and_eq_true,beq_iff_eq] at hc
 obtain ⟨⟨⟨h1,h2⟩,h3⟩,h6⟩:=hc
 subst h6
 exact Zkm hi (Region.noSelect_spec h1) hQ fuel l a w (Region.free_spec hi h2) (by simpa using h3) hy h
def readyB (md:Region.Mode) (ops:Array Oper) (l l':Array Bool) (i:Nat):Bool:=(Region.ready md ops l == [i]) && (l.setIfInBounds i true == l')
theorem one_ {i:Nat} {N:Option Tmp} {oi:Oper} {fuel:Nat} {l:Array Bool} {a:Act} {w:World} (l':Array Bool) (hi:ops[i]? = some oi) (hN:oi.dst=N) (hc:readyB md ops l l' i=true) (hd:i ∉ ds)
  (h:∀ K:Act->World->Prop,Shut (∀ a' w',S w'->(S w'->wpAnyLast P md ops Q S ds fuel l' a' w')->K a' w')->if Region.wanted oi (yielded ops a.tmps)=true then Oper.wp P oi a w K Q else K (a.put N undef) w) :
  wpAnyLast P md ops Q S ds (fuel+1) l a w:=by
 subst hN
 simp only [readyB,Bool.and_eq_true,beq_iff_eq] at hc
 obtain ⟨h1,h2⟩:=hc
 subst h2
 exact Zgq h1 (by simp) (AllReadyL.cons hi hd (fun K hK=>h K hK) AllReadyL.nil)
theorem last_ {i:Nat} {N:Option Tmp} {oi:Oper} {fuel:Nat} {l:Array Bool} {a:Act} {w:World} (l':Array Bool) (hi:ops[i]? = some oi) (hN:oi.dst=N) (hc:readyB md ops l l' i=true) (hd:i ∈ ds)
  (h:∀ K:Act->World->Prop,Shut (∀ a' w',wpAnyLast P md ops Q S ds fuel l' a' w'->K a' w')->if Region.wanted oi (yielded ops a.tmps)=true then Oper.wp P oi a w K Q else K (a.put N undef) w) :
  wpAnyLast P md ops Q S ds (fuel+1) l a w:=by
 subst hN
 simp only [readyB,Bool.and_eq_true,beq_iff_eq] at hc
 obtain ⟨h1,h2⟩:=hc
 subst h2
 exact Zgq h1 (by simp) (AllReadyL.Zpo hi hd (fun K hK=>h K hK) AllReadyL.nil)
theorem done_ {l:Array Bool} {a:Act} {w:World} {n:Nat} (hr:(Region.ready md ops l == [])=true) (h:Q .normal a w):wpAnyLast P md ops Q S ds n l a w:=Zjh (by simpa using hr) h n
def putAll:Act->List (Tmp × Value)->Act
 | a,[]=>a
 | a,(n,v) :: r=>putAll (a.put (some n) v) r
theorem join_ {σ:Type} {fuel:Nat} {l:Array Bool} {a:Act} {w:World} (fuel':Nat) (l':Array Bool) (ns:σ->List (Tmp × Value)) (F:σ->World->Prop)
  (hcont:∀ s w',F s w'->wpAnyLast P md ops Q S ds fuel' l' (putAll a (ns s)) w')
  (h:(∀ s w',F s w'->wpAnyLast P md ops Q S ds fuel' l' (putAll a (ns s)) w')->wpAnyLast P md ops Q S ds fuel l a w):wpAnyLast P md ops Q S ds fuel l a w:=h hcont
theorem norm_ {fuel:Nat} {l:Array Bool} {a a':Act} {w:World} (ha:a=a') (h:wpAnyLast P md ops Q S ds fuel l a' w):wpAnyLast P md ops Q S ds fuel l a w:=by
 subst ha
 exact h
theorem call_ {oi:Oper} {N:Option Tmp} {a:Act} {w:World} {K:Act->World->Prop} (f:FuncId) (args:Array Value) (hw:Region.wanted oi (yielded ops a.tmps)=true) (hN:oi.dst=N) (hrun:(execOp a.eval oi).run P w=.ok (.enter f args) w)
  (h:Calls P f args w fun e w' => ∃ v,e=.returned v/\K (a.put N v) w'):if Region.wanted oi (yielded ops a.tmps)=true then Oper.wp P oi a w K Q else K (a.put N undef) w:=by
 rw [if_pos hw]
 subst hN
 unfold Oper.wp
 rw [hrun,Oper.upon_enter]
 refine h.mono fun e w'' hh=>?_
 obtain ⟨v,rfl,hk⟩:=hh
 exact hk
theorem enters_ {f : FuncId} {fn : Func} (hf : P.funcs[f]? = some fn) (hname : (fn.name == "runtime.NumGoroutine") = false) (hb : fn.body.isSome = true) (args : Array Value) (w : World) : (callFunc f args).run P w = .ok (.enter f args) w := by
 have h1 : fn.name ≠ "runtime.NumGoroutine" := by simpa using hname
 obtain ⟨c,hc⟩:=Option.isSome_iff_exists.1 hb
 simp [callFunc,hf,h1,hc]
theorem goes_ {oi : Oper} {N : Option Tmp} {a : Act} {w : World} {K : Act → World → Prop} {f : FuncId} {fn : Func} {as0 : Array Operand} {ts : Array TypeId} (hf : P.funcs[f]? = some fn) (hname : (fn.name == "runtime.NumGoroutine") = false) (hb : fn.body.isSome = true) (args : Array Value)
  (hw:Region.wanted oi (yielded ops a.tmps)=true) (hN:oi.dst=N) (hop:oi.op=.call { callee:=.value (.func f),args:=as0,argTypes:=ts }) (hargs:as0.map a.eval=args)
  (h:Calls P f args w fun e w' => ∃ v,e=.returned v/\K (a.put N v) w'):if Region.wanted oi (yielded ops a.tmps)=true then Oper.wp P oi a w K Q else K (a.put N undef) w:=by
 refine call_ f args hw hN ?_ h
 have he:=enters_ hf hname hb args w
 unfold execOp
 simp [hop,resolve,Deferred.ofValue,invoke,Act.eval,hargs,he]
theorem goesL_ {rest : List Oper} {oi : Oper} {a : Act} {w : World} (N : Option Tmp) (hd : oi.dst = N) (hg : oi.guard = none) {f : FuncId} {fn : Func} {as0 : Array Operand} {ts : Array TypeId} (hf : P.funcs[f]? = some fn) (hname : (fn.name == "runtime.NumGoroutine") = false) (hb : fn.body.isSome = true) (args : Array Value)
  (hop:oi.op=.call { callee:=.value (.func f),args:=as0,argTypes:=ts }) (hargs:as0.map a.eval=args)
  (h:Calls P f args w fun e w' => ∃ v,e=.returned v/\wpList P ops Q rest (a.put N v) w'):wpList P ops Q (oi :: rest) a w:=by
 refine wpList_plain hg fun K hK=>?_
 have he:=enters_ hf hname hb args w
 have hrun:(execOp a.eval oi).run P w=.ok (.enter f args) w:=by
  unfold execOp
  simp [hop,resolve,Deferred.ofValue,invoke,Act.eval,hargs,he]
 unfold Oper.wp
 rw [hrun,Oper.upon_enter]
 refine h.mono fun e w'' hh=>?_
 obtain ⟨v,rfl,hk⟩:=hh
 subst hd
 exact hK _ _ hk
theorem skip_ {oi:Oper} {a:Act} {w w1:World} {K:Act->World->Prop} (hw:Region.wanted oi (yielded ops a.tmps)=true) (hN:oi.dst=none) (hrun:(execOp a.eval oi).run P w=.ok .skip w1)
  (h:K a w1):if Region.wanted oi (yielded ops a.tmps)=true then Oper.wp P oi a w K Q else K (a.put none undef) w:=by
 rw [if_pos hw]
 unfold Oper.wp
 rw [hrun]
 show K (a.put oi.dst undef) w1
 rw [hN]
 exact h
theorem Zb9 (n:Int):IntKind.i64.wrap n=Go.RowKit.wrap64 n:=by unfold Go.RowKit.wrap64;exact IntKind.wrap_i64 n
theorem Zdj (n:Int):IntKind.i32.wrap n=Go.RowKit.wrap32 n:=by unfold Go.RowKit.wrap32;exact IntKind.wrap_i32 n
end
end YtjbjkmccfocikaaGreatDoorW.PrintLast
end
section
namespace YtjbjkmccfocikaaGreatDoorW.PrintWords
open Go.RowKit
namespace Kd
def tag {α:Type} (f:Nat->Nat) (d:Kd α):Kd (α × Nat) where
 sz:=d.sz
 E:=d.E
 K:=fun w x cs=>d.K w x.1 cs
 M:=fun w base ok x cs=>d.M w base (fun k=>ok k/\f k=x.2) x.1 cs
 K_len:=fun h=>d.K_len h
 K_one:=fun h=>d.K_one h
 K_below:=fun hb h=>d.K_below hb h
 K_of_M:=fun h=>d.K_of_M h
 M_mono:=fun hok h=>d.M_mono (fun k hk=>⟨hok k hk.1,hk.2⟩) h
 M_bound:=fun h=>d.M_mono (fun _ hk=>⟨⟨hk.1.1,hk.2⟩,hk.1.2⟩) (d.M_bound h)
 M_move:=fun hm h=>d.M_move (fun k hk=>hm k hk.1) h
 M_lower:=fun hb h=>d.M_lower hb h
def raw (sz:Nat):Kd (List Value) where
 sz:=sz
 E:=[]
 K:=fun _ x cs=>cs=x/\cs.length=sz /\ ∀ u ∈ cs,u.oneCell'=true
 M:=fun _ _ _ x cs=>cs=x/\cs.length=sz /\ ∀ u ∈ cs,u.oneCell'=true
 K_len:=fun h=>h.2.1
 K_one:=fun h=>h.2.2
 K_below:=fun _ h=>h
 K_of_M:=fun h=>h
 M_mono:=fun _ h=>h
 M_bound:=fun h=>h
 M_move:=fun _ h=>h
 M_lower:=fun _ h=>h
def S {α:Type} (d:Kd α) (e:Nat) (w:World) (base:Nat) (ok:Nat->Prop) (v:Value) (xs:List α):Prop:=∃ f,(tag f d).R e w base ok v xs.zipIdx
section
variable {α β:Type} {d:Kd α} {d':Kd β} {e e':Nat} {w w1 W:World} {base b:Nat} {ok ok' okv oku:Nat->Prop} {u v:Value} {xs:List α} {ys:List β}
theorem Zby (hE:d.E=[]) (h:d.R e w base ok v xs):d.R e w base (fun k=>some k=v.ownBlock) v xs:=by
 obtain ⟨h0,inner,ho,hr⟩:=h
 refine ⟨fun k hk=>hk.symm,inner,ho,hr.imp_ (fun p c hp=>d.M_mono (fun k hk=>?_) (d.M_bound hp))⟩
 obtain ⟨_,_,_,q,hq,_⟩:=hk
 rw [hE] at hq
 cases hq
theorem Zuz (d:Kd α) (e:Nat) (w:World) (base:Nat) (ok:Nat->Prop):S d e w base ok (.slice none 0 0) []:=⟨fun _=>0,Zip _ _ _ _ _⟩
end
section
variable {α β:Type} {d:Kd α} {d':Kd β} {e e' g:Nat} {w w1 W:World} {base b:Nat} {ok ok' okv oku:Nat->Prop} {u v:Value} {xs:List α} {ys:List β}
end
section
variable {P:Program} {ops:Array Oper} {rest:List Oper} {o:Oper} {a:Act} {Q:Exit->Act->World->Prop} {Kc:Act->World->Prop} {α:Type}
end
section
variable {α β:Type} {d:Kd α} {e e' g n cap:Nat} {w w1 W:World} {base:Nat} {ok ok' oki okp:Nat->Prop} {u v:Value} {xs:List α} {i:Int} {c:List Value}
end
section
variable {P:Program} {ops:Array Oper} {rest:List Oper} {o:Oper} {a:Act} {Q:Exit->Act->World->Prop} {α:Type}
end
structure Heap {α:Type} (d:Kd α):Prop where
 K:∀ {w w1:World} {x:α} {cs:List Value},(∀ k,k < w.heap.size->w1.heap[k]? = w.heap[k]?)->d.K w x cs->d.K w1 x cs
theorem Zpk {w w1:World} (hb:∀ k,k < w.heap.size->w1.heap[k]? = w.heap[k]?) {a:Addr} {v:Value} (h:w.cell? a=some v):w1.cell? a=some v:=by
 have := hb a.block (World.block_lt_of_cell? w a h)
 simpa [World.cell?,this] using h
theorem Heap.C {α:Type} {d:Kd α} (hd:Heap d) {w w1:World} {A:Option Addr} {n:Nat} {xs:List α} (hb:∀ k,k < w.heap.size->w1.heap[k]? = w.heap[k]?) (h:d.C w A n xs):d.C w1 A n xs :=
 ⟨h.1,h.2.1,fun hn=>by
  obtain ⟨ad,e,hc⟩:=h.2.2 hn
  refine ⟨ad,e,fun j p hj=>?_⟩
  obtain ⟨c,hs,hr,hcell⟩:=hc j p hj
  exact ⟨c,hs,hd.K hb hr,fun i u hu=>Zpk hb (hcell i u hu)⟩⟩
theorem Ze4 (k:IntKind):Heap (Kd.int k):=⟨fun _ h=>h⟩
section
variable {α:Type} {d:Kd α} {e base g n c:Nat} {ok:Nat->Prop} {w w0 W:World} {A:Option Addr} {xs:List α}
end
end Kd
end YtjbjkmccfocikaaGreatDoorW.PrintWords
end
section
namespace YtjbjkmccfocikaaGreatDoorW.PrintWords
open Go.RowKit
def Kept (w W:World) (S:Nat->Prop):Prop:=w.heap.size<=W.heap.size /\ ∀ i,i < w.heap.size -> ¬ S i->W.heap[i]? = w.heap[i]?
section
variable {w W W2:World} {S S2 S':Nat->Prop}
theorem Kept.refl (w:World) (S:Nat->Prop):Kept w w S:=⟨Nat.le_refl _,fun _ _ _=>rfl⟩
theorem Kept.Zrp (h:Below w.heap.size w W) (S:Nat->Prop):Kept w W S:=⟨h.size,fun i hi _=>h.block i hi⟩
theorem Kept.then_ (h:Kept w W S) (k:Kept W W2 S2) (hs:∀ k,S2 k->S k\/w.heap.size<=k):Kept w W2 S :=
 ⟨Nat.le_trans h.1 k.1,fun i hi hn=>(k.2 i (Nat.lt_of_lt_of_le hi h.1) (fun h2=>(hs i h2).elim hn (fun h3=>by omega))).trans (h.2 i hi hn)⟩
theorem Kept.below (h:Kept w W S) (hb:Below W.heap.size W W2):Kept w W2 S:=h.then_ (Kept.Zrp hb (fun _=>False)) (fun _ hk=>hk.elim)
theorem Kept.alloc (h:Kept w W S) (o:Obj):Kept w (W.alloc o) S:=h.below (Zck (Below.refl _ _) o)
theorem Kept.drew (h:Kept w W S):Kept w W.drew S:=h
theorem Kept.drewN (h:Kept w W S) (m:Nat):Kept w (W.drewN m) S:=h
theorem Kept.setCell (h:Kept w W S) {p:Addr} (hp:S p.block\/w.heap.size<=p.block) (u:Value):Kept w (W.setCell p u) S :=
 h.then_ (S2:=fun k=>k=p.block) ⟨by simp [World.setCell],fun i _ hn=>Below.heap_setCell W p u i hn⟩ (fun k hk=>by rw [hk];exact hp)
theorem Zc8 {g:Nat} {o:Obj} (hb:W.heap[g]? = some o) (hk:Kept W W2 S) (hne:¬ S g):W2.heap[g]? = some o:=(hk.2 g (Zgz hb) hne).trans hb
theorem cell_kept {a:Addr} {v:Value} (hc:W.cell? a=some v) (hk:Kept W W2 S) (hne:¬ S a.block):W2.cell? a=some v:=by
 have := hk.2 a.block (World.block_lt_of_cell? W a hc) hne
 simpa [World.cell?,this] using hc
end
namespace Kd
section
variable {α:Type} {d:Kd α} {e base n c:Nat} {ok oki S S2:Nat->Prop} {w w0 W W1 W2:World} {v:Value} {A:Option Addr} {xs:List α} {i:Int} {cs:List Value}
theorem Zt1 (h:d.R e W base ok v xs) (hk:Kept W W2 S) (hne:∀ k,ok k -> ¬ S k):d.R e W2 base ok v xs:=Zjn h (fun k ho hlt=>hk.2 k hlt (hne k ho))
end
end Kd
def Foot (P:World->Prop) (W:World) (ok:Nat->Prop):Prop:=∀ W':World,(∀ k,ok k->k < W.heap.size->W'.heap[k]? = W.heap[k]?)->P W'
theorem Zs3 {W W1:World} {k:Nat} (h:W1.heap[k]? = W.heap[k]?) (hlt:k < W.heap.size):k < W1.heap.size:=by
 rw [Array.getElem?_eq_getElem hlt] at h
 exact (Array.getElem?_eq_some_iff.1 h).1
namespace Foot
variable {P Q:World->Prop} {W W1:World} {ok ok':Nat->Prop}
theorem now (h:Foot P W ok):P W:=h W (fun _ _ _=>rfl)
theorem mono (h:Foot P W ok) (hok:∀ k,ok k->ok' k):Foot P W ok':=fun W' hW=>h W' (fun k hk hlt=>hW k (hok k hk) hlt)
theorem bound (h:Foot P W ok):Foot P W (fun k=>ok k/\k < W.heap.size):=fun W' hW=>h W' (fun k hk hlt=>hW k ⟨hk,hlt⟩ hlt)
theorem step (h:Foot P W ok) (hm:∀ k,ok k->k < W.heap.size->W1.heap[k]? = W.heap[k]?):Foot P W1 ok:=fun W' hW=>h W' (fun k hk hlt=>(hW k hk (Zs3 (hm k hk hlt) hlt)).trans (hm k hk hlt))
theorem imp (h:Foot P W ok) (hi:∀ W',P W'->Q W'):Foot Q W ok:=fun W' hW=>hi W' (h W' hW)
theorem old (h:Foot P W ok) (hb:Below W.heap.size W W1):Foot P W1 (fun k=>ok k/\k < W.heap.size):=(h.bound).step (fun k _ hlt=>hb.block k hlt)
end Foot
namespace Kd
def F {α:Type} (d:Kd α) (W:World) (ok:Nat->Prop) (A:Option Addr) (n:Nat) (xs:List α):Prop:=Foot (fun W=>d.C W A n xs) W ok
def FK {α:Type} (d:Kd α) (W:World) (ok:Nat->Prop) (x:α) (c:List Value):Prop:=Foot (fun W=>d.K W x c) W ok
section
variable {α β:Type} {d:Kd α} {e base n n' cc g N:Nat} {ok ok' okp S:Nat->Prop} {w w0 w1 W W1:World} {A A':Option Addr} {u v v1:Value} {xs:List α} {xs':List β} {d':Kd β} {x:α} {c:List Value}
theorem Zuw (h:F d W ok A n xs):d.C W A n xs:=Foot.now h
theorem Zmw (h:F d W ok A n xs) (hok:∀ k,ok k->ok' k):F d W ok' A n xs:=Foot.mono h hok
theorem Zou (h:F d W ok A n xs):F d W (fun k=>ok k/\k < W.heap.size) A n xs:=Foot.bound h
theorem Zov (h:F d W ok A n xs) (hm:∀ k,ok k->k < W.heap.size->W1.heap[k]? = W.heap[k]?):F d W1 ok A n xs:=Foot.step h hm
theorem Ztr (h:F d W ok A n xs) (hi:∀ W',d.C W' A n xs->d'.C W' A' n' xs'):F d' W ok A' n' xs':=Foot.imp h hi
theorem Ze9 (h:F d W ok A n xs) (hb:Below W.heap.size W W1):F d W1 ok A n xs:=Zov h (fun k _ hlt=>hb.block k hlt)
theorem Ztq (h:F d W ok A n xs):F d W.drew ok A n xs:=Ze9 h (Zfp (Below.refl _ _))
theorem Zuu (h:F d W ok A n xs) {p:Addr} (hok:∀ k,ok k->k ≠ p.block) (u:Value):F d (W.setCell p u) ok A n xs:=Zov h (fun k hk _=>Below.heap_setCell W p u k (hok k hk))
theorem Zts (h:F d W ok A n xs) (hk:Kept W W1 S) (hok:∀ k,ok k -> ¬ S k):F d W1 ok A n xs:=Zov h (fun k ho hlt=>hk.2 k hlt (hok k ho))
theorem Zuv (d:Kd α) (W:World) (ok:Nat->Prop):F d W ok none ([]:List α).length []:=fun W' _=>Zus d W'
theorem Zqz (h:F d W ok A n xs) (hbase:∀ k,v.ownBlock=some k->W.heap.size<=k) (hb:Below W.heap.size W W1):F d W1 (fun k=>ok k/\some k ≠ v.ownBlock) A n xs :=
 Zmw (Foot.old h hb) (fun k hk=>⟨hk.1,fun he=>by have := hbase k he.symm;have := hk.2;omega⟩)
theorem Zq0 (h:F d W ok A n xs) (a:Nat) (ha:W.heap.size<=a):F d W (fun k=>ok k/\k ≠ a) A n xs:=Zmw (Zou h) (fun k hk=>⟨hk.1,by have := hk.2;omega⟩)
theorem Zux (h:F d W ok A n xs) (hb:Below W.heap.size W W1):F d W1 (fun k=>ok k/\k < W.heap.size) A n xs:=Foot.old h hb
theorem Ztt (h:F d W1 (fun k=>ok k/\k < N) A n xs) (hbase:∀ k,v.ownBlock=some k->N<=k):F d W1 (fun k=>(ok k/\some k ≠ v.ownBlock)/\k < N) A n xs :=
 Zmw h (fun k hk=>⟨⟨hk.1,fun he=>Nat.lt_irrefl _ (Nat.lt_of_lt_of_le hk.2 (hbase k he.symm))⟩,hk.2⟩)
theorem C_F (hd:Heap d) (h:d.C w A n xs):F d w (fun k=>k < w.heap.size) A n xs:=fun _ hW=>hd.C (fun k hlt=>hW k hlt hlt) h
theorem R_F (h:d.R e W base ok (.slice A n cc) xs):F d W ok A n xs:=fun W' hW=>by
 have h2:=Zc (Zjn h hW)
 rw [h2.1]
 exact h2.2.2
theorem Zos (h:FK d W ok x c):d.K W x c:=Foot.now h
theorem Zlv (h:FK d W ok x c) (hok:∀ k,ok k->ok' k):FK d W ok' x c:=Foot.mono h hok
theorem Zmv (h:FK d W ok x c):FK d W (fun k=>ok k/\k < W.heap.size) x c:=Foot.bound h
theorem Zot (h:FK d W ok x c) (hm:∀ k,ok k->k < W.heap.size->W1.heap[k]? = W.heap[k]?):FK d W1 ok x c:=Foot.step h hm
theorem Zsq (h:d.M W base ok x c):FK d W ok x c:=fun _ hW=>d.K_of_M (Zr4 h hW)
end
end Kd
end YtjbjkmccfocikaaGreatDoorW.PrintWords
end
section
namespace YtjbjkmccfocikaaGreatDoorW.PrintWords
open Go.RowKit
namespace Kd
def chunks (sz:Nat) (n:Nat) (inner:List Value):List (List Value):=(List.range n).map fun j=>(inner.drop (j*sz)).take sz
theorem Zdd (sz n:Nat) (inner:List Value):(chunks sz n inner).length=n:=by simp [chunks]
theorem Zpm {sz n:Nat} {inner:List Value} {j:Nat} (hj:j < n):(chunks sz n inner)[j]? = some ((inner.drop (j*sz)).take sz):=by simp [chunks,hj]
theorem Zhv {sz n:Nat} {inner:List Value} {j:Nat} {c:List Value} (h:(chunks sz n inner)[j]? = some c):c=(inner.drop (j*sz)).take sz:=by
 have hj:j < n:=by have := (List.getElem?_eq_some_iff.1 h).1;rwa [Zdd] at this
 rw [Zpm hj] at h
 injection h with h
 exact h.symm
theorem Znw {α:Type} {Rr:α->List Value->Prop} {sz:Nat} {xs:List α} {inner:List Value} (h:Reps Rr sz xs inner) (hR:∀ x c,Rr x c->c.length=sz /\ ∀ u ∈ c,u.oneCell'=true):Reps (fun x cs=>cs=x/\cs.length=sz /\ ∀ u ∈ cs,u.oneCell'=true) sz (chunks sz xs.length inner) inner:=by
 refine ⟨by rw [Zdd];exact h.1,fun j p hj=>?_⟩
 have hjl:j < xs.length:=by have := (List.getElem?_eq_some_iff.1 hj).1;rwa [Zdd] at this
 have hp:=Zhv hj
 exact ⟨hp.symm,hR _ _ (h.2 j _ (List.getElem?_eq_getElem hjl))⟩
section
variable {α:Type} {d:Kd α} {e base n cc g:Nat} {ok ok' okp S:Nat->Prop} {w w1 W W1:World} {A:Option Addr} {u v v1:Value} {xs:List α} {x:α} {c:List Value}
def N {α:Type} (d:Kd α) (e:Nat) (w:World) (base:Nat) (ok:Nat->Prop) (v:Value) (xs:List α):Prop :=
 (∀ k,v.ownBlock=some k->ok k) /\ ∃ rows:List (List Value),rows.length=xs.length/\(raw d.sz).R e w base (fun k=>some k=v.ownBlock) v rows /\ ∀ (j:Nat) (x:α) (c:List Value),xs[j]? = some x->rows[j]? = some c->FK d w (fun k=>ok k/\some k ≠ v.ownBlock) x c
theorem Zqm {sz:Nat} {rows:List (List Value)} (h:(raw sz).R e w base ok v rows):(raw sz).R e w base (fun k=>some k=v.ownBlock) v rows:=Zby rfl h
theorem R_N (h:d.R e w base ok v xs):N d e w base ok v xs:=by
 obtain ⟨h0,inner,ho,hr⟩:=h
 refine ⟨h0,chunks d.sz xs.length inner,Zdd _ _ _,⟨fun k hk=>hk.symm,inner,by rw [Zdd];exact ho,Znw hr (fun x c hp=>⟨d.K_len (d.K_of_M hp),d.K_one (d.K_of_M hp)⟩)⟩,fun j x c hx hc=>?_⟩
 rw [Zhv hc]
 exact Zsq (hr.2 j x hx)
theorem Zuy (d:Kd α) (e:Nat) (w:World) (base:Nat) (ok:Nat->Prop):N d e w base ok (.slice none 0 0) []:=R_N (Zip _ _ _ _ _)
theorem Zga (h:N d e w base ok v xs) (hok:∀ k,ok k->ok' k):N d e w base ok' v xs:=by
 obtain ⟨h0,rows,hl,hR,hf⟩:=h
 exact ⟨fun k hk=>hok k (h0 k hk),rows,hl,hR,fun j x c hx hc=>Zlv (hf j x c hx hc) (fun k hk=>⟨hok k hk.1,hk.2⟩)⟩
theorem N_lt (h:N d e w base ok v xs):∀ k,v.ownBlock=some k->k < w.heap.size:=by
 obtain ⟨_,rows,_,hR,_⟩:=h
 exact R_lt hR
theorem Zm0 (h:N d e w base ok v xs):∀ k,v.ownBlock=some k->base<=k:=by
 obtain ⟨_,rows,_,hR,_⟩:=h
 exact Zt hR
theorem Zlx (h:N d e w base ok v xs):N d e w base (fun k=>ok k/\k < w.heap.size) v xs:=by
 have hlt:=N_lt h
 obtain ⟨h0,rows,hl,hR,hf⟩:=h
 exact ⟨fun k hk=>⟨h0 k hk,hlt k hk⟩,rows,hl,hR,fun j x c hx hc=>Zlv (Zmv (hf j x c hx hc)) (fun k hk=>⟨⟨hk.1.1,hk.2⟩,hk.1.2⟩)⟩
theorem Zoz {base':Nat} (h:N d e w base ok v xs) (hb:base'<=base):N d e w base' ok v xs:=by
 obtain ⟨h0,rows,hl,hR,hf⟩:=h
 exact ⟨h0,rows,hl,Zn hR hb,hf⟩
theorem Zr6 (h:N d e w base ok v xs) (hm:∀ k,ok k->k < w.heap.size->w1.heap[k]? = w.heap[k]?):N d e w1 base ok v xs:=by
 obtain ⟨h0,rows,hl,hR,hf⟩:=h
 exact ⟨h0,rows,hl,Zjn hR (fun k hk hlt=>hm k (h0 k hk.symm) hlt),fun j x c hx hc=>Zot (hf j x c hx hc) (fun k hk hlt=>hm k hk.1 hlt)⟩
theorem Zdp (h:N d e w base ok v xs) (hb:Below w.heap.size w w1):N d e w1 base ok v xs:=Zr6 h (fun k _ hk=>hb.block k hk)
theorem Zr5 (h:N d e w base ok v xs):N d e w.drew base ok v xs:=Zdp h (Zfp (Below.refl _ _))
theorem Ztu (h:N d e w base ok v xs) (hk:Kept w w1 S) (hok:∀ k,ok k -> ¬ S k):N d e w1 base ok v xs:=Zr6 h (fun k ho hlt=>hk.2 k hlt (hok k ho))
theorem Zfy (h:N d e W base ok v xs) (hbase:∀ k,u.ownBlock=some k->W.heap.size<=k) (hb:Below W.heap.size W w1):N d e w1 base (fun k=>ok k/\some k ≠ u.ownBlock) v xs :=
 Zga (Zdp (Zlx h) hb) (fun k hk=>⟨hk.1,fun he=>by have := hbase k he.symm;have := hk.2;omega⟩)
theorem Zn6 (h:N d e W base ok v xs) (hb:Below W.heap.size W w1):N d e w1 base (fun k=>ok k/\k < W.heap.size) v xs:=Zdp (Zlx h) hb
theorem Zf7 {b:Nat} (h:N d e w1 base (fun k=>ok k/\k < b) v xs) (hbase:∀ k,u.ownBlock=some k->b<=k):N d e w1 base (fun k=>(ok k/\some k ≠ u.ownBlock)/\k < b) v xs :=
 Zga h (fun k hk=>⟨⟨hk.1,fun e=>Nat.lt_irrefl _ (Nat.lt_of_lt_of_le hk.2 (hbase k e.symm))⟩,hk.2⟩)
theorem Zo0 (h:N d e w base ok v xs):∃ A c,v=.slice A xs.length c:=by
 obtain ⟨_,rows,hl,hR,_⟩:=h
 obtain ⟨A,c,he⟩:=Zh hR
 exact ⟨A,c,by rw [he,hl]⟩
theorem Zeq {n c:Nat} (h:N d e w base ok (.slice A n c) xs):n=xs.length/\n<=c/\d.C w A xs.length xs:=by
 obtain ⟨_,rows,hl,hR,hf⟩:=h
 obtain ⟨hn,hc,hC⟩:=Zc hR
 refine ⟨by omega,hc,?_⟩
 rw [hl] at hC
 refine ⟨rfl,hC.2.1,fun hp=>?_⟩
 obtain ⟨ad,he,hcell⟩:=hC.2.2 hp
 refine ⟨ad,he,fun j p hj=>?_⟩
 have hjl:j < rows.length:=by have := (List.getElem?_eq_some_iff.1 hj).1;omega
 obtain ⟨c',hcl,hK,hcc⟩:=hcell j _ (List.getElem?_eq_getElem hjl)
 have hk:=Zos (hf j p _ hj (List.getElem?_eq_getElem hjl))
 refine ⟨c',hcl,?_,hcc⟩
 rw [show c'=rows[j] from hK.1]
 exact hk
end
end Kd
end YtjbjkmccfocikaaGreatDoorW.PrintWords
end
section
namespace YtjbjkmccfocikaaGreatDoorW.PrintWords
open Go.RowKit
namespace Kd
section
variable {α:Type} {d:Kd α} {e base n cap g:Nat} {ok ok' okp:Nat->Prop} {w w1 W:World} {v v1:Value} {xs ys:List α}
theorem Ztw {rows:List (List Value)} (hR:(raw d.sz).R e w1 base (fun k=>k=W.heap.size) v1 rows) (hg:W.grownBy w1 none) (hat:∃ b,v1.ownBlock=some b/\W.heap.size<=b) (hl:rows.length=xs.length) (hf:∀ (j:Nat) (x:α) (c:List Value),xs[j]? = some x->rows[j]? = some c->FK d W okp x c)
  (hok:∀ k,okp k->ok k) (hfresh:ok W.heap.size):N d e w1 base ok v1 xs:=by
 obtain ⟨b,hb,hle⟩:=hat
 refine ⟨fun k hk=>by rw [hR.1 k hk];exact hfresh,rows,hl,Zqm hR,fun j x c hx hc=>?_⟩
 refine Zlv (Zot (Zmv (hf j x c hx hc)) (fun k hk hlt=>hg.block k hlt (by simp))) (fun k hk=>⟨hok k hk.1,fun he=>?_⟩)
 rw [hb] at he
 injection he with he
 have := hk.2
 omega
end
section
variable {P:Program} {ops:Array Oper} {rest:List Oper} {o:Oper} {a:Act} {Q:Exit->Act->World->Prop} {Kc:Act->World->Prop} {α:Type}
theorem Ztv (d:Kd α) {w0 W:World} (base e:Nat) (hgd:o.guard=none) {N':Tmp} (_hd:o.dst=some N') {xs:List α} {inner:List Value} {ok okp:Nat->Prop}
  (hrun:(execOp a.eval o).run P W=.ok (.value (.slice (some ⟨W.heap.size,0,none⟩) xs.length xs.length)) (W.alloc (.cells inner.toArray e)))
  (hrep:Reps (FK d W okp) d.sz xs inner) (hok:∀ k,okp k->ok k) (hfresh:ok W.heap.size) (HB:Below base w0 W) (hbase:base<=W.heap.size) (hm:xs.length<=9223372036854775807)
  (h:∀ v1 w1,N d e w1 base ok v1 xs->Below base w0 w1->W.grownBy w1 none->(∃ b,v1.ownBlock=some b/\W.heap.size<=b)->wpList P ops Q rest (a.put o.dst v1) w1) :
  wpList P ops Q (o :: rest) a W:=by
 refine Zhs (raw d.sz) base e hgd _hd (xs:=chunks d.sz xs.length inner) (inner:=inner) (ok:=fun k=>k=W.heap.size) (okp:=fun _=>False) (by rw [Zdd];exact hrun) (Znw hrep (fun y c hk=>⟨d.K_len (Zos hk),d.K_one (Zos hk)⟩)) (fun _ hk=>hk.elim) rfl HB hbase (by rw [Zdd];exact hm) ?_
 intro v1 w1 hr hb hg hat
 exact h v1 w1 (Ztw hr hg hat (Zdd _ _ _) (fun j y c hy hc=>by rw [Zhv hc];exact hrep.2 j y hy) hok hfresh) hb hg hat
end
end Kd
end YtjbjkmccfocikaaGreatDoorW.PrintWords
end
section
namespace YtjbjkmccfocikaaGreatDoorW.PrintMore
open Go.RowKit YtjbjkmccfocikaaGreatDoorW.PrintWords
namespace Kd
open YtjbjkmccfocikaaGreatDoorW.PrintWords.Kd
end Kd
namespace Kd
open YtjbjkmccfocikaaGreatDoorW.PrintWords.Kd
section
variable {α:Type} {d:Kd α} {e base g N:Nat} {ok:Nat->Prop} {W w1:World} {u v:Value} {xs:List α}
theorem Ze2 (hu:d.R e W base ok u xs) (hb:Below W.heap.size W w1):d.R e w1 base (fun k=>ok k/\k < W.heap.size) u xs :=
 Zo (Za (Zev hu) hb) (fun _ h=>⟨h.1,h.2.2.1⟩)
theorem Zbr (h:d.R e w1 base (fun k=>ok k/\k < N) u xs) (hbase:∀ k,v.ownBlock=some k->N<=k):d.R e w1 base (fun k=>(ok k/\some k ≠ v.ownBlock)/\k < N) u xs :=
 Zo h (fun k hk=>⟨⟨hk.1,fun e=>Nat.lt_irrefl _ (Nat.lt_of_lt_of_le hk.2 (hbase k e.symm))⟩,hk.2⟩)
end
end Kd
theorem Zch (k k':IntKind) (x y:Int):Builtin.max2 (.int k x) (.int k' y)=pure (.int k (if x < y then y else x)):=by simp only [Builtin.max2,gt_iff_lt]
theorem Zci (k k':IntKind) (x y:Int):Builtin.min2 (.int k x) (.int k' y)=pure (.int k (if y < x then y else x)):=by simp only [Builtin.min2]
theorem Zc9 (ats:Array TypeId) (ty:TypeId) (a b:Value):Builtin.max_ ats ty #[a,b]=(Builtin.max2 a b >>= fun s=>pure s):=by simp only [Builtin.max_,List.foldlM_cons,List.foldlM_nil]
theorem Zda (ats:Array TypeId) (ty:TypeId) (a b:Value):Builtin.min_ ats ty #[a,b]=(Builtin.min2 a b >>= fun s=>pure s):=by simp only [Builtin.min_,List.foldlM_cons,List.foldlM_nil]
theorem Zb1 (ats:Array TypeId) (ty:TypeId) (a b c:Value):Builtin.max_ ats ty #[a,b,c]=(Builtin.max2 a b >>= fun s=>Builtin.max2 s c >>= fun s=>pure s):=by simp only [Builtin.max_,List.foldlM_cons,List.foldlM_nil]
theorem Zb2 (ats:Array TypeId) (ty:TypeId) (a b c:Value):Builtin.min_ ats ty #[a,b,c]=(Builtin.min2 a b >>= fun s=>Builtin.min2 s c >>= fun s=>pure s):=by simp only [Builtin.min_,List.foldlM_cons,List.foldlM_nil]
theorem Zcp (ats:Array TypeId) (ty:TypeId) (a b c d:Value):Builtin.max_ ats ty #[a,b,c,d]=(Builtin.max2 a b >>= fun s=>Builtin.max2 s c >>= fun s=>Builtin.max2 s d >>= fun s=>pure s):=by simp only [Builtin.max_,List.foldlM_cons,List.foldlM_nil]
theorem Zcq (ats:Array TypeId) (ty:TypeId) (a b c d:Value):Builtin.min_ ats ty #[a,b,c,d]=(Builtin.min2 a b >>= fun s=>Builtin.min2 s c >>= fun s=>Builtin.min2 s d >>= fun s=>pure s):=by simp only [Builtin.min_,List.foldlM_cons,List.foldlM_nil]
end YtjbjkmccfocikaaGreatDoorW.PrintMore
namespace YtjbjkmccfocikaaGreatDoorW.PrintWords
open Go.RowKit
section
variable {P:Program} {ops:Array Oper} {rest:List Oper} {o:Oper} {a:Act} {Q:Exit->Act->World->Prop} {W:World}
theorem Zfc {f:FuncId} {as0:Array Operand} {ts:Array TypeId} (_ho:o.op=.call { callee:=.value (.func f),args:=as0,argTypes:=ts }) (h:wpList P ops Q (o :: rest) a W):wpList P ops Q (o :: rest) a W:=h
theorem Zar {b:Builtin} {xs:Array Operand} {ts:Array TypeId} (_ho:o.op=.call { callee:=.builtin b,args:=xs,argTypes:=ts }) (h:wpList P ops Q (o :: rest) a W):wpList P ops Q (o :: rest) a W:=h
end
def mx (a b:Int):Int:=if a < b then b else a
def shl (k:IntKind) (x y:Int):Int:=k.wrap (x*2 ^ min y.toNat k.bits)
def shr (k:IntKind) (x y:Int):Int:=x / 2 ^ min y.toNat k.bits
theorem Zls {k:IntKind} {x y j:Int} (h:shl k x y=j) (hy:y<=k.bits):k.wrap (x*2 ^ y.toNat)=j:=by rw [<- h];unfold shl;rw [Nat.min_eq_left (by omega)]
theorem Zlt {k:IntKind} {x y j:Int} (h:shr k x y=j) (hy:y<=k.bits):x / 2 ^ y.toNat=j:=by rw [<- h];unfold shr;rw [Nat.min_eq_left (by omega)]
theorem Zhy (w:World) (n:Nat):w.drewN n=w.drewN n:=rfl
namespace Kd
section
variable {α:Type} {d:Kd α} {e base:Nat} {ok:Nat->Prop} {W w1:World} {v:Value} {xs:List α}
end
section
variable {α:Type} {d:Kd α} {e base g n cap:Nat} {ok oki okp:Nat->Prop} {W:World} {xs:List α} {i:Int} {c:List Value}
end
section
variable {α:Type} {d:Kd α} {e base b b' g N:Nat} {ok ok1:Nat->Prop} {W W2 w1:World} {u v:Value} {xs ys:List α} {S:Nat->Prop}
theorem Zt3 (hE:d.E=[]) (h:d.R e W base ok1 v xs) (hok:∀ k,v.ownBlock=some k->ok k):d.R e W base ok v xs:=Zo (Zby hE h) (fun k hk=>hok k hk.symm)
theorem Zcc (h:d.R e W base ok v xs) (hk:Kept W W2 S) (hne:∀ k,ok k -> ¬ S k):d.R e W2 base (fun k=>ok k/\(¬ S k/\k < W.heap.size)) v xs :=
 Zt1 (Zo (Zev h) (fun k hk=>⟨hk.1,hne k hk.1,hk.2.2.1⟩)) hk (fun _ hk=>hk.2.1)
theorem Zty (hu:d.Q e W base ok u xs) (hb:Below W.heap.size W w1):d.Q e w1 base (fun k=>ok k/\k < W.heap.size) u xs:=Zha (Zej (Zjz hu) hb) (fun _ h=>⟨h.1,h.2.2.1⟩)
theorem Zm6 (h:d.Q e w1 base (fun k=>ok k/\k < N) u xs) (hbase:∀ k,v.ownBlock=some k->N<=k):d.Q e w1 base (fun k=>(ok k/\some k ≠ v.ownBlock)/\k < N) u xs :=
 Zha h (fun k hk=>⟨⟨hk.1,fun e=>Nat.lt_irrefl _ (Nat.lt_of_lt_of_le hk.2 (hbase k e.symm))⟩,hk.2⟩)
end
end Kd
end YtjbjkmccfocikaaGreatDoorW.PrintWords
namespace YtjbjkmccfocikaaGreatDoorW.PrintWords
open Go.RowKit
namespace Kd
def V {α:Type} (d:Kd α) (_e:Nat) (W:World) (_base:Nat) (ok:Nat->Prop) (v:Value) (xs:List α):Prop:=∃ A c,v=.slice A xs.length c/\xs.length<=c/\F d W ok A xs.length xs
section
variable {α β:Type} {d:Kd α} {e base base' n m c g N' lo hi:Nat} {ok ok' S:Nat->Prop} {w W w1:World} {A:Option Addr} {ad:Addr} {u v v1:Value} {xs:List α}
theorem Zjf (h:V d e W base ok v xs) (hF:∀ A,F d W ok A xs.length xs->F d w1 ok' A xs.length xs):V d e w1 base' ok' v xs:=by
 obtain ⟨A,c,hv,hl,hf⟩:=h
 exact ⟨A,c,hv,hl,hF A hf⟩
theorem V_mk (hl:xs.length<=c) (hf:F d W ok A xs.length xs):V d e W base ok (.slice A xs.length c) xs:=⟨A,c,rfl,hl,hf⟩
theorem Zew (h:V d e W base ok v xs):∃ A c,v=.slice A xs.length c:=by
 obtain ⟨A,c,hv,_⟩:=h
 exact ⟨A,c,hv⟩
theorem V_at (h:V d e W base ok (.slice A n c) xs):n=xs.length/\n<=c/\F d W ok A xs.length xs:=by
 obtain ⟨A',c',hv,hl,hf⟩:=h
 injection hv with ha hn hc
 subst ha;subst hc
 exact ⟨hn,by rw [hn];exact hl,hf⟩
theorem Za5 (h:V d e W base ok (.slice A n c) xs):n=xs.length/\n<=c/\d.C W A xs.length xs:=⟨(V_at h).1,(V_at h).2.1,Zuw (V_at h).2.2⟩
theorem V_F (h:V d e W base ok (.slice A n c) xs):F d W ok A n xs:=by
 obtain ⟨hn,_,hf⟩:=V_at h
 rw [hn]
 exact hf
theorem Zu2 (d:Kd α) (e:Nat) (W:World) (base:Nat) (ok:Nat->Prop):V d e W base ok (.slice none 0 0) []:=⟨none,0,rfl,Nat.le_refl _,Zuv d W ok⟩
theorem R_V (h:d.R e W base ok v xs):V d e W base' ok v xs:=by
 obtain ⟨A,c,rfl⟩:=Zh h
 exact ⟨A,c,rfl,(Zc h).2.1,R_F h⟩
theorem Zb5 (h:V d e W base ok v xs) (hok:∀ k,ok k->ok' k):V d e W base ok' v xs:=Zjf h (fun _ hf=>Zmw hf hok)
theorem Zss (h:V d e W base ok v xs):V d e W base (fun k=>ok k/\k < W.heap.size) v xs:=Zjf h (fun _ hf=>Zou hf)
theorem Zj2 (h:V d e W base ok v xs) (_:base'<=base):V d e W base' ok v xs:=h
theorem Zbn (h:V d e W base ok v xs) (hb:Below W.heap.size W w1):V d e w1 base ok v xs:=Zjf h (fun _ hf=>Ze9 hf hb)
theorem Zku (h:V d e W base ok v xs):V d e W.drew base ok v xs:=Zjf h (fun _ hf=>Ztq hf)
theorem Zu1 (h:V d e W base ok v xs) {p:Addr} (hok:∀ k,ok k->k ≠ p.block) (u:Value):V d e (W.setCell p u) base ok v xs:=Zjf h (fun _ hf=>Zuu hf hok u)
theorem Zt7 (h:V d e W base ok v xs) (hk:Kept W w1 S) (hok:∀ k,ok k -> ¬ S k):V d e w1 base ok v xs:=Zjf h (fun _ hf=>Zts hf hk hok)
theorem Zcx (h:V d e W base ok v xs) (hbase:∀ k,u.ownBlock=some k->W.heap.size<=k) (hb:Below W.heap.size W w1):V d e w1 base (fun k=>ok k/\some k ≠ u.ownBlock) v xs:=Zjf h (fun _ hf=>Zqz hf hbase hb)
theorem Zq4 (h:V d e W base ok v xs) (a:Nat) (ha:W.heap.size<=a):V d e W base (fun k=>ok k/\k ≠ a) v xs:=Zjf h (fun _ hf=>Zq0 hf a ha)
theorem Zid (h:V d e W base ok v xs) (hb:Below W.heap.size W w1):V d e w1 base (fun k=>ok k/\k < W.heap.size) v xs:=Zjf h (fun _ hf=>Zux hf hb)
theorem Zdt (h:V d e w1 base (fun k=>ok k/\k < N') v xs) (hbase:∀ k,u.ownBlock=some k->N'<=k):V d e w1 base (fun k=>(ok k/\some k ≠ u.ownBlock)/\k < N') v xs:=Zjf h (fun _ hf=>Ztt hf hbase)
theorem Ziq (h:V d e W base ok v xs) (hk:Kept W w1 S) (hne:∀ k,ok k -> ¬ S k):V d e w1 base (fun k=>ok k/\(¬ S k/\k < W.heap.size)) v xs :=
 Zt7 (Zb5 (Zss h) (fun k hk=>⟨hk.1,hne k hk.1,hk.2⟩)) hk (fun _ hk=>hk.2.1)
theorem Zoy (h:N d e W base ok v xs) (hk:Kept W w1 S) (hne:∀ k,ok k -> ¬ S k):N d e w1 base (fun k=>ok k/\(¬ S k/\k < W.heap.size)) v xs :=
 Ztu (Zga (Zlx h) (fun k hk=>⟨hk.1,hne k hk.1,hk.2⟩)) hk (fun _ hk=>hk.2.1)
theorem Zr3 (h:F d W ok A xs.length xs) (hm:m<=xs.length):F d W ok A (xs.take m).length (xs.take m):=Ztr h (fun _ hC=>Ztp hC hm)
theorem Zut (h:F d W ok A xs.length xs) (hm:m<=xs.length) (hc:xs.length<=c):F d W ok (if c=m then A else A.map (·.add (m*d.sz))) (xs.drop m).length (xs.drop m):=Ztr h (fun _ hC=>Ztn hC hm hc)
theorem Zd4 {M:Nat->Prop} (h:d.R e w1 W.heap.size ok v xs) (hle:w.heap.size<=W.heap.size) (hM:∀ k,w.heap.size<=k->M k):d.R e w1 W.heap.size (fun k=>M k/\ok k) v xs:=Zo (Zev h) (fun k hk=>⟨hM k (Nat.le_trans hle hk.2.1),hk.1⟩)
end
end Kd
end YtjbjkmccfocikaaGreatDoorW.PrintWords
end
section
namespace YtjbjkmccfocikaaGreatDoor.B
open Go.RowKit YtjbjkmccfocikaaGreatDoorW.PrintWords
def GlobG (w:World):Prop :=
 Lib.Utf8Tabs 2 3 w /\ ∃ m,w.cell? ⟨1,0,none⟩=some (.int .i64 m)
theorem Zio {α:Type} {P:Program} {ops:Array Oper} {rest:List Oper} {o:Oper} {a:Act} {Q:Exit->Act->World->Prop} (d:Kd α) {w0 W:World} (base e:Nat) (hgd:o.guard=none) {N:Tmp} (hd:o.dst=some N) (t:TypeId) (x y:Operand) (ho:o.op=.makeSlice t x y) (m:Int) (hx:a.eval x=.int .i64 0) (hy:a.eval y=.int .i64 m)
  (ht:P.underlying t=some (.slice e)) (z:Value) (bytes:Nat) (hinfo:(P.info? e).map (fun i=>(i.zero,i.size,i.bytes))=some (some z,d.sz,bytes)) (hb0:0 < bytes) (z0:α) {ok okp:Nat->Prop} (hok:∀ k,okp k->ok k) (hfresh:ok W.heap.size)
  (h0:0<=m) (hl:m.toNat*bytes<=281474976710656) (HB:Below base w0 W) (hbase:base<=W.heap.size)
  (h:∀ v1 w1,d.R e w1 base ok v1 (List.replicate 0 z0)->Below base w0 w1->W.grownBy w1 none->(∃ b,v1.ownBlock=some b/\W.heap.size<=b)->wpList P ops Q rest (a.put o.dst v1) w1):wpList P ops Q (o :: rest) a W:=by
 obtain ⟨c,rfl⟩:=Int.eq_ofNat_of_zero_le h0
 simp only [Int.toNat_natCast] at hl
 have hm:c<=281474976710656:=Nat.le_trans (Nat.le_mul_of_pos_right _ hb0) hl
 obtain ⟨i0,hi,hzz⟩:=Option.map_eq_some_iff.1 hinfo
 simp only [Prod.mk.injEq] at hzz
 obtain ⟨hz0,hz1,hz2⟩:=hzz
 obtain ⟨w1,hr,hown,hgr⟩:=run_make_own (P:=P) W base t e i0 z d.sz ht hi hz0 hz1 .i64 .i64 c (by rw [hz2,Nat.mul_comm];exact hl) (by simp [maxLen];omega) hbase
 have hrun:(execOp a.eval o).run P W=.ok (.value (.slice (some ⟨W.heap.size,0,none⟩) 0 c)) w1:=by simp [execOp,ho,hx,hy,hr]
 refine Kd.Zhc hgd hrun (h _ _ ⟨?_,[],hown,Reps.none _ _⟩ (HB.grown hgr hbase (fun k hk=>by cases hk)) hgr ⟨_,rfl,Nat.le_refl _⟩)
 intro k hk
 obtain rfl:W.heap.size=k:=by simpa [Value.ownBlock] using hk
 exact hfresh
def Zcd.f (s:ByteArray):Option (List Int):=if s.size<=9223372036854775807 then some (bytesOf s) else none
theorem Zcd.op {ops:Array Oper} {rest:List Oper} {o:Oper} {a:Act} {Q:Exit->Act->World->Prop} {W:World} (s:ByteArray) (y:List Int) (x:Operand) (hgd:o.guard=none)
  (ho:o.op=.convert 9 146 x) (hx:a.eval x=.string s) (h:Zcd.f s=some y)
  (k:∀ v w1,Kd.V (Kd.int .u8) 5 w1 W.heap.size (fun k_=>(W.heap.size<=k_)) v y->Below W.heap.size W w1->wpList Tryz.prog ops Q rest (a.put o.dst v) w1):wpList Tryz.prog ops Q (o :: rest) a W:=by
 unfold Zcd.f at h
 split at h
 case isFalse=>cases h
 case isTrue hs =>
  obtain rfl:=Option.some.inj h
  have hrun:(execOp a.eval o).run Tryz.prog W=.ok (.value (.slice (some ⟨W.heap.size,0,none⟩) s.size (grownCap W s.size 0 5))) (Lib.bytesWorld W 5 s):=by
   unfold execOp
   simp only [ho]
   rw [hx]
   simp [Lib.run_convert_string_bytes W _ _ 5 s Tryz.underlying9 Tryz.underlying146 Tryz.underlying5,go_sem]
  have hb:Below W.heap.size W (Lib.bytesWorld W 5 s):=⟨rfl,rfl,rfl,by rw [Lib.bytesWorld_size];omega,fun i hi=>Lib.bytesWorld_at_old W _ s i hi⟩
  have hl:(bytesOf s).length=s.size:=by simp [bytesOf]
  have hC:∀ W1:World,(∀ j,j < s.size->W1.cell? ⟨W.heap.size,j,none⟩=some (.int .u8 ((s.data.toList.getD j 0).toNat:Int)))->Kd.C (Kd.int .u8) W1 (some ⟨W.heap.size,0,none⟩) (bytesOf s).length (bytesOf s):=fun W1 hc =>
   Kd.Zhr (enc:=Value.int .u8) (d:=0) ⟨rfl,by rw [hl];exact hs,fun _=>⟨_,rfl,fun j hj=>by
    rw [hl] at hj
    rw [show (⟨W.heap.size,0,none⟩:Addr).add j=⟨W.heap.size,j,none⟩ from add_plain _ _,hc j hj]
    simp [bytesOf,List.getD_eq_getElem?_getD,hj]⟩⟩
  refine Kd.Zhc hgd hrun (k _ _ ⟨some ⟨W.heap.size,0,none⟩,grownCap W s.size 0 5,by rw [hl],?_,?_⟩ hb)
  ·rw [hl];exact grownCap_ge _ _ _ _
  ·intro W' hk
   refine hC W' (fun j hj=>?_)
   have hsz:=Lib.bytesWorld_size W 5 s
   have := hk W.heap.size (Nat.le_refl _) (by omega)
   rw [World.cell?_of_block (w:=Lib.bytesWorld W 5 s) (a:=⟨W.heap.size,j,none⟩) this]
   exact Lib.bytesWorld_cell W _ s j hj
end YtjbjkmccfocikaaGreatDoor.B
end
section
namespace YtjbjkmccfocikaaGreatDoor.R
open Go.ChangeShapes Go.WideShapes Go.ChangeAt Go.RowKit
theorem own:ownKnob Tryz.prog.godebug=none:=by kernel_rfl
def laidL : List (String × DataW Unit) := [("unicode/utf8.acceptRanges", Rows.laid_unicode_utf8_acceptRanges), ("unicode/utf8.first", Rows.laid_unicode_utf8_first)]
theorem Zpg:(Rows.laid_unicode_utf8_acceptRanges:DataW Unit)=Lib.acceptData:=by kernel_rfl
theorem Zri:Rows.laid_unicode_utf8_first=Lib.firstData:=Pinned.utf8First_eq
theorem Zug {W:World} (h:laidMetH Tryz.prog laidL W):laidMet Tryz.prog laidL W:=by
 have e:(laidL.filter fun x=>x.2.handleName?.isSome)=[]:=by kernel_rfl
 unfold laidMetH at h
 rw [e] at h
 exact h
theorem glob {W:World} (h:laidMetH Tryz.prog laidL W) (hsh:W.ShapedOpen Tryz.prog):B.GlobG W:=by
 have hm:=Zug h
 refine ⟨?_,?_⟩
 ·have h3 : Lib.VarReads Tryz.prog W "unicode/utf8.first" Lib.firstData := by rw [← Zri]; exact Lib.laidMet.reads hm (.tail _ (.head _))
  have h4 : Lib.VarReads Tryz.prog W "unicode/utf8.acceptRanges" Lib.acceptData := by rw [← Zpg]; exact Lib.laidMet.reads hm (.head _)
  exact utf8Tabs_of_reads (ρ:=Tryz.Zi2) Tryz.lays260 ⟨by kernel_rfl,by kernel_rfl,by kernel_rfl,by kernel_rfl,by kernel_rfl,by kernel_rfl,by kernel_rfl⟩ h3 h4
 ·exact cell_of_shapedOpen_int (P:=Tryz.prog) (g:=1) (t:=3) (zero:=#[.int .i64 0]) hsh (of_decide_eq_true (by kernel_rfl)) (by kernel_rfl) rfl (by kernel_rfl) (by kernel_rfl) Tryz.underlying3
noncomputable def laidWorld (os:Os):World :=
 let w0:=World.holding Tryz.prog os ⟨#[],#[],[]⟩
 let put (h:Array Obj) (g:Nat) (cs:Array Value):Array Obj:=h.modify g fun
  | .cells _ t frozen=>.cells cs t frozen
  | o=>o
 let h1:=put w0.heap 2 (Lib.firstTab.map fun z=>Value.int .u8 z).toArray
 let h2:=put h1 3 ((List.range 16).flatMap fun i=>[Value.int .u8 (Lib.accLo i),Value.int .u8 (Lib.accHi i)]).toArray
 { w0 with heap:=h2 }
theorem Zrj (os:Os) (args:Array Value):laidMet Tryz.prog laidL ((laidWorld os).forCall (fun _ _=>0) ⟨#[],args,[]⟩).memory :=
 laidMet_of_run' 10 (by kernel_rfl) (by kernel_rfl)
end YtjbjkmccfocikaaGreatDoor.R
end
section
namespace YtjbjkmccfocikaaGreatDoor.P
open YtjbjkmccfocikaaGreatDoorW.PrintWords
def Tells {α:Type} (f:Nat->Option α) (v:α):Prop:=∃ k0,∀ k,k0<=k->f k=some v
theorem Tells.pure {α:Type} (v:α):Tells (fun _=>some v) v:=⟨0,fun _ _=>rfl⟩
theorem Tells.bind {α β:Type} {f:Nat->Option α} {g:Nat->α->Option β} {v:α} {u:β} (h:Tells f v) (hg:Tells (fun k=>g k v) u):Tells (fun k=>(f k).bind (g k)) u:=by
 obtain ⟨k1,h1⟩:=h
 obtain ⟨k2,h2⟩:=hg
 exact ⟨max k1 k2,fun k hk=>by show (f k).bind (g k)=some u;rw [h1 k (by omega)];exact h2 k (by omega)⟩
theorem Tells.succ {α:Type} {f:Nat->Option α} {v:α} (h:Tells (fun k=>f (k+1)) v):Tells f v:=by
 obtain ⟨k1,h1⟩:=h
 exact ⟨k1+1,fun k hk=>by
  obtain ⟨m,rfl⟩:∃ m,k=m+1:=⟨k - 1,by omega⟩
  exact h1 m (by omega)⟩
theorem Tells.congr {α:Type} {f g:Nat->Option α} {v:α} (h:Tells f v) (e:∀ k,g k=f k):Tells g v:=by
 obtain ⟨k1,h1⟩:=h
 exact ⟨k1,fun k hk=>by rw [e,h1 k hk]⟩
theorem Tells.val {α:Type} {f:Nat->Option α} {v u:α} (h:Tells f v) (e:v=u):Tells f u:=e ▸ h
theorem Tells.ifp {α:Type} {f g:Nat->Option α} {v:α} {c:Prop} [Decidable c] (hc:c) (h:Tells f v):Tells (fun k=>if c then f k else g k) v:=h.congr fun k=>by rw [if_pos hc]
theorem Tells.ifn {α:Type} {f g:Nat->Option α} {v:α} {c:Prop} [Decidable c] (hc:¬ c) (h:Tells g v):Tells (fun k=>if c then f k else g k) v:=h.congr fun k=>by rw [if_neg hc]
theorem Tells.ex {α:Type} {f:Nat->Option α} {v:α} (h:Tells f v):∃ k,f k=some v:=⟨_,h.choose_spec _ (Nat.le_refl _)⟩
end YtjbjkmccfocikaaGreatDoor.P
end
section
namespace YtjbjkmccfocikaaGreatDoor.P.Nm
def val (b:Int):List Int->Int
 | []=>0
 | x :: l=>x+b*val b l
def Dg (b:Int) (l:List Int):Prop:=∀ x ∈ l,0<=x/\x < b
def Nz (l:List Int):Prop:=l.getLast? ≠ some 0
def pw (b:Int):Nat->Int
 | 0=>1
 | n+1=>b*pw b n
theorem Zfg {b:Int} (hb:0 < b):∀ n,0 < pw b n
 | 0=>by simp [pw]
 | n+1=>Int.mul_pos hb (Zfg hb n)
theorem Zhj (b:Int):∀ m n,pw b (m+n)=pw b m*pw b n
 | 0,n=>by simp [pw]
 | m+1,n=>by rw [Nat.add_right_comm];simp only [pw];rw [Zhj b m n,Int.mul_assoc]
theorem Zen (b:Int) (n:Nat):pw b (n+1)=b*pw b n:=rfl
theorem Zqj {b:Int} (hb:1<=b) {m n:Nat} (h:m<=n):pw b m<=pw b n:=by
 obtain ⟨d,rfl⟩:=Nat.exists_eq_add_of_le h
 rw [Zhj]
 have h1:=Zfg (b:=b) (by omega) m
 have h2:=Zfg (b:=b) (by omega) d
 have := Int.mul_le_mul_of_nonneg_left (show 1<=pw b d by omega) (show 0<=pw b m by omega)
 omega
theorem Dg.nil (b:Int):Dg b []:=fun x h=>by cases h
theorem Dg.cons {b x:Int} {l:List Int} (h0:0<=x) (h1:x < b) (h:Dg b l):Dg b (x :: l):=fun y hy=>by
 rcases List.mem_cons.1 hy with rfl|hy
 ·exact ⟨h0,h1⟩
 ·exact h y hy
theorem Dg.head {b x:Int} {l:List Int} (h:Dg b (x :: l)):0<=x/\x < b:=h x List.mem_cons_self
theorem Dg.tail {b x:Int} {l:List Int} (h:Dg b (x :: l)):Dg b l:=fun y hy=>h y (List.mem_cons_of_mem _ hy)
theorem Dg.app {b:Int} {l m:List Int} (h:Dg b l) (k:Dg b m):Dg b (l++m):=fun y hy=>by
 rcases List.mem_append.1 hy with hy|hy
 ·exact h y hy
 ·exact k y hy
theorem Dg.left {b:Int} {l m:List Int} (h:Dg b (l++m)):Dg b l:=fun y hy=>h y (List.mem_append.2 (.inl hy))
theorem Dg.right {b:Int} {l m:List Int} (h:Dg b (l++m)):Dg b m:=fun y hy=>h y (List.mem_append.2 (.inr hy))
theorem Dg.one {b x:Int} (h0:0<=x) (h1:x < b):Dg b [x]:=Dg.cons h0 h1 (Dg.nil b)
theorem Dg.take {b:Int} {l:List Int} (h:Dg b l) (n:Nat):Dg b (l.take n):=fun y hy=>h y (List.mem_of_mem_take hy)
theorem Dg.drop {b:Int} {l:List Int} (h:Dg b l) (n:Nat):Dg b (l.drop n):=fun y hy=>h y (List.mem_of_mem_drop hy)
theorem Dg.zeros {b:Int} (hb:0 < b) (n:Nat):Dg b (List.replicate n 0):=fun y hy=>by
 obtain ⟨_,rfl⟩:=List.mem_replicate.1 hy;exact ⟨Int.le_refl _,hb⟩
theorem Zbk (b x:Int) (l:List Int):val b (x :: l)=x+b*val b l:=rfl
theorem Zf6 (b:Int):val b []=0:=rfl
theorem val_one (b x:Int):val b [x]=x:=by simp [val]
theorem Zg7 (b:Int):∀ l m:List Int,val b (l++m)=val b l+pw b l.length*val b m
 | [],m=>by simp [val,pw]
 | x :: l,m=>by
  simp only [List.cons_append,val,List.length_cons,pw]
  rw [Zg7 b l m,Int.mul_add,Int.mul_assoc,Int.add_assoc]
theorem Zdm (b x:Int) (l:List Int):val b (l ++ [x])=val b l+pw b l.length*x:=by rw [Zg7,val_one]
theorem Zgp (b:Int):∀ n,val b (List.replicate n 0)=0
 | 0=>rfl
 | n+1=>by simp [List.replicate_succ,val,Zgp b n]
theorem Zbj {b:Int} (hb:0 < b):∀ {l:List Int},Dg b l->0<=val b l
 | [],_=>Int.le_refl _
 | x :: l,h=>by
  have h1:=Zbj hb h.tail
  have h2:=Int.mul_nonneg (Int.le_of_lt hb) h1
  have := h.head
  simp only [val];omega
theorem Zd2 {b:Int} (hb:0 < b):∀ {l:List Int},Dg b l->val b l < pw b l.length
 | [],_=>by simp [val,pw]
 | x :: l,h=>by
  have h1:val b l+1<=pw b l.length:=Zd2 hb h.tail
  have h2:=Int.mul_le_mul_of_nonneg_left h1 (Int.le_of_lt hb)
  have := h.head
  rw [Int.mul_add] at h2
  simp only [val,List.length_cons,pw];omega
theorem Zpx {b x v:Int} (h0:0<=x) (h1:x < b):(x+b*v) % b=x:=by
 rw [Int.add_mul_emod_self_left];exact Int.emod_eq_of_lt h0 h1
theorem Zpw {b x v:Int} (h0:0<=x) (h1:x < b):(x+b*v) / b=v:=by
 rw [Int.add_mul_ediv_left _ _ (by omega),Int.ediv_eq_zero_of_lt h0 h1,Int.zero_add]
theorem val_inj {b:Int}:∀ {l m:List Int},Dg b l->Dg b m->l.length=m.length->val b l=val b m->l=m
 | [],[],_,_,_,_=>rfl
 | [],y :: m,_,_,h,_=>by simp at h
 | x :: l,[],_,_,h,_=>by simp at h
 | x :: l,y :: m,hl,hm,h,hv=>by
  simp only [val] at hv
  have e1:=congrArg (· % b) hv
  have e2:=congrArg (· / b) hv
  simp only [Zpx hl.head.1 hl.head.2,Zpx hm.head.1 hm.head.2,Zpw hl.head.1 hl.head.2,Zpw hm.head.1 hm.head.2] at e1 e2
  rw [e1,val_inj hl.tail hm.tail (by simpa using h) e2]
theorem Nz.nil:Nz []:=by simp [Nz]
theorem Zez {l:List Int} {x:Int}:Nz (l ++ [x]) ↔ x ≠ 0:=by simp [Nz]
theorem Zf5 {l:List Int} (h:l ≠ []):∃ m x,l=m ++ [x]:=⟨l.dropLast,l.getLast h,(List.dropLast_concat_getLast h).symm⟩
theorem Ztc {x:Int} {l:List Int} (h:Nz l) (hx:l=[]->x ≠ 0):Nz (x :: l):=by
 by_cases e:l=[]
 ·subst e;exact (Zez (l:=[])).2 (hx rfl)
 ·obtain ⟨m,y,rfl⟩:=Zf5 e
  rw [<- List.cons_append,Zez]
  exact Zez.1 h
theorem Znp {b:Int} (hb:0 < b) {l:List Int} (hd:Dg b l) (hn:Nz l) (h:l ≠ []):pw b (l.length - 1)<=val b l:=by
 obtain ⟨m,x,rfl⟩:=Zf5 h
 have hx:=Zez.1 hn
 have h1:=(hd.right.head).1
 have h2:=Zbj hb hd.left
 have h3:=Zfg hb m.length
 have h4:=Int.mul_le_mul_of_nonneg_left (show 1<=x by omega) (Int.le_of_lt h3)
 rw [Zdm]
 simp only [List.length_append,List.length_cons,List.length_nil,Nat.zero_add,Nat.add_sub_cancel]
 omega
theorem Zfd {b:Int} (hb:1<=b) {l m:List Int} (hl:Dg b l) (hm:Dg b m) (hn:Nz m) (h:l.length < m.length):val b l < val b m:=by
 have h1:=Zd2 (by omega) hl
 have h2:=Znp (by omega) hm hn (by rintro rfl;simp at h)
 have h3:=Zqj hb (show l.length<=m.length - 1 by omega)
 omega
theorem Zue {b:Int} (hb:1<=b) {l m:List Int} (hl:Dg b l) (hm:Dg b m) (hnl:Nz l) (hnm:Nz m) (h:val b l=val b m):l.length=m.length:=by
 rcases Nat.lt_trichotomy l.length m.length with h1|h1|h1
 ·have := Zfd hb hl hm hnm h1;omega
 ·exact h1
 ·have := Zfd hb hm hl hnl h1;omega
theorem Zj5 {b:Int} (hb:1<=b) {l m:List Int} (hl:Dg b l) (hm:Dg b m) (hnl:Nz l) (hnm:Nz m) (h:val b l=val b m):l=m :=
 val_inj hl hm (Zue hb hl hm hnl hnm h) h
theorem Zlc {b:Int} (hb:1<=b) {l:List Int} (hl:Dg b l) (hn:Nz l) {n:Nat} (h:val b l < pw b n):l.length<=n:=by
 by_cases e:l=[]
 ·simp [e]
 ·have h1:=Znp (by omega) hl hn e
  rcases Nat.lt_or_ge n l.length with h2|h2
  ·have := Zqj hb (show n<=l.length - 1 by omega);omega
  ·exact h2
def trimL (l:List Int):List Int:=(l.reverse.dropWhile (· == 0)).reverse
theorem Ze8 (l:List Int):trimL (l ++ [0])=trimL l:=by simp [trimL]
theorem Zfx {x:Int} (l:List Int) (h:x ≠ 0):trimL (l ++ [x])=l ++ [x]:=by simp [trimL,h]
theorem Zmm {P:List Int->Prop} (h0:P []) (h1:∀ l x,P l->P (l ++ [x])) (l:List Int):P l:=by
 have:∀ n,∀ l:List Int,l.length=n->P l:=by
  intro n
  induction n with
  | zero=>intro l h;rw [List.eq_nil_of_length_eq_zero h];exact h0
  | succ n ih =>
   intro l h
   obtain ⟨m,x,rfl⟩:=Zf5 (show l ≠ [] by rintro rfl;simp at h)
   exact h1 m x (ih m (by simpa using h))
 exact this _ l rfl
theorem Zp8 (l:List Int):Nz (trimL l):=by
 induction l using Zmm with
 | h0=>exact Nz.nil
 | h1 l x ih =>
  by_cases e:x=0
  ·rw [e,Ze8];exact ih
  ·rw [Zfx l e];exact Zez.2 e
theorem Zn4 (b:Int) (l:List Int):val b (trimL l)=val b l:=by
 induction l using Zmm with
 | h0=>rfl
 | h1 l x ih =>
  by_cases e:x=0
  ·rw [e,Ze8,ih,Zdm,Int.mul_zero,Int.add_zero]
  ·rw [Zfx l e]
theorem Zfi (l:List Int):∃ n,l=trimL l++List.replicate n 0:=by
 induction l using Zmm with
 | h0=>exact ⟨0,rfl⟩
 | h1 l x ih =>
  by_cases e:x=0
  ·obtain ⟨n,hn⟩:=ih
   refine ⟨n+1,?_⟩
   rw [e,Ze8,List.replicate_succ',<- List.append_assoc,<- hn]
  ·exact ⟨0,by rw [Zfx l e];simp⟩
theorem Dg.trim {b:Int} {l:List Int} (h:Dg b l):Dg b (trimL l):=by
 obtain ⟨n,hn⟩:=Zfi l
 rw [hn] at h;exact h.left
theorem Zr0 (l:List Int):(trimL l).length<=l.length:=by
 obtain ⟨n,hn⟩:=Zfi l
 have := congrArg List.length hn
 simp at this;omega
def ofF (b:Nat):Nat->Nat->List Int
 | 0,_=>[]
 | f+1,n=>if n=0 then [] else ((n % b:Nat):Int) :: ofF b f (n / b)
def ofV (b n:Nat):List Int:=ofF b n n
theorem Zsk {b:Nat} (hb:2<=b):∀ (f g n:Nat),n<=f->n<=g->ofF b f n=ofF b g n
 | 0,0,_,_,_=>rfl
 | 0,g+1,n,h,_=>by simp only [ofF];rw [if_pos (by omega)]
 | f+1,0,n,_,h=>by simp only [ofF];rw [if_pos (by omega)]
 | f+1,g+1,n,h1,h2=>by
  simp only [ofF]
  split
  ·rfl
  ·have := Nat.div_lt_self (show 0 < n by omega) (show 1 < b by omega)
   rw [Zsk hb f g (n / b) (by omega) (by omega)]
theorem Zkg (b:Nat):ofV b 0=[]:=rfl
theorem Zf2 {b n:Nat} (hb:2<=b) (hn:n ≠ 0):ofV b n=((n % b:Nat):Int) :: ofV b (n / b):=by
 obtain ⟨m,rfl⟩:∃ m,n=m+1:=⟨n - 1,by omega⟩
 have := Nat.div_lt_self (show 0 < m+1 by omega) (show 1 < b by omega)
 conv=>lhs;unfold ofV;simp only [ofF]
 rw [if_neg hn,Zsk hb m ((m+1) / b) _ (by omega) (Nat.le_refl _)]
 rfl
theorem Zia {b:Nat} (hb:2<=b) (n:Nat):Dg b (ofV b n):=by
 induction n using Nat.strongRecOn with
 | ind n ih =>
  by_cases h:n=0
  ·rw [h,Zkg];exact Dg.nil _
  ·rw [Zf2 hb h]
   have := Nat.mod_lt n (show 0 < b by omega)
   exact Dg.cons (by omega) (by omega) (ih _ (Nat.div_lt_self (by omega) (by omega)))
theorem Zf3 {b:Nat} (hb:2<=b) (n:Nat):val b (ofV b n)=n:=by
 induction n using Nat.strongRecOn with
 | ind n ih =>
  by_cases h:n=0
  ·rw [h,Zkg];rfl
  ·rw [Zf2 hb h,val,ih _ (Nat.div_lt_self (by omega) (by omega))]
   have := Nat.mod_add_div n b
   exact_mod_cast this
theorem Zi4 {b:Nat} (hb:2<=b) (n:Nat):Nz (ofV b n):=by
 induction n using Nat.strongRecOn with
 | ind n ih =>
  by_cases h:n=0
  ·rw [h,Zkg];exact Nz.nil
  ·rw [Zf2 hb h]
   refine Ztc (ih _ (Nat.div_lt_self (by omega) (by omega))) (fun e=>?_)
   have h1:n / b=0:=by
    by_cases h2:n / b=0
    ·exact h2
    ·rw [Zf2 hb h2] at e;cases e
   have := Nat.mod_add_div n b
   rw [h1] at this
   simp at this
   omega
theorem Zsm {b:Nat} (hb:2<=b) {l:List Int} (hd:Dg b l) (hn:Nz l):ofV b (val b l).toNat=l:=by
 have h0:=Zbj (show (0:Int) < b by omega) hd
 refine Zj5 (b:=b) (by omega) (Zia hb _) hd (Zi4 hb _) hn ?_
 rw [Zf3 hb];omega
theorem Zme {b:Nat} (hb:2<=b) {n:Nat} (h:ofV b n=[]):n=0:=by
 have := Zf3 hb n
 rw [h] at this;simp [val] at this;omega
theorem Zsl {b:Nat} (hb:2<=b) {n:Nat} (h:n ≠ 0):ofV b n ≠ []:=fun e=>h (Zme hb e)
theorem Zh0 {b:Nat} (hb:2<=b) {n k:Nat} (h:(n:Int) < pw b k):(ofV b n).length<=k :=
 Zlc (by omega) (Zia hb n) (Zi4 hb n) (by rw [Zf3 hb];exact h)
theorem Zgl (b:Nat):∀ n,pw b n=((b ^ n:Nat):Int)
 | 0=>rfl
 | n+1=>by simp only [pw];rw [Zgl b n,Nat.pow_succ,Nat.mul_comm];simp
theorem Zh1 {b:Nat} (hb:2<=b) (n:Nat):n < b ^ (ofV b n).length:=by
 have h:=Zd2 (show (0:Int) < b by omega) (Zia hb n)
 rw [Zf3 hb,Zgl] at h
 exact_mod_cast h
theorem Zju {b:Nat} (hb:2<=b) {n:Nat} (h:n ≠ 0):b ^ ((ofV b n).length - 1)<=n:=by
 have h:=Znp (show (0:Int) < b by omega) (Zia hb n) (Zi4 hb n) (Zsl hb h)
 rw [Zf3 hb,Zgl] at h
 exact_mod_cast h
theorem Zp9 {b:Nat} (hb:2<=b) {n k:Nat} (h1:b ^ k<=n) (h2:n < b ^ (k+1)):(ofV b n).length=k+1:=by
 have h0:n ≠ 0:=by have := Nat.pow_pos (n:=k) (show 0 < b by omega);omega
 have a1:=Zh1 hb n
 have a2:=Zju hb h0
 have b1:k < (ofV b n).length:=(Nat.pow_lt_pow_iff_right (show 1 < b by omega)).1 (Nat.lt_of_le_of_lt h1 a1)
 have b2:(ofV b n).length - 1 < k+1:=(Nat.pow_lt_pow_iff_right (show 1 < b by omega)).1 (Nat.lt_of_le_of_lt a2 h2)
 omega
theorem Zqa {b:Nat} (hb:2<=b) {n:Nat} (h:n ≠ 0) (k:Nat):ofV b (n*b ^ k)=List.replicate k 0++ofV b n:=by
 have hp:=Nat.pow_pos (n:=k) (show 0 < b by omega)
 refine Zj5 (b:=b) (by omega) (Zia hb _) ((Dg.zeros (by omega) k).app (Zia hb n)) (Zi4 hb _) ?_ ?_
 ·obtain ⟨m,x,e⟩:=Zf5 (Zsl hb h)
  have := Zi4 hb n
  rw [e] at this ⊢
  rw [<- List.append_assoc]
  exact Zez.2 (Zez.1 this)
 ·rw [Zf3 hb,Zg7,Zgp,Zf3 hb,List.length_replicate,Zgl]
  rw [Nat.mul_comm];simp
def num (l:List Int):Nat:=(val 4294967296 l).toNat
def limbs (n:Nat):List Int:=ofV 4294967296 n
def fit (n:Nat):List Int × Int:=if (limbs n).length<=256 then (limbs n,0) else ([],51)
structure Ok (l:List Int):Prop where
 len:l.length<=256
 dg:Dg 4294967296 l
 nz:Nz l
def okW (l:List Int):Bool:=decide (l.length<=1000000) && (l.all (fun x=>decide (0<=x) && decide (x < 4294967296)) && (l.getLast? != some 0))
structure OkW (l:List Int):Prop where
 len:l.length<=1000000
 dg:Dg 4294967296 l
 nz:Nz l
theorem Ze0 {l:List Int}:okW l=true ↔ OkW l:=by
 constructor
 ·intro h
  simp only [okW,Bool.and_eq_true,decide_eq_true_eq,List.all_eq_true,bne_iff_ne] at h
  exact ⟨h.1,fun x hx=>h.2.1 x hx,h.2.2⟩
 ·intro h
  simp only [okW,Bool.and_eq_true,decide_eq_true_eq,List.all_eq_true,bne_iff_ne]
  exact ⟨h.len,fun x hx=>h.dg x hx,h.nz⟩
theorem Zdl {l:List Int} (h:Dg 4294967296 l):((num l:Nat):Int)=val 4294967296 l:=by
 have := Zbj (b:=4294967296) (by omega) h
 unfold num;omega
theorem Zdf (n:Nat):Dg 4294967296 (limbs n):=Zia (b:=4294967296) (by omega) n
theorem Zkc (n:Nat):Nz (limbs n):=Zi4 (b:=4294967296) (by omega) n
theorem Zhd (n:Nat):val 4294967296 (limbs n)=n:=Zf3 (b:=4294967296) (by omega) n
theorem Zc5 (n:Nat):num (limbs n)=n:=by unfold num;rw [Zhd];rfl
theorem Zle {l:List Int} (h:Ok l):limbs (num l)=l:=Zsm (b:=4294967296) (by omega) h.dg h.nz
theorem Zrk {n:Nat} (h:(limbs n).length<=256):Ok (limbs n):=⟨h,Zdf n,Zkc n⟩
theorem Znm {l:List Int} {n:Nat} (hd:Dg 4294967296 l) (hn:Nz l) (h:val 4294967296 l=n):l=limbs n :=
 Zj5 (b:=4294967296) (by omega) hd (Zdf n) hn (Zkc n) (by rw [Zhd];exact h)
theorem Zjt {l:List Int} {n:Nat} (hd:Dg 4294967296 l) (h:val 4294967296 l=n):trimL l=limbs n :=
 Znm hd.trim (Zp8 l) (by rw [Zn4];exact h)
theorem Zp6 {l:List Int} (h:Dg 4294967296 l):num l < 4294967296 ^ l.length:=by
 have h1:=Zd2 (b:=4294967296) (by omega) h
 have h2:=Zdl h
 have h3:=Zgl 4294967296 l.length
 have:((num l:Nat):Int) < ((4294967296 ^ l.length:Nat):Int):=by rw [h2,<- h3];exact h1
 exact_mod_cast this
def digs (n:Nat):List Int:=ofV 10 n
def decT (n:Nat):ByteArray:=if n=0 then ⟨#[48]⟩ else ⟨((digs n).reverse.map fun d=>UInt8.ofNat (48+d.toNat)).toArray⟩
def numT (s:ByteArray):Nat:=s.data.toList.foldl (fun n c=>n*10+(c.toNat - 48)) 0
def isDig (c:UInt8):Bool:=decide (48<=c.toNat) && decide (c.toNat<=57)
def rootF:Nat->Nat->Nat
 | 0,_=>0
 | f+1,n=>if n=0 then 0 else
  let r:=2*rootF f (n / 4)
  if (r+1)*(r+1)<=n then r+1 else r
def root (n:Nat):Nat:=rootF n n
theorem Zny:∀ (f n:Nat),n<=f->rootF f n*rootF f n<=n/\n < (rootF f n+1)*(rootF f n+1)
 | 0,n,h=>by
  obtain rfl:n=0:=by omega
  decide
 | f+1,n,h=>by
  by_cases h0:n=0
  ·subst h0;simp [rootF]
  ·obtain ⟨h1,h2⟩:=Zny f (n / 4) (by omega)
   simp only [rootF]
   rw [if_neg h0]
   obtain ⟨r,hr⟩:∃ r,rootF f (n / 4)=r:=⟨_,rfl⟩
   rw [hr] at h1 h2 ⊢
   have e1:(2*r)*(2*r)=4*(r*r):=by rw [Nat.mul_mul_mul_comm]
   have e2:(2*r+1)*(2*r+1)=4*(r*r)+4*r+1:=by rw [Nat.add_mul,Nat.mul_add,e1];omega
   have e3:(r+1)*(r+1)=r*r+2*r+1:=by rw [Nat.add_mul,Nat.mul_add];omega
   have e4:(2*r+1+1)*(2*r+1+1)=4*((r+1)*(r+1)):=by rw [show 2*r+1+1=2*(r+1) by omega,Nat.mul_mul_mul_comm]
   split
   ·rename_i hc
    exact ⟨hc,by rw [e4];omega⟩
   ·rename_i hc
    exact ⟨by rw [e1];omega,by omega⟩
theorem Zgm (n:Nat):root n*root n<=n/\n < (root n+1)*(root n+1):=Zny n n (Nat.le_refl _)
theorem Zqq {n r:Nat} (h1:r*r<=n) (h2:n < (r+1)*(r+1)):r=root n:=by
 obtain ⟨a1,a2⟩:=Zgm n
 have hs:∀ x y:Nat,x*x<=n->n < (y+1)*(y+1)->x<=y:=fun x y hx hy=>by
  refine Nat.not_lt.1 (fun h=>?_)
  have := Nat.mul_le_mul (show y+1<=x by omega) (show y+1<=x by omega)
  omega
 exact Nat.le_antisymm (hs _ _ h1 a2) (hs _ _ a1 h2)
def tzF:Nat->Nat->Nat
 | 0,_=>0
 | f+1,n=>if n % 10=0 then tzF f (n / 10)+1 else 0
def tz (n:Nat):Nat:=if n=0 then 0 else tzF n n
def core (n:Nat):Nat:=n / 10 ^ tz n
theorem Zbv (k:Nat):0 < 10 ^ k:=Nat.pow_pos (by omega)
theorem Zsp:∀ (f n:Nat),n<=f->n ≠ 0 -> ∃ c,n=c*10 ^ tzF f n/\c % 10 ≠ 0
 | 0,n,h,h0=>by omega
 | f+1,n,h,h0=>by
  simp only [tzF]
  split
  ·rename_i hm
   obtain ⟨c,hc,hc2⟩:=Zsp f (n / 10) (by omega) (by omega)
   refine ⟨c,?_,hc2⟩
   rw [Nat.pow_succ,<- Nat.mul_assoc,<- hc]
   omega
  ·rename_i hm
   exact ⟨n,by simp,hm⟩
theorem Zmt {n:Nat} (h:n ≠ 0):n=core n*10 ^ tz n/\core n % 10 ≠ 0:=by
 obtain ⟨c,hc,hc2⟩:=Zsp n n (Nat.le_refl _) h
 have e:tz n=tzF n n:=by unfold tz;rw [if_neg h]
 have e2:core n=c:=by
  unfold core
  rw [e]
  conv=>lhs;arg 1;rw [hc]
  exact Nat.mul_div_cancel _ (Zbv _)
 rw [e2,e]
 exact ⟨hc,hc2⟩
theorem Zj6 {n:Nat} (h:n ≠ 0):core n ≠ 0:=fun e=>(Zmt h).2 (by rw [e])
theorem Ztm {c d j k:Nat} (hc:c % 10 ≠ 0) (hd:d % 10 ≠ 0) (h:c*10 ^ j=d*10 ^ k):c=d/\j=k:=by
 have aux:∀ {c d j k:Nat},c % 10 ≠ 0->c*10 ^ j=d*10 ^ k->k<=j:=fun {c d j k} hc h=>by
  refine Nat.not_lt.1 (fun hlt=>?_)
  obtain ⟨m,rfl⟩:=Nat.exists_eq_add_of_lt hlt
  rw [show j+m+1=(m+1)+j by omega,Nat.pow_add,<- Nat.mul_assoc] at h
  have := Nat.eq_of_mul_eq_mul_right (Zbv j) h
  rw [this,Nat.pow_succ,<- Nat.mul_assoc] at hc
  omega
 have e:j=k:=Nat.le_antisymm (aux hd h.symm) (aux hc h)
 subst e
 exact ⟨Nat.eq_of_mul_eq_mul_right (Zbv j) h,rfl⟩
theorem Zl3 {n c k:Nat} (hc:c % 10 ≠ 0) (h:n=c*10 ^ k):core n=c/\tz n=k:=by
 have hn:n ≠ 0:=by
  have := Nat.mul_pos (show 0 < c by omega) (Zbv k)
  omega
 obtain ⟨h1,h2⟩:=Zmt hn
 exact Ztm h2 hc (h1.symm.trans h)
theorem Zof {n:Nat} (h:n ≠ 0) (k:Nat):core (n*10 ^ k)=core n/\tz (n*10 ^ k)=tz n+k:=by
 obtain ⟨h1,h2⟩:=Zmt h
 refine Zl3 h2 ?_
 rw [Nat.pow_add,<- Nat.mul_assoc,<- h1]
theorem Zk4 {n:Nat} (h:n % 10 ≠ 0):core n=n/\tz n=0:=Zl3 (k:=0) h (by simp)
theorem Zsz (n:Nat):core n<=n:=Nat.div_le_self _ _
def nd (n:Nat):Nat:=(digs n).length
theorem Zcg (n:Nat):Dg 10 (digs n):=Zia (b:=10) (by omega) n
theorem Zix (n:Nat):Nz (digs n):=Zi4 (b:=10) (by omega) n
theorem Zco (n:Nat):val 10 (digs n)=n:=Zf3 (b:=10) (by omega) n
theorem Zj7 {l:List Int} {n:Nat} (hd:Dg 10 l) (hn:Nz l) (h:val 10 l=n):l=digs n :=
 Zj5 (b:=10) (by omega) hd (Zcg n) hn (Zix n) (by rw [Zco];exact h)
theorem Zef:digs 0=[]:=rfl
theorem Zre {n:Nat} (h:digs n=[]):n=0:=Zme (b:=10) (by omega) h
theorem Ziw {n:Nat} (h:n ≠ 0):digs n ≠ []:=fun e=>h (Zre e)
theorem Zed {n:Nat} (h:n ≠ 0):digs n=((n % 10:Nat):Int) :: digs (n / 10):=Zf2 (b:=10) (by omega) h
theorem Zhx {n:Nat} (h:n ≠ 0) (k:Nat):digs (n*10 ^ k)=List.replicate k 0++digs n:=Zqa (b:=10) (by omega) h k
theorem Zg5 (n:Nat):n < 10 ^ nd n:=Zh1 (b:=10) (by omega) n
theorem Zp0 {n:Nat} (h:n ≠ 0):10 ^ (nd n - 1)<=n:=Zju (b:=10) (by omega) h
theorem Zmc:nd 0=0:=rfl
theorem Zgh {n:Nat} (h:n ≠ 0):0 < nd n:=by
 rcases Nat.eq_zero_or_pos (nd n) with e|e
 ·exact absurd (List.eq_nil_of_length_eq_zero e) (Ziw h)
 ·exact e
theorem Zu4 {n k:Nat} (h1:10 ^ k<=n) (h2:n < 10 ^ (k+1)):nd n=k+1:=Zp9 (b:=10) (by omega) h1 h2
theorem Zgg {n k:Nat} (h:n < 10 ^ k):nd n<=k:=Zh0 (b:=10) (by omega) (by rw [Zgl];exact_mod_cast h)
theorem Zcv {m n:Nat} (h:m<=n):nd m<=nd n:=Zgg (Nat.lt_of_le_of_lt h (Zg5 n))
theorem Znn {n:Nat} (h:n ≠ 0) (k:Nat):nd (n*10 ^ k)=nd n+k:=by unfold nd;rw [Zhx h];simp [Nat.add_comm]
theorem Zma {n:Nat} (h:n ≠ 0):nd n=nd (core n)+tz n:=by
 conv=>lhs;rw [(Zmt h).1]
 exact Znn (Zj6 h) _
structure Dm where
 neg:Bool
 n:Nat
 e:Int
deriving DecidableEq
def zeroD:Dm:=⟨false,0,0⟩
def settleD (a:Dm):Dm × Int :=
 if a.n=0 then (zeroD,0) else if 300 < nd (core a.n) then (zeroD,51) else if a.e+tz a.n < -1000\/1000 < a.e+tz a.n then (zeroD,52) else (⟨a.neg,core a.n,a.e+tz a.n⟩,0)
structure OkD (a:Dm):Prop where
 zero:a.n=0->a=zeroD
 last:a.n ≠ 0->a.n % 10 ≠ 0
 len:nd a.n<=300
 low : -1000<=a.e
 high:a.e<=1000
theorem OkD.zeroD:OkD zeroD:=⟨fun _=>rfl,fun h=>absurd rfl h,by decide,by decide,by decide⟩
theorem Zgn (a:Dm):settleD a=(zeroD,0)/\a.n=0\/settleD a=(zeroD,51)/\a.n ≠ 0\/settleD a=(zeroD,52)/\a.n ≠ 0 \/
  settleD a=(⟨a.neg,core a.n,a.e+tz a.n⟩,0)/\a.n ≠ 0/\nd (core a.n)<=300 /\ -1000<=a.e+tz a.n/\a.e+tz a.n<=1000:=by
 unfold settleD
 by_cases h:a.n=0
 ·rw [if_pos h];exact .inl ⟨rfl,h⟩
 ·rw [if_neg h]
  by_cases h1:300 < nd (core a.n)
  ·rw [if_pos h1];exact .inr (.inl ⟨rfl,h⟩)
  ·rw [if_neg h1]
   by_cases h2:a.e+tz a.n < -1000\/1000 < a.e+tz a.n
   ·rw [if_pos h2];exact .inr (.inr (.inl ⟨rfl,h⟩))
   ·rw [if_neg h2];exact .inr (.inr (.inr ⟨rfl,h,by omega,by omega,by omega⟩))
theorem Zlp (a:Dm):OkD (settleD a).1:=by
 rcases Zgn a with ⟨h,_⟩|⟨h,_⟩|⟨h,_⟩|⟨h,h0,h1,h2,h3⟩ <;> rw [h]
 ·exact OkD.zeroD
 ·exact OkD.zeroD
 ·exact OkD.zeroD
 ·exact ⟨fun e=>absurd e (Zj6 h0),fun _=>(Zmt h0).2,h1,h2,h3⟩
theorem Zja {a:Dm} (h:OkD a):settleD a=(a,0):=by
 obtain ⟨s,n,e⟩:=a
 by_cases h0:n=0
 ·have := h.zero h0
  unfold settleD
  rw [if_pos h0,this]
 ·have h1:=h.last h0
  obtain ⟨c,t⟩:=Zk4 h1
  have := h.len;have := h.low;have := h.high
  simp only at *
  unfold settleD
  rw [if_neg h0]
  simp only [c,t]
  rw [if_neg (by omega),if_neg (by omega)]
  simp
theorem Zlq (s:Bool) (n:Nat) (e:Int) (k:Nat):settleD ⟨s,n*10 ^ k,e - k⟩=settleD ⟨s,n,e⟩:=by
 by_cases h:n=0
 ·subst h;simp [settleD]
 ·obtain ⟨h1,h2⟩:=Zof h k
  have h3:n*10 ^ k ≠ 0:=by have := Nat.mul_pos (Nat.pos_of_ne_zero h) (Zbv k);omega
  unfold settleD
  simp only
  rw [if_neg h,if_neg h3,h1,h2]
  have e1:e - (k:Int)+((tz n+k:Nat):Int)=e+(tz n:Int):=by omega
  rw [e1]
end YtjbjkmccfocikaaGreatDoor.P.Nm
end
section
namespace YtjbjkmccfocikaaGreatDoorW.PrintLast
open YtjbjkmccfocikaaGreatDoorW.PrintWords (Aside0)
def needsOf (md:Region.Mode) (o:Oper):List Nat:=(o.after.toList.filter (fun e=>Region.binds md e)).map (fun e=>e.on)
def clashOf (md:Region.Mode) (ops:Array Oper) (i:Nat) (oi:Oper):List Nat:=(List.range ops.size).filter fun j => !(j == i) && match ops[j]? with
 | some oj => !(oj.after.any (fun e=>Region.binds md e && e.on == i) || oi.apart ops oj)
 | none=>false
def rtab (md:Region.Mode) (ops:Array Oper):Bool × List (List Nat × List Nat):=(Region.noSelect ops,(List.range ops.size).map fun i=>match ops[i]? with
 | some o=>(needsOf md o,clashOf md ops i o)
 | none=>([],[]))
def readyAt (T:List (List Nat × List Nat)) (l:List Bool) (i:Nat):Bool:=!l.getD i true && match T[i]? with
 | some r=>r.1.all (fun j=>l.getD j false)
 | none=>false
def readyT (T:List (List Nat × List Nat)) (l:List Bool):List Nat:=(List.range T.length).filter (readyAt T l)
def freeT (T:List (List Nat × List Nat)) (l:List Bool) (i:Nat):Bool:=match T[i]? with
 | some r=>r.2.all (fun j=>l.getD j true)
 | none=>false
def closedT (T:List (List Nat × List Nat)) (l:List Bool):Bool:=(List.range T.length).all fun j => !l.getD j false || match T[j]? with
 | some r=>r.1.all (fun k=>l.getD k false)
 | none=>true
def reachT (T:List (List Nat × List Nat)) (i:Nat):Nat->Nat->Bool
 | 0,_=>false
 | fuel+1,d=>match T[d]? with
  | some r=>r.1.any fun j=>j == i || reachT T i fuel j
  | none=>false
def lastT (T:List (List Nat × List Nat)) (l:List Bool) (ds:List Nat) (i:Nat):Bool:=ds.all fun d=>l.getD d true || reachT T i T.length d
section
variable {md:Region.Mode} {ops:Array Oper} {T:Bool × List (List Nat × List Nat)} {l l' li lj lk:Array Bool} {ds:List Nat} {i j k:Nat}
theorem gd (l:Array Bool) (j:Nat) (b:Bool):l.getD j b=l.toList.getD j b:=by simp [Array.getD_eq_getD_getElem?,List.getD_eq_getElem?_getD]
theorem Zlh (o:Oper) (p:Nat->Bool):o.after.all (fun e => !Region.binds md e || p e.on)=(needsOf md o).all p:=by
 unfold needsOf
 rw [<- Array.all_toList]
 induction o.after.toList with
 | nil=>rfl
 | cons e r ih =>
  rw [List.all_cons,ih,List.filter_cons]
  cases h:Region.binds md e <;> simp
theorem Zp1 (o:Oper) (p:Nat->Bool):o.after.any (fun e=>Region.binds md e && p e.on)=(needsOf md o).any p:=by
 unfold needsOf
 rw [<- Array.any_toList]
 induction o.after.toList with
 | nil=>rfl
 | cons e r ih =>
  rw [List.any_cons,ih,List.filter_cons]
  cases h:Region.binds md e <;> simp
theorem Zf4:(rtab md ops).2.length=ops.size:=by simp [rtab]
theorem Zhm {o:Oper} (h:ops[i]? = some o):(rtab md ops).2[i]? = some (needsOf md o,clashOf md ops i o):=by
 have hi:=(Array.getElem?_eq_some_iff.1 h).1
 unfold rtab
 rw [List.getElem?_map,List.getElem?_range hi,Option.map_some,h]
theorem Zhl (h:ops[i]? = none):(rtab md ops).2[i]? = none:=by
 have hi:ops.size<=i:=Array.getElem?_eq_none_iff.1 h
 exact List.getElem?_eq_none (by rw [Zf4];exact hi)
theorem Zom:readyAt (rtab md ops).2 l.toList i=(!l.getD i true && ((ops[i]?).map (·.after.all fun e => !Region.binds md e || l.getD e.on false)).getD false):=by
 unfold readyAt
 rw [gd]
 cases h:ops[i]? with
 | none=>rw [Zhl h];rfl
 | some o =>
  rw [Zhm h]
  simp only [Option.map_some,Option.getD_some]
  rw [<- Zlh]
  simp only [gd]
theorem Zkl:Region.ready md ops l=readyT (rtab md ops).2 l.toList:=by
 unfold Region.ready readyT
 rw [Zf4]
 refine List.filter_congr (fun i _=>?_)
 rw [Zom]
theorem Zpr:Region.free md ops l i=freeT (rtab md ops).2 l.toList i:=by
 unfold Region.free freeT
 cases h:ops[i]? with
 | none=>rw [Zhl h]
 | some oi =>
  rw [Zhm h]
  simp only [clashOf]
  rw [List.all_filter]
  congr 1
  funext j
  rw [gd]
  cases hj:ops[j]? with
  | none=>cases (j == i) <;> cases (l.toList.getD j true) <;> simp
  | some oj =>
   cases (j == i) <;> cases (l.toList.getD j true) <;> cases (oj.after.any (fun e=>Region.binds md e && e.on == i) || oi.apart ops oj) <;> simp_all
theorem Zpn:Region.closedB md ops l=closedT (rtab md ops).2 l.toList:=by
 unfold Region.closedB closedT
 rw [Zf4]
 congr 1
 funext j
 rw [gd]
 cases h:ops[j]? with
 | none=>rw [Zhl h]
 | some o =>
  rw [Zhm h]
  simp only
  rw [<- Zlh]
  simp only [gd]
theorem Znv:∀ (fuel d:Nat),Region.reachB md ops i fuel d=reachT (rtab md ops).2 i fuel d
 | 0,_=>rfl
 | fuel+1,d=>by
  unfold Region.reachB reachT
  cases h:ops[d]? with
  | none=>rw [Zhl h]
  | some o =>
   rw [Zhm h]
   simp only
   rw [<- Zp1]
   congr 1
   funext e
   rw [Znv fuel]
theorem Zs4:Region.lastB md ops l ds i=lastT (rtab md ops).2 l.toList ds i:=by
 unfold Region.lastB lastT
 rw [Zf4]
 congr 1
 funext d
 rw [gd,Znv]
theorem Zi8 (h:readyAt T.2 l.toList i=true) (hT:rtab md ops=T):(Region.ready md ops l).contains i=true:=by
 subst hT
 rw [Zkl]
 unfold readyT
 rw [List.contains_iff_mem,List.mem_filter,List.mem_range]
 refine ⟨?_,h⟩
 unfold readyAt at h
 rw [Bool.and_eq_true] at h
 cases hq:(rtab md ops).2[i]? with
 | none=>rw [hq] at h;simp at h
 | some r=>exact (List.getElem?_eq_some_iff.1 hq).1
theorem Zqs (h:(l.toList.set i true == l'.toList)=true):(l.setIfInBounds i true == l')=true:=by
 rw [beq_iff_eq] at h ⊢
 apply Array.ext'
 rw [Array.toList_setIfInBounds]
 exact h
def anyT (T:Bool × List (List Nat × List Nat)) (l l':List Bool) (i:Nat):Bool:=T.1 && freeT T.2 l i && readyAt T.2 l i && (l.set i true == l')
theorem Zt9 (hT:rtab md ops=T) (h:anyT T l.toList l'.toList i=true):anyB md ops l l' i=true:=by
 simp only [anyT,Bool.and_eq_true] at h
 obtain ⟨⟨⟨h1,h2⟩,h3⟩,h4⟩:=h
 have h5:=Zi8 h3 hT
 have h6:=Zqs h4
 subst hT
 simp only [anyB,Bool.and_eq_true]
 exact ⟨⟨⟨h1,by rw [Zpr];exact h2⟩,h5⟩,h6⟩
def takeT (T:Bool × List (List Nat × List Nat)) (ds:List Nat) (l l':List Bool) (i:Nat):Bool:=T.1 && freeT T.2 l i && readyAt T.2 l i && closedT T.2 l && lastT T.2 l ds i && (l.set i true == l')
theorem Ztl (hT:rtab md ops=T) (h:takeT T ds l.toList l'.toList i=true):takeB md ops ds l l' i=true:=by
 simp only [takeT,Bool.and_eq_true] at h
 obtain ⟨⟨⟨⟨⟨h1,h2⟩,h3⟩,h4⟩,h5⟩,h6⟩:=h
 have h7:=Zi8 h3 hT
 have h8:=Zqs h6
 subst hT
 simp only [takeB,Bool.and_eq_true]
 exact ⟨⟨⟨⟨⟨h1,by rw [Zpr];exact h2⟩,h7⟩,by rw [Zpn];exact h4⟩,by rw [Zs4];exact h5⟩,h8⟩
theorem Zc6 (hT:rtab md ops=T) (h:(readyT T.2 l.toList == [i] && l.toList.set i true == l'.toList)=true):readyB md ops l l' i=true:=by
 simp only [Bool.and_eq_true] at h
 obtain ⟨h1,h2⟩:=h
 subst hT
 simp only [readyB,Bool.and_eq_true]
 exact ⟨by rw [Zkl];exact h1,Zqs h2⟩
theorem Zex (hT:rtab md ops=T) (h:(readyT T.2 l.toList == [])=true):(Region.ready md ops l == [])=true:=by
 subst hT
 rw [Zkl]
 exact h
def upM (B:List Nat) (d:Nat):List Nat->Nat
 | []=>0
 | n :: r=>(2 ^ n ||| (if n < d then B.getD n 0 else 0)) ||| upM B d r
def waitsOk (T:List (List Nat × List Nat)) (B:List Nat):Bool:=(List.range T.length).all fun d=>match T[d]? with
 | some r=>(B.getD d 0 ||| upM B d r.1) == upM B d r.1
 | none=>false
theorem Zqy {B:List Nat} {d i:Nat}:∀ {ns:List Nat},(upM B d ns).testBit i=true -> ∃ n ∈ ns,n=i\/(n < d/\(B.getD n 0).testBit i=true)
 | [],h=>by simp [upM] at h
 | n :: r,h=>by
  unfold upM at h
  rw [Nat.testBit_or,Nat.testBit_or,Bool.or_eq_true,Bool.or_eq_true] at h
  rcases h with (h|h)|h
  ·rw [Nat.testBit_two_pow] at h
   exact ⟨n,List.mem_cons_self,.inl (by simpa using h)⟩
  ·by_cases hn:n < d
   ·rw [if_pos hn] at h
    exact ⟨n,List.mem_cons_self,.inr ⟨hn,h⟩⟩
   ·rw [if_neg hn] at h
    simp at h
  ·obtain ⟨m,hm,h2⟩:=Zqy h
   exact ⟨m,List.mem_cons_of_mem _ hm,h2⟩
theorem Zln {T:List (List Nat × List Nat)} {B:List Nat} (hB:waitsOk T B=true):∀ (fuel d:Nat),d < fuel->d < T.length->(B.getD d 0).testBit i=true->reachT T i fuel d=true
 | 0,d,h,_,_=>by omega
 | fuel+1,d,h,hd,hb=>by
  have h1:=List.all_eq_true.1 hB d (List.mem_range.2 hd)
  cases hr:T[d]? with
  | none=>rw [hr] at h1;simp at h1
  | some r =>
   rw [hr] at h1
   simp only [beq_iff_eq] at h1
   have h2:(upM B d r.1).testBit i=true:=by rw [<- h1,Nat.testBit_or,hb,Bool.true_or]
   obtain ⟨n,hn,h3⟩:=Zqy h2
   unfold reachT
   rw [hr]
   simp only
   rw [List.any_eq_true]
   refine ⟨n,hn,?_⟩
   rcases h3 with rfl|⟨h4,h5⟩
   ·simp
   ·rw [Zln hB fuel n (by omega) (by omega) h5,Bool.or_true]
def lastW (T:List (List Nat × List Nat)) (B:List Nat) (l:List Bool) (ds:List Nat) (i:Nat):Bool:=ds.all fun d=>l.getD d true || (decide (d < T.length) && (B.getD d 0).testBit i)
def takeW (T:Bool × List (List Nat × List Nat)) (B:List Nat) (ds:List Nat) (l l':List Bool) (i:Nat):Bool:=T.1 && freeT T.2 l i && readyAt T.2 l i && closedT T.2 l && lastW T.2 B l ds i && (l.set i true == l')
theorem Zcs {B:List Nat} (hT:rtab md ops=T) (hB:waitsOk T.2 B=true) (h:takeW T B ds l.toList l'.toList i=true):takeB md ops ds l l' i=true:=by
 refine Ztl hT ?_
 simp only [takeW,takeT,Bool.and_eq_true] at h ⊢
 obtain ⟨⟨⟨⟨⟨h1,h2⟩,h3⟩,h4⟩,h5⟩,h6⟩:=h
 refine ⟨⟨⟨⟨⟨h1,h2⟩,h3⟩,h4⟩,?_⟩,h6⟩
 unfold lastW at h5
 unfold lastT
 rw [List.all_eq_true] at h5 ⊢
 intro d hd
 have h7:=h5 d hd
 rw [Bool.or_eq_true,Bool.and_eq_true,decide_eq_true_eq] at h7
 rcases h7 with h7|⟨h8,h9⟩
 ·rw [h7,Bool.true_or]
 ·rw [Zln hB _ d h8 h8 h9,Bool.or_true]
theorem Zdo {P:Program} {Q:Exit->Act->World->Prop} {S:World->Prop} {n:Nat} {a:Act} {w:World} {B:List Nat} (hT:rtab md ops=T) (hB:waitsOk T.2 B=true) (h:Aside0 (rtab md ops=T)->Aside0 (waitsOk T.2 B=true)->wpAnyLast P md ops Q S ds n l a w):wpAnyLast P md ops Q S ds n l a w:=h ⟨hT⟩ ⟨hB⟩
end
def opsIn:Code->Nat->Option (Array Oper)
 | .region id ops _,k=>if id == k then some ops else none
 | .seq a b,k=>match opsIn a k with
  | some o=>some o
  | none=>opsIn b k
 | .cond _ a b,k=>match opsIn a k with
  | some o=>some o
  | none=>opsIn b k
 | .block _ c,k=>opsIn c k
 | .loop c,k=>opsIn c k
 | .scope c,k=>opsIn c k
 | .rangeFunc _ _ a b,k=>match opsIn a k with
  | some o=>some o
  | none=>opsIn b k
 | _,_=>none
def opsOf (f:Func) (k:Nat):Array Oper:=((f.body.bind fun c=>opsIn c k)).getD #[]
end YtjbjkmccfocikaaGreatDoorW.PrintLast
end
section
namespace YtjbjkmccfocikaaGreatDoorW.PrintWords
theorem Reps.one {α:Type} {R:α->List Value->Prop} {ps:List α} {cs:List Value} {p:α} {v:Value} (hp:R p [v]) (h:Reps R 1 ps cs):Reps R 1 (p :: ps) (v :: cs):=by
 refine ⟨by simp [h.1],fun j q hq=>?_⟩
 cases j with
 | zero =>
  simp only [List.getElem?_cons_zero,Option.some.injEq] at hq
  subst hq
  simpa using hp
 | succ j =>
  simp only [List.getElem?_cons_succ] at hq
  have h1:=h.2 j q hq
  simpa [Nat.mul_one] using h1
theorem Reps.front {α:Type} {R:α->List Value->Prop} {size:Nat} {ps:List α} {cs c all:List Value} {p:α} (hp:R p c) (hc:c.length=size) (h:Reps R size ps cs) (ha:c++cs=all):Reps R size (p :: ps) all:=by
 subst ha
 refine ⟨by rw [List.length_append,hc,h.1,List.length_cons,Nat.succ_mul,Nat.add_comm],fun j q hq=>?_⟩
 cases j with
 | zero =>
  simp only [List.getElem?_cons_zero,Option.some.injEq] at hq
  subst hq
  rw [Nat.zero_mul,List.drop_zero,List.take_append_of_le_length (by omega),List.take_of_length_le (by omega)]
  exact hp
 | succ j =>
  simp only [List.getElem?_cons_succ] at hq
  have h1:=h.2 j q hq
  rw [Nat.succ_mul,List.drop_append,List.drop_of_length_le (by rw [hc];exact Nat.le_add_left _ _),List.nil_append,hc,Nat.add_sub_cancel]
  exact h1
theorem Reps.c3 {α:Type} {R:α->List Value->Prop} {ps:List α} {cs:List Value} {p:α} {va vb vc:Value} (hp:R p [va,vb,vc]) (h:Reps R 3 ps cs):Reps R 3 (p :: ps) (va :: vb :: vc :: cs):=Reps.front hp rfl h rfl
end YtjbjkmccfocikaaGreatDoorW.PrintWords
end
section
namespace YtjbjkmccfocikaaGreatDoorW.PrintLast
def up (b:Nat->Bool) (i:Nat):Nat->Bool:=fun j=>if j=i then true else b j
section
variable {P:Program} {ops:Array Oper} {Q:Exit->Act->World->Prop} {md:Region.Mode} {T:Bool × List (List Nat × List Nat)} {B:List Nat} {O:List Nat} {b:Nat->Bool} {i j n:Nat}
theorem put_comm {a:Act} {s t:Tmp} {u v:Value} (h:s ≠ t):(a.put (some s) u).put (some t) v=(a.put (some t) v).put (some s) u:=by
 simp only [Act.put]
 rw [Array.setIfInBounds_comm _ _ h]
end
end YtjbjkmccfocikaaGreatDoorW.PrintLast
end
section
namespace YtjbjkmccfocikaaGreatDoorW.PrintWords
open Go.RowKit
section
variable {P:Program} {ops:Array Oper} {rest:List Oper} {o:Oper} {a:Act} {Q:Exit->Act->World->Prop} {W:World}
theorem Za1 (hw:Region.wanted o (yielded ops a.tmps)=true) (h:wpList P ops Q ({ o with guard:=none } :: rest) a W):wpList P ops Q (o :: rest) a W:=by
 have h1:Region.wanted { o with guard:=none } (yielded ops a.tmps)=true:=rfl
 unfold wpList at h ⊢
 rw [if_pos h1] at h
 rw [if_pos hw]
 exact h
end
end YtjbjkmccfocikaaGreatDoorW.PrintWords
end
section
namespace YtjbjkmccfocikaaGreatDoor.B
open Go.RowKit YtjbjkmccfocikaaGreatDoorW.PrintWords YtjbjkmccfocikaaGreatDoorW.PrintLast YtjbjkmccfocikaaGreatDoorW.PrintMore
attribute [local go_sem] Zch Zci Zc9 Zda Zb1 Zb2 Zcp Zcq
def errW:Option Int->Value
 | none=>.nilIface
 | some c=>.iface 0 (.int .i64 c)
theorem Zap:errW none=.nilIface:=rfl
theorem Zaq (c:Int):errW (some c)=.iface 0 (.int .i64 c):=rfl
theorem info3:(Tryz.prog.info? 3).map (fun i=>(i.zero,i.size,i.bytes))=some (some (.int .i64 0),1,8):=by kernel_rfl
theorem info5:(Tryz.prog.info? 5).map (fun i=>(i.zero,i.size,i.bytes))=some (some (.int .u8 0),1,1):=by kernel_rfl
theorem info85:(Tryz.prog.info? 85).map (fun i=>(i.zero,i.size,i.bytes))=some (some (.int .u32 0),1,4):=by kernel_rfl
structure S24 where
 f0:Bool
 f1:(List Int)
 f2:Int
def z24:S24:=⟨false,([]:List Int),(0:Int)⟩
def k24:Kd S24:=Kd.iso (Kd.pair Kd.bool (Kd.pair (Kd.slice 85 (Kd.int .u32)) (Kd.int .i64))) (fun x:S24=>(x.f0,x.f1,x.f2))
theorem Znl {w:World} {x:S24} {cs:List Value} (h:k24.K w x cs):∃ A1 c1,cs=[.bool x.f0,.slice A1 x.f1.length c1,.int .i64 x.f2]/\x.f1.length<=c1/\(Kd.int .u32).C w A1 x.f1.length x.f1:=by
 obtain ⟨_,_,rfl,rfl,⟨_,_,rfl,⟨A1,c1,rfl,l1,g1⟩,rfl⟩⟩:=h
 exact ⟨A1,c1,rfl,l1,g1⟩
theorem Zud (w:World) (x:S24) {A1:Option Addr} {c1:Nat} (l1:x.f1.length<=c1) (g1:(Kd.int .u32).C w A1 x.f1.length x.f1):k24.K w x [.bool x.f0,.slice A1 x.f1.length c1,.int .i64 x.f2]:=⟨[.bool x.f0],[.slice A1 x.f1.length c1,.int .i64 x.f2],rfl,rfl,⟨[.slice A1 x.f1.length c1],[.int .i64 x.f2],rfl,⟨A1,c1,rfl,l1,g1⟩,rfl⟩⟩
theorem Zj9 (W:World) (ok:Nat->Prop) (x:S24) {A1:Option Addr} {c1:Nat} (l1:x.f1.length<=c1) (g1:Kd.F (Kd.int .u32) W ok A1 x.f1.length x.f1):Kd.FK k24 W ok x [.bool x.f0,.slice A1 x.f1.length c1,.int .i64 x.f2]:=fun W2 hW=>Zud W2 x l1 (g1 W2 hW)
end YtjbjkmccfocikaaGreatDoor.B
end
section
namespace YtjbjkmccfocikaaGreatDoor.B
open Go.RowKit YtjbjkmccfocikaaGreatDoorW.PrintWords YtjbjkmccfocikaaGreatDoorW.PrintMore
class Peel (W W':World):Prop where
 out:Below W.heap.size W W'
instance Peel.refl (W:World):Peel W W:=⟨Below.refl _ _⟩
instance Peel.al (W W':World) (o:Obj) [h:Peel W W']:Peel W (W'.alloc o):=⟨Zck h.out o⟩
instance Peel.dr (W W':World) [h:Peel W W']:Peel W W'.drew:=⟨Zfp h.out⟩
instance Peel.dn (W W':World) (n:Nat) [h:Peel W W']:Peel W (W'.drewN n):=⟨Zaz h.out n⟩
theorem pl {W W':World} [h:Peel W W']:Below W.heap.size W W':=h.out
theorem z3 {α:Type} {d:Kd α} {e:Nat} {w:World} {base:Nat} {ok:Nat->Prop} {v:Value} {xs:List α} (h:Kd.R d e w base ok v xs) {g t:Nat} {cs:Array Value} (hb:w.heap[g]? = some (.cells cs t (0,0))) (ht:∀ q,q ∈ e :: d.E->q ≠ t) (u0 u1 u2:Value) :
  Kd.R d e (((w.setCell ⟨g,0,none⟩ u0).setCell ⟨g,1,none⟩ u1).setCell ⟨g,2,none⟩ u2) base ok v xs :=
 Kd.Zo (Kd.Zau (p:=⟨g,2,none⟩) (Kd.Zau (p:=⟨g,1,none⟩) (Kd.Zau (p:=⟨g,0,none⟩) (Kd.Zba h hb ht) (fun _ hk=>hk.2) u0) (fun _ hk=>hk.2) u1) (fun _ hk=>hk.2) u2) (fun _ h_=>h_.1)
class PeelBut (g:Nat) (W W':World):Prop where
 size:W.heap.size<=W'.heap.size
 out:∀ k,k ≠ g->k < W.heap.size->W'.heap[k]? = W.heap[k]?
instance PeelBut.refl (g:Nat) (W:World):PeelBut g W W:=⟨Nat.le_refl _,fun _ _ _=>rfl⟩
instance PeelBut.al (g:Nat) (W W':World) (o:Obj) [h:PeelBut g W W']:PeelBut g W (W'.alloc o):=⟨Nat.le_trans h.size (by simp),fun k h1 h2=>(Below.heap_alloc W' o k (Nat.lt_of_lt_of_le h2 h.size)).trans (h.out k h1 h2)⟩
instance PeelBut.dn (g:Nat) (W W':World) (n:Nat) [h:PeelBut g W W']:PeelBut g W (W'.drewN n):=⟨h.size,h.out⟩
instance PeelBut.st (g i:Nat) (W W':World) (v:Value) [h:PeelBut g W W']:PeelBut g W (W'.setCell ⟨g,i,none⟩ v):=⟨Nat.le_trans h.size (by simp [World.setCell]),fun k h1 h2=>(Below.heap_setCell W' ⟨g,i,none⟩ v k h1).trans (h.out k h1 h2)⟩
theorem bf {W W':World} {g k:Nat} {o:Obj} (hne:k ≠ g) (h:W.heap[k]? = some o) [p:PeelBut g W W']:W'.heap[k]? = some o:=(p.out k hne (Zgz h)).trans h
class PeelTo (W':World) (W:outParam World):Prop where
 out:Below W.heap.size W W'
instance (priority:=low) PeelTo.refl (W:World):PeelTo W W:=⟨Below.refl _ _⟩
instance PeelTo.al (W W':World) (o:Obj) [h:PeelTo W' W]:PeelTo (W'.alloc o) W:=⟨Zck h.out o⟩
instance PeelTo.dn (W W':World) (n:Nat) [h:PeelTo W' W]:PeelTo (W'.drewN n) W:=⟨Zaz h.out n⟩
theorem bp {W W':World} {g:Nat} {o:Obj} [p:PeelTo W' W] (h:W.heap[g]? = some o):W'.heap[g]? = some o:=Zg h p.out
theorem _root_.Go.Proofs.YtjbjkmccfocikaaGreatDoorW.PrintWords.Aside0.o {p:Prop} (h:Aside0 p):p:=h.out
theorem bq {W1 W2:World} {g g' i t:Nat} {cs:Array Value} {v:Value} (h:W1.heap[g]? = some (.cells cs t (0,0))) (hne:Aside0 (g ≠ g')) [p:PeelTo W2 (W1.setCell ⟨g',i,none⟩ v)]:W2.heap[g]? = some (.cells cs t (0,0)):=bp (Zcy h hne.out _)
theorem cB {α:Type} {d:Kd α} {w W W':World} {A:Option Addr} {n:Nat} {xs:List α} (h:Aside0 (Kd.C d w A n xs)) (hb:Aside0 (Below w.heap.size w W)) [p:PeelTo W' W]:Kd.C d W' A n xs:=Kd.Zi (Kd.Zi h.out hb.out) p.out
section
variable {α:Type} {d:Kd α} {e:Nat} {W W':World} {base:Nat} {ok:Nat->Prop} {v:Value} {xs:List α}
theorem rp [p:PeelTo W' W] (h:Kd.R d e W base ok v xs):Kd.R d e W' base ok v xs:=Kd.Za h p.out
theorem vp [p:PeelTo W' W] (h:Kd.V d e W base ok v xs):Kd.V d e W' base ok v xs:=Kd.Zbn h p.out
theorem cp [p:PeelTo W' W] {A:Option Addr} {n:Nat} (h:Kd.C d W A n xs):Kd.C d W' A n xs:=Kd.Zi h p.out
end
theorem pB {P:Prop} (h:P:=by repeat (first|(with_reducible first|exact HB.out|apply Zck|apply Zaz|apply Zbh|refine Zdn ?_ (Aside0.out (by assumption)))|exact HB.out)):P:=h
theorem pQ {P:Prop} (h:P:=by first|(with_reducible assumption)|assumption):P:=h
theorem pA {P:Prop} (h:P:=by (try simp only [List.map_toArray,List.map_cons,List.map_nil]);first|done|rfl|(simp only [List.length_drop,List.length_take];rfl)):P:=h
theorem pE {P:Prop} (h:P:=by first|rfl|(simp [Zap,Zaq] <;> rfl)|(simp [*,Zap,Zaq] <;> rfl)):P:=h
theorem pR {P:Prop} (h:P:=by first|rfl|(simp;done)|(simp [*];done)):P:=h
theorem pD {P:Prop} (h:P:=by repeat (first|exact Drawn0.refl _|apply Drawn0.step)):P:=h
theorem pN {P:Prop} (h:P:=by first|exact Kd.Zip _ _ _ _ _|exact Kd.Zuy _ _ _ _ _|exact Kd.Zu2 _ _ _ _ _|exact Kd.Ztx _ _ _ _ _|exact Kd.Zuz _ _ _ _ _):P:=h
theorem pH {P:Prop} (h:P:=by first|(rw [hy_];with_reducible exact H)|(have H2_:=(Option.bind_some _ _).symm.trans H;rw [hy_];with_reducible exact H2_)|(have H2_:=(Option.bind_some _ _).symm.trans H;with_reducible exact H2_)|with_reducible exact H|(rw [hy_];exact H)|exact H):P:=h
theorem pP {P:Prop} (h:P:=by simp only [Act.put,List.setIfInBounds_toArray,List.set_cons_zero,List.set_cons_succ,Zb9,Zdj];rfl):P:=h
theorem k0 {w:World} {g t:Nat} {cs:Array Value} {v:Value} (h:Aside0 (w.heap[g]? = some (.cells cs t (0,0)))) (i:Nat) (hv:cs[i]? = some v:=by rfl):w.cell? ⟨g,i,none⟩=some v:=(Zie h.out i).trans hv
theorem p3 {W0 W1 W2 W3 W4:World} {g t:Nat} {a b c u0 u1 u2:Value} (h:Aside0 (W0.heap[g]? = some (.cells #[a,b,c] t (0,0)))) [q0:PeelTo W1 W0] [q1:PeelTo W2 (W1.setCell ⟨g,0,none⟩ u0)] [q2:PeelTo W3 (W2.setCell ⟨g,1,none⟩ u1)] [q3:PeelTo W4 (W3.setCell ⟨g,2,none⟩ u2)]:W4.heap[g]? = some (.cells #[u0,u1,u2] t (0,0)) :=
 bp (p:=q3) (Zd7 (cs:=#[u0,u1,c]) (bp (p:=q2) (Zd7 (cs:=#[u0,b,c]) (bp (p:=q1) (Zd7 (cs:=#[a,b,c]) (bp (p:=q0) h.out) 0 _ rfl)) 1 _ rfl)) 2 _ rfl)
theorem bS {w W w2:World} (k:Below W.heap.size W w2) (h:Below w.heap.size w W:=by repeat (first|(with_reducible first|exact HB.out|apply Zck|apply Zaz|apply Zbh|refine Zdn ?_ (Aside0.out (by assumption)))|exact HB.out)):Aside0 (Below w.heap.size w w2):=⟨Zjo h k⟩
theorem cEc {w:World} {g t:Nat} {a b c:Value} (h:w.heap[g]? = some (.cells #[a,b,c] t (0,0))):w.cell? ⟨g,0,none⟩=some a/\w.cell? ⟨g,1,none⟩=some b/\w.cell? ⟨g,2,none⟩=some c/\w.frozen? ⟨g,0,none⟩=false/\w.frozen? ⟨g,1,none⟩=false/\w.frozen? ⟨g,2,none⟩=false :=
 ⟨(Zie h 0).trans rfl,(Zie h 1).trans rfl,(Zie h 2).trans rfl,Zcm h 0,Zcm h 1,Zcm h 2⟩
theorem ob {α β:Type} {f:Option α} {g:α->Option β} {r:β} (h:f.bind g=some r):∃ t,Aside0 (f=some t)/\g t=some r:=by
 obtain ⟨t,h1,h2⟩:=Option.bind_eq_some_iff.mp h
 exact ⟨t,⟨h1⟩,h2⟩
theorem am {p:Prop} (h:p):Aside0 p:=⟨h⟩
theorem gw {w W:World} {g:Nat} (hg:g=W.heap.size) (h:Below w.heap.size w W):w.heap.size<=g:=by rw [hg];exact Zb h
theorem nl {W:World} {g k:Nat} {o:Obj} (hg:g=W.heap.size) (h:W.heap[k]? = some o):k ≠ g:=by rw [hg];exact Nat.ne_of_lt (Zgz h)
theorem ng {W:World} {g k:Nat} {o:Obj} (hg:g=W.heap.size) (h:W.heap[k]? = some o):g ≠ k:=by rw [hg];exact Nat.ne_of_gt (Zgz h)
section
variable {α:Type} {d:Kd α} {e:Nat} {w W W' w1:World} {base g k:Nat} {o:Obj} {ok:Nat->Prop} {v:Value} {xs:List α}
theorem bb (h:Aside0 (W.heap[g]? = some o)) (hb:Below W'.heap.size W' w1) [p:Peel W W']:Aside0 (w1.heap[g]? = some o):=⟨Zg (Zg h.out p.out) hb⟩
theorem bfb (hne:Aside0 (k ≠ g)) (h:Aside0 (W.heap[k]? = some o)) (hb:Below W'.heap.size W' w1) [p:PeelBut g W W']:Aside0 (w1.heap[k]? = some o):=⟨Zg (bf hne.out h.out) hb⟩
theorem gW (hg:g=W.heap.size) (h:Below w.heap.size w W:=by repeat (first|(with_reducible first|exact HB.out|apply Zck|apply Zaz|apply Zbh|refine Zdn ?_ (Aside0.out (by assumption)))|exact HB.out)):Aside0 (w.heap.size<=g):=⟨gw hg h⟩
theorem nL (hg:g=W'.heap.size) (h:Aside0 (W.heap[k]? = some o)) [p:Peel W W']:Aside0 (k ≠ g):=⟨nl hg (Zg h.out p.out)⟩
theorem nG (hg:g=W'.heap.size) (h:Aside0 (W.heap[k]? = some o)) [p:Peel W W']:Aside0 (g ≠ k):=⟨ng hg (Zg h.out p.out)⟩
theorem rbl (h:Aside0 (Kd.R d e W base ok v xs)) (hb:Below W'.heap.size W' w1) [p:Peel W W']:Aside0 (Kd.R d e w1 base ok v xs):=⟨Kd.Za (Kd.Za h.out p.out) hb⟩
theorem reR {β:Type} {d':Kd β} {e':Nat} {w2:World} {ok':Nat->Prop} {u:Value} {ys:List β} (h:Aside0 (Kd.R d e W base ok u xs)) (ho:Kd.R d' e' w2 W'.heap.size ok' v ys) (hb:Below W'.heap.size W' w1) [p:Peel W W']:Aside0 (Kd.R d e w1 base (fun k=>ok k/\some k ≠ v.ownBlock) u xs):=⟨Kd.Zy (Kd.Za h.out p.out) (Kd.Zt ho) hb⟩
theorem vE (h:Aside0 (Kd.V d e W base ok v xs)) (a:Nat) (hg:a=W'.heap.size) (hb:Below W'.heap.size W' w1) [p:Peel W W']:Aside0 (Kd.V d e w1 base (fun k=>ok k/\k ≠ a) v xs):=⟨Kd.Zbn (Kd.Zq4 (Kd.Zbn h.out p.out) a (Nat.le_of_eq hg.symm)) hb⟩
theorem vbl (h:Aside0 (Kd.V d e W base ok v xs)) (hb:Below W'.heap.size W' w1) [p:Peel W W']:Aside0 (Kd.V d e w1 base ok v xs):=⟨Kd.Zbn (Kd.Zbn h.out p.out) hb⟩
theorem nbl (h:Aside0 (Kd.N d e W base ok v xs)) (hb:Below W'.heap.size W' w1) [p:Peel W W']:Aside0 (Kd.N d e w1 base ok v xs):=⟨Kd.Zdp (Kd.Zdp h.out p.out) hb⟩
end
section
variable {P:Program} {ops:Array Oper} {rest:List Oper} {o:Oper} {a:Act} {Q:Exit->Act->World->Prop} {W:World}
theorem gd (N:Tmp) (h:wpList P ops Q (o :: rest) a W) (hN:o.dst=some N:=by rfl):wpList P ops Q (o :: rest) a W:=h
theorem bx (N:Tmp) (cs:Array Value) (t:TypeId) (hd:o.dst=some N:=by rfl) (hg:o.guard=none:=by rfl)
  (hr:(execOp a.eval o).run P W=.ok (.value (.pointer (some ⟨W.heap.size,0,none⟩))) (W.alloc (.cells cs t (0,0))):=by first|(go_simp;done)|(go_simp;rfl))
  (h:∀ g,g=W.heap.size -> ∀ w1,w1.heap[g]? = some (.cells cs t (0,0))->Below W.heap.size W w1->wpList P ops Q rest (a.put o.dst (.pointer (some ⟨g,0,none⟩))) w1):wpList P ops Q (o :: rest) a W:=Zpj hg hd hr h
end
section
open YtjbjkmccfocikaaGreatDoorW.PrintLast
variable {P:Program} {ops:Array Oper} {Q:Exit->Act->World->Prop}
theorem gL {rest:List Oper} {oi:Oper} {a:Act} {w:World} (N:Option Tmp) {f:FuncId} {fn:Func} {as0:Array Operand} {ts:Array TypeId} (hf:P.funcs[f]? = some fn) (args:Array Value) (hd:oi.dst=N:=by rfl) (hg:oi.guard=none:=by rfl)
  (hname : (fn.name == "runtime.NumGoroutine") = false := by kernel_rfl) (hb : fn.body.isSome = true := by rfl) (hop : oi.op = .call { callee := .value (.func f), args := as0, argTypes := ts } := by rfl) (hargs : as0.map a.eval = args := by (try simp only [List.map_toArray, List.map_cons, List.map_nil]); first | done | rfl | (simp only [List.length_drop, List.length_take]; rfl))
  (h:Calls P f args w fun e w' => ∃ v,e=.returned v/\wpList P ops Q rest (a.put N v) w'):wpList P ops Q (oi :: rest) a w:=goesL_ N hd hg hf hname hb args hop hargs h
end
section
open YtjbjkmccfocikaaGreatDoorW.PrintLast
variable {P:Program} {md:Region.Mode} {ops:Array Oper} {Q:Exit->Act->World->Prop} {S:World->Prop}
theorem pu (i:Nat) (N:Option Tmp) (l':Array Bool) {ds:List Nat} {oi:Oper} {v:Value} {fuel:Nat} {l:Array Bool} {a a':Act} {w:World} (hi:ops[i]? = some oi:=by rfl) (hN:oi.dst=N:=by rfl) (hc:anyB md ops l l' i=true:=by exact Zt9 HT_.out (by kernel_rfl))
  (hQ:∀ c a w,Q (.panic c) (a.put oi.dst v) w->Q (.panic c) a w:=by exact fun _ _ _ h=>h) (hy:Yields P ops oi v a:=by refine Or.inl ⟨by rfl,?_⟩;intro w';go_simp;with_reducible rfl)
  (ha:a.put N v=a':=by simp only [Act.put,List.setIfInBounds_toArray,List.set_cons_zero,List.set_cons_succ,Zb9,Zdj];rfl)
  (h:wpAnyLast P md ops Q S ds fuel l' a' w):wpAnyLast P md ops Q S ds (fuel+1) l a w:=pure_ l' hi hN hc hQ hy ha h
end
end YtjbjkmccfocikaaGreatDoor.B
end
section
namespace YtjbjkmccfocikaaGreatDoor.B
open Go.RowKit YtjbjkmccfocikaaGreatDoorW.PrintWords YtjbjkmccfocikaaGreatDoorW.PrintMore
section
variable {α:Type} {A B:Option α} {r:α}
theorem dI {c:Prop} [Decidable c] (H:(if c then A else B)=some r):(decide c=true/\A=some r)\/(decide c=false/\B=some r):=by
 by_cases h:c
 ·rw [if_pos h] at H;exact .inl ⟨decide_eq_true h,H⟩
 ·rw [if_neg h] at H;exact .inr ⟨decide_eq_false h,H⟩
theorem gI {x y:Int} (H:(if x > y then A else B)=some r):(decide (y < x)=true/\A=some r)\/(decide (y < x)=false/\B=some r):=dI H
theorem hI {x y:Int} (H:(if x >= y then A else B)=some r):(decide (y<=x)=true/\A=some r)\/(decide (y<=x)=false/\B=some r):=dI H
theorem iI {c:Prop} [Decidable c] (H:(if c then A else B)=some r):(c=True/\decide c=true/\A=some r)\/(c=False/\decide c=false/\B=some r):=by
 by_cases h:c
 ·rw [if_pos h] at H;exact .inl ⟨eq_true h,decide_eq_true h,H⟩
 ·rw [if_neg h] at H;exact .inr ⟨eq_false h,decide_eq_false h,H⟩
theorem eI {β:Type} [BEq β] [LawfulBEq β] [DecidableEq β] {x y:β} (H:(if x=y then A else B)=some r):((x == y)=true/\(x != y)=false/\A=some r)\/(¬ x=y/\(x == y)=false/\(x != y)=true/\B=some r):=by
 by_cases h:x=y
 ·rw [if_pos h] at H;exact .inl ⟨beq_iff_eq.mpr h,bne_eq_false_iff_eq.mpr h,H⟩
 ·rw [if_neg h] at H;exact .inr ⟨h,beq_eq_false_iff_ne.mpr h,bne_iff_ne.mpr h,H⟩
theorem tI {t:Bool} (H:(if t=true then A else B)=some r):(t=true/\A=some r)\/(t=false/\B=some r):=by
 cases t
 ·exact .inr ⟨rfl,H⟩
 ·exact .inl ⟨rfl,H⟩
end
theorem adB (a:Addr) (i n m c d:Nat):(Value.slice (Option.map (fun x=>x.add i) (some a)) n c).ownBlock=(Value.slice (some a) m d).ownBlock:=congrArg some (by unfold Addr.add;split <;> rfl)
theorem pM {P:Prop} (h:P:=by (repeat ((with_reducible rename Aside0 ((_:Nat)<=_)=>h1_);have h2_:=h1_.out;clear h1_));first|omega|exact Nat.le_refl _):P:=h
theorem pJ {P:Prop} (h:P:=by (repeat ((with_reducible rename Aside0 ((_:Nat)<=_)=>h1_);have h2_:=h1_.out;clear h1_));first|omega|exact Nat.le_refl _):Aside0 P:=⟨h⟩
end YtjbjkmccfocikaaGreatDoor.B
end
section
namespace YtjbjkmccfocikaaGreatDoor.B
open Go.RowKit YtjbjkmccfocikaaGreatDoorW.PrintWords YtjbjkmccfocikaaGreatDoorW.PrintLast YtjbjkmccfocikaaGreatDoorW.PrintMore
attribute [local go_sem] Zch Zci Zc9 Zda Zb1 Zb2 Zcp Zcq
def Zl.l0:Nat->List Int->Int->Option (List Int)
 | 0,_,_=>none
 | k+1,x0,x3=>if x3 > 0 then (if 0<=(wrap64 (x3 - 1)) then (if (wrap64 (x3 - 1)) < (x0.length:Int) then (if (rd x0 (wrap64 (x3 - 1)))=0 then (Zl.l0 k x0 (wrap64 (x3 - 1))) else (if 0<=x3 then (if x3<=(x0.length:Int) then (some (x0.take (x3:Int).toNat)) else (none)) else (none))) else (none)) else (none)) else (if 0<=x3 then (if x3<=(x0.length:Int) then (some (x0.take (x3:Int).toNat)) else (none)) else (none))
def Zl.f (k:Nat) (l0:List Int):Option (List Int):=Zl.l0 k l0 (l0.length:Int)
theorem Zl.calls (k:Nat) (P0_:Nat->Prop) (u9000_:Value) (l0:List Int) (r:List Int) (w0 w:World) (hB:Below w0.heap.size w0 w) (ho0:Kd.R (Kd.int .i64) 3 w w0.heap.size P0_ u9000_ l0) (h:Zl.f k l0=some r) :
  Calls Tryz.prog 79 #[u9000_] w fun e w' => ∃ v0_:Value,e=.returned (v0_)/\Kd.R (Kd.int .i64) 3 w' w0.heap.size (fun k_=>(P0_ k_\/w.heap.size<=k_)) v0_ r/\Below w0.heap.size w0 w'/\Kept w w' (fun k_=>P0_ k_):=by
 have HO0:=am (show Kd.R (Kd.int .i64) 3 w w0.heap.size (fun k_=>(P0_ k_\/w.heap.size<=k_)) u9000_ l0 from Kd.Zo ho0 (fun k_ hk=>(.inl hk)))
 have HK:=am (Kept.refl w (fun k_=>P0_ k_))
 have HW0:=am hB.size
 have HB:=am hB
 clear hB
 have H:(Zl.l0 k l0 (l0.length:Int))=some r:=h
 clear h
 have H':=am H
 clear H
 obtain ⟨Ao2,co2,eo2⟩:=Kd.Zh HO0.o
 subst eo2
 go_enter Tryz.func79,Tryz.ntmps79
 go_wp2
 go_loopg [3] k (fun kq v3 w' => ∃ (x3_1:Int),v3=.int .i64 x3_1/\Aside0 (Zl.l0 kq l0 x3_1=some r)/\Aside0 (kq<=k)/\Aside0 (Kd.R (Kd.int .i64) 3 w' w0.heap.size (fun k_=>(P0_ k_\/w.heap.size<=k_)) (.slice Ao2 l0.length co2) l0)/\Aside0 (Kept w w' (fun k_=>P0_ k_))/\Aside0 (Below w0.heap.size w0 w'))
 case atStart=>exact ⟨((l0.length:Int)),pR,H',⟨Nat.le_refl _⟩,⟨by refine rp ?_;exact HO0.o⟩,⟨by repeat (first|(with_reducible first|exact HK.out|apply Kept.alloc|apply Kept.drewN|apply Kept.drew)|exact HK.out)⟩,⟨pB⟩⟩
 case round =>
  clear H'
  obtain ⟨x3_1,rfl,HA,HK1,HO_0,HK,HB⟩:=hrel
  cases gk with
  | zero=>exact absurd HA.out (by simp [Zl.l0])
  | succ k1 =>
   have H:=HA.out
   clear HA
   simp only [Zl.l0] at H
   replace H:=gI H
   rcases H with ⟨c3b0,H⟩|⟨c3b0,H⟩
   ·obtain ⟨ji4,hji4⟩:∃ j_:Int,(wrap64 (x3_1 - 1))=j_:=⟨_,rfl⟩
    replace H:(if 0<=(ji4) then (if (ji4) < (l0.length:Int) then (if (rd l0 (ji4))=0 then (Zl.l0 k1 l0 ji4) else (if 0<=x3_1 then (if x3_1<=(l0.length:Int) then (some (l0.take (x3_1:Int).toNat)) else (none)) else (none))) else (none)) else (none))=some r:=by first|(rw [hji4] at H;exact H)|(simp only [hji4] at H ⊢;exact H)
    have hji4w:(IntKind.i64.wrap (x3_1 - 1))=ji4:=(Zb9 _).trans hji4
    replace H:=dI H
    rcases H with ⟨c5b0,H⟩|⟨_,H⟩
    ·replace H:=dI H
     rcases H with ⟨c6b0,H⟩|⟨_,H⟩
     ·replace H:=eI H
      rcases H with ⟨c7b0,c7b1,H⟩|⟨c7,c7b0,c7b1,H⟩
      ·have H':=am H
       clear H
       have qa:0<=((ji4):Int):=of_decide_eq_true pQ
       have qb:(ji4) < (l0.length:Int):=of_decide_eq_true pQ
       obtain ⟨qh,qk,qe⟩:=Kd.Zay (Kd.Zc HO_0.o).2.2 (ji4) qa qb
       cases qk
       replace qa:=eq_true qa
       replace qb:=eq_true qb
       go_wp2
       go_roundg k1
       case measure=>exact pM
       case rel=>exact ⟨(ji4),(by first|rfl|(simp;done)|(simp only [<- hji4] <;> (first|rfl|simp))|(simp [*];done)),(by first|exact H'|(have H_:=H'.out;simp only [<- hji4] at H_;exact ⟨H_⟩)|(refine ⟨?_⟩;have H_:=H'.out;simp only [<- hji4] at H_ ⊢;exact H_)),pJ,⟨by refine rp ?_;exact HO_0.o⟩,⟨by repeat (first|(with_reducible first|exact HK.out|apply Kept.alloc|apply Kept.drewN|apply Kept.drew)|exact HK.out)⟩,⟨pB⟩⟩
      ·replace H:=iI H
       rcases H with ⟨c8b0,c8b1,H⟩|⟨_,_,H⟩
       ·replace H:=iI H
        rcases H with ⟨c9b0,c9b1,H⟩|⟨_,_,H⟩
        ·obtain ⟨qn,qc⟩:∃ y_:List Int,y_=(l0.take (x3_1:Int).toNat):=⟨_,rfl⟩
         replace H:(some qn)=some r:=by have hy_:=qc;exact pH
         have qf:=am qc
         clear qc
         obtain rfl:=Option.some.inj H
         have qa:0<=((ji4):Int):=of_decide_eq_true pQ
         have qb:(ji4) < (l0.length:Int):=of_decide_eq_true pQ
         obtain ⟨qh,qk,qe⟩:=Kd.Zay (Kd.Zc HO_0.o).2.2 (ji4) qa qb
         cases qk
         replace qa:=eq_true qa
         replace qb:=eq_true qb
         have q10:(x3_1:Int)<=((l0.length:Int):Int):=of_decide_eq_true pQ
         obtain ⟨qp,qi,_,hsz10,_⟩:=info_parts info3
         have hcut10:=Zh7 (P:=Tryz.prog) 28 3 .i64 Tryz.underlying28 qi (some qh) l0.length co2 x3_1 (of_decide_eq_true pQ) q10 (Kd.Zc HO_0.o).2.1
         have hr10:=Kd.Zpc (m:=(x3_1:Int).toNat) HO_0.o (by omega)
         have hy10:qn.length=(x3_1:Int).toNat:=(by rw [qf.out,List.length_take];omega)
         rw [<- qf.out] at hr10
         rw [<- hy10] at hr10 hcut10
         clear hy10 qi hsz10 HO_0
         have ql:=am hr10
         clear hr10
         replace q10:=eq_true q10
         go_wp2
         go_ret
         exact ⟨_,by first|rfl|(simp [Zap,Zaq] <;> rfl)|(simp only [<- hji4];first|rfl|(simp [Zap,Zaq] <;> rfl))|(simp [*,Zap,Zaq] <;> rfl),by refine rp ?_;exact ql.o,pB,by repeat (first|(with_reducible first|exact HK.out|apply Kept.alloc|apply Kept.drewN|apply Kept.drew)|exact HK.out)⟩
        ·cases H
       ·cases H
     ·cases H
    ·cases H
   ·replace H:=iI H
    rcases H with ⟨c11b0,c11b1,H⟩|⟨_,_,H⟩
    ·replace H:=iI H
     rcases H with ⟨c12b0,c12b1,H⟩|⟨_,_,H⟩
     ·obtain ⟨qo,qd⟩:∃ y_:List Int,y_=(l0.take (x3_1:Int).toNat):=⟨_,rfl⟩
      replace H:(some qo)=some r:=by have hy_:=qd;exact pH
      have qg:=am qd
      clear qd
      obtain rfl:=Option.some.inj H
      have q13:(x3_1:Int)<=((l0.length:Int):Int):=of_decide_eq_true pQ
      obtain ⟨qq,qj,_,hsz13,_⟩:=info_parts info3
      have hcut13:=Zh7 (P:=Tryz.prog) 28 3 .i64 Tryz.underlying28 qj Ao2 l0.length co2 x3_1 (of_decide_eq_true pQ) q13 (Kd.Zc HO_0.o).2.1
      have hr13:=Kd.Zpc (m:=(x3_1:Int).toNat) HO_0.o (by omega)
      have hy13:qo.length=(x3_1:Int).toNat:=(by rw [qg.out,List.length_take];omega)
      rw [<- qg.out] at hr13
      rw [<- hy13] at hr13 hcut13
      clear hy13 qj hsz13 HO_0
      have qm:=am hr13
      clear hr13
      replace q13:=eq_true q13
      go_wp2
      go_ret
      exact ⟨_,pE,by refine rp ?_;exact qm.o,pB,by repeat (first|(with_reducible first|exact HK.out|apply Kept.alloc|apply Kept.drewN|apply Kept.drew)|exact HK.out)⟩
     ·cases H
    ·cases H
mutual
def Zab.l0:Nat->List Int->List Int->Int->Int->Option (List Int)
 | 0,_,_,_,_=>none
 | k+1,x0,x3,x4,x5=>if x5 < (x0.length:Int) then (if 0<=x5 then (if x3.length < 17592186044416 then (Zab.l0 k x0 (x3 ++ [Int.tmod (wrap64 (x4+(rd x0 x5))) 10]) (wrap64 (Int.tdiv (wrap64 (x4+(rd x0 x5))) 10)) (wrap64 (x5+1))) else (none)) else (none)) else (Zab.l1 k x3 x4)
def Zab.l1:Nat->List Int->Int->Option (List Int)
 | 0,_,_=>none
 | k+1,x3,x4=>if x4 > 0 then (if x3.length < 17592186044416 then (Zab.l1 k (x3 ++ [Int.tmod x4 10]) (wrap64 (Int.tdiv x4 10))) else (none)) else ((Zl.f k x3).bind fun qh=>(some qh))
end
def Zab.f (k:Nat) (l0:List Int):Option (List Int):=Zab.l0 k l0 ([]:List Int) 0 0
theorem Zab.calls (k:Nat) (A0:Option Addr) (c0:Nat) (l0:List Int) (r:List Int) (w:World) (hr0:Kd.C (Kd.int .i64) w A0 l0.length l0) (hc0:l0.length<=c0) (h:Zab.f k l0=some r) :
  Calls Tryz.prog 121 #[.slice A0 l0.length c0] w fun e w' => ∃ v0_:Value,e=.returned (v0_)/\Kd.R (Kd.int .i64) 3 w' w.heap.size (fun _=>True) v0_ r/\Below w.heap.size w w':=by
 have HR0:=am hr0
 have HC0:=am hc0
 clear hr0 hc0
 have HB:=am (Below.refl w.heap.size w)
 have H:(Zab.l0 k l0 ([]:List Int) 0 0)=some r:=h
 clear h
 have H':=am H
 clear H
 go_enter Tryz.func121,Tryz.ntmps121
 go_wp2
 go_loopg [3,4,5] k (fun kq v3 v4 v5 w' => ∃ (x3_1:List Int) (x4_1:Int) (x5_1:Int),v4=.int .i64 x4_1/\v5=.int .i64 x5_1/\Aside0 (Zab.l0 kq l0 x3_1 x4_1 x5_1=some r)/\Aside0 (kq<=k)/\Aside0 (Kd.R (Kd.int .i64) 3 w' w.heap.size (fun _=>True) v3 x3_1)/\Aside0 (Below w.heap.size w w'))
 case atStart=>exact ⟨(([]:List Int)),(0),(0),pR,pR,H',⟨Nat.le_refl _⟩,⟨pN⟩,⟨pB⟩⟩
 case round =>
  clear H'
  obtain ⟨x3_1,x4_1,x5_1,rfl,rfl,HA,HK1,HO_3,HB⟩:=hrel
  cases gk with
  | zero=>exact absurd HA.out (by simp [Zab.l0])
  | succ k1 =>
   have H:=HA.out
   clear HA
   simp only [Zab.l0] at H
   replace H:=dI H
   rcases H with ⟨c2b0,H⟩|⟨c2b0,H⟩
   ·replace H:=dI H
    rcases H with ⟨c3b0,H⟩|⟨_,H⟩
    ·by_cases c4:x3_1.length < 17592186044416
     ·rw [if_pos c4] at H
      have LMc4:=am c4
      clear c4
      obtain ⟨qn,qb⟩:∃ y_:List Int,y_=(x3_1 ++ [Int.tmod (wrap64 (x4_1+(rd l0 x5_1))) 10]):=⟨_,rfl⟩
      replace H:(Zab.l0 k1 l0 qn (wrap64 (Int.tdiv (wrap64 (x4_1+(rd l0 x5_1))) 10)) (wrap64 (x5_1+1)))=some r:=by have hy_:=qb;exact pH
      have ql:=am qb
      clear qb
      have H':=am H
      clear H
      have qf:0<=(x5_1:Int):=of_decide_eq_true pQ
      have qg:x5_1 < (l0.length:Int):=of_decide_eq_true pQ
      obtain ⟨qr,qp,qa⟩:=Kd.Zay HR0.o x5_1 qf qg
      cases qp
      replace qa:=(HB.o.cell (World.block_lt_of_cell? w _ qa)).trans qa
      replace qf:=eq_true qf
      replace qg:=eq_true qg
      go_wp2_with (first|((with_reducible refine Zar (b:=.append) (xs:=#[.tmp 18,.tmp 21]) rfl ?_);at_builtin;refine Kd.Zb3 (Kd.int .i64) (w0:=w) w.heap.size rfl (.tmp 18) (.tmp 21) 28 3 (.int .i64 0) 8 rfl Tryz.underlying28 info3 rfl (by decide) (by omega) u3 x3_1 (Int.tmod (wrap64 (x4_1+(rd l0 x5_1))) 10) [.int .i64 (Int.tmod (wrap64 (x4_1+(rd l0 x5_1))) 10)] (fun _=>True) (fun _=>False) rfl rfl ?aP (fun _ hk=>hk.elim) ?aF ?aO ?aB ?aS ?aL ?_;(case aP=>exact rfl);(case aB=>exact pB);(case aF=>exact (fun _ _=>trivial));(case aO=>exact (Kd.Za HO_3.o pl));(case aS=>exact (Zb pB));(case aL=>have := LMc4.o;omega);intro qs w5 ho hb hg hat;rw [<- ql.out] at ho;have qi:=am ho;replace HB:=am hb;clear HO_3 ho hb hg hat))
      go_roundg k1
      case measure=>exact pM
      case rel=>exact ⟨(qn),(wrap64 (Int.tdiv (wrap64 (x4_1+(rd l0 x5_1))) 10)),(wrap64 (x5_1+1)),pR,pR,H',pJ,⟨by refine rp ?_;exact qi.o⟩,⟨pB⟩⟩
     ·rw [if_neg c4] at H
      cases H
    ·cases H
   ·have H':=am H
    clear H
    go_wp2
    go_loopg [3,4] k1 (fun kq v3 v4 w' => ∃ (x3_2:List Int) (x4_2:Int),v4=.int .i64 x4_2/\Aside0 (Zab.l1 kq x3_2 x4_2=some r)/\Aside0 (kq<=k1)/\Aside0 (Kd.R (Kd.int .i64) 3 w' w.heap.size (fun _=>True) v3 x3_2)/\Aside0 (Below w.heap.size w w'))
    case atStart=>exact ⟨(x3_1),(x4_1),pR,H',⟨Nat.le_refl _⟩,⟨by refine rp ?_;exact HO_3.o⟩,⟨pB⟩⟩
    case round =>
     clear H'
     obtain ⟨x3_2,x4_2,rfl,HA,HK2,HO_3,HB⟩:=hrel
     cases gk with
     | zero=>exact absurd HA.out (by simp [Zab.l1])
     | succ k2 =>
      have H:=HA.out
      clear HA
      simp only [Zab.l1] at H
      replace H:=gI H
      rcases H with ⟨c6b0,H⟩|⟨c6b0,H⟩
      ·by_cases c7:x3_2.length < 17592186044416
       ·rw [if_pos c7] at H
        have LMc7:=am c7
        clear c7
        obtain ⟨qo,qc⟩:∃ y_:List Int,y_=(x3_2 ++ [Int.tmod x4_2 10]):=⟨_,rfl⟩
        replace H:(Zab.l1 k2 qo (wrap64 (Int.tdiv x4_2 10)))=some r:=by have hy_:=qc;exact pH
        have qm:=am qc
        clear qc
        have H':=am H
        clear H
        go_wp2_with (first|((with_reducible refine Zar (b:=.append) (xs:=#[.tmp 27,.tmp 30]) rfl ?_);at_builtin;refine Kd.Zb3 (Kd.int .i64) (w0:=w) w.heap.size rfl (.tmp 27) (.tmp 30) 28 3 (.int .i64 0) 8 rfl Tryz.underlying28 info3 rfl (by decide) (by omega) u3 x3_2 (Int.tmod x4_2 10) [.int .i64 (Int.tmod x4_2 10)] (fun _=>True) (fun _=>False) rfl rfl ?aP (fun _ hk=>hk.elim) ?aF ?aO ?aB ?aS ?aL ?_;(case aP=>exact rfl);(case aB=>exact pB);(case aF=>exact (fun _ _=>trivial));(case aO=>exact (Kd.Za HO_3.o pl));(case aS=>exact (Zb pB));(case aL=>have := LMc7.o;omega);intro qt w8 ho hb hg hat;rw [<- qm.out] at ho;have qj:=am ho;replace HB:=am hb;clear HO_3 ho hb hg hat))
        go_roundg k2
        case measure=>exact pM
        case rel=>exact ⟨(qo),(wrap64 (Int.tdiv x4_2 10)),pR,H',pJ,⟨by refine rp ?_;exact qj.o⟩,⟨pB⟩⟩
       ·rw [if_neg c7] at H
        cases H
      ·replace H:=ob H
       obtain ⟨qh,A9,H⟩:=H
       obtain rfl:=Option.some.inj H
       obtain ⟨qd,qe,qq⟩:=Kd.Zh HO_3.o
       subst qq
       go_wp2_with (first|(refine gL (some 35) Tryz.func79 #[.slice qd x3_2.length qe] (h:=?_);(with_reducible refine (Zl.calls k2 (fun k_=>some k_=(.slice qd x3_2.length qe:Value).ownBlock) (.slice qd x3_2.length qe) x3_2 qh w _ ?side1 ?side2 A9.o).mono ?_);(case side1=>exact pB);(case side2=>exact Kd.Zby rfl HO_3.o);rintro e w11 ⟨qu,rfl,ho0,hb,hkp⟩;refine ⟨_,rfl,?_⟩;have qk:=am (Kd.Zo (ok':=fun k_=>True) ho0 (fun k_ hk_=>trivial));replace HB:=am hb;clear HO_3))
       go_ret
       exact ⟨_,pE,by refine rp ?_;exact qk.o,pB⟩
mutual
def Zaa.l0:Nat->List Int->List Int->Option (List Int)
 | 0,_,_=>none
 | k+1,x3,x4=>if (x4.length:Int) > 0 then (Zaa.l1 k x3 x4 0 (wrap64 ((x4.length:Int) - 1))) else (some x3)
def Zaa.l1:Nat->List Int->List Int->Int->Int->Option (List Int)
 | 0,_,_,_,_=>none
 | k+1,x3,x4,x5,x6=>if x6 >= 0 then (if 0<=x6 then (if x6 < (x4.length:Int) then ((some (x4.set (x6:Int).toNat ((wrap64 ((wrap64 (x5*10))+(rd x4 x6))) / 4294967296):List Int)).bind fun qb=>(Zaa.l1 k x3 qb (wrap64 ((wrap64 ((wrap64 (x5*10))+(rd x4 x6))) - (wrap64 ((rd qb x6)*4294967296)))) (wrap64 (x6 - 1)))) else (none)) else (none)) else (if x3.length < 35184372088832 then ((Zab.f k x4).bind fun qc=>(Zaa.l0 k (x3 ++ [(x5) % 4294967296]) qc)) else (none))
end
def Zaa.f (k:Nat) (l0:List Int):Option (List Int):=if ([]:List Int).length+l0.length < 17592186044416 then (Zaa.l0 k ([]:List Int) (([]:List Int)++l0)) else (none)
theorem Zaa.calls (k:Nat) (A0:Option Addr) (c0:Nat) (l0:List Int) (r:List Int) (w:World) (hr0:Kd.C (Kd.int .i64) w A0 l0.length l0) (hc0:l0.length<=c0) (h:Zaa.f k l0=some r) :
  Calls Tryz.prog 80 #[.slice A0 l0.length c0] w fun e w' => ∃ v0_:Value,e=.returned (v0_)/\Kd.R (Kd.int .u32) 85 w' w.heap.size (fun _=>True) v0_ r/\Below w.heap.size w w':=by
 have HR0:=am hr0
 have HC0:=am hc0
 clear hr0 hc0
 have HB:=am (Below.refl w.heap.size w)
 have H:(if ([]:List Int).length+l0.length < 17592186044416 then (Zaa.l0 k ([]:List Int) (([]:List Int)++l0)) else (none))=some r:=h
 clear h
 by_cases c2:([]:List Int).length+l0.length < 17592186044416
 ·rw [if_pos c2] at H
  have LMc2:=am c2
  clear c2
  obtain ⟨qs,qe⟩:∃ y_:List Int,y_=(([]:List Int)++l0):=⟨_,rfl⟩
  replace H:(Zaa.l0 k ([]:List Int) qs)=some r:=by have hy_:=qe;exact pH
  have qp:=am qe
  clear qe
  have H':=am H
  clear H
  go_enter Tryz.func80,Tryz.ntmps80
  go_wp2_with (first|((with_reducible refine Zar (b:=.append) (xs:=#[.tmp 7,.tmp 8]) rfl ?_);at_builtin;refine Kd.Zdx (Kd.int .i64) (w0:=w) w.heap.size rfl (.tmp 7) (.tmp 8) 28 3 (.int .i64 0) 8 rfl Tryz.underlying28 info3 rfl (by decide) (by omega) (.slice none 0 0) ([]:List Int) l0 _ _ _ (fun _=>True) (fun _=>False) rfl rfl ?aO ?aR (fun _ _ h=>h) (fun _ h=>h.elim) ?aF ?aB ?aS ?aL ?_;(case aR=>refine cp ?_;exact HR0.o);(case aB=>exact pB);(case aF=>exact (fun _ _=>trivial));(case aO=>exact ((Kd.Zip _ _ _ _ (fun _=>True))));(case aS=>exact (Zb pB));(case aL=>have := LMc2.o;omega);intro q1 w3 ho hb hg hat;rw [<- qp.out] at ho;replace HB:=am hb;have qn:=am ho;clear ho hb hg hat))
  go_loopg [3,4] k (fun kq v3 v4 w' => ∃ (x3_1:List Int) (x4_1:List Int),Aside0 (Zaa.l0 kq x3_1 x4_1=some r)/\Aside0 (kq<=k)/\Aside0 (Kd.R (Kd.int .u32) 85 w' w.heap.size (fun _=>True) v3 x3_1)/\Aside0 (Kd.R (Kd.int .i64) 3 w' w.heap.size (fun _=>True) v4 x4_1)/\Aside0 (Below w.heap.size w w'))
  case atStart=>exact ⟨(([]:List Int)),(qs),H',⟨Nat.le_refl _⟩,⟨pN⟩,⟨by refine rp ?_;exact qn.o⟩,⟨pB⟩⟩
  case round =>
   clear H'
   obtain ⟨x3_1,x4_1,HA,HK1,HO_3,HO_4,HB⟩:=hrel
   cases gk with
   | zero=>exact absurd HA.out (by simp [Zaa.l0])
   | succ k1 =>
    have H:=HA.out
    clear HA
    simp only [Zaa.l0] at H
    by_cases c4:(x4_1.length:Int) > 0
    ·rw [if_pos c4] at H
     have c4b0:decide (0 < (x4_1.length:Int))=true:=decide_eq_true c4
     have c4b1:decide (0 < x4_1.length)=true:=decide_eq_true (by omega)
     clear c4
     have H':=am H
     clear H
     obtain ⟨Ao5,co5,eo5⟩:=Kd.Zh HO_4.o
     subst eo5
     go_wp2
     go_loopg [5,6] k1 (fun kq v5 v6 w' => ∃ (x4_2:List Int) (x5_2:Int) (x6_2:Int),v5=.int .i64 x5_2/\v6=.int .i64 x6_2/\Aside0 (Zaa.l1 kq x3_1 x4_2 x5_2 x6_2=some r)/\Aside0 (kq<=k1)/\Aside0 (Kd.R (Kd.int .u32) 85 w' w.heap.size (fun _=>True) u3 x3_1)/\Aside0 (Kd.R (Kd.int .i64) 3 w' w.heap.size (fun _=>True) (.slice Ao5 x4_1.length co5) x4_2)/\Aside0 (Below w.heap.size w w'))
     case atStart=>exact ⟨(x4_1),(0),(wrap64 ((x4_1.length:Int) - 1)),pR,pR,H',⟨Nat.le_refl _⟩,⟨by refine rp ?_;exact HO_3.o⟩,⟨by refine rp ?_;exact HO_4.o⟩,⟨pB⟩⟩
     case round =>
      clear H'
      obtain ⟨x4_2,x5_2,x6_2,rfl,rfl,HA,HK2,HO_3,HO_4,HB⟩:=hrel
      have hl4_2:=(Kd.Zc HO_4.o).1
      rw [hl4_2] at HO_4
      (try simp only [hl4_2])
      (try simp only [hl4_2] at HO_3)
      cases gk with
      | zero=>exact absurd HA.out (by simp [Zaa.l1])
      | succ k2 =>
       have H:=HA.out
       clear HA
       simp only [Zaa.l1] at H
       replace H:=hI H
       rcases H with ⟨c6b0,H⟩|⟨c6b0,H⟩
       ·replace H:=dI H
        rcases H with ⟨c7b0,H⟩|⟨_,H⟩
        ·replace H:=dI H
         rcases H with ⟨c8b0,H⟩|⟨_,H⟩
         ·obtain ⟨qb,qf⟩:∃ y_:List Int,y_=(x4_2.set (x6_2:Int).toNat ((wrap64 ((wrap64 (x5_2*10))+(rd x4_2 x6_2))) / 4294967296)):=⟨_,rfl⟩
          replace H:(Zaa.l1 k2 x3_1 qb (wrap64 ((wrap64 ((wrap64 (x5_2*10))+(rd x4_2 x6_2))) - (wrap64 ((rd qb x6_2)*4294967296)))) (wrap64 (x6_2 - 1)))=some r:=by have hy_:=qf;exact pH
          have qi:=am qf
          clear qf
          have H':=am H
          clear H
          have qj:0<=(x6_2:Int):=of_decide_eq_true pQ
          have ql:x6_2 < (x4_2.length:Int):=of_decide_eq_true pQ
          obtain ⟨qx,qu,qh⟩:=Kd.Zay (Kd.Zc HO_4.o).2.2 x6_2 qj ql
          cases qu
          replace qj:=eq_true qj
          replace ql:=eq_true ql
          have p9:0<=(x6_2:Int):=of_decide_eq_true pQ
          have q9:(x6_2:Int) < ((x4_2.length:Int):Int):=of_decide_eq_true pQ
          obtain ⟨go9,co9,eo9,gb9,gl9,cl9,HG9⟩:=Kd.Zin HO_4.o (by omega)
          (first|cases eo9|(injection eo9 with ea_ en_ ec_;(first|subst ea_|(injection ea_ with ea_;subst ea_));subst ec_;clear en_))
          have GB9:=am gb9
          have GG9:=am HG9
          clear gb9 gl9 HG9
          (first|simp only [add_plain] at qh|skip)
          obtain ⟨hx9_0,hf9_0⟩:=Kd.Zfk 0 HO_4.o (x6_2:Int) p9 q9
          replace p9:=eq_true p9
          replace q9:=eq_true q9
          have HP10:=Kd.Zjm HO_4.o (x6_2:Int) ((wrap64 ((wrap64 (x5_2*10))+(rd x4_2 x6_2))) / 4294967296)
          go_wp2_with (first|((with_reducible refine Zel (t:=3) (p:=31) rfl ?_);refine Zd8 (t:=3) (p:=31) (v:=?vo_w11) (w1:=(wr.setCell ⟨go9,(x6_2:Int).toNat,none⟩ (.int .i64 ((wrap64 ((wrap64 (x5_2*10))+(rd x4_2 x6_2))) / 4294967296)))) ?hg ?ho ?hn ?hr ?_;(case ho=>rfl);(case hg=>rfl);(case hn=>rfl);(case hr=>first|(go_simp;done)|(go_simp;rfl));intro w11 hw;have hg:wr.grownBy w11 (some go9):=(by rw [hw];exact HP10.2);have hp_:Kd.R (Kd.int .i64) 3 w11 w.heap.size (fun _=>True) (.slice (some ⟨go9,0,none⟩) x4_2.length co5) qb:=(by rw [hw,qi.out];exact HP10.1);clear HP10;replace HO_3:=am (Kd.Zj1 (v:=(.slice (some ⟨go9,0,none⟩) x4_2.length co5)) (Kd.Za HO_3.o pl) (Kd.Zht HO_4.o) (by decide) hg);replace HO_4:=am (hp_);replace HB:=am ((by rw [hw];exact Zdn (HB.o) GB9.out:Below w.heap.size w w11));clear hg hw hp_;have qk:0<=(x6_2:Int):=of_decide_eq_true pQ;have qm:x6_2 < (qb.length:Int):=(by have h_:(x6_2:Int) < ((x4_2.length:Int):Int):=of_decide_eq_true pQ;first|(have e_:=(Kd.Zc HO_4.o).1;omega)|simpa only [qi.out,List.length_set] using h_);have qy:((x6_2:Int) < ((x4_2.length:Int):Int))=True:=eq_true (of_decide_eq_true pQ);obtain ⟨qr,qv,qa⟩:=Kd.Zay (Kd.Zc HO_4.o).2.2 x6_2 qk qm;obtain rfl:(⟨go9,0,none⟩:Addr)=qr:=(by injection qv);(first|simp only [add_plain] at qa|simp only [Zh6] at qa|simp only [Addr.add,Nat.zero_add] at qa|skip);replace qk:=eq_true qk;replace qm:=eq_true qm))
          (try simp only [<- hl4_2])
          go_roundg k2
          case measure=>exact pM
          case rel=>exact ⟨(qb),(wrap64 ((wrap64 ((wrap64 (x5_2*10))+(rd x4_2 x6_2))) - (wrap64 ((rd qb x6_2)*4294967296)))),(wrap64 (x6_2 - 1)),pR,pR,H',pJ,⟨by (try simp only [hl4_2]);refine rp ?_;exact HO_3.o⟩,⟨by (try simp only [hl4_2]);refine rp ?_;exact HO_4.o⟩,⟨pB⟩⟩
         ·cases H
        ·cases H
       ·by_cases c12:x3_1.length < 35184372088832
        ·rw [if_pos c12] at H
         have LMc12:=am c12
         clear c12
         obtain ⟨qt,qg⟩:∃ y_:List Int,y_=(x3_1 ++ [(x5_2) % 4294967296]):=⟨_,rfl⟩
         replace H:((Zab.f k2 x4_2).bind fun qc=>(Zaa.l0 k2 qt qc))=some r:=by have hy_:=qg;exact pH
         have qq:=am qg
         clear qg
         replace H:=ob H
         obtain ⟨qc,A13,H⟩:=H
         have H':=am H
         clear H
         go_wp2_with (first|((with_reducible refine Zar (b:=.append) (xs:=#[.tmp 39,.tmp 42]) rfl ?_);at_builtin;refine Kd.Zb3 (Kd.int .u32) (w0:=w) w.heap.size rfl (.tmp 39) (.tmp 42) 22 85 (.int .u32 0) 4 rfl Tryz.underlying22 info85 rfl (by decide) (by omega) u3 x3_1 ((x5_2) % 4294967296) [.int .u32 ((x5_2) % 4294967296)] (fun _=>True) (fun _=>False) rfl rfl ?aP (fun _ hk=>hk.elim) ?aF ?aO ?aB ?aS ?aL ?_;(case aP=>exact rfl);(case aB=>exact pB);(case aF=>exact (fun _ _=>trivial));(case aO=>exact (Kd.Za HO_3.o pl));(case aS=>exact (Zb pB));(case aL=>have := LMc12.o;omega);intro q2 w14 ho hb hg hat;rw [<- qq.out] at ho;have qd:=am ho;replace HO_4:=am (Kd.Zj1 (Kd.Za HO_4.o pl) (Kd.Zht (Kd.Za HO_3.o pl)) (by decide) hg);replace HB:=am hb;clear HO_3 ho hb hg hat)|(refine gL (some 45) Tryz.func121 #[.slice Ao5 x4_2.length co5] (h:=?_);(with_reducible refine (Zab.calls k2 _ _ x4_2 qc _ ?side1 ?side2 A13.o).mono ?_);(case side1=>exact Kd.Zi (Kd.Zc HO_4.o).2.2 pl);(case side2=>exact (Kd.Zc HO_4.o).2.1);rintro e w15 ⟨q3,rfl,ho0,hb⟩;refine ⟨_,rfl,?_⟩;have qo:=am (Kd.Zn (Kd.Zf ho0 (Kd.R_lt (Kd.Za HO_4.o pl))) (Zb pB));replace HO_4:=reR HO_4 ho0 hb;replace qd:=rbl qd hb;replace HB:=bS hb))
         (try simp only [<- hl4_2])
         go_roundg k2
         case measure=>exact pM
         case rel=>exact ⟨(qt),(qc),H',pJ,⟨by (try simp only [hl4_2]);refine rp ?_;exact qd.o⟩,⟨by (try simp only [hl4_2]);refine rp ?_;exact Kd.Zo qo.o (fun _ hk=>trivial)⟩,⟨pB⟩⟩
        ·rw [if_neg c12] at H
         cases H
    ·rw [if_neg c4] at H
     have c4b0:decide (0 < (x4_1.length:Int))=false:=decide_eq_false c4
     have c4b1:decide (0 < x4_1.length)=false:=decide_eq_false (by omega)
     clear c4
     obtain rfl:=Option.some.inj H
     obtain ⟨qz,q0,qw⟩:=Kd.Zh HO_4.o
     subst qw
     go_wp2
     go_ret
     exact ⟨_,pE,by refine rp ?_;exact HO_3.o,pB⟩
 ·rw [if_neg c2] at H
  cases H
mutual
def Zv.l0:Nat->List Int->Int->Int->List Int->Int->Option (List Int)
 | 0,_,_,_,_,_=>none
 | k+1,x0,x1,x2,x7,x8=>if x8 < (x0.length:Int) then (if 0<=x8 then (if x7.length < 17592186044416 then (Zv.l0 k x0 x1 (wrap64 (Int.tdiv (wrap64 (x2+(wrap64 ((rd x0 x8)*x1)))) 10)) (x7 ++ [Int.tmod (wrap64 (x2+(wrap64 ((rd x0 x8)*x1)))) 10]) (wrap64 (x8+1))) else (none)) else (none)) else (Zv.l1 k x2 x7)
def Zv.l1:Nat->Int->List Int->Option (List Int)
 | 0,_,_=>none
 | k+1,x2,x7=>if x2 > 0 then (if x7.length < 17592186044416 then (Zv.l1 k (wrap64 (Int.tdiv x2 10)) (x7 ++ [Int.tmod x2 10])) else (none)) else (some x7)
end
def Zv.f (k:Nat) (l0:List Int) (a1:Int) (a2:Int):Option (List Int):=Zv.l0 k l0 a1 a2 ([]:List Int) 0
theorem Zv.calls (k:Nat) (A0:Option Addr) (c0:Nat) (l0:List Int) (a1:Int) (a2:Int) (r:List Int) (w:World) (hr0:Kd.C (Kd.int .i64) w A0 l0.length l0) (hc0:l0.length<=c0) (h:Zv.f k l0 a1 a2=some r) :
  Calls Tryz.prog 122 #[.slice A0 l0.length c0,.int .i64 a1,.int .i64 a2] w fun e w' => ∃ v0_:Value,e=.returned (v0_)/\Kd.R (Kd.int .i64) 3 w' w.heap.size (fun _=>True) v0_ r/\Below w.heap.size w w':=by
 have HR0:=am hr0
 have HC0:=am hc0
 clear hr0 hc0
 have HB:=am (Below.refl w.heap.size w)
 have H:(Zv.l0 k l0 a1 a2 ([]:List Int) 0)=some r:=h
 clear h
 have H':=am H
 clear H
 go_enter Tryz.func122,Tryz.ntmps122
 go_wp2
 go_loopg [2,7,8] k (fun kq v2 v7 v8 w' => ∃ (x2_1:Int) (x7_1:List Int) (x8_1:Int),v2=.int .i64 x2_1/\v8=.int .i64 x8_1/\Aside0 (Zv.l0 kq l0 a1 x2_1 x7_1 x8_1=some r)/\Aside0 (kq<=k)/\Aside0 (Kd.R (Kd.int .i64) 3 w' w.heap.size (fun _=>True) v7 x7_1)/\Aside0 (Below w.heap.size w w'))
 case atStart=>exact ⟨(a2),(([]:List Int)),(0),pR,pR,H',⟨Nat.le_refl _⟩,⟨pN⟩,⟨pB⟩⟩
 case round =>
  clear H'
  obtain ⟨x2_1,x7_1,x8_1,rfl,rfl,HA,HK1,HO_7,HB⟩:=hrel
  cases gk with
  | zero=>exact absurd HA.out (by simp [Zv.l0])
  | succ k1 =>
   have H:=HA.out
   clear HA
   simp only [Zv.l0] at H
   replace H:=dI H
   rcases H with ⟨c4b0,H⟩|⟨c4b0,H⟩
   ·replace H:=dI H
    rcases H with ⟨c5b0,H⟩|⟨_,H⟩
    ·by_cases c6:x7_1.length < 17592186044416
     ·rw [if_pos c6] at H
      have LMc6:=am c6
      clear c6
      obtain ⟨qj,qb⟩:∃ y_:List Int,y_=(x7_1 ++ [Int.tmod (wrap64 (x2_1+(wrap64 ((rd l0 x8_1)*a1)))) 10]):=⟨_,rfl⟩
      replace H:(Zv.l0 k1 l0 a1 (wrap64 (Int.tdiv (wrap64 (x2_1+(wrap64 ((rd l0 x8_1)*a1)))) 10)) qj (wrap64 (x8_1+1)))=some r:=by have hy_:=qb;exact pH
      have qh:=am qb
      clear qb
      have H':=am H
      clear H
      have qd:0<=(x8_1:Int):=of_decide_eq_true pQ
      have qe:x8_1 < (l0.length:Int):=of_decide_eq_true pQ
      obtain ⟨qm,ql,qa⟩:=Kd.Zay HR0.o x8_1 qd qe
      cases ql
      replace qa:=(HB.o.cell (World.block_lt_of_cell? w _ qa)).trans qa
      replace qd:=eq_true qd
      replace qe:=eq_true qe
      go_wp2_with (first|((with_reducible refine Zar (b:=.append) (xs:=#[.tmp 23,.tmp 26]) rfl ?_);at_builtin;refine Kd.Zb3 (Kd.int .i64) (w0:=w) w.heap.size rfl (.tmp 23) (.tmp 26) 28 3 (.int .i64 0) 8 rfl Tryz.underlying28 info3 rfl (by decide) (by omega) u7 x7_1 (Int.tmod (wrap64 (x2_1+(wrap64 ((rd l0 x8_1)*a1)))) 10) [.int .i64 (Int.tmod (wrap64 (x2_1+(wrap64 ((rd l0 x8_1)*a1)))) 10)] (fun _=>True) (fun _=>False) rfl rfl ?aP (fun _ hk=>hk.elim) ?aF ?aO ?aB ?aS ?aL ?_;(case aP=>exact rfl);(case aB=>exact pB);(case aF=>exact (fun _ _=>trivial));(case aO=>exact (Kd.Za HO_7.o pl));(case aS=>exact (Zb pB));(case aL=>have := LMc6.o;omega);intro qn w7 ho hb hg hat;rw [<- qh.out] at ho;have qf:=am ho;replace HB:=am hb;clear HO_7 ho hb hg hat))
      go_roundg k1
      case measure=>exact pM
      case rel=>exact ⟨(wrap64 (Int.tdiv (wrap64 (x2_1+(wrap64 ((rd l0 x8_1)*a1)))) 10)),(qj),(wrap64 (x8_1+1)),pR,pR,H',pJ,⟨by refine rp ?_;exact qf.o⟩,⟨pB⟩⟩
     ·rw [if_neg c6] at H
      cases H
    ·cases H
   ·have H':=am H
    clear H
    go_wp2
    go_loopg [2,7] k1 (fun kq v2 v7 w' => ∃ (x2_2:Int) (x7_2:List Int),v2=.int .i64 x2_2/\Aside0 (Zv.l1 kq x2_2 x7_2=some r)/\Aside0 (kq<=k1)/\Aside0 (Kd.R (Kd.int .i64) 3 w' w.heap.size (fun _=>True) v7 x7_2)/\Aside0 (Below w.heap.size w w'))
    case atStart=>exact ⟨(x2_1),(x7_1),pR,H',⟨Nat.le_refl _⟩,⟨by refine rp ?_;exact HO_7.o⟩,⟨pB⟩⟩
    case round =>
     clear H'
     obtain ⟨x2_2,x7_2,rfl,HA,HK2,HO_7,HB⟩:=hrel
     cases gk with
     | zero=>exact absurd HA.out (by simp [Zv.l1])
     | succ k2 =>
      have H:=HA.out
      clear HA
      simp only [Zv.l1] at H
      replace H:=gI H
      rcases H with ⟨c8b0,H⟩|⟨c8b0,H⟩
      ·by_cases c9:x7_2.length < 17592186044416
       ·rw [if_pos c9] at H
        have LMc9:=am c9
        clear c9
        obtain ⟨qk,qc⟩:∃ y_:List Int,y_=(x7_2 ++ [Int.tmod x2_2 10]):=⟨_,rfl⟩
        replace H:(Zv.l1 k2 (wrap64 (Int.tdiv x2_2 10)) qk)=some r:=by have hy_:=qc;exact pH
        have qi:=am qc
        clear qc
        have H':=am H
        clear H
        go_wp2_with (first|((with_reducible refine Zar (b:=.append) (xs:=#[.tmp 32,.tmp 35]) rfl ?_);at_builtin;refine Kd.Zb3 (Kd.int .i64) (w0:=w) w.heap.size rfl (.tmp 32) (.tmp 35) 28 3 (.int .i64 0) 8 rfl Tryz.underlying28 info3 rfl (by decide) (by omega) u7 x7_2 (Int.tmod x2_2 10) [.int .i64 (Int.tmod x2_2 10)] (fun _=>True) (fun _=>False) rfl rfl ?aP (fun _ hk=>hk.elim) ?aF ?aO ?aB ?aS ?aL ?_;(case aP=>exact rfl);(case aB=>exact pB);(case aF=>exact (fun _ _=>trivial));(case aO=>exact (Kd.Za HO_7.o pl));(case aS=>exact (Zb pB));(case aL=>have := LMc9.o;omega);intro qo w10 ho hb hg hat;rw [<- qi.out] at ho;have qg:=am ho;replace HB:=am hb;clear HO_7 ho hb hg hat))
        go_roundg k2
        case measure=>exact pM
        case rel=>exact ⟨(wrap64 (Int.tdiv x2_2 10)),(qk),pR,H',pJ,⟨by refine rp ?_;exact qg.o⟩,⟨pB⟩⟩
       ·rw [if_neg c9] at H
        cases H
      ·obtain rfl:=Option.some.inj H
       go_wp2
       go_ret
       exact ⟨_,pE,by refine rp ?_;exact HO_7.o,pB⟩
def Zat.l0:Nat->List Int->List Int->Int->Option (List Int)
 | 0,_,_,_=>none
 | k+1,x0,x3,x4=>if x4 >= 0 then (if 0<=x4 then (if x4 < (x0.length:Int) then ((Zv.f k x3 4294967296 (wrap64 (rd x0 x4))).bind fun qb=>(Zat.l0 k x0 qb (wrap64 (x4 - 1)))) else (none)) else (none)) else (some x3)
def Zat.f (k:Nat) (l0:List Int):Option (List Int):=Zat.l0 k l0 ([]:List Int) (wrap64 ((l0.length:Int) - 1))
theorem Zat.calls (k:Nat) (A0:Option Addr) (c0:Nat) (l0:List Int) (r:List Int) (w:World) (hr0:Kd.C (Kd.int .u32) w A0 l0.length l0) (hc0:l0.length<=c0) (h:Zat.f k l0=some r) :
  Calls Tryz.prog 66 #[.slice A0 l0.length c0] w fun e w' => ∃ v0_:Value,e=.returned (v0_)/\Kd.R (Kd.int .i64) 3 w' w.heap.size (fun _=>True) v0_ r/\Below w.heap.size w w':=by
 have HR0:=am hr0
 have HC0:=am hc0
 clear hr0 hc0
 have HB:=am (Below.refl w.heap.size w)
 have H:(Zat.l0 k l0 ([]:List Int) (wrap64 ((l0.length:Int) - 1)))=some r:=h
 clear h
 have H':=am H
 clear H
 go_enter Tryz.func66,Tryz.ntmps66
 go_wp2
 go_loopg [3,4] k (fun kq v3 v4 w' => ∃ (x3_1:List Int) (x4_1:Int),v4=.int .i64 x4_1/\Aside0 (Zat.l0 kq l0 x3_1 x4_1=some r)/\Aside0 (kq<=k)/\Aside0 (Kd.R (Kd.int .i64) 3 w' w.heap.size (fun _=>True) v3 x3_1)/\Aside0 (Below w.heap.size w w'))
 case atStart=>exact ⟨(([]:List Int)),(wrap64 ((l0.length:Int) - 1)),pR,H',⟨Nat.le_refl _⟩,⟨pN⟩,⟨pB⟩⟩
 case round =>
  clear H'
  obtain ⟨x3_1,x4_1,rfl,HA,HK1,HO_3,HB⟩:=hrel
  cases gk with
  | zero=>exact absurd HA.out (by simp [Zat.l0])
  | succ k1 =>
   have H:=HA.out
   clear HA
   simp only [Zat.l0] at H
   replace H:=hI H
   rcases H with ⟨c2b0,H⟩|⟨c2b0,H⟩
   ·replace H:=dI H
    rcases H with ⟨c3b0,H⟩|⟨_,H⟩
    ·replace H:=dI H
     rcases H with ⟨c4b0,H⟩|⟨_,H⟩
     ·replace H:=ob H
      obtain ⟨qb,A5,H⟩:=H
      have H':=am H
      clear H
      have qc:0<=(x4_1:Int):=of_decide_eq_true pQ
      have qd:x4_1 < (l0.length:Int):=of_decide_eq_true pQ
      obtain ⟨qg,qf,qa⟩:=Kd.Zay HR0.o x4_1 qc qd
      cases qf
      replace qa:=(HB.o.cell (World.block_lt_of_cell? w _ qa)).trans qa
      replace qc:=eq_true qc
      replace qd:=eq_true qd
      obtain ⟨Ao6,co6,eo6⟩:=Kd.Zh HO_3.o
      subst eo6
      go_wp2_with (first|(refine gL (some 18) Tryz.func122 #[.slice Ao6 x3_1.length co6,.int .i64 4294967296,.int .i64 (wrap64 (rd l0 x4_1))] (h:=?_);(with_reducible refine (Zv.calls k1 _ _ x3_1 4294967296 (wrap64 (rd l0 x4_1)) qb _ ?side1 ?side2 A5.o).mono ?_);(case side1=>exact Kd.Zi (Kd.Zc HO_3.o).2.2 pl);(case side2=>exact (Kd.Zc HO_3.o).2.1);rintro e w7 ⟨qh,rfl,ho0,hb⟩;refine ⟨_,rfl,?_⟩;have qe:=am (Kd.Zn (Kd.Zf ho0 (Kd.R_lt (Kd.Za HO_3.o pl))) (Zb pB));replace HO_3:=reR HO_3 ho0 hb;replace HB:=bS hb))
      go_roundg k1
      case measure=>exact pM
      case rel=>exact ⟨(qb),(wrap64 (x4_1 - 1)),pR,H',pJ,⟨by refine rp ?_;exact Kd.Zo qe.o (fun _ hk=>trivial)⟩,⟨pB⟩⟩
     ·cases H
    ·cases H
   ·obtain rfl:=Option.some.inj H
    go_wp2
    go_ret
    exact ⟨_,pE,by refine rp ?_;exact HO_3.o,pB⟩
end YtjbjkmccfocikaaGreatDoor.B
end
section
namespace YtjbjkmccfocikaaGreatDoor.P
open Go.RowKit YtjbjkmccfocikaaGreatDoor.B YtjbjkmccfocikaaGreatDoorW.PrintWords YtjbjkmccfocikaaGreatDoor.P.Nm
theorem w64n {z:Int} (h0 : -9223372036854775808<=z) (h1:z<=9223372036854775807):wrap64 z=z:=by unfold wrap64;omega
theorem w64c {m:Nat} (h:m<=9223372036854775807):wrap64 (m:Int)=(m:Int):=w64n (by omega) (by omega)
theorem w64s {i:Nat} (h:i < 9223372036854775807):wrap64 ((i:Int)+1)=((i+1:Nat):Int):=by rw [w64n (by omega) (by omega)];omega
theorem w64p {a b:Nat} (h:a+b<=9223372036854775807):wrap64 ((a:Int)+(b:Int))=((a+b:Nat):Int):=by rw [w64n (by omega) (by omega)];omega
theorem w64m {a b:Nat} (h:a*b<=9223372036854775807):wrap64 ((a:Int)*(b:Int))=((a*b:Nat):Int):=by rw [<- Int.natCast_mul,w64c h]
theorem w64k {a b c:Nat} (hc:a*b=c) (h:c<=9223372036854775807):wrap64 ((a:Int)*(b:Int))=(c:Int):=by rw [<- Int.natCast_mul,hc,w64c h]
theorem w64d {j:Nat} (h:j<=9223372036854775807):wrap64 ((j:Int) - 1)=(j:Int) - 1:=w64n (by omega) (by omega)
theorem w64b {a b:Nat} (hb:b<=a) (h:a<=9223372036854775807):wrap64 ((a:Int) - (b:Int))=((a - b:Nat):Int):=by rw [w64n (by omega) (by omega)];omega
theorem Zgc (j:Nat):((j+1:Nat):Int) - 1=(j:Int):=by omega
theorem tmodc (m:Nat):Int.tmod (m:Int) 10=((m % 10:Nat):Int):=by rw [Int.tmod_eq_emod_of_nonneg (by omega)];omega
theorem tdivc {m:Nat} (h:m<=9223372036854775807):wrap64 (Int.tdiv (m:Int) 10)=((m / 10:Nat):Int):=by rw [Int.tdiv_eq_ediv_of_nonneg (by omega),w64n (by omega) (by omega)];omega
theorem rd_n (l:List Int) (i:Nat):rd l (i:Int)=l.getD i 0:=by unfold rd;rw [Int.toNat_natCast]
theorem getD_in {l:List Int} {i:Nat} (h:i < l.length):l.getD i 0=l[i]:=by rw [List.getD,List.getElem?_eq_getElem h];rfl
theorem Zjb {l:List Int} {i:Nat} (h:i < l.length):l.take (i+1)=l.take i ++ [l.getD i 0]:=by
 rw [getD_in h,List.take_succ_eq_append_getElem h]
theorem Zfs {l:List Int} {i:Nat} (h:i < l.length):l.drop i=l.getD i 0 :: l.drop (i+1):=by
 rw [getD_in h];exact List.drop_eq_getElem_cons h
theorem Zk5 {b:Int} {l:List Int} (h:Dg b l) {i:Nat} (hi:i < l.length):0<=l.getD i 0/\l.getD i 0 < b:=by
 rw [getD_in hi];exact h _ (List.getElem_mem hi)
theorem pw10 (k:Nat):pw 10 k=((10 ^ k:Nat):Int):=Zgl 10 k
theorem Zog {l:List Int} {n:Nat} (hd:Dg 10 l) (h:val 10 l=n) (hg:l ≠ []->pw 10 (l.length - 1)<=n):l=digs n:=by
 refine Zj7 hd ?_ h
 by_cases e:l=[]
 ·rw [e];exact Nz.nil
 ·obtain ⟨m,x,rfl⟩:=Zf5 e
  refine Zez.2 (fun hx=>?_)
  have h1:=hg e
  rw [Zdm,hx,Int.mul_zero,Int.add_zero] at h
  have h2:=Zd2 (b:=10) (by omega) hd.left
  simp only [List.length_append,List.length_cons,List.length_nil,Nat.zero_add,Nat.add_sub_cancel] at h1
  omega
theorem Zee {l:List Int} {n:Nat} (hd:Dg 10 l) (h:val 10 l=n):trimL l=digs n :=
 Zj7 hd.trim (Zp8 l) (by rw [Zn4];exact h)
theorem Zpf (x:List Int) (hl:x.length<=9223372036854775807):∀ n:Nat,n<=x.length->Tells (fun k=>Zl.l0 k x (n:Int)) (trimL (x.take n))
 | 0,h=>by
  refine Tells.succ ?_
  simp only [Zl.l0]
  refine Tells.ifn (by omega) (Tells.ifp (by omega) (Tells.ifp (by omega) ?_))
  exact Tells.pure _
 | n+1,h=>by
  have ih:=Zpf x hl n (by omega)
  have e:wrap64 (((n+1:Nat):Int) - 1)=(n:Int):=by rw [w64n (by omega) (by omega)];omega
  refine Tells.succ ?_
  simp only [Zl.l0]
  rw [e,rd_n]
  refine Tells.ifp (by omega) (Tells.ifp (by omega) (Tells.ifp (by omega) ?_))
  by_cases h0:x.getD n 0=0
  ·refine Tells.ifp h0 ?_
   rw [Zjb (by omega),h0,Ze8]
   exact ih
  ·refine Tells.ifn h0 (Tells.ifp (by omega) (Tells.ifp (by omega) ?_))
   rw [Zjb (by omega),Zfx _ h0,<- Zjb (by omega)]
   rw [Int.toNat_natCast]
   exact Tells.pure _
theorem Zdy (x:List Int) (hl:x.length<=9223372036854775807):Tells (fun k=>Zl.f k x) (trimL x):=by
 have := Zpf x hl x.length (Nat.le_refl _)
 rw [List.take_length] at this
 exact this
theorem Znc:∀ (f:Nat) (m:Nat) (o:List Int),m<=f->m<=4611686018427387904->Dg 10 o->o.length+f<=2305843009213693952*2+1000000->o.length+nd m<=2000000->Tells (fun k=>Zab.l1 k o (m:Int)) (digs (val 10 o+pw 10 o.length*m).toNat)
 | f,0,o,hf,hm,hd,hl,hl2=>by
  refine Tells.succ ?_
  simp only [Zab.l1]
  refine Tells.ifn (by omega) ((Zdy o (by omega)).bind ?_)
  refine (Tells.pure _).val ?_
  have h0:=Zbj (b:=10) (by omega) hd
  rw [Zee hd (n:=(val 10 o+pw 10 o.length*((0:Nat):Int)).toNat) (by simp;omega)]
 | 0,m+1,o,hf,hm,hd,hl,hl2=>by omega
 | f+1,m+1,o,hf,hm,hd,hl,hl2=>by
  have hnd:nd (m+1)=nd ((m+1) / 10)+1:=by
   show (digs (m+1)).length=_
   rw [Zed (by omega)];rfl
  have ih:=Znc f ((m+1) / 10) (o ++ [(((m+1) % 10:Nat):Int)]) (by omega) (by omega) (hd.app (Dg.one (by omega) (by omega))) (by simp;omega) (by simp;omega)
  refine Tells.succ ?_
  simp only [Zab.l1]
  rw [tmodc,tdivc (by omega)]
  refine Tells.ifp (by omega) (Tells.ifp (by omega) (ih.val ?_))
  congr 2
  rw [Zdm,List.length_append]
  show _+pw 10 o.length*_+pw 10 (o.length+1)*_=_
  rw [Zen,Int.add_assoc,Int.mul_comm 10,Int.mul_assoc,<- Int.mul_add]
  congr 2
  omega
theorem Znb (x:List Int) (hx:∀ y ∈ x,0<=y/\y<=1152921504606846976) (hl:x.length<=1000000):∀ (d i m:Nat) (o:List Int),x.length - i=d->i<=x.length->o.length=i->m<=1152921504606846976->Dg 10 o ->
  Tells (fun k=>Zab.l0 k x o (m:Int) (i:Int)) (digs (val 10 o+pw 10 o.length*(m+val 10 (x.drop i))).toNat)
 | 0,i,m,o,hd,hi,ho,hm,hD=>by
  obtain rfl:i=x.length:=by omega
  refine Tells.succ ?_
  simp only [Zab.l0]
  refine Tells.ifn (by omega) ?_
  have hnm:nd m<=20:=Zgg (by omega)
  refine (Znc m m o (Nat.le_refl _) (by omega) hD (by omega) (by omega)).val ?_
  rw [List.drop_length,Zf6,Int.add_zero]
 | d+1,i,m,o,hd,hi,ho,hm,hD=>by
  have hil:i < x.length:=by omega
  have c1:(i:Int) < (x.length:Int):=by omega
  have c2:(0:Int)<=(i:Int):=by omega
  have c3:o.length < 17592186044416:=by omega
  have hy:0<=x.getD i 0/\x.getD i 0<=1152921504606846976:=by rw [getD_in hil];exact hx _ (List.getElem_mem hil)
  obtain ⟨y,hyy⟩:∃ y:Nat,x.getD i 0=(y:Int):=⟨(x.getD i 0).toNat,by omega⟩
  have ih:=Znb x hx hl d (i+1) ((m+y) / 10) (o ++ [(((m+y) % 10:Nat):Int)]) (by omega) (by omega) (by simp [ho]) (by omega) (hD.app (Dg.one (by omega) (by omega)))
  refine Tells.succ ?_
  simp only [Zab.l0]
  rw [rd_n,hyy,w64p (by omega),tmodc,tdivc (by omega),w64s (by omega)]
  refine Tells.ifp c1 (Tells.ifp c2 (Tells.ifp c3 (ih.val ?_)))
  congr 2
  rw [Zdm,List.length_append,Zfs hil,hyy,Zbk]
  show _+pw 10 o.length*_+pw 10 (o.length+1)*_=_
  rw [Zen,Int.add_assoc,Int.mul_comm 10,Int.mul_assoc,<- Int.mul_add]
  congr 2
  omega
theorem Zit (x:List Int) (hx:∀ y ∈ x,0<=y/\y<=1152921504606846976) (hl:x.length<=1000000):Tells (fun k=>Zab.f k x) (digs (val 10 x).toNat):=by
 have := Znb x hx hl x.length 0 0 [] rfl (by omega) rfl (by omega) (Dg.nil _)
 refine this.val ?_
 congr 2
 simp [val,pw]
theorem Zn3:∀ (f:Nat) (m:Nat) (o:List Int),m<=f->m<=4611686018427387904->o.length+nd m<=2000000->Tells (fun k=>Zv.l1 k (m:Int) o) (o++digs m)
 | f,0,o,hf,hm,hl=>by
  refine Tells.succ ?_
  simp only [Zv.l1]
  refine Tells.ifn (by omega) ((Tells.pure _).val (by rw [Zef,List.append_nil]))
 | 0,m+1,o,hf,hm,hl=>by omega
 | f+1,m+1,o,hf,hm,hl=>by
  have hnd:nd (m+1)=nd ((m+1) / 10)+1:=by
   show (digs (m+1)).length=_
   rw [Zed (by omega)];rfl
  have ih:=Zn3 f ((m+1) / 10) (o ++ [(((m+1) % 10:Nat):Int)]) (by omega) (by omega) (by simp;omega)
  have c1:((m+1:Nat):Int) > 0:=by omega
  have c2:o.length < 17592186044416:=by omega
  refine Tells.succ ?_
  simp only [Zv.l1]
  rw [tmodc,tdivc (by omega)]
  refine Tells.ifp c1 (Tells.ifp c2 (ih.val ?_))
  rw [Zed (show m+1 ≠ 0 by omega),List.append_assoc];rfl
theorem Zn2 (x:List Int) (b:Nat) (hb:b<=4294967296) (hx:Dg 10 x) (hl:x.length<=1000000):∀ (d i m:Nat) (o:List Int),x.length - i=d->i<=x.length->o.length=i->m<=1152921504606846976->Dg 10 o ->
  ∃ R,Tells (fun k=>Zv.l0 k x (b:Int) (m:Int) o (i:Int)) R/\Dg 10 R/\val 10 R=val 10 o+pw 10 o.length*(m+b*val 10 (x.drop i))/\(R.length=x.length\/Nz R)
 | 0,i,m,o,hd,hi,ho,hm,hD=>by
  obtain rfl:i=x.length:=by omega
  have hnm:nd m<=20:=Zgg (by omega)
  refine ⟨o++digs m,?_,hD.app (Zcg m),?_,?_⟩
  ·refine Tells.succ ?_
   simp only [Zv.l0]
   exact Tells.ifn (by omega) (Zn3 m m o (Nat.le_refl _) (by omega) (by omega))
  ·rw [Zg7,Zco,List.drop_length,Zf6,Int.mul_zero,Int.add_zero]
  ·by_cases e:m=0
   ·left;rw [e,Zef,List.append_nil,ho]
   ·right
    obtain ⟨l,y,hly⟩:=Zf5 (Ziw e)
    have := Zix m
    rw [hly] at this ⊢
    rw [<- List.append_assoc]
    exact Zez.2 (Zez.1 this)
 | d+1,i,m,o,hd,hi,ho,hm,hD=>by
  have hil:i < x.length:=by omega
  have c1:(i:Int) < (x.length:Int):=by omega
  have c2:(0:Int)<=(i:Int):=by omega
  have c3:o.length < 17592186044416:=by omega
  have hy:=Zk5 hx hil
  obtain ⟨y,hyy⟩:∃ y:Nat,x.getD i 0=(y:Int):=⟨(x.getD i 0).toNat,by omega⟩
  rw [hyy] at hy
  obtain ⟨z,hz⟩:∃ z:Nat,y*b=z:=⟨_,rfl⟩
  have hzb:z<=38654705664:=by rw [<- hz];exact Nat.le_trans (Nat.mul_le_mul (show y<=9 by omega) hb) (by decide)
  obtain ⟨R,h1,h2,h3,h4⟩:=Zn2 x b hb hx hl d (i+1) ((m+z) / 10) (o ++ [(((m+z) % 10:Nat):Int)]) (by omega) (by omega) (by simp [ho]) (by omega) (hD.app (Dg.one (by omega) (by omega)))
  refine ⟨R,?_,h2,?_,h4⟩
  ·refine Tells.succ ?_
   simp only [Zv.l0]
   rw [rd_n,hyy,w64k hz (by omega),w64p (by omega),tmodc,tdivc (by omega),w64s (by omega)]
   exact Tells.ifp c1 (Tells.ifp c2 (Tells.ifp c3 h1))
  ·rw [h3,Zdm,List.length_append,Zfs hil,hyy,Zbk]
   show _+pw 10 o.length*_+pw 10 (o.length+1)*_=_
   rw [Zen,Int.add_assoc,Int.mul_comm 10,Int.mul_assoc,<- Int.mul_add]
   congr 2
   have e5:(b:Int)*((y:Int)+10*val 10 (x.drop (i+1)))=(z:Int)+10*((b:Int)*val 10 (x.drop (i+1))):=by
    rw [Int.mul_add,<- hz,Int.natCast_mul,Int.mul_comm (b:Int) (y:Int),Int.mul_left_comm]
   rw [e5]
   omega
theorem Zg6 (n b m:Nat) (h1:1<=b) (hb:b<=4294967296) (hn:nd n<=1000000) (hm:m<=1152921504606846976):Tells (fun k=>Zv.f k (digs n) (b:Int) (m:Int)) (digs (n*b+m)):=by
 obtain ⟨R,h1',h2,h3,h4⟩:=Zn2 (digs n) b hb (Zcg n) hn (digs n).length 0 m [] rfl (by omega) rfl hm (Dg.nil _)
 have hv:val 10 R=((n*b+m:Nat):Int):=by
  rw [h3,List.drop_zero,Zco]
  simp only [Zf6,List.length_nil,pw,Int.one_mul,Int.zero_add]
  rw [Int.natCast_add,Int.natCast_mul,Int.mul_comm (b:Int)];omega
 have:R=digs (n*b+m):=by
  rcases h4 with h4|h4
  ·refine Zog h2 hv (fun hne=>?_)
   have h0:n ≠ 0:=fun e=>hne (List.eq_nil_of_length_eq_zero (by rw [h4,e];rfl))
   rw [h4,pw10]
   have := Zp0 h0
   have h6:n*1<=n*b:=Nat.mul_le_mul_left n h1
   have h7:10 ^ ((digs n).length - 1)<=n:=this
   exact_mod_cast (by omega:10 ^ ((digs n).length - 1)<=n*b+m)
  ·exact Zj7 h2 h4 hv
 rw [<- this]
 exact h1'
theorem Zro {x:Nat} {l:List Int} (hx:x < 4294967296) (hl:Dg 4294967296 l):num ((x:Int) :: l)=num l*4294967296+x:=by
 have h:=Zdl (Dg.cons (b:=4294967296) (x:=(x:Int)) (by omega) (by omega) hl)
 rw [Zbk,<- Zdl hl] at h
 omega
theorem Zui {l:List Int} (h:Dg 4294967296 l):nd (num l)<=10*l.length:=by
 refine Zgg (Nat.lt_of_lt_of_le (Zp6 h) ?_)
 rw [Nat.pow_mul]
 exact Nat.pow_le_pow_left (by decide) _
theorem Zko (l:List Int) (hd:Dg 4294967296 l) (hl:l.length<=90000):∀ j:Nat,j<=l.length->Tells (fun k=>Zat.l0 k l (digs (num (l.drop j))) ((j:Int) - 1)) (digs (num l))
 | 0,h=>by
  refine Tells.succ ?_
  simp only [Zat.l0]
  exact Tells.ifn (by omega) (Tells.pure _)
 | j+1,h=>by
  have ih:=Zko l hd hl j (by omega)
  have hj:=Zk5 hd (show j < l.length by omega)
  obtain ⟨x,hx⟩:∃ x:Nat,l.getD j 0=(x:Int):=⟨(l.getD j 0).toNat,by omega⟩
  rw [hx] at hj
  have hnd:=Zui (hd.drop (j+1))
  have hlen:(l.drop (j+1)).length<=l.length:=by simp
  have ht:=Zg6 (num (l.drop (j+1))) 4294967296 x (by omega) (by omega) (by omega) (by omega)
  have hn:num (l.drop j)=num (l.drop (j+1))*4294967296+x:=by
   rw [Zfs (show j < l.length by omega),hx]
   exact Zro (by omega) (hd.drop _)
  rw [<- hn] at ht
  have c2:(j:Int) < (l.length:Int):=by omega
  have c1:(0:Int)<=(j:Int):=by omega
  have c0:(j:Int) >= 0:=by omega
  refine Tells.succ ?_
  simp only [Zat.l0]
  rw [Zgc,rd_n,hx,w64d (by omega),w64c (by omega)]
  exact Tells.ifp c0 (Tells.ifp c1 (Tells.ifp c2 (ht.bind ih)))
theorem Zkp (l:List Int) (hd:Dg 4294967296 l) (hl:l.length<=90000):Tells (fun k=>Zat.f k l) (digs (num l)):=by
 have h:=Zko l hd hl l.length (Nat.le_refl _)
 rw [List.drop_length] at h
 have e:wrap64 ((l.length:Int) - 1)=(l.length:Int) - 1:=w64n (by omega) (by omega)
 unfold Zat.f
 rw [e]
 exact h
theorem Zmy (g:List Int) (hg:Dg 10 g) (hl:g.length<=1000000) (o:List Int) (ho:o.length<=2000000) (n:Nat) (hn:val 10 g=n) (V:List Int) (hV:Tells (fun k=>Zaa.l0 k (o ++ [((n % 4294967296:Nat):Int)]) (digs (n / 4294967296))) V) :
  ∀ (j:Nat) (Q:List Int) (r:Nat),j<=g.length->Dg 10 Q->r < 4294967296->val 10 (g.drop j)=4294967296*val 10 Q+r->Q.length=g.length - j->Tells (fun k=>Zaa.l1 k o (g.take j++Q) (r:Int) ((j:Int) - 1)) V
 | 0,Q,r,hj,hQ,hr,hv,hlq=>by
  rw [List.drop_zero,hn] at hv
  have h0:=Zbj (b:=10) (by omega) hQ
  have e1:(r:Int) % 4294967296=((n % 4294967296:Nat):Int):=by omega
  have e2:(val 10 Q).toNat=n / 4294967296:=by omega
  have hc:=Zit Q (fun y hy=>by have := hQ y hy;omega) (by omega)
  rw [e2] at hc
  have c1:o.length < 35184372088832:=by omega
  refine Tells.succ ?_
  simp only [Zaa.l1]
  rw [e1]
  refine Tells.ifn (by omega) (Tells.ifp c1 ?_)
  rw [List.take_zero,List.nil_append]
  exact hc.bind hV
 | j+1,Q,r,hj,hQ,hr,hv,hlq=>by
  have hjl:j < g.length:=by omega
  have hy:=Zk5 hg hjl
  obtain ⟨y,hyy⟩:∃ y:Nat,g.getD j 0=(y:Int):=⟨(g.getD j 0).toNat,by omega⟩
  rw [hyy] at hy
  obtain ⟨z,hz⟩:∃ z:Nat,r*10+y=z:=⟨_,rfl⟩
  have hval:val 10 (g.drop j)=4294967296*val 10 (((z / 4294967296:Nat):Int) :: Q)+((z % 4294967296:Nat):Int):=by
   rw [Zfs hjl,hyy,Zbk,Zbk,hv]
   omega
  have ih:=Zmy g hg hl o ho n hn V hV j (((z / 4294967296:Nat):Int) :: Q) (z % 4294967296) (by omega) (Dg.cons (by omega) (by omega) hQ) (by omega) hval (by simp;omega)
  have c0:(j:Int) >= 0:=by omega
  have c1:(0:Int)<=(j:Int):=by omega
  have htl:(g.take j).length=j:=by rw [List.length_take];omega
  have c2:(j:Int) < ((g.take (j+1)++Q).length:Int):=by rw [List.length_append,List.length_take];omega
  have hsp:g.take (j+1)++Q=g.take j++(y:Int) :: Q:=by rw [Zjb hjl,hyy,List.append_assoc];rfl
  have hrd:(g.take j++(y:Int) :: Q).getD j 0=y:=by rw [List.getD,List.getElem?_append_right (by omega),htl,Nat.sub_self];rfl
  have hst:(g.take j++(y:Int) :: Q).set j ((z / 4294967296:Nat):Int)=g.take j++((z / 4294967296:Nat):Int) :: Q:=by rw [List.set_append_right _ _ (by omega),htl,Nat.sub_self];rfl
  have hrd2:(g.take j++((z / 4294967296:Nat):Int) :: Q).getD j 0=((z / 4294967296:Nat):Int):=by rw [List.getD,List.getElem?_append_right (by omega),htl,Nat.sub_self];rfl
  have e3:(z:Int) / 4294967296=((z / 4294967296:Nat):Int):=by omega
  have e4:(z / 4294967296)*4294967296<=z:=by omega
  have e5:z - (z / 4294967296)*4294967296=z % 4294967296:=by omega
  have b1:r*10<=9223372036854775807:=by omega
  have b2:r*10+y<=9223372036854775807:=by omega
  have b3:z<=9223372036854775807:=by omega
  have b4:j<=9223372036854775807:=by omega
  have e1:wrap64 ((r:Int)*10)=((r*10:Nat):Int):=w64m (b:=10) b1
  have e6:wrap64 (((z / 4294967296:Nat):Int)*4294967296)=(((z / 4294967296)*4294967296:Nat):Int):=w64m (b:=4294967296) (Nat.le_trans e4 b3)
  refine Tells.succ ?_
  simp only [Zaa.l1]
  rw [Zgc]
  refine Tells.ifp c0 (Tells.ifp c1 (Tells.ifp c2 ?_))
  rw [hsp,rd_n,hrd,Int.toNat_natCast,e1,w64p b2,hz,e3,hst]
  refine (Tells.pure _).bind ?_
  rw [rd_n,hrd2,e6,w64b e4 b3,e5,w64d b4]
  exact ih
theorem Zuh (n:Nat) (h:n ≠ 0):nd (n / 4294967296)+1<=nd n:=by
 have e:nd n=nd (n / 10)+1:=by
  show (digs n).length=_
  rw [Zed h];rfl
 have := Zcv (show n / 4294967296<=n / 10 by omega)
 omega
theorem Zoi {n:Nat} (h:n ≠ 0):limbs n=((n % 4294967296:Nat):Int) :: limbs (n / 4294967296):=Zf2 (b:=4294967296) (by omega) h
theorem Zmx:∀ (f n:Nat) (o:List Int),n<=f->nd n<=1000000->o.length+nd n<=2000000->Tells (fun k=>Zaa.l0 k o (digs n)) (o++limbs n)
 | f,0,o,hf,hn,hl=>by
  refine Tells.succ ?_
  simp only [Zaa.l0]
  refine Tells.ifn (by rw [Zef];simp) ((Tells.pure _).val (by show o=o ++ [];rw [List.append_nil]))
 | 0,n+1,o,hf,hn,hl=>by omega
 | f+1,n+1,o,hf,hn,hl=>by
  have hlen:(digs (n+1)).length<=1000000:=hn
  have h0:=Zgh (show n+1 ≠ 0 by omega)
  have h1:0 < (digs (n+1)).length:=h0
  have hd:=Zuh (n+1) (by omega)
  have ih:=Zmx f ((n+1) / 4294967296) (o ++ [(((n+1) % 4294967296:Nat):Int)]) (by omega) (by omega) (by simp;omega)
  rw [List.append_assoc,List.singleton_append,<- Zoi (show n+1 ≠ 0 by omega)] at ih
  have hh:=Zmy (digs (n+1)) (Zcg _) hn o (by omega) (n+1) (Zco _) _ ih (digs (n+1)).length [] 0 (Nat.le_refl _) (Dg.nil _) (by omega) (by rw [List.drop_length];simp [val]) (by simp)
  rw [List.take_length,List.append_nil] at hh
  have c1:((digs (n+1)).length:Int) > 0:=by omega
  have e:wrap64 (((digs (n+1)).length:Int) - 1)=((digs (n+1)).length:Int) - 1:=w64n (by omega) (by omega)
  refine Tells.succ ?_
  simp only [Zaa.l0]
  rw [e]
  exact Tells.ifp c1 hh
theorem Zlw (n:Nat) (h:nd n<=1000000):Tells (fun k=>Zaa.f k (digs n)) (limbs n):=by
 have hh:=Zmx n n [] (Nat.le_refl _) h (by simp;omega)
 have hl:(digs n).length<=1000000:=h
 unfold Zaa.f
 rw [List.nil_append] at hh ⊢
 exact Tells.ifp (by simp;omega) hh
end YtjbjkmccfocikaaGreatDoor.P
end
end Go.Proofs
