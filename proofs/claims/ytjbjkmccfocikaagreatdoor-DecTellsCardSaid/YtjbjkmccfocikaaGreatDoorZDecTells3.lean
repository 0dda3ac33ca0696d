/- DecTells, part 4 of 8 of its proof (no condition); names with a low line are shortened throughout. -/
import Derived.Test.YtjbjkmccfocikaaGreatDoorZDecTells2
import Derived.WalkKit
import Derived.Lib.Hide
import Derived.Outline
import Derived.Deep.DeepFit
import Derived.Laws.Rows
set_option linter.unusedVariables false
set_option linter.unusedSimpArgs false
set_option maxRecDepth 100000
set_option maxHeartbeats 8000000
namespace Go.Proofs
section
namespace YtjbjkmccfocikaaGreatDoor.B
open Go.RowKit YtjbjkmccfocikaaGreatDoorW.PrintWords YtjbjkmccfocikaaGreatDoorW.PrintLast YtjbjkmccfocikaaGreatDoorW.PrintMore
attribute [local go_sem] Zb3 Zb5 Zcp Zcq Zbs Zbt Zb4 Zb6
def Zat.f (k:Nat) (a0_0:Bool) (l0_1:List Int) (a0_2:Int) (a1_0:Bool) (l1_1:List Int) (a1_2:Int):Option (Int):=(Zq.f k a0_0 l0_1 a0_2).bind fun qx=>((Zq.f k a1_0 l1_1 a1_2).bind fun qy=>((Za4.f qy.1 qy.2.1 qy.2.2).bind fun qz=>((Zag.f k qx.1 qx.2.1 qx.2.2 qz.1 qz.2.1 qz.2.2).bind fun q3=>(if (q3.2.1.length:Int)=0 then (some 0) else (if q3.1=true then (some (-1)) else (some 1))))))
def Zat.T1:Bool × List (List Nat × List Nat):=(true,[([],[]),([0],[0]),([],[]),([2,1],[2]),([3,3],[3]),([1,4,4],[1,4]),([],[]),([6,5,5,0,1,2,3,4,5,6],[5,6])])
def Zat.B1:List Nat:=[0,1,0,7,15,31,0,127]
theorem Zat.tab1:rtab .any (opsOf Tryz.f81 1)=Zat.T1:=by kernel_rfl
theorem Zat.bits1:waitsOk Zat.T1.2 Zat.B1=true:=by kernel_rfl
theorem Zat.leaf {P:Prop} (h:P:=by
 go_enter Tryz.func81,Tryz.ntmps81
 try go_wp2_with (first|((with_reducible refine gd 2 ?_);refine bx 2 #[.bool a0_0,.slice A0_1 l0_1.length c0_1,.int .i64 a0_2] 24 (h:=?_);intro gb0z hg w1z hbox hb;have BK2z:=am hbox;have GW3z:=gW hg;replace HB:=bS hb;clear hb hbox hg)|((with_reducible refine gd 3 ?_);refine bx 3 #[.bool a1_0,.slice A1_1 l1_1.length c1_1,.int .i64 a1_2] 24 (h:=?_);intro gb5z hg w6z hbox hb;have BK7z:=am hbox;have GW8z:=gW hg;have jr:=nL hg BK2z;have js:=nG hg BK2z;replace BK2z:=bb BK2z hb;replace HB:=bS hb;clear hb hbox hg))
 replace BK2z:=am (Zay BK2z.o)
 replace BK7z:=am (Zay BK7z.o)
 replace HB:=am (Zbe HB.o)
 refine start_ (n:=8) (S:=fun w'=>w'.cell? ⟨gb0z,0,none⟩=some (.bool a0_0)/\w'.cell? ⟨gb0z,1,none⟩=some (.slice A0_1 l0_1.length c0_1)/\w'.cell? ⟨gb0z,2,none⟩=some (.int .i64 a0_2)/\w'.cell? ⟨gb5z,0,none⟩=some (.bool a1_0)/\w'.cell? ⟨gb5z,1,none⟩=some (.slice A1_1 l1_1.length c1_1)/\w'.cell? ⟨gb5z,2,none⟩=some (.int .i64 a1_2)) (ds:=[]) #[false,false,false,false,false,false,false,false] (by kernel_rfl) rfl rfl ⟨k0 BK2z 0,k0 BK2z 1,k0 BK2z 2,k0 BK7z 0,k0 BK7z 1,k0 BK7z 2⟩ (fun hHeld=>?_);refine Zch Zat.tab1 Zat.bits1 (fun HT_ HW_=>?_)
 generalize w6z.drew=w12z at BK2z BK7z HB hHeld ⊢
 refine take_ (i:=0) (N:=some 6) (v:=?_) (a':=?_) #[true,false,false,false,false,false,false,false] rfl rfl (Za3 HT_.out HW_.out (by kernel_rfl)) (fun _ _ _ h=>h) (Or.inl ⟨by rfl,?_⟩) hHeld ?_ ?_
 rotate_left
 ·rintro w' ⟨s13z,s14z,s15z,s16z,s17z,s18z⟩
  go_simp
  with_reducible rfl
 rotate_left
 ·exact pP
 refine take_ (i:=2) (N:=some 8) (v:=?_) (a':=?_) #[true,false,true,false,false,false,false,false] rfl rfl (Za3 HT_.out HW_.out (by kernel_rfl)) (fun _ _ _ h=>h) (Or.inl ⟨by rfl,?_⟩) hHeld ?_ ?_
 rotate_left
 ·rintro w' ⟨s13z,s14z,s15z,s16z,s17z,s18z⟩
  go_simp
  with_reducible rfl
 rotate_left
 ·exact pP
 first|(have q_:((qm.length:Int) != 0)=false:=c7b1;refine join_ (σ:=Value × Value × Value × Value × Nat) 1 #[true,true,true,true,true,true,true,false] (fun s_=>[(7,.agg #[.bool qo,s_.1,.int .i64 qp]),(9,.agg #[.bool qt,s_.2.1,.int .i64 qu]),(10,.agg #[.bool qq,s_.2.2.1,.int .i64 qr]),(11,.agg #[.bool ja,s_.2.2.2.1,.int .i64 qw]),(5,.pointer (some ⟨s_.2.2.2.2,0,none⟩))]) (fun s_ w'=>(w'.cell? ⟨gb0z,0,none⟩=some (.bool a0_0)/\w'.cell? ⟨gb0z,1,none⟩=some (.slice A0_1 l0_1.length c0_1)/\w'.cell? ⟨gb0z,2,none⟩=some (.int .i64 a0_2)/\w'.cell? ⟨gb5z,0,none⟩=some (.bool a1_0)/\w'.cell? ⟨gb5z,1,none⟩=some (.slice A1_1 l1_1.length c1_1)/\w'.cell? ⟨gb5z,2,none⟩=some (.int .i64 a1_2))/\(Kd.R (Kd.int .i64) 3 w' w.heap.size (fun k_=>some k_ ≠ (s_.2.2.1:Value).ownBlock/\some k_ ≠ (s_.2.2.2.1:Value).ownBlock) s_.1 qi)/\(Kd.R (Kd.int .i64) 3 w' w.heap.size (fun k_=>some k_ ≠ (s_.1:Value).ownBlock/\some k_ ≠ (s_.2.2.2.1:Value).ownBlock) s_.2.2.1 qn)/\(Kd.R (Kd.int .i64) 3 w' w.heap.size (fun k_=>some k_ ≠ (s_.1:Value).ownBlock/\some k_ ≠ (s_.2.2.1:Value).ownBlock) s_.2.2.2.1 qm)/\(w'.heap[gb0z]? = some (.cells #[.bool a0_0,.slice A0_1 l0_1.length c0_1,.int .i64 a0_2] 24 (0,0)))/\(w'.heap[gb5z]? = some (.cells #[.bool a1_0,.slice A1_1 l1_1.length c1_1,.int .i64 a1_2] 24 (0,0)))/\(w'.heap[s_.2.2.2.2]? = some (.cells #[.bool false,.slice none 0 0,.int .i64 0] 30 (0,0)))/\(w.heap.size<=s_.2.2.2.2)/\(w.heap.size<=s_.2.2.2.2)/\(gb0z ≠ s_.2.2.2.2)/\(s_.2.2.2.2 ≠ gb0z)/\(gb5z ≠ s_.2.2.2.2)/\(s_.2.2.2.2 ≠ gb5z)/\(Below w.heap.size w w')) ?_ ?_)|(have q_:Aside0 (_=some (true,_,_)):=A6;have q_:¬ (qm=[]):=c7b2;refine join_ (σ:=Value × Value × Value × Value × Nat) 1 #[true,true,true,true,true,true,true,false] (fun s_=>[(7,.agg #[.bool qo,s_.1,.int .i64 qp]),(9,.agg #[.bool qt,s_.2.1,.int .i64 qu]),(10,.agg #[.bool qq,s_.2.2.1,.int .i64 qr]),(11,.agg #[.bool true,s_.2.2.2.1,.int .i64 qw]),(5,.pointer (some ⟨s_.2.2.2.2,0,none⟩))]) (fun s_ w'=>(w'.cell? ⟨gb0z,0,none⟩=some (.bool a0_0)/\w'.cell? ⟨gb0z,1,none⟩=some (.slice A0_1 l0_1.length c0_1)/\w'.cell? ⟨gb0z,2,none⟩=some (.int .i64 a0_2)/\w'.cell? ⟨gb5z,0,none⟩=some (.bool a1_0)/\w'.cell? ⟨gb5z,1,none⟩=some (.slice A1_1 l1_1.length c1_1)/\w'.cell? ⟨gb5z,2,none⟩=some (.int .i64 a1_2))/\(Kd.R (Kd.int .i64) 3 w' w.heap.size (fun k_=>some k_ ≠ (s_.2.2.1:Value).ownBlock/\some k_ ≠ (s_.2.2.2.1:Value).ownBlock) s_.1 qi)/\(Kd.R (Kd.int .i64) 3 w' w.heap.size (fun k_=>some k_ ≠ (s_.1:Value).ownBlock/\some k_ ≠ (s_.2.2.2.1:Value).ownBlock) s_.2.2.1 qn)/\(Kd.R (Kd.int .i64) 3 w' w.heap.size (fun k_=>some k_ ≠ (s_.1:Value).ownBlock/\some k_ ≠ (s_.2.2.1:Value).ownBlock) s_.2.2.2.1 qm)/\(w'.heap[gb0z]? = some (.cells #[.bool a0_0,.slice A0_1 l0_1.length c0_1,.int .i64 a0_2] 24 (0,0)))/\(w'.heap[gb5z]? = some (.cells #[.bool a1_0,.slice A1_1 l1_1.length c1_1,.int .i64 a1_2] 24 (0,0)))/\(w'.heap[s_.2.2.2.2]? = some (.cells #[.bool false,.slice none 0 0,.int .i64 0] 30 (0,0)))/\(w.heap.size<=s_.2.2.2.2)/\(w.heap.size<=s_.2.2.2.2)/\(gb0z ≠ s_.2.2.2.2)/\(s_.2.2.2.2 ≠ gb0z)/\(gb5z ≠ s_.2.2.2.2)/\(s_.2.2.2.2 ≠ gb5z)/\(Below w.heap.size w w')) ?_ ?_)|(have q_:Aside0 (_=some (false,_,_)):=A6;have q_:¬ (qm=[]):=c7b2;refine join_ (σ:=Value × Value × Value × Value × Nat) 1 #[true,true,true,true,true,true,true,false] (fun s_=>[(7,.agg #[.bool qo,s_.1,.int .i64 qp]),(9,.agg #[.bool qt,s_.2.1,.int .i64 qu]),(10,.agg #[.bool qq,s_.2.2.1,.int .i64 qr]),(11,.agg #[.bool false,s_.2.2.2.1,.int .i64 qw]),(5,.pointer (some ⟨s_.2.2.2.2,0,none⟩))]) (fun s_ w'=>(w'.cell? ⟨gb0z,0,none⟩=some (.bool a0_0)/\w'.cell? ⟨gb0z,1,none⟩=some (.slice A0_1 l0_1.length c0_1)/\w'.cell? ⟨gb0z,2,none⟩=some (.int .i64 a0_2)/\w'.cell? ⟨gb5z,0,none⟩=some (.bool a1_0)/\w'.cell? ⟨gb5z,1,none⟩=some (.slice A1_1 l1_1.length c1_1)/\w'.cell? ⟨gb5z,2,none⟩=some (.int .i64 a1_2))/\(Kd.R (Kd.int .i64) 3 w' w.heap.size (fun k_=>some k_ ≠ (s_.2.2.1:Value).ownBlock/\some k_ ≠ (s_.2.2.2.1:Value).ownBlock) s_.1 qi)/\(Kd.R (Kd.int .i64) 3 w' w.heap.size (fun k_=>some k_ ≠ (s_.1:Value).ownBlock/\some k_ ≠ (s_.2.2.2.1:Value).ownBlock) s_.2.2.1 qn)/\(Kd.R (Kd.int .i64) 3 w' w.heap.size (fun k_=>some k_ ≠ (s_.1:Value).ownBlock/\some k_ ≠ (s_.2.2.1:Value).ownBlock) s_.2.2.2.1 qm)/\(w'.heap[gb0z]? = some (.cells #[.bool a0_0,.slice A0_1 l0_1.length c0_1,.int .i64 a0_2] 24 (0,0)))/\(w'.heap[gb5z]? = some (.cells #[.bool a1_0,.slice A1_1 l1_1.length c1_1,.int .i64 a1_2] 24 (0,0)))/\(w'.heap[s_.2.2.2.2]? = some (.cells #[.bool false,.slice none 0 0,.int .i64 0] 30 (0,0)))/\(w.heap.size<=s_.2.2.2.2)/\(w.heap.size<=s_.2.2.2.2)/\(gb0z ≠ s_.2.2.2.2)/\(s_.2.2.2.2 ≠ gb0z)/\(gb5z ≠ s_.2.2.2.2)/\(s_.2.2.2.2 ≠ gb5z)/\(Below w.heap.size w w')) ?_ ?_)
 rotate_left
 ·intro hJ1_3_4_5_6
  first|(have q_:((qm.length:Int) != 0)=false:=c7b1;refine join_ (σ:=Value × Value × Value × Value) 2 #[true,true,true,true,true,true,false,false] (fun s_=>[(7,.agg #[.bool qo,s_.1,.int .i64 qp]),(9,.agg #[.bool qt,s_.2.1,.int .i64 qu]),(10,.agg #[.bool qq,s_.2.2.1,.int .i64 qr]),(11,.agg #[.bool ja,s_.2.2.2,.int .i64 qw])]) (fun s_ w'=>(w'.cell? ⟨gb0z,0,none⟩=some (.bool a0_0)/\w'.cell? ⟨gb0z,1,none⟩=some (.slice A0_1 l0_1.length c0_1)/\w'.cell? ⟨gb0z,2,none⟩=some (.int .i64 a0_2)/\w'.cell? ⟨gb5z,0,none⟩=some (.bool a1_0)/\w'.cell? ⟨gb5z,1,none⟩=some (.slice A1_1 l1_1.length c1_1)/\w'.cell? ⟨gb5z,2,none⟩=some (.int .i64 a1_2))/\(Kd.R (Kd.int .i64) 3 w' w.heap.size (fun k_=>some k_ ≠ (s_.2.2.1:Value).ownBlock/\some k_ ≠ (s_.2.2.2:Value).ownBlock) s_.1 qi)/\(Kd.R (Kd.int .i64) 3 w' w.heap.size (fun k_=>some k_ ≠ (s_.1:Value).ownBlock/\some k_ ≠ (s_.2.2.2:Value).ownBlock) s_.2.2.1 qn)/\(Kd.R (Kd.int .i64) 3 w' w.heap.size (fun k_=>some k_ ≠ (s_.1:Value).ownBlock/\some k_ ≠ (s_.2.2.1:Value).ownBlock) s_.2.2.2 qm)/\(w'.heap[gb0z]? = some (.cells #[.bool a0_0,.slice A0_1 l0_1.length c0_1,.int .i64 a0_2] 24 (0,0)))/\(w'.heap[gb5z]? = some (.cells #[.bool a1_0,.slice A1_1 l1_1.length c1_1,.int .i64 a1_2] 24 (0,0)))/\(Below w.heap.size w w')) ?_ ?_)|(have q_:Aside0 (_=some (true,_,_)):=A6;have q_:¬ (qm=[]):=c7b2;refine join_ (σ:=Value × Value × Value × Value) 2 #[true,true,true,true,true,true,false,false] (fun s_=>[(7,.agg #[.bool qo,s_.1,.int .i64 qp]),(9,.agg #[.bool qt,s_.2.1,.int .i64 qu]),(10,.agg #[.bool qq,s_.2.2.1,.int .i64 qr]),(11,.agg #[.bool true,s_.2.2.2,.int .i64 qw])]) (fun s_ w'=>(w'.cell? ⟨gb0z,0,none⟩=some (.bool a0_0)/\w'.cell? ⟨gb0z,1,none⟩=some (.slice A0_1 l0_1.length c0_1)/\w'.cell? ⟨gb0z,2,none⟩=some (.int .i64 a0_2)/\w'.cell? ⟨gb5z,0,none⟩=some (.bool a1_0)/\w'.cell? ⟨gb5z,1,none⟩=some (.slice A1_1 l1_1.length c1_1)/\w'.cell? ⟨gb5z,2,none⟩=some (.int .i64 a1_2))/\(Kd.R (Kd.int .i64) 3 w' w.heap.size (fun k_=>some k_ ≠ (s_.2.2.1:Value).ownBlock/\some k_ ≠ (s_.2.2.2:Value).ownBlock) s_.1 qi)/\(Kd.R (Kd.int .i64) 3 w' w.heap.size (fun k_=>some k_ ≠ (s_.1:Value).ownBlock/\some k_ ≠ (s_.2.2.2:Value).ownBlock) s_.2.2.1 qn)/\(Kd.R (Kd.int .i64) 3 w' w.heap.size (fun k_=>some k_ ≠ (s_.1:Value).ownBlock/\some k_ ≠ (s_.2.2.1:Value).ownBlock) s_.2.2.2 qm)/\(w'.heap[gb0z]? = some (.cells #[.bool a0_0,.slice A0_1 l0_1.length c0_1,.int .i64 a0_2] 24 (0,0)))/\(w'.heap[gb5z]? = some (.cells #[.bool a1_0,.slice A1_1 l1_1.length c1_1,.int .i64 a1_2] 24 (0,0)))/\(Below w.heap.size w w')) ?_ ?_)|(have q_:Aside0 (_=some (false,_,_)):=A6;have q_:¬ (qm=[]):=c7b2;refine join_ (σ:=Value × Value × Value × Value) 2 #[true,true,true,true,true,true,false,false] (fun s_=>[(7,.agg #[.bool qo,s_.1,.int .i64 qp]),(9,.agg #[.bool qt,s_.2.1,.int .i64 qu]),(10,.agg #[.bool qq,s_.2.2.1,.int .i64 qr]),(11,.agg #[.bool false,s_.2.2.2,.int .i64 qw])]) (fun s_ w'=>(w'.cell? ⟨gb0z,0,none⟩=some (.bool a0_0)/\w'.cell? ⟨gb0z,1,none⟩=some (.slice A0_1 l0_1.length c0_1)/\w'.cell? ⟨gb0z,2,none⟩=some (.int .i64 a0_2)/\w'.cell? ⟨gb5z,0,none⟩=some (.bool a1_0)/\w'.cell? ⟨gb5z,1,none⟩=some (.slice A1_1 l1_1.length c1_1)/\w'.cell? ⟨gb5z,2,none⟩=some (.int .i64 a1_2))/\(Kd.R (Kd.int .i64) 3 w' w.heap.size (fun k_=>some k_ ≠ (s_.2.2.1:Value).ownBlock/\some k_ ≠ (s_.2.2.2:Value).ownBlock) s_.1 qi)/\(Kd.R (Kd.int .i64) 3 w' w.heap.size (fun k_=>some k_ ≠ (s_.1:Value).ownBlock/\some k_ ≠ (s_.2.2.2:Value).ownBlock) s_.2.2.1 qn)/\(Kd.R (Kd.int .i64) 3 w' w.heap.size (fun k_=>some k_ ≠ (s_.1:Value).ownBlock/\some k_ ≠ (s_.2.2.1:Value).ownBlock) s_.2.2.2 qm)/\(w'.heap[gb0z]? = some (.cells #[.bool a0_0,.slice A0_1 l0_1.length c0_1,.int .i64 a0_2] 24 (0,0)))/\(w'.heap[gb5z]? = some (.cells #[.bool a1_0,.slice A1_1 l1_1.length c1_1,.int .i64 a1_2] 24 (0,0)))/\(Below w.heap.size w w')) ?_ ?_)
  rotate_left
  ·intro hJ1_3_4_5
   refine join_ (σ:=Value × Value × Value × Nat) 2 #[true,true,true,true,true,false,true,false] (fun s_=>[(7,.agg #[.bool qo,s_.1,.int .i64 qp]),(9,.agg #[.bool qt,s_.2.1,.int .i64 qu]),(10,.agg #[.bool qq,s_.2.2.1,.int .i64 qr]),(5,.pointer (some ⟨s_.2.2.2,0,none⟩))]) (fun s_ w'=>(w'.cell? ⟨gb0z,0,none⟩=some (.bool a0_0)/\w'.cell? ⟨gb0z,1,none⟩=some (.slice A0_1 l0_1.length c0_1)/\w'.cell? ⟨gb0z,2,none⟩=some (.int .i64 a0_2)/\w'.cell? ⟨gb5z,0,none⟩=some (.bool a1_0)/\w'.cell? ⟨gb5z,1,none⟩=some (.slice A1_1 l1_1.length c1_1)/\w'.cell? ⟨gb5z,2,none⟩=some (.int .i64 a1_2))/\(Kd.R (Kd.int .i64) 3 w' w.heap.size (fun k_=>some k_ ≠ (s_.2.2.1:Value).ownBlock) s_.1 qi)/\(Kd.R (Kd.int .i64) 3 w' w.heap.size (fun k_=>some k_ ≠ (s_.1:Value).ownBlock) s_.2.2.1 qn)/\(w'.heap[gb0z]? = some (.cells #[.bool a0_0,.slice A0_1 l0_1.length c0_1,.int .i64 a0_2] 24 (0,0)))/\(w'.heap[gb5z]? = some (.cells #[.bool a1_0,.slice A1_1 l1_1.length c1_1,.int .i64 a1_2] 24 (0,0)))/\(w'.heap[s_.2.2.2]? = some (.cells #[.bool false,.slice none 0 0,.int .i64 0] 30 (0,0)))/\(w.heap.size<=s_.2.2.2)/\(w.heap.size<=s_.2.2.2)/\(gb0z ≠ s_.2.2.2)/\(s_.2.2.2 ≠ gb0z)/\(gb5z ≠ s_.2.2.2)/\(s_.2.2.2 ≠ gb5z)/\(Below w.heap.size w w')) ?_ ?_
   rotate_left
   ·intro hJ1_3_4_6
    refine join_ (σ:=Value × Value × Value) 3 #[true,true,true,true,true,false,false,false] (fun s_=>[(7,.agg #[.bool qo,s_.1,.int .i64 qp]),(9,.agg #[.bool qt,s_.2.1,.int .i64 qu]),(10,.agg #[.bool qq,s_.2.2,.int .i64 qr])]) (fun s_ w'=>(w'.cell? ⟨gb0z,0,none⟩=some (.bool a0_0)/\w'.cell? ⟨gb0z,1,none⟩=some (.slice A0_1 l0_1.length c0_1)/\w'.cell? ⟨gb0z,2,none⟩=some (.int .i64 a0_2)/\w'.cell? ⟨gb5z,0,none⟩=some (.bool a1_0)/\w'.cell? ⟨gb5z,1,none⟩=some (.slice A1_1 l1_1.length c1_1)/\w'.cell? ⟨gb5z,2,none⟩=some (.int .i64 a1_2))/\(Kd.R (Kd.int .i64) 3 w' w.heap.size (fun k_=>some k_ ≠ (s_.2.2:Value).ownBlock) s_.1 qi)/\(Kd.R (Kd.int .i64) 3 w' w.heap.size (fun k_=>some k_ ≠ (s_.1:Value).ownBlock) s_.2.2 qn)/\(w'.heap[gb0z]? = some (.cells #[.bool a0_0,.slice A0_1 l0_1.length c0_1,.int .i64 a0_2] 24 (0,0)))/\(w'.heap[gb5z]? = some (.cells #[.bool a1_0,.slice A1_1 l1_1.length c1_1,.int .i64 a1_2] 24 (0,0)))/\(Below w.heap.size w w')) ?_ ?_
    rotate_left
    ·intro hJ1_3_4
     refine join_ (σ:=Value × Value × Nat) 3 #[true,true,true,true,false,false,true,false] (fun s_=>[(7,.agg #[.bool qo,s_.1,.int .i64 qp]),(9,.agg #[.bool qt,s_.2.1,.int .i64 qu]),(5,.pointer (some ⟨s_.2.2,0,none⟩))]) (fun s_ w'=>(w'.cell? ⟨gb0z,0,none⟩=some (.bool a0_0)/\w'.cell? ⟨gb0z,1,none⟩=some (.slice A0_1 l0_1.length c0_1)/\w'.cell? ⟨gb0z,2,none⟩=some (.int .i64 a0_2)/\w'.cell? ⟨gb5z,0,none⟩=some (.bool a1_0)/\w'.cell? ⟨gb5z,1,none⟩=some (.slice A1_1 l1_1.length c1_1)/\w'.cell? ⟨gb5z,2,none⟩=some (.int .i64 a1_2))/\(Kd.R (Kd.int .i64) 3 w' w.heap.size (fun k_=>some k_ ≠ (s_.2.1:Value).ownBlock) s_.1 qi)/\(Kd.R (Kd.int .i64) 3 w' w.heap.size (fun k_=>some k_ ≠ (s_.1:Value).ownBlock) s_.2.1 qs)/\(w'.heap[gb0z]? = some (.cells #[.bool a0_0,.slice A0_1 l0_1.length c0_1,.int .i64 a0_2] 24 (0,0)))/\(w'.heap[gb5z]? = some (.cells #[.bool a1_0,.slice A1_1 l1_1.length c1_1,.int .i64 a1_2] 24 (0,0)))/\(w'.heap[s_.2.2]? = some (.cells #[.bool false,.slice none 0 0,.int .i64 0] 30 (0,0)))/\(w.heap.size<=s_.2.2)/\(w.heap.size<=s_.2.2)/\(gb0z ≠ s_.2.2)/\(s_.2.2 ≠ gb0z)/\(gb5z ≠ s_.2.2)/\(s_.2.2 ≠ gb5z)/\(Below w.heap.size w w')) ?_ ?_
     rotate_left
     ·intro hJ1_3_6
      refine join_ (σ:=Value × Value) 4 #[true,true,true,true,false,false,false,false] (fun s_=>[(7,.agg #[.bool qo,s_.1,.int .i64 qp]),(9,.agg #[.bool qt,s_.2,.int .i64 qu])]) (fun s_ w'=>(w'.cell? ⟨gb0z,0,none⟩=some (.bool a0_0)/\w'.cell? ⟨gb0z,1,none⟩=some (.slice A0_1 l0_1.length c0_1)/\w'.cell? ⟨gb0z,2,none⟩=some (.int .i64 a0_2)/\w'.cell? ⟨gb5z,0,none⟩=some (.bool a1_0)/\w'.cell? ⟨gb5z,1,none⟩=some (.slice A1_1 l1_1.length c1_1)/\w'.cell? ⟨gb5z,2,none⟩=some (.int .i64 a1_2))/\(Kd.R (Kd.int .i64) 3 w' w.heap.size (fun k_=>some k_ ≠ (s_.2:Value).ownBlock) s_.1 qi)/\(Kd.R (Kd.int .i64) 3 w' w.heap.size (fun k_=>some k_ ≠ (s_.1:Value).ownBlock) s_.2 qs)/\(w'.heap[gb0z]? = some (.cells #[.bool a0_0,.slice A0_1 l0_1.length c0_1,.int .i64 a0_2] 24 (0,0)))/\(w'.heap[gb5z]? = some (.cells #[.bool a1_0,.slice A1_1 l1_1.length c1_1,.int .i64 a1_2] 24 (0,0)))/\(Below w.heap.size w w')) ?_ ?_
      rotate_left
      ·intro jj
       refine join_ (σ:=Value × Nat) 4 #[true,true,true,false,false,false,true,false] (fun s_=>[(7,.agg #[.bool qo,s_.1,.int .i64 qp]),(5,.pointer (some ⟨s_.2,0,none⟩))]) (fun s_ w'=>(w'.cell? ⟨gb0z,0,none⟩=some (.bool a0_0)/\w'.cell? ⟨gb0z,1,none⟩=some (.slice A0_1 l0_1.length c0_1)/\w'.cell? ⟨gb0z,2,none⟩=some (.int .i64 a0_2)/\w'.cell? ⟨gb5z,0,none⟩=some (.bool a1_0)/\w'.cell? ⟨gb5z,1,none⟩=some (.slice A1_1 l1_1.length c1_1)/\w'.cell? ⟨gb5z,2,none⟩=some (.int .i64 a1_2))/\(Kd.R (Kd.int .i64) 3 w' w.heap.size (fun _=>True) s_.1 qi)/\(w'.heap[gb0z]? = some (.cells #[.bool a0_0,.slice A0_1 l0_1.length c0_1,.int .i64 a0_2] 24 (0,0)))/\(w'.heap[gb5z]? = some (.cells #[.bool a1_0,.slice A1_1 l1_1.length c1_1,.int .i64 a1_2] 24 (0,0)))/\(w'.heap[s_.2]? = some (.cells #[.bool false,.slice none 0 0,.int .i64 0] 30 (0,0)))/\(w.heap.size<=s_.2)/\(w.heap.size<=s_.2)/\(gb0z ≠ s_.2)/\(s_.2 ≠ gb0z)/\(gb5z ≠ s_.2)/\(s_.2 ≠ gb5z)/\(Below w.heap.size w w')) ?_ ?_
       rotate_left
       ·intro ji
        refine join_ (σ:=Value) 5 #[true,true,true,false,false,false,false,false] (fun s_=>[(7,.agg #[.bool qo,s_,.int .i64 qp])]) (fun s_ w'=>(w'.cell? ⟨gb0z,0,none⟩=some (.bool a0_0)/\w'.cell? ⟨gb0z,1,none⟩=some (.slice A0_1 l0_1.length c0_1)/\w'.cell? ⟨gb0z,2,none⟩=some (.int .i64 a0_2)/\w'.cell? ⟨gb5z,0,none⟩=some (.bool a1_0)/\w'.cell? ⟨gb5z,1,none⟩=some (.slice A1_1 l1_1.length c1_1)/\w'.cell? ⟨gb5z,2,none⟩=some (.int .i64 a1_2))/\(Kd.R (Kd.int .i64) 3 w' w.heap.size (fun _=>True) s_ qi)/\(w'.heap[gb0z]? = some (.cells #[.bool a0_0,.slice A0_1 l0_1.length c0_1,.int .i64 a0_2] 24 (0,0)))/\(w'.heap[gb5z]? = some (.cells #[.bool a1_0,.slice A1_1 l1_1.length c1_1,.int .i64 a1_2] 24 (0,0)))/\(Below w.heap.size w w')) ?_ ?_
        rotate_left
        ·intro jk
         refine join_ (σ:=Nat) 5 #[true,false,true,false,false,false,true,false] (fun s_=>[(5,.pointer (some ⟨s_,0,none⟩))]) (fun s_ w'=>(w'.cell? ⟨gb0z,0,none⟩=some (.bool a0_0)/\w'.cell? ⟨gb0z,1,none⟩=some (.slice A0_1 l0_1.length c0_1)/\w'.cell? ⟨gb0z,2,none⟩=some (.int .i64 a0_2)/\w'.cell? ⟨gb5z,0,none⟩=some (.bool a1_0)/\w'.cell? ⟨gb5z,1,none⟩=some (.slice A1_1 l1_1.length c1_1)/\w'.cell? ⟨gb5z,2,none⟩=some (.int .i64 a1_2))/\(w'.heap[gb0z]? = some (.cells #[.bool a0_0,.slice A0_1 l0_1.length c0_1,.int .i64 a0_2] 24 (0,0)))/\(w'.heap[gb5z]? = some (.cells #[.bool a1_0,.slice A1_1 l1_1.length c1_1,.int .i64 a1_2] 24 (0,0)))/\(w'.heap[s_]? = some (.cells #[.bool false,.slice none 0 0,.int .i64 0] 30 (0,0)))/\(w.heap.size<=s_)/\(w.heap.size<=s_)/\(gb0z ≠ s_)/\(s_ ≠ gb0z)/\(gb5z ≠ s_)/\(s_ ≠ gb5z)/\(Below w.heap.size w w')) ?_ ?_
         rotate_left
         ·intro jl
          refine two_ (i:=1) (j:=6) (Ni:=some 7) (Nj:=some 5) #[true,true,true,false,false,false,false,false] #[true,false,true,false,false,false,true,false] rfl rfl rfl rfl (Zin HT_.out (by kernel_rfl)) (by decide) (by decide) (fun K hK=>?_) (fun K hK=>?_)
          ·skip
           refine goes_ Tryz.func18 (by kernel_rfl) rfl #[.agg #[.bool a0_0,.slice A0_1 l0_1.length c0_1,.int .i64 a0_2]] (by rfl) rfl rfl pA ?_
           with_reducible refine (Zq.calls k a0_0 _ _ l0_1 a0_2 qo qi qp _ ?side1 ?side2 A3.o).mono ?_
           (case side1=>exact cB HR0_1 HB)
           (case side2=>exact HC0_1.o)
           rintro e w23z ⟨v24z,rfl,ho25z,hb⟩
           refine ⟨_,rfl,?_⟩
           have qb:=am (Kd.Zt ho25z (Zb pB))
           replace BK2z:=bb BK2z hb
           replace BK7z:=bb BK7z hb
           replace HB:=bS hb
           refine hK.out _ _ ⟨k0 BK2z 0,k0 BK2z 1,k0 BK2z 2,k0 BK7z 0,k0 BK7z 1,k0 BK7z 2⟩ (fun hHeld=>?_)
           clear hK K
           refine norm_ (a':=?_) ?_ ?_
           rotate_left
           ·show Act.put _ (some 7) _=_
            exact pP
           exact norm_ pT (jk (v24z) _ ⟨hHeld,(Kd.Zc qb.o pl),(Za BK2z.o pl),(Za BK7z.o pl),pB⟩)
          ·skip
           refine Zee ?hg (N:=5) ?hd (cs:=#[.bool false,.slice none 0 0,.int .i64 0]) (t:=30) ?hr ?_;(case hd=>rfl);(case hg=>rfl);(case hr=>first|(go_simp;done)|(go_simp;rfl))
           intro qa hg w23z hbox hb
           have qc:=am hbox
           have ql:=gW hg
           have qk:=gW hg
           have qd:=nL hg BK2z
           have qg:=nG hg BK2z
           have qe:=nL hg BK7z
           have qh:=nG hg BK7z
           replace BK2z:=bb BK2z hb
           replace BK7z:=bb BK7z hb
           replace HB:=bS hb
           clear hb hbox hg
           refine hK.out _ _ ⟨k0 BK2z 0,k0 BK2z 1,k0 BK2z 2,k0 BK7z 0,k0 BK7z 1,k0 BK7z 2⟩ (fun hHeld=>?_)
           clear hK K
           refine norm_ (a':=?_) ?_ ?_
           rotate_left
           ·show Act.put _ (some 5) _=_
            exact pP
           exact norm_ pT (jl (qa) _ ⟨hHeld,(Za BK2z.o pl),(Za BK7z.o pl),(Za qc.o pl),ql.o,qk.o,qd.o,qg.o,qe.o,qh.o,pB⟩)
         ·skip
          rintro qa w35z ⟨hS_,h0_,h1_,h2_,h3_,h4_,h5_,h6_,h7_,h8_,h9_⟩
          have qc:Aside0 (w35z.heap[qa]? = some (.cells #[.bool false,.slice none 0 0,.int .i64 0] 30 (0,0))):=⟨h2_⟩
          have ql:Aside0 (w.heap.size<=qa):=⟨h3_⟩
          have qk:Aside0 (w.heap.size<=qa):=⟨h4_⟩
          have qd:Aside0 (gb0z ≠ qa):=⟨h5_⟩
          have qg:Aside0 (qa ≠ gb0z):=⟨h6_⟩
          have qe:Aside0 (gb5z ≠ qa):=⟨h7_⟩
          have qh:Aside0 (qa ≠ gb5z):=⟨h8_⟩
          replace BK2z:Aside0 (w35z.heap[gb0z]? = some (.cells #[.bool a0_0,.slice A0_1 l0_1.length c0_1,.int .i64 a0_2] 24 (0,0))):=⟨h0_⟩
          replace BK7z:Aside0 (w35z.heap[gb5z]? = some (.cells #[.bool a1_0,.slice A1_1 l1_1.length c1_1,.int .i64 a1_2] 24 (0,0))):=⟨h1_⟩
          replace HB:Aside0 (Below w.heap.size w w35z):=⟨h9_⟩
          clear h0_ h1_ h2_ h3_ h4_ h5_ h6_ h7_ h8_ h9_
          have hHeld:w35z.cell? ⟨gb0z,0,none⟩=some (.bool a0_0)/\w35z.cell? ⟨gb0z,1,none⟩=some (.slice A0_1 l0_1.length c0_1)/\w35z.cell? ⟨gb0z,2,none⟩=some (.int .i64 a0_2)/\w35z.cell? ⟨gb5z,0,none⟩=some (.bool a1_0)/\w35z.cell? ⟨gb5z,1,none⟩=some (.slice A1_1 l1_1.length c1_1)/\w35z.cell? ⟨gb5z,2,none⟩=some (.int .i64 a1_2):=hS_
          refine norm_ (a':=?_) ?_ ?_
          rotate_left
          ·simp only [putAll,Act.put,List.setIfInBounds_toArray,List.set_cons_zero,List.set_cons_succ]
           rfl
          refine one_ (i:=1) (N:=some 7) #[true,true,true,false,false,false,true,false] rfl rfl (Za8 HT_.out (by kernel_rfl)) (by decide) (fun K hK=>?_)
          refine goes_ Tryz.func18 (by kernel_rfl) rfl #[.agg #[.bool a0_0,.slice A0_1 l0_1.length c0_1,.int .i64 a0_2]] (by rfl) rfl rfl pA ?_
          with_reducible refine (Zq.calls k a0_0 _ _ l0_1 a0_2 qo qi qp _ ?side1 ?side2 A3.o).mono ?_
          (case side1=>exact cB HR0_1 HB)
          (case side2=>exact HC0_1.o)
          rintro e w36z ⟨v24z,rfl,ho25z,hb⟩
          refine ⟨_,rfl,?_⟩
          have qb:=am (Kd.Zt ho25z (Zb pB))
          replace BK2z:=bb BK2z hb
          replace BK7z:=bb BK7z hb
          replace qc:=bb qc hb
          replace HB:=bS hb
          refine hK.out _ _ ⟨k0 BK2z 0,k0 BK2z 1,k0 BK2z 2,k0 BK7z 0,k0 BK7z 1,k0 BK7z 2⟩ (fun hHeld=>?_)
          clear hK K
          refine norm_ (a':=?_) ?_ ?_
          rotate_left
          ·show Act.put _ (some 7) _=_
           exact pP
          exact norm_ pT (ji (v24z,qa) _ ⟨hHeld,(Kd.Zc qb.o pl),(Za BK2z.o pl),(Za BK7z.o pl),(Za qc.o pl),ql.o,qk.o,qd.o,qg.o,qe.o,qh.o,pB⟩)
        ·skip
         rintro v24z w35z ⟨hS_,h0_,h1_,h2_,h3_⟩
         have qb:Aside0 (Kd.R (Kd.int .i64) 3 w35z w.heap.size (fun _=>True) v24z qi):=⟨h0_⟩
         replace BK2z:Aside0 (w35z.heap[gb0z]? = some (.cells #[.bool a0_0,.slice A0_1 l0_1.length c0_1,.int .i64 a0_2] 24 (0,0))):=⟨h1_⟩
         replace BK7z:Aside0 (w35z.heap[gb5z]? = some (.cells #[.bool a1_0,.slice A1_1 l1_1.length c1_1,.int .i64 a1_2] 24 (0,0))):=⟨h2_⟩
         replace HB:Aside0 (Below w.heap.size w w35z):=⟨h3_⟩
         clear h0_ h1_ h2_ h3_
         have hHeld:w35z.cell? ⟨gb0z,0,none⟩=some (.bool a0_0)/\w35z.cell? ⟨gb0z,1,none⟩=some (.slice A0_1 l0_1.length c0_1)/\w35z.cell? ⟨gb0z,2,none⟩=some (.int .i64 a0_2)/\w35z.cell? ⟨gb5z,0,none⟩=some (.bool a1_0)/\w35z.cell? ⟨gb5z,1,none⟩=some (.slice A1_1 l1_1.length c1_1)/\w35z.cell? ⟨gb5z,2,none⟩=some (.int .i64 a1_2):=hS_
         refine norm_ (a':=?_) ?_ ?_
         rotate_left
         ·simp only [putAll,Act.put,List.setIfInBounds_toArray,List.set_cons_zero,List.set_cons_succ]
          rfl
         refine two_ (i:=3) (j:=6) (Ni:=some 9) (Nj:=some 5) #[true,true,true,true,false,false,false,false] #[true,true,true,false,false,false,true,false] rfl rfl rfl rfl (Zin HT_.out (by kernel_rfl)) (by decide) (by decide) (fun K hK=>?_) (fun K hK=>?_)
         ·skip
          refine goes_ Tryz.func18 (by kernel_rfl) rfl #[.agg #[.bool a1_0,.slice A1_1 l1_1.length c1_1,.int .i64 a1_2]] (by rfl) rfl rfl pA ?_
          with_reducible refine (Zq.calls k a1_0 _ _ l1_1 a1_2 qt qs qu _ ?side1 ?side2 A4.o).mono ?_
          (case side1=>exact cB HR1_1 HB)
          (case side2=>exact HC1_1.o)
          rintro e w36z ⟨v37z,rfl,ho25z,hb⟩
          refine ⟨_,rfl,?_⟩
          have qj:=am (Kd.Zt (Kd.Zaj ho25z (Kd.R_lt (Kd.Zc qb.o pl))) (Zb pB))
          replace qb:=reR qb ho25z hb
          replace BK2z:=bb BK2z hb
          replace BK7z:=bb BK7z hb
          replace HB:=bS hb
          refine hK.out _ _ ⟨k0 BK2z 0,k0 BK2z 1,k0 BK2z 2,k0 BK7z 0,k0 BK7z 1,k0 BK7z 2⟩ (fun hHeld=>?_)
          clear hK K
          refine norm_ (a':=?_) ?_ ?_
          rotate_left
          ·show Act.put _ (some 9) _=_
           exact pP
          exact norm_ pT (jj (v24z,v37z) _ ⟨hHeld,(Kd.Zc (Kd.Zi qb.o (fun _ hk=>hk.2)) pl),(Kd.Zc (Kd.Zi qj.o (fun _ hk=>hk.2)) pl),(Za BK2z.o pl),(Za BK7z.o pl),pB⟩)
         ·skip
          refine Zee ?hg (N:=5) ?hd (cs:=#[.bool false,.slice none 0 0,.int .i64 0]) (t:=30) ?hr ?_;(case hd=>rfl);(case hg=>rfl);(case hr=>first|(go_simp;done)|(go_simp;rfl))
          intro qa hg w36z hbox hb
          have qc:=am hbox
          have ql:=gW hg
          have qk:=gW hg
          have qd:=nL hg BK2z
          have qg:=nG hg BK2z
          have qe:=nL hg BK7z
          have qh:=nG hg BK7z
          replace qb:=rbl qb hb
          replace BK2z:=bb BK2z hb
          replace BK7z:=bb BK7z hb
          replace HB:=bS hb
          clear hb hbox hg
          refine hK.out _ _ ⟨k0 BK2z 0,k0 BK2z 1,k0 BK2z 2,k0 BK7z 0,k0 BK7z 1,k0 BK7z 2⟩ (fun hHeld=>?_)
          clear hK K
          refine norm_ (a':=?_) ?_ ?_
          rotate_left
          ·show Act.put _ (some 5) _=_
           exact pP
          exact norm_ pT (ji (v24z,qa) _ ⟨hHeld,(Kd.Zc qb.o pl),(Za BK2z.o pl),(Za BK7z.o pl),(Za qc.o pl),ql.o,qk.o,qd.o,qg.o,qe.o,qh.o,pB⟩)
       ·skip
        rintro ⟨v24z,qa⟩ w36z ⟨hS_,h0_,h1_,h2_,h3_,h4_,h5_,h6_,h7_,h8_,h9_,h10_⟩
        have qb:Aside0 (Kd.R (Kd.int .i64) 3 w36z w.heap.size (fun _=>True) v24z qi):=⟨h0_⟩
        have qc:Aside0 (w36z.heap[qa]? = some (.cells #[.bool false,.slice none 0 0,.int .i64 0] 30 (0,0))):=⟨h3_⟩
        have ql:Aside0 (w.heap.size<=qa):=⟨h4_⟩
        have qk:Aside0 (w.heap.size<=qa):=⟨h5_⟩
        have qd:Aside0 (gb0z ≠ qa):=⟨h6_⟩
        have qg:Aside0 (qa ≠ gb0z):=⟨h7_⟩
        have qe:Aside0 (gb5z ≠ qa):=⟨h8_⟩
        have qh:Aside0 (qa ≠ gb5z):=⟨h9_⟩
        replace BK2z:Aside0 (w36z.heap[gb0z]? = some (.cells #[.bool a0_0,.slice A0_1 l0_1.length c0_1,.int .i64 a0_2] 24 (0,0))):=⟨h1_⟩
        replace BK7z:Aside0 (w36z.heap[gb5z]? = some (.cells #[.bool a1_0,.slice A1_1 l1_1.length c1_1,.int .i64 a1_2] 24 (0,0))):=⟨h2_⟩
        replace HB:Aside0 (Below w.heap.size w w36z):=⟨h10_⟩
        clear h0_ h1_ h2_ h3_ h4_ h5_ h6_ h7_ h8_ h9_ h10_
        have hHeld:w36z.cell? ⟨gb0z,0,none⟩=some (.bool a0_0)/\w36z.cell? ⟨gb0z,1,none⟩=some (.slice A0_1 l0_1.length c0_1)/\w36z.cell? ⟨gb0z,2,none⟩=some (.int .i64 a0_2)/\w36z.cell? ⟨gb5z,0,none⟩=some (.bool a1_0)/\w36z.cell? ⟨gb5z,1,none⟩=some (.slice A1_1 l1_1.length c1_1)/\w36z.cell? ⟨gb5z,2,none⟩=some (.int .i64 a1_2):=hS_
        refine norm_ (a':=?_) ?_ ?_
        rotate_left
        ·simp only [putAll,Act.put,List.setIfInBounds_toArray,List.set_cons_zero,List.set_cons_succ]
         rfl
        refine one_ (i:=3) (N:=some 9) #[true,true,true,true,false,false,true,false] rfl rfl (Za8 HT_.out (by kernel_rfl)) (by decide) (fun K hK=>?_)
        refine goes_ Tryz.func18 (by kernel_rfl) rfl #[.agg #[.bool a1_0,.slice A1_1 l1_1.length c1_1,.int .i64 a1_2]] (by rfl) rfl rfl pA ?_
        with_reducible refine (Zq.calls k a1_0 _ _ l1_1 a1_2 qt qs qu _ ?side1 ?side2 A4.o).mono ?_
        (case side1=>exact cB HR1_1 HB)
        (case side2=>exact HC1_1.o)
        rintro e w39z ⟨v37z,rfl,ho25z,hb⟩
        refine ⟨_,rfl,?_⟩
        have qj:=am (Kd.Zt (Kd.Zaj ho25z (Kd.R_lt (Kd.Zc qb.o pl))) (Zb pB))
        replace qb:=reR qb ho25z hb
        replace BK2z:=bb BK2z hb
        replace BK7z:=bb BK7z hb
        replace qc:=bb qc hb
        replace HB:=bS hb
        refine hK.out _ _ ⟨k0 BK2z 0,k0 BK2z 1,k0 BK2z 2,k0 BK7z 0,k0 BK7z 1,k0 BK7z 2⟩ (fun hHeld=>?_)
        clear hK K
        refine norm_ (a':=?_) ?_ ?_
        rotate_left
        ·show Act.put _ (some 9) _=_
         exact pP
        exact norm_ pT (hJ1_3_6 (v24z,v37z,qa) _ ⟨hHeld,(Kd.Zc (Kd.Zi qb.o (fun _ hk=>hk.2)) pl),(Kd.Zc (Kd.Zi qj.o (fun _ hk=>hk.2)) pl),(Za BK2z.o pl),(Za BK7z.o pl),(Za qc.o pl),ql.o,qk.o,qd.o,qg.o,qe.o,qh.o,pB⟩)
      ·skip
       rintro ⟨v24z,v37z⟩ w36z ⟨hS_,h0_,h1_,h2_,h3_,h4_⟩
       have qb:Aside0 (Kd.R (Kd.int .i64) 3 w36z w.heap.size (fun k_=>some k_ ≠ (v37z:Value).ownBlock) v24z qi):=⟨h0_⟩
       have qj:Aside0 (Kd.R (Kd.int .i64) 3 w36z w.heap.size (fun k_=>some k_ ≠ (v24z:Value).ownBlock) v37z qs):=⟨h1_⟩
       replace BK2z:Aside0 (w36z.heap[gb0z]? = some (.cells #[.bool a0_0,.slice A0_1 l0_1.length c0_1,.int .i64 a0_2] 24 (0,0))):=⟨h2_⟩
       replace BK7z:Aside0 (w36z.heap[gb5z]? = some (.cells #[.bool a1_0,.slice A1_1 l1_1.length c1_1,.int .i64 a1_2] 24 (0,0))):=⟨h3_⟩
       replace HB:Aside0 (Below w.heap.size w w36z):=⟨h4_⟩
       clear h0_ h1_ h2_ h3_ h4_
       have hHeld:w36z.cell? ⟨gb0z,0,none⟩=some (.bool a0_0)/\w36z.cell? ⟨gb0z,1,none⟩=some (.slice A0_1 l0_1.length c0_1)/\w36z.cell? ⟨gb0z,2,none⟩=some (.int .i64 a0_2)/\w36z.cell? ⟨gb5z,0,none⟩=some (.bool a1_0)/\w36z.cell? ⟨gb5z,1,none⟩=some (.slice A1_1 l1_1.length c1_1)/\w36z.cell? ⟨gb5z,2,none⟩=some (.int .i64 a1_2):=hS_
       obtain ⟨q2,q4,jd⟩:=Kd.Zm qj.o
       (first|subst jd|(injection jd with f1_ f2_ f3_;have f4_:=f1_.symm;have f5_:=f3_.symm;clear f1_ f2_ f3_;subst f4_;subst f5_))
       refine norm_ (a':=?_) ?_ ?_
       rotate_left
       ·simp only [putAll,Act.put,List.setIfInBounds_toArray,List.set_cons_zero,List.set_cons_succ]
        rfl
       refine two_ (i:=4) (j:=6) (Ni:=some 10) (Nj:=some 5) #[true,true,true,true,true,false,false,false] #[true,true,true,true,false,false,true,false] rfl rfl rfl rfl (Zin HT_.out (by kernel_rfl)) (by decide) (by decide) (fun K hK=>?_) (fun K hK=>?_)
       ·skip
        refine goes_ Tryz.func78 (by kernel_rfl) rfl #[.agg #[.bool qt,.slice q2 qs.length q4,.int .i64 qu]] (by rfl) rfl rfl pA ?_
        with_reducible refine (Za4.calls qt (fun k_=>some k_=(.slice q2 qs.length q4:Value).ownBlock) (.slice q2 qs.length q4) qs qu qq qn qr w _ ?side1 ?side2 A5.o).mono ?_
        (case side1=>exact pB)
        (case side2=>exact Kd.Zbc rfl qj.o)
        rintro e w43z ⟨v44z,rfl,ho25z,hb,hkp⟩
        refine ⟨_,rfl,?_⟩
        have qf:=am (Kd.Zi (ok':=fun k_=>some k_ ≠ (v24z:Value).ownBlock) ho25z (fun k_ hk_=>Or.elim hk_ (fun hs_=>fun e_=>(((qb.o).1 k_ e_.symm)) hs_) (fun hn_=>(Kd.fresh' (Kd.R_lt (Kd.Zc qb.o pl)) k_ hn_))))
        replace BK2z:=am (Zan (Za BK2z.o pl) hkp (fun e_=>Kd.R_ne qj.o BK2z.o (by decide) e_))
        replace BK7z:=am (Zan (Za BK7z.o pl) hkp (fun e_=>Kd.R_ne qj.o BK7z.o (by decide) e_))
        replace qb:=am (Kd.Zi (ok':=fun k_=>some k_ ≠ (v44z:Value).ownBlock) (Kd.Zdj (qb.o) hkp (fun k_ hk_ hs_=>(hk_) hs_)) (fun k_ hk_=>fun e_=>Or.elim (ho25z.1 k_ e_.symm) (fun hs_=>hk_.2.1 hs_) (fun hn_=>Nat.not_le.2 hk_.2.2 hn_)))
        replace HB:=am hb
        clear qj
        refine hK.out _ _ ⟨k0 BK2z 0,k0 BK2z 1,k0 BK2z 2,k0 BK7z 0,k0 BK7z 1,k0 BK7z 2⟩ (fun hHeld=>?_)
        clear hK K
        refine norm_ (a':=?_) ?_ ?_
        rotate_left
        ·show Act.put _ (some 10) _=_
         exact pP
        exact norm_ pT (hJ1_3_4 (v24z,.slice q2 qs.length q4,v44z) _ ⟨hHeld,(Kd.Zc qb.o pl),(Kd.Zc qf.o pl),(Za BK2z.o pl),(Za BK7z.o pl),pB⟩)
       ·skip
        refine Zee ?hg (N:=5) ?hd (cs:=#[.bool false,.slice none 0 0,.int .i64 0]) (t:=30) ?hr ?_;(case hd=>rfl);(case hg=>rfl);(case hr=>first|(go_simp;done)|(go_simp;rfl))
        intro qa hg w39z hbox hb
        have qc:=am hbox
        have ql:=gW hg
        have qk:=gW hg
        have qd:=nL hg BK2z
        have qg:=nG hg BK2z
        have qe:=nL hg BK7z
        have qh:=nG hg BK7z
        replace qb:=rbl qb hb
        replace qj:=rbl qj hb
        replace BK2z:=bb BK2z hb
        replace BK7z:=bb BK7z hb
        replace HB:=bS hb
        clear hb hbox hg
        refine hK.out _ _ ⟨k0 BK2z 0,k0 BK2z 1,k0 BK2z 2,k0 BK7z 0,k0 BK7z 1,k0 BK7z 2⟩ (fun hHeld=>?_)
        clear hK K
        refine norm_ (a':=?_) ?_ ?_
        rotate_left
        ·show Act.put _ (some 5) _=_
         exact pP
        exact norm_ pT (hJ1_3_6 (v24z,(.slice q2 qs.length q4:Value),qa) _ ⟨hHeld,(Kd.Zc qb.o pl),(Kd.Zc qj.o pl),(Za BK2z.o pl),(Za BK7z.o pl),(Za qc.o pl),ql.o,qk.o,qd.o,qg.o,qe.o,qh.o,pB⟩)
     ·skip
      rintro ⟨v24z,v37z,qa⟩ w39z ⟨hS_,h0_,h1_,h2_,h3_,h4_,h5_,h6_,h7_,h8_,h9_,h10_,h11_⟩
      have qb:Aside0 (Kd.R (Kd.int .i64) 3 w39z w.heap.size (fun k_=>some k_ ≠ (v37z:Value).ownBlock) v24z qi):=⟨h0_⟩
      have qj:Aside0 (Kd.R (Kd.int .i64) 3 w39z w.heap.size (fun k_=>some k_ ≠ (v24z:Value).ownBlock) v37z qs):=⟨h1_⟩
      have qc:Aside0 (w39z.heap[qa]? = some (.cells #[.bool false,.slice none 0 0,.int .i64 0] 30 (0,0))):=⟨h4_⟩
      have ql:Aside0 (w.heap.size<=qa):=⟨h5_⟩
      have qk:Aside0 (w.heap.size<=qa):=⟨h6_⟩
      have qd:Aside0 (gb0z ≠ qa):=⟨h7_⟩
      have qg:Aside0 (qa ≠ gb0z):=⟨h8_⟩
      have qe:Aside0 (gb5z ≠ qa):=⟨h9_⟩
      have qh:Aside0 (qa ≠ gb5z):=⟨h10_⟩
      replace BK2z:Aside0 (w39z.heap[gb0z]? = some (.cells #[.bool a0_0,.slice A0_1 l0_1.length c0_1,.int .i64 a0_2] 24 (0,0))):=⟨h2_⟩
      replace BK7z:Aside0 (w39z.heap[gb5z]? = some (.cells #[.bool a1_0,.slice A1_1 l1_1.length c1_1,.int .i64 a1_2] 24 (0,0))):=⟨h3_⟩
      replace HB:Aside0 (Below w.heap.size w w39z):=⟨h11_⟩
      clear h0_ h1_ h2_ h3_ h4_ h5_ h6_ h7_ h8_ h9_ h10_ h11_
      have hHeld:w39z.cell? ⟨gb0z,0,none⟩=some (.bool a0_0)/\w39z.cell? ⟨gb0z,1,none⟩=some (.slice A0_1 l0_1.length c0_1)/\w39z.cell? ⟨gb0z,2,none⟩=some (.int .i64 a0_2)/\w39z.cell? ⟨gb5z,0,none⟩=some (.bool a1_0)/\w39z.cell? ⟨gb5z,1,none⟩=some (.slice A1_1 l1_1.length c1_1)/\w39z.cell? ⟨gb5z,2,none⟩=some (.int .i64 a1_2):=hS_
      obtain ⟨q6,q7,je⟩:=Kd.Zm qj.o
      (first|subst je|(injection je with f1_ f2_ f3_;have f4_:=f1_.symm;have f5_:=f3_.symm;clear f1_ f2_ f3_;subst f4_;subst f5_))
      refine norm_ (a':=?_) ?_ ?_
      rotate_left
      ·simp only [putAll,Act.put,List.setIfInBounds_toArray,List.set_cons_zero,List.set_cons_succ]
       rfl
      refine one_ (i:=4) (N:=some 10) #[true,true,true,true,true,false,true,false] rfl rfl (Za8 HT_.out (by kernel_rfl)) (by decide) (fun K hK=>?_)
      refine goes_ Tryz.func78 (by kernel_rfl) rfl #[.agg #[.bool qt,.slice q6 qs.length q7,.int .i64 qu]] (by rfl) rfl rfl pA ?_
      with_reducible refine (Za4.calls qt (fun k_=>some k_=(.slice q6 qs.length q7:Value).ownBlock) (.slice q6 qs.length q7) qs qu qq qn qr w _ ?side1 ?side2 A5.o).mono ?_
      (case side1=>exact pB)
      (case side2=>exact Kd.Zbc rfl qj.o)
      rintro e w49z ⟨v44z,rfl,ho25z,hb,hkp⟩
      refine ⟨_,rfl,?_⟩
      have qf:=am (Kd.Zi (ok':=fun k_=>some k_ ≠ (v24z:Value).ownBlock) ho25z (fun k_ hk_=>Or.elim hk_ (fun hs_=>fun e_=>(((qb.o).1 k_ e_.symm)) hs_) (fun hn_=>(Kd.fresh' (Kd.R_lt (Kd.Zc qb.o pl)) k_ hn_))))
      replace BK2z:=am (Zan (Za BK2z.o pl) hkp (fun e_=>Kd.R_ne qj.o BK2z.o (by decide) e_))
      replace BK7z:=am (Zan (Za BK7z.o pl) hkp (fun e_=>Kd.R_ne qj.o BK7z.o (by decide) e_))
      replace qb:=am (Kd.Zi (ok':=fun k_=>some k_ ≠ (v44z:Value).ownBlock) (Kd.Zdj (qb.o) hkp (fun k_ hk_ hs_=>(hk_) hs_)) (fun k_ hk_=>fun e_=>Or.elim (ho25z.1 k_ e_.symm) (fun hs_=>hk_.2.1 hs_) (fun hn_=>Nat.not_le.2 hk_.2.2 hn_)))
      replace qc:=am (Zan (Za qc.o pl) hkp (fun e_=>Kd.R_ne qj.o qc.o (by decide) e_))
      replace HB:=am hb
      clear qj
      refine hK.out _ _ ⟨k0 BK2z 0,k0 BK2z 1,k0 BK2z 2,k0 BK7z 0,k0 BK7z 1,k0 BK7z 2⟩ (fun hHeld=>?_)
      clear hK K
      refine norm_ (a':=?_) ?_ ?_
      rotate_left
      ·show Act.put _ (some 10) _=_
       exact pP
      exact norm_ pT (hJ1_3_4_6 (v24z,.slice q6 qs.length q7,v44z,qa) _ ⟨hHeld,(Kd.Zc qb.o pl),(Kd.Zc qf.o pl),(Za BK2z.o pl),(Za BK7z.o pl),(Za qc.o pl),ql.o,qk.o,qd.o,qg.o,qe.o,qh.o,pB⟩)
    ·skip
     rintro ⟨v24z,v37z,v44z⟩ w43z ⟨hS_,h0_,h1_,h2_,h3_,h4_⟩
     have qb:Aside0 (Kd.R (Kd.int .i64) 3 w43z w.heap.size (fun k_=>some k_ ≠ (v44z:Value).ownBlock) v24z qi):=⟨h0_⟩
     have qf:Aside0 (Kd.R (Kd.int .i64) 3 w43z w.heap.size (fun k_=>some k_ ≠ (v24z:Value).ownBlock) v44z qn):=⟨h1_⟩
     replace BK2z:Aside0 (w43z.heap[gb0z]? = some (.cells #[.bool a0_0,.slice A0_1 l0_1.length c0_1,.int .i64 a0_2] 24 (0,0))):=⟨h2_⟩
     replace BK7z:Aside0 (w43z.heap[gb5z]? = some (.cells #[.bool a1_0,.slice A1_1 l1_1.length c1_1,.int .i64 a1_2] 24 (0,0))):=⟨h3_⟩
     replace HB:Aside0 (Below w.heap.size w w43z):=⟨h4_⟩
     clear h0_ h1_ h2_ h3_ h4_
     have hHeld:w43z.cell? ⟨gb0z,0,none⟩=some (.bool a0_0)/\w43z.cell? ⟨gb0z,1,none⟩=some (.slice A0_1 l0_1.length c0_1)/\w43z.cell? ⟨gb0z,2,none⟩=some (.int .i64 a0_2)/\w43z.cell? ⟨gb5z,0,none⟩=some (.bool a1_0)/\w43z.cell? ⟨gb5z,1,none⟩=some (.slice A1_1 l1_1.length c1_1)/\w43z.cell? ⟨gb5z,2,none⟩=some (.int .i64 a1_2):=hS_
     obtain ⟨q8,q9,jf⟩:=Kd.Zm qb.o
     (first|subst jf|(injection jf with f1_ f2_ f3_;have f4_:=f1_.symm;have f5_:=f3_.symm;clear f1_ f2_ f3_;subst f4_;subst f5_))
     obtain ⟨q0,q1,q5⟩:=Kd.Zm qf.o
     (first|subst q5|(injection q5 with f1_ f2_ f3_;have f4_:=f1_.symm;have f5_:=f3_.symm;clear f1_ f2_ f3_;subst f4_;subst f5_))
     refine norm_ (a':=?_) ?_ ?_
     rotate_left
     ·simp only [putAll,Act.put,List.setIfInBounds_toArray,List.set_cons_zero,List.set_cons_succ]
      rfl
     refine two_ (i:=5) (j:=6) (Ni:=some 11) (Nj:=some 5) #[true,true,true,true,true,true,false,false] #[true,true,true,true,true,false,true,false] rfl rfl rfl rfl (Zin HT_.out (by kernel_rfl)) (by decide) (by decide) (fun K hK=>?_) (fun K hK=>?_)
     ·skip
      refine goes_ Tryz.func77 (by kernel_rfl) rfl #[.agg #[.bool qo,.slice q8 qi.length q9,.int .i64 qp],.agg #[.bool qq,.slice q0 qn.length q1,.int .i64 qr]] (by rfl) rfl rfl pA ?_
      first|(have q_:((qm.length:Int) != 0)=false:=c7b1;with_reducible refine (Zag.calls k qo _ _ qi qp qq _ _ qn qr ja qm qw _ ?side1 ?side2 ?side3 ?side4 A6.o).mono ?_)|(have q_:Aside0 (_=some (true,_,_)):=A6;have q_:¬ (qm=[]):=c7b2;with_reducible refine (Zag.calls k qo _ _ qi qp qq _ _ qn qr true qm qw _ ?side1 ?side2 ?side3 ?side4 A6.o).mono ?_)|(have q_:Aside0 (_=some (false,_,_)):=A6;have q_:¬ (qm=[]):=c7b2;with_reducible refine (Zag.calls k qo _ _ qi qp qq _ _ qn qr false qm qw _ ?side1 ?side2 ?side3 ?side4 A6.o).mono ?_)
      (case side1=>exact Kd.Zv (Kd.Zf qb.o).2.2 pl)
      (case side2=>exact (Kd.Zf qb.o).2.1)
      (case side3=>exact Kd.Zv (Kd.Zf qf.o).2.2 pl)
      (case side4=>exact (Kd.Zf qf.o).2.1)
      rintro e w56z ⟨v57z,rfl,ho25z,hb⟩
      refine ⟨_,rfl,?_⟩
      have qv:=am (Kd.Zt (Kd.Zaj (Kd.Zaj ho25z (Kd.R_lt (Kd.Zc qb.o pl))) (Kd.R_lt (Kd.Zc qf.o pl))) (Zb pB))
      replace qb:=reR qb ho25z hb
      replace qf:=reR qf ho25z hb
      replace BK2z:=bb BK2z hb
      replace BK7z:=bb BK7z hb
      replace HB:=bS hb
      refine hK.out _ _ ⟨k0 BK2z 0,k0 BK2z 1,k0 BK2z 2,k0 BK7z 0,k0 BK7z 1,k0 BK7z 2⟩ (fun hHeld=>?_)
      clear hK K
      refine norm_ (a':=?_) ?_ ?_
      rotate_left
      ·show Act.put _ (some 11) _=_
       exact pP
      exact norm_ pT (hJ1_3_4_5 (.slice q8 qi.length q9,v37z,.slice q0 qn.length q1,v57z) _ ⟨hHeld,(Kd.Zc qb.o pl),(Kd.Zc qf.o pl),(Kd.Zc (Kd.Zi qv.o (fun _ hk=>⟨hk.1.2,hk.2⟩)) pl),(Za BK2z.o pl),(Za BK7z.o pl),pB⟩)
     ·skip
      refine Zee ?hg (N:=5) ?hd (cs:=#[.bool false,.slice none 0 0,.int .i64 0]) (t:=30) ?hr ?_;(case hd=>rfl);(case hg=>rfl);(case hr=>first|(go_simp;done)|(go_simp;rfl))
      intro qa hg w49z hbox hb
      have qc:=am hbox
      have ql:=gW hg
      have qk:=gW hg
      have qd:=nL hg BK2z
      have qg:=nG hg BK2z
      have qe:=nL hg BK7z
      have qh:=nG hg BK7z
      replace qb:=rbl qb hb
      replace qf:=rbl qf hb
      replace BK2z:=bb BK2z hb
      replace BK7z:=bb BK7z hb
      replace HB:=bS hb
      clear hb hbox hg
      refine hK.out _ _ ⟨k0 BK2z 0,k0 BK2z 1,k0 BK2z 2,k0 BK7z 0,k0 BK7z 1,k0 BK7z 2⟩ (fun hHeld=>?_)
      clear hK K
      refine norm_ (a':=?_) ?_ ?_
      rotate_left
      ·show Act.put _ (some 5) _=_
       exact pP
      exact norm_ pT (hJ1_3_4_6 ((.slice q8 qi.length q9:Value),v37z,(.slice q0 qn.length q1:Value),qa) _ ⟨hHeld,(Kd.Zc qb.o pl),(Kd.Zc qf.o pl),(Za BK2z.o pl),(Za BK7z.o pl),(Za qc.o pl),ql.o,qk.o,qd.o,qg.o,qe.o,qh.o,pB⟩)
   ·skip
    rintro ⟨v24z,v37z,v44z,qa⟩ w49z ⟨hS_,h0_,h1_,h2_,h3_,h4_,h5_,h6_,h7_,h8_,h9_,h10_,h11_⟩
    have qb:Aside0 (Kd.R (Kd.int .i64) 3 w49z w.heap.size (fun k_=>some k_ ≠ (v44z:Value).ownBlock) v24z qi):=⟨h0_⟩
    have qf:Aside0 (Kd.R (Kd.int .i64) 3 w49z w.heap.size (fun k_=>some k_ ≠ (v24z:Value).ownBlock) v44z qn):=⟨h1_⟩
    have qc:Aside0 (w49z.heap[qa]? = some (.cells #[.bool false,.slice none 0 0,.int .i64 0] 30 (0,0))):=⟨h4_⟩
    have ql:Aside0 (w.heap.size<=qa):=⟨h5_⟩
    have qk:Aside0 (w.heap.size<=qa):=⟨h6_⟩
    have qd:Aside0 (gb0z ≠ qa):=⟨h7_⟩
    have qg:Aside0 (qa ≠ gb0z):=⟨h8_⟩
    have qe:Aside0 (gb5z ≠ qa):=⟨h9_⟩
    have qh:Aside0 (qa ≠ gb5z):=⟨h10_⟩
    replace BK2z:Aside0 (w49z.heap[gb0z]? = some (.cells #[.bool a0_0,.slice A0_1 l0_1.length c0_1,.int .i64 a0_2] 24 (0,0))):=⟨h2_⟩
    replace BK7z:Aside0 (w49z.heap[gb5z]? = some (.cells #[.bool a1_0,.slice A1_1 l1_1.length c1_1,.int .i64 a1_2] 24 (0,0))):=⟨h3_⟩
    replace HB:Aside0 (Below w.heap.size w w49z):=⟨h11_⟩
    clear h0_ h1_ h2_ h3_ h4_ h5_ h6_ h7_ h8_ h9_ h10_ h11_
    have hHeld:w49z.cell? ⟨gb0z,0,none⟩=some (.bool a0_0)/\w49z.cell? ⟨gb0z,1,none⟩=some (.slice A0_1 l0_1.length c0_1)/\w49z.cell? ⟨gb0z,2,none⟩=some (.int .i64 a0_2)/\w49z.cell? ⟨gb5z,0,none⟩=some (.bool a1_0)/\w49z.cell? ⟨gb5z,1,none⟩=some (.slice A1_1 l1_1.length c1_1)/\w49z.cell? ⟨gb5z,2,none⟩=some (.int .i64 a1_2):=hS_
    obtain ⟨q0,q1,q5⟩:=Kd.Zm qb.o
    (first|subst q5|(injection q5 with f1_ f2_ f3_;have f4_:=f1_.symm;have f5_:=f3_.symm;clear f1_ f2_ f3_;subst f4_;subst f5_))
    obtain ⟨jb,jc,jg⟩:=Kd.Zm qf.o
    (first|subst jg|(injection jg with f1_ f2_ f3_;have f4_:=f1_.symm;have f5_:=f3_.symm;clear f1_ f2_ f3_;subst f4_;subst f5_))
    refine norm_ (a':=?_) ?_ ?_
    rotate_left
    ·simp only [putAll,Act.put,List.setIfInBounds_toArray,List.set_cons_zero,List.set_cons_succ]
     rfl
    refine one_ (i:=5) (N:=some 11) #[true,true,true,true,true,true,true,false] rfl rfl (Za8 HT_.out (by kernel_rfl)) (by decide) (fun K hK=>?_)
    refine goes_ Tryz.func77 (by kernel_rfl) rfl #[.agg #[.bool qo,.slice q0 qi.length q1,.int .i64 qp],.agg #[.bool qq,.slice jb qn.length jc,.int .i64 qr]] (by rfl) rfl rfl pA ?_
    first|(have q_:((qm.length:Int) != 0)=false:=c7b1;with_reducible refine (Zag.calls k qo _ _ qi qp qq _ _ qn qr ja qm qw _ ?side1 ?side2 ?side3 ?side4 A6.o).mono ?_)|(have q_:Aside0 (_=some (true,_,_)):=A6;have q_:¬ (qm=[]):=c7b2;with_reducible refine (Zag.calls k qo _ _ qi qp qq _ _ qn qr true qm qw _ ?side1 ?side2 ?side3 ?side4 A6.o).mono ?_)|(have q_:Aside0 (_=some (false,_,_)):=A6;have q_:¬ (qm=[]):=c7b2;with_reducible refine (Zag.calls k qo _ _ qi qp qq _ _ qn qr false qm qw _ ?side1 ?side2 ?side3 ?side4 A6.o).mono ?_)
    (case side1=>exact Kd.Zv (Kd.Zf qb.o).2.2 pl)
    (case side2=>exact (Kd.Zf qb.o).2.1)
    (case side3=>exact Kd.Zv (Kd.Zf qf.o).2.2 pl)
    (case side4=>exact (Kd.Zf qf.o).2.1)
    rintro e w62z ⟨v57z,rfl,ho25z,hb⟩
    refine ⟨_,rfl,?_⟩
    have qv:=am (Kd.Zt (Kd.Zaj (Kd.Zaj ho25z (Kd.R_lt (Kd.Zc qb.o pl))) (Kd.R_lt (Kd.Zc qf.o pl))) (Zb pB))
    replace qb:=reR qb ho25z hb
    replace qf:=reR qf ho25z hb
    replace BK2z:=bb BK2z hb
    replace BK7z:=bb BK7z hb
    replace qc:=bb qc hb
    replace HB:=bS hb
    refine hK.out _ _ ⟨k0 BK2z 0,k0 BK2z 1,k0 BK2z 2,k0 BK7z 0,k0 BK7z 1,k0 BK7z 2⟩ (fun hHeld=>?_)
    clear hK K
    refine norm_ (a':=?_) ?_ ?_
    rotate_left
    ·show Act.put _ (some 11) _=_
     exact pP
    exact norm_ pT (hJ1_3_4_5_6 (.slice q0 qi.length q1,v37z,.slice jb qn.length jc,v57z,qa) _ ⟨hHeld,(Kd.Zc qb.o pl),(Kd.Zc qf.o pl),(Kd.Zc (Kd.Zi qv.o (fun _ hk=>⟨hk.1.2,hk.2⟩)) pl),(Za BK2z.o pl),(Za BK7z.o pl),(Za qc.o pl),ql.o,qk.o,qd.o,qg.o,qe.o,qh.o,pB⟩)
  ·skip
   rintro ⟨v24z,v37z,v44z,v57z⟩ w56z ⟨hS_,h0_,h1_,h2_,h3_,h4_,h5_⟩
   have qb:Aside0 (Kd.R (Kd.int .i64) 3 w56z w.heap.size (fun k_=>some k_ ≠ (v44z:Value).ownBlock/\some k_ ≠ (v57z:Value).ownBlock) v24z qi):=⟨h0_⟩
   have qf:Aside0 (Kd.R (Kd.int .i64) 3 w56z w.heap.size (fun k_=>some k_ ≠ (v24z:Value).ownBlock/\some k_ ≠ (v57z:Value).ownBlock) v44z qn):=⟨h1_⟩
   have qv:Aside0 (Kd.R (Kd.int .i64) 3 w56z w.heap.size (fun k_=>some k_ ≠ (v24z:Value).ownBlock/\some k_ ≠ (v44z:Value).ownBlock) v57z qm):=⟨h2_⟩
   replace BK2z:Aside0 (w56z.heap[gb0z]? = some (.cells #[.bool a0_0,.slice A0_1 l0_1.length c0_1,.int .i64 a0_2] 24 (0,0))):=⟨h3_⟩
   replace BK7z:Aside0 (w56z.heap[gb5z]? = some (.cells #[.bool a1_0,.slice A1_1 l1_1.length c1_1,.int .i64 a1_2] 24 (0,0))):=⟨h4_⟩
   replace HB:Aside0 (Below w.heap.size w w56z):=⟨h5_⟩
   clear h0_ h1_ h2_ h3_ h4_ h5_
   have hHeld:w56z.cell? ⟨gb0z,0,none⟩=some (.bool a0_0)/\w56z.cell? ⟨gb0z,1,none⟩=some (.slice A0_1 l0_1.length c0_1)/\w56z.cell? ⟨gb0z,2,none⟩=some (.int .i64 a0_2)/\w56z.cell? ⟨gb5z,0,none⟩=some (.bool a1_0)/\w56z.cell? ⟨gb5z,1,none⟩=some (.slice A1_1 l1_1.length c1_1)/\w56z.cell? ⟨gb5z,2,none⟩=some (.int .i64 a1_2):=hS_
   refine norm_ (a':=?_) ?_ ?_
   rotate_left
   ·simp only [putAll,Act.put,List.setIfInBounds_toArray,List.set_cons_zero,List.set_cons_succ]
    rfl
   refine one_ (i:=6) (N:=some 5) #[true,true,true,true,true,true,true,false] rfl rfl (Za8 HT_.out (by kernel_rfl)) (by decide) (fun K hK=>?_)
   refine Zee ?hg (N:=5) ?hd (cs:=#[.bool false,.slice none 0 0,.int .i64 0]) (t:=30) ?hr ?_;(case hd=>rfl);(case hg=>rfl);(case hr=>first|(go_simp;done)|(go_simp;rfl))
   intro qa hg w62z hbox hb
   have qc:=am hbox
   have ql:=gW hg
   have qk:=gW hg
   have qd:=nL hg BK2z
   have qg:=nG hg BK2z
   have qe:=nL hg BK7z
   have qh:=nG hg BK7z
   replace qb:=rbl qb hb
   replace qf:=rbl qf hb
   replace qv:=rbl qv hb
   replace BK2z:=bb BK2z hb
   replace BK7z:=bb BK7z hb
   replace HB:=bS hb
   clear hb hbox hg
   refine hK.out _ _ ⟨k0 BK2z 0,k0 BK2z 1,k0 BK2z 2,k0 BK7z 0,k0 BK7z 1,k0 BK7z 2⟩ (fun hHeld=>?_)
   clear hK K
   refine norm_ (a':=?_) ?_ ?_
   rotate_left
   ·show Act.put _ (some 5) _=_
    exact pP
   exact norm_ pT (hJ1_3_4_5_6 (v24z,v37z,v44z,v57z,qa) _ ⟨hHeld,(Kd.Zc qb.o pl),(Kd.Zc qf.o pl),(Kd.Zc qv.o pl),(Za BK2z.o pl),(Za BK7z.o pl),(Za qc.o pl),ql.o,qk.o,qd.o,qg.o,qe.o,qh.o,pB⟩)
 rintro ⟨v24z,v37z,v44z,v57z,qa⟩ w62z ⟨hS_,h0_,h1_,h2_,h3_,h4_,h5_,h6_,h7_,h8_,h9_,h10_,h11_,h12_⟩
 have qb:Aside0 (Kd.R (Kd.int .i64) 3 w62z w.heap.size (fun k_=>some k_ ≠ (v44z:Value).ownBlock/\some k_ ≠ (v57z:Value).ownBlock) v24z qi):=⟨h0_⟩
 have qf:Aside0 (Kd.R (Kd.int .i64) 3 w62z w.heap.size (fun k_=>some k_ ≠ (v24z:Value).ownBlock/\some k_ ≠ (v57z:Value).ownBlock) v44z qn):=⟨h1_⟩
 have qv:Aside0 (Kd.R (Kd.int .i64) 3 w62z w.heap.size (fun k_=>some k_ ≠ (v24z:Value).ownBlock/\some k_ ≠ (v44z:Value).ownBlock) v57z qm):=⟨h2_⟩
 have qc:Aside0 (w62z.heap[qa]? = some (.cells #[.bool false,.slice none 0 0,.int .i64 0] 30 (0,0))):=⟨h5_⟩
 have ql:Aside0 (w.heap.size<=qa):=⟨h6_⟩
 have qk:Aside0 (w.heap.size<=qa):=⟨h7_⟩
 have qd:Aside0 (gb0z ≠ qa):=⟨h8_⟩
 have qg:Aside0 (qa ≠ gb0z):=⟨h9_⟩
 have qe:Aside0 (gb5z ≠ qa):=⟨h10_⟩
 have qh:Aside0 (qa ≠ gb5z):=⟨h11_⟩
 replace BK2z:Aside0 (w62z.heap[gb0z]? = some (.cells #[.bool a0_0,.slice A0_1 l0_1.length c0_1,.int .i64 a0_2] 24 (0,0))):=⟨h3_⟩
 replace BK7z:Aside0 (w62z.heap[gb5z]? = some (.cells #[.bool a1_0,.slice A1_1 l1_1.length c1_1,.int .i64 a1_2] 24 (0,0))):=⟨h4_⟩
 replace HB:Aside0 (Below w.heap.size w w62z):=⟨h12_⟩
 clear h0_ h1_ h2_ h3_ h4_ h5_ h6_ h7_ h8_ h9_ h10_ h11_ h12_
 have hHeld:w62z.cell? ⟨gb0z,0,none⟩=some (.bool a0_0)/\w62z.cell? ⟨gb0z,1,none⟩=some (.slice A0_1 l0_1.length c0_1)/\w62z.cell? ⟨gb0z,2,none⟩=some (.int .i64 a0_2)/\w62z.cell? ⟨gb5z,0,none⟩=some (.bool a1_0)/\w62z.cell? ⟨gb5z,1,none⟩=some (.slice A1_1 l1_1.length c1_1)/\w62z.cell? ⟨gb5z,2,none⟩=some (.int .i64 a1_2):=hS_
 obtain ⟨jq,jt,jh⟩:=Kd.Zm qv.o
 (first|subst jh|(injection jh with f1_ f2_ f3_;have f4_:=f1_.symm;have f5_:=f3_.symm;clear f1_ f2_ f3_;subst f4_;subst f5_))
 refine norm_ (a':=?_) ?_ ?_
 rotate_left
 ·simp only [putAll,Act.put,List.setIfInBounds_toArray,List.set_cons_zero,List.set_cons_succ]
  rfl
 refine one_ (i:=7) (N:=none) #[true,true,true,true,true,true,true,true] rfl rfl (Za8 HT_.out (by kernel_rfl)) (by decide) (fun K hK=>?_)
 have hs66z:w62z.cell? ⟨qa,0,none⟩=some (.bool false):=k0 qc 0
 have hfs67z:=Zaa qc.o 0
 have hns68z:=qd.o
 have hns69z:=qe.o
 have hms70z:=qg.o
 have hms71z:=qh.o
 have hs72z:w62z.cell? ⟨qa,1,none⟩=some (.slice none 0 0):=k0 qc 1
 have hfs73z:=Zaa qc.o 1
 have hns74z:=qd.o
 have hns75z:=qe.o
 have hms76z:=qg.o
 have hms77z:=qh.o
 have hs78z:w62z.cell? ⟨qa,2,none⟩=some (.int .i64 0):=k0 qc 2
 have hfs79z:=Zaa qc.o 2
 have hns80z:=qd.o
 have hns81z:=qe.o
 have hms82z:=qg.o
 have hms83z:=qh.o
 refine skip_ (w1:=?_) (by rfl) rfl ?_ ?_
 rotate_left
 ·go_simp
  rfl
 refine hK.out _ _ ⟨((cell_far (p:=⟨qa,_,none⟩) qd.o _).trans (((cell_far (p:=⟨qa,_,none⟩) qd.o _).trans (((cell_far (p:=⟨qa,_,none⟩) qd.o _).trans (hHeld.1)))))),((cell_far (p:=⟨qa,_,none⟩) qd.o _).trans (((cell_far (p:=⟨qa,_,none⟩) qd.o _).trans (((cell_far (p:=⟨qa,_,none⟩) qd.o _).trans (hHeld.2.1)))))),((cell_far (p:=⟨qa,_,none⟩) qd.o _).trans (((cell_far (p:=⟨qa,_,none⟩) qd.o _).trans (((cell_far (p:=⟨qa,_,none⟩) qd.o _).trans (hHeld.2.2.1)))))),((cell_far (p:=⟨qa,_,none⟩) qe.o _).trans (((cell_far (p:=⟨qa,_,none⟩) qe.o _).trans (((cell_far (p:=⟨qa,_,none⟩) qe.o _).trans (hHeld.2.2.2.1)))))),((cell_far (p:=⟨qa,_,none⟩) qe.o _).trans (((cell_far (p:=⟨qa,_,none⟩) qe.o _).trans (((cell_far (p:=⟨qa,_,none⟩) qe.o _).trans (hHeld.2.2.2.2.1)))))),((cell_far (p:=⟨qa,_,none⟩) qe.o _).trans (((cell_far (p:=⟨qa,_,none⟩) qe.o _).trans (((cell_far (p:=⟨qa,_,none⟩) qe.o _).trans (hHeld.2.2.2.2.2))))))⟩ (fun hHeld=>?_)
 clear hK K
 refine done_ (Zdg HT_.out (by kernel_rfl)) ?_
 have jm:=qg.o
 have jo:=qd.o
 have jn:=qh.o
 have jp:=qe.o
 obtain ⟨_,_,_,_,_,_⟩:=cEc qc.o
 try go_wp2
 go_ret
 exact ⟨pE,pB⟩):P:=h
theorem Zat.calls (k:Nat) (a0_0:Bool) (A0_1:Option Addr) (c0_1:Nat) (l0_1:List Int) (a0_2:Int) (a1_0:Bool) (A1_1:Option Addr) (c1_1:Nat) (l1_1:List Int) (a1_2:Int) (r:Int) (w:World) (hr0_1:Kd.C (Kd.int .u32) w A0_1 l0_1.length l0_1) (hc0_1:l0_1.length<=c0_1) (hr1_1:Kd.C (Kd.int .u32) w A1_1 l1_1.length l1_1) (hc1_1:l1_1.length<=c1_1) (h:Zat.f k a0_0 l0_1 a0_2 a1_0 l1_1 a1_2=some r) :
  Calls Tryz.prog 81 #[.agg #[.bool a0_0,.slice A0_1 l0_1.length c0_1,.int .i64 a0_2],.agg #[.bool a1_0,.slice A1_1 l1_1.length c1_1,.int .i64 a1_2]] w fun e w'=>e=.returned (.int .i64 r)/\Below w.heap.size w w':=by
 have hu24:=Tryz.underlying24
 have hu30:=Tryz.underlying30
 have HR0_1:=am hr0_1
 have HC0_1:=am hc0_1
 clear hr0_1 hc0_1
 have HR1_1:=am hr1_1
 have HC1_1:=am hc1_1
 clear hr1_1 hc1_1
 have HB:=am (Below.refl w.heap.size w)
 have H:((Zq.f k a0_0 l0_1 a0_2).bind fun qx=>((Zq.f k a1_0 l1_1 a1_2).bind fun qy=>((Za4.f qy.1 qy.2.1 qy.2.2).bind fun qz=>((Zag.f k qx.1 qx.2.1 qx.2.2 qz.1 qz.2.1 qz.2.2).bind fun q3=>(if (q3.2.1.length:Int)=0 then (some 0) else (if q3.1=true then (some (-1)) else (some 1)))))))=some r:=h
 clear h
 replace H:=ob H
 obtain ⟨⟨qo,qi,qp⟩,A3,H⟩:=H;(try dsimp only at H)
 replace H:=ob H
 obtain ⟨⟨qt,qs,qu⟩,A4,H⟩:=H;(try dsimp only at H)
 replace H:=ob H
 obtain ⟨⟨qq,qn,qr⟩,A5,H⟩:=H;(try dsimp only at H)
 replace H:=ob H
 obtain ⟨⟨ja,qm,qw⟩,A6,H⟩:=H;(try dsimp only at H)
 replace H:=eI H
 rcases H with ⟨c7b0,c7b1,H⟩|⟨c7,c7b0,c7b1,H⟩
 ·obtain rfl:=Option.some.inj H
  exact Zat.leaf
 ·have c7b2:¬ (qm=[]):=fun h_=>c7 (by rw [h_];rfl)
  replace H:=tI (t:=ja) H
  rcases H with ⟨rfl,H⟩|⟨rfl,H⟩
  ·obtain rfl:=Option.some.inj H
   exact Zat.leaf
  ·obtain rfl:=Option.some.inj H
   exact Zat.leaf
def Zbp.f (k:Nat) (a0_0:Bool) (l0_1:List Int) (a0_2:Int) (a1_0:Bool) (l1_1:List Int) (a1_2:Int):Option (Int × Int):=(Zap.f k a0_0 l0_1 a0_2 a1_0 l1_1 a1_2).bind fun qe=>(if qe=0 then ((Zat.f k a0_0 l0_1 a0_2 a1_0 l1_1 a1_2).bind fun qf=>(some (qf,0))) else (some (0,9)))
theorem Zbp.calls (k:Nat) (a0_0:Bool) (A0_1:Option Addr) (c0_1:Nat) (l0_1:List Int) (a0_2:Int) (a1_0:Bool) (A1_1:Option Addr) (c1_1:Nat) (l1_1:List Int) (a1_2:Int) (r1:Int) (r2:Int) (w:World) (hr0_1:Kd.C (Kd.int .u32) w A0_1 l0_1.length l0_1) (hc0_1:l0_1.length<=c0_1) (hr1_1:Kd.C (Kd.int .u32) w A1_1 l1_1.length l1_1) (hc1_1:l1_1.length<=c1_1) (h:Zbp.f k a0_0 l0_1 a0_2 a1_0 l1_1 a1_2=some (r1,r2)) :
  Calls Tryz.prog 53 #[.agg #[.bool a0_0,.slice A0_1 l0_1.length c0_1,.int .i64 a0_2],.agg #[.bool a1_0,.slice A1_1 l1_1.length c1_1,.int .i64 a1_2]] w fun e w'=>e=.returned (.tuple #[.int .i64 r1,.int .i64 r2])/\Below w.heap.size w w':=by
 have hu24:=Tryz.underlying24
 have HR0_1:=am hr0_1
 have HC0_1:=am hc0_1
 clear hr0_1 hc0_1
 have HR1_1:=am hr1_1
 have HC1_1:=am hc1_1
 clear hr1_1 hc1_1
 have HB:=am (Below.refl w.heap.size w)
 have H:((Zap.f k a0_0 l0_1 a0_2 a1_0 l1_1 a1_2).bind fun qe=>(if qe=0 then ((Zat.f k a0_0 l0_1 a0_2 a1_0 l1_1 a1_2).bind fun qf=>(some (qf,0))) else (some (0,9))))=some (r1,r2):=h
 clear h
 replace H:=ob H
 obtain ⟨qe,A3,H⟩:=H
 replace H:=eI H
 rcases H with ⟨c4b0,c4b1,H⟩|⟨c4,c4b0,c4b1,H⟩
 ·replace H:=ob H
  obtain ⟨qf,A5,H⟩:=H
  simp only [Option.some.injEq,Prod.mk.injEq] at H
  obtain ⟨rfl,rfl⟩:=H
  go_enter Tryz.func53,Tryz.ntmps53
  go_wp2_with (first|((with_reducible refine gd 2 ?_);refine bx 2 #[.bool a0_0,.slice A0_1 l0_1.length c0_1,.int .i64 a0_2] 24 (h:=?_);intro qk hg w6 hbox hb;have qa:=am hbox;have qi:=gW hg;have qg:=gW hg;replace HB:=bS hb;clear hb hbox hg)|((with_reducible refine gd 3 ?_);refine bx 3 #[.bool a1_0,.slice A1_1 l1_1.length c1_1,.int .i64 a1_2] 24 (h:=?_);intro ql hg w7 hbox hb;have qb:=am hbox;have qj:=gW hg;have qh:=gW hg;have qc:=nL hg qa;have qd:=nG hg qa;replace qa:=bb qa hb;replace HB:=bS hb;clear hb hbox hg;have hnb8:=qc.o;have hnc8:=qd.o;obtain ⟨_,_,_,_,_,_⟩:=cEc qa.o;obtain ⟨_,_,_,_,_,_⟩:=cEc qb.o)|(refine gL (some 8) Tryz.func64 #[.agg #[.bool a0_0,.slice A0_1 l0_1.length c0_1,.int .i64 a0_2],.agg #[.bool a1_0,.slice A1_1 l1_1.length c1_1,.int .i64 a1_2]] (h:=?_);(with_reducible refine (Zap.calls k a0_0 _ _ l0_1 a0_2 a1_0 _ _ l1_1 a1_2 qe _ ?side1 ?side2 ?side3 ?side4 A3.o).mono ?_);(case side1=>exact cB HR0_1 HB);(case side2=>exact HC0_1.o);(case side3=>exact cB HR1_1 HB);(case side4=>exact HC1_1.o);rintro e w11 ⟨rfl,hb⟩;refine ⟨_,rfl,?_⟩;replace qa:=bb qa hb;replace qb:=bb qb hb;replace HB:=bS hb;obtain ⟨_,_,_,_,_,_⟩:=cEc qa.o;obtain ⟨_,_,_,_,_,_⟩:=cEc qb.o)|(refine gL (some 12) Tryz.func81 #[.agg #[.bool a0_0,.slice A0_1 l0_1.length c0_1,.int .i64 a0_2],.agg #[.bool a1_0,.slice A1_1 l1_1.length c1_1,.int .i64 a1_2]] (h:=?_);(with_reducible refine (Zat.calls k a0_0 _ _ l0_1 a0_2 a1_0 _ _ l1_1 a1_2 qf _ ?side1 ?side2 ?side3 ?side4 A5.o).mono ?_);(case side1=>exact cB HR0_1 HB);(case side2=>exact HC0_1.o);(case side3=>exact cB HR1_1 HB);(case side4=>exact HC1_1.o);rintro e w14 ⟨rfl,hb⟩;refine ⟨_,rfl,?_⟩;replace qa:=bb qa hb;replace qb:=bb qb hb;replace HB:=bS hb))
  go_ret2
  exact ⟨pE,pB⟩
 ·simp only [Option.some.injEq,Prod.mk.injEq] at H
  obtain ⟨rfl,rfl⟩:=H
  go_enter Tryz.func53,Tryz.ntmps53
  go_wp2_with (first|((with_reducible refine gd 2 ?_);refine bx 2 #[.bool a0_0,.slice A0_1 l0_1.length c0_1,.int .i64 a0_2] 24 (h:=?_);intro qk hg w15 hbox hb;have qa:=am hbox;have qi:=gW hg;have qg:=gW hg;replace HB:=bS hb;clear hb hbox hg)|((with_reducible refine gd 3 ?_);refine bx 3 #[.bool a1_0,.slice A1_1 l1_1.length c1_1,.int .i64 a1_2] 24 (h:=?_);intro ql hg w16 hbox hb;have qb:=am hbox;have qj:=gW hg;have qh:=gW hg;have qc:=nL hg qa;have qd:=nG hg qa;replace qa:=bb qa hb;replace HB:=bS hb;clear hb hbox hg;have qm:=qc.o;have qn:=qd.o;obtain ⟨_,_,_,_,_,_⟩:=cEc qa.o;obtain ⟨_,_,_,_,_,_⟩:=cEc qb.o)|(refine gL (some 8) Tryz.func64 #[.agg #[.bool a0_0,.slice A0_1 l0_1.length c0_1,.int .i64 a0_2],.agg #[.bool a1_0,.slice A1_1 l1_1.length c1_1,.int .i64 a1_2]] (h:=?_);(with_reducible refine (Zap.calls k a0_0 _ _ l0_1 a0_2 a1_0 _ _ l1_1 a1_2 qe _ ?side1 ?side2 ?side3 ?side4 A3.o).mono ?_);(case side1=>exact cB HR0_1 HB);(case side2=>exact HC0_1.o);(case side3=>exact cB HR1_1 HB);(case side4=>exact HC1_1.o);rintro e w20 ⟨rfl,hb⟩;refine ⟨_,rfl,?_⟩;replace qa:=bb qa hb;replace qb:=bb qb hb;replace HB:=bS hb))
  go_ret2
  exact ⟨pE,pB⟩
end YtjbjkmccfocikaaGreatDoor.B
end
section
namespace YtjbjkmccfocikaaGreatDoor.B
open Go.RowKit YtjbjkmccfocikaaGreatDoorW.PrintWords YtjbjkmccfocikaaGreatDoorW.PrintMore YtjbjkmccfocikaaGreatDoorW.PrintLast
section
variable {P:Program} {ops:Array Oper} {Q:Exit->Act->World->Prop} {md:Region.Mode} {S:World->Prop} {ds:List Nat}
def blkOf:Value->Option Nat
 | .pointer (some p)=>some p.block
 | .agg cs=>match cs[1]? with|some v=>v.ownBlock|none=>none
 | _=>none
structure Mk where
 i:Nat
 N:Tmp
 R:Value->World->Prop
def okM (md:Region.Mode) (ops:Array Oper) (ds is:List Nat) (lf:Array Bool):Nat->Array Bool->Bool
 | 0,l=>l == lf && is.all (fun i=>l.getD i false)
 | n+1,l=>(Region.ready md ops l != []) && (Region.ready md ops l).all fun i=>is.contains i && (!ds.contains i && (l.getD i true == false && okM md ops ds is lf n (l.setIfInBounds i true)))
def fillF (a:Act):List Tmp->(Tmp->Value)->Act
 | [],_=>a
 | n :: ns,f=>fillF (a.put (some n) (f n)) ns f
def upd (f:Tmp->Value) (n:Tmp) (v:Value):Tmp->Value:=fun m=>if m=n then v else f m
theorem put_comm (a:Act) {n m:Tmp} (h:n ≠ m) (x y:Value):(a.put (some n) x).put (some m) y=(a.put (some m) y).put (some n) x:=by
 simp only [Act.put]
 rw [Array.setIfInBounds_comm _ _ h]
theorem Zok (a:Act) (n:Tmp) (x y:Value):(a.put (some n) x).put (some n) y=a.put (some n) y:=by
 simp only [Act.put,Array.setIfInBounds_setIfInBounds]
theorem Zlo:∀ (ns:List Tmp) (a:Act) (f:Tmp->Value) (n:Tmp) (v:Value),n ∉ ns->(fillF a ns f).put (some n) v=fillF (a.put (some n) v) ns f
 | [],_,_,_,_,_=>rfl
 | m :: ns,a,f,n,v,h=>by
  have h1:n ≠ m:=fun e=>h (e ▸ List.mem_cons_self)
  rw [fillF,fillF,Zlo ns _ f n v (fun e=>h (List.mem_cons_of_mem _ e)),put_comm a (Ne.symm h1)]
theorem Zhj:∀ (ns:List Tmp) (a:Act) (f:Tmp->Value) (n:Tmp) (v:Value),n ∉ ns->fillF a ns (upd f n v)=fillF a ns f
 | [],_,_,_,_,_=>rfl
 | m :: ns,a,f,n,v,h=>by
  have h1:m ≠ n:=fun e=>h (e ▸ List.mem_cons_self)
  rw [fillF,fillF,Zhj ns _ f n v (fun e=>h (List.mem_cons_of_mem _ e))]
  simp only [upd,if_neg h1]
theorem Zlp:∀ (ns:List Tmp) (a:Act) (f:Tmp->Value) (n:Tmp) (v:Value),ns.Nodup->n ∈ ns->(fillF a ns f).put (some n) v=fillF a ns (upd f n v)
 | [],_,_,_,_,_,h=>by cases h
 | m :: ns,a,f,n,v,hd,h=>by
  have hd':=List.nodup_cons.1 hd
  by_cases e:m=n
  ·subst e
   rw [fillF,fillF,Zlo ns _ f m v hd'.1,Zhj ns _ f m v hd'.1,Zok]
   simp only [upd,if_true]
  ·have hn:n ∈ ns:=(List.mem_cons.1 h).resolve_left (Ne.symm e)
   rw [fillF,fillF,Zlp ns _ f n v hd'.2 hn]
   simp only [upd,if_neg e]
theorem Zoi {r:Mk->Mk->Prop} (hs:∀ x y,r x y->r y x):∀ {l:List Mk},l.Pairwise r -> ∀ m ∈ l,∀ m' ∈ l,m=m'\/r m m'
 | [],_,m,h,_,_=>by cases h
 | x :: l,h,m,hm,m',hm'=>by
  obtain ⟨h1,h2⟩:=List.pairwise_cons.1 h
  rcases List.mem_cons.1 hm with rfl|q1 <;> rcases List.mem_cons.1 hm' with rfl|q2
  ·exact .inl rfl
  ·exact .inr (h1 _ q2)
  ·exact .inr (hs _ _ (h1 _ q1))
  ·exact Zoi hs h2 m q1 m' q2
theorem makers (ms:List Mk) (a:Act) (J:World->Prop) (lf:Array Bool) (fuel:Nat)
  (hp:ms.Pairwise (fun m m'=>m.N ≠ m'.N/\m.i ≠ m'.i))
  (hJ:∀ w w',J w->Below w.heap.size w w'->J w') (hJS:∀ w,J w->S w)
  (hR:∀ m ∈ ms,∀ v w w',m.R v w->Below w.heap.size w w'->m.R v w')
  (hlt:∀ m ∈ ms,∀ v w,m.R v w -> ∀ g,blkOf v=some g->g < w.heap.size)
  (hstep:∀ m ∈ ms,∃ o,ops[m.i]? = some o /\ ∀ (f:Tmp->Value) w,J w -> ∀ K:Act->World->Prop,(∀ v w',m.R v w'->Below w.heap.size w w'->(∀ g,blkOf v=some g->w.heap.size<=g)->K ((fillF a (ms.map Mk.N) f).put (some m.N) v) w') ->
   if Region.wanted o (yielded ops (fillF a (ms.map Mk.N) f).tmps)=true then Oper.wp P o (fillF a (ms.map Mk.N) f) w K Q else K ((fillF a (ms.map Mk.N) f).put o.dst undef) w)
  (hcont:∀ (f:Tmp->Value) w,J w->(∀ m ∈ ms,m.R (f m.N) w)->(∀ m ∈ ms,∀ m' ∈ ms,m.N ≠ m'.N -> ∀ g,blkOf (f m.N)=some g->blkOf (f m'.N) ≠ some g)->wpAnyLast P md ops Q S ds fuel lf (fillF a (ms.map Mk.N) f) w) :
  ∀ (n:Nat) (l:Array Bool) (f:Tmp->Value) (w:World),okM md ops ds (ms.map Mk.i) lf n l=true->J w->(∀ m ∈ ms,l.getD m.i true=true->m.R (f m.N) w) ->
   (∀ m ∈ ms,∀ m' ∈ ms,m.N ≠ m'.N->l.getD m.i true=true->l.getD m'.i true=true -> ∀ g,blkOf (f m.N)=some g->blkOf (f m'.N) ≠ some g)->wpAnyLast P md ops Q S ds (fuel+n) l (fillF a (ms.map Mk.N) f) w
 | 0,l,f,w,hk,hj,hr,hx=>by
  simp only [okM,Bool.and_eq_true,beq_iff_eq,List.all_eq_true] at hk
  obtain ⟨rfl,hk⟩:=hk
  have hd:∀ m ∈ ms,l.getD m.i true=true:=fun m hm=>by
   have h1:=hk m.i (List.mem_map_of_mem hm)
   rcases Nat.lt_or_ge m.i l.size with h'|h'
   ·simp [h'] at h1 ⊢;exact h1
   ·simp [Array.getElem?_eq_none h'] at h1
  exact hcont f w hj (fun m hm=>hr m hm (hd m hm)) (fun m hm m' hm' hn=>hx m hm m' hm' hn (hd m hm) (hd m' hm'))
 | n+1,l,f,w,hk,hj,hr,hx=>by
  simp only [okM,Bool.and_eq_true,bne_iff_ne,List.all_eq_true] at hk
  obtain ⟨hne,hk⟩:=hk
  refine Zgc rfl hne (fun i hi=>?_)
  have h1:=hk i hi
  simp only [Bool.not_eq_true',List.contains_iff_mem,beq_iff_eq] at h1
  obtain ⟨h2,h3,h4,h5⟩:=h1
  obtain ⟨m,hm,rfl⟩:=List.mem_map.1 h2
  obtain ⟨o,ho,hst⟩:=hstep m hm
  have hnd:(ms.map Mk.N).Nodup:=by
   unfold List.Nodup
   rw [List.pairwise_map]
   exact hp.imp (fun h=>h.1)
  have hor:=Zoi (fun x y h=>⟨h.1.symm,h.2.symm⟩) hp
  refine wpOp_step ho (fun K' hK=>hst f w hj K' (fun v w' hv hb hf=>hK _ w' ⟨fun _ _=>hJS w' (hJ w w' hj hb),?_⟩))
  rw [Zlp _ _ _ _ _ hnd (List.mem_map_of_mem hm)]
  have hold:∀ m' ∈ ms,m' ≠ m->upd f m.N v m'.N=f m'.N /\ ∀ b,(l.setIfInBounds m.i true).getD m'.i b=l.getD m'.i b:=fun m' hm' hne=>by
   rcases hor m' hm' m hm with e|e
   ·exact absurd e hne
   ·exact ⟨by simp only [upd,if_neg e.1],fun b=>getD_set_ne b (Ne.symm e.2)⟩
  have hnew:upd f m.N v m.N=v:=by simp only [upd,if_true]
  refine makers ms a J lf fuel hp hJ hJS hR hlt hstep hcont n _ _ w' h5 (hJ w w' hj hb) (fun m' hm' hd=>?_) (fun m1 hm1 m2 hm2 hn hd1 hd2 g hg=>?_)
  ·by_cases e:m'=m
   ·subst e;rw [hnew];exact hv
   ·obtain ⟨e1,e2⟩:=hold m' hm' e
    rw [e1];rw [e2] at hd
    exact hR m' hm' _ w w' (hr m' hm' hd) hb
  ·by_cases e1:m1=m
   ·subst e1
    have e2:m2 ≠ m1:=fun e=>hn (by rw [e])
    obtain ⟨f2,l2⟩:=hold m2 hm2 e2
    rw [hnew] at hg;rw [f2];rw [l2] at hd2
    intro hg2
    have := hlt m2 hm2 _ w (hr m2 hm2 hd2) g hg2
    have := hf g hg
    omega
   ·obtain ⟨f1,l1⟩:=hold m1 hm1 e1
    rw [f1] at hg;rw [l1] at hd1
    by_cases e2:m2=m
    ·subst e2
     rw [hnew]
     intro hg2
     have := hlt m1 hm1 _ w (hr m1 hm1 hd1) g hg
     have := hf g hg2
     omega
    ·obtain ⟨f2,l2⟩:=hold m2 hm2 e2
     rw [f2];rw [l2] at hd2
     exact hx m1 hm1 m2 hm2 hn hd1 hd2 g hg
theorem Zpx (a:Act) (n:Tmp):a.put (some n) (a.tmps.getD n undef)=a:=by
 obtain ⟨t,d⟩:=a
 simp only [Act.put]
 congr 1
 rcases Nat.lt_or_ge n t.size with h|h
 ·simp [Array.setIfInBounds,h]
 ·simp [Array.setIfInBounds,Nat.not_lt.2 h]
theorem Zjx:∀ (ns:List Tmp) (a:Act),fillF a ns (fun n=>a.tmps.getD n undef)=a
 | [],_=>rfl
 | n :: ns,a=>by
  rw [fillF,Zpx]
  exact Zjx ns a
theorem Zp4 {ik:IntKind} {e:Nat} {w:World} {base:Nat} {ok:Nat->Prop} {v:Value} {xs:List Int} (h:Kd.R (Kd.int ik) e w base ok v xs):Kd.R (Kd.int ik) e w base (fun _=>True) v xs:=Kd.Zi h (fun _ _=>trivial)
theorem R_ok {ik:IntKind} {e:Nat} {w:World} {base:Nat} {ok ok':Nat->Prop} {v:Value} {xs:List Int} (h:Kd.R (Kd.int ik) e w base ok v xs) (ho:∀ k,v.ownBlock=some k->ok' k):Kd.R (Kd.int ik) e w base ok' v xs :=
 ⟨ho,h.2.imp_ (fun _ _ hp=>hp)⟩
theorem pair2 {a:Act} {w0:World} {lf l:Array Bool} {fuel:Nat} (i1 i3 i4 i5:Nat) (N1 N3 N4 N5:Tmp) (base:Nat) {ik1 ik3:IntKind} {e1 e3:Nat} {xs1 xs3:List Int} (b1 n1 b3 n3:Value) (Z:Array Value) (t:TypeId)
  {o1 o3 o4 o5:Oper} (hb0:base<=w0.heap.size) (hS:∀ w',Below w0.heap.size w0 w'->S w')
  (h1:∀ (f:Tmp->Value) w',Below w0.heap.size w0 w' -> ∀ K:Act->World->Prop,(∀ u w'' ok,Kd.R (Kd.int ik1) e1 w'' w'.heap.size ok u xs1->Below w'.heap.size w' w''->K ((fillF a [N1,N3,N4,N5] f).put (some N1) (.agg #[b1,u,n1])) w'') ->
   if Region.wanted o1 (yielded ops (fillF a [N1,N3,N4,N5] f).tmps)=true then Oper.wp P o1 (fillF a [N1,N3,N4,N5] f) w' K Q else K ((fillF a [N1,N3,N4,N5] f).put (some N1) undef) w')
  (h3:∀ (f:Tmp->Value) w',Below w0.heap.size w0 w' -> ∀ K:Act->World->Prop,(∀ u w'' ok,Kd.R (Kd.int ik3) e3 w'' w'.heap.size ok u xs3->Below w'.heap.size w' w''->K ((fillF a [N1,N3,N4,N5] f).put (some N3) (.agg #[b3,u,n3])) w'') ->
   if Region.wanted o3 (yielded ops (fillF a [N1,N3,N4,N5] f).tmps)=true then Oper.wp P o3 (fillF a [N1,N3,N4,N5] f) w' K Q else K ((fillF a [N1,N3,N4,N5] f).put (some N3) undef) w')
  (hcont:∀ u1 u3 g4 g5 w',Below w0.heap.size w0 w'->Kd.R (Kd.int ik1) e1 w' base (fun k=>some k ≠ u3.ownBlock) u1 xs1->Kd.R (Kd.int ik3) e3 w' base (fun k=>some k ≠ u1.ownBlock) u3 xs3 ->
   w'.heap[g4]? = some (.cells Z t (0,0))->w'.heap[g5]? = some (.cells Z t (0,0))->w0.heap.size<=g4->w0.heap.size<=g5->g4 ≠ g5 ->
   wpAnyLast P md ops Q S ds fuel lf (putAll a [(N1,.agg #[b1,u1,n1]),(N3,.agg #[b3,u3,n3]),(N4,.pointer (some ⟨g4,0,none⟩)),(N5,.pointer (some ⟨g5,0,none⟩))]) w')
  (q1:ops[i1]? = some o1:=by rfl) (q3:ops[i3]? = some o3:=by rfl) (q4:ops[i4]? = some o4:=by rfl) (q5:ops[i5]? = some o5:=by rfl)
  (d1:o1.dst=some N1:=by rfl) (d3:o3.dst=some N3:=by rfl) (d4:o4.dst=some N4:=by rfl) (d5:o5.dst=some N5:=by rfl)
  (hw4:∀ y,Region.wanted o4 y=true:=by intro y;rfl) (hw5:∀ y,Region.wanted o5 y=true:=by intro y;rfl)
  (hr4:∀ (a:Act) (w:World),(execOp a.eval o4).run P w=.ok (.value (.pointer (some ⟨w.heap.size,0,none⟩))) (w.alloc (.cells Z t (0,0))):=by intro a w;first|(go_simp;done)|(go_simp;rfl))
  (hr5:∀ (a:Act) (w:World),(execOp a.eval o5).run P w=.ok (.value (.pointer (some ⟨w.heap.size,0,none⟩))) (w.alloc (.cells Z t (0,0))):=by intro a w;first|(go_simp;done)|(go_simp;rfl))
  (hn:((N1 != N3 && N1 != N4 && N1 != N5 && N3 != N4 && N3 != N5 && N4 != N5) && (i1 != i3 && i1 != i4 && i1 != i5 && i3 != i4 && i3 != i5 && i4 != i5))=true:=by rfl)
  (hck:(okM md ops ds [i1,i3,i4,i5] lf 4 l && (l.getD i1 true == false && (l.getD i3 true == false && (l.getD i4 true == false && l.getD i5 true == false))))=true:=by kernel_rfl) :
  wpAnyLast P md ops Q S ds (fuel+4) l a w0:=by
 simp only [Bool.and_eq_true,beq_iff_eq,bne_iff_ne,ne_eq] at hck hn
 obtain ⟨hck,c1,c3,c4,c5⟩:=hck
 obtain ⟨⟨⟨⟨⟨⟨m1,m2⟩,m3⟩,m4⟩,m5⟩,m6⟩,⟨⟨⟨⟨j1,j2⟩,j3⟩,j4⟩,j5⟩,j6⟩:=hn
 have bstep:∀ (o:Oper) (N:Tmp),o.dst=some N->(∀ y,Region.wanted o y=true)->(∀ (a:Act) (w:World),(execOp a.eval o).run P w=.ok (.value (.pointer (some ⟨w.heap.size,0,none⟩))) (w.alloc (.cells Z t (0,0)))) ->
   ∀ (a':Act) (w:World),Below w0.heap.size w0 w -> ∀ K:Act->World->Prop,(∀ v w',(∃ g,v=Value.pointer (some ⟨g,0,none⟩)/\w'.heap[g]? = some (.cells Z t (0,0))/\w0.heap.size<=g)->Below w.heap.size w w'->(∀ g,blkOf v=some g->w.heap.size<=g)->K (a'.put (some N) v) w') ->
   if Region.wanted o (yielded ops a'.tmps)=true then Oper.wp P o a' w K Q else K (a'.put o.dst undef) w:=by
  intro o N hd hw hr a' w hb K hK
  refine Zee (hw _) hd (hr a' w) (fun g hg w1 hbox hb1=>?_)
  rw [hd]
  subst hg
  exact hK _ w1 ⟨_,rfl,hbox,(Zb hb)⟩ hb1 (fun g hg=>by simp only [blkOf,Option.some.injEq] at hg;omega)
 have key:=makers (P:=P) (ops:=ops) (Q:=Q) (md:=md) (S:=S) (ds:=ds)
  [⟨i1,N1,fun v w' => ∃ u,v=.agg #[b1,u,n1]/\Kd.R (Kd.int ik1) e1 w' base (fun _=>True) u xs1⟩,⟨i3,N3,fun v w' => ∃ u,v=.agg #[b3,u,n3]/\Kd.R (Kd.int ik3) e3 w' base (fun _=>True) u xs3⟩,
   ⟨i4,N4,fun v w' => ∃ g,v=.pointer (some ⟨g,0,none⟩)/\w'.heap[g]? = some (.cells Z t (0,0))/\w0.heap.size<=g⟩,⟨i5,N5,fun v w' => ∃ g,v=.pointer (some ⟨g,0,none⟩)/\w'.heap[g]? = some (.cells Z t (0,0))/\w0.heap.size<=g⟩]
  a (fun w'=>Below w0.heap.size w0 w') lf fuel
  (by simp [m1,m2,m3,m4,m5,m6,j1,j2,j3,j4,j5,j6])
  (fun w w' h hb=>Zde h hb) hS
  (by
   intro m hm v w w' hv hb
   simp only [List.mem_cons,List.not_mem_nil,or_false] at hm
   rcases hm with rfl|rfl|rfl|rfl
   ·obtain ⟨u,rfl,h⟩:=hv;exact ⟨u,rfl,Kd.Zc h hb⟩
   ·obtain ⟨u,rfl,h⟩:=hv;exact ⟨u,rfl,Kd.Zc h hb⟩
   ·obtain ⟨g,rfl,h,h2⟩:=hv;exact ⟨g,rfl,Za h hb,h2⟩
   ·obtain ⟨g,rfl,h,h2⟩:=hv;exact ⟨g,rfl,Za h hb,h2⟩)
  (by
   intro m hm v w hv g hg
   simp only [List.mem_cons,List.not_mem_nil,or_false] at hm
   rcases hm with rfl|rfl|rfl|rfl
   ·obtain ⟨u,rfl,h⟩:=hv;exact Kd.R_lt h g (by simpa [blkOf] using hg)
   ·obtain ⟨u,rfl,h⟩:=hv;exact Kd.R_lt h g (by simpa [blkOf] using hg)
   ·obtain ⟨g',rfl,h,h2⟩:=hv
    obtain rfl:g'=g:=by simpa [blkOf] using hg
    exact Zfp h
   ·obtain ⟨g',rfl,h,h2⟩:=hv
    obtain rfl:g'=g:=by simpa [blkOf] using hg
    exact Zfp h)
  (by
   intro m hm
   simp only [List.mem_cons,List.not_mem_nil,or_false] at hm
   rcases hm with rfl|rfl|rfl|rfl
   ·refine ⟨o1,q1,fun f w hb K hK=>?_⟩
    rw [d1]
    exact h1 f w hb K (fun u w'' ok hr hb2=>hK _ w'' ⟨u,rfl,Zp4 (Kd.Zt hr (Nat.le_trans hb0 (Zb hb)))⟩ hb2 (fun g hg=>Kd.Zbh hr g (by simpa [blkOf] using hg)))
   ·refine ⟨o3,q3,fun f w hb K hK=>?_⟩
    rw [d3]
    exact h3 f w hb K (fun u w'' ok hr hb2=>hK _ w'' ⟨u,rfl,Zp4 (Kd.Zt hr (Nat.le_trans hb0 (Zb hb)))⟩ hb2 (fun g hg=>Kd.Zbh hr g (by simpa [blkOf] using hg)))
   ·exact ⟨o4,q4,fun f w hb K hK=>bstep o4 N4 d4 hw4 hr4 _ w hb K hK⟩
   ·exact ⟨o5,q5,fun f w hb K hK=>bstep o5 N5 d5 hw5 hr5 _ w hb K hK⟩)
  (by
   intro f w hb hR hX
   obtain ⟨u1,e1',r1⟩:=hR _ List.mem_cons_self
   obtain ⟨u3,e3',r3⟩:=hR _ (List.mem_cons_of_mem _ List.mem_cons_self)
   obtain ⟨g4,e4',b4,s4⟩:=hR _ (List.mem_cons_of_mem _ (List.mem_cons_of_mem _ List.mem_cons_self))
   obtain ⟨g5,e5',b5,s5⟩:=hR _ (List.mem_cons_of_mem _ (List.mem_cons_of_mem _ (List.mem_cons_of_mem _ List.mem_cons_self)))
   have x13:=hX _ List.mem_cons_self _ (List.mem_cons_of_mem _ List.mem_cons_self) m1
   have x45:=hX _ (List.mem_cons_of_mem _ (List.mem_cons_of_mem _ List.mem_cons_self)) _ (List.mem_cons_of_mem _ (List.mem_cons_of_mem _ (List.mem_cons_of_mem _ List.mem_cons_self))) m6
   dsimp only at e1' e3' e4' e5' x13 x45
   rw [e1',e3'] at x13
   rw [e4',e5'] at x45
   have := hcont u1 u3 g4 g5 w hb (R_ok r1 (fun k hk he=>x13 k (by simpa [blkOf] using hk) (by simpa [blkOf] using he.symm))) (R_ok r3 (fun k hk he=>x13 k (by simpa [blkOf] using he.symm) (by simpa [blkOf] using hk))) b4 b5 s4 s5
    (fun he=>x45 g4 (by simp [blkOf]) (by simp [blkOf,he]))
   simp only [List.map_cons,List.map_nil,fillF,e1',e3',e4',e5']
   exact this)
  4 l (fun n=>a.tmps.getD n undef) w0 hck (Below.refl _ _)
  (by
   intro m hm hd
   simp only [List.mem_cons,List.not_mem_nil,or_false] at hm
   rcases hm with rfl|rfl|rfl|rfl
   ·rw [c1] at hd;cases hd
   ·rw [c3] at hd;cases hd
   ·rw [c4] at hd;cases hd
   ·rw [c5] at hd;cases hd)
  (by
   intro m hm m' hm' hne hd
   simp only [List.mem_cons,List.not_mem_nil,or_false] at hm
   rcases hm with rfl|rfl|rfl|rfl
   ·rw [c1] at hd;cases hd
   ·rw [c3] at hd;cases hd
   ·rw [c4] at hd;cases hd
   ·rw [c5] at hd;cases hd)
 rw [Zjx] at key
 exact key
theorem nW {w0:World} {k g:Nat} {o:Obj} (h:Aside0 (w0.heap[k]? = some o)) (m:w0.heap.size<=g):k ≠ g:=Nat.ne_of_lt (Nat.lt_of_lt_of_le (Zfp h.out) m)
theorem nV {w0:World} {k g:Nat} {o:Obj} (h:Aside0 (w0.heap[k]? = some o)) (m:w0.heap.size<=g):g ≠ k:=Ne.symm (nW h m)
end
end YtjbjkmccfocikaaGreatDoor.B
end
section
namespace YtjbjkmccfocikaaGreatDoor.B
open Go.RowKit YtjbjkmccfocikaaGreatDoorW.PrintWords YtjbjkmccfocikaaGreatDoorW.PrintLast YtjbjkmccfocikaaGreatDoorW.PrintMore
attribute [local go_sem] Zb3 Zb5 Zcp Zcq Zbs Zbt Zb4 Zb6
def Zaf.f (k:Nat) (a0_0:Bool) (l0_1:List Int) (a0_2:Int) (a1_0:Bool) (l1_1:List Int) (a1_2:Int):Option (Bool × List Int × Int × Int):=(Zap.f k a0_0 l0_1 a0_2 a1_0 l1_1 a1_2).bind fun q9=>(if q9=0 then ((Zq.f k a0_0 l0_1 a0_2).bind fun q4=>((Zq.f k a1_0 l1_1 a1_2).bind fun q5=>((Zk.f k q4.2.1 q5.2.1).bind fun q6=>((Zl.f k (q4.1 != q5.1) q6 (wrap64 (q4.2.2+q5.2.2))).bind fun q3=>(some (q3.1,q3.2.1,q3.2.2.1,q3.2.2.2)))))) else (some (false,([]:List Int),0,9)))
def Zaf.T3:Bool × List (List Nat × List Nat):=(true,[([],[]),([0],[0]),([],[]),([2,1],[2]),([],[]),([],[]),([4,1,3,0,1,4,5],[1,4]),([5,3,6,0,1,2,3,4,5,6],[3,5])])
def Zaf.B3:List Nat:=[0,1,0,7,0,0,63,127]
theorem Zaf.tab3:rtab .any (opsOf Tryz.f17 3)=Zaf.T3:=by kernel_rfl
theorem Zaf.bits3:waitsOk Zaf.T3.2 Zaf.B3=true:=by kernel_rfl
def Zaf.T4:Bool × List (List Nat × List Nat):=(true,[([],[]),([0],[0]),([],[]),([2],[2]),([1,3],[1,3]),([],[]),([5],[5]),([],[]),([7],[7]),([6,8],[6,8]),([],[]),([10],[10]),([],[]),([12],[12]),([11,13],[11,13]),([4,9,14],[4,9,14]),([15,9],[15]),([16],[16]),([16],[16]),([17,16,0,1,2,3,4,5,6,7,8,9,10,11,12,13,14,15,16,17,18],[17]),([18,19,0,1,2,3,4,5,6,7,8,9,10,11,12,13,14,15,16,17,18,19],[18])])
def Zaf.B4:List Nat:=[0,1,0,4,15,0,32,0,128,480,0,1024,0,4096,15360,32767,65535,131071,131071,524287,1048575]
theorem Zaf.tab4:rtab .any (opsOf Tryz.f17 4)=Zaf.T4:=by kernel_rfl
theorem Zaf.bits4:waitsOk Zaf.T4.2 Zaf.B4=true:=by kernel_rfl
theorem Zaf.leaf {P:Prop} (h:P:=by
 go_enter Tryz.func17,Tryz.ntmps17
 try go_wp2_with (first|((with_reducible refine gd 2 ?_);refine bx 2 #[.bool a0_0,.slice A0_1 l0_1.length c0_1,.int .i64 a0_2] 24 (h:=?_);intro gb0z hg w1z hbox hb;have BK2z:=am hbox;have GW3z:=gW hg;replace HB:=bS hb;clear hb hbox hg)|((with_reducible refine gd 3 ?_);refine bx 3 #[.bool a1_0,.slice A1_1 l1_1.length c1_1,.int .i64 a1_2] 24 (h:=?_);intro gb5z hg w6z hbox hb;have BK7z:=am hbox;have GW8z:=gW hg;have jt:=nL hg BK2z;have ju:=nG hg BK2z;replace BK2z:=bb BK2z hb;replace HB:=bS hb;clear hb hbox hg)|((with_reducible refine gd 4 ?_);refine bx 4 #[.bool false,.slice none 0 0,.int .i64 0] 24 (h:=?_);intro qc hg w13z hbox hb;have qd:=am hbox;have qb6:=gW hg;have ja:=nL hg BK2z;have jb:=nG hg BK2z;have jc:=nL hg BK7z;have jd:=nG hg BK7z;replace BK2z:=bb BK2z hb;replace BK7z:=bb BK7z hb;replace HB:=bS hb;clear hb hbox hg;have qbq:=jt.o;have qbt:=ju.o;have qbr:=ja.o;have qbu:=jb.o;obtain ⟨_,_,_,_,_,_⟩:=cEc BK2z.o;have qbs:=jc.o;have qbv:=jd.o;obtain ⟨_,_,_,_,_,_⟩:=cEc BK7z.o)|((have q_:=A8;clear q_);refine gL (some 10) Tryz.func64 #[.agg #[.bool a0_0,.slice A0_1 l0_1.length c0_1,.int .i64 a0_2],.agg #[.bool a1_0,.slice A1_1 l1_1.length c1_1,.int .i64 a1_2]] (h:=?_);(with_reducible refine (Zap.calls k a0_0 _ _ l0_1 a0_2 a1_0 _ _ l1_1 a1_2 q9 _ ?side1 ?side2 ?side3 ?side4 A3.o).mono ?_);(case side1=>exact cB HR0_1 HB);(case side2=>exact HC0_1.o);(case side3=>exact cB HR1_1 HB);(case side4=>exact HC1_1.o);rintro e w39z ⟨rfl,hb⟩;refine ⟨_,rfl,?_⟩;replace BK2z:=bb BK2z hb;replace BK7z:=bb BK7z hb;replace qd:=bb qd hb;replace HB:=bS hb)|((have q_:(q9 != 0)=true:=c4b1;clear q_);refine gL (some 10) Tryz.func64 #[.agg #[.bool a0_0,.slice A0_1 l0_1.length c0_1,.int .i64 a0_2],.agg #[.bool a1_0,.slice A1_1 l1_1.length c1_1,.int .i64 a1_2]] (h:=?_);(with_reducible refine (Zap.calls k a0_0 _ _ l0_1 a0_2 a1_0 _ _ l1_1 a1_2 q9 _ ?side1 ?side2 ?side3 ?side4 A3.o).mono ?_);(case side1=>exact cB HR0_1 HB);(case side2=>exact HC0_1.o);(case side3=>exact cB HR1_1 HB);(case side4=>exact HC1_1.o);rintro e w39z ⟨rfl,hb⟩;refine ⟨_,rfl,?_⟩;replace BK2z:=bb BK2z hb;replace BK7z:=bb BK7z hb;replace qd:=bb qd hb;replace HB:=bS hb;obtain ⟨_,_,_,_,_,_⟩:=cEc qd.o))
 first
  | have q_:=A8
    replace BK2z:=am (Zay BK2z.o)
    replace BK7z:=am (Zay BK7z.o)
    replace qd:=am (Zay qd.o)
    replace HB:=am (Zbe HB.o)
    refine start_ (n:=8) (S:=fun w'=>w'.cell? ⟨gb0z,0,none⟩=some (.bool a0_0)/\w'.cell? ⟨gb0z,1,none⟩=some (.slice A0_1 l0_1.length c0_1)/\w'.cell? ⟨gb0z,2,none⟩=some (.int .i64 a0_2)/\w'.cell? ⟨gb5z,0,none⟩=some (.bool a1_0)/\w'.cell? ⟨gb5z,1,none⟩=some (.slice A1_1 l1_1.length c1_1)/\w'.cell? ⟨gb5z,2,none⟩=some (.int .i64 a1_2)) (ds:=[]) #[false,false,false,false,false,false,false,false] (by kernel_rfl) rfl rfl ⟨k0 BK2z 0,k0 BK2z 1,k0 BK2z 2,k0 BK7z 0,k0 BK7z 1,k0 BK7z 2⟩ (fun hHeld=>?_);refine Zch Zaf.tab3 Zaf.bits3 (fun HT_ HW_=>?_)
    generalize w39z.drew=w40z at BK2z BK7z qd HB hHeld ⊢
    refine take_ (i:=0) (N:=some 13) (v:=?_) (a':=?_) #[true,false,false,false,false,false,false,false] rfl rfl (Za3 HT_.out HW_.out (by kernel_rfl)) (fun _ _ _ h=>h) (Or.inl ⟨by rfl,?_⟩) hHeld ?_ ?_
    rotate_left
    ·rintro w' ⟨s41z,s42z,s43z,s44z,s45z,s46z⟩
     go_simp
     with_reducible rfl
    rotate_left
    ·exact pP
    refine take_ (i:=2) (N:=some 15) (v:=?_) (a':=?_) #[true,false,true,false,false,false,false,false] rfl rfl (Za3 HT_.out HW_.out (by kernel_rfl)) (fun _ _ _ h=>h) (Or.inl ⟨by rfl,?_⟩) hHeld ?_ ?_
    rotate_left
    ·rintro w' ⟨s41z,s42z,s43z,s44z,s45z,s46z⟩
     go_simp
     with_reducible rfl
    rotate_left
    ·exact pP
    refine join_ (σ:=Value × Value × Nat × Nat) 2 #[true,true,true,true,true,true,false,false] (fun s_=>[(14,.agg #[.bool qv,s_.1,.int .i64 qw]),(16,.agg #[.bool qu,s_.2.1,.int .i64 qx]),(6,.pointer (some ⟨s_.2.2.1,0,none⟩)),(7,.pointer (some ⟨s_.2.2.2,0,none⟩))]) (fun s_ w'=>(w'.cell? ⟨gb0z,0,none⟩=some (.bool a0_0)/\w'.cell? ⟨gb0z,1,none⟩=some (.slice A0_1 l0_1.length c0_1)/\w'.cell? ⟨gb0z,2,none⟩=some (.int .i64 a0_2)/\w'.cell? ⟨gb5z,0,none⟩=some (.bool a1_0)/\w'.cell? ⟨gb5z,1,none⟩=some (.slice A1_1 l1_1.length c1_1)/\w'.cell? ⟨gb5z,2,none⟩=some (.int .i64 a1_2))/\(Kd.R (Kd.int .i64) 3 w' w.heap.size (fun k_=>some k_ ≠ (s_.2.1:Value).ownBlock) s_.1 qr)/\(Kd.R (Kd.int .i64) 3 w' w.heap.size (fun k_=>some k_ ≠ (s_.1:Value).ownBlock) s_.2.1 qq)/\(w'.heap[gb0z]? = some (.cells #[.bool a0_0,.slice A0_1 l0_1.length c0_1,.int .i64 a0_2] 24 (0,0)))/\(w'.heap[gb5z]? = some (.cells #[.bool a1_0,.slice A1_1 l1_1.length c1_1,.int .i64 a1_2] 24 (0,0)))/\(w'.heap[qc]? = some (.cells #[.bool false,.slice none 0 0,.int .i64 0] 24 (0,0)))/\(w'.heap[s_.2.2.1]? = some (.cells #[.bool false,.slice none 0 0,.int .i64 0] 30 (0,0)))/\(w'.heap[s_.2.2.2]? = some (.cells #[.bool false,.slice none 0 0,.int .i64 0] 30 (0,0)))/\(w.heap.size<=s_.2.2.1)/\(w.heap.size<=s_.2.2.1)/\(gb0z ≠ s_.2.2.1)/\(s_.2.2.1 ≠ gb0z)/\(gb5z ≠ s_.2.2.1)/\(s_.2.2.1 ≠ gb5z)/\(qc ≠ s_.2.2.1)/\(s_.2.2.1 ≠ qc)/\(s_.2.2.2 ≠ s_.2.2.1)/\(s_.2.2.1 ≠ s_.2.2.2)/\(w.heap.size<=s_.2.2.2)/\(w.heap.size<=s_.2.2.2)/\(gb0z ≠ s_.2.2.2)/\(s_.2.2.2 ≠ gb0z)/\(gb5z ≠ s_.2.2.2)/\(s_.2.2.2 ≠ gb5z)/\(qc ≠ s_.2.2.2)/\(s_.2.2.2 ≠ qc)/\(Below w.heap.size w w')) ?_ ?_
    rotate_left
    ·intro hJ1_3_4_5
     refine pair2 1 3 4 5 14 16 6 7 w.heap.size (.bool qv) (.int .i64 qw) (.bool qu) (.int .i64 qx) #[.bool false,.slice none 0 0,.int .i64 0] 30 (Zb HB.o) (fun w_ hb_=>⟨k0 (bb BK2z hb_) 0,k0 (bb BK2z hb_) 1,k0 (bb BK2z hb_) 2,k0 (bb BK7z hb_) 0,k0 (bb BK7z hb_) 1,k0 (bb BK7z hb_) 2⟩) (fun f_ w_ hb_ K_ hK_=>?_) (fun f_ w_ hb_ K_ hK_=>?_) (fun u1_ u3_ g4_ g5_ w_ hb_ r1_ r2_ q4_ q5_ m4_ m5_ hne_=>hJ1_3_4_5 (u1_,u3_,g4_,g5_) _ ⟨⟨k0 (bb BK2z hb_) 0,k0 (bb BK2z hb_) 1,k0 (bb BK2z hb_) 2,k0 (bb BK7z hb_) 0,k0 (bb BK7z hb_) 1,k0 (bb BK7z hb_) 2⟩,r1_,r2_,(bb BK2z hb_).out,(bb BK7z hb_).out,(bb qd hb_).out,q4_,q5_,(Nat.le_trans (Zb HB.o) m4_),(Nat.le_trans (Zb HB.o) m4_),(nW BK2z m4_),(nV BK2z m4_),(nW BK7z m4_),(nV BK7z m4_),(nW qd m4_),(nV qd m4_),hne_.symm,hne_,(Nat.le_trans (Zb HB.o) m5_),(Nat.le_trans (Zb HB.o) m5_),(nW BK2z m5_),(nV BK2z m5_),(nW BK7z m5_),(nV BK7z m5_),(nW qd m5_),(nV qd m5_),(bS hb_).out⟩)
     ·have HB:=bS hb_
      refine goes_ Tryz.func18 (by kernel_rfl) rfl #[.agg #[.bool a0_0,.slice A0_1 l0_1.length c0_1,.int .i64 a0_2]] (by rfl) rfl rfl pA ?_
      with_reducible refine (Zq.calls k a0_0 _ _ l0_1 a0_2 qv qr qw _ ?side1 ?side2 A5.o).mono ?_
      (case side1=>exact cB HR0_1 HB)
      (case side2=>exact HC0_1.o)
      rintro e w47z ⟨v48z,rfl,ho49z,hb2_⟩
      exact ⟨_,rfl,hK_ v48z _ _ ho49z hb2_⟩
     ·have HB:=bS hb_
      refine goes_ Tryz.func18 (by kernel_rfl) rfl #[.agg #[.bool a1_0,.slice A1_1 l1_1.length c1_1,.int .i64 a1_2]] (by rfl) rfl rfl pA ?_
      with_reducible refine (Zq.calls k a1_0 _ _ l1_1 a1_2 qu qq qx _ ?side1 ?side2 A6.o).mono ?_
      (case side1=>exact cB HR1_1 HB)
      (case side2=>exact HC1_1.o)
      rintro e w50z ⟨v51z,rfl,ho49z,hb2_⟩
      exact ⟨_,rfl,hK_ v51z _ _ ho49z hb2_⟩
    rintro ⟨v48z,v51z,qa,qb⟩ w54z ⟨hS_,h0_,h1_,h2_,h3_,h4_,h5_,h6_,h7_,h8_,h9_,h10_,h11_,h12_,h13_,h14_,h15_,h16_,h17_,h18_,h19_,h20_,h21_,h22_,h23_,h24_,h25_⟩
    have qs:Aside0 (Kd.R (Kd.int .i64) 3 w54z w.heap.size (fun k_=>some k_ ≠ (v51z:Value).ownBlock) v48z qr):=⟨h0_⟩
    have qt:Aside0 (Kd.R (Kd.int .i64) 3 w54z w.heap.size (fun k_=>some k_ ≠ (v48z:Value).ownBlock) v51z qq):=⟨h1_⟩
    have qe:Aside0 (w54z.heap[qa]? = some (.cells #[.bool false,.slice none 0 0,.int .i64 0] 30 (0,0))):=⟨h5_⟩
    have qf:Aside0 (w54z.heap[qb]? = some (.cells #[.bool false,.slice none 0 0,.int .i64 0] 30 (0,0))):=⟨h6_⟩
    have qb7:Aside0 (w.heap.size<=qa):=⟨h7_⟩
    have qb4:Aside0 (w.heap.size<=qa):=⟨h8_⟩
    have qk:Aside0 (gb0z ≠ qa):=⟨h9_⟩
    have jg:Aside0 (qa ≠ gb0z):=⟨h10_⟩
    have ql:Aside0 (gb5z ≠ qa):=⟨h11_⟩
    have jh:Aside0 (qa ≠ gb5z):=⟨h12_⟩
    have qz:Aside0 (qc ≠ qa):=⟨h13_⟩
    have qm:Aside0 (qa ≠ qc):=⟨h14_⟩
    have q0:Aside0 (qb ≠ qa):=⟨h15_⟩
    have q1:Aside0 (qa ≠ qb):=⟨h16_⟩
    have qb8:Aside0 (w.heap.size<=qb):=⟨h17_⟩
    have qb5:Aside0 (w.heap.size<=qb):=⟨h18_⟩
    have qn:Aside0 (gb0z ≠ qb):=⟨h19_⟩
    have ji:Aside0 (qb ≠ gb0z):=⟨h20_⟩
    have qo:Aside0 (gb5z ≠ qb):=⟨h21_⟩
    have jj:Aside0 (qb ≠ gb5z):=⟨h22_⟩
    have q2:Aside0 (qc ≠ qb):=⟨h23_⟩
    have qp:Aside0 (qb ≠ qc):=⟨h24_⟩
    replace BK2z:Aside0 (w54z.heap[gb0z]? = some (.cells #[.bool a0_0,.slice A0_1 l0_1.length c0_1,.int .i64 a0_2] 24 (0,0))):=⟨h2_⟩
    replace BK7z:Aside0 (w54z.heap[gb5z]? = some (.cells #[.bool a1_0,.slice A1_1 l1_1.length c1_1,.int .i64 a1_2] 24 (0,0))):=⟨h3_⟩
    replace qd:Aside0 (w54z.heap[qc]? = some (.cells #[.bool false,.slice none 0 0,.int .i64 0] 24 (0,0))):=⟨h4_⟩
    replace HB:Aside0 (Below w.heap.size w w54z):=⟨h25_⟩
    clear h0_ h1_ h2_ h3_ h4_ h5_ h6_ h7_ h8_ h9_ h10_ h11_ h12_ h13_ h14_ h15_ h16_ h17_ h18_ h19_ h20_ h21_ h22_ h23_ h24_ h25_
    have hHeld:w54z.cell? ⟨gb0z,0,none⟩=some (.bool a0_0)/\w54z.cell? ⟨gb0z,1,none⟩=some (.slice A0_1 l0_1.length c0_1)/\w54z.cell? ⟨gb0z,2,none⟩=some (.int .i64 a0_2)/\w54z.cell? ⟨gb5z,0,none⟩=some (.bool a1_0)/\w54z.cell? ⟨gb5z,1,none⟩=some (.slice A1_1 l1_1.length c1_1)/\w54z.cell? ⟨gb5z,2,none⟩=some (.int .i64 a1_2):=hS_
    obtain ⟨qi,qj,jo⟩:=Kd.Zm qs.o
    (first|subst jo|(injection jo with f1_ f2_ f3_;have f4_:=f1_.symm;have f5_:=f3_.symm;clear f1_ f2_ f3_;subst f4_;subst f5_))
    obtain ⟨qg,qh,jp⟩:=Kd.Zm qt.o
    (first|subst jp|(injection jp with f1_ f2_ f3_;have f4_:=f1_.symm;have f5_:=f3_.symm;clear f1_ f2_ f3_;subst f4_;subst f5_))
    refine norm_ (a':=?_) ?_ ?_
    rotate_left
    ·simp only [putAll,Act.put,List.setIfInBounds_toArray,List.set_cons_zero,List.set_cons_succ]
     rfl
    refine one_ (i:=6) (N:=none) #[true,true,true,true,true,true,true,false] rfl rfl (Za8 HT_.out (by kernel_rfl)) (by decide) (fun K hK=>?_)
    have hs83z:w54z.cell? ⟨qa,0,none⟩=some (.bool false):=k0 qe 0
    have hfs84z:=Zaa qe.o 0
    have hns85z:=qk.o
    have hns86z:=ql.o
    have hns87z:=qz.o
    have hns88z:=q0.o
    have hms89z:=jg.o
    have hms90z:=jh.o
    have hms91z:=qm.o
    have hms92z:=q1.o
    have hs93z:w54z.cell? ⟨qa,1,none⟩=some (.slice none 0 0):=k0 qe 1
    have hfs94z:=Zaa qe.o 1
    have hns95z:=qk.o
    have hns96z:=ql.o
    have hns97z:=qz.o
    have hns98z:=q0.o
    have hms99z:=jg.o
    have j3:=jh.o
    have j4:=qm.o
    have j5:=q1.o
    have qbw:w54z.cell? ⟨qa,2,none⟩=some (.int .i64 0):=k0 qe 2
    have jw:=Zaa qe.o 2
    have qay:=qk.o
    have qaz:=ql.o
    have qa0:=qz.o
    have qa1:=q0.o
    have j6:=jg.o
    have j7:=jh.o
    have j8:=qm.o
    have j9:=q1.o
    refine skip_ (w1:=?_) (by rfl) rfl ?_ ?_
    rotate_left
    ·go_simp
     rfl
    refine hK.out _ _ ⟨((cell_far (p:=⟨qa,_,none⟩) qk.o _).trans (((cell_far (p:=⟨qa,_,none⟩) qk.o _).trans (((cell_far (p:=⟨qa,_,none⟩) qk.o _).trans (hHeld.1)))))),((cell_far (p:=⟨qa,_,none⟩) qk.o _).trans (((cell_far (p:=⟨qa,_,none⟩) qk.o _).trans (((cell_far (p:=⟨qa,_,none⟩) qk.o _).trans (hHeld.2.1)))))),((cell_far (p:=⟨qa,_,none⟩) qk.o _).trans (((cell_far (p:=⟨qa,_,none⟩) qk.o _).trans (((cell_far (p:=⟨qa,_,none⟩) qk.o _).trans (hHeld.2.2.1)))))),((cell_far (p:=⟨qa,_,none⟩) ql.o _).trans (((cell_far (p:=⟨qa,_,none⟩) ql.o _).trans (((cell_far (p:=⟨qa,_,none⟩) ql.o _).trans (hHeld.2.2.2.1)))))),((cell_far (p:=⟨qa,_,none⟩) ql.o _).trans (((cell_far (p:=⟨qa,_,none⟩) ql.o _).trans (((cell_far (p:=⟨qa,_,none⟩) ql.o _).trans (hHeld.2.2.2.2.1)))))),((cell_far (p:=⟨qa,_,none⟩) ql.o _).trans (((cell_far (p:=⟨qa,_,none⟩) ql.o _).trans (((cell_far (p:=⟨qa,_,none⟩) ql.o _).trans (hHeld.2.2.2.2.2))))))⟩ (fun hHeld=>?_)
    clear hK K
    refine one_ (i:=7) (N:=none) #[true,true,true,true,true,true,true,true] rfl rfl (Za8 HT_.out (by kernel_rfl)) (by decide) (fun K hK=>?_)
    have qbx:w54z.cell? ⟨qb,0,none⟩=some (.bool false):=k0 qf 0
    have jx:=Zaa qf.o 0
    have qa2:=qn.o
    have qa3:=qo.o
    have qa4:=q2.o
    have qa5:=q1.o
    have qaa:=ji.o
    have qab:=jj.o
    have qac:=qp.o
    have qad:=q0.o
    have qby:w54z.cell? ⟨qb,1,none⟩=some (.slice none 0 0):=k0 qf 1
    have jy:=Zaa qf.o 1
    have qa6:=qn.o
    have qa7:=qo.o
    have qa8:=q2.o
    have qa9:=q1.o
    have qae:=ji.o
    have qaf:=jj.o
    have qag:=qp.o
    have qah:=q0.o
    have qbz:w54z.cell? ⟨qb,2,none⟩=some (.int .i64 0):=k0 qf 2
    have jz:=Zaa qf.o 2
    have qba:=qn.o
    have qbb:=qo.o
    have qbc:=q2.o
    have qbd:=q1.o
    have qai:=ji.o
    have qaj:=jj.o
    have qak:=qp.o
    have qal:=q0.o
    refine skip_ (w1:=?_) (by rfl) rfl ?_ ?_
    rotate_left
    ·go_simp
     rfl
    refine hK.out _ _ ⟨((cell_far (p:=⟨qb,_,none⟩) qn.o _).trans (((cell_far (p:=⟨qb,_,none⟩) qn.o _).trans (((cell_far (p:=⟨qb,_,none⟩) qn.o _).trans (hHeld.1)))))),((cell_far (p:=⟨qb,_,none⟩) qn.o _).trans (((cell_far (p:=⟨qb,_,none⟩) qn.o _).trans (((cell_far (p:=⟨qb,_,none⟩) qn.o _).trans (hHeld.2.1)))))),((cell_far (p:=⟨qb,_,none⟩) qn.o _).trans (((cell_far (p:=⟨qb,_,none⟩) qn.o _).trans (((cell_far (p:=⟨qb,_,none⟩) qn.o _).trans (hHeld.2.2.1)))))),((cell_far (p:=⟨qb,_,none⟩) qo.o _).trans (((cell_far (p:=⟨qb,_,none⟩) qo.o _).trans (((cell_far (p:=⟨qb,_,none⟩) qo.o _).trans (hHeld.2.2.2.1)))))),((cell_far (p:=⟨qb,_,none⟩) qo.o _).trans (((cell_far (p:=⟨qb,_,none⟩) qo.o _).trans (((cell_far (p:=⟨qb,_,none⟩) qo.o _).trans (hHeld.2.2.2.2.1)))))),((cell_far (p:=⟨qb,_,none⟩) qo.o _).trans (((cell_far (p:=⟨qb,_,none⟩) qo.o _).trans (((cell_far (p:=⟨qb,_,none⟩) qo.o _).trans (hHeld.2.2.2.2.2))))))⟩ (fun hHeld=>?_)
    clear hK K
    refine done_ (Zdg HT_.out (by kernel_rfl)) ?_
    try go_wp2
    have n0_:Aside0 (Kd.R (Kd.int .i64) 3 ((((((w54z.setCell ⟨qa,0,none⟩ (.bool qv)).setCell ⟨qa,1,none⟩ (.slice qi qr.length qj)).setCell ⟨qa,2,none⟩ (.int .i64 qw)).setCell ⟨qb,0,none⟩ (.bool qu)).setCell ⟨qb,1,none⟩ (.slice qg qq.length qh)).setCell ⟨qb,2,none⟩ (.int .i64 qx)) w.heap.size (fun k_=>some k_ ≠ (.slice qg qq.length qh:Value).ownBlock) (.slice qi qr.length qj) qr):=⟨by refine rp ?_;exact Kd.Zi (Kd.Zj (p:=⟨qb,2,none⟩) (Kd.Zj (p:=⟨qb,1,none⟩) (Kd.Zj (p:=⟨qb,0,none⟩) (Kd.Zj (p:=⟨qa,2,none⟩) (Kd.Zj (p:=⟨qa,1,none⟩) (Kd.Zj (p:=⟨qa,0,none⟩) (Kd.Zg (Kd.Zg qs.o qe.o (by decide)) qf.o (by decide)) (fun _ hk=>hk.1.2) (.bool qv)) (fun _ hk=>hk.1.2) (.slice qi qr.length qj)) (fun _ hk=>hk.1.2) (.int .i64 qw)) (fun _ hk=>hk.2) (.bool qu)) (fun _ hk=>hk.2) (.slice qg qq.length qh)) (fun _ hk=>hk.2) (.int .i64 qx)) (fun _ hk=>hk.1.1)⟩
    have n1_:Aside0 (Kd.R (Kd.int .i64) 3 ((((((w54z.setCell ⟨qa,0,none⟩ (.bool qv)).setCell ⟨qa,1,none⟩ (.slice qi qr.length qj)).setCell ⟨qa,2,none⟩ (.int .i64 qw)).setCell ⟨qb,0,none⟩ (.bool qu)).setCell ⟨qb,1,none⟩ (.slice qg qq.length qh)).setCell ⟨qb,2,none⟩ (.int .i64 qx)) w.heap.size (fun k_=>some k_ ≠ (.slice qi qr.length qj:Value).ownBlock) (.slice qg qq.length qh) qq):=⟨by refine rp ?_;exact Kd.Zi (Kd.Zj (p:=⟨qb,2,none⟩) (Kd.Zj (p:=⟨qb,1,none⟩) (Kd.Zj (p:=⟨qb,0,none⟩) (Kd.Zj (p:=⟨qa,2,none⟩) (Kd.Zj (p:=⟨qa,1,none⟩) (Kd.Zj (p:=⟨qa,0,none⟩) (Kd.Zg (Kd.Zg qt.o qe.o (by decide)) qf.o (by decide)) (fun _ hk=>hk.1.2) (.bool qv)) (fun _ hk=>hk.1.2) (.slice qi qr.length qj)) (fun _ hk=>hk.1.2) (.int .i64 qw)) (fun _ hk=>hk.2) (.bool qu)) (fun _ hk=>hk.2) (.slice qg qq.length qh)) (fun _ hk=>hk.2) (.int .i64 qx)) (fun _ hk=>hk.1.1)⟩
    have n2_:Aside0 (((((((w54z.setCell ⟨qa,0,none⟩ (.bool qv)).setCell ⟨qa,1,none⟩ (.slice qi qr.length qj)).setCell ⟨qa,2,none⟩ (.int .i64 qw)).setCell ⟨qb,0,none⟩ (.bool qu)).setCell ⟨qb,1,none⟩ (.slice qg qq.length qh)).setCell ⟨qb,2,none⟩ (.int .i64 qx)).heap[gb0z]? = some (.cells #[.bool a0_0,.slice A0_1 l0_1.length c0_1,.int .i64 a0_2] 24 (0,0))):=⟨by refine bq ?_ qn;refine bq ?_ qn;refine bq ?_ qn;refine bq ?_ qk;refine bq ?_ qk;refine bq ?_ qk;exact bp BK2z.o⟩
    have n3_:Aside0 (((((((w54z.setCell ⟨qa,0,none⟩ (.bool qv)).setCell ⟨qa,1,none⟩ (.slice qi qr.length qj)).setCell ⟨qa,2,none⟩ (.int .i64 qw)).setCell ⟨qb,0,none⟩ (.bool qu)).setCell ⟨qb,1,none⟩ (.slice qg qq.length qh)).setCell ⟨qb,2,none⟩ (.int .i64 qx)).heap[gb5z]? = some (.cells #[.bool a1_0,.slice A1_1 l1_1.length c1_1,.int .i64 a1_2] 24 (0,0))):=⟨by refine bq ?_ qo;refine bq ?_ qo;refine bq ?_ qo;refine bq ?_ ql;refine bq ?_ ql;refine bq ?_ ql;exact bp BK7z.o⟩
    have n4_:Aside0 (((((((w54z.setCell ⟨qa,0,none⟩ (.bool qv)).setCell ⟨qa,1,none⟩ (.slice qi qr.length qj)).setCell ⟨qa,2,none⟩ (.int .i64 qw)).setCell ⟨qb,0,none⟩ (.bool qu)).setCell ⟨qb,1,none⟩ (.slice qg qq.length qh)).setCell ⟨qb,2,none⟩ (.int .i64 qx)).heap[qc]? = some (.cells #[.bool false,.slice none 0 0,.int .i64 0] 24 (0,0))):=⟨by refine bq ?_ q2;refine bq ?_ q2;refine bq ?_ q2;refine bq ?_ qz;refine bq ?_ qz;refine bq ?_ qz;exact bp qd.o⟩
    have n5_:Aside0 (((((((w54z.setCell ⟨qa,0,none⟩ (.bool qv)).setCell ⟨qa,1,none⟩ (.slice qi qr.length qj)).setCell ⟨qa,2,none⟩ (.int .i64 qw)).setCell ⟨qb,0,none⟩ (.bool qu)).setCell ⟨qb,1,none⟩ (.slice qg qq.length qh)).setCell ⟨qb,2,none⟩ (.int .i64 qx)).heap[qa]? = some (.cells #[.bool qv,.slice qi qr.length qj,.int .i64 qw] 30 (0,0))):=⟨by refine bq ?_ q1;refine bq ?_ q1;refine bq ?_ q1;exact p3 qe⟩
    have n6_:Aside0 (((((((w54z.setCell ⟨qa,0,none⟩ (.bool qv)).setCell ⟨qa,1,none⟩ (.slice qi qr.length qj)).setCell ⟨qa,2,none⟩ (.int .i64 qw)).setCell ⟨qb,0,none⟩ (.bool qu)).setCell ⟨qb,1,none⟩ (.slice qg qq.length qh)).setCell ⟨qb,2,none⟩ (.int .i64 qx)).heap[qb]? = some (.cells #[.bool qu,.slice qg qq.length qh,.int .i64 qx] 30 (0,0))):=⟨by refine bp ?_;refine Zab (cs:=#[.bool qu,.slice qg qq.length qh,.int .i64 0]) ?_ 2 _ rfl;refine bp ?_;refine Zab (cs:=#[.bool qu,.slice none 0 0,.int .i64 0]) ?_ 1 _ rfl;refine bp ?_;refine Zab (cs:=#[.bool false,.slice none 0 0,.int .i64 0]) ?_ 0 _ rfl;refine bq ?_ q0;refine bq ?_ q0;refine bq ?_ q0;exact bp qf.o⟩
    have n7_:Aside0 (Below w.heap.size w ((((((w54z.setCell ⟨qa,0,none⟩ (.bool qv)).setCell ⟨qa,1,none⟩ (.slice qi qr.length qj)).setCell ⟨qa,2,none⟩ (.int .i64 qw)).setCell ⟨qb,0,none⟩ (.bool qu)).setCell ⟨qb,1,none⟩ (.slice qg qq.length qh)).setCell ⟨qb,2,none⟩ (.int .i64 qx))):=⟨pB⟩
    generalize ((((((w54z.setCell ⟨qa,0,none⟩ (.bool qv)).setCell ⟨qa,1,none⟩ (.slice qi qr.length qj)).setCell ⟨qa,2,none⟩ (.int .i64 qw)).setCell ⟨qb,0,none⟩ (.bool qu)).setCell ⟨qb,1,none⟩ (.slice qg qq.length qh)).setCell ⟨qb,2,none⟩ (.int .i64 qx))=jv at n0_ n1_ n2_ n3_ n4_ n5_ n6_ n7_ ⊢
    have qs:=n0_
    have qt:=n1_
    have BK2z:=n2_
    have BK7z:=n3_
    have qd:=n4_
    have qe:=n5_
    have qf:=n6_
    have HB:=n7_
    clear n0_ n1_ n2_ n3_ n4_ n5_ n6_ n7_
    replace qs:=am (Kd.Zdz qs.o)
    replace qt:=am (Kd.Zdz qt.o)
    replace BK2z:=am (Zay BK2z.o)
    replace BK7z:=am (Zay BK7z.o)
    replace qd:=am (Zay qd.o)
    replace qe:=am (Zay qe.o)
    replace qf:=am (Zay qf.o)
    replace HB:=am (Zbe HB.o)
    refine start_ (n:=21) (S:=fun w'=>w'.cell? ⟨qa,0,none⟩=some (.bool qv)/\w'.cell? ⟨qa,1,none⟩=some (.slice qi qr.length qj)/\w'.cell? ⟨qa,2,none⟩=some (.int .i64 qw)/\w'.cell? ⟨qb,0,none⟩=some (.bool qu)/\w'.cell? ⟨qb,1,none⟩=some (.slice qg qq.length qh)/\w'.cell? ⟨qb,2,none⟩=some (.int .i64 qx)) (ds:=[]) #[false,false,false,false,false,false,false,false,false,false,false,false,false,false,false,false,false,false,false,false,false] (by kernel_rfl) rfl rfl ⟨k0 qe 0,k0 qe 1,k0 qe 2,k0 qf 0,k0 qf 1,k0 qf 2⟩ (fun hHeld=>?_);refine Zch Zaf.tab4 Zaf.bits4 (fun HT_ HW_=>?_)
    generalize jv.drew=qcb at qs qt BK2z BK7z qd qe qf HB hHeld ⊢
    refine pu 0 (some 17) #[true,false,false,false,false,false,false,false,false,false,false,false,false,false,false,false,false,false,false,false,false] (h:=?_)
    refine pu 2 (some 19) #[true,false,true,false,false,false,false,false,false,false,false,false,false,false,false,false,false,false,false,false,false] (h:=?_)
    refine pu 5 (some 22) #[true,false,true,false,false,true,false,false,false,false,false,false,false,false,false,false,false,false,false,false,false] (h:=?_)
    refine pu 7 (some 24) #[true,false,true,false,false,true,false,true,false,false,false,false,false,false,false,false,false,false,false,false,false] (h:=?_)
    refine pu 10 (some 27) #[true,false,true,false,false,true,false,true,false,false,true,false,false,false,false,false,false,false,false,false,false] (h:=?_)
    refine pu 12 (some 29) #[true,false,true,false,false,true,false,true,false,false,true,false,true,false,false,false,false,false,false,false,false] (h:=?_)
    refine take_ (i:=1) (N:=some 18) (v:=?_) (a':=?_) #[true,true,true,false,false,true,false,true,false,false,true,false,true,false,false,false,false,false,false,false,false] rfl rfl (Za3 HT_.out HW_.out (by kernel_rfl)) (fun _ _ _ h=>h) (Or.inl ⟨by rfl,?_⟩) hHeld ?_ ?_
    rotate_left
    ·rintro w' ⟨s41z,s42z,s43z,s44z,s45z,s46z⟩
     go_simp
     with_reducible rfl
    rotate_left
    ·exact pP
    refine take_ (i:=3) (N:=some 20) (v:=?_) (a':=?_) #[true,true,true,true,false,true,false,true,false,false,true,false,true,false,false,false,false,false,false,false,false] rfl rfl (Za3 HT_.out HW_.out (by kernel_rfl)) (fun _ _ _ h=>h) (Or.inl ⟨by rfl,?_⟩) hHeld ?_ ?_
    rotate_left
    ·rintro w' ⟨s41z,s42z,s43z,s44z,s45z,s46z⟩
     go_simp
     with_reducible rfl
    rotate_left
    ·exact pP
    refine pu 4 (some 21) #[true,true,true,true,true,true,false,true,false,false,true,false,true,false,false,false,false,false,false,false,false] (h:=?_)
    refine take_ (i:=6) (N:=some 23) (v:=?_) (a':=?_) #[true,true,true,true,true,true,true,true,false,false,true,false,true,false,false,false,false,false,false,false,false] rfl rfl (Za3 HT_.out HW_.out (by kernel_rfl)) (fun _ _ _ h=>h) (Or.inl ⟨by rfl,?_⟩) hHeld ?_ ?_
    rotate_left
    ·rintro w' ⟨s41z,s42z,s43z,s44z,s45z,s46z⟩
     go_simp
     with_reducible rfl
    rotate_left
    ·exact pP
    refine take_ (i:=8) (N:=some 25) (v:=?_) (a':=?_) #[true,true,true,true,true,true,true,true,true,false,true,false,true,false,false,false,false,false,false,false,false] rfl rfl (Za3 HT_.out HW_.out (by kernel_rfl)) (fun _ _ _ h=>h) (Or.inl ⟨by rfl,?_⟩) hHeld ?_ ?_
    rotate_left
    ·rintro w' ⟨s41z,s42z,s43z,s44z,s45z,s46z⟩
     go_simp
     with_reducible rfl
    rotate_left
    ·exact pP
    refine take_ (i:=11) (N:=some 28) (v:=?_) (a':=?_) #[true,true,true,true,true,true,true,true,true,false,true,true,true,false,false,false,false,false,false,false,false] rfl rfl (Za3 HT_.out HW_.out (by kernel_rfl)) (fun _ _ _ h=>h) (Or.inl ⟨by rfl,?_⟩) hHeld ?_ ?_
    rotate_left
    ·rintro w' ⟨s41z,s42z,s43z,s44z,s45z,s46z⟩
     go_simp
     with_reducible rfl
    rotate_left
    ·exact pP
    refine take_ (i:=13) (N:=some 30) (v:=?_) (a':=?_) #[true,true,true,true,true,true,true,true,true,false,true,true,true,true,false,false,false,false,false,false,false] rfl rfl (Za3 HT_.out HW_.out (by kernel_rfl)) (fun _ _ _ h=>h) (Or.inl ⟨by rfl,?_⟩) hHeld ?_ ?_
    rotate_left
    ·rintro w' ⟨s41z,s42z,s43z,s44z,s45z,s46z⟩
     go_simp
     with_reducible rfl
    rotate_left
    ·exact pP
    refine pu 14 (some 31) #[true,true,true,true,true,true,true,true,true,false,true,true,true,true,true,false,false,false,false,false,false] (h:=?_)
    refine one_ (i:=9) (N:=some 26) #[true,true,true,true,true,true,true,true,true,true,true,true,true,true,true,false,false,false,false,false,false] rfl rfl (Za8 HT_.out (by kernel_rfl)) (by decide) (fun K hK=>?_)
    refine goes_ Tryz.func65 (by kernel_rfl) rfl #[.slice qi qr.length qj,.slice qg qq.length qh] (by rfl) rfl rfl pA ?_
    with_reducible refine (Zk.calls k _ _ qr _ _ qq q6 _ ?side1 ?side2 ?side3 ?side4 A7.o).mono ?_
    (case side1=>exact Kd.Zv (Kd.Zf qs.o).2.2 pl)
    (case side2=>exact (Kd.Zf qs.o).2.1)
    (case side3=>exact Kd.Zv (Kd.Zf qt.o).2.2 pl)
    (case side4=>exact (Kd.Zf qt.o).2.1)
    rintro e qcc ⟨qb9,rfl,ho49z,hb⟩
    refine ⟨_,rfl,?_⟩
    have qy:=am (Kd.Zt (Kd.Zaj (Kd.Zaj ho49z (Kd.R_lt (Kd.Zc qs.o pl))) (Kd.R_lt (Kd.Zc qt.o pl))) (Zb pB))
    replace qs:=reR qs ho49z hb
    replace qt:=reR qt ho49z hb
    replace BK2z:=bb BK2z hb
    replace BK7z:=bb BK7z hb
    replace qd:=bb qd hb
    replace qe:=bb qe hb
    replace qf:=bb qf hb
    replace HB:=bS hb
    obtain ⟨q7,q8,jl⟩:=Kd.Zm qy.o
    (first|subst jl|(injection jl with f1_ f2_ f3_;have f4_:=f1_.symm;have f5_:=f3_.symm;clear f1_ f2_ f3_;subst f4_;subst f5_))
    refine hK.out _ _ ⟨k0 qe 0,k0 qe 1,k0 qe 2,k0 qf 0,k0 qf 1,k0 qf 2⟩ (fun hHeld=>?_)
    clear hK K
    refine norm_ (a':=?_) ?_ ?_
    rotate_left
    ·show Act.put _ (some 26) _=_
     exact pP
    refine pu 15 (some 32) #[true,true,true,true,true,true,true,true,true,true,true,true,true,true,true,true,false,false,false,false,false] (h:=?_)
    refine one_ (i:=16) (N:=some 33) #[true,true,true,true,true,true,true,true,true,true,true,true,true,true,true,true,true,false,false,false,false] rfl rfl (Za8 HT_.out (by kernel_rfl)) (by decide) (fun K hK=>?_)
    refine goes_ Tryz.func23 (by kernel_rfl) rfl #[.agg #[.bool (qv != qu),.slice q7 q6.length q8,.int .i64 (wrap64 (qw+qx))]] (by rfl) rfl rfl pA ?_
    with_reducible refine (Zl.calls k (qv != qu) (fun k_=>some k_=(.slice q7 q6.length q8:Value).ownBlock) (.slice q7 q6.length q8) q6 (wrap64 (qw+qx)) jq jr js qb3 w _ ?side1 ?side2 A8.o).mono ?_
    (case side1=>exact pB)
    (case side2=>exact Kd.Zbc rfl qy.o)
    rintro e jn ⟨qca,rfl,ho49z,hb,hkp⟩
    refine ⟨_,rfl,?_⟩
    have jf:=am (Kd.Zi (ok':=fun k_=>True) ho49z (fun k_ hk_=>trivial))
    replace BK2z:=am (Zan (Za BK2z.o pl) hkp (fun e_=>Kd.R_ne qy.o BK2z.o (by decide) e_))
    replace BK7z:=am (Zan (Za BK7z.o pl) hkp (fun e_=>Kd.R_ne qy.o BK7z.o (by decide) e_))
    replace qd:=am (Zan (Za qd.o pl) hkp (fun e_=>Kd.R_ne qy.o qd.o (by decide) e_))
    replace qs:=am (Kd.Zi (ok':=fun k_=>some k_ ≠ (.slice qg qq.length qh:Value).ownBlock) (Kd.Zdj (qs.o) hkp (fun k_ hk_ hs_=>(hk_.2) hs_)) (fun k_ hk_=>hk_.1.1))
    replace qt:=am (Kd.Zi (ok':=fun k_=>some k_ ≠ (.slice qi qr.length qj:Value).ownBlock) (Kd.Zdj (qt.o) hkp (fun k_ hk_ hs_=>(hk_.2) hs_)) (fun k_ hk_=>hk_.1.1))
    replace qe:=am (Zan (Za qe.o pl) hkp (fun e_=>Kd.R_ne qy.o qe.o (by decide) e_))
    replace qf:=am (Zan (Za qf.o pl) hkp (fun e_=>Kd.R_ne qy.o qf.o (by decide) e_))
    replace HB:=am hb
    clear qy
    obtain ⟨je,jk,jm⟩:=Kd.Zm jf.o
    (first|subst jm|(injection jm with f1_ f2_ f3_;have f4_:=f1_.symm;have f5_:=f3_.symm;clear f1_ f2_ f3_;subst f4_;subst f5_))
    refine hK.out _ _ ⟨k0 qe 0,k0 qe 1,k0 qe 2,k0 qf 0,k0 qf 1,k0 qf 2⟩ (fun hHeld=>?_)
    clear hK K
    refine norm_ (a':=?_) ?_ ?_
    rotate_left
    ·show Act.put _ (some 33) _=_
     exact pP
    refine pu 17 (some 34) #[true,true,true,true,true,true,true,true,true,true,true,true,true,true,true,true,true,true,false,false,false] (h:=?_)
    refine pu 18 (some 35) #[true,true,true,true,true,true,true,true,true,true,true,true,true,true,true,true,true,true,true,false,false] (h:=?_)
    refine one_ (i:=19) (N:=none) #[true,true,true,true,true,true,true,true,true,true,true,true,true,true,true,true,true,true,true,true,false] rfl rfl (Za8 HT_.out (by kernel_rfl)) (by decide) (fun K hK=>?_)
    have qb0:jn.cell? ⟨qc,0,none⟩=some (.bool false):=k0 qd 0
    have j0:=Zaa qd.o 0
    have qbe:=ja.o
    have qbf:=jc.o
    have qbg:=qm.o
    have qbh:=qp.o
    have qam:=jb.o
    have qan:=jd.o
    have qao:=qz.o
    have qap:=q2.o
    have qb1:jn.cell? ⟨qc,1,none⟩=some (.slice none 0 0):=k0 qd 1
    have j1:=Zaa qd.o 1
    have qbi:=ja.o
    have qbj:=jc.o
    have qbk:=qm.o
    have qbl:=qp.o
    have qaq:=jb.o
    have qar:=jd.o
    have qas:=qz.o
    have qat:=q2.o
    have qb2:jn.cell? ⟨qc,2,none⟩=some (.int .i64 0):=k0 qd 2
    have j2:=Zaa qd.o 2
    have qbm:=ja.o
    have qbn:=jc.o
    have qbo:=qm.o
    have qbp:=qp.o
    have qau:=jb.o
    have qav:=jd.o
    have qaw:=qz.o
    have qax:=q2.o
    refine skip_ (w1:=?_) (by rfl) rfl ?_ ?_
    rotate_left
    ·go_simp
     rfl
    refine hK.out _ _ ⟨((cell_far (p:=⟨qc,_,none⟩) qm.o _).trans (((cell_far (p:=⟨qc,_,none⟩) qm.o _).trans (((cell_far (p:=⟨qc,_,none⟩) qm.o _).trans (hHeld.1)))))),((cell_far (p:=⟨qc,_,none⟩) qm.o _).trans (((cell_far (p:=⟨qc,_,none⟩) qm.o _).trans (((cell_far (p:=⟨qc,_,none⟩) qm.o _).trans (hHeld.2.1)))))),((cell_far (p:=⟨qc,_,none⟩) qm.o _).trans (((cell_far (p:=⟨qc,_,none⟩) qm.o _).trans (((cell_far (p:=⟨qc,_,none⟩) qm.o _).trans (hHeld.2.2.1)))))),((cell_far (p:=⟨qc,_,none⟩) qp.o _).trans (((cell_far (p:=⟨qc,_,none⟩) qp.o _).trans (((cell_far (p:=⟨qc,_,none⟩) qp.o _).trans (hHeld.2.2.2.1)))))),((cell_far (p:=⟨qc,_,none⟩) qp.o _).trans (((cell_far (p:=⟨qc,_,none⟩) qp.o _).trans (((cell_far (p:=⟨qc,_,none⟩) qp.o _).trans (hHeld.2.2.2.2.1)))))),((cell_far (p:=⟨qc,_,none⟩) qp.o _).trans (((cell_far (p:=⟨qc,_,none⟩) qp.o _).trans (((cell_far (p:=⟨qc,_,none⟩) qp.o _).trans (hHeld.2.2.2.2.2))))))⟩ (fun hHeld=>?_)
    clear hK K
    refine pu 20 (some 5) #[true,true,true,true,true,true,true,true,true,true,true,true,true,true,true,true,true,true,true,true,true] (h:=?_)
    refine done_ (Zdg HT_.out (by kernel_rfl)) ?_
    try go_wp2
    refine bodyPost_ret (Zbd rfl _ _ qc 24 #[.bool jq,.slice je jr.length jk,.int .i64 js] (0,0) _ rfl (by exact p3 qd) Tryz.underlying24 rfl (by kernel_rfl)) rfl ?_
    exact ⟨_,pE,by refine rp ?_;exact Kd.Zi (Kd.Zj (p:=⟨qc,2,none⟩) (Kd.Zj (p:=⟨qc,1,none⟩) (Kd.Zj (p:=⟨qc,0,none⟩) (Kd.Zg jf.o qd.o (by decide)) (fun _ hk=>hk.2) (.bool jq)) (fun _ hk=>hk.2) (.slice je jr.length jk)) (fun _ hk=>hk.2) (.int .i64 js)) (fun _ hk=>trivial),pB⟩
  | refine bodyPost_ret (Zbd rfl _ _ qc 24 #[.bool false,.slice none 0 0,.int .i64 0] (0,0) _ rfl (by exact p3 qd) Tryz.underlying24 rfl (by kernel_rfl)) rfl ?_
    exact ⟨_,pE,pN,pB⟩):P:=h
theorem Zaf.calls (k:Nat) (a0_0:Bool) (A0_1:Option Addr) (c0_1:Nat) (l0_1:List Int) (a0_2:Int) (a1_0:Bool) (A1_1:Option Addr) (c1_1:Nat) (l1_1:List Int) (a1_2:Int) (r1:Bool) (r2:List Int) (r3:Int) (r4:Int) (w:World) (hr0_1:Kd.C (Kd.int .u32) w A0_1 l0_1.length l0_1) (hc0_1:l0_1.length<=c0_1) (hr1_1:Kd.C (Kd.int .u32) w A1_1 l1_1.length l1_1) (hc1_1:l1_1.length<=c1_1) (h:Zaf.f k a0_0 l0_1 a0_2 a1_0 l1_1 a1_2=some (r1,r2,r3,r4)) :
  Calls Tryz.prog 17 #[.agg #[.bool a0_0,.slice A0_1 l0_1.length c0_1,.int .i64 a0_2],.agg #[.bool a1_0,.slice A1_1 l1_1.length c1_1,.int .i64 a1_2]] w fun e w' => ∃ v1_:Value,e=.returned (.tuple #[.agg #[.bool r1,v1_,.int .i64 r3],.int .i64 r4])/\Kd.R (Kd.int .u32) 85 w' w.heap.size (fun _=>True) v1_ r2/\Below w.heap.size w w':=by
 have hu24:=Tryz.underlying24
 have hu30:=Tryz.underlying30
 have HR0_1:=am hr0_1
 have HC0_1:=am hc0_1
 clear hr0_1 hc0_1
 have HR1_1:=am hr1_1
 have HC1_1:=am hc1_1
 clear hr1_1 hc1_1
 have HB:=am (Below.refl w.heap.size w)
 have H:((Zap.f k a0_0 l0_1 a0_2 a1_0 l1_1 a1_2).bind fun q9=>(if q9=0 then ((Zq.f k a0_0 l0_1 a0_2).bind fun q4=>((Zq.f k a1_0 l1_1 a1_2).bind fun q5=>((Zk.f k q4.2.1 q5.2.1).bind fun q6=>((Zl.f k (q4.1 != q5.1) q6 (wrap64 (q4.2.2+q5.2.2))).bind fun q3=>(some (q3.1,q3.2.1,q3.2.2.1,q3.2.2.2)))))) else (some (false,([]:List Int),0,9))))=some (r1,r2,r3,r4):=h
 clear h
 replace H:=ob H
 obtain ⟨q9,A3,H⟩:=H
 replace H:=eI H
 rcases H with ⟨c4b0,c4b1,H⟩|⟨c4,c4b0,c4b1,H⟩
 ·replace H:=ob H
  obtain ⟨⟨qv,qr,qw⟩,A5,H⟩:=H;(try dsimp only at H)
  replace H:=ob H
  obtain ⟨⟨qu,qq,qx⟩,A6,H⟩:=H;(try dsimp only at H)
  replace H:=ob H
  obtain ⟨q6,A7,H⟩:=H
  replace H:=ob H
  obtain ⟨⟨jq,jr,js,qb3⟩,A8,H⟩:=H;(try dsimp only at H)
  simp only [Option.some.injEq,Prod.mk.injEq] at H
  obtain ⟨rfl,rfl,rfl,rfl⟩:=H
  exact Zaf.leaf
 ·simp only [Option.some.injEq,Prod.mk.injEq] at H
  obtain ⟨rfl,rfl,rfl,rfl⟩:=H
  exact Zaf.leaf
mutual
def Zo.j0:Nat->Bool->Bool->List Int->Int->Bool->List Int->Int->Option (Bool)
 | 0,_,_,_,_,_,_,_=>none
 | k+1,x26,qi,qg,qj,qk,qh,ql=>if x26=true then (some false) else (Zo.l0 k 0 qi qg qj qk qh ql)
def Zo.l0:Nat->Int->Bool->List Int->Int->Bool->List Int->Int->Option (Bool)
 | 0,_,_,_,_,_,_,_=>none
 | k+1,x5,qi,qg,qj,qk,qh,ql=>if x5 < (qg.length:Int) then (if 0<=x5 then (if x5 < (qh.length:Int) then (if (rd qg x5)=(rd qh x5) then (Zo.l0 k (wrap64 (x5+1)) qi qg qj qk qh ql) else (some false)) else (none)) else (none)) else (some true)
end
def Zo.f (k:Nat) (a0_0:Bool) (l0_1:List Int) (a0_2:Int) (a1_0:Bool) (l1_1:List Int) (a1_2:Int):Option (Bool):=if (a0_0 != a1_0)=true then (Zo.j0 k true a0_0 l0_1 a0_2 a1_0 l1_1 a1_2) else (if a0_2=a1_2 then (Zo.j0 k ((l0_1.length:Int) != (l1_1.length:Int)) a0_0 l0_1 a0_2 a1_0 l1_1 a1_2) else (Zo.j0 k true a0_0 l0_1 a0_2 a1_0 l1_1 a1_2))
theorem Zo.calls (k:Nat) (a0_0:Bool) (A0_1:Option Addr) (c0_1:Nat) (l0_1:List Int) (a0_2:Int) (a1_0:Bool) (A1_1:Option Addr) (c1_1:Nat) (l1_1:List Int) (a1_2:Int) (r:Bool) (w:World) (hr0_1:Kd.C (Kd.int .u32) w A0_1 l0_1.length l0_1) (hc0_1:l0_1.length<=c0_1) (hr1_1:Kd.C (Kd.int .u32) w A1_1 l1_1.length l1_1) (hc1_1:l1_1.length<=c1_1) (h:Zo.f k a0_0 l0_1 a0_2 a1_0 l1_1 a1_2=some r) :
  Calls Tryz.prog 21 #[.agg #[.bool a0_0,.slice A0_1 l0_1.length c0_1,.int .i64 a0_2],.agg #[.bool a1_0,.slice A1_1 l1_1.length c1_1,.int .i64 a1_2]] w fun e w'=>e=.returned (.bool r)/\Below w.heap.size w w':=by
 have hu24:=Tryz.underlying24
 have HR0_1:=am hr0_1
 have HC0_1:=am hc0_1
 clear hr0_1 hc0_1
 have HR1_1:=am hr1_1
 have HC1_1:=am hc1_1
 clear hr1_1 hc1_1
 have HB:=am (Below.refl w.heap.size w)
 have H:(if (a0_0 != a1_0)=true then (Zo.j0 k true a0_0 l0_1 a0_2 a1_0 l1_1 a1_2) else (if a0_2=a1_2 then (Zo.j0 k ((l0_1.length:Int) != (l1_1.length:Int)) a0_0 l0_1 a0_2 a1_0 l1_1 a1_2) else (Zo.j0 k true a0_0 l0_1 a0_2 a1_0 l1_1 a1_2)))=some r:=h
 clear h
 have HC3:=am H
 clear H
 go_enter Tryz.func21,Tryz.ntmps21
 go_upto_region 1 with (first|((with_reducible refine gd 2 ?_);(try (refine Za5 (by rfl) ?_;dsimp only));refine bx 2 #[.bool a0_0,.slice A0_1 l0_1.length c0_1,.int .i64 a0_2] 24 (h:=?_);intro qq hg w4 hbox hb;have qa:=am hbox;have qu:=gW hg;have qs:=gW hg;replace HB:=bS hb;clear hb hbox hg)|((with_reducible refine gd 3 ?_);(try (refine Za5 (by rfl) ?_;dsimp only));refine bx 3 #[.bool a1_0,.slice A1_1 l1_1.length c1_1,.int .i64 a1_2] 24 (h:=?_);intro qr hg w5 hbox hb;have qd:=am hbox;have qv:=gW hg;have qt:=gW hg;have qb:=nL hg qa;have qc:=nG hg qa;replace qa:=bb qa hb;replace HB:=bS hb;clear hb hbox hg))
 repeat (go_quiet (first|((with_reducible refine gd 2 ?_);(try (refine Za5 (by rfl) ?_;dsimp only));refine bx 2 #[.bool a0_0,.slice A0_1 l0_1.length c0_1,.int .i64 a0_2] 24 (h:=?_);intro qq hg w4 hbox hb;have qa:=am hbox;have qu:=gW hg;have qs:=gW hg;replace HB:=bS hb;clear hb hbox hg)|((with_reducible refine gd 3 ?_);(try (refine Za5 (by rfl) ?_;dsimp only));refine bx 3 #[.bool a1_0,.slice A1_1 l1_1.length c1_1,.int .i64 a1_2] 24 (h:=?_);intro qr hg w5 hbox hb;have qd:=am hbox;have qv:=gW hg;have qt:=gW hg;have qb:=nL hg qa;have qc:=nG hg qa;replace qa:=bb qa hb;replace HB:=bS hb;clear hb hbox hg));go_upto_region 1 with (first|((with_reducible refine gd 2 ?_);(try (refine Za5 (by rfl) ?_;dsimp only));refine bx 2 #[.bool a0_0,.slice A0_1 l0_1.length c0_1,.int .i64 a0_2] 24 (h:=?_);intro qq hg w4 hbox hb;have qa:=am hbox;have qu:=gW hg;have qs:=gW hg;replace HB:=bS hb;clear hb hbox hg)|((with_reducible refine gd 3 ?_);(try (refine Za5 (by rfl) ?_;dsimp only));refine bx 3 #[.bool a1_0,.slice A1_1 l1_1.length c1_1,.int .i64 a1_2] 24 (h:=?_);intro qr hg w5 hbox hb;have qd:=am hbox;have qv:=gW hg;have qt:=gW hg;have qb:=nL hg qa;have qc:=nG hg qa;replace qa:=bb qa hb;replace HB:=bS hb;clear hb hbox hg)))
 (try simp only [Act.put,List.setIfInBounds_toArray,List.set_cons_zero,List.set_cons_succ])
 go_cut [26] (fun v26 wc => ∃ (kq:Nat) (x26_2:Bool),v26=.bool x26_2/\Aside0 (Zo.j0 kq x26_2 a0_0 l0_1 a0_2 a1_0 l1_1 a1_2=some r)/\Aside0 (kq<=k)/\Aside0 (wc.heap[qq]? = some (.cells #[.bool a0_0,(.slice A0_1 l0_1.length c0_1),.int .i64 a0_2] 24 (0,0)))/\Aside0 (wc.heap[qr]? = some (.cells #[.bool a1_0,(.slice A1_1 l1_1.length c1_1),.int .i64 a1_2] 24 (0,0)))/\Aside0 (Below w.heap.size w wc))
 case first =>
  have H:=HC3.o
  clear HC3
  by_cases c6:(a0_0 != a1_0)=true
  ·rw [if_pos c6] at H
   have c6b0:(a0_0 != a1_0)=true:=c6
   (try (have c6b1:decide (a0_0=a1_0)=false:=by simpa using c6))
   (try (have c6b2:(a0_0 == a1_0)=false:=by simpa using c6))
   (try (have c6b3:¬ (a0_0=a1_0):=by simpa using c6))
   clear c6
   (first|rw [c6b0]|(simp only [Zc5,Zdv];rw [c6b0])|skip)
   have H':=am H
   clear H
   have hnb7:=qb.o
   have hnc7:=qc.o
   obtain ⟨_,_,_,_,_,_⟩:=cEc qa.o
   obtain ⟨_,_,_,_,_,_⟩:=cEc qd.o
   go_wp2
   repeat (go_quiet (fail);try go_wp2)
   go_meet
   case rel=>exact ⟨_,(true),pR,H',pJ,⟨Za qa.o pl⟩,⟨Za qd.o pl⟩,⟨pB⟩⟩
  ·rw [if_neg c6] at H
   have c6b0:(a0_0 != a1_0)=false:=by simpa using c6
   (try (have c6b1:decide (a0_0=a1_0)=true:=by simpa using c6))
   (try (have c6b2:(a0_0 == a1_0)=true:=by simpa using c6))
   clear c6
   (first|rw [c6b0]|(simp only [Zc5,Zdv];rw [c6b0])|skip)
   replace H:=eI H
   rcases H with ⟨c10b0,c10b1,H⟩|⟨c10,c10b0,c10b1,H⟩
   ·have H':=am H
    clear H
    have q0:=qb.o
    have q5:=qc.o
    obtain ⟨_,_,_,_,_,_⟩:=cEc qa.o
    obtain ⟨_,_,_,_,_,_⟩:=cEc qd.o
    go_wp2
    repeat (go_quiet (fail);try go_wp2)
    go_meet
    case rel=>exact ⟨_,(((l0_1.length:Int) != (l1_1.length:Int))),pR,H',pJ,⟨Za qa.o pl⟩,⟨Za qd.o pl⟩,⟨pB⟩⟩
   ·have H':=am H
    clear H
    have q1:=qb.o
    have q6:=qc.o
    obtain ⟨_,_,_,_,_,_⟩:=cEc qa.o
    obtain ⟨_,_,_,_,_,_⟩:=cEc qd.o
    go_wp2
    repeat (go_quiet (fail);try go_wp2)
    go_meet
    case rel=>exact ⟨_,(true),pR,H',pJ,⟨Za qa.o pl⟩,⟨Za qd.o pl⟩,⟨pB⟩⟩
 case rest =>
  clear HC3
  obtain ⟨kq,x26_2,rfl,HA,HJ2,qa,qd,HB⟩:=hcut
  cases kq with
  | zero=>exact absurd HA.out (by simp [Zo.j0])
  | succ kj2 =>
   have H:=HA.out
   clear HA
   simp only [Zo.j0] at H
   replace H:=tI (t:=x26_2) H
   rcases H with ⟨rfl,H⟩|⟨rfl,H⟩
   ·obtain rfl:=Option.some.inj H
    go_wp2
    repeat (go_quiet (fail);try go_wp2)
    go_ret
    exact ⟨pE,pB⟩
   ·have H':=am H
    clear H
    go_wp2
    repeat (go_quiet (fail);try go_wp2)
    go_loopg [5] kj2 (fun kq v5 w' => ∃ (x5_2:Int),v5=.int .i64 x5_2/\Aside0 (Zo.l0 kq x5_2 a0_0 l0_1 a0_2 a1_0 l1_1 a1_2=some r)/\Aside0 (kq<=kj2)/\Aside0 (w'.heap[qq]? = some (.cells #[.bool a0_0,(.slice A0_1 l0_1.length c0_1),.int .i64 a0_2] 24 (0,0)))/\Aside0 (w'.heap[qr]? = some (.cells #[.bool a1_0,(.slice A1_1 l1_1.length c1_1),.int .i64 a1_2] 24 (0,0)))/\Aside0 (Below w.heap.size w w'))
    case atStart=>exact ⟨(0),pR,H',⟨Nat.le_refl _⟩,⟨Za qa.o pl⟩,⟨Za qd.o pl⟩,⟨pB⟩⟩
    case round =>
     clear H'
     obtain ⟨x5_2,rfl,HA,HK2,qa,qd,HB⟩:=hrel
     cases gk with
     | zero=>exact absurd HA.out (by simp [Zo.l0])
     | succ k2 =>
      have H:=HA.out
      clear HA
      simp only [Zo.l0] at H
      replace H:=dI H
      rcases H with ⟨c18b0,H⟩|⟨c18b0,H⟩
      ·replace H:=dI H
       rcases H with ⟨c19b0,H⟩|⟨_,H⟩
       ·replace H:=dI H
        rcases H with ⟨c20b0,H⟩|⟨_,H⟩
        ·replace H:=eI H
         rcases H with ⟨c21b0,c21b1,H⟩|⟨c21,c21b0,c21b1,H⟩
         ·have H':=am H
          clear H
          have q2:=qb.o
          have q7:=qc.o
          obtain ⟨_,_,_,_,_,_⟩:=cEc qa.o
          have qm:0<=(x5_2:Int):=of_decide_eq_true pQ
          have qo:x5_2 < (l0_1.length:Int):=of_decide_eq_true pQ
          obtain ⟨qy,qw,qe⟩:=Kd.Zbi HR0_1.o x5_2 qm qo
          cases qw
          replace qe:=(HB.o.cell (World.block_lt_of_cell? w _ qe)).trans qe
          replace qm:=eq_true qm
          replace qo:=eq_true qo
          obtain ⟨_,_,_,_,_,_⟩:=cEc qd.o
          have qn:0<=(x5_2:Int):=of_decide_eq_true pQ
          have qp:x5_2 < (l1_1.length:Int):=of_decide_eq_true pQ
          obtain ⟨qz,qx,qf⟩:=Kd.Zbi HR1_1.o x5_2 qn qp
          cases qx
          replace qf:=(HB.o.cell (World.block_lt_of_cell? w _ qf)).trans qf
          replace qn:=eq_true qn
          replace qp:=eq_true qp
          go_wp2
          repeat (go_quiet (fail);try go_wp2)
          go_roundg k2
          case measure=>exact pM
          case rel=>exact ⟨(wrap64 (x5_2+1)),pR,H',pJ,⟨Za qa.o pl⟩,⟨Za qd.o pl⟩,⟨pB⟩⟩
         ·obtain rfl:=Option.some.inj H
          have q3:=qb.o
          have q8:=qc.o
          obtain ⟨_,_,_,_,_,_⟩:=cEc qa.o
          have qm:0<=(x5_2:Int):=of_decide_eq_true pQ
          have qo:x5_2 < (l0_1.length:Int):=of_decide_eq_true pQ
          obtain ⟨qy,qw,qe⟩:=Kd.Zbi HR0_1.o x5_2 qm qo
          cases qw
          replace qe:=(HB.o.cell (World.block_lt_of_cell? w _ qe)).trans qe
          replace qm:=eq_true qm
          replace qo:=eq_true qo
          obtain ⟨_,_,_,_,_,_⟩:=cEc qd.o
          have qn:0<=(x5_2:Int):=of_decide_eq_true pQ
          have qp:x5_2 < (l1_1.length:Int):=of_decide_eq_true pQ
          obtain ⟨qz,qx,qf⟩:=Kd.Zbi HR1_1.o x5_2 qn qp
          cases qx
          replace qf:=(HB.o.cell (World.block_lt_of_cell? w _ qf)).trans qf
          replace qn:=eq_true qn
          replace qp:=eq_true qp
          go_wp2
          repeat (go_quiet (fail);try go_wp2)
          go_ret
          exact ⟨pE,pB⟩
        ·cases H
       ·cases H
      ·obtain rfl:=Option.some.inj H
       have q4:=qb.o
       have q9:=qc.o
       obtain ⟨_,_,_,_,_,_⟩:=cEc qa.o
       go_wp2
       repeat (go_quiet (fail);try go_wp2)
       go_ret
       exact ⟨pE,pB⟩
def Zax.f (k:Nat) (a0_0:Bool) (l0_1:List Int) (a0_2:Int) (a1_0:Bool) (l1_1:List Int) (a1_2:Int):Option (Bool × List Int × Int × Int):=(Zap.f k a0_0 l0_1 a0_2 a1_0 l1_1 a1_2).bind fun qn=>(if qn=0 then ((Zq.f k a0_0 l0_1 a0_2).bind fun qh=>((Zq.f k a1_0 l1_1 a1_2).bind fun qi=>((Za4.f qi.1 qi.2.1 qi.2.2).bind fun qj=>((Zag.f k qh.1 qh.2.1 qh.2.2 qj.1 qj.2.1 qj.2.2).bind fun qk=>((Zl.f k qk.1 qk.2.1 qk.2.2).bind fun qf=>(some (qf.1,qf.2.1,qf.2.2.1,qf.2.2.2))))))) else (some (false,([]:List Int),0,9)))
def Zax.T3:Bool × List (List Nat × List Nat):=(true,[([],[]),([0],[0]),([],[]),([2,1],[2]),([3,3],[3]),([1,4,4],[1,4]),([5,5],[5]),([6],[6]),([6],[6]),([7,6,0,1,2,3,4,5,6,7,8],[7]),([8,9,0,1,2,3,4,5,6,7,8,9],[8])])
def Zax.B3:List Nat:=[0,1,0,7,15,31,63,127,127,511,1023]
theorem Zax.tab3:rtab .any (opsOf Tryz.f22 3)=Zax.T3:=by kernel_rfl
theorem Zax.bits3:waitsOk Zax.T3.2 Zax.B3=true:=by kernel_rfl
theorem Zax.leaf {P:Prop} (h:P:=by
 go_enter Tryz.func22,Tryz.ntmps22
 try go_wp2_with (first|((with_reducible refine gd 2 ?_);refine bx 2 #[.bool a0_0,.slice A0_1 l0_1.length c0_1,.int .i64 a0_2] 24 (h:=?_);intro gb0z hg w1z hbox hb;have BK2z:=am hbox;have GW3z:=gW hg;replace HB:=bS hb;clear hb hbox hg)|((with_reducible refine gd 3 ?_);refine bx 3 #[.bool a1_0,.slice A1_1 l1_1.length c1_1,.int .i64 a1_2] 24 (h:=?_);intro gb5z hg w6z hbox hb;have BK7z:=am hbox;have GW8z:=gW hg;have jl:=nL hg BK2z;have jm:=nG hg BK2z;replace BK2z:=bb BK2z hb;replace HB:=bS hb;clear hb hbox hg)|((with_reducible refine gd 4 ?_);refine bx 4 #[.bool false,.slice none 0 0,.int .i64 0] 24 (h:=?_);intro qb hg w13z hbox hb;have qa:=am hbox;have ju:=gW hg;have qd:=nL hg BK2z;have qo:=nG hg BK2z;have qe:=nL hg BK7z;have qp:=nG hg BK7z;replace BK2z:=bb BK2z hb;replace BK7z:=bb BK7z hb;replace HB:=bS hb;clear hb hbox hg;have jn:=jl.o;have jq:=jm.o;have jo:=qd.o;have jr:=qo.o;obtain ⟨_,_,_,_,_,_⟩:=cEc BK2z.o;have jp:=qe.o;have js:=qp.o;obtain ⟨_,_,_,_,_,_⟩:=cEc BK7z.o)|((have q_:=A9;clear q_);refine gL (some 8) Tryz.func64 #[.agg #[.bool a0_0,.slice A0_1 l0_1.length c0_1,.int .i64 a0_2],.agg #[.bool a1_0,.slice A1_1 l1_1.length c1_1,.int .i64 a1_2]] (h:=?_);(with_reducible refine (Zap.calls k a0_0 _ _ l0_1 a0_2 a1_0 _ _ l1_1 a1_2 qn _ ?side1 ?side2 ?side3 ?side4 A3.o).mono ?_);(case side1=>exact cB HR0_1 HB);(case side2=>exact HC0_1.o);(case side3=>exact cB HR1_1 HB);(case side4=>exact HC1_1.o);rintro e w39z ⟨rfl,hb⟩;refine ⟨_,rfl,?_⟩;replace BK2z:=bb BK2z hb;replace BK7z:=bb BK7z hb;replace qa:=bb qa hb;replace HB:=bS hb)|((have q_:(qn != 0)=true:=c4b1;clear q_);refine gL (some 8) Tryz.func64 #[.agg #[.bool a0_0,.slice A0_1 l0_1.length c0_1,.int .i64 a0_2],.agg #[.bool a1_0,.slice A1_1 l1_1.length c1_1,.int .i64 a1_2]] (h:=?_);(with_reducible refine (Zap.calls k a0_0 _ _ l0_1 a0_2 a1_0 _ _ l1_1 a1_2 qn _ ?side1 ?side2 ?side3 ?side4 A3.o).mono ?_);(case side1=>exact cB HR0_1 HB);(case side2=>exact HC0_1.o);(case side3=>exact cB HR1_1 HB);(case side4=>exact HC1_1.o);rintro e w39z ⟨rfl,hb⟩;refine ⟨_,rfl,?_⟩;replace BK2z:=bb BK2z hb;replace BK7z:=bb BK7z hb;replace qa:=bb qa hb;replace HB:=bS hb;obtain ⟨_,_,_,_,_,_⟩:=cEc qa.o))
 first
  | have q_:=A9
    replace BK2z:=am (Zay BK2z.o)
    replace BK7z:=am (Zay BK7z.o)
    replace qa:=am (Zay qa.o)
    replace HB:=am (Zbe HB.o)
    refine start_ (n:=11) (S:=fun w'=>w'.cell? ⟨gb0z,0,none⟩=some (.bool a0_0)/\w'.cell? ⟨gb0z,1,none⟩=some (.slice A0_1 l0_1.length c0_1)/\w'.cell? ⟨gb0z,2,none⟩=some (.int .i64 a0_2)/\w'.cell? ⟨gb5z,0,none⟩=some (.bool a1_0)/\w'.cell? ⟨gb5z,1,none⟩=some (.slice A1_1 l1_1.length c1_1)/\w'.cell? ⟨gb5z,2,none⟩=some (.int .i64 a1_2)) (ds:=[]) #[false,false,false,false,false,false,false,false,false,false,false] (by kernel_rfl) rfl rfl ⟨k0 BK2z 0,k0 BK2z 1,k0 BK2z 2,k0 BK7z 0,k0 BK7z 1,k0 BK7z 2⟩ (fun hHeld=>?_);refine Zch Zax.tab3 Zax.bits3 (fun HT_ HW_=>?_)
    generalize w39z.drew=w40z at BK2z BK7z qa HB hHeld ⊢
    refine take_ (i:=0) (N:=some 11) (v:=?_) (a':=?_) #[true,false,false,false,false,false,false,false,false,false,false] rfl rfl (Za3 HT_.out HW_.out (by kernel_rfl)) (fun _ _ _ h=>h) (Or.inl ⟨by rfl,?_⟩) hHeld ?_ ?_
    rotate_left
    ·rintro w' ⟨s41z,s42z,s43z,s44z,s45z,s46z⟩
     go_simp
     with_reducible rfl
    rotate_left
    ·exact pP
    refine take_ (i:=2) (N:=some 13) (v:=?_) (a':=?_) #[true,false,true,false,false,false,false,false,false,false,false] rfl rfl (Za3 HT_.out HW_.out (by kernel_rfl)) (fun _ _ _ h=>h) (Or.inl ⟨by rfl,?_⟩) hHeld ?_ ?_
    rotate_left
    ·rintro w' ⟨s41z,s42z,s43z,s44z,s45z,s46z⟩
     go_simp
     with_reducible rfl
    rotate_left
    ·exact pP
    refine one_ (i:=1) (N:=some 12) #[true,true,true,false,false,false,false,false,false,false,false] rfl rfl (Za8 HT_.out (by kernel_rfl)) (by decide) (fun K hK=>?_)
    refine goes_ Tryz.func18 (by kernel_rfl) rfl #[.agg #[.bool a0_0,.slice A0_1 l0_1.length c0_1,.int .i64 a0_2]] (by rfl) rfl rfl pA ?_
    with_reducible refine (Zq.calls k a0_0 _ _ l0_1 a0_2 ja qw jb _ ?side1 ?side2 A5.o).mono ?_
    (case side1=>exact cB HR0_1 HB)
    (case side2=>exact HC0_1.o)
    rintro e w47z ⟨v48z,rfl,ho49z,hb⟩
    refine ⟨_,rfl,?_⟩
    have qc:=am (Kd.Zt ho49z (Zb pB))
    replace BK2z:=bb BK2z hb
    replace BK7z:=bb BK7z hb
    replace qa:=bb qa hb
    replace HB:=bS hb
    refine hK.out _ _ ⟨k0 BK2z 0,k0 BK2z 1,k0 BK2z 2,k0 BK7z 0,k0 BK7z 1,k0 BK7z 2⟩ (fun hHeld=>?_)
    clear hK K
    refine norm_ (a':=?_) ?_ ?_
    rotate_left
    ·show Act.put _ (some 12) _=_
     exact pP
    refine one_ (i:=3) (N:=some 14) #[true,true,true,true,false,false,false,false,false,false,false] rfl rfl (Za8 HT_.out (by kernel_rfl)) (by decide) (fun K hK=>?_)
    refine goes_ Tryz.func18 (by kernel_rfl) rfl #[.agg #[.bool a1_0,.slice A1_1 l1_1.length c1_1,.int .i64 a1_2]] (by rfl) rfl rfl pA ?_
    with_reducible refine (Zq.calls k a1_0 _ _ l1_1 a1_2 jc qu jd _ ?side1 ?side2 A6.o).mono ?_
    (case side1=>exact cB HR1_1 HB)
    (case side2=>exact HC1_1.o)
    rintro e w51z ⟨v52z,rfl,ho49z,hb⟩
    refine ⟨_,rfl,?_⟩
    have ql:=am (Kd.Zt (Kd.Zaj ho49z (Kd.R_lt (Kd.Zc qc.o pl))) (Zb pB))
    replace qc:=reR qc ho49z hb
    replace BK2z:=bb BK2z hb
    replace BK7z:=bb BK7z hb
    replace qa:=bb qa hb
    replace HB:=bS hb
    obtain ⟨qq,qs,q5⟩:=Kd.Zm ql.o
    (first|subst q5|(injection q5 with f1_ f2_ f3_;have f4_:=f1_.symm;have f5_:=f3_.symm;clear f1_ f2_ f3_;subst f4_;subst f5_))
    refine hK.out _ _ ⟨k0 BK2z 0,k0 BK2z 1,k0 BK2z 2,k0 BK7z 0,k0 BK7z 1,k0 BK7z 2⟩ (fun hHeld=>?_)
    clear hK K
    refine norm_ (a':=?_) ?_ ?_
    rotate_left
    ·show Act.put _ (some 14) _=_
     exact pP
    refine one_ (i:=4) (N:=some 15) #[true,true,true,true,true,false,false,false,false,false,false] rfl rfl (Za8 HT_.out (by kernel_rfl)) (by decide) (fun K hK=>?_)
    refine goes_ Tryz.func78 (by kernel_rfl) rfl #[.agg #[.bool jc,.slice qq qu.length qs,.int .i64 jd]] (by rfl) rfl rfl pA ?_
    with_reducible refine (Za4.calls jc (fun k_=>some k_=(.slice qq qu.length qs:Value).ownBlock) (.slice qq qu.length qs) qu jd je qx jf w _ ?side1 ?side2 A7.o).mono ?_
    (case side1=>exact pB)
    (case side2=>exact Kd.Zbc rfl ql.o)
    rintro e w57z ⟨v58z,rfl,ho49z,hb,hkp⟩
    refine ⟨_,rfl,?_⟩
    have qg:=am (Kd.Zi (ok':=fun k_=>some k_ ≠ (v48z:Value).ownBlock) ho49z (fun k_ hk_=>Or.elim hk_ (fun hs_=>fun e_=>(((qc.o).1 k_ e_.symm).2) hs_) (fun hn_=>(Kd.fresh' (Kd.R_lt (Kd.Zc qc.o pl)) k_ hn_))))
    replace BK2z:=am (Zan (Za BK2z.o pl) hkp (fun e_=>Kd.R_ne ql.o BK2z.o (by decide) e_))
    replace BK7z:=am (Zan (Za BK7z.o pl) hkp (fun e_=>Kd.R_ne ql.o BK7z.o (by decide) e_))
    replace qa:=am (Zan (Za qa.o pl) hkp (fun e_=>Kd.R_ne ql.o qa.o (by decide) e_))
    replace qc:=am (Kd.Zi (ok':=fun k_=>some k_ ≠ (v58z:Value).ownBlock) (Kd.Zdj (qc.o) hkp (fun k_ hk_ hs_=>(hk_.2) hs_)) (fun k_ hk_=>fun e_=>Or.elim (ho49z.1 k_ e_.symm) (fun hs_=>hk_.2.1 hs_) (fun hn_=>Nat.not_le.2 hk_.2.2 hn_)))
    replace HB:=am hb
    clear ql
    obtain ⟨qy,q2,q6⟩:=Kd.Zm qc.o
    (first|subst q6|(injection q6 with f1_ f2_ f3_;have f4_:=f1_.symm;have f5_:=f3_.symm;clear f1_ f2_ f3_;subst f4_;subst f5_))
    obtain ⟨qz,q3,q7⟩:=Kd.Zm qg.o
    (first|subst q7|(injection q7 with f1_ f2_ f3_;have f4_:=f1_.symm;have f5_:=f3_.symm;clear f1_ f2_ f3_;subst f4_;subst f5_))
    refine hK.out _ _ ⟨k0 BK2z 0,k0 BK2z 1,k0 BK2z 2,k0 BK7z 0,k0 BK7z 1,k0 BK7z 2⟩ (fun hHeld=>?_)
    clear hK K
    refine norm_ (a':=?_) ?_ ?_
    rotate_left
    ·show Act.put _ (some 15) _=_
     exact pP
    refine one_ (i:=5) (N:=some 16) #[true,true,true,true,true,true,false,false,false,false,false] rfl rfl (Za8 HT_.out (by kernel_rfl)) (by decide) (fun K hK=>?_)
    refine goes_ Tryz.func77 (by kernel_rfl) rfl #[.agg #[.bool ja,.slice qy qw.length q2,.int .i64 jb],.agg #[.bool je,.slice qz qx.length q3,.int .i64 jf]] (by rfl) rfl rfl pA ?_
    with_reducible refine (Zag.calls k ja _ _ qw jb je _ _ qx jf jg qv jh _ ?side1 ?side2 ?side3 ?side4 A8.o).mono ?_
    (case side1=>exact Kd.Zv (Kd.Zf qc.o).2.2 pl)
    (case side2=>exact (Kd.Zf qc.o).2.1)
    (case side3=>exact Kd.Zv (Kd.Zf qg.o).2.2 pl)
    (case side4=>exact (Kd.Zf qg.o).2.1)
    rintro e w66z ⟨v67z,rfl,ho49z,hb⟩
    refine ⟨_,rfl,?_⟩
    have qm:=am (Kd.Zt (Kd.Zaj (Kd.Zaj ho49z (Kd.R_lt (Kd.Zc qc.o pl))) (Kd.R_lt (Kd.Zc qg.o pl))) (Zb pB))
    replace qc:=reR qc ho49z hb
    replace qg:=reR qg ho49z hb
    replace BK2z:=bb BK2z hb
    replace BK7z:=bb BK7z hb
    replace qa:=bb qa hb
    replace HB:=bS hb
    obtain ⟨qr,qt,q8⟩:=Kd.Zm qm.o
    (first|subst q8|(injection q8 with f1_ f2_ f3_;have f4_:=f1_.symm;have f5_:=f3_.symm;clear f1_ f2_ f3_;subst f4_;subst f5_))
    refine hK.out _ _ ⟨k0 BK2z 0,k0 BK2z 1,k0 BK2z 2,k0 BK7z 0,k0 BK7z 1,k0 BK7z 2⟩ (fun hHeld=>?_)
    clear hK K
    refine norm_ (a':=?_) ?_ ?_
    rotate_left
    ·show Act.put _ (some 16) _=_
     exact pP
    refine one_ (i:=6) (N:=some 17) #[true,true,true,true,true,true,true,false,false,false,false] rfl rfl (Za8 HT_.out (by kernel_rfl)) (by decide) (fun K hK=>?_)
    refine goes_ Tryz.func23 (by kernel_rfl) rfl #[.agg #[.bool jg,.slice qr qv.length qt,.int .i64 jh]] (by rfl) rfl rfl pA ?_
    with_reducible refine (Zl.calls k jg (fun k_=>some k_=(.slice qr qv.length qt:Value).ownBlock) (.slice qr qv.length qt) qv jh ji jj jk jt w _ ?side1 ?side2 A9.o).mono ?_
    (case side1=>exact pB)
    (case side2=>exact Kd.Zbc rfl qm.o)
    rintro e w72z ⟨v73z,rfl,ho49z,hb,hkp⟩
    refine ⟨_,rfl,?_⟩
    have q1:=am (Kd.Zi (ok':=fun k_=>True) ho49z (fun k_ hk_=>trivial))
    replace BK2z:=am (Zan (Za BK2z.o pl) hkp (fun e_=>Kd.R_ne qm.o BK2z.o (by decide) e_))
    replace BK7z:=am (Zan (Za BK7z.o pl) hkp (fun e_=>Kd.R_ne qm.o BK7z.o (by decide) e_))
    replace qa:=am (Zan (Za qa.o pl) hkp (fun e_=>Kd.R_ne qm.o qa.o (by decide) e_))
    replace qc:=am (Kd.Zi (ok':=fun k_=>some k_ ≠ (.slice qz qx.length q3:Value).ownBlock) (Kd.Zdj (qc.o) hkp (fun k_ hk_ hs_=>(hk_.2) hs_)) (fun k_ hk_=>hk_.1.1))
    replace qg:=am (Kd.Zi (ok':=fun k_=>some k_ ≠ (.slice qy qw.length q2:Value).ownBlock) (Kd.Zdj (qg.o) hkp (fun k_ hk_ hs_=>(hk_.2) hs_)) (fun k_ hk_=>hk_.1.1))
    replace HB:=am hb
    clear qm
    obtain ⟨q0,q4,q9⟩:=Kd.Zm q1.o
    (first|subst q9|(injection q9 with f1_ f2_ f3_;have f4_:=f1_.symm;have f5_:=f3_.symm;clear f1_ f2_ f3_;subst f4_;subst f5_))
    refine hK.out _ _ ⟨k0 BK2z 0,k0 BK2z 1,k0 BK2z 2,k0 BK7z 0,k0 BK7z 1,k0 BK7z 2⟩ (fun hHeld=>?_)
    clear hK K
    refine norm_ (a':=?_) ?_ ?_
    rotate_left
    ·show Act.put _ (some 17) _=_
     exact pP
    refine pu 7 (some 18) #[true,true,true,true,true,true,true,true,false,false,false] (h:=?_)
    refine pu 8 (some 19) #[true,true,true,true,true,true,true,true,true,false,false] (h:=?_)
    refine one_ (i:=9) (N:=none) #[true,true,true,true,true,true,true,true,true,true,false] rfl rfl (Za8 HT_.out (by kernel_rfl)) (by decide) (fun K hK=>?_)
    have hs78z:w72z.cell? ⟨qb,0,none⟩=some (.bool false):=k0 qa 0
    have hfs79z:=Zaa qa.o 0
    have hns80z:=qd.o
    have hns81z:=qe.o
    have hms82z:=qo.o
    have hms83z:=qp.o
    have hs84z:w72z.cell? ⟨qb,1,none⟩=some (.slice none 0 0):=k0 qa 1
    have hfs85z:=Zaa qa.o 1
    have hns86z:=qd.o
    have hns87z:=qe.o
    have hms88z:=qo.o
    have hms89z:=qp.o
    have hs90z:w72z.cell? ⟨qb,2,none⟩=some (.int .i64 0):=k0 qa 2
    have hfs91z:=Zaa qa.o 2
    have hns92z:=qd.o
    have hns93z:=qe.o
    have hms94z:=qo.o
    have hms95z:=qp.o
    refine skip_ (w1:=?_) (by rfl) rfl ?_ ?_
    rotate_left
    ·go_simp
     rfl
    refine hK.out _ _ ⟨((cell_far (p:=⟨qb,_,none⟩) qd.o _).trans (((cell_far (p:=⟨qb,_,none⟩) qd.o _).trans (((cell_far (p:=⟨qb,_,none⟩) qd.o _).trans (hHeld.1)))))),((cell_far (p:=⟨qb,_,none⟩) qd.o _).trans (((cell_far (p:=⟨qb,_,none⟩) qd.o _).trans (((cell_far (p:=⟨qb,_,none⟩) qd.o _).trans (hHeld.2.1)))))),((cell_far (p:=⟨qb,_,none⟩) qd.o _).trans (((cell_far (p:=⟨qb,_,none⟩) qd.o _).trans (((cell_far (p:=⟨qb,_,none⟩) qd.o _).trans (hHeld.2.2.1)))))),((cell_far (p:=⟨qb,_,none⟩) qe.o _).trans (((cell_far (p:=⟨qb,_,none⟩) qe.o _).trans (((cell_far (p:=⟨qb,_,none⟩) qe.o _).trans (hHeld.2.2.2.1)))))),((cell_far (p:=⟨qb,_,none⟩) qe.o _).trans (((cell_far (p:=⟨qb,_,none⟩) qe.o _).trans (((cell_far (p:=⟨qb,_,none⟩) qe.o _).trans (hHeld.2.2.2.2.1)))))),((cell_far (p:=⟨qb,_,none⟩) qe.o _).trans (((cell_far (p:=⟨qb,_,none⟩) qe.o _).trans (((cell_far (p:=⟨qb,_,none⟩) qe.o _).trans (hHeld.2.2.2.2.2))))))⟩ (fun hHeld=>?_)
    clear hK K
    refine pu 10 (some 5) #[true,true,true,true,true,true,true,true,true,true,true] (h:=?_)
    refine done_ (Zdg HT_.out (by kernel_rfl)) ?_
    try go_wp2
    refine bodyPost_ret (Zbd rfl _ _ qb 24 #[.bool ji,.slice q0 jj.length q4,.int .i64 jk] (0,0) _ rfl (by exact p3 qa) Tryz.underlying24 rfl (by kernel_rfl)) rfl ?_
    exact ⟨_,pE,by refine rp ?_;exact Kd.Zi (Kd.Zj (p:=⟨qb,2,none⟩) (Kd.Zj (p:=⟨qb,1,none⟩) (Kd.Zj (p:=⟨qb,0,none⟩) (Kd.Zg q1.o qa.o (by decide)) (fun _ hk=>hk.2) (.bool ji)) (fun _ hk=>hk.2) (.slice q0 jj.length q4)) (fun _ hk=>hk.2) (.int .i64 jk)) (fun _ hk=>trivial),pB⟩
  | refine bodyPost_ret (Zbd rfl _ _ qb 24 #[.bool false,.slice none 0 0,.int .i64 0] (0,0) _ rfl (by exact p3 qa) Tryz.underlying24 rfl (by kernel_rfl)) rfl ?_
    exact ⟨_,pE,pN,pB⟩):P:=h
theorem Zax.calls (k:Nat) (a0_0:Bool) (A0_1:Option Addr) (c0_1:Nat) (l0_1:List Int) (a0_2:Int) (a1_0:Bool) (A1_1:Option Addr) (c1_1:Nat) (l1_1:List Int) (a1_2:Int) (r1:Bool) (r2:List Int) (r3:Int) (r4:Int) (w:World) (hr0_1:Kd.C (Kd.int .u32) w A0_1 l0_1.length l0_1) (hc0_1:l0_1.length<=c0_1) (hr1_1:Kd.C (Kd.int .u32) w A1_1 l1_1.length l1_1) (hc1_1:l1_1.length<=c1_1) (h:Zax.f k a0_0 l0_1 a0_2 a1_0 l1_1 a1_2=some (r1,r2,r3,r4)) :
  Calls Tryz.prog 22 #[.agg #[.bool a0_0,.slice A0_1 l0_1.length c0_1,.int .i64 a0_2],.agg #[.bool a1_0,.slice A1_1 l1_1.length c1_1,.int .i64 a1_2]] w fun e w' => ∃ v1_:Value,e=.returned (.tuple #[.agg #[.bool r1,v1_,.int .i64 r3],.int .i64 r4])/\Kd.R (Kd.int .u32) 85 w' w.heap.size (fun _=>True) v1_ r2/\Below w.heap.size w w':=by
 have hu24:=Tryz.underlying24
 have HR0_1:=am hr0_1
 have HC0_1:=am hc0_1
 clear hr0_1 hc0_1
 have HR1_1:=am hr1_1
 have HC1_1:=am hc1_1
 clear hr1_1 hc1_1
 have HB:=am (Below.refl w.heap.size w)
 have H:((Zap.f k a0_0 l0_1 a0_2 a1_0 l1_1 a1_2).bind fun qn=>(if qn=0 then ((Zq.f k a0_0 l0_1 a0_2).bind fun qh=>((Zq.f k a1_0 l1_1 a1_2).bind fun qi=>((Za4.f qi.1 qi.2.1 qi.2.2).bind fun qj=>((Zag.f k qh.1 qh.2.1 qh.2.2 qj.1 qj.2.1 qj.2.2).bind fun qk=>((Zl.f k qk.1 qk.2.1 qk.2.2).bind fun qf=>(some (qf.1,qf.2.1,qf.2.2.1,qf.2.2.2))))))) else (some (false,([]:List Int),0,9))))=some (r1,r2,r3,r4):=h
 clear h
 replace H:=ob H
 obtain ⟨qn,A3,H⟩:=H
 replace H:=eI H
 rcases H with ⟨c4b0,c4b1,H⟩|⟨c4,c4b0,c4b1,H⟩
 ·replace H:=ob H
  obtain ⟨⟨ja,qw,jb⟩,A5,H⟩:=H;(try dsimp only at H)
  replace H:=ob H
  obtain ⟨⟨jc,qu,jd⟩,A6,H⟩:=H;(try dsimp only at H)
  replace H:=ob H
  obtain ⟨⟨je,qx,jf⟩,A7,H⟩:=H;(try dsimp only at H)
  replace H:=ob H
  obtain ⟨⟨jg,qv,jh⟩,A8,H⟩:=H;(try dsimp only at H)
  replace H:=ob H
  obtain ⟨⟨ji,jj,jk,jt⟩,A9,H⟩:=H;(try dsimp only at H)
  simp only [Option.some.injEq,Prod.mk.injEq] at H
  obtain ⟨rfl,rfl,rfl,rfl⟩:=H
  exact Zax.leaf
 ·simp only [Option.some.injEq,Prod.mk.injEq] at H
  obtain ⟨rfl,rfl,rfl,rfl⟩:=H
  exact Zax.leaf
def Zaw.f (k:Nat) (a0_0:Bool) (l0_1:List Int) (a0_2:Int) (a1_0:Bool) (l1_1:List Int) (a1_2:Int):Option (Bool × List Int × Int × Int):=(Zap.f k a0_0 l0_1 a0_2 a1_0 l1_1 a1_2).bind fun ql=>(if ql=0 then ((Zq.f k a0_0 l0_1 a0_2).bind fun qh=>((Zq.f k a1_0 l1_1 a1_2).bind fun qi=>((Zag.f k qh.1 qh.2.1 qh.2.2 qi.1 qi.2.1 qi.2.2).bind fun qj=>((Zl.f k qj.1 qj.2.1 qj.2.2).bind fun qf=>(some (qf.1,qf.2.1,qf.2.2.1,qf.2.2.2)))))) else (some (false,([]:List Int),0,9)))
def Zaw.T3:Bool × List (List Nat × List Nat):=(true,[([],[]),([0],[0]),([],[]),([2,1],[2]),([1,3,3],[1,3]),([4,4],[4]),([5],[5]),([5],[5]),([6,5,0,1,2,3,4,5,6,7],[6]),([7,8,0,1,2,3,4,5,6,7,8],[7])])
def Zaw.B3:List Nat:=[0,1,0,7,15,31,63,63,255,511]
theorem Zaw.tab3:rtab .any (opsOf Tryz.f27 3)=Zaw.T3:=by kernel_rfl
theorem Zaw.bits3:waitsOk Zaw.T3.2 Zaw.B3=true:=by kernel_rfl
theorem Zaw.leaf {P:Prop} (h:P:=by
 go_enter Tryz.func27,Tryz.ntmps27
 try go_wp2_with (first|((with_reducible refine gd 2 ?_);refine bx 2 #[.bool a0_0,.slice A0_1 l0_1.length c0_1,.int .i64 a0_2] 24 (h:=?_);intro gb0z hg w1z hbox hb;have BK2z:=am hbox;have GW3z:=gW hg;replace HB:=bS hb;clear hb hbox hg)|((with_reducible refine gd 3 ?_);refine bx 3 #[.bool a1_0,.slice A1_1 l1_1.length c1_1,.int .i64 a1_2] 24 (h:=?_);intro gb5z hg w6z hbox hb;have BK7z:=am hbox;have GW8z:=gW hg;have jd:=nL hg BK2z;have je:=nG hg BK2z;replace BK2z:=bb BK2z hb;replace HB:=bS hb;clear hb hbox hg)|((with_reducible refine gd 4 ?_);refine bx 4 #[.bool false,.slice none 0 0,.int .i64 0] 24 (h:=?_);intro qb hg w13z hbox hb;have qa:=am hbox;have jm:=gW hg;have qc:=nL hg BK2z;have qm:=nG hg BK2z;have qd:=nL hg BK7z;have qn:=nG hg BK7z;replace BK2z:=bb BK2z hb;replace BK7z:=bb BK7z hb;replace HB:=bS hb;clear hb hbox hg;have jf:=jd.o;have ji:=je.o;have jg:=qc.o;have jj:=qm.o;obtain ⟨_,_,_,_,_,_⟩:=cEc BK2z.o;have jh:=qd.o;have jk:=qn.o;obtain ⟨_,_,_,_,_,_⟩:=cEc BK7z.o)|((have q_:=A8;clear q_);refine gL (some 8) Tryz.func64 #[.agg #[.bool a0_0,.slice A0_1 l0_1.length c0_1,.int .i64 a0_2],.agg #[.bool a1_0,.slice A1_1 l1_1.length c1_1,.int .i64 a1_2]] (h:=?_);(with_reducible refine (Zap.calls k a0_0 _ _ l0_1 a0_2 a1_0 _ _ l1_1 a1_2 ql _ ?side1 ?side2 ?side3 ?side4 A3.o).mono ?_);(case side1=>exact cB HR0_1 HB);(case side2=>exact HC0_1.o);(case side3=>exact cB HR1_1 HB);(case side4=>exact HC1_1.o);rintro e w39z ⟨rfl,hb⟩;refine ⟨_,rfl,?_⟩;replace BK2z:=bb BK2z hb;replace BK7z:=bb BK7z hb;replace qa:=bb qa hb;replace HB:=bS hb)|((have q_:(ql != 0)=true:=c4b1;clear q_);refine gL (some 8) Tryz.func64 #[.agg #[.bool a0_0,.slice A0_1 l0_1.length c0_1,.int .i64 a0_2],.agg #[.bool a1_0,.slice A1_1 l1_1.length c1_1,.int .i64 a1_2]] (h:=?_);(with_reducible refine (Zap.calls k a0_0 _ _ l0_1 a0_2 a1_0 _ _ l1_1 a1_2 ql _ ?side1 ?side2 ?side3 ?side4 A3.o).mono ?_);(case side1=>exact cB HR0_1 HB);(case side2=>exact HC0_1.o);(case side3=>exact cB HR1_1 HB);(case side4=>exact HC1_1.o);rintro e w39z ⟨rfl,hb⟩;refine ⟨_,rfl,?_⟩;replace BK2z:=bb BK2z hb;replace BK7z:=bb BK7z hb;replace qa:=bb qa hb;replace HB:=bS hb;obtain ⟨_,_,_,_,_,_⟩:=cEc qa.o))
 first
  | have q_:=A8
    replace BK2z:=am (Zay BK2z.o)
    replace BK7z:=am (Zay BK7z.o)
    replace qa:=am (Zay qa.o)
    replace HB:=am (Zbe HB.o)
    refine start_ (n:=10) (S:=fun w'=>w'.cell? ⟨gb0z,0,none⟩=some (.bool a0_0)/\w'.cell? ⟨gb0z,1,none⟩=some (.slice A0_1 l0_1.length c0_1)/\w'.cell? ⟨gb0z,2,none⟩=some (.int .i64 a0_2)/\w'.cell? ⟨gb5z,0,none⟩=some (.bool a1_0)/\w'.cell? ⟨gb5z,1,none⟩=some (.slice A1_1 l1_1.length c1_1)/\w'.cell? ⟨gb5z,2,none⟩=some (.int .i64 a1_2)) (ds:=[]) #[false,false,false,false,false,false,false,false,false,false] (by kernel_rfl) rfl rfl ⟨k0 BK2z 0,k0 BK2z 1,k0 BK2z 2,k0 BK7z 0,k0 BK7z 1,k0 BK7z 2⟩ (fun hHeld=>?_);refine Zch Zaw.tab3 Zaw.bits3 (fun HT_ HW_=>?_)
    generalize w39z.drew=w40z at BK2z BK7z qa HB hHeld ⊢
    refine take_ (i:=0) (N:=some 11) (v:=?_) (a':=?_) #[true,false,false,false,false,false,false,false,false,false] rfl rfl (Za3 HT_.out HW_.out (by kernel_rfl)) (fun _ _ _ h=>h) (Or.inl ⟨by rfl,?_⟩) hHeld ?_ ?_
    rotate_left
    ·rintro w' ⟨s41z,s42z,s43z,s44z,s45z,s46z⟩
     go_simp
     with_reducible rfl
    rotate_left
    ·exact pP
    refine take_ (i:=2) (N:=some 13) (v:=?_) (a':=?_) #[true,false,true,false,false,false,false,false,false,false] rfl rfl (Za3 HT_.out HW_.out (by kernel_rfl)) (fun _ _ _ h=>h) (Or.inl ⟨by rfl,?_⟩) hHeld ?_ ?_
    rotate_left
    ·rintro w' ⟨s41z,s42z,s43z,s44z,s45z,s46z⟩
     go_simp
     with_reducible rfl
    rotate_left
    ·exact pP
    refine one_ (i:=1) (N:=some 12) #[true,true,true,false,false,false,false,false,false,false] rfl rfl (Za8 HT_.out (by kernel_rfl)) (by decide) (fun K hK=>?_)
    refine goes_ Tryz.func18 (by kernel_rfl) rfl #[.agg #[.bool a0_0,.slice A0_1 l0_1.length c0_1,.int .i64 a0_2]] (by rfl) rfl rfl pA ?_
    with_reducible refine (Zq.calls k a0_0 _ _ l0_1 a0_2 q4 qr q5 _ ?side1 ?side2 A5.o).mono ?_
    (case side1=>exact cB HR0_1 HB)
    (case side2=>exact HC0_1.o)
    rintro e w47z ⟨v48z,rfl,ho49z,hb⟩
    refine ⟨_,rfl,?_⟩
    have qe:=am (Kd.Zt ho49z (Zb pB))
    replace BK2z:=bb BK2z hb
    replace BK7z:=bb BK7z hb
    replace qa:=bb qa hb
    replace HB:=bS hb
    refine hK.out _ _ ⟨k0 BK2z 0,k0 BK2z 1,k0 BK2z 2,k0 BK7z 0,k0 BK7z 1,k0 BK7z 2⟩ (fun hHeld=>?_)
    clear hK K
    refine norm_ (a':=?_) ?_ ?_
    rotate_left
    ·show Act.put _ (some 12) _=_
     exact pP
    refine one_ (i:=3) (N:=some 14) #[true,true,true,true,false,false,false,false,false,false] rfl rfl (Za8 HT_.out (by kernel_rfl)) (by decide) (fun K hK=>?_)
    refine goes_ Tryz.func18 (by kernel_rfl) rfl #[.agg #[.bool a1_0,.slice A1_1 l1_1.length c1_1,.int .i64 a1_2]] (by rfl) rfl rfl pA ?_
    with_reducible refine (Zq.calls k a1_0 _ _ l1_1 a1_2 q6 qs q7 _ ?side1 ?side2 A6.o).mono ?_
    (case side1=>exact cB HR1_1 HB)
    (case side2=>exact HC1_1.o)
    rintro e w51z ⟨v52z,rfl,ho49z,hb⟩
    refine ⟨_,rfl,?_⟩
    have qg:=am (Kd.Zt (Kd.Zaj ho49z (Kd.R_lt (Kd.Zc qe.o pl))) (Zb pB))
    replace qe:=reR qe ho49z hb
    replace BK2z:=bb BK2z hb
    replace BK7z:=bb BK7z hb
    replace qa:=bb qa hb
    replace HB:=bS hb
    obtain ⟨qt,qx,q0⟩:=Kd.Zm qe.o
    (first|subst q0|(injection q0 with f1_ f2_ f3_;have f4_:=f1_.symm;have f5_:=f3_.symm;clear f1_ f2_ f3_;subst f4_;subst f5_))
    obtain ⟨qu,qy,q1⟩:=Kd.Zm qg.o
    (first|subst q1|(injection q1 with f1_ f2_ f3_;have f4_:=f1_.symm;have f5_:=f3_.symm;clear f1_ f2_ f3_;subst f4_;subst f5_))
    refine hK.out _ _ ⟨k0 BK2z 0,k0 BK2z 1,k0 BK2z 2,k0 BK7z 0,k0 BK7z 1,k0 BK7z 2⟩ (fun hHeld=>?_)
    clear hK K
    refine norm_ (a':=?_) ?_ ?_
    rotate_left
    ·show Act.put _ (some 14) _=_
     exact pP
    refine one_ (i:=4) (N:=some 15) #[true,true,true,true,true,false,false,false,false,false] rfl rfl (Za8 HT_.out (by kernel_rfl)) (by decide) (fun K hK=>?_)
    refine goes_ Tryz.func77 (by kernel_rfl) rfl #[.agg #[.bool q4,.slice qt qr.length qx,.int .i64 q5],.agg #[.bool q6,.slice qu qs.length qy,.int .i64 q7]] (by rfl) rfl rfl pA ?_
    with_reducible refine (Zag.calls k q4 _ _ qr q5 q6 _ _ qs q7 q8 qq q9 _ ?side1 ?side2 ?side3 ?side4 A7.o).mono ?_
    (case side1=>exact Kd.Zv (Kd.Zf qe.o).2.2 pl)
    (case side2=>exact (Kd.Zf qe.o).2.1)
    (case side3=>exact Kd.Zv (Kd.Zf qg.o).2.2 pl)
    (case side4=>exact (Kd.Zf qg.o).2.1)
    rintro e w60z ⟨v61z,rfl,ho49z,hb⟩
    refine ⟨_,rfl,?_⟩
    have qk:=am (Kd.Zt (Kd.Zaj (Kd.Zaj ho49z (Kd.R_lt (Kd.Zc qe.o pl))) (Kd.R_lt (Kd.Zc qg.o pl))) (Zb pB))
    replace qe:=reR qe ho49z hb
    replace qg:=reR qg ho49z hb
    replace BK2z:=bb BK2z hb
    replace BK7z:=bb BK7z hb
    replace qa:=bb qa hb
    replace HB:=bS hb
    obtain ⟨qo,qp,q2⟩:=Kd.Zm qk.o
    (first|subst q2|(injection q2 with f1_ f2_ f3_;have f4_:=f1_.symm;have f5_:=f3_.symm;clear f1_ f2_ f3_;subst f4_;subst f5_))
    refine hK.out _ _ ⟨k0 BK2z 0,k0 BK2z 1,k0 BK2z 2,k0 BK7z 0,k0 BK7z 1,k0 BK7z 2⟩ (fun hHeld=>?_)
    clear hK K
    refine norm_ (a':=?_) ?_ ?_
    rotate_left
    ·show Act.put _ (some 15) _=_
     exact pP
    refine one_ (i:=5) (N:=some 16) #[true,true,true,true,true,true,false,false,false,false] rfl rfl (Za8 HT_.out (by kernel_rfl)) (by decide) (fun K hK=>?_)
    refine goes_ Tryz.func23 (by kernel_rfl) rfl #[.agg #[.bool q8,.slice qo qq.length qp,.int .i64 q9]] (by rfl) rfl rfl pA ?_
    with_reducible refine (Zl.calls k q8 (fun k_=>some k_=(.slice qo qq.length qp:Value).ownBlock) (.slice qo qq.length qp) qq q9 ja jb jc jl w _ ?side1 ?side2 A8.o).mono ?_
    (case side1=>exact pB)
    (case side2=>exact Kd.Zbc rfl qk.o)
    rintro e w66z ⟨v67z,rfl,ho49z,hb,hkp⟩
    refine ⟨_,rfl,?_⟩
    have qw:=am (Kd.Zi (ok':=fun k_=>True) ho49z (fun k_ hk_=>trivial))
    replace BK2z:=am (Zan (Za BK2z.o pl) hkp (fun e_=>Kd.R_ne qk.o BK2z.o (by decide) e_))
    replace BK7z:=am (Zan (Za BK7z.o pl) hkp (fun e_=>Kd.R_ne qk.o BK7z.o (by decide) e_))
    replace qa:=am (Zan (Za qa.o pl) hkp (fun e_=>Kd.R_ne qk.o qa.o (by decide) e_))
    replace qe:=am (Kd.Zi (ok':=fun k_=>some k_ ≠ (.slice qu qs.length qy:Value).ownBlock) (Kd.Zdj (qe.o) hkp (fun k_ hk_ hs_=>(hk_.2) hs_)) (fun k_ hk_=>hk_.1.1.2))
    replace qg:=am (Kd.Zi (ok':=fun k_=>some k_ ≠ (.slice qt qr.length qx:Value).ownBlock) (Kd.Zdj (qg.o) hkp (fun k_ hk_ hs_=>(hk_.2) hs_)) (fun k_ hk_=>hk_.1.1.2))
    replace HB:=am hb
    clear qk
    obtain ⟨qv,qz,q3⟩:=Kd.Zm qw.o
    (first|subst q3|(injection q3 with f1_ f2_ f3_;have f4_:=f1_.symm;have f5_:=f3_.symm;clear f1_ f2_ f3_;subst f4_;subst f5_))
    refine hK.out _ _ ⟨k0 BK2z 0,k0 BK2z 1,k0 BK2z 2,k0 BK7z 0,k0 BK7z 1,k0 BK7z 2⟩ (fun hHeld=>?_)
    clear hK K
    refine norm_ (a':=?_) ?_ ?_
    rotate_left
    ·show Act.put _ (some 16) _=_
     exact pP
    refine pu 6 (some 17) #[true,true,true,true,true,true,true,false,false,false] (h:=?_)
    refine pu 7 (some 18) #[true,true,true,true,true,true,true,true,false,false] (h:=?_)
    refine one_ (i:=8) (N:=none) #[true,true,true,true,true,true,true,true,true,false] rfl rfl (Za8 HT_.out (by kernel_rfl)) (by decide) (fun K hK=>?_)
    have hs72z:w66z.cell? ⟨qb,0,none⟩=some (.bool false):=k0 qa 0
    have hfs73z:=Zaa qa.o 0
    have hns74z:=qc.o
    have hns75z:=qd.o
    have hms76z:=qm.o
    have hms77z:=qn.o
    have hs78z:w66z.cell? ⟨qb,1,none⟩=some (.slice none 0 0):=k0 qa 1
    have hfs79z:=Zaa qa.o 1
    have hns80z:=qc.o
    have hns81z:=qd.o
    have hms82z:=qm.o
    have hms83z:=qn.o
    have hs84z:w66z.cell? ⟨qb,2,none⟩=some (.int .i64 0):=k0 qa 2
    have hfs85z:=Zaa qa.o 2
    have hns86z:=qc.o
    have hns87z:=qd.o
    have hms88z:=qm.o
    have hms89z:=qn.o
    refine skip_ (w1:=?_) (by rfl) rfl ?_ ?_
    rotate_left
    ·go_simp
     rfl
    refine hK.out _ _ ⟨((cell_far (p:=⟨qb,_,none⟩) qc.o _).trans (((cell_far (p:=⟨qb,_,none⟩) qc.o _).trans (((cell_far (p:=⟨qb,_,none⟩) qc.o _).trans (hHeld.1)))))),((cell_far (p:=⟨qb,_,none⟩) qc.o _).trans (((cell_far (p:=⟨qb,_,none⟩) qc.o _).trans (((cell_far (p:=⟨qb,_,none⟩) qc.o _).trans (hHeld.2.1)))))),((cell_far (p:=⟨qb,_,none⟩) qc.o _).trans (((cell_far (p:=⟨qb,_,none⟩) qc.o _).trans (((cell_far (p:=⟨qb,_,none⟩) qc.o _).trans (hHeld.2.2.1)))))),((cell_far (p:=⟨qb,_,none⟩) qd.o _).trans (((cell_far (p:=⟨qb,_,none⟩) qd.o _).trans (((cell_far (p:=⟨qb,_,none⟩) qd.o _).trans (hHeld.2.2.2.1)))))),((cell_far (p:=⟨qb,_,none⟩) qd.o _).trans (((cell_far (p:=⟨qb,_,none⟩) qd.o _).trans (((cell_far (p:=⟨qb,_,none⟩) qd.o _).trans (hHeld.2.2.2.2.1)))))),((cell_far (p:=⟨qb,_,none⟩) qd.o _).trans (((cell_far (p:=⟨qb,_,none⟩) qd.o _).trans (((cell_far (p:=⟨qb,_,none⟩) qd.o _).trans (hHeld.2.2.2.2.2))))))⟩ (fun hHeld=>?_)
    clear hK K
    refine pu 9 (some 5) #[true,true,true,true,true,true,true,true,true,true] (h:=?_)
    refine done_ (Zdg HT_.out (by kernel_rfl)) ?_
    try go_wp2
    refine bodyPost_ret (Zbd rfl _ _ qb 24 #[.bool ja,.slice qv jb.length qz,.int .i64 jc] (0,0) _ rfl (by exact p3 qa) Tryz.underlying24 rfl (by kernel_rfl)) rfl ?_
    exact ⟨_,pE,by refine rp ?_;exact Kd.Zi (Kd.Zj (p:=⟨qb,2,none⟩) (Kd.Zj (p:=⟨qb,1,none⟩) (Kd.Zj (p:=⟨qb,0,none⟩) (Kd.Zg qw.o qa.o (by decide)) (fun _ hk=>hk.2) (.bool ja)) (fun _ hk=>hk.2) (.slice qv jb.length qz)) (fun _ hk=>hk.2) (.int .i64 jc)) (fun _ hk=>trivial),pB⟩
  | refine bodyPost_ret (Zbd rfl _ _ qb 24 #[.bool false,.slice none 0 0,.int .i64 0] (0,0) _ rfl (by exact p3 qa) Tryz.underlying24 rfl (by kernel_rfl)) rfl ?_
    exact ⟨_,pE,pN,pB⟩):P:=h
theorem Zaw.calls (k:Nat) (a0_0:Bool) (A0_1:Option Addr) (c0_1:Nat) (l0_1:List Int) (a0_2:Int) (a1_0:Bool) (A1_1:Option Addr) (c1_1:Nat) (l1_1:List Int) (a1_2:Int) (r1:Bool) (r2:List Int) (r3:Int) (r4:Int) (w:World) (hr0_1:Kd.C (Kd.int .u32) w A0_1 l0_1.length l0_1) (hc0_1:l0_1.length<=c0_1) (hr1_1:Kd.C (Kd.int .u32) w A1_1 l1_1.length l1_1) (hc1_1:l1_1.length<=c1_1) (h:Zaw.f k a0_0 l0_1 a0_2 a1_0 l1_1 a1_2=some (r1,r2,r3,r4)) :
  Calls Tryz.prog 27 #[.agg #[.bool a0_0,.slice A0_1 l0_1.length c0_1,.int .i64 a0_2],.agg #[.bool a1_0,.slice A1_1 l1_1.length c1_1,.int .i64 a1_2]] w fun e w' => ∃ v1_:Value,e=.returned (.tuple #[.agg #[.bool r1,v1_,.int .i64 r3],.int .i64 r4])/\Kd.R (Kd.int .u32) 85 w' w.heap.size (fun _=>True) v1_ r2/\Below w.heap.size w w':=by
 have hu24:=Tryz.underlying24
 have HR0_1:=am hr0_1
 have HC0_1:=am hc0_1
 clear hr0_1 hc0_1
 have HR1_1:=am hr1_1
 have HC1_1:=am hc1_1
 clear hr1_1 hc1_1
 have HB:=am (Below.refl w.heap.size w)
 have H:((Zap.f k a0_0 l0_1 a0_2 a1_0 l1_1 a1_2).bind fun ql=>(if ql=0 then ((Zq.f k a0_0 l0_1 a0_2).bind fun qh=>((Zq.f k a1_0 l1_1 a1_2).bind fun qi=>((Zag.f k qh.1 qh.2.1 qh.2.2 qi.1 qi.2.1 qi.2.2).bind fun qj=>((Zl.f k qj.1 qj.2.1 qj.2.2).bind fun qf=>(some (qf.1,qf.2.1,qf.2.2.1,qf.2.2.2)))))) else (some (false,([]:List Int),0,9))))=some (r1,r2,r3,r4):=h
 clear h
 replace H:=ob H
 obtain ⟨ql,A3,H⟩:=H
 replace H:=eI H
 rcases H with ⟨c4b0,c4b1,H⟩|⟨c4,c4b0,c4b1,H⟩
 ·replace H:=ob H
  obtain ⟨⟨q4,qr,q5⟩,A5,H⟩:=H;(try dsimp only at H)
  replace H:=ob H
  obtain ⟨⟨q6,qs,q7⟩,A6,H⟩:=H;(try dsimp only at H)
  replace H:=ob H
  obtain ⟨⟨q8,qq,q9⟩,A7,H⟩:=H;(try dsimp only at H)
  replace H:=ob H
  obtain ⟨⟨ja,jb,jc,jl⟩,A8,H⟩:=H;(try dsimp only at H)
  simp only [Option.some.injEq,Prod.mk.injEq] at H
  obtain ⟨rfl,rfl,rfl,rfl⟩:=H
  exact Zaw.leaf
 ·simp only [Option.some.injEq,Prod.mk.injEq] at H
  obtain ⟨rfl,rfl,rfl,rfl⟩:=H
  exact Zaw.leaf
def Za9.f (k:Nat) (a0:Int):Option (List Int):=(Zcn.f a0).bind fun qb=>((Zaq.f k qb).bind fun qc=>(some qc))
theorem Za9.calls (k:Nat) (a0:Int) (r:List Int) (w:World) (h:Za9.f k a0=some r) :
  Calls Tryz.prog 84 #[.int .u64 a0] w fun e w' => ∃ v0_:Value,e=.returned (v0_)/\Kd.R (Kd.int .i64) 3 w' w.heap.size (fun _=>True) v0_ r/\Below w.heap.size w w':=by
 have HB:=am (Below.refl w.heap.size w)
 have H:((Zcn.f a0).bind fun qb=>((Zaq.f k qb).bind fun qc=>(some qc)))=some r:=h
 clear h
 obtain ⟨qb,A2,H⟩:=ob H
 obtain ⟨qc,A3,H⟩:=ob H
 obtain rfl:=Option.some.inj H
 go_enter Tryz.func84,Tryz.ntmps84
 go_wp2_with (first|(refine gL (some 4) Tryz.func136 #[.int .u64 a0] (h:=?_);(with_reducible refine (Zcn.calls a0 qb _ A2.o).mono ?_);rintro e w4 ⟨qe,rfl,ho0,hb⟩;refine ⟨_,rfl,?_⟩;have qa:=am (Kd.Zt ho0 (Zb pB));replace HB:=bS hb;obtain ⟨Ao5,co5,eo5⟩:=Kd.Zm qa.o;subst eo5)|(refine gL (some 5) Tryz.func66 #[.slice Ao5 qb.length co5] (h:=?_);(with_reducible refine (Zaq.calls k _ _ qb qc _ ?side1 ?side2 A3.o).mono ?_);(case side1=>exact Kd.Zv (Kd.Zf qa.o).2.2 pl);(case side2=>exact (Kd.Zf qa.o).2.1);rintro e w6 ⟨qf,rfl,ho0,hb⟩;refine ⟨_,rfl,?_⟩;replace qa:=rbl qa hb;have qd:=am (Kd.Zt ho0 (Zb pB));replace HB:=bS hb))
 go_ret
 exact ⟨_,pE,by refine rp ?_;exact qd.o,pB⟩
def Zc9.f (k:Nat) (a0:Int):Option (Bool × List Int × Int):=(Za9.f k (IntKind.u64.wrap (a0))).bind fun qe=>(if a0 < 0 then ((Za9.f k (IntKind.u64.wrap (wrap64 (-(wrap64 (a0+1)))))).bind fun ql=>((Zs.f k ql (([1]:List Int))).bind fun qf=>((Zl.f k true qf 0).bind fun qj=>(some (qj.1,qj.2.1,qj.2.2.1))))) else ((Zl.f k false qe 0).bind fun qr=>(some (qr.1,qr.2.1,qr.2.2.1))))
theorem Zc9.calls (k:Nat) (a0:Int) (r1:Bool) (r2:List Int) (r3:Int) (w:World) (h:Zc9.f k a0=some (r1,r2,r3)) :
  Calls Tryz.prog 29 #[.int .i64 a0] w fun e w' => ∃ v1_:Value,e=.returned (.agg #[.bool r1,v1_,.int .i64 r3])/\Kd.R (Kd.int .u32) 85 w' w.heap.size (fun _=>True) v1_ r2/\Below w.heap.size w w':=by
 have hu24:=Tryz.underlying24
 have hu30:=Tryz.underlying30
 have HB:=am (Below.refl w.heap.size w)
 have H:((Za9.f k (IntKind.u64.wrap (a0))).bind fun qe=>(if a0 < 0 then ((Za9.f k (IntKind.u64.wrap (wrap64 (-(wrap64 (a0+1)))))).bind fun ql=>((Zs.f k ql (([1]:List Int))).bind fun qf=>((Zl.f k true qf 0).bind fun qj=>(some (qj.1,qj.2.1,qj.2.2.1))))) else ((Zl.f k false qe 0).bind fun qr=>(some (qr.1,qr.2.1,qr.2.2.1)))))=some (r1,r2,r3):=h
 clear h
 replace H:=ob H
 obtain ⟨qe,A2,H⟩:=H
 replace H:=dI H
 rcases H with ⟨c3b0,H⟩|⟨c3b0,H⟩
 ·replace H:=ob H
  obtain ⟨ql,A4,H⟩:=H
  obtain ⟨qp,je⟩:∃ y_:List Int,y_=(([1]:List Int)):=⟨_,rfl⟩
  replace H:((Zs.f k ql qp).bind fun qf=>((Zl.f k true qf 0).bind fun qj=>(some (qj.1,qj.2.1,qj.2.2.1))))=some (r1,r2,r3):=by have hy_:=je;exact pH
  have jj:=am je
  clear je
  replace H:=ob H
  obtain ⟨qf,A5,H⟩:=H
  replace H:=ob H
  obtain ⟨⟨qu,q4,jf,js⟩,A6,H⟩:=H;(try dsimp only at H)
  simp only [Option.some.injEq,Prod.mk.injEq] at H
  obtain ⟨rfl,rfl,rfl⟩:=H
  go_enter Tryz.func29,Tryz.ntmps29
  go_wp2_with (first|((with_reducible refine gd 2 ?_);refine bx 2 #[.bool false,.slice none 0 0,.int .i64 0] 24 (h:=?_);intro qk hg w7 hbox hb;have qa:=am hbox;have jq:=gW hg;have jo:=gW hg;replace HB:=bS hb;clear hb hbox hg)|(refine gL (some 8) Tryz.func84 #[.int .u64 (IntKind.u64.wrap (a0))] (h:=?_);(with_reducible refine (Za9.calls k (IntKind.u64.wrap (a0)) qe _ A2.o).mono ?_);rintro e w8 ⟨ju,rfl,ho0,hb⟩;refine ⟨_,rfl,?_⟩;have qc:=am (Kd.Zt ho0 (Zb pB));replace qa:=bb qa hb;replace HB:=bS hb;obtain ⟨Ao9,co9,eo9⟩:=Kd.Zm qc.o;subst eo9)|((with_reducible refine gd 3 ?_);refine bx 3 #[.bool false,.slice none 0 0,.int .i64 0] 30 (h:=?_);intro qd hg w10 hbox hb;have qb:=am hbox;have jr:=gW hg;have jp:=gW hg;have qh:=nL hg qa;have qo:=nG hg qa;replace qc:=rbl qc hb;replace qa:=bb qa hb;replace HB:=bS hb;clear hb hbox hg;have j3:=qo.o;have j9:=qh.o;obtain ⟨_,_,_,_,_,_⟩:=cEc qb.o)|(refine gL (some 16) Tryz.func84 #[.int .u64 (IntKind.u64.wrap (wrap64 (-(wrap64 (a0+1)))))] (h:=?_);(with_reducible refine (Za9.calls k (IntKind.u64.wrap (wrap64 (-(wrap64 (a0+1))))) ql _ A4.o).mono ?_);rintro e w13 ⟨qaf,rfl,ho0,hb⟩;refine ⟨_,rfl,?_⟩;have qg:=am (Kd.Zt (Kd.Zaj ho0 (Kd.R_lt (Kd.Zc (z3 qc.o qb.o (by decide) (.bool false) (.slice Ao9 qe.length co9) (.int .i64 0)) pl))) (Zb pB));replace qc:=am (Kd.Zbu (Kd.Zc (z3 qc.o qb.o (by decide) (.bool false) (.slice Ao9 qe.length co9) (.int .i64 0)) pl) (Kd.Zbh ho0) hb);replace qa:=bfb qh qa hb;replace qb:=am (Za (g:=qd) (o:=.cells #[.bool false,.slice Ao9 qe.length co9,.int .i64 0] 30 (0,0)) (by exact p3 qb) hb);replace HB:=bS hb)|((with_reducible refine gd 17 ?_);refine Kd.Zgi (Kd.int .i64) _ 3 ?hg (N:=17) ?hd (xs:=([1]:List Int)) (inner:=[.int .i64 1]) (ok:=fun _=>True) (okp:=fun _=>True) ?hr ?hp (fun _ hk=>hk) trivial (Below.refl _ _) (Nat.le_refl _) (by simp) ?_;(case hd=>rfl);(case hg=>rfl);(case hr=>first|(go_simp;done)|(go_simp;rfl));(case hp=>exact (Reps.one (show Kd.M (Kd.int .i64) _ _ _ 1 [.int .i64 1] from rfl) (Reps.none _ _)));intro qag w14 ho15 hb hg_ hnew_;clear hg_ hnew_;(first|rw [<- jj.out] at ho15|(simp only [Int.reduceToNat] at ho15;rw [<- jj.out] at ho15));have qi:=am (Kd.Zt (Kd.Zaj (Kd.Zaj ho15 (Kd.R_lt (Kd.Zc qc.o pl))) (Kd.R_lt (Kd.Zc qg.o pl))) (Zb pB));replace qc:=reR qc ho15 hb;replace qg:=reR qg ho15 hb;replace qa:=bb qa hb;replace qb:=bb qb hb;replace HB:=bS hb;clear hb ho15;obtain ⟨q6,q9,jx⟩:=Kd.Zm qg.o;subst jx;obtain ⟨q7,ja,jy⟩:=Kd.Zm qi.o;subst jy)|(refine gL (some 18) Tryz.func85 #[.slice q6 ql.length q9,.slice q7 qp.length ja] (h:=?_);(with_reducible refine (Zs.calls k _ _ ql _ _ qp qf _ ?side1 ?side2 ?side3 ?side4 A5.o).mono ?_);(case side1=>exact Kd.Zv (Kd.Zf qg.o).2.2 pl);(case side2=>exact (Kd.Zf qg.o).2.1);(case side3=>exact Kd.Zv (Kd.Zf qi.o).2.2 pl);(case side4=>exact (Kd.Zf qi.o).2.1);rintro e w18 ⟨qah,rfl,ho0,hb⟩;refine ⟨_,rfl,?_⟩;have qq:=am (Kd.Zt (Kd.Zaj (Kd.Zaj (Kd.Zaj ho0 (Kd.R_lt (Kd.Zc qc.o pl))) (Kd.R_lt (Kd.Zc qg.o pl))) (Kd.R_lt (Kd.Zc qi.o pl))) (Zb pB));replace qc:=reR qc ho0 hb;replace qg:=reR qg ho0 hb;replace qi:=reR qi ho0 hb;replace qa:=bb qa hb;replace qb:=bb qb hb;replace HB:=bS hb;obtain ⟨qs,qt,jz⟩:=Kd.Zm qq.o;subst jz;obtain ⟨_,_,_,_,_,_⟩:=cEc qb.o)|((with_reducible refine Zcv (t:=30) (p:=3) rfl ?_);refine Zcj (t:=30) (p:=3) (v:=?vo_w21) (w1:=(((w18.setCell ⟨qd,0,none⟩ (.bool true)).setCell ⟨qd,1,none⟩ (.slice qs qf.length qt)).setCell ⟨qd,2,none⟩ (.int .i64 0))) ?hg ?ho ?hn ?hr ?_;(case ho=>rfl);(case hg=>rfl);(case hn=>rfl);(case hr=>first|(go_simp;done)|(go_simp;rfl));intro w21 hw;replace qc:Aside0 (Kd.R (Kd.int .i64) 3 w21 w.heap.size (fun k_=>some k_ ≠ (.slice q6 ql.length q9:Value).ownBlock/\some k_ ≠ (.slice q7 qp.length ja:Value).ownBlock/\some k_ ≠ (.slice qs qf.length qt:Value).ownBlock) (.slice Ao9 qe.length co9) qe):=⟨(by rw [hw];exact (Kd.Zc (Kd.Zi (Kd.Zj (p:=⟨qd,2,none⟩) (Kd.Zj (p:=⟨qd,1,none⟩) (Kd.Zj (p:=⟨qd,0,none⟩) (Kd.Zg qc.o qb.o (by decide)) (fun _ hk=>hk.2) (.bool true)) (fun _ hk=>hk.2) (.slice qs qf.length qt)) (fun _ hk=>hk.2) (.int .i64 0)) (fun _ hk=>⟨hk.1.1.1.2,⟨hk.1.1.2,hk.1.2⟩⟩)) pl))⟩;replace qg:Aside0 (Kd.R (Kd.int .i64) 3 w21 w.heap.size (fun k_=>some k_ ≠ (.slice Ao9 qe.length co9:Value).ownBlock/\some k_ ≠ (.slice q7 qp.length ja:Value).ownBlock/\some k_ ≠ (.slice qs qf.length qt:Value).ownBlock) (.slice q6 ql.length q9) ql):=⟨(by rw [hw];exact (Kd.Zc (Kd.Zi (Kd.Zj (p:=⟨qd,2,none⟩) (Kd.Zj (p:=⟨qd,1,none⟩) (Kd.Zj (p:=⟨qd,0,none⟩) (Kd.Zg qg.o qb.o (by decide)) (fun _ hk=>hk.2) (.bool true)) (fun _ hk=>hk.2) (.slice qs qf.length qt)) (fun _ hk=>hk.2) (.int .i64 0)) (fun _ hk=>⟨hk.1.1.1.2,⟨hk.1.1.2,hk.1.2⟩⟩)) pl))⟩;replace qi:Aside0 (Kd.R (Kd.int .i64) 3 w21 w.heap.size (fun k_=>some k_ ≠ (.slice Ao9 qe.length co9:Value).ownBlock/\some k_ ≠ (.slice q6 ql.length q9:Value).ownBlock/\some k_ ≠ (.slice qs qf.length qt:Value).ownBlock) (.slice q7 qp.length ja) qp):=⟨(by rw [hw];exact (Kd.Zc (Kd.Zi (Kd.Zj (p:=⟨qd,2,none⟩) (Kd.Zj (p:=⟨qd,1,none⟩) (Kd.Zj (p:=⟨qd,0,none⟩) (Kd.Zg qi.o qb.o (by decide)) (fun _ hk=>hk.2) (.bool true)) (fun _ hk=>hk.2) (.slice qs qf.length qt)) (fun _ hk=>hk.2) (.int .i64 0)) (fun _ hk=>⟨hk.1.1.1.2,⟨hk.1.1.2,hk.1.2⟩⟩)) pl))⟩;replace qq:Aside0 (Kd.R (Kd.int .i64) 3 w21 w.heap.size (fun k_=>some k_ ≠ (.slice Ao9 qe.length co9:Value).ownBlock/\some k_ ≠ (.slice q6 ql.length q9:Value).ownBlock/\some k_ ≠ (.slice q7 qp.length ja:Value).ownBlock) (.slice qs qf.length qt) qf):=⟨(by rw [hw];exact (Kd.Zc (Kd.Zi (Kd.Zj (p:=⟨qd,2,none⟩) (Kd.Zj (p:=⟨qd,1,none⟩) (Kd.Zj (p:=⟨qd,0,none⟩) (Kd.Zg qq.o qb.o (by decide)) (fun _ hk=>hk.2) (.bool true)) (fun _ hk=>hk.2) (.slice qs qf.length qt)) (fun _ hk=>hk.2) (.int .i64 0)) (fun _ hk=>⟨hk.1.1.1.2,⟨hk.1.1.2,hk.1.2⟩⟩)) pl))⟩;replace qa:Aside0 (w21.heap[qk]? = some (.cells #[.bool false,.slice none 0 0,.int .i64 0] 24 (0,0))):=⟨(by rw [hw];exact (bf qh.o qa.o))⟩;replace qb:Aside0 (w21.heap[qd]? = some (.cells #[.bool true,.slice qs qf.length qt,.int .i64 0] 30 (0,0))):=⟨(by rw [hw];exact (by exact p3 qb))⟩;replace HB:Aside0 (Below w.heap.size w w21):=⟨(by rw [hw];exact pB)⟩;clear hw;obtain ⟨_,_,_,_,_,_⟩:=cEc qb.o)|(refine gL (some 22) Tryz.func23 #[.agg #[.bool true,.slice qs qf.length qt,.int .i64 0]] (h:=?_);(with_reducible refine (Zl.calls k true (fun k_=>some k_=(.slice qs qf.length qt:Value).ownBlock) (.slice qs qf.length qt) qf 0 qu q4 jf js w _ ?side1 ?side2 A6.o).mono ?_);(case side1=>exact pB);(case side2=>exact Kd.Zbc rfl qq.o);rintro e w23 ⟨qai,rfl,ho0,hb,hkp⟩;refine ⟨_,rfl,?_⟩;have qw:=am (Kd.Zi (ok':=fun k_=>True) ho0 (fun k_ hk_=>trivial));replace qa:=am (Zan (Za qa.o pl) hkp (fun e_=>Kd.R_ne qq.o qa.o (by decide) e_));replace qc:=am (Kd.Zi (ok':=fun k_=>some k_ ≠ (.slice q6 ql.length q9:Value).ownBlock/\some k_ ≠ (.slice q7 qp.length ja:Value).ownBlock) (Kd.Zdj (qc.o) hkp (fun k_ hk_ hs_=>(hk_.2.2) hs_)) (fun k_ hk_=>⟨hk_.1.1,hk_.1.2.1⟩));replace qb:=am (Zan (Za qb.o pl) hkp (fun e_=>Kd.R_ne qq.o qb.o (by decide) e_));replace qg:=am (Kd.Zi (ok':=fun k_=>some k_ ≠ (.slice Ao9 qe.length co9:Value).ownBlock/\some k_ ≠ (.slice q7 qp.length ja:Value).ownBlock) (Kd.Zdj (qg.o) hkp (fun k_ hk_ hs_=>(hk_.2.2) hs_)) (fun k_ hk_=>⟨hk_.1.1,hk_.1.2.1⟩));replace qi:=am (Kd.Zi (ok':=fun k_=>some k_ ≠ (.slice Ao9 qe.length co9:Value).ownBlock/\some k_ ≠ (.slice q6 ql.length q9:Value).ownBlock) (Kd.Zdj (qi.o) hkp (fun k_ hk_ hs_=>(hk_.2.2) hs_)) (fun k_ hk_=>⟨hk_.1.1,hk_.1.2.1⟩));replace HB:=am hb;clear qq)|((with_reducible refine gd 4 ?_);refine bx 4 #[.bool false,.slice none 0 0,.int .i64 0] 24 (h:=?_);intro jc hg w24 hbox hb;have jh:=am hbox;have jv:=gW hg;have qm:=nL hg qa;have q0:=nG hg qa;have qy:=nL hg qb;have q1:=nG hg qb;replace qc:=rbl qc hb;replace qg:=rbl qg hb;replace qi:=rbl qi hb;replace qw:=rbl qw hb;replace qa:=bb qa hb;replace qb:=bb qb hb;replace HB:=bS hb;clear hb hbox hg;have j4:=q0.o;have qaa:=qm.o;have j5:=q1.o;have qab:=qy.o;obtain ⟨_,_,_,_,_,_⟩:=cEc jh.o;obtain ⟨jk,jm,j0⟩:=Kd.Zm qw.o;subst j0;obtain ⟨_,_,_,_,_,_⟩:=cEc qa.o))
  refine bodyPost_ret (results_cell_row rfl _ _ qk 24 #[.bool qu,.slice jk q4.length jm,.int .i64 jf] (0,0) _ rfl (by refine bp ?_;refine Zab (cs:=#[.bool qu,.slice jk q4.length jm,.int .i64 0]) ?_ 2 _ rfl;refine bp ?_;refine Zab (cs:=#[.bool qu,.slice none 0 0,.int .i64 0]) ?_ 1 _ rfl;refine bp ?_;refine Zab (cs:=#[.bool false,.slice none 0 0,.int .i64 0]) ?_ 0 _ rfl;refine bq ?_ qm;refine bq ?_ qm;refine bq ?_ qm;exact bp qa.o) Tryz.underlying24 rfl (by kernel_rfl)) rfl ?_
  exact ⟨_,pE,by refine rp ?_;exact Kd.Zi (Kd.Zj (p:=⟨qk,2,none⟩) (Kd.Zj (p:=⟨qk,1,none⟩) (Kd.Zj (p:=⟨qk,0,none⟩) (Kd.Zj (p:=⟨jc,2,none⟩) (Kd.Zj (p:=⟨jc,1,none⟩) (Kd.Zj (p:=⟨jc,0,none⟩) (Kd.Zg (Kd.Zg qw.o jh.o (by decide)) qa.o (by decide)) (fun _ hk=>hk.1.2) (.bool qu)) (fun _ hk=>hk.1.2) (.slice jk q4.length jm)) (fun _ hk=>hk.1.2) (.int .i64 jf)) (fun _ hk=>hk.2) (.bool qu)) (fun _ hk=>hk.2) (.slice jk q4.length jm)) (fun _ hk=>hk.2) (.int .i64 jf)) (fun _ hk=>trivial),pB⟩
 ·replace H:=ob H
  obtain ⟨⟨qv,q5,jg,jt⟩,A30,H⟩:=H;(try dsimp only at H)
  simp only [Option.some.injEq,Prod.mk.injEq] at H
  obtain ⟨rfl,rfl,rfl⟩:=H
  go_enter Tryz.func29,Tryz.ntmps29
  go_wp2_with (first|((with_reducible refine gd 2 ?_);refine bx 2 #[.bool false,.slice none 0 0,.int .i64 0] 24 (h:=?_);intro qk hg w31 hbox hb;have qa:=am hbox;have jq:=gW hg;have jo:=gW hg;replace HB:=bS hb;clear hb hbox hg)|(refine gL (some 8) Tryz.func84 #[.int .u64 (IntKind.u64.wrap (a0))] (h:=?_);(with_reducible refine (Za9.calls k (IntKind.u64.wrap (a0)) qe _ A2.o).mono ?_);rintro e w32 ⟨ju,rfl,ho0,hb⟩;refine ⟨_,rfl,?_⟩;have qc:=am (Kd.Zt ho0 (Zb pB));replace qa:=bb qa hb;replace HB:=bS hb;obtain ⟨q8,jb,j1⟩:=Kd.Zm qc.o;subst j1)|((with_reducible refine gd 3 ?_);refine bx 3 #[.bool false,.slice none 0 0,.int .i64 0] 30 (h:=?_);intro qd hg w34 hbox hb;have qb:=am hbox;have jr:=gW hg;have jp:=gW hg;have qh:=nL hg qa;have qo:=nG hg qa;replace qc:=rbl qc hb;replace qa:=bb qa hb;replace HB:=bS hb;clear hb hbox hg;have j6:=qo.o;have qac:=qh.o;obtain ⟨_,_,_,_,_,_⟩:=cEc qb.o)|((with_reducible refine Zcv (t:=30) (p:=3) rfl ?_);refine Zcj (t:=30) (p:=3) (v:=?vo_w37) (w1:=(((w34.setCell ⟨qd,0,none⟩ (.bool false)).setCell ⟨qd,1,none⟩ (.slice q8 qe.length jb)).setCell ⟨qd,2,none⟩ (.int .i64 0))) ?hg ?ho ?hn ?hr ?_;(case ho=>rfl);(case hg=>rfl);(case hn=>rfl);(case hr=>first|(go_simp;done)|(go_simp;rfl));intro w37 hw;replace qc:Aside0 (Kd.R (Kd.int .i64) 3 w37 w.heap.size (fun _=>True) (.slice q8 qe.length jb) qe):=⟨(by rw [hw];exact (Kd.Zc (Kd.Zi (Kd.Zj (p:=⟨qd,2,none⟩) (Kd.Zj (p:=⟨qd,1,none⟩) (Kd.Zj (p:=⟨qd,0,none⟩) (Kd.Zg qc.o qb.o (by decide)) (fun _ hk=>hk.2) (.bool false)) (fun _ hk=>hk.2) (.slice q8 qe.length jb)) (fun _ hk=>hk.2) (.int .i64 0)) (fun _ hk=>trivial)) pl))⟩;replace qa:Aside0 (w37.heap[qk]? = some (.cells #[.bool false,.slice none 0 0,.int .i64 0] 24 (0,0))):=⟨(by rw [hw];exact (bf qh.o qa.o))⟩;replace qb:Aside0 (w37.heap[qd]? = some (.cells #[.bool false,.slice q8 qe.length jb,.int .i64 0] 30 (0,0))):=⟨(by rw [hw];exact (by exact p3 qb))⟩;replace HB:Aside0 (Below w.heap.size w w37):=⟨(by rw [hw];exact pB)⟩;clear hw;obtain ⟨_,_,_,_,_,_⟩:=cEc qb.o)|(refine gL (some 22) Tryz.func23 #[.agg #[.bool false,.slice q8 qe.length jb,.int .i64 0]] (h:=?_);(with_reducible refine (Zl.calls k false (fun k_=>some k_=(.slice q8 qe.length jb:Value).ownBlock) (.slice q8 qe.length jb) qe 0 qv q5 jg jt w _ ?side1 ?side2 A30.o).mono ?_);(case side1=>exact pB);(case side2=>exact Kd.Zbc rfl qc.o);rintro e w39 ⟨qaj,rfl,ho0,hb,hkp⟩;refine ⟨_,rfl,?_⟩;have qx:=am (Kd.Zi (ok':=fun k_=>True) ho0 (fun k_ hk_=>trivial));replace qa:=am (Zan (Za qa.o pl) hkp (fun e_=>Kd.R_ne qc.o qa.o (by decide) e_));replace qb:=am (Zan (Za qb.o pl) hkp (fun e_=>Kd.R_ne qc.o qb.o (by decide) e_));replace HB:=am hb;clear qc)|((with_reducible refine gd 4 ?_);refine bx 4 #[.bool false,.slice none 0 0,.int .i64 0] 24 (h:=?_);intro jd hg w40 hbox hb;have ji:=am hbox;have jw:=gW hg;have qn:=nL hg qa;have q2:=nG hg qa;have qz:=nL hg qb;have q3:=nG hg qb;replace qx:=rbl qx hb;replace qa:=bb qa hb;replace qb:=bb qb hb;replace HB:=bS hb;clear hb hbox hg;have j7:=q2.o;have qad:=qn.o;have j8:=q3.o;have qae:=qz.o;obtain ⟨_,_,_,_,_,_⟩:=cEc ji.o;obtain ⟨jl,jn,j2⟩:=Kd.Zm qx.o;subst j2;obtain ⟨_,_,_,_,_,_⟩:=cEc qa.o))
  refine bodyPost_ret (results_cell_row rfl _ _ qk 24 #[.bool qv,.slice jl q5.length jn,.int .i64 jg] (0,0) _ rfl (by refine bp ?_;refine Zab (cs:=#[.bool qv,.slice jl q5.length jn,.int .i64 0]) ?_ 2 _ rfl;refine bp ?_;refine Zab (cs:=#[.bool qv,.slice none 0 0,.int .i64 0]) ?_ 1 _ rfl;refine bp ?_;refine Zab (cs:=#[.bool false,.slice none 0 0,.int .i64 0]) ?_ 0 _ rfl;refine bq ?_ qn;refine bq ?_ qn;refine bq ?_ qn;exact bp qa.o) Tryz.underlying24 rfl (by kernel_rfl)) rfl ?_
  exact ⟨_,pE,by refine rp ?_;exact Kd.Zi (Kd.Zj (p:=⟨qk,2,none⟩) (Kd.Zj (p:=⟨qk,1,none⟩) (Kd.Zj (p:=⟨qk,0,none⟩) (Kd.Zj (p:=⟨jd,2,none⟩) (Kd.Zj (p:=⟨jd,1,none⟩) (Kd.Zj (p:=⟨jd,0,none⟩) (Kd.Zg (Kd.Zg qx.o ji.o (by decide)) qa.o (by decide)) (fun _ hk=>hk.1.2) (.bool qv)) (fun _ hk=>hk.1.2) (.slice jl q5.length jn)) (fun _ hk=>hk.1.2) (.int .i64 jg)) (fun _ hk=>hk.2) (.bool qv)) (fun _ hk=>hk.2) (.slice jl q5.length jn)) (fun _ hk=>hk.2) (.int .i64 jg)) (fun _ hk=>trivial),pB⟩
end YtjbjkmccfocikaaGreatDoor.B
end
section
namespace YtjbjkmccfocikaaGreatDoor.P
open Go.RowKit YtjbjkmccfocikaaGreatDoor.B YtjbjkmccfocikaaGreatDoorW.PrintWords YtjbjkmccfocikaaGreatDoorW.PrintLast YtjbjkmccfocikaaGreatDoorW.PrintMore YtjbjkmccfocikaaGreatDoor.P.Nm
def okB (a:Dm):Bool:=if a.n=0 then (!a.neg && decide (a.e=0)) else (decide (a.n % 10 ≠ 0) && (decide (nd a.n<=300) && (decide (-1000<=a.e) && decide (a.e<=1000))))
theorem Zod {a:Dm}:okB a=true ↔ OkD a:=by
 obtain ⟨s,n,e⟩:=a
 unfold okB
 by_cases h:n=0
 ·subst h
  simp only [if_true]
  constructor
  ·intro h
   simp only [Bool.and_eq_true,Bool.not_eq_true',decide_eq_true_eq] at h
   obtain ⟨rfl,rfl⟩:=h
   exact OkD.zeroD
  ·intro h
   have := h.zero rfl
   unfold zeroD at this
   injection this with h1 h2 h3
   simp [h1,h3]
 ·simp only [if_neg h,Bool.and_eq_true,decide_eq_true_eq]
  constructor
  ·intro ⟨h1,h2,h3,h4⟩
   exact ⟨fun e=>absurd e h,fun _=>h1,h2,h3,h4⟩
  ·intro h1
   exact ⟨h1.last h,h1.len,h1.low,h1.high⟩
def chk (a:Bool) (l:List Int) (e:Int):Int:=if chkL l=0/\l.length<=40/\okB ⟨a,num l,e⟩=true then 0 else 9
theorem Zii {n k:Nat} (h:nd n<=9*k):(limbs n).length<=k:=by
 refine Zep (Nat.lt_of_lt_of_le (Zj2 n) ?_)
 refine Nat.le_trans (Nat.pow_le_pow_right (by omega) h) ?_
 rw [Nat.pow_mul]
 exact Nat.pow_le_pow_left (by decide) _
theorem Zd9 {a:Dm} (h:OkD a):(limbs a.n).length<=34:=Zii (by have := h.len;omega)
theorem Zif {a:Dm} (h:OkD a):chk a.neg (limbs a.n) a.e=0:=by
 have h1:=Zd9 h
 unfold chk
 rw [if_pos ⟨Zjs (by omega),by omega,by rw [Zce];exact Zod.2 h⟩]
theorem Zfr {a:Bool} {l:List Int} {e:Int} (hd:Dg 4294967296 l) (h:chk a l e=0):∃ D:Dm,OkD D/\a=D.neg/\l=limbs D.n/\e=D.e:=by
 unfold chk at h
 by_cases hc:chkL l=0/\l.length<=40/\okB ⟨a,num l,e⟩=true
 ·obtain ⟨h1,h2,h3⟩:=hc
  exact ⟨⟨a,num l,e⟩,Zod.1 h3,rfl,(Zj0 ((Zkk hd).1 h1)).symm,rfl⟩
 ·rw [if_neg hc] at h;cases h
theorem Zp8 (a:Bool) (l:List Int) (e:Int):chk a l e=0\/chk a l e=9:=by unfold chk;split <;> simp
abbrev outD (p:Dm × Int):Bool × List Int × Int × Int:=(p.1.neg,limbs p.1.n,p.1.e,p.2)
theorem Zji (a:Bool) (l:List Int) (e:Int) (hd:Dg 4294967296 l) (hl:l.length<=90000):Tells (fun k=>Zq.f k a l e) (a,digs (num l),e):=by
 unfold Zq.f
 exact (Zgw l hd hl).bind (Tells.pure _)
theorem ROf (D:Dm) (h:nd D.n<=90000):Tells (fun k=>Zq.f k D.neg (limbs D.n) D.e) (D.neg,digs D.n,D.e):=by
 have := Zji D.neg (limbs D.n) D.e (Zcx _) (Nat.le_trans (Zd8 _) h)
 rw [Zce] at this
 exact this
theorem Zlk {n:Nat} (h:n ≠ 0):(digs n).getD 0 0=((n % 10:Nat):Int):=by rw [Zd3 h];rfl
theorem Zm1 (s:Bool):∀ (f n:Nat) (e:Int),n<=f->n ≠ 0->nd n<=100000 -> -1000000000<=e->e+nd n<=1000000000->Tells (fun k=>Zl.l0 k (digs n) s [] e) (outD (settleD ⟨s,n,e⟩))
 | 0,n,e,hf,h0,hn,he1,he2=>by omega
 | f+1,n,e,hf,h0,hn,he1,he2=>by
  have hpos:=Zik h0
  have hlen:(digs n).length=nd n:=rfl
  refine Tells.succ ?_
  simp only [Zl.l0]
  rw [show (0:Int)=((0:Nat):Int) from rfl,rd_n,Zlk h0]
  refine Tells.ifp (by omega) ?_
  by_cases hz:n % 10=0
  ·have hne:n / 10 ≠ 0:=by omega
   have hnd:nd n=nd (n / 10)+1:=by
    show (digs n).length=_
    rw [Zd3 h0];rfl
   have ih:=Zm1 s f (n / 10) (e+1) (by omega) hne (by omega) (by omega) (by omega)
   have hs:=Zka s (n / 10) (e+1) 1
   rw [show n / 10*10 ^ 1=n by omega,show e+1 - ((1:Nat):Int)=e by omega] at hs
   rw [hs]
   refine Tells.ifp (by omega) (Tells.ifp (by omega) ?_)
   rw [w64n (by omega) (by omega),Zd3 h0]
   exact ih
  ·obtain ⟨hc,ht⟩:=Zjw hz
   unfold settleD
   simp only [hc,ht]
   rw [if_neg h0,show e+((0:Nat):Int)=e by omega]
   refine Tells.ifn (by omega) ?_
   by_cases h3:300 < nd n
   ·rw [if_pos h3]
    exact Tells.ifp (by omega) (Tells.pure _)
   ·rw [if_neg h3]
    refine Tells.ifn (by omega) ?_
    by_cases h4:e < -1000
    ·rw [if_pos (.inl h4)]
     exact Tells.ifp h4 (Tells.pure _)
    ·refine Tells.ifn h4 ?_
     by_cases h5:1000 < e
     ·rw [if_pos (.inr h5)]
      exact Tells.ifp h5 (Tells.pure _)
     ·rw [if_neg (by omega)]
      exact Tells.ifn h5 ((Zke n (by omega)).bind (Tells.pure _))
theorem Zl7 (s:Bool) (L:List Int) (n:Nat) (e:Int) (hd:Dg 10 L) (hv:val 10 L=n) (hl:L.length<=100000) (he1 : -1000000000<=e) (he2:e<=900000000):Tells (fun k=>Zl.f k s L e) (outD (settleD ⟨s,n,e⟩)):=by
 have ht:=Zgk L (by omega)
 rw [Zf1 hd hv] at ht
 have hnd:nd n<=100000:=by
  have := Zpz L
  rw [Zf1 hd hv] at this
  exact Nat.le_trans this hl
 unfold Zl.f
 refine ht.bind ?_
 by_cases h0:n=0
 ·subst h0
  exact Tells.ifp rfl (Tells.pure _)
 ·have hpos:0 < (digs n).length:=Zik h0
  exact Tells.ifn (by omega) (Zm1 s n n e (Nat.le_refl _) h0 hnd he1 (by omega))
theorem Made (s:Bool) (n:Nat) (e:Int) (hn:nd n<=100000) (he1 : -1000000000<=e) (he2:e<=900000000):Tells (fun k=>Zl.f k s (digs n) e) (outD (settleD ⟨s,n,e⟩)) :=
 Zl7 s _ n e (Zc7 n) (Zcl n) hn he1 he2
theorem Zdx (a:Bool) (l:List Int) (e:Int) (hd:Dg 4294967296 l) (hl:l.length<=9223372036854775807):Tells (fun k=>Zn.f k a l e) (chk a l e):=by
 unfold Zn.f
 rw [Zip l hl]
 refine (Tells.pure _).bind ?_
 have bad:chk a l e=9->Tells (fun k=>Zn.j0 k true a l e) (chk a l e):=fun h=>by
  rw [h]
  refine Tells.succ ?_
  simp only [Zn.j0]
  exact Tells.ifp trivial (Tells.pure _)
 by_cases hc:chkL l=0
 ·refine Tells.ifp hc ?_
  by_cases h40:l.length<=40
  ·rw [decide_eq_false (show ¬ ((l.length:Int) > 40) by omega)]
   have hof:=Zji a l e hd (by omega)
   obtain ⟨n,hn⟩:∃ n,num l=n:=⟨_,rfl⟩
   have hchk:chk a l e=if okB ⟨a,n,e⟩=true then 0 else 9:=by
    unfold chk
    rw [hn]
    by_cases h:okB ⟨a,n,e⟩=true
    ·rw [if_pos ⟨hc,h40,h⟩,if_pos h]
    ·rw [if_neg (fun q=>h q.2.2),if_neg h]
   rw [hchk]
   rw [hn] at hof
   unfold okB
   simp only
   have hlen:(digs n).length=nd n:=rfl
   refine Tells.succ ?_
   simp only [Zn.j0]
   refine Tells.ifn (by simp) (hof.bind ?_)
   dsimp only
   by_cases h0:n=0
   ·subst h0
    rw [if_pos rfl]
    refine Tells.ifp rfl ?_
    have j1:∀ b:Bool,Tells (fun k=>Zn.j1 k b) (if b=true then 9 else 0):=fun b=>by
     refine Tells.succ ?_
     simp only [Zn.j1]
     cases b
     ·exact Tells.ifn (by simp) (Tells.pure _)
     ·exact Tells.ifp rfl (Tells.pure _)
    cases a
    ·refine Tells.ifn (by simp) ((j1 _).val ?_)
     by_cases he:e=0
     ·subst he;rfl
     ·simp [he]
    ·exact Tells.ifp rfl ((j1 true).val rfl)
   ·have hpos:=Zik h0
    rw [if_neg h0]
    refine Tells.ifn (by omega) (Tells.ifp (by omega) ?_)
    rw [show (0:Int)=((0:Nat):Int) from rfl,rd_n,Zlk h0]
    by_cases hz:n % 10=0
    ·rw [decide_eq_false (not_not_intro hz)]
     exact Tells.ifp (by omega) (Tells.pure _)
    ·rw [decide_eq_true hz]
     refine Tells.ifn (by omega) ?_
     by_cases h3:nd n<=300
     ·rw [decide_eq_true h3]
      refine Tells.ifn (by omega) ?_
      by_cases h4:e < -1000
      ·rw [decide_eq_false (show ¬ (-1000<=e) by omega)]
       exact Tells.ifp h4 (Tells.pure _)
      ·rw [decide_eq_true (show -1000<=e by omega)]
       refine Tells.ifn h4 ?_
       by_cases h5:1000 < e
       ·rw [decide_eq_false (show ¬ (e<=1000) by omega)]
        exact Tells.ifp h5 (Tells.pure _)
       ·rw [decide_eq_true (show e<=1000 by omega)]
        exact Tells.ifn h5 (Tells.pure _)
     ·rw [decide_eq_false h3]
      exact Tells.ifp (by omega) (Tells.pure _)
  ·rw [decide_eq_true (show ((l.length:Int) > 40) by omega)]
   exact bad (by unfold chk;rw [if_neg (fun q=>h40 q.2.1)])
 ·exact Tells.ifn hc (bad (by unfold chk;rw [if_neg (fun q=>hc q.1)]))
theorem RCheck (D:Dm) (h:OkD D):Tells (fun k=>Zn.f k D.neg (limbs D.n) D.e) 0:=by
 have h1:=Zd9 h
 have := Zdx D.neg (limbs D.n) D.e (Zcx _) (by omega)
 rw [Zif h] at this
 exact this
theorem Zd0 (a:Bool) (l:List Int) (e:Int) (b:Bool) (m:List Int) (g:Int) (hd:Dg 4294967296 l) (hl:l.length<=9223372036854775807) (hd2:Dg 4294967296 m) (hl2:m.length<=9223372036854775807):Tells (fun k=>Zap.f k a l e b m g) (if chk a l e=0/\chk b m g=0 then 0 else 9):=by
 unfold Zap.f
 refine (Zdx a l e hd hl).bind ?_
 by_cases h:chk a l e=0
 ·refine Tells.ifp h ((Zdx b m g hd2 hl2).bind ?_)
  by_cases h2:chk b m g=0
  ·exact Tells.ifp h2 ((Tells.pure _).val (by rw [if_pos ⟨h,h2⟩]))
  ·exact Tells.ifn h2 ((Tells.pure _).val (by rw [if_neg (fun q=>h2 q.2)]))
 ·exact Tells.ifn h ((Tells.pure _).val (by rw [if_neg (fun q=>h q.1)]))
theorem Rchecks (D E:Dm) (hD:OkD D) (hE:OkD E):Tells (fun k=>Zap.f k D.neg (limbs D.n) D.e E.neg (limbs E.n) E.e) 0:=by
 have h1:=Zd9 hD
 have h2:=Zd9 hE
 have := Zd0 D.neg (limbs D.n) D.e E.neg (limbs E.n) E.e (Zcx _) (by omega) (Zcx _) (by omega)
 rw [if_pos ⟨Zif hD,Zif hE⟩] at this
 exact this
theorem Znh (a:Bool) (l:List Int) (e:Int) (b:Bool) (m:List Int) (g:Int) (hl:l.length=m.length) (hz:l.length < 9223372036854775807):∀ (d i:Nat),l.length - i=d->i<=l.length->l.take i=m.take i->Tells (fun k=>Zo.l0 k (i:Int) a l e b m g) (decide (l=m))
 | 0,i,hd,hi,h=>by
  obtain rfl:i=l.length:=by omega
  refine Tells.succ ?_
  simp only [Zo.l0]
  refine Tells.ifn (by omega) ((Tells.pure _).val ?_)
  rw [List.take_length,hl,List.take_length] at h
  rw [decide_eq_true h]
 | d+1,i,hd,hi,h=>by
  have hil:i < l.length:=by omega
  refine Tells.succ ?_
  simp only [Zo.l0]
  rw [rd_n,rd_n,w64s (by omega)]
  refine Tells.ifp (by omega) (Tells.ifp (by omega) (Tells.ifp (by omega) ?_))
  by_cases hx:l.getD i 0=m.getD i 0
  ·exact Tells.ifp hx (Znh a l e b m g hl hz d (i+1) (by omega) (by omega) (by rw [Zhw hil,Zhw (by omega),h,hx]))
  ·exact Tells.ifn hx ((Tells.pure _).val (by rw [decide_eq_false (fun q=>hx (by rw [q]))]))
def sameB (a:Bool) (l:List Int) (e:Int) (b:Bool) (m:List Int) (g:Int):Bool:=decide (a=b) && (decide (e=g) && decide (l=m))
theorem Zj8 {a:Bool} {l:List Int} {e:Int} {b:Bool} {m:List Int} {g:Int}:sameB a l e b m g=true ↔ a=b/\l=m/\e=g:=by
 unfold sameB
 simp only [Bool.and_eq_true,decide_eq_true_eq]
 exact ⟨fun ⟨h1,h2,h3⟩=>⟨h1,h3,h2⟩,fun ⟨h1,h2,h3⟩=>⟨h1,h3,h2⟩⟩
theorem Zic (a:Bool) (l:List Int) (e:Int) (b:Bool) (m:List Int) (g:Int) (hz:l.length < 9223372036854775807):Tells (fun k=>Zo.f k a l e b m g) (sameB a l e b m g):=by
 have no:Tells (fun k=>Zo.j0 k true a l e b m g) false:=by
  refine Tells.succ ?_
  simp only [Zo.j0]
  exact Tells.ifp trivial (Tells.pure _)
 unfold Zo.f sameB
 by_cases h1:a=b
 ·subst h1
  rw [decide_eq_true rfl]
  refine Tells.ifn (by simp) ?_
  by_cases h2:e=g
  ·subst h2
   rw [decide_eq_true rfl]
   refine Tells.ifp rfl ?_
   by_cases h3:l.length=m.length
   ·refine Tells.succ ?_
    simp only [Zo.j0]
    have h:=Znh a l e a m e h3 hz l.length 0 (by omega) (by omega) rfl
    exact Tells.ifn (by rw [h3];simp) (h.val (by simp))
   ·have e1:((l.length:Int) != (m.length:Int))=true:=bne_iff_ne.2 (by omega)
    rw [e1]
    refine no.val ?_
    rw [decide_eq_false (fun q:l=m=>h3 (by rw [q]))];rfl
  ·exact Tells.ifn h2 (no.val (by rw [decide_eq_false h2];rfl))
 ·exact Tells.ifp (by simpa using h1) (no.val (by rw [decide_eq_false h1];rfl))
theorem Znz {m n:Nat} (h:limbs m=limbs n):m=n:=by rw [<- Zce m,h,Zce]
theorem Zrw (D E:Dm) (h:nd D.n<=1000000):Tells (fun k=>Zo.f k D.neg (limbs D.n) D.e E.neg (limbs E.n) E.e) (decide (D=E)):=by
 have hl:=Zd8 D.n
 refine (Zic D.neg (limbs D.n) D.e E.neg (limbs E.n) E.e (by omega)).val ?_
 rw [Bool.eq_iff_iff,Zj8,decide_eq_true_eq]
 constructor
 ·intro ⟨h1,h2,h3⟩
  obtain ⟨s,n,e⟩:=D
  obtain ⟨s',n',e'⟩:=E
  have := Znz h2
  simp only at *
  subst h1 h3 this;rfl
 ·intro h;rw [h];exact ⟨rfl,rfl,rfl⟩
theorem Zr6 (a b:Int):mn a b=min a b:=by unfold mn;omega
theorem Zqm (a b:Bool) (m n:Nat) (e g:Int) (hm:nd m<=100000) (hn:nd n<=100000) (he : -100000<=e/\e<=100000) (hg : -100000<=g/\g<=100000) :
  Zci.f a (digs m) e b (digs n) g=some (a,digs (m*10 ^ (e - min e g).toNat),min e g,b,digs (n*10 ^ (g - min e g).toNat),min e g):=by
 unfold Zci.f
 rw [Zr6]
 obtain ⟨x,hx⟩:∃ x:Nat,e - min e g=x:=⟨(e - min e g).toNat,by omega⟩
 obtain ⟨y,hy⟩:∃ y:Nat,g - min e g=y:=⟨(g - min e g).toNat,by omega⟩
 rw [hx,hy,w64c (by omega),w64c (by omega),Zft m x (by omega) (by omega),Option.bind_some,Zft n y (by omega) (by omega),Option.bind_some,Int.toNat_natCast,Int.toNat_natCast]
theorem Zdn (n k:Nat):nd (n*10 ^ k)<=nd n+k:=by
 by_cases h:n=0
 ·subst h;rw [Nat.zero_mul,Zn5];omega
 ·rw [Zls h];exact Nat.le_refl _
theorem Zhn {n:Nat}:(digs n).length=0 ↔ n=0:=⟨fun h=>Zll (List.eq_nil_of_length_eq_zero h),fun h=>by rw [h];rfl⟩
theorem Zhf (A B:Dm) (hm:nd A.n<=10000) (hn:nd B.n<=10000) (he : -10000<=A.e/\A.e<=10000) (hg : -10000<=B.e/\B.e<=10000) :
  Tells (fun k=>Zag.f k A.neg (digs A.n) A.e B.neg (digs B.n) B.e) ((plusD A B).neg,digs (plusD A B).n,(plusD A B).e):=by
 unfold Zag.f
 rw [Zqm A.neg B.neg A.n B.n A.e B.e (by omega) (by omega) (by omega) (by omega)]
 refine (Tells.pure _).bind ?_
 have hx:=Zdn A.n (A.e - min A.e B.e).toNat
 have hy:=Zdn B.n (B.e - min A.e B.e).toNat
 unfold plusD sumS
 simp only
 generalize A.n*10 ^ (A.e - min A.e B.e).toNat=x at *
 generalize B.n*10 ^ (B.e - min A.e B.e).toNat=y at *
 have hx':nd x<=100000:=by omega
 have hy':nd y<=100000:=by omega
 by_cases h:A.neg=B.neg
 ·rw [if_pos h]
  exact Tells.ifp (by rw [h];simp) ((Zh7 x y (by omega) (by omega)).bind (Tells.pure _))
 ·rw [if_neg h]
  refine Tells.ifn (by simpa using h) ((Zhb x y (by omega)).bind ?_)
  by_cases hlt:x < y
  ·rw [if_pos hlt]
   exact Tells.ifn (by unfold cmpN;rw [if_pos hlt];omega) ((Zha y x (by omega) (by omega)).bind (Tells.pure _))
  ·rw [if_neg hlt]
   exact Tells.ifp (by unfold cmpN;rw [if_neg hlt];split <;> omega) ((Zha x y (by omega) (by omega)).bind (Tells.pure _))
theorem Zrb (A:Dm):Za4.f A.neg (digs A.n) A.e=some ((negD A).neg,digs A.n,A.e):=by
 unfold Za4.f negD
 have hl:(digs A.n).length=0 ↔ A.n=0:=Zhn
 cases A.neg
 ·rw [if_neg (by simp)]
  congr 2
  simp only [Bool.not_false,Bool.true_and]
  by_cases h:A.n=0
  ·rw [decide_eq_false (not_not_intro h),decide_eq_false (by have := hl.2 h;omega)]
  ·rw [decide_eq_true h,decide_eq_true (by have:(digs A.n).length ≠ 0:=fun q=>h (hl.1 q);omega)]
 ·rw [if_pos rfl];rfl
theorem ROrder (D E:Dm) (hD:OkD D) (hE:OkD E):Tells (fun k=>Zat.f k D.neg (limbs D.n) D.e E.neg (limbs E.n) E.e) (cmpD D E):=by
 have d1:=hD.len;have d2:=hD.low;have d3:=hD.high
 have e1:=hE.len;have e2:=hE.low;have e3:=hE.high
 unfold Zat.f
 refine (ROf D (by omega)).bind ((ROf E (by omega)).bind ?_)
 dsimp only
 rw [Zrb E]
 refine (Tells.pure _).bind ?_
 refine (Zhf D (negD E) (by omega) (by show nd E.n<=_;omega) (by omega) (by show -10000<=E.e/\E.e<=10000;omega)).bind ?_
 unfold cmpD
 simp only
 have hl:(digs (plusD D (negD E)).n).length=0 ↔ (plusD D (negD E)).n=0:=Zhn
 by_cases h:(plusD D (negD E)).n=0
 ·rw [if_pos h]
  exact Tells.ifp (by have := hl.2 h;omega) (Tells.pure _)
 ·rw [if_neg h]
  refine Tells.ifn (by have:(digs (plusD D (negD E)).n).length ≠ 0:=fun q=>h (hl.1 q);omega) ?_
  cases (plusD D (negD E)).neg
  ·exact Tells.ifn (by simp) (Tells.pure _)
  ·exact Tells.ifp rfl (Tells.pure _)
theorem Zq8 (s t:Bool) (x y k:Nat) (hx:nd x<=k) (hy:nd y<=k):nd (sumS s t x y).2<=k+1:=by
 have h1:=Zr7 x y
 have h2:=Zfx (Nat.sub_le x y)
 have h3:=Zfx (Nat.sub_le y x)
 unfold sumS
 split
 ·show nd (x+y)<=_;omega
 ·split
  ·show nd (y - x)<=_;omega
  ·show nd (x - y)<=_;omega
theorem Zg6 {A B:Dm} (hA:OkD A) (hB:OkD B):nd (plusD A B).n<=2301:=by
 have d1:=hA.len;have d2:=hA.low;have d3:=hA.high
 have e1:=hB.len;have e2:=hB.low;have e3:=hB.high
 have hx:=Zdn A.n (A.e - min A.e B.e).toNat
 have hy:=Zdn B.n (B.e - min A.e B.e).toNat
 exact Zq8 _ _ _ _ 2300 (by omega) (by omega)
theorem Zja {A B:Dm} (hA:OkD A) (hB:OkD B) : -1000<=(plusD A B).e/\(plusD A B).e<=1000:=by
 have d2:=hA.low;have d3:=hA.high
 have e2:=hB.low;have e3:=hB.high
 rw [Zre];omega
theorem RCompare (D E:Dm) (hD:OkD D) (hE:OkD E):Tells (fun k=>Zbp.f k D.neg (limbs D.n) D.e E.neg (limbs E.n) E.e) (cmpD D E,0):=by
 unfold Zbp.f
 exact (Rchecks D E hD hE).bind (Tells.ifp rfl ((ROrder D E hD hE).bind (Tells.pure _)))
theorem RAdd (D E:Dm) (hD:OkD D) (hE:OkD E):Tells (fun k=>Zaw.f k D.neg (limbs D.n) D.e E.neg (limbs E.n) E.e) (outD (addD D E)):=by
 have d1:=hD.len;have d2:=hD.low;have d3:=hD.high
 have e1:=hE.len;have e2:=hE.low;have e3:=hE.high
 have p1:=Zg6 hD hE
 have p2:=Zja hD hE
 unfold Zaw.f
 refine (Rchecks D E hD hE).bind (Tells.ifp rfl ((ROf D (by omega)).bind ((ROf E (by omega)).bind ?_)))
 dsimp only
 refine (Zhf D E (by omega) (by omega) (by omega) (by omega)).bind ?_
 exact (Made (plusD D E).neg (plusD D E).n (plusD D E).e (by omega) (by omega) (by omega)).bind (Tells.pure _)
theorem RSub (D E:Dm) (hD:OkD D) (hE:OkD E):Tells (fun k=>Zax.f k D.neg (limbs D.n) D.e E.neg (limbs E.n) E.e) (outD (subD D E)):=by
 have d1:=hD.len;have d2:=hD.low;have d3:=hD.high
 have hN:=Zho hE
 have e1:=hE.len;have e2:=hE.low;have e3:=hE.high
 have p1:=Zg6 hD hN
 have p2:=Zja hD hN
 unfold Zax.f
 refine (Rchecks D E hD hE).bind (Tells.ifp rfl ((ROf D (by omega)).bind ((ROf E (by omega)).bind ?_)))
 dsimp only
 rw [Zrb E]
 refine (Tells.pure _).bind ((Zhf D (negD E) (by omega) (by show nd E.n<=_;omega) (by omega) (by show -10000<=E.e/\E.e<=10000;omega)).bind ?_)
 exact (Made (plusD D (negD E)).neg (plusD D (negD E)).n (plusD D (negD E)).e (by omega) (by omega) (by omega)).bind (Tells.pure _)
theorem RMul (D E:Dm) (hD:OkD D) (hE:OkD E):Tells (fun k=>Zaf.f k D.neg (limbs D.n) D.e E.neg (limbs E.n) E.e) (outD (timesD D E)):=by
 have d1:=hD.len;have d2:=hD.low;have d3:=hD.high
 have e1:=hE.len;have e2:=hE.low;have e3:=hE.high
 have hm:=Zqd D.n E.n
 unfold Zaf.f
 refine (Rchecks D E hD hE).bind (Tells.ifp rfl ((ROf D (by omega)).bind ((ROf E (by omega)).bind ?_)))
 dsimp only
 rw [w64n (by omega) (by omega)]
 refine (Ziw D.n E.n (by omega) (by omega)).bind ?_
 exact (Made (D.neg != E.neg) (D.n*E.n) (D.e+E.e) (by omega) (by omega) (by omega)).bind (Tells.pure _)
theorem RNeg (D:Dm) (hD:OkD D):Tells (fun k=>Zbr.f k D.neg (limbs D.n) D.e) (outD (negD D,0)):=by
 have d1:=hD.len;have d2:=hD.low;have d3:=hD.high
 unfold Zbr.f
 refine (RCheck D hD).bind (Tells.ifp rfl ((ROf D (by omega)).bind ?_))
 dsimp only
 rw [Zrb D]
 refine (Tells.pure _).bind ?_
 have h:=Made (negD D).neg D.n D.e (by omega) (by omega) (by omega)
 have e:settleD ⟨(negD D).neg,D.n,D.e⟩=(negD D,0):=Zot (Zho hD)
 rw [e] at h
 exact h.bind (Tells.pure _)
def intD (n:Int):Dm:=(settleD ⟨decide (n < 0),n.natAbs,0⟩).1
theorem Zfe (n:Nat) (h:n < 18446744073709551616):Tells (fun k=>Za9.f k (n:Int)) (digs n):=by
 unfold Za9.f
 rw [Zjf n h]
 have hl:(limbs n).length<=2:=Zep (by simpa using h)
 have hD:=Zgw (limbs n) (Zcx n) (by omega)
 rw [Zce] at hD
 exact (Tells.pure _).bind (hD.bind (Tells.pure _))
theorem Zmi {n:Nat} (h:n<=18446744073709551616):nd n<=20:=Zgp (Nat.lt_of_le_of_lt h (by decide))
theorem Zl9 (n:Int) (h1 : -9223372036854775808<=n) (h2:n<=9223372036854775807):Tells (fun k=>Zc9.f k n) ((intD n).neg,limbs (intD n).n,(intD n).e):=by
 unfold Zc9.f intD
 obtain ⟨u,hu,hub⟩:∃ u:Nat,IntKind.u64.wrap n=(u:Int)/\u < 18446744073709551616:=⟨(n % 18446744073709551616).toNat,by simp [IntKind.wrap,IntKind.bits,IntKind.signed];omega,by omega⟩
 rw [hu]
 refine (Zfe u hub).bind ?_
 by_cases hn:n < 0
 ·obtain ⟨v,hv⟩:∃ v:Nat,n = -((v:Int)+1):=⟨(-n - 1).toNat,by omega⟩
  subst hv
  have e1:wrap64 (-((v:Int)+1)+1) = -(v:Int):=by rw [w64n (by omega) (by omega)];omega
  have e2:wrap64 (-(-(v:Int)))=(v:Int):=by rw [Int.neg_neg,w64c (by omega)]
  have e3:(-((v:Int)+1)).natAbs=v+1:=by omega
  have h1d:([1]:List Int)=digs 1:=rfl
  rw [e1,e2,u64n (by omega),e3,decide_eq_true hn,h1d]
  refine Tells.ifp hn ((Zfe v (by omega)).bind ?_)
  refine (Zh7 v 1 (Nat.le_trans (Zmi (by omega)) (by omega)) (Nat.le_trans (Zmi (by omega)) (by omega))).bind ?_
  exact (Made true (v+1) 0 (Nat.le_trans (Zmi (by omega)) (by omega)) (by omega) (by omega)).bind (Tells.pure _)
 ·obtain ⟨v,rfl⟩:=Int.eq_ofNat_of_zero_le (show 0<=n by omega)
  rw [u64n (by omega)] at hu
  obtain rfl:v=u:=by omega
  rw [decide_eq_false hn,Int.natAbs_natCast]
  exact Tells.ifn hn ((Made false v 0 (Nat.le_trans (Zmi (by omega)) (by omega)) (by omega) (by omega)).bind (Tells.pure _))
end YtjbjkmccfocikaaGreatDoor.P
end
section
namespace YtjbjkmccfocikaaGreatDoor.P
open Go.RowKit YtjbjkmccfocikaaGreatDoorW.PrintWords
def anyO {α:Type} (f:α->Option Bool):List α->Option Bool
 | []=>some false
 | x :: r=>(f x).bind fun t=>if t=true then some true else anyO f r
theorem Zjo {α:Type} {f:α->Option Bool} {x:α} {r:List α} {b:Bool} (h:anyO f (x :: r)=some b):∃ t,f x=some t/\((t=true->b=true)/\(t=false->anyO f r=some b)):=by
 simp only [anyO] at h
 obtain ⟨t,ht,h2⟩:=Option.bind_eq_some_iff.1 h
 refine ⟨t,ht,fun e=>?_,fun e=>?_⟩
 ·rw [if_pos e] at h2;exact (Option.some.inj h2).symm
 ·rw [if_neg (by simp [e])] at h2;exact h2
theorem Zlf {α:Type} {f:α->Option Bool} {b:Bool} (h:anyO f []=some b):b=false:=(Option.some.inj h).symm
theorem Zjp {α:Type} {f:α->Option Bool} (p:α->Bool):∀ l:List α,(∀ x ∈ l,f x=some (p x))->anyO f l=some (l.any p)
 | [],_=>rfl
 | x :: r,h=>by
  simp only [anyO]
  rw [h x List.mem_cons_self,Option.bind_some,List.any_cons]
  cases p x
  ·rw [if_neg (by simp),Bool.false_or];exact Zjp p r (fun y hy=>h y (List.mem_cons_of_mem _ hy))
  ·rw [if_pos rfl,Bool.true_or]
def IdxR (b:Bool) (e:Ending):Prop:=∃ i:Int,e=.returned (.int .i64 i)/\decide (0<=i)=b
theorem Zny {b:Bool} (h:b=true) (q:Nat):IdxR b (.returned (.int .i64 (q:Int))):=⟨q,rfl,by rw [h];simp⟩
theorem Zjy {b:Bool} (h:b=false):IdxR b (.returned (.int .i64 (-1))):=⟨-1,rfl,by rw [h];rfl⟩
theorem Zlm {α:Type} {l:List α} {q:Nat} {z:α} (h:q < l.length):l.drop q=l.getD q z :: l.drop (q+1):=by
 rw [List.getD,List.getElem?_eq_getElem h];exact List.drop_eq_getElem_cons h
theorem Zld {w:World} {a:Addr} {v:Value} (h:w.cell? a=some v):∃ b o,a=⟨b,o,none⟩:=by
 obtain ⟨b,o,s⟩:=a
 cases s with
 | none=>exact ⟨b,o,rfl⟩
 | some s =>
  unfold World.cell? at h
  split at h
  ·simp at h
  ·cases h
theorem Ziz (b o j:Nat):(⟨b,o,none⟩:Addr).add j=⟨b,o+j,none⟩:=by unfold Addr.add;split <;> simp_all
end YtjbjkmccfocikaaGreatDoor.P
end
section
namespace YtjbjkmccfocikaaGreatDoor.B
open Go.RowKit YtjbjkmccfocikaaGreatDoorW.PrintWords YtjbjkmccfocikaaGreatDoorW.PrintLast YtjbjkmccfocikaaGreatDoorW.PrintMore
attribute [local go_sem] Zb3 Zb5 Zcp Zcq Zbs Zbt Zb4 Zb6
def Zer.f (k:Nat) (l0:List Int):Option (List Int × Bool):=(Zc6.f k 10).bind fun qc=>((Zfw.f k l0 qc).bind fun qb=>(some (qb.1,((qb.2.1.length:Int) == 0))))
theorem Zer.calls (k:Nat) (A0:Option Addr) (c0:Nat) (l0:List Int) (r1:List Int) (r2:Bool) (w:World) (hr0:Kd.C (Kd.int .u32) w A0 l0.length l0) (hc0:l0.length<=c0) (h:Zer.f k l0=some (r1,r2)) :
  Calls Tryz.prog 109 #[.slice A0 l0.length c0] w fun e w' => ∃ v0_:Value,e=.returned (.tuple #[v0_,.bool r2])/\Kd.R (Kd.int .u32) 85 w' w.heap.size (fun _=>True) v0_ r1/\Below w.heap.size w w':=by
 have HR0:=am hr0
 have HC0:=am hc0
 clear hr0 hc0
 have HB:=am (Below.refl w.heap.size w)
 have H:((Zc6.f k 10).bind fun qc=>((Zfw.f k l0 qc).bind fun qb=>(some (qb.1,((qb.2.1.length:Int) == 0)))))=some (r1,r2):=h
 clear h
 obtain ⟨qc,A2,H⟩:=ob H
 obtain ⟨⟨qf,qg,qh⟩,A3,H⟩:=ob H;(try dsimp only at H)
 simp only [Option.some.injEq,Prod.mk.injEq] at H
 obtain ⟨rfl,rfl⟩:=H
 go_enter Tryz.func109,Tryz.ntmps109
 go_wp2_with (first|(refine gL (some 9) Tryz.func76 #[.int .u64 10] (h:=?_);(with_reducible refine (Zc6.calls k 10 qc _ A2.o).mono ?_);rintro e w4 ⟨qi,rfl,ho0,hb⟩;refine ⟨_,rfl,?_⟩;have qa:=am (Kd.Zt ho0 (Zb pB));replace HB:=bS hb;obtain ⟨Ao5,co5,eo5⟩:=Kd.Zm qa.o;subst eo5)|(refine gL (some 10) Tryz.func69 #[.slice A0 l0.length c0,.slice Ao5 qc.length co5] (h:=?_);(with_reducible refine (Zfw.calls k _ _ l0 _ _ qc qf qg qh _ ?side1 ?side2 ?side3 ?side4 A3.o).mono ?_);(case side1=>exact cB HR0 HB);(case side2=>exact HC0.o);(case side3=>exact Kd.Zv (Kd.Zf qa.o).2.2 pl);(case side4=>exact (Kd.Zf qa.o).2.1);rintro e w6 ⟨qj,qk,rfl,ho0,ho1,hb⟩;refine ⟨_,rfl,?_⟩;have qd:=am (Kd.Zt (Kd.Zaj ho0 (Kd.R_lt (Kd.Zc qa.o pl))) (Zb pB));have qe:=am (Kd.Zt (Kd.Zaj ho1 (Kd.R_lt (Kd.Zc qa.o pl))) (Zb pB));replace qa:=am (Kd.Zi (Kd.Zp5 (Kd.Zp5 (Kd.Zso (Kd.Zc qa.o pl) hb) (Kd.Zbh ho0)) (Kd.Zbh ho1)) (fun _ h_=>h_.1));replace HB:=bS hb;obtain ⟨Ao7,co7,eo7⟩:=Kd.Zm qe.o;subst eo7))
 go_ret2
 exact ⟨_,pE,by refine rp ?_;exact Kd.Zi qd.o (fun _ hk=>trivial),pB⟩
def Zcu.f (k:Nat) (l0:List Int):Option (Int):=(Zaz.f k l0).bind fun qa=>(if (l0.length:Int)=0 then (some 0) else (some (qa.1.size:Int)))
theorem Zcu.calls (k:Nat) (A0:Option Addr) (c0:Nat) (l0:List Int) (r:Int) (w:World) (hr0:Kd.C (Kd.int .u32) w A0 l0.length l0) (hc0:l0.length<=c0) (h:Zcu.f k l0=some r) :
  Calls Tryz.prog 110 #[.slice A0 l0.length c0] w fun e w'=>e=.returned (.int .i64 r)/\Below w.heap.size w w':=by
 have HR0:=am hr0
 have HC0:=am hc0
 clear hr0 hc0
 have HB:=am (Below.refl w.heap.size w)
 have H:((Zaz.f k l0).bind fun qa=>(if (l0.length:Int)=0 then (some 0) else (some (qa.1.size:Int))))=some r:=h
 clear h
 replace H:=ob H
 obtain ⟨⟨qb,qc⟩,A2,H⟩:=H;(try dsimp only at H)
 replace H:=eI H
 rcases H with ⟨c3b0,c3b1,H⟩|⟨c3,c3b0,c3b1,H⟩
 ·obtain rfl:=Option.some.inj H
  go_enter Tryz.func110,Tryz.ntmps110
  go_wp2_with (first|(refine gL (some 7) Tryz.func112 #[.slice A0 l0.length c0] (h:=?_);(with_reducible refine (Zaz.calls k (fun k_=>k_ < w.heap.size) _ _ l0 qb qc _ ?side1 A2.o).mono ?_);(case side1=>exact Kd.V_mk HC0.o (Kd.Ze7 (Kd.C_F (Kd.Zfm .u32) HR0.o) pB));rintro e w4 ⟨rfl,hb⟩;refine ⟨_,rfl,?_⟩;replace HB:=bS hb))
  go_ret
  exact ⟨pE,pB⟩
 ·have c3b2:¬ (l0=[]):=fun h_=>c3 (by rw [h_];rfl)
  obtain rfl:=Option.some.inj H
  go_enter Tryz.func110,Tryz.ntmps110
  go_wp2_with (first|(refine gL (some 7) Tryz.func112 #[.slice A0 l0.length c0] (h:=?_);(with_reducible refine (Zaz.calls k (fun k_=>k_ < w.heap.size) _ _ l0 qb qc _ ?side1 A2.o).mono ?_);(case side1=>exact Kd.V_mk HC0.o (Kd.Ze7 (Kd.C_F (Kd.Zfm .u32) HR0.o) pB));rintro e w5 ⟨rfl,hb⟩;refine ⟨_,rfl,?_⟩;replace HB:=bS hb))
  go_ret
  exact ⟨pE,pB⟩
def Zbk.j0:Nat->Bool->Bool->List Int->Int->Option (Int)
 | 0,_,_,_,_=>none
 | k+1,x14,qi,qc,qd=>if x14=true then (some 9) else (if (qc.length:Int)=0 then (if qi=true then (some 9) else (if qd=0 then (some 0) else (some 9))) else ((Zer.f k qc).bind fun qj=>(if qj.2=true then (some 9) else ((Zcu.f k qc).bind fun qf=>(if qf > 300 then (some 9) else (if qd < (-1000) then (some 9) else (if qd > 1000 then (some 9) else (some 0))))))))
def Zbk.f (k:Nat) (a0_0:Bool) (l0_1:List Int) (a0_2:Int):Option (Int):=(Zbq.f l0_1).bind fun qe=>(if qe=0 then (Zbk.j0 k (decide ((l0_1.length:Int) > 40)) a0_0 l0_1 a0_2) else (Zbk.j0 k true a0_0 l0_1 a0_2))
theorem Zbk.calls (k:Nat) (a0_0:Bool) (A0_1:Option Addr) (c0_1:Nat) (l0_1:List Int) (a0_2:Int) (r:Int) (w:World) (hr0_1:Kd.C (Kd.int .u32) w A0_1 l0_1.length l0_1) (hc0_1:l0_1.length<=c0_1) (h:Zbk.f k a0_0 l0_1 a0_2=some r) :
  Calls Tryz.prog 55 #[.agg #[.bool a0_0,.slice A0_1 l0_1.length c0_1,.int .i64 a0_2]] w fun e w'=>e=.returned (.int .i64 r)/\Below w.heap.size w w':=by
 have hu24:=Tryz.underlying24
 have HR0_1:=am hr0_1
 have HC0_1:=am hc0_1
 clear hr0_1 hc0_1
 have HB:=am (Below.refl w.heap.size w)
 have H:((Zbq.f l0_1).bind fun qe=>(if qe=0 then (Zbk.j0 k (decide ((l0_1.length:Int) > 40)) a0_0 l0_1 a0_2) else (Zbk.j0 k true a0_0 l0_1 a0_2)))=some r:=h
 clear h
 have HC2:=am H
 clear H
 go_enter Tryz.func55,Tryz.ntmps55
 go_upto_region 1 with (first|((with_reducible refine gd 1 ?_);(try (refine Za5 (by rfl) ?_;dsimp only));refine bx 1 #[.bool a0_0,.slice A0_1 l0_1.length c0_1,.int .i64 a0_2] 24 (h:=?_);intro qk hg w3 hbox hb;have qa:=am hbox;have qm:=gW hg;replace HB:=bS hb;clear hb hbox hg))
 (try simp only [Act.put,List.setIfInBounds_toArray,List.set_cons_zero,List.set_cons_succ])
 go_cut [14] (fun v14 wc => ∃ (kq:Nat) (x14_1:Bool),v14=.bool x14_1/\Aside0 (Zbk.j0 kq x14_1 a0_0 l0_1 a0_2=some r)/\Aside0 (kq<=k)/\Aside0 (wc.heap[qk]? = some (.cells #[.bool a0_0,(.slice A0_1 l0_1.length c0_1),.int .i64 a0_2] 24 (0,0)))/\Aside0 (Below w.heap.size w wc))
 case first =>
  have H:=HC2.o
  clear HC2
  replace H:=ob H
  obtain ⟨qe,A4,H⟩:=H
  replace H:=eI H
  rcases H with ⟨c5b0,c5b1,H⟩|⟨c5,c5b0,c5b1,H⟩
  ·(first|rw [c5b0]|(simp only [Zc5,Zdv];rw [c5b0])|skip)
   have H':=am H
   clear H
   obtain ⟨_,_,_,_,_,_⟩:=cEc qa.o
   go_wp2_with (first|(refine gL (some 7) Tryz.func108 #[.slice A0_1 l0_1.length c0_1] (h:=?_);(with_reducible refine (Zbq.calls _ _ l0_1 qe _ ?side1 ?side2 A4.o).mono ?_);(case side1=>exact cB HR0_1 HB);(case side2=>exact HC0_1.o);rintro e w' ⟨rfl,⟨nd,rfl⟩⟩;refine ⟨_,rfl,?_⟩))
   go_meet
   case rel=>exact ⟨_,(decide ((l0_1.length:Int) > 40)),pR,H',pJ,⟨Za qa.o pl⟩,⟨pB⟩⟩
  ·(first|rw [c5b0]|(simp only [Zc5,Zdv];rw [c5b0])|skip)
   have H':=am H
   clear H
   obtain ⟨_,_,_,_,_,_⟩:=cEc qa.o
   go_wp2_with (first|(refine gL (some 7) Tryz.func108 #[.slice A0_1 l0_1.length c0_1] (h:=?_);(with_reducible refine (Zbq.calls _ _ l0_1 qe _ ?side1 ?side2 A4.o).mono ?_);(case side1=>exact cB HR0_1 HB);(case side2=>exact HC0_1.o);rintro e w' ⟨rfl,⟨nd,rfl⟩⟩;refine ⟨_,rfl,?_⟩))
   go_meet
   case rel=>exact ⟨_,(true),pR,H',pJ,⟨Za qa.o pl⟩,⟨pB⟩⟩
 case rest =>
  clear HC2
  obtain ⟨kq,x14_1,rfl,HA,HJ1,qa,HB⟩:=hcut
  cases kq with
  | zero=>exact absurd HA.out (by simp [Zbk.j0])
  | succ kj1 =>
   have H:=HA.out
   clear HA
   simp only [Zbk.j0] at H
   replace H:=tI (t:=x14_1) H
   rcases H with ⟨rfl,H⟩|⟨rfl,H⟩
   ·obtain rfl:=Option.some.inj H
    go_wp2
    go_ret
    exact ⟨pE,pB⟩
   ·replace H:=eI H
    rcases H with ⟨c9b0,c9b1,H⟩|⟨c9,c9b0,c9b1,H⟩
    ·replace H:=tI (t:=a0_0) H
     rcases H with ⟨rfl,H⟩|⟨rfl,H⟩
     ·obtain rfl:=Option.some.inj H
      obtain ⟨_,_,_,_,_,_⟩:=cEc qa.o
      go_wp2
      go_ret
      exact ⟨pE,pB⟩
     ·replace H:=eI H
      rcases H with ⟨c12b0,c12b1,H⟩|⟨c12,c12b0,c12b1,H⟩
      ·obtain rfl:=Option.some.inj H
       obtain ⟨_,_,_,_,_,_⟩:=cEc qa.o
       go_wp2
       go_ret
       exact ⟨pE,pB⟩
      ·obtain rfl:=Option.some.inj H
       obtain ⟨_,_,_,_,_,_⟩:=cEc qa.o
       go_wp2
       go_ret
       exact ⟨pE,pB⟩
    ·have c9b2:¬ (l0_1=[]):=fun h_=>c9 (by rw [h_];rfl)
     replace H:=ob H
     obtain ⟨⟨qg,ql⟩,A15,H⟩:=H;(try dsimp only at H)
     replace H:=tI (t:=ql) H
     rcases H with ⟨rfl,H⟩|⟨rfl,H⟩
     ·obtain rfl:=Option.some.inj H
      obtain ⟨_,_,_,_,_,_⟩:=cEc qa.o
      go_wp2_with (first|(refine gL (some 29) Tryz.func109 #[.slice A0_1 l0_1.length c0_1] (h:=?_);(with_reducible refine (Zer.calls kj1 _ _ l0_1 qg true _ ?side1 ?side2 A15.o).mono ?_);(case side1=>exact cB HR0_1 HB);(case side2=>exact HC0_1.o);rintro e w18 ⟨qh,rfl,ho0,hb⟩;refine ⟨_,rfl,?_⟩;have qb:=am (Kd.Zt ho0 (Zb pB));replace qa:=bb qa hb;replace HB:=bS hb))
      go_ret
      exact ⟨pE,pB⟩
     ·replace H:=ob H
      obtain ⟨qf,A19,H⟩:=H
      replace H:=gI H
      rcases H with ⟨c20b0,H⟩|⟨c20b0,H⟩
      ·obtain rfl:=Option.some.inj H
       obtain ⟨_,_,_,_,_,_⟩:=cEc qa.o
       go_wp2_with (first|(refine gL (some 29) Tryz.func109 #[.slice A0_1 l0_1.length c0_1] (h:=?_);(with_reducible refine (Zer.calls kj1 _ _ l0_1 qg false _ ?side1 ?side2 A15.o).mono ?_);(case side1=>exact cB HR0_1 HB);(case side2=>exact HC0_1.o);rintro e w22 ⟨qh,rfl,ho0,hb⟩;refine ⟨_,rfl,?_⟩;have qb:=am (Kd.Zt ho0 (Zb pB));replace qa:=bb qa hb;replace HB:=bS hb;obtain ⟨_,_,_,_,_,_⟩:=cEc qa.o)|(go_at_call 110;(with_reducible refine (Zcu.calls kj1 _ _ l0_1 qf _ ?side1 ?side2 A19.o).mono ?_);(case side1=>exact cB HR0_1 HB);(case side2=>exact HC0_1.o);rintro e w24 ⟨rfl,hb⟩;replace qb:=rbl qb hb;replace qa:=bb qa hb;replace HB:=bS hb))
       go_ret
       exact ⟨pE,pB⟩
      ·replace H:=dI H
       rcases H with ⟨c25b0,H⟩|⟨c25b0,H⟩
       ·obtain rfl:=Option.some.inj H
        obtain ⟨_,_,_,_,_,_⟩:=cEc qa.o
        go_wp2_with (first|(refine gL (some 29) Tryz.func109 #[.slice A0_1 l0_1.length c0_1] (h:=?_);(with_reducible refine (Zer.calls kj1 _ _ l0_1 qg false _ ?side1 ?side2 A15.o).mono ?_);(case side1=>exact cB HR0_1 HB);(case side2=>exact HC0_1.o);rintro e w27 ⟨qh,rfl,ho0,hb⟩;refine ⟨_,rfl,?_⟩;have qb:=am (Kd.Zt ho0 (Zb pB));replace qa:=bb qa hb;replace HB:=bS hb;obtain ⟨_,_,_,_,_,_⟩:=cEc qa.o)|(go_at_call 110;(with_reducible refine (Zcu.calls kj1 _ _ l0_1 qf _ ?side1 ?side2 A19.o).mono ?_);(case side1=>exact cB HR0_1 HB);(case side2=>exact HC0_1.o);rintro e w29 ⟨rfl,hb⟩;replace qb:=rbl qb hb;replace qa:=bb qa hb;replace HB:=bS hb;obtain ⟨_,_,_,_,_,_⟩:=cEc qa.o))
        go_ret
        exact ⟨pE,pB⟩
       ·replace H:=gI H
        rcases H with ⟨c31b0,H⟩|⟨c31b0,H⟩
        ·obtain rfl:=Option.some.inj H
         obtain ⟨_,_,_,_,_,_⟩:=cEc qa.o
         go_wp2_with (first|(refine gL (some 29) Tryz.func109 #[.slice A0_1 l0_1.length c0_1] (h:=?_);(with_reducible refine (Zer.calls kj1 _ _ l0_1 qg false _ ?side1 ?side2 A15.o).mono ?_);(case side1=>exact cB HR0_1 HB);(case side2=>exact HC0_1.o);rintro e w33 ⟨qh,rfl,ho0,hb⟩;refine ⟨_,rfl,?_⟩;have qb:=am (Kd.Zt ho0 (Zb pB));replace qa:=bb qa hb;replace HB:=bS hb;obtain ⟨_,_,_,_,_,_⟩:=cEc qa.o)|(go_at_call 110;(with_reducible refine (Zcu.calls kj1 _ _ l0_1 qf _ ?side1 ?side2 A19.o).mono ?_);(case side1=>exact cB HR0_1 HB);(case side2=>exact HC0_1.o);rintro e w35 ⟨rfl,hb⟩;replace qb:=rbl qb hb;replace qa:=bb qa hb;replace HB:=bS hb;obtain ⟨_,_,_,_,_,_⟩:=cEc qa.o))
         go_ret
         exact ⟨pE,pB⟩
        ·obtain rfl:=Option.some.inj H
         obtain ⟨_,_,_,_,_,_⟩:=cEc qa.o
         go_wp2_with (first|(refine gL (some 29) Tryz.func109 #[.slice A0_1 l0_1.length c0_1] (h:=?_);(with_reducible refine (Zer.calls kj1 _ _ l0_1 qg false _ ?side1 ?side2 A15.o).mono ?_);(case side1=>exact cB HR0_1 HB);(case side2=>exact HC0_1.o);rintro e w38 ⟨qh,rfl,ho0,hb⟩;refine ⟨_,rfl,?_⟩;have qb:=am (Kd.Zt ho0 (Zb pB));replace qa:=bb qa hb;replace HB:=bS hb;obtain ⟨_,_,_,_,_,_⟩:=cEc qa.o)|(go_at_call 110;(with_reducible refine (Zcu.calls kj1 _ _ l0_1 qf _ ?side1 ?side2 A19.o).mono ?_);(case side1=>exact cB HR0_1 HB);(case side2=>exact HC0_1.o);rintro e w40 ⟨rfl,hb⟩;replace qb:=rbl qb hb;replace qa:=bb qa hb;replace HB:=bS hb;obtain ⟨_,_,_,_,_,_⟩:=cEc qa.o))
         go_ret
         exact ⟨pE,pB⟩
def Zei.f (k:Nat) (a0_0:Bool) (l0_1:List Int) (a0_2:Int):Option (Bool):=(Zbk.f k a0_0 l0_1 a0_2).bind fun qb=>(some (qb != 0))
theorem Zei.calls (k:Nat) (a0_0:Bool) (A0_1:Option Addr) (c0_1:Nat) (l0_1:List Int) (a0_2:Int) (r:Bool) (w:World) (hr0_1:Kd.C (Kd.int .u32) w A0_1 l0_1.length l0_1) (hc0_1:l0_1.length<=c0_1) (h:Zei.f k a0_0 l0_1 a0_2=some r) :
  Calls Tryz.prog 139 #[.agg #[.bool a0_0,.slice A0_1 l0_1.length c0_1,.int .i64 a0_2]] w fun e w'=>e=.returned (.bool r)/\Below w.heap.size w w':=by
 have hu24:=Tryz.underlying24
 have HR0_1:=am hr0_1
 have HC0_1:=am hc0_1
 clear hr0_1 hc0_1
 have HB:=am (Below.refl w.heap.size w)
 have H:((Zbk.f k a0_0 l0_1 a0_2).bind fun qb=>(some (qb != 0)))=some r:=h
 clear h
 obtain ⟨qb,A2,H⟩:=ob H
 obtain rfl:=Option.some.inj H
 go_enter Tryz.func139,Tryz.ntmps139
 go_wp2_with (first|((with_reducible refine gd 1 ?_);refine bx 1 #[.bool a0_0,.slice A0_1 l0_1.length c0_1,.int .i64 a0_2] 24 (h:=?_);intro qd hg w3 hbox hb;have qa:=am hbox;have qc:=gW hg;replace HB:=bS hb;clear hb hbox hg;obtain ⟨_,_,_,_,_,_⟩:=cEc qa.o)|(refine gL (some 4) Tryz.func55 #[.agg #[.bool a0_0,.slice A0_1 l0_1.length c0_1,.int .i64 a0_2]] (h:=?_);(with_reducible refine (Zbk.calls k a0_0 _ _ l0_1 a0_2 qb _ ?side1 ?side2 A2.o).mono ?_);(case side1=>exact cB HR0_1 HB);(case side2=>exact HC0_1.o);rintro e w5 ⟨rfl,hb⟩;refine ⟨_,rfl,?_⟩;replace qa:=bb qa hb;replace HB:=bS hb))
 go_ret
 exact ⟨pE,pB⟩
end YtjbjkmccfocikaaGreatDoor.B
end
section
namespace YtjbjkmccfocikaaGreatDoor.B
open Go.RowKit YtjbjkmccfocikaaGreatDoorW.PrintWords YtjbjkmccfocikaaGreatDoor.P
def Zco.f (k:Nat) (l:List S24):Option Bool:=anyO (fun x=>Zei.f k x.f0 x.f1 x.f2) l
theorem Zco.index (k:Nat) (A0:Option Addr) (c0:Nat) (l0:List S24) (b:Bool) (w:World) (hr0:Kd.C k24 w A0 l0.length l0) (hc0:l0.length<=c0) (h:Zco.f k l0=some b) :
  Calls Tryz.prog 154 #[.slice A0 l0.length c0,.func (.func 139) #[] #[]] w fun e w'=>IdxR b e/\Below w.heap.size w w':=by
 have hm:l0.length<=9223372036854775807:=Kd.Zrk hr0
 have HR:=Aside0.mk hr0
 have HC:=Aside0.mk hc0
 unfold Zco.f at h
 have H0:=Aside0.mk h
 obtain ⟨n,hn⟩:∃ n,l0.length=n:=⟨_,rfl⟩
 rw [hn] at hm
 have HN:=Aside0.mk hn
 clear h hr0 hc0
 rw [hn]
 clear hn
 go_enter Tryz.func154,Tryz.ntmps154
 go_wp2
 go_loopw [8] (fun i wr => ∃ k_:Nat,k_<=n/\i=.int .i64 k_/\Aside0 (anyO (fun x=>Zei.f k x.f0 x.f1 x.f2) (l0.drop k_)=some b)/\Below w.heap.size w wr) (fun i _=>n - (intOf i).toNat)
 case atStart=>exact ⟨0,Nat.zero_le _,rfl,⟨H0.out⟩,Below.refl _ _⟩
 case round =>
  obtain ⟨q,hq,rfl,HP,hb⟩:=hrel
  by_cases hlt:q < n
  ·have hlt':(q:Int) < (n:Int):=by omega
   have hdrop:l0.drop q=(l0.getD q z24) :: l0.drop (q+1):=Zlm (by have := HN.out;omega)
   obtain ⟨x,hx⟩:∃ x,l0.getD q z24=x:=⟨_,rfl⟩
   have h1:=HP.out
   rw [hdrop,hx] at h1
   obtain ⟨t,ht,h2⟩:=Zjo h1
   obtain ⟨ad,c,hA,_,hK,hcc⟩:=Kd.Zmt HR.out z24 (q:Int) (by omega) (by have := HN.out;omega)
   have hx':l0.getD (q:Int).toNat z24=x:=by rw [Int.toNat_natCast];exact hx
   rw [hx'] at hK
   obtain ⟨A1,c1,rfl,hl1,hg1⟩:=Zlq hK
   have hcell0:=hcc 0 _ rfl
   have hcell1:=hcc 1 _ rfl
   have hcell2:=hcc 2 _ rfl
   obtain ⟨ad',c',hA',_,hK',hcc'⟩:=Kd.Zmt HR.out z24 (0:Int) (by omega) (by have := HN.out;omega)
   obtain ⟨_,_,rfl,_⟩:=Zlq hK'
   have hfirst:=hcc' 0 _ rfl
   obtain rfl:ad=ad':=Option.some.inj (hA.symm.trans hA')
   subst hA
   obtain ⟨b_,o_,rfl⟩:=Zld (show w.cell? ad=_ from hfirst)
   have hck0:wr.cell? ⟨b_,o_+q*3,none⟩=some (.bool x.f0):=by
    have h3:=Zdd hb hcell0
    rw [Ziz] at h3
    simpa [show k24.sz=3 from rfl,Nat.add_assoc] using h3
   have hck1:wr.cell? ⟨b_,o_+q*3+1,none⟩=some (.slice A1 x.f1.length c1):=by
    have h3:=Zdd hb hcell1
    rw [Ziz] at h3
    simpa [show k24.sz=3 from rfl,Nat.add_assoc] using h3
   have hck2:wr.cell? ⟨b_,o_+q*3+2,none⟩=some (.int .i64 x.f2):=by
    have h3:=Zdd hb hcell2
    rw [Ziz] at h3
    simpa [show k24.sz=3 from rfl,Nat.add_assoc] using h3
   have hgw:Kd.C (Kd.int .u32) wr A1 x.f1.length x.f1:=Kd.Zv hg1 hb
   have cF:=Zei.calls k x.f0 A1 c1 x.f1 x.f2 t wr hgw hl1 ht
   obtain ⟨y0,hy0⟩:∃ y,x.f0=y:=⟨_,rfl⟩
   obtain ⟨y1,hy1⟩:∃ y,x.f1.length=y:=⟨_,rfl⟩
   obtain ⟨y2,hy2⟩:∃ y,x.f2=y:=⟨_,rfl⟩
   rw [hy0] at hck0 cF
   rw [hy1] at hck1 cF
   rw [hy2] at hck2 cF
   have HF:=Aside0.mk h2
   clear h1 hdrop hx hx' ht hcc hcell0 hcell1 hcell2 HP h2 hK hl1 hg1 hgw hy0 hy1 hy2 hfirst hcc' hA' hK'
   cases t with
   | true =>
    have HF1:=Aside0.mk (HF.out.1 rfl)
    clear HF
    go_wp2_with (go_at_call 139;refine (cF).mono ?_;rintro e w1 ⟨rfl,hb1⟩)
    go_ret
    exact ⟨Zny HF1.out q,hb.trans (hb1.mono hb.size)⟩
   | false =>
    have HF1:=Aside0.mk (HF.out.2 rfl)
    clear HF
    go_wp2_with (go_at_call 139;refine (cF).mono ?_;rintro e w1 ⟨rfl,hb1⟩)
    go_roundw
    case rel=>exact ⟨q+1,by omega,by go_num,HF1,hb.trans (hb1.mono hb.size)⟩
    case measure=>simp [intOf];omega
  ·obtain rfl:q=n:=by omega
   have h1:=HP.out
   rw [List.drop_of_length_le (by have := HN.out;omega)] at h1
   have h2:=Aside0.mk (Zlf h1)
   clear h1
   go_wp2
   go_ret
   exact ⟨Zjy h2.out,hb⟩
theorem Zco.calls (k:Nat) (A0:Option Addr) (c0:Nat) (l0:List S24) (r:Bool) (w:World) (hr0:Kd.C k24 w A0 l0.length l0) (hc0:l0.length<=c0) (h:Zco.f k l0=some r) :
  Calls Tryz.prog 123 #[.slice A0 l0.length c0,.func (.func 139) #[] #[]] w fun e w'=>e=.returned (.bool r)/\Below w.heap.size w w':=by
 have cI:=Zco.index k A0 c0 l0 r w hr0 hc0 h
 clear h hr0 hc0
 go_enter Tryz.func123,Tryz.ntmps123
 go_wp2_with (go_at_call 154;refine cI.mono ?_;rintro e w1 ⟨⟨i,rfl,hi⟩,hb1⟩)
 go_ret
 exact ⟨by rw [<- hi];first|rfl|simp,hb1⟩
end YtjbjkmccfocikaaGreatDoor.B
end
section
namespace YtjbjkmccfocikaaGreatDoor.B
open Go.RowKit YtjbjkmccfocikaaGreatDoorW.PrintWords YtjbjkmccfocikaaGreatDoorW.PrintLast YtjbjkmccfocikaaGreatDoorW.PrintMore
attribute [local go_sem] Zb3 Zb5 Zcp Zcq Zbs Zbt Zb4 Zb6
def Zcs.f (k:Nat) (l0:List (S24)):Option (Int):=(Zco.f k l0).bind fun qa=>(if qa=true then (some 9) else (some 0))
theorem Zcs.calls (k:Nat) (A0:Option Addr) (c0:Nat) (l0:List (S24)) (r:Int) (w:World) (hr0:Kd.C k24 w A0 l0.length l0) (hc0:l0.length<=c0) (h:Zcs.f k l0=some r) :
  Calls Tryz.prog 99 #[.slice A0 l0.length c0] w fun e w'=>e=.returned (.int .i64 r)/\Below w.heap.size w w':=by
 have HR0:=am hr0
 have HC0:=am hc0
 clear hr0 hc0
 have HB:=am (Below.refl w.heap.size w)
 have H:((Zco.f k l0).bind fun qa=>(if qa=true then (some 9) else (some 0)))=some r:=h
 clear h
 replace H:=ob H
 obtain ⟨qa,A2,H⟩:=H
 replace H:=tI (t:=qa) H
 rcases H with ⟨rfl,H⟩|⟨rfl,H⟩
 ·obtain rfl:=Option.some.inj H
  go_enter Tryz.func99,Tryz.ntmps99
  go_wp2_with (first|(refine gL (some 4) Tryz.func123 #[.slice A0 l0.length c0,.func (.func 139) #[] #[]] (h:=?_);(with_reducible refine (Zco.calls k _ _ l0 true _ ?side1 ?side2 A2.o).mono ?_);(case side1=>refine cp ?_;exact HR0.o);(case side2=>exact HC0.o);rintro e w4 ⟨rfl,hb⟩;refine ⟨_,rfl,?_⟩;replace HB:=bS hb))
  go_ret
  exact ⟨pE,pB⟩
 ·obtain rfl:=Option.some.inj H
  go_enter Tryz.func99,Tryz.ntmps99
  go_wp2_with (first|(refine gL (some 4) Tryz.func123 #[.slice A0 l0.length c0,.func (.func 139) #[] #[]] (h:=?_);(with_reducible refine (Zco.calls k _ _ l0 false _ ?side1 ?side2 A2.o).mono ?_);(case side1=>refine cp ?_;exact HR0.o);(case side2=>exact HC0.o);rintro e w5 ⟨rfl,hb⟩;refine ⟨_,rfl,?_⟩;replace HB:=bS hb))
  go_ret
  exact ⟨pE,pB⟩
def Za0.f (a0_0:Bool) (l0_1:List Int) (a0_2:Int):Option (Bool):=some ((l0_1.length:Int) == 0)
theorem Za0.calls (a0_0:Bool) (A0_1:Option Addr) (c0_1:Nat) (l0_1:List Int) (a0_2:Int) (r:Bool) (w:World) (hr0_1:Kd.C (Kd.int .u32) w A0_1 l0_1.length l0_1) (hc0_1:l0_1.length<=c0_1) (h:Za0.f a0_0 l0_1 a0_2=some r) :
  Calls Tryz.prog 104 #[.agg #[.bool a0_0,.slice A0_1 l0_1.length c0_1,.int .i64 a0_2]] w fun e w'=>e=.returned (.bool r)/\Below w.heap.size w w':=by
 have qd:=Tryz.underlying106
 have HR0_1:=am hr0_1
 have HC0_1:=am hc0_1
 clear hr0_1 hc0_1
 have HB:=am (Below.refl w.heap.size w)
 have H:(some ((l0_1.length:Int) == 0))=some r:=h
 clear h
 obtain rfl:=Option.some.inj H
 go_enter Tryz.func104,Tryz.ntmps104
 go_wp2_with (first|((with_reducible refine gd 1 ?_);refine bx 1 #[.bool a0_0,.slice A0_1 l0_1.length c0_1,.int .i64 a0_2] 106 (h:=?_);intro qc hg w2 hbox hb;have qa:=am hbox;have qb:=gW hg;replace HB:=bS hb;clear hb hbox hg;obtain ⟨_,_,_,_,_,_⟩:=cEc qa.o))
 go_ret
 exact ⟨pE,pB⟩
def Zbw.f (l0:List Int) (a1:Int):Option (List Int):=some l0
theorem Zbw.calls (P0_:Nat->Prop) (u9000_:Value) (l0:List Int) (a1:Int) (r:List Int) (w0 w:World) (hB:Below w0.heap.size w0 w) (ho0:Kd.R (Kd.int .u32) 85 w w0.heap.size P0_ u9000_ l0) (h:Zbw.f l0 a1=some r) :
  Calls Tryz.prog 105 #[u9000_,.int .i64 a1] w fun e w' => ∃ v0_:Value,e=.returned (v0_)/\Kd.R (Kd.int .u32) 85 w' w0.heap.size (fun k_=>(P0_ k_\/w.heap.size<=k_)) v0_ r/\Below w0.heap.size w0 w'/\Kept w w' (fun k_=>P0_ k_):=by
 have HO0:=am (show Kd.R (Kd.int .u32) 85 w w0.heap.size (fun k_=>(P0_ k_\/w.heap.size<=k_)) u9000_ l0 from Kd.Zi ho0 (fun k_ hk=>(.inl hk)))
 have HK:=am (Kept.refl w (fun k_=>P0_ k_))
 have HW0:=am hB.size
 have HB:=am hB
 clear hB
 have H:(some l0)=some r:=h
 clear h
 obtain rfl:=Option.some.inj H
 go_enter Tryz.func105,Tryz.ntmps105
 go_wp2
 go_ret
 exact ⟨_,pE,by refine rp ?_;exact HO0.o,pB,by repeat (first|(with_reducible first|exact HK.out|apply Kept.alloc|apply Kept.drewN|apply Kept.drew)|exact HK.out)⟩
def Zz.j0:Nat->Int->Bool->Bool->List Int->Int->Option (Bool × List Int × Int)
 | 0,_,_,_,_,_=>none
 | k+1,x1,x13,qp,qq,qw=>if x13=true then (some (qp,qq,x1)) else ((Zgo.f k (wrap64 (qw - x1))).bind fun qs=>((Zbw.f qs.1 qs.2).bind fun qk=>((Zes.f k qq qk).bind fun qt=>((Zbw.f qt.1 qt.2).bind fun ql=>(some (qp,ql,x1))))))
def Zz.f (k:Nat) (a0_0:Bool) (l0_1:List Int) (a0_2:Int) (a1:Int):Option (Bool × List Int × Int):=(Za0.f a0_0 l0_1 a0_2).bind fun qm=>(if qm=true then (Zz.j0 k a1 true a0_0 l0_1 a0_2) else (Zz.j0 k a1 (a0_2 == a1) a0_0 l0_1 a0_2))
def Zz.T4:Bool × List (List Nat × List Nat):=(true,[([],[]),([0],[0]),([1],[1]),([],[]),([3],[3]),([4],[4]),([],[]),([5,6],[5,6]),([7],[7]),([8],[8]),([8],[8]),([9,10,8],[9,10]),([2,11,11],[2,11]),([12],[12]),([12],[12]),([13,14,12],[13,14]),([],[]),([0,1,2,3,4,5,6,7,8,9,10,11,12,13,14,15],[]),([17,0,1,2,3,4,5,6,7,8,9,10,11,12,13,14,15],[17]),([18,15,15,0,1,2,3,4,5,6,7,8,9,10,11,12,13,14,15],[15,18]),([0,1,2,3,4,5,6,7,8,9,10,11,12,13,14,15,16,17,18,19],[]),([20,0,1,2,3,4,5,6,7,8,9,10,11,12,13,14,15,16,17,18,19],[20]),([21,16,19,0,1,2,3,4,5,6,7,8,9,10,11,12,13,14,15,16,17,18,19],[16,21])])
def Zz.B4:List Nat:=[0,1,3,0,8,24,0,120,248,504,504,2040,4095,8191,8191,32767,0,65535,196607,458751,1048575,2097151,4194303]
theorem Zz.tab4:rtab .any (opsOf Tryz.f106 4)=Zz.T4:=by kernel_rfl
theorem Zz.bits4:waitsOk Zz.T4.2 Zz.B4=true:=by kernel_rfl
theorem Zz.calls (k:Nat) (a0_0:Bool) (P0_1_:Nat->Prop) (A0_1:Option Addr) (c0_1:Nat) (l0_1:List Int) (a0_2:Int) (a1:Int) (r1:Bool) (r2:List Int) (r3:Int) (w:World) (hs0_1:Kd.V (Kd.int .u32) 85 w w.heap.size (fun k_=>P0_1_ k_) (.slice A0_1 l0_1.length c0_1) l0_1) (h:Zz.f k a0_0 l0_1 a0_2 a1=some (r1,r2,r3)) :
  Calls Tryz.prog 106 #[.agg #[.bool a0_0,.slice A0_1 l0_1.length c0_1,.int .i64 a0_2],.int .i64 a1] w fun e w' => ∃ v1_:Value,e=.returned (.agg #[.bool r1,v1_,.int .i64 r3])/\Kd.V (Kd.int .u32) 85 w' w.heap.size (fun k_=>(P0_1_ k_\/w.heap.size<=k_)) v1_ r2/\Below w.heap.size w w':=by
 have jj:=Tryz.underlying106
 have HO0_1:=am (show Kd.V (Kd.int .u32) 85 w w.heap.size (fun k_=>(P0_1_ k_\/w.heap.size<=k_)) (.slice A0_1 l0_1.length c0_1) l0_1 from Kd.Zr hs0_1 (fun k_ hk=>.inl hk))
 have HB:=am (Below.refl w.heap.size w)
 have H:((Za0.f a0_0 l0_1 a0_2).bind fun qm=>(if qm=true then (Zz.j0 k a1 true a0_0 l0_1 a0_2) else (Zz.j0 k a1 (a0_2 == a1) a0_0 l0_1 a0_2)))=some (r1,r2,r3):=h
 clear h
 have HC3:=am H
 clear H
 go_enter Tryz.func106,Tryz.ntmps106
 go_upto_region 1 with (first|((with_reducible refine gd 2 ?_);refine bx 2 #[.bool a0_0,.slice A0_1 l0_1.length c0_1,.int .i64 a0_2] 106 (h:=?_);intro qf hg w4 hbox hb;have qa:=am hbox;have jb:=gW hg;replace HO0_1:=vE HO0_1 qf hg hb;replace HB:=bS hb;clear hb hbox hg)|((with_reducible refine gd 4 ?_);refine bx 4 #[.bool false,.slice none 0 0,.int .i64 0] 106 (h:=?_);intro qg hg w5 hbox hb;have qc:=am hbox;have jc:=gW hg;have qe:=nL hg qa;have qd:=nG hg qa;replace HO0_1:=vE HO0_1 qg hg hb;replace qa:=bb qa hb;replace HB:=bS hb;clear hb hbox hg))
 (try simp only [Act.put,List.setIfInBounds_toArray,List.set_cons_zero,List.set_cons_succ])
 go_cut [13] (fun v13 wc => ∃ (kq:Nat) (x13_2:Bool),v13=.bool x13_2/\Aside0 (Zz.j0 kq a1 x13_2 a0_0 l0_1 a0_2=some (r1,r2,r3))/\Aside0 (kq<=k)/\Aside0 (Kd.V (Kd.int .u32) 85 wc w.heap.size (fun k_=>(P0_1_ k_\/w.heap.size<=k_)/\k_ ≠ qf/\k_ ≠ qg) (.slice A0_1 l0_1.length c0_1) l0_1)/\Aside0 (wc.heap[qf]? = some (.cells #[.bool a0_0,(.slice A0_1 l0_1.length c0_1),.int .i64 a0_2] 106 (0,0)))/\Aside0 (wc.heap[qg]? = some (.cells #[.bool false,(.slice none 0 0),.int .i64 0] 106 (0,0)))/\Aside0 (Below w.heap.size w wc))
 case first =>
  have H:=HC3.o
  clear HC3
  replace H:=ob H
  obtain ⟨qm,A6,H⟩:=H
  replace H:=tI (t:=qm) H
  rcases H with ⟨rfl,H⟩|⟨rfl,H⟩
  ·have H':=am H
   clear H
   have hnb8:=qe.o
   have hnc8:=qd.o
   obtain ⟨_,_,_,_,_,_⟩:=cEc qa.o
   go_wp2_with (first|(refine gL (some 6) Tryz.func104 #[.agg #[.bool a0_0,.slice A0_1 l0_1.length c0_1,.int .i64 a0_2]] (h:=?_);(with_reducible refine (Za0.calls a0_0 _ _ l0_1 a0_2 true _ ?side1 ?side2 A6.o).mono ?_);(case side1=>exact Kd.Zv (Kd.Zai HO0_1.o).2.2 pl);(case side2=>exact (Kd.Zai HO0_1.o).2.1);rintro e w10 ⟨rfl,hb⟩;refine ⟨_,rfl,?_⟩;replace HO0_1:=vbl HO0_1 hb;replace qa:=bb qa hb;replace qc:=bb qc hb;replace HB:=bS hb))
   go_meet
   case rel=>exact ⟨_,(true),pR,H',pJ,⟨by refine vp ?_;exact Kd.Zr HO0_1.o (fun _ hk=>⟨hk.1.1,⟨hk.1.2,hk.2⟩⟩)⟩,⟨Za qa.o pl⟩,⟨Za qc.o pl⟩,⟨pB⟩⟩
  ·have H':=am H
   clear H
   have jd:=qe.o
   have jg:=qd.o
   obtain ⟨_,_,_,_,_,_⟩:=cEc qa.o
   go_wp2_with (first|(refine gL (some 6) Tryz.func104 #[.agg #[.bool a0_0,.slice A0_1 l0_1.length c0_1,.int .i64 a0_2]] (h:=?_);(with_reducible refine (Za0.calls a0_0 _ _ l0_1 a0_2 false _ ?side1 ?side2 A6.o).mono ?_);(case side1=>exact Kd.Zv (Kd.Zai HO0_1.o).2.2 pl);(case side2=>exact (Kd.Zai HO0_1.o).2.1);rintro e w13 ⟨rfl,hb⟩;refine ⟨_,rfl,?_⟩;replace HO0_1:=vbl HO0_1 hb;replace qa:=bb qa hb;replace qc:=bb qc hb;replace HB:=bS hb;obtain ⟨_,_,_,_,_,_⟩:=cEc qa.o))
   go_meet
   case rel=>exact ⟨_,((a0_2 == a1)),pR,H',pJ,⟨by refine vp ?_;exact Kd.Zr HO0_1.o (fun _ hk=>⟨hk.1.1,⟨hk.1.2,hk.2⟩⟩)⟩,⟨Za qa.o pl⟩,⟨Za qc.o pl⟩,⟨pB⟩⟩
 case rest =>
  clear HC3
  obtain ⟨kq,x13_2,rfl,HA,HJ2,qb,qa,qc,HB⟩:=hcut
  cases kq with
  | zero=>exact absurd HA.out (by simp [Zz.j0])
  | succ kj2 =>
   have H:=HA.out
   clear HA
   simp only [Zz.j0] at H
   replace H:=tI (t:=x13_2) H
   rcases H with ⟨rfl,H⟩|⟨rfl,H⟩
   ·simp only [Option.some.injEq,Prod.mk.injEq] at H
    obtain ⟨rfl,rfl,rfl⟩:=H
    have je:=qe.o
    have jh:=qd.o
    obtain ⟨_,_,_,_,_,_⟩:=cEc qa.o
    obtain ⟨_,_,_,_,_,_⟩:=cEc qc.o
    go_wp2
    refine bodyPost_ret (results_cell_row rfl _ _ qg 106 #[.bool a0_0,.slice A0_1 l0_1.length c0_1,.int .i64 a1] (0,0) _ rfl (by refine bp ?_;refine Zab (cs:=#[.bool a0_0,.slice A0_1 l0_1.length c0_1,.int .i64 0]) ?_ 2 _ rfl;refine bp ?_;refine Zab (cs:=#[.bool a0_0,.slice none 0 0,.int .i64 0]) ?_ 1 _ rfl;refine bp ?_;refine Zab (cs:=#[.bool false,.slice none 0 0,.int .i64 0]) ?_ 0 _ rfl;refine bq ?_ qd;exact bp qc.o) Tryz.underlying106 rfl (by kernel_rfl)) rfl ?_
    exact ⟨_,pE,by refine vp ?_;exact Kd.Zr (Kd.Zav (p:=⟨qg,2,none⟩) (Kd.Zav (p:=⟨qg,1,none⟩) (Kd.Zav (p:=⟨qg,0,none⟩) (Kd.Zav (p:=⟨qf,2,none⟩) (Kd.Zr (Kd.Zr qb.o (fun k_ hk=>(⟨hk,hk.2.1⟩:_/\k_ ≠ qf))) (fun k_ hk=>(⟨hk,hk.1.2.2⟩:_/\k_ ≠ qg))) (fun _ hk=>hk.1.2) (.int .i64 a1)) (fun _ hk=>hk.2) (.bool a0_0)) (fun _ hk=>hk.2) (.slice A0_1 l0_1.length c0_1)) (fun _ hk=>hk.2) (.int .i64 a1)) (fun _ hk=>hk.1.1.1),pB⟩
   ·replace H:=ob H
    obtain ⟨⟨qn,qu⟩,A19,H⟩:=H;(try dsimp only at H)
    replace H:=ob H
    obtain ⟨qk,A20,H⟩:=H
    replace H:=ob H
    obtain ⟨⟨qo,qv⟩,A21,H⟩:=H;(try dsimp only at H)
    replace H:=ob H
    obtain ⟨ql,A22,H⟩:=H
    simp only [Option.some.injEq,Prod.mk.injEq] at H
    obtain ⟨rfl,rfl,rfl⟩:=H
    try go_wp2
    replace qb:=am (Kd.Zgy qb.o)
    replace qa:=am (Zay qa.o)
    replace qc:=am (Zay qc.o)
    replace HB:=am (Zbe HB.o)
    refine start_ (n:=23) (S:=fun w'=>w'.cell? ⟨qf,0,none⟩=some (.bool a0_0)/\w'.cell? ⟨qf,1,none⟩=some (.slice A0_1 l0_1.length c0_1)/\w'.cell? ⟨qf,2,none⟩=some (.int .i64 a0_2)) (ds:=[19,22]) #[false,false,false,false,false,false,false,false,false,false,false,false,false,false,false,false,false,false,false,false,false,false,false] (by kernel_rfl) rfl rfl ⟨k0 qa 0,k0 qa 1,k0 qa 2⟩ (fun hHeld=>?_);refine Zch Zz.tab4 Zz.bits4 (fun HT_ HW_=>?_)
    generalize wc.drew=w23 at qb qa qc HB hHeld ⊢
    refine pu 0 (some 18) #[true,false,false,false,false,false,false,false,false,false,false,false,false,false,false,false,false,false,false,false,false,false,false] (h:=?_)
    refine pu 1 (some 19) #[true,true,false,false,false,false,false,false,false,false,false,false,false,false,false,false,false,false,false,false,false,false,false] (h:=?_)
    refine pu 3 (some 21) #[true,true,false,true,false,false,false,false,false,false,false,false,false,false,false,false,false,false,false,false,false,false,false] (h:=?_)
    refine pu 4 (some 22) #[true,true,false,true,true,false,false,false,false,false,false,false,false,false,false,false,false,false,false,false,false,false,false] (h:=?_)
    refine pu 6 (some 24) #[true,true,false,true,true,false,true,false,false,false,false,false,false,false,false,false,false,false,false,false,false,false,false] (h:=?_)
    refine pu 16 (some 34) #[true,true,false,true,true,false,true,false,false,false,false,false,false,false,false,false,true,false,false,false,false,false,false] (h:=?_)
    refine take_ (i:=2) (N:=some 20) (v:=?_) (a':=?_) #[true,true,true,true,true,false,true,false,false,false,false,false,false,false,false,false,true,false,false,false,false,false,false] rfl rfl (Za3 HT_.out HW_.out (by kernel_rfl)) (fun _ _ _ h=>h) (Or.inl ⟨by rfl,?_⟩) hHeld ?_ ?_
    rotate_left
    ·rintro w' ⟨s0,s1,s2⟩
     go_simp
     with_reducible rfl
    rotate_left
    ·exact pP
    refine take_ (i:=5) (N:=some 23) (v:=?_) (a':=?_) #[true,true,true,true,true,true,true,false,false,false,false,false,false,false,false,false,true,false,false,false,false,false,false] rfl rfl (Za3 HT_.out HW_.out (by kernel_rfl)) (fun _ _ _ h=>h) (Or.inl ⟨by rfl,?_⟩) hHeld ?_ ?_
    rotate_left
    ·rintro w' ⟨s0,s1,s2⟩
     go_simp
     with_reducible rfl
    rotate_left
    ·exact pP
    refine pu 7 (some 25) #[true,true,true,true,true,true,true,true,false,false,false,false,false,false,false,false,true,false,false,false,false,false,false] (h:=?_)
    refine one_ (i:=8) (N:=some 26) #[true,true,true,true,true,true,true,true,true,false,false,false,false,false,false,false,true,false,false,false,false,false,false] rfl rfl (Za8 HT_.out (by kernel_rfl)) (by decide) (fun K hK=>?_)
    refine goes_ Tryz.func130 (by kernel_rfl) rfl #[.int .i64 (wrap64 (a0_2 - a1))] (by rfl) rfl rfl pA ?_
    with_reducible refine (Zgo.calls kj2 (wrap64 (a0_2 - a1)) qn qu _ A19.o).mono ?_
    rintro e w24 ⟨jk,rfl,ho0,hb⟩
    refine ⟨_,rfl,?_⟩
    replace qb:=am (Kd.Zbn (Kd.Zam qb.o pl) (Kd.Zbh ho0) hb)
    have qi:=am (Kd.Zt (Kd.Ze4 (M:=fun k_=>(w.heap.size<=k_)) ho0 (Zb pB) (fun k_ h_=>h_)) (Zb pB))
    replace qa:=bb qa hb
    replace qc:=bb qc hb
    replace HB:=bS hb
    obtain ⟨q0,q3,q6⟩:=Kd.Zm qi.o
    (first|subst q6|(injection q6 with f1_ f2_ f3_;have f4_:=f1_.symm;have f5_:=f3_.symm;clear f1_ f2_ f3_;subst f4_;subst f5_))
    refine hK.out _ _ ⟨k0 qa 0,k0 qa 1,k0 qa 2⟩ (fun hHeld=>?_)
    clear hK K
    refine norm_ (a':=?_) ?_ ?_
    rotate_left
    ·show Act.put _ (some 26) _=_
     exact pP
    refine pu 9 (some 27) #[true,true,true,true,true,true,true,true,true,true,false,false,false,false,false,false,true,false,false,false,false,false,false] (h:=?_)
    refine pu 10 (some 28) #[true,true,true,true,true,true,true,true,true,true,true,false,false,false,false,false,true,false,false,false,false,false,false] (h:=?_)
    refine one_ (i:=11) (N:=some 29) #[true,true,true,true,true,true,true,true,true,true,true,true,false,false,false,false,true,false,false,false,false,false,false] rfl rfl (Za8 HT_.out (by kernel_rfl)) (by decide) (fun K hK=>?_)
    refine goes_ Tryz.func105 (by kernel_rfl) rfl #[.slice q0 qn.length q3,.int .i64 qu] (by rfl) rfl rfl pA ?_
    with_reducible refine (Zbw.calls (fun k_=>some k_=(.slice q0 qn.length q3:Value).ownBlock) (.slice q0 qn.length q3) qn qu qk w _ ?side1 ?side2 A20.o).mono ?_
    (case side1=>exact pB)
    (case side2=>exact Kd.Zbc rfl qi.o)
    rintro e w26 ⟨ja,rfl,ho0,hb,hkp⟩
    refine ⟨_,rfl,?_⟩
    have qh:=am (Kd.Zi (ok':=fun k_=>(w.heap.size<=k_)) ho0 (fun k_ hk_=>Or.elim hk_ (fun hs_=>(qi.o.1 k_ (hs_).symm).1) (fun hn_=>(Nat.le_trans (Zb pB) hn_))))
    replace qb:=am (Kd.Zr (ok':=fun k_=>(P0_1_ k_\/w.heap.size<=k_)/\k_ ≠ qf/\k_ ≠ qg/\some k_ ≠ (ja:Value).ownBlock) (Kd.Zdf (qb.o) hkp (fun k_ hk_ hs_=>(hk_.2) hs_)) (fun k_ hk_=>⟨hk_.1.1.1,hk_.1.1.2.1,hk_.1.1.2.2,fun e_=>Or.elim (ho0.1 k_ e_.symm) (fun hs_=>hk_.2.1 hs_) (fun hn_=>Nat.not_le.2 hk_.2.2 hn_)⟩))
    replace qa:=am (Zan (Za qa.o pl) hkp (fun e_=>Kd.R_ne qi.o qa.o (by decide) e_))
    replace qc:=am (Zan (Za qc.o pl) hkp (fun e_=>Kd.R_ne qi.o qc.o (by decide) e_))
    replace HB:=am hb
    clear qi
    obtain ⟨q1,q4,q7⟩:=Kd.Zm qh.o
    (first|subst q7|(injection q7 with f1_ f2_ f3_;have f4_:=f1_.symm;have f5_:=f3_.symm;clear f1_ f2_ f3_;subst f4_;subst f5_))
    refine hK.out _ _ ⟨k0 qa 0,k0 qa 1,k0 qa 2⟩ (fun hHeld=>?_)
    clear hK K
    refine norm_ (a':=?_) ?_ ?_
    rotate_left
    ·show Act.put _ (some 29) _=_
     exact pP
    refine one_ (i:=12) (N:=some 30) #[true,true,true,true,true,true,true,true,true,true,true,true,true,false,false,false,true,false,false,false,false,false,false] rfl rfl (Za8 HT_.out (by kernel_rfl)) (by decide) (fun K hK=>?_)
    refine goes_ Tryz.func71 (by kernel_rfl) rfl #[.slice A0_1 l0_1.length c0_1,.slice q1 qk.length q4] (by rfl) rfl rfl pA ?_
    with_reducible refine (Zes.calls kj2 _ _ l0_1 _ _ qk qo qv _ ?side1 ?side2 ?side3 ?side4 A21.o).mono ?_
    (case side1=>exact Kd.Zv (Kd.Zai qb.o).2.2 pl)
    (case side2=>exact (Kd.Zai qb.o).2.1)
    (case side3=>exact Kd.Zv (Kd.Zf qh.o).2.2 pl)
    (case side4=>exact (Kd.Zf qh.o).2.1)
    rintro e w28 ⟨jl,rfl,ho0,hb⟩
    refine ⟨_,rfl,?_⟩
    have qj:=am (Kd.Zt (Kd.Zaj (Kd.Ze4 (M:=fun k_=>(w.heap.size<=k_)) ho0 (Zb pB) (fun k_ h_=>h_)) (Kd.R_lt (Kd.Zc qh.o pl))) (Zb pB))
    replace qb:=am (Kd.Zbn (Kd.Zam qb.o pl) (Kd.Zbh ho0) hb)
    replace qh:=reR qh ho0 hb
    replace qa:=bb qa hb
    replace qc:=bb qc hb
    replace HB:=bS hb
    obtain ⟨q2,q5,q8⟩:=Kd.Zm qj.o
    (first|subst q8|(injection q8 with f1_ f2_ f3_;have f4_:=f1_.symm;have f5_:=f3_.symm;clear f1_ f2_ f3_;subst f4_;subst f5_))
    refine hK.out _ _ ⟨k0 qa 0,k0 qa 1,k0 qa 2⟩ (fun hHeld=>?_)
    clear hK K
    refine norm_ (a':=?_) ?_ ?_
    rotate_left
    ·show Act.put _ (some 30) _=_
     exact pP
    refine pu 13 (some 31) #[true,true,true,true,true,true,true,true,true,true,true,true,true,true,false,false,true,false,false,false,false,false,false] (h:=?_)
    refine pu 14 (some 32) #[true,true,true,true,true,true,true,true,true,true,true,true,true,true,true,false,true,false,false,false,false,false,false] (h:=?_)
    refine one_ (i:=15) (N:=some 33) #[true,true,true,true,true,true,true,true,true,true,true,true,true,true,true,true,true,false,false,false,false,false,false] rfl rfl (Za8 HT_.out (by kernel_rfl)) (by decide) (fun K hK=>?_)
    refine goes_ Tryz.func105 (by kernel_rfl) rfl #[.slice q2 qo.length q5,.int .i64 qv] (by rfl) rfl rfl pA ?_
    with_reducible refine (Zbw.calls (fun k_=>some k_=(.slice q2 qo.length q5:Value).ownBlock) (.slice q2 qo.length q5) qo qv ql w _ ?side1 ?side2 A22.o).mono ?_
    (case side1=>exact pB)
    (case side2=>exact Kd.Zbc rfl qj.o)
    rintro e w30 ⟨qz,rfl,ho0,hb,hkp⟩
    refine ⟨_,rfl,?_⟩
    have qr:=am (Kd.Zi (ok':=fun k_=>(w.heap.size<=k_)/\some k_ ≠ (.slice q1 qk.length q4:Value).ownBlock) ho0 (fun k_ hk_=>⟨Or.elim hk_ (fun hs_=>(qj.o.1 k_ (hs_).symm).1.1) (fun hn_=>(Nat.le_trans (Zb pB) hn_)),Or.elim hk_ (fun hs_=>fun e_=>(((qh.o).1 k_ e_.symm).2) hs_) (fun hn_=>(Kd.fresh' (Kd.R_lt (Kd.Zc qh.o pl)) k_ hn_))⟩))
    replace qb:=am (Kd.Zr (ok':=fun k_=>(P0_1_ k_\/w.heap.size<=k_)/\some k_ ≠ (.slice q1 qk.length q4:Value).ownBlock/\k_ ≠ qf/\k_ ≠ qg/\some k_ ≠ (qz:Value).ownBlock) (Kd.Zdf (qb.o) hkp (fun k_ hk_ hs_=>(hk_.2) hs_)) (fun k_ hk_=>⟨hk_.1.1.1,hk_.1.1.2.2.2,hk_.1.1.2.1,hk_.1.1.2.2.1,fun e_=>Or.elim (ho0.1 k_ e_.symm) (fun hs_=>hk_.2.1 hs_) (fun hn_=>Nat.not_le.2 hk_.2.2 hn_)⟩))
    replace qa:=am (Zan (Za qa.o pl) hkp (fun e_=>Kd.R_ne qj.o qa.o (by decide) e_))
    replace qc:=am (Zan (Za qc.o pl) hkp (fun e_=>Kd.R_ne qj.o qc.o (by decide) e_))
    replace qh:=am (Kd.Zi (ok':=fun k_=>(w.heap.size<=k_)/\some k_ ≠ (qz:Value).ownBlock) (Kd.Zdj (qh.o) hkp (fun k_ hk_ hs_=>(hk_.2) hs_)) (fun k_ hk_=>⟨hk_.1.1,fun e_=>Or.elim (ho0.1 k_ e_.symm) (fun hs_=>hk_.2.1 hs_) (fun hn_=>Nat.not_le.2 hk_.2.2 hn_)⟩))
    replace HB:=am hb
    clear qj
    obtain ⟨qx,qy,q9⟩:=Kd.Zm qr.o
    (first|subst q9|(injection q9 with f1_ f2_ f3_;have f4_:=f1_.symm;have f5_:=f3_.symm;clear f1_ f2_ f3_;subst f4_;subst f5_))
    refine hK.out _ _ ⟨k0 qa 0,k0 qa 1,k0 qa 2⟩ (fun hHeld=>?_)
    clear hK K
    refine norm_ (a':=?_) ?_ ?_
    rotate_left
    ·show Act.put _ (some 33) _=_
     exact pP
    refine pu 17 (some 35) #[true,true,true,true,true,true,true,true,true,true,true,true,true,true,true,true,true,true,false,false,false,false,false] (h:=?_)
    refine pu 18 (some 36) #[true,true,true,true,true,true,true,true,true,true,true,true,true,true,true,true,true,true,true,false,false,false,false] (h:=?_)
    refine last_ (i:=19) (N:=none) #[true,true,true,true,true,true,true,true,true,true,true,true,true,true,true,true,true,true,true,true,false,false,false] rfl rfl (Za8 HT_.out (by kernel_rfl)) (by decide) (fun K hK=>?_)
    have hs32:w30.cell? ⟨qf,1,none⟩=some (.slice A0_1 l0_1.length c0_1):=k0 qa 1
    have hfs32:=Zaa qa.o 1
    have hns32_1:=qd.o
    have hms32_1:=qe.o
    refine skip_ (w1:=?_) (by rfl) rfl ?_ ?_
    rotate_left
    ·go_simp
     rfl
    refine hK.out _ _ ?_
    clear hK K
    refine pu 20 (some 37) #[true,true,true,true,true,true,true,true,true,true,true,true,true,true,true,true,true,true,true,true,true,false,false] (h:=?_)
    refine pu 21 (some 38) #[true,true,true,true,true,true,true,true,true,true,true,true,true,true,true,true,true,true,true,true,true,true,false] (h:=?_)
    refine last_ (i:=22) (N:=none) #[true,true,true,true,true,true,true,true,true,true,true,true,true,true,true,true,true,true,true,true,true,true,true] rfl rfl (Za8 HT_.out (by kernel_rfl)) (by decide) (fun K hK=>?_)
    have hs33:w30.cell? ⟨qf,2,none⟩=some (.int .i64 a0_2):=k0 qa 2
    have hfs33:=Zaa qa.o 2
    have hns33_1:=qd.o
    have hms33_1:=qe.o
    refine skip_ (w1:=?_) (by rfl) rfl ?_ ?_
    rotate_left
    ·go_simp
     rfl
    refine hK.out _ _ ?_
    clear hK K
    refine done_ (Zdg HT_.out (by kernel_rfl)) ?_
    have jf:=qe.o
    have ji:=qd.o
    obtain ⟨_,_,_,_,_,_⟩:=cEc qa.o
    obtain ⟨_,_,_,_,_,_⟩:=cEc qc.o
    try go_wp2
    refine bodyPost_ret (results_cell_row rfl _ _ qg 106 #[.bool a0_0,.slice qx ql.length qy,.int .i64 a1] (0,0) _ rfl (by refine bp ?_;refine Zab (cs:=#[.bool a0_0,.slice qx ql.length qy,.int .i64 0]) ?_ 2 _ rfl;refine bp ?_;refine Zab (cs:=#[.bool a0_0,.slice none 0 0,.int .i64 0]) ?_ 1 _ rfl;refine bp ?_;refine Zab (cs:=#[.bool false,.slice none 0 0,.int .i64 0]) ?_ 0 _ rfl;refine bq ?_ qd;refine bq ?_ qd;exact bp qc.o) Tryz.underlying106 rfl (by kernel_rfl)) rfl ?_
    exact ⟨_,pE,Kd.Zr (Kd.R_V (Kd.Zc (Kd.Zi (Kd.Zj (p:=⟨qg,2,none⟩) (Kd.Zj (p:=⟨qg,1,none⟩) (Kd.Zj (p:=⟨qg,0,none⟩) (Kd.Zj (p:=⟨qf,2,none⟩) (Kd.Zj (p:=⟨qf,1,none⟩) (Kd.Zg (Kd.Zg qr.o qa.o (by decide)) qc.o (by decide)) (fun _ hk=>hk.1.2) (.slice qx ql.length qy)) (fun _ hk=>hk.1.2) (.int .i64 a1)) (fun _ hk=>hk.2) (.bool a0_0)) (fun _ hk=>hk.2) (.slice qx ql.length qy)) (fun _ hk=>hk.2) (.int .i64 a1)) (fun _ hk=>hk.1.1.1)) pl)) (fun k_ hk=>by first|exact ⟨(.inr (hk.1)),hk.2⟩|exact (.inr (hk))),pB⟩
end YtjbjkmccfocikaaGreatDoor.B
end
end Go.Proofs
