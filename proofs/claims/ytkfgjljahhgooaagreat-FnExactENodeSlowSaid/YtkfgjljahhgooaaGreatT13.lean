/- The texts of the proof, part 13: the base, walks of functions, plain Lean. -/
import Derived.Test.YtkfgjljahhgooaaGreatT12
import Derived.Test.YtkfgjljahhgooaaGreatT5
import Derived.Test.YtkfgjljahhgooaaGreatRows
namespace Go.Proofs.SL
open Go
theorem atI_id (l:List D_Inst) (id:D_Id):(atI l id).1=id:=by
 unfold atI
 cases h:getI l id with
 | none=>rfl
 | some x=>exact (getI_some h).2
theorem atI_or (l:List D_Inst) (id:D_Id):atI l id∈l∨atI l id=((id.1,id.2),(-1),(-1),0,(0,0,0,ByteArray.empty,ByteArray.empty,ByteArray.empty,0,([]:List ByteArray)),0,([]:List D_Id),false):=by
 unfold atI
 cases h:getI l id with
 | none=>exact .inr rfl
 | some x=>exact .inl (getI_some h).1
theorem smallI_at {l:List D_Inst} (h:smallL l) (id:D_Id):smallI (atI l id):=by
 rcases atI_or l id with q | q
 ·exact h _ q
 ·rw [q];exact ⟨Nat.zero_le _,Nat.zero_le _⟩
structure LeadF (l:D_Lead):Prop where
 id:idOkB l.1=true
 bal:0≤l.2.1∧l.2.1≤600
 ph:1≤l.2.2.1∧l.2.2.1≤3
 seq:0≤l.2.2.2.1∧l.2.2.2.1≤60
 deps:idsOkB l.2.2.2.2.1=true
 self:(l.2.2.2.2.1.any fun y=>idEq y l.1)=false
 frm:nodesOk l.2.2.2.2.2.1=true
theorem leadF {l:D_Lead} (h:leadOkB l=true):LeadF l:=by
 unfold leadOkB at h
 simp only [Bool.and_eq_true,decide_eq_true_eq,Bool.not_eq_true'] at h
 obtain ⟨⟨⟨⟨⟨⟨h1,h2⟩,h3⟩,h4⟩,h5⟩,h6⟩,h7⟩:=h
 exact ⟨h1,h2,h3,h4,h5,h6,h7⟩
theorem leadF.ok {l:D_Lead} (h:LeadF l):leadOkB l=true:=by
 unfold leadOkB
 simp only [Bool.and_eq_true,decide_eq_true_eq,Bool.not_eq_true']
 exact ⟨⟨⟨⟨⟨⟨h.id,h.bal⟩,h.ph⟩,h.seq⟩,h.deps⟩,h.self⟩,h.frm⟩
structure InstF (x:D_Inst):Prop where
 id:idOkB x.1=true
 bal:-1≤x.2.1∧x.2.1≤600
 vbal:-1≤x.2.2.1∧x.2.2.1≤x.2.1
 st:0≤x.2.2.2.1∧x.2.2.2.1≤3
 cmd:cmdOkB x.2.2.2.2.1=true
 seq:0≤x.2.2.2.2.2.1∧x.2.2.2.2.2.1≤60
 deps:idsOkB x.2.2.2.2.2.2.1=true
 self:(x.2.2.2.2.2.2.1.any fun y=>idEq y x.1)=false
 none:x.2.2.2.1=0→x.2.2.1=-1∧x.2.2.2.2.1.1=0∧x.2.2.2.2.2.1=0∧x.2.2.2.2.2.2.1=[]∧x.2.2.2.2.2.2.2=false
theorem instF_iff {x:D_Inst}:instOkB x=true↔InstF x:=by
 unfold instOkB
 simp only [Bool.and_eq_true,decide_eq_true_eq,Bool.not_eq_true',Bool.or_eq_true,decide_eq_false_iff_not]
 constructor
 ·rintro ⟨⟨⟨⟨⟨⟨⟨⟨h1,h2⟩,h3⟩,h4⟩,h5⟩,h6⟩,h7⟩,h8⟩,h9⟩
  refine ⟨h1,h2,h3,h4,h5,h6,h7,h8,fun h0=>?_⟩
  rcases h9 with h9 | ⟨⟨⟨⟨k1,k2⟩,k3⟩,k4⟩,k5⟩
  ·exact absurd h0 h9
  ·exact ⟨k1,k2,k3,List.eq_nil_of_length_eq_zero (by omega),k5⟩
 ·intro h
  refine ⟨⟨⟨⟨⟨⟨⟨⟨h.id,h.bal⟩,h.vbal⟩,h.st⟩,h.cmd⟩,h.seq⟩,h.deps⟩,h.self⟩,?_⟩
  by_cases h0:x.2.2.2.1=0
  ·obtain ⟨k1,k2,k3,k4,k5⟩:=h.none h0
   exact .inr ⟨⟨⟨⟨k1,k2⟩,k3⟩,by rw [k4];rfl⟩,k5⟩
  ·exact .inl h0
def accI (x:D_Inst) (l:D_Lead):D_Inst:=(x.1,x.2.1,l.2.1,2,x.2.2.2.2.1,l.2.2.2.1,l.2.2.2.2.1,false)
theorem at_bal {is:List D_Inst} (h:instsOkB is=true) {l:D_Lead} (hl:LeadF l) (hb:(atI is l.1).2.1=l.2.1):InstF (atI is l.1):=by
 rcases atI_or is l.1 with q | q
 ·exact instF_iff.1 ((instsOk_facts h).1 _ q)
 ·rw [q] at hb
  have:=hl.bal
  dsimp only at hb
  omega
theorem accI_ok {is:List D_Inst} (h:instsOkB is=true) {l:D_Lead} (hl:LeadF l) (hb:(atI is l.1).2.1=l.2.1):instOkB (accI (atI is l.1) l)=true:=by
 have hx:=at_bal h hl hb
 have he:=atI_id is l.1
 refine instF_iff.2 ⟨hx.id,hx.bal,⟨by have:=hl.bal;show -1≤l.2.1;omega,by show l.2.1≤(atI is l.1).2.1;omega⟩,⟨by show (0:Int)≤2;omega,by show (2:Int)≤3;omega⟩,hx.cmd,hl.seq,hl.deps,?_,fun h0=>by cases h0⟩
 show (l.2.2.2.2.1.any fun y=>idEq y (atI is l.1).1)=false
 rw [he];exact hl.self
noncomputable def accD (d:D_ENode) (l:D_Lead):D_ENode×List D_EMsg :=
 if (atI d.2.2.1 l.1).2.1=l.2.1 then ((d.1,d.2.1,putI d.2.2.1 (accI (atI d.2.2.1 l.1) l),putLd d.2.2.2 (l.1,l.2.1,2,l.2.2.2.1,l.2.2.2.2.1,[],l.2.2.2.2.2.2)),bothD d.1 (3,0,0,l.1,l.2.1,(atI d.2.2.1 l.1).2.2.2.2.1,l.2.2.2.1,l.2.2.2.2.1,0,(-1),false))
 else ((d.1,d.2.1,d.2.2.1,dropL d.2.2.2 l.1),[])
theorem bind_of {α β:Type} {o:Option α} {a:α} {k:α→Option β} {r:Option β} (h:o=some a) (hk:k a=r):Option.bind o k=r:=by rw [h];exact hk
theorem s_l9Say_eq (d:D_ENode) {x:D_Inst} (h:smallI x) (k b:Int):s_l9Say d k x b=some (bothD d.1 (k,0,0,x.1,b,x.2.2.2.2.1,x.2.2.2.2.2.1,x.2.2.2.2.2.2.1,0,(-1),false)):=by
 unfold s_l9Say
 exact bind_of (s_l9Both_eq d (m:=(k,0,0,x.1,b,x.2.2.2.2.1,x.2.2.2.2.2.1,x.2.2.2.2.2.2.1,0,0,false)) h) rfl
theorem s_l9Accept_eq {d:D_ENode} {l:D_Lead} (hi:instsOkB d.2.2.1=true) (hs:smallL d.2.2.1) (hl:smallLd l) (h:d.2.2.2.length≤1000):s_l9Accept d l=some (accD d l):=by
 have hln:=insts_len hi
 unfold s_l9Accept accD
 rw [show s_InstAt d.2.2.1 (l.1.1,l.1.2)=_ from s_InstAt_eq (by omega) hs l.1,Option.bind_some]
 have he:=atI_id d.2.2.1 l.1
 have hsx:=smallI_at hs l.1
 generalize atI d.2.2.1 l.1=x at he hsx
 by_cases hb:x.2.1=l.2.1
 ·rw [decide_eq_true hb,Bool.not_true,cond_false,if_pos hb,Option.bind_some,appP_ok (by have:=hl.1;simp;omega),Option.bind_some,List.nil_append]
  refine bind_of (s_l8Put_eq hi (accI x l)) ?_
  rw [Option.bind_some]
  refine bind_of (s_l9Put_eq (d:=(d.1,d.2.1,putI d.2.2.1 (accI x l),d.2.2.2)) (by show d.2.2.2.length≤_;omega) (l.1,l.2.1,2,l.2.2.2.1,l.2.2.2.2.1,[],l.2.2.2.2.2.2)) ?_
  refine bind_of (s_l9Say_eq _ (x:=accI x l) ⟨hsx.1,hl.1⟩ 3 l.2.1) ?_
  show some (_,bothD d.1 (3,0,0,x.1,l.2.1,x.2.2.2.2.1,l.2.2.2.1,l.2.2.2.2.1,0,(-1),false))=_
  rw [he]
 ·rw [decide_eq_false hb,Bool.not_false,cond_true,if_neg hb,show s_l9Drop _ _=_ from s_l9Drop_eq (d:=d) (by omega) l.1];rfl
theorem putLd_at {ls:List D_Lead} {k:Nat} {l:D_Lead} (hf:(ls.findIdx? fun y=>idEq y.1 l.1)=some k):putLd ls l=ls.set k l:=by
 unfold putLd;rw [hf]
structure NodeS (d:D_ENode):Prop where
 ok:Ok.ok d
 is:instsOkB d.2.2.1=true
 sm:smallL d.2.2.1
 ls:d.2.2.2.length≤1000
 lsm:∀ l,l∈d.2.2.2→smallLd l
theorem settle2_eq {d:D_ENode} (hd:NodeS d) {k:Nat} {l:D_Lead} (hk:d.2.2.2[k]?=some l) (hf:(d.2.2.2.findIdx? fun y=>idEq y.1 l.1)=some k) (hlf:LeadF l):i_ENode_settle d (k:Int) 2=some ((accD d l).2,(accD d l).1):=by
 have hln:=insts_len hd.is
 have hl:=hd.lsm l (List.mem_of_getElem? hk)
 have hol:Ok.ok l:=hd.ok.2.2.2.2 l (List.mem_of_getElem? hk)
 have hlt:=(List.getElem?_eq_some_iff.1 hk).1
 unfold i_ENode_settle accD
 rw [idx_nat,hk,Option.bind_some,show i_InstAt d.2.2.1 (l.1.1,l.1.2)=_ from i_InstAt_eq (by omega) hd.sm l.1,Option.bind_some]
 have he:=atI_id d.2.2.1 l.1
 have hsx:=smallI_at hd.sm l.1
 have hok:=accI_ok hd.is hlf
 have hor:=atI_or d.2.2.1 l.1
 generalize atI d.2.2.1 l.1=x at he hsx hok hor
 by_cases hb:x.2.1=l.2.1
 ·have hox:Ok.ok x:=by
   rcases hor with q | q
   ·exact hd.ok.2.2.1.2 _ q
   ·rw [q] at hb
    have:=hlf.bal
    dsimp only at hb
    omega
  have hoa:Ok.ok (accI x l):=⟨hox.1,hox.2.1,hol.2.1,by show inR 2;unfold inR;omega,hox.2.2.2.2.1,hol.2.2.2.1,hol.2.2.2.2.1,trivial⟩
  rw [decide_eq_true hb,Bool.not_true,cond_false,if_pos hb,i_copyIds_eq (by have:=hl.1;omega),Option.bind_some,show decide ((2:Int)=2)=true from rfl,cond_true,Option.bind_some,Option.bind_some,Int.toNat_natCast,idx_nat,List.getElem?_set_self hlt,Option.bind_some,Option.bind_some,List.set_set]
  have hp:=i_put_eq (d:=(d.1,d.2.1,d.2.2.1,d.2.2.2.set k (l.1,l.2.1,2,l.2.2.2.1,l.2.2.2.2.1,[],l.2.2.2.2.2.2))) (x:=accI x l) hd.ok.2.2.1 hoa hd.is hd.sm ⟨hsx.1,hl.1⟩
  rw [hok hb,if_pos rfl] at hp
  refine bind_of hp ?_
  refine bind_of (i_sent_eq (d.1,d.2.1,putI d.2.2.1 (accI x l),d.2.2.2.set k (l.1,l.2.1,2,l.2.2.2.1,l.2.2.2.2.1,[],l.2.2.2.2.2.2)) (m:=(3,0,0,l.1,l.2.1,x.2.2.2.2.1,l.2.2.2.1,l.2.2.2.2.1,0,(-1),false)) ⟨hsx.1,hl.1⟩ rfl) ?_
  rw [putLd_at (l:=(l.1,l.2.1,2,l.2.2.2.1,l.2.2.2.2.1,[],l.2.2.2.2.2.2)) hf]
 ·rw [decide_eq_false hb,Bool.not_false,cond_true,if_neg hb,show i_ENode_drop _ _=_ from i_drop_eq (d:=d) (by have:=hd.ls;omega) l.1];rfl
end Go.Proofs.SL
namespace Go.Proofs.SL
open Go
structure NodeF (d:D_ENode):Prop where
 me:0≤d.1∧d.1 < 3
 nx:1≤d.2.1∧d.2.1≤7
 is:instsOkB d.2.2.1=true
 ll:d.2.2.2.length≤8
 own:∀ x,x∈d.2.2.1→x.1.1=d.1→x.1.2 < d.2.1
 ld:∀ (k:Nat) (l:D_Lead),d.2.2.2[k]?=some l→LeadF l∧(d.2.2.2.findIdx? fun y=>idEq y.1 l.1)=some k
theorem nodeF {d:D_ENode} (h:nodeOkB d=true):NodeF d:=by
 unfold nodeOkB at h
 simp only [Bool.and_eq_true,decide_eq_true_eq,List.all_eq_true,Bool.not_eq_true',Bool.and_eq_false_iff,decide_eq_false_iff_not,List.mem_range] at h
 obtain ⟨⟨⟨⟨⟨h1,h2⟩,h3⟩,h4⟩,h5⟩,h6⟩:=h
 refine ⟨h1,h2,h3,h4,fun x hx he=>?_,fun k l hk=>?_⟩
 ·rcases h5 x hx with q | q
  ·exact absurd he q
  ·omega
 ·have:=h6 k (List.getElem?_eq_some_iff.1 hk).1
  unfold leadAt at this
  rw [hk] at this
  simp only [Bool.and_eq_true,decide_eq_true_eq] at this
  refine ⟨leadF this.1,?_⟩
  have h7:=this.2
  unfold firstI at h7
  cases hf:d.2.2.2.findIdx? fun y=>idEq y.1 l.1 with
  | none=>rw [hf] at h7;simp only at h7;omega
  | some j=>rw [hf] at h7;simp only at h7;exact congrArg some (by omega)
theorem nodeF.s {d:D_ENode} (h:NodeF d) (ho:Ok.ok d) (hn:smallN d):NodeS d:=⟨ho,h.is,hn.2.1,by have:=h.ll;omega,hn.2.2.2⟩
def zeroN:D_ENode:=(0,0,([]:List D_Inst),([]:List D_Lead))
noncomputable def slowG (d:D_ENode) (id:D_Id):D_ENode×(List D_EMsg)×Bool:=match d.2.2.2.find? fun y=>idEq y.1 id with
 | none=>(d,[],false)
 | some l=>if decide (l.2.2.1=1)&&!decide ((l.2.2.2.2.2.1.length:Int)=0) then ((accD d l).1,(accD d l).2,true) else (d,[],false)
noncomputable def slowD (d:D_ENode) (id:D_Id):D_ENode×(List D_EMsg)×Bool:=if nodeOkB d then slowG d id else (zeroN,[],false)
theorem putLd_mem {ls:List D_Lead} {l x:D_Lead} (h:x∈putLd ls l):x∈ls∨x=l:=by
 unfold putLd at h
 split at h
 ·exact List.mem_or_eq_of_mem_set h
 ·rcases List.mem_append.1 h with q | q
  ·exact .inl q
  ·exact .inr (List.mem_singleton.1 q)
theorem putLd_len (ls:List D_Lead) (l:D_Lead):(putLd ls l).length≤ls.length+1:=by
 unfold putLd
 split<;>simp
theorem putI_len (l:List D_Inst) (x:D_Inst):(putI l x).length≤2*l.length+1:=by
 unfold putI
 have h1:=List.length_filter_le (fun y:D_Inst=>idLt y.1 x.1) l
 have h2:=List.length_filter_le (fun y:D_Inst=>idLt x.1 y.1) l
 simp only [List.length_append,List.length_cons]
 omega
theorem accD_small {d:D_ENode} (hd:NodeS d) {l:D_Lead} (hl:smallLd l):smallN (accD d l).1:=by
 have h1:=insts_len hd.is
 have h2:=hd.ls
 unfold accD
 split
 ·refine ⟨?_,small_put hd.sm ⟨(smallI_at hd.sm l.1).1,hl.1⟩,?_,fun x hx=>?_⟩
  ·have:=putI_len d.2.2.1 (accI (atI d.2.2.1 l.1) l)
   show (putI _ _).length≤_
   omega
  ·have:=putLd_len d.2.2.2 (l.1,l.2.1,2,l.2.2.2.1,l.2.2.2.2.1,[],l.2.2.2.2.2.2)
   show (putLd _ _).length≤_
   omega
  ·rcases putLd_mem hx with q | q
   ·exact hd.lsm x q
   ·subst q;exact ⟨hl.1,Nat.zero_le _⟩
 ·refine ⟨by show d.2.2.1.length≤_;omega,hd.sm,?_,fun x hx=>hd.lsm x (List.mem_filter.1 hx).1⟩
  have:=List.length_filter_le (fun y:D_Lead=>!idEq y.1 l.1) d.2.2.2
  show (dropL _ _).length≤_
  unfold dropL
  omega
theorem s_ENodeSlow_eq {d:D_ENode} (id:D_Id) (ho:Ok.ok d) (hn:smallN d):s_ENodeSlow d id=some (slowD d id):=by
 unfold s_ENodeSlow slowD
 rw [show s_ENodeOk _=_ from s_ENodeOk_eq (d:=d) ho,Option.bind_some]
 cases hk:nodeOkB d with
 | false=>rfl
 | true =>
  have hf:=nodeF hk
  have hs:=nodeF.s hf ho hn
  have hll:=hf.ll
  rw [Bool.not_true,cond_false,if_pos rfl,show s_l9Copy _=some d from s_l9Copy_eq hn,Option.bind_some,show s_l9At _ _=_ from s_l9At_eq (d:=d) (x:=id) (by omega),Option.bind_some]
  unfold slowG
  rcases firstI_opt (fun y:D_Lead=>idEq y.1 id) d.2.2.2 with ⟨h1,h2⟩ | ⟨k,l,h1,h2,h3⟩
  ·rw [h1,h2];rfl
  ·have hm:=List.mem_of_getElem? h2
   rw [h1,h3,show decide ((k:Int) < 0)=false from decide_eq_false (by omega)]
   simp only [idx_nat,h2,Bool.not_false,Bool.false_or,gb_true,Option.bind_some]
   by_cases hp:l.2.2.1=1
   ·simp only [decide_eq_true hp,Bool.not_true,Bool.not_false,gb_true,Option.bind_some,Bool.false_or,Bool.true_and]
    cases hz:decide ((l.2.2.2.2.2.1.length:Int)=0) with
    | true=>rfl
    | false =>
     rw [cond_false,Bool.not_false,if_pos rfl]
     refine bind_of (s_l9Accept_eq (d:=d) (l:=l) hs.is hs.sm (hs.lsm l hm) hs.ls) ?_
     exact bind_of (s_l9Copy_eq (d:=(accD d l).1) (accD_small hs (hs.lsm l hm))) rfl
   ·simp only [decide_eq_false hp,Bool.not_true,Bool.not_false,gb_false,Bool.true_or,cond_true,Bool.false_and,Bool.false_eq_true,if_false]
theorem i_ENodeSlow_eq {d:D_ENode} (id:D_Id) (ho:Ok.ok d) (hn:smallN d):i_ENodeSlow d id=some (slowD d id):=by
 unfold i_ENodeSlow slowD
 rw [show i_ENodeOk _=_ from i_ENodeOk_eq (d:=d) ho,Option.bind_some]
 cases hk:nodeOkB d with
 | false=>rfl
 | true =>
  have hf:=nodeF hk
  have hs:=nodeF.s hf ho hn
  have hll:=hf.ll
  rw [Bool.not_true,cond_false,if_pos rfl,show i_copyENode _=some d from i_copyENode_eq hn,Option.bind_some,show i_ENode_lead _ _=_ from i_lead_eq (d:=d) (x:=id) (by omega),Option.bind_some]
  unfold slowG
  rcases firstI_opt (fun y:D_Lead=>idEq y.1 id) d.2.2.2 with ⟨h1,h2⟩ | ⟨k,l,h1,h2,h3⟩
  ·rw [h1,h2];rfl
  ·have hm:=List.mem_of_getElem? h2
   rw [h1,h3,show decide ((k:Int) < 0)=false from decide_eq_false (by omega)]
   simp only [idx_nat,h2,Bool.not_false,Bool.false_or,gb_true,Option.bind_some]
   by_cases hp:l.2.2.1=1
   ·simp only [decide_eq_true hp,Bool.not_true,Bool.not_false,gb_true,Option.bind_some,Bool.false_or,Bool.true_and]
    cases hz:decide ((l.2.2.2.2.2.1.length:Int)=0) with
    | true=>rfl
    | false =>
     rw [cond_false,Bool.not_false,if_pos rfl]
     exact bind_of (settle2_eq hs h2 (hf.ld k l h2).2 (hf.ld k l h2).1) rfl
   ·simp only [decide_eq_false hp,Bool.not_true,Bool.not_false,gb_false,Bool.true_or,cond_true,Bool.false_and,Bool.false_eq_true,if_false]
end Go.Proofs.SL
namespace Go.Proofs.SL
open Go
end Go.Proofs.SL
namespace Go.Proofs.SL
open Go
theorem eqx {a b:Value} (h:a=b:=by
  first
   | (refine congrArg Value.bool (Eq.symm (eqB_false.2 fun e=>?_));simp only [dat_pair,dat_int,dat_bool,dat_str,Prod.mk.injEq,eqB_nf,eqB_nt] at *;simp_all;done)
   | (refine congrArg Value.bool (Eq.symm (eqB_true.2 ?_));simp only [dat_pair,dat_int,dat_bool,dat_str,Prod.mk.injEq,eqB_nf,eqB_nt] at *;simp_all;done)
   | (refine congrArg Value.bool (Eq.symm (eqB_false.2 fun e=>?_));try simp only [dat_pair,dat_int,dat_bool,dat_str,Prod.mk.injEq] at e;simp_all;done)
   | (refine congrArg Value.bool (Eq.symm (eqB_true.2 ?_));try simp only [dat_pair,dat_int,dat_bool,dat_str,Prod.mk.injEq];simp_all;done)):a=b:=h
theorem eqy {a b:Value} (h:a=b:=by
  first
   | (refine congrArg Value.bool (Eq.symm (eqB_false.2 fun e=>?_));try simp only [dat_pair,dat_int,dat_bool,dat_str,Prod.mk.injEq] at e;simp_all;done)
   | (refine congrArg Value.bool (Eq.symm (eqB_true.2 ?_));try simp only [dat_pair,dat_int,dat_bool,dat_str,Prod.mk.injEq];simp_all;done)):a=b:=h
end Go.Proofs.SL
namespace Go.Proofs.SL
open Go
set_option maxHeartbeats 2000000
instance el22:ElF Tryz.prog 22 5 1 1 [.int .u8 0]:=⟨by kernel_rfl⟩
instance und22:UndF Tryz.prog 22 (.slice 5):=⟨by kernel_rfl⟩
instance und5:UndF Tryz.prog 5 (.int .u8):=⟨by kernel_rfl⟩
instance und9:UndF Tryz.prog 9 (.string):=⟨by kernel_rfl⟩
theorem eqIntS_spec (w:World) (t1 t2:TL Int) (h1:GT.rd w [] t1) (h2:GT.rd w [] t2):Spec Tryz.prog 183 [t1.hdr,t2.hdr].toArray w [] (IsV (.bool (eqB (GT.dat t1) (GT.dat t2)))):=by
 obtain ⟨a1,c1,e1,x1,y1⟩:=t1
 obtain ⟨a2,c2,e2,x2,y2⟩:=t2
 have hm1:x1.length≤9223372036854775807:=rd_len h1
 have hm2:x2.length≤9223372036854775807:=rd_len h2
 dsimp only [TL.hdr]
 refine Spec.intro Tryz.func183 rfl Tryz.ntmps183 rfl ?_
 refine s8 ?_
 refine L_lenS rfl rfl el87.h ?_
 refine s1 ?_
 refine L_lenS rfl rfl el87.h ?_
 refine s2 ?_
 refine kp [0,1,10] ?_
 refine W_cond rfl (fun q1=>?_) (fun q1=>?_)
 ·refine s5 ?_
  refine res1 rfl (ResOK.tmp rfl) ⟨?_,rfl⟩ ms
  refine congrArg Value.bool (Eq.symm (eqB_false.2 fun e=>?_))
  simp at q1
  exact q1 (by have:=congrArg List.length e;simp [dat_TL] at this;omega)
 ·have hl:x1.length=x2.length:=by simp at q1;omega
  refine s7 ?_
  refine W_loopC (σ:=Nat) 0 (fun (k:Nat)=>[(5,.int .i64 (k:Int))]) (fun (k:Nat)=>[]) (fun (k:Nat)=>k≤x1.length∧(x1.map GT.dat).take k=(x2.map GT.dat).take k) (fun (k:Nat)=>x1.length - k) [(0,_),(1,_)] [] ?_ sb ms ?_
  ·exact ⟨Nat.zero_le _,rfl⟩
  ·rintro k ⟨hk,ht⟩
   refine kq [0,1,5] ?_
   refine s5 ?_
   refine L_lenS rfl rfl el87.h ?_
   refine s2 ?_
   refine kp [0,1,5,14] ?_
   refine W_cond rfl (fun q4=>?_) (fun q4=>?_)
   ·have hk1:k < x1.length:=by simpa using q4
    obtain ⟨g1,o1,rfl⟩:=rd_addr h1 hk1
    obtain ⟨g2,o2,rfl⟩:=rd_addr (k:=k) h2 (show k < x2.length by omega)
    obtain ⟨u1,hu1⟩:=getEl hk1
    obtain ⟨u2,hu2⟩:=getEl (show k < x2.length by omega)
    refine s4 ?_
    refine W_D0 [25] mix (by kernel_rfl) rfl ?_
    refine s2 ?_
    refine D_indexAddr _ GC.none (OpV.t rfl) (OpV.t rfl) el87.h (fun hg=>⟨rfl,by (try dsimp only);omega⟩) ?_
    refine D_load0 GC.none (OpV.t rfl) (fun hg=>(by first | exact RdC.blk mm | exact RdC.old (Cells.el h1 rfl hu1) | exact RdC.old (Cells.el h2 rfl hu2))) one3.h rfl ?_
    refine s2 ?_
    refine D_indexAddr _ GC.none (OpV.t rfl) (OpV.t rfl) el87.h (fun hg=>⟨rfl,by (try dsimp only);omega⟩) ?_
    refine D_load0 GC.none (OpV.t rfl) (fun hg=>(by first | exact RdC.blk mm | exact RdC.old (Cells.el h1 rfl hu1) | exact RdC.old (Cells.el h2 rfl hu2))) one3.h rfl ?_
    refine s12 ?_
    refine kp [0,1,5,25] ?_
    refine W_cond rfl (fun q6=>?_) (fun q6=>?_)
    ·refine s5 ?_
     refine res1 rfl (ResOK.tmp rfl) ⟨?_,rfl⟩ ms
     refine congrArg Value.bool (Eq.symm (eqB_false.2 fun e=>?_))
     simp at q6
     replace e:x1.map GT.dat=x2.map GT.dat:=e
     have e2:=congrArg (fun l=>l[k]?) e
     simp only [List.getElem?_map,hu1,hu2,Option.map_some,Option.some.injEq] at e2
     exact q6 (by simpa [dat_int,dat_str,dat_bool] using e2)
    ·refine s3 ?_
     refine L_binV rfl rfl rfl (bv_addR (by unfold inR;omega)) ?_
     refine s2 ?_
     refine ⟨k+1,sb,ms,?_,?_⟩
     ·exact ⟨by omega,take_succ_eq ht (by rw [List.getElem?_map,hu1];rfl) (by rw [List.getElem?_map,hu2];rfl) (by simpa [dat_int,dat_str,dat_bool] using q6)⟩
     ·(try dsimp only);omega
   ·refine W_exit ?_
    refine s5 ?_
    refine res1 rfl (ResOK.tmp rfl) ⟨?_,rfl⟩ ms
    refine congrArg Value.bool (Eq.symm (eqB_true.2 ?_))
    have hk2:x1.length≤k:=by simpa using q4
    have h3:=ht
    rw [List.take_of_length_le (by simp;omega),List.take_of_length_le (by simp;omega)] at h3
    exact h3
theorem szIntS_spec (w:World) (t1:TL Int) (left:Int) (hl:0≤left) (hm:left≤1048576) (h1:GT.rd w [] t1) (ho:Ok.ok (GT.dat t1)):Spec Tryz.prog 180 [t1.hdr,.int .i64 left].toArray w [] (IsV (.int .i64 (if (Bk.bulk t1:Int)≤left then left - (Bk.bulk t1:Int) else -1))):=by
 obtain ⟨a1,c1,e1,x1,y1⟩:=t1
 have hm1:x1.length≤9223372036854775807:=rd_len h1
 rw [bulk_TL]
 dsimp only [TL.hdr]
 have hz:bulks x1=0:=by
  clear hm1 h1 ho
  induction x1 with
  | nil=>rfl
  | cons y ys ih=>simp only [bulks,ih];rfl
 refine Spec.intro Tryz.func180 rfl Tryz.ntmps180 rfl ?_
 refine s8 ?_
 refine L_lenS rfl rfl el87.h ?_
 refine L_binV rfl rfl rfl (bv_subR (by unfold inR;omega)) ?_
 refine s8 ?_
 refine kp [1,10] ?_
 refine W_cond rfl (fun q2=>?_) (fun q2=>?_)
 ·have hb0:left - (x1.length:Int) < 0:=by simpa using q2
  refine s5 ?_
  refine res1 rfl (ResOK.tmp rfl) ⟨?_,rfl⟩ ms
  simp only [hz,Nat.add_zero]
  first
   | (rw [if_pos (by omega)];done)
   | (rw [if_neg (by omega)])
 ·have hb0:¬ (left - (x1.length:Int) < 0):=by simpa using q2
  skip
  refine s7 ?_
  refine res1 rfl (ResOK.tmp rfl) ⟨?_,rfl⟩ ms
  simp only [hz,Nat.add_zero]
  first
   | (rw [if_pos (by omega)];done)
   | (rw [if_neg (by omega)])
theorem toIntS_spec (w:World) (t1:TL Int) (h1:GT.rd w [] t1) (hb:Bk.bulk t1≤1048576):Spec Tryz.prog 182 [t1.hdr].toArray w [] (fun v M=>∃ t2:TL Int,v=t2.hdr∧GT.dat t2=GT.dat t1∧M=[treeH t2]):=by
 obtain ⟨a1,c1,e1,x1,y1⟩:=t1
 rw [bulk_TL] at hb
 dsimp only [TL.hdr]
 refine Spec.intro Tryz.func182 rfl Tryz.ntmps182 rfl ?_
 refine s7 ?_
 refine L_lenS rfl rfl el87.h ?_
 refine L_make (τ:=Int) (0:Int) rfl rfl rfl el87.h rfl rfl (flat_int trivial) (by omega) (by unfold maxLen;omega) (fun g=>?_)
 refine s8 ?_
 refine W_loopC (σ:=Nat×List Int) (0,List.replicate x1.length (0:Int)) (fun (p:Nat×List Int)=>[(4,.int .i64 (p.1:Int))]) (fun (p:Nat×List Int)=>[treeH (⟨some ⟨g,0,none⟩,x1.length,3,p.2,[]⟩:TL Int)]) (fun (p:Nat×List Int)=>p.1≤x1.length∧p.2.length=x1.length∧(p.2.take p.1).map GT.dat=(x1.take p.1).map GT.dat) (fun (p:Nat×List Int)=>x1.length - p.1) [(0,_),(3,_)] [] ?_ sb ms ?_
 ·exact ⟨Nat.zero_le _,by simp,by simp⟩
 ·rintro ⟨k,cur⟩ ⟨hk,hlen,hdat⟩
  dsimp only at hk hlen hdat
  refine kq [0,3,4] ?_
  refine s5 ?_
  refine L_lenS rfl rfl el87.h ?_
  refine s2 ?_
  refine kp [0,3,4,11] ?_
  refine W_cond rfl (fun q3=>?_) (fun q3=>?_)
  ·have hk1:k < x1.length:=by simpa using q3
   obtain ⟨g1,o1,rfl⟩:=rd_addr h1 hk1
   obtain ⟨u1,hu1⟩:=getEl hk1
   have hub:Bk.bulk u1≤1048576:=by have:=bulk_mem (List.mem_of_getElem? hu1);omega
   refine s8 ?_
   refine L_indexAddr rfl rfl rfl el87.h rfl (by omega) ?_
   refine L_load0 rfl rfl (by first | exact RdC.blk mm | exact RdC.old (Cells.el h1 rfl hu1)) one3.h rfl ?_
   refine L_indexAddr rfl rfl rfl el87.h rfl (by omega) ?_
   obtain ⟨u0,hu0⟩:=getEl (show k < cur.length by omega)
   refine L_storeElV u1 rfl rfl pk rfl hu0 rfl (flat_int (h1.2.2.1 _ (List.mem_of_getElem? hu1))) (.inr ⟨one3.h,rfl⟩) ?_
   refine s3 ?_
   refine L_binV rfl rfl rfl (bv_addR (by unfold inR;omega)) ?_
   refine s2 ?_
   refine ⟨(k+1,cur.set k u1),sb,ms,?_,?_⟩
   ·exact ⟨by dsimp only;omega,by simpa using hlen,map_take_set GT.dat GT.dat hdat (by omega) hu1 rfl⟩
   ·dsimp only;omega
  ·refine W_exit ?_
   refine s6 ?_
   refine res1 rfl (ResOK.tmp rfl) ⟨⟨some ⟨g,0,none⟩,x1.length,3,cur,[]⟩,?_,?_,rfl⟩ ms
   ·show _=Value.slice _ cur.length _
    rw [hlen]
   ·have hk2:x1.length≤k:=by simpa using q3
    rw [List.take_of_length_le (by omega),List.take_of_length_le (by omega)] at hdat
    exact hdat
theorem markText_spec (w:World) (k0:Nat) (hk0:0 < k0) (hm:k0 < 9223372036854775807):Spec Tryz.prog 78 [.int .i64 (k0:Int)].toArray w [] (IsV (.string (mtx k0))):=by
 refine Spec.intro Tryz.func78 rfl Tryz.ntmps78 rfl ?_
 refine s10 ?_
 refine kp [0,5] ?_
 refine W_cond rfl (fun q1=>?_) (fun q1=>?_)
 ·refine s5 ?_
  refine res1 rfl (ResOK.tmp rfl) ⟨?_,rfl⟩ ms
  exfalso;simp at q1;omega
 ·refine s7 ?_
  refine W_loopC (σ:=Nat×ByteArray) (k0,ByteArray.mk #[]) (fun (p:Nat×ByteArray)=>[(0,.int .i64 (p.1:Int)),(3,.string p.2)]) (fun (p:Nat×ByteArray)=>[]) (fun (p:Nat×ByteArray)=>mtxN p.1 p.2=mtxN k0 (ByteArray.mk #[])∧p.2.size+p.1≤k0) (fun (p:Nat×ByteArray)=>p.1) [] [] ?_ sb ms ?_
  ·refine ⟨rfl,?_⟩
   show (ByteArray.mk #[]).size+k0≤k0
   have:(ByteArray.mk #[]).size=0:=rfl
   omega
  ·rintro ⟨k,s⟩ ⟨hs,hz⟩
   refine kq [0,3] ?_
   refine s6 ?_
   refine kp [0,3,7] ?_
   refine W_cond rfl (fun q4=>?_) (fun q4=>?_)
   ·have hkp:0 < k:=by simpa using q4
    refine s5 ?_
    refine L_binV rfl rfl rfl (bv_remN k 10 (by omega)) ?_
    refine L_binV rfl rfl rfl (bv_addR (by unfold inR;omega)) ?_
    refine L_convInt rfl rfl und5.h (by rw [und3.h];rfl) ?_
    refine L_buildSlice1 rfl rfl el22.h rfl (by decide) (by decide) rfl (fun bb=>?_)
    refine L_bytesToStr (ns:=[IntKind.u8.wrap (48+((k % 10:Nat):Int))]) rfl rfl und22.h und5.h und9.h (RdC.blk mm) rfl rfl ?_
    refine s1 ?_
    refine L_binV rfl rfl rfl (bv_sadd (by rw [strOf_size1];omega)) ?_
    refine s4 ?_
    refine L_binV rfl rfl rfl (bv_quoN k 10 (by omega) (by omega)) ?_
    refine s2 ?_
    refine ⟨(k / 10,dg k++s),sb,ms,?_,?_⟩
    ·refine ⟨?_,?_⟩
     ·rw [← hs];exact (mtxN_step s hkp).symm
     ·dsimp only at hz ⊢
      rw [ByteArray.size_append,dg_size];omega
    ·dsimp only;omega
   ·refine W_exit ?_
    refine s1 ?_
    have hd1:({ data:=#[109] }:ByteArray).size=1:=rfl
    dsimp only at hz
    refine s2 ?_
    refine L_binV rfl rfl rfl (bv_sadd (by (try dsimp only);omega)) ?_
    refine s3 ?_
    refine res1 rfl (ResOK.tmp rfl) ⟨?_,rfl⟩ ms
    have hk2:k=0:=by simp at q4;omega
    subst hk2
    dsimp only at hs
    rw [mtxN_zero] at hs
    exact congrArg Value.string (by rw [hs];rfl)
theorem markIntS_spec (w:World) (t1:TL Int) (k0:Nat) (hk0:0 < k0) (hb:k0+Mk.cnt t1 < 9223372036854775807):Spec Tryz.prog 146 [t1.hdr,.int .i64 (k0:Int)].toArray w [treeH t1] (fun v M=>v=.int .i64 ((k0+Mk.cnt t1:Nat):Int)∧M=[treeH (Mk.mkd k0 t1)]):=by
 obtain ⟨a1,c1,e1,x1,y1⟩:=t1
 replace hb:k0+cnts x1 < 9223372036854775807:=hb
 dsimp only [TL.hdr]
 refine Spec.intro Tryz.func146 rfl Tryz.ntmps146 rfl ?_
 refine W_fact (fun w h=>ow_facts (h.prs _ (List.mem_cons_self ..))) fun hF=>?_
 replace hF:x1.length≤9223372036854775807∧(0 < x1.length→∃ g,a1=some ⟨g,0,none⟩):=hF
 refine s10 ?_
 refine W_conv (M':=[treeH (⟨a1,c1,e1,half k0 0 x1,y1⟩:TL Int)]) (fun w h=>by rw [half_zero];exact h) ?_
 refine W_loopC (σ:=Nat) 0 (fun (i:Nat)=>[(1,.int .i64 ((k0+cnts (x1.take i):Nat):Int)),(5,.int .i64 (i:Int))]) (fun (i:Nat)=>[treeH (⟨a1,c1,e1,half k0 i x1,y1⟩:TL Int)]) (fun (i:Nat)=>i≤x1.length) (fun (i:Nat)=>x1.length - i) [(0,_)] [] ?_ sb ms ?_
 ·exact Nat.zero_le _
 ·rintro i hi
  refine kq [0,1,5] ?_
  refine s5 ?_
  refine L_lenS rfl rfl el87.h ?_
  refine s2 ?_
  refine kp [0,1,5,9] ?_
  refine W_cond rfl (fun q2=>?_) (fun q2=>?_)
  ·have hk1:i < x1.length:=by simpa using q2
   obtain ⟨g,rfl⟩:=hF.2 (by omega)
   obtain ⟨u,hu⟩:=getEl hk1
   have hs:=cnts_take_succ hu
   have hle:=cnts_take_le x1 (i+1)
   have hlh:=half_length k0 i x1
   try simp only [cnt_int,cnt_str] at hs
   refine s8 ?_
   refine L_indexAddr rfl rfl rfl el87.h rfl (by omega) ?_
   refine L_storeElV (((k0+cnts (x1.take i)):Nat):Int) rfl rfl pk rfl (show ((half k0 i x1):List Int)[i]?=some (u:Int) from half_get (k:=k0) hu) rfl (flat_int trivial) (.inr ⟨one3.h,rfl⟩) ?_
   refine s3 ?_
   refine L_binV rfl rfl rfl (bv_addR (by unfold inR;omega)) ?_
   refine s2 ?_
   rw [show (((k0+cnts (x1.take i)):Nat):Int)+1=((((k0+cnts (x1.take i))+1):Nat):Int) from rfl]
   have hfin:((half k0 i x1).set i (((k0+cnts (x1.take i)):Nat):Int))=half k0 (i+1) x1:=by
    have h9:=half_set (k:=k0) hu
    try simp only [mk_pair,mk_int,mk_str,cnt_pair,cnt_int,cnt_str,← Nat.add_assoc] at h9
    try simp only [List.set_set]
    exact h9
   refine W_conv (M':=treeH (⟨some ⟨g,0,none⟩,c1,e1,(half k0 (i+1) x1),y1⟩:TL Int)::_) (fun w h=>by rw [← hfin];exact h) ?_
   have hE:((k0+cnts (x1.take i))+1)=k0+cnts (x1.take (i+1)):=by rw [hs];(try simp only [cnt_pair,cnt_int,cnt_str]);omega
   rw [hE]
   refine s2 ?_
   refine L_binV rfl rfl rfl (bv_addR (by unfold inR;omega)) ?_
   refine s2 ?_
   refine ⟨i+1,sb,ms,?_,?_⟩
   ·show i+1≤x1.length
    omega
   ·show x1.length - (i+1) < x1.length - i
    omega
  ·refine W_exit ?_
   refine s6 ?_
   have hk2:x1.length≤i:=by simpa using q2
   rw [half_all k0 hk2]
   refine res1 rfl (ResOK.tmp rfl) ⟨?_,rfl⟩ ms
   have hk2:x1.length≤i:=by simpa using q2
   rw [List.take_of_length_le hk2];rfl
theorem heldIntS_spec (w:World) (t1:TL Int) (k0:Nat) (hk0:0 < k0) (hb:k0+Mk.cnt t1 < 9223372036854775807) (h1:GT.rd w [] (Mk.mkd k0 t1)):Spec Tryz.prog 147 [(Mk.mkd k0 t1).hdr,.int .i64 (k0:Int)].toArray w [] (IsV (.int .i64 ((k0+Mk.cnt t1:Nat):Int))):=by
 obtain ⟨a1,c1,e1,x1,y1⟩:=t1
 replace hb:k0+cnts x1 < 9223372036854775807:=hb
 have hml:=mks_length x1 k0
 have hm1:(mks k0 x1).length≤9223372036854775807:=rd_len h1
 rw [mk_TL] at h1 ⊢
 dsimp only [TL.hdr]
 refine Spec.intro Tryz.func147 rfl Tryz.ntmps147 rfl ?_
 refine s10 ?_
 refine W_loopC (σ:=Nat) 0 (fun (i:Nat)=>[(1,.int .i64 ((k0+cnts (x1.take i):Nat):Int)),(5,.int .i64 (i:Int))]) (fun (i:Nat)=>[]) (fun (i:Nat)=>i≤x1.length) (fun (i:Nat)=>x1.length - i) [(0,_)] [] ?_ sb ms ?_
 ·exact Nat.zero_le _
 ·rintro i hi
  refine kq [0,1,5] ?_
  refine s5 ?_
  refine L_lenS rfl rfl el87.h ?_
  refine s2 ?_
  refine kp [0,1,5,9] ?_
  refine W_cond rfl (fun q2=>?_) (fun q2=>?_)
  ·have hk1:i < (mks k0 x1).length:=by simpa using q2
   obtain ⟨g,o1,rfl⟩:=rd_addr h1 hk1
   obtain ⟨u,hu⟩:=getEl (show i < x1.length by omega)
   have hs:=cnts_take_succ hu
   have hle:=cnts_take_le x1 (i+1)
   have hu2:=mks_get (k:=k0) hu
   try simp only [cnt_int,cnt_str] at hs
   refine s8 ?_
   refine L_indexAddr rfl rfl rfl el87.h rfl (by omega) ?_
   refine L_load0 rfl rfl (by first | exact RdC.blk mm | exact RdC.old (Cells.el h1 rfl hu2)) one3.h rfl ?_
   refine s3 ?_
   refine kp [0,1,5,17] ?_
   refine W_cond rfl (fun q4=>?_) (fun q4=>?_)
   ·refine s5 ?_
    refine res1 rfl (ResOK.tmp rfl) ⟨?_,rfl⟩ ms
    exfalso;simp [mk_int,mk_str] at q4
   ·refine s3 ?_
    refine L_binV rfl rfl rfl (bv_addR (by unfold inR;omega)) ?_
    refine s2 ?_
    rw [show (((k0+cnts (x1.take i)):Nat):Int)+1=(((k0+cnts (x1.take i))+1:Nat):Int) from rfl]
    have hE:((k0+cnts (x1.take i))+1)=k0+cnts (x1.take (i+1)):=by rw [hs];(try simp only [cnt_pair,cnt_int,cnt_str]);omega
    rw [hE]
    refine s2 ?_
    refine L_binV rfl rfl rfl (bv_addR (by unfold inR;omega)) ?_
    refine s2 ?_
    refine ⟨i+1,sb,ms,?_,?_⟩
    ·show i+1≤x1.length
     omega
    ·show x1.length - (i+1) < x1.length - i
     omega
  ·refine W_exit ?_
   refine s6 ?_
   refine res1 rfl (ResOK.tmp rfl) ⟨?_,rfl⟩ ms
   have hk2:(mks k0 x1).length≤i:=by simpa using q2
   rw [List.take_of_length_le (by omega)];rfl
end Go.Proofs.SL
