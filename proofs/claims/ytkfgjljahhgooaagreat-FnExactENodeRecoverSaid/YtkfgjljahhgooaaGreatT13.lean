/- The texts of the proof, part 13: the base, walks of functions, plain Lean. -/
import Derived.Test.YtkfgjljahhgooaaGreatT12
import Derived.Test.YtkfgjljahhgooaaGreatT5
import Derived.Test.YtkfgjljahhgooaaGreatRows
namespace Go.Proofs.SL
open Go
theorem atI_or (l:List D_Inst) (id:D_Id):atI l id∈l∨atI l id=((id.1,id.2),(-1),(-1),0,(0,0,0,ByteArray.empty,ByteArray.empty,ByteArray.empty,0,([]:List ByteArray)),0,([]:List D_Id),false):=by
 unfold atI
 cases h:getI l id with
 | none=>exact .inr rfl
 | some x=>exact .inl (getI_some h).1
theorem smallI_at {l:List D_Inst} (h:smallL l) (id:D_Id):smallI (atI l id):=by
 rcases atI_or l id with q | q
 ·exact h _ q
 ·rw [q];exact ⟨Nat.zero_le _,Nat.zero_le _⟩
structure LeadF (l:D_Lead):Prop where
 id:idOkB l.1=true
 bal:0≤l.2.1∧l.2.1≤600
 ph:1≤l.2.2.1∧l.2.2.1≤3
 seq:0≤l.2.2.2.1∧l.2.2.2.1≤60
 deps:idsOkB l.2.2.2.2.1=true
 self:(l.2.2.2.2.1.any fun y=>idEq y l.1)=false
 frm:nodesOk l.2.2.2.2.2.1=true
theorem leadF {l:D_Lead} (h:leadOkB l=true):LeadF l:=by
 unfold leadOkB at h
 simp only [Bool.and_eq_true,decide_eq_true_eq,Bool.not_eq_true'] at h
 obtain ⟨⟨⟨⟨⟨⟨h1,h2⟩,h3⟩,h4⟩,h5⟩,h6⟩,h7⟩:=h
 exact ⟨h1,h2,h3,h4,h5,h6,h7⟩
theorem leadF.ok {l:D_Lead} (h:LeadF l):leadOkB l=true:=by
 unfold leadOkB
 simp only [Bool.and_eq_true,decide_eq_true_eq,Bool.not_eq_true']
 exact ⟨⟨⟨⟨⟨⟨h.id,h.bal⟩,h.ph⟩,h.seq⟩,h.deps⟩,h.self⟩,h.frm⟩
structure InstF (x:D_Inst):Prop where
 id:idOkB x.1=true
 bal:-1≤x.2.1∧x.2.1≤600
 vbal:-1≤x.2.2.1∧x.2.2.1≤x.2.1
 st:0≤x.2.2.2.1∧x.2.2.2.1≤3
 cmd:cmdOkB x.2.2.2.2.1=true
 seq:0≤x.2.2.2.2.2.1∧x.2.2.2.2.2.1≤60
 deps:idsOkB x.2.2.2.2.2.2.1=true
 self:(x.2.2.2.2.2.2.1.any fun y=>idEq y x.1)=false
 none:x.2.2.2.1=0→x.2.2.1=-1∧x.2.2.2.2.1.1=0∧x.2.2.2.2.2.1=0∧x.2.2.2.2.2.2.1=[]∧x.2.2.2.2.2.2.2=false
theorem instF_iff {x:D_Inst}:instOkB x=true↔InstF x:=by
 unfold instOkB
 simp only [Bool.and_eq_true,decide_eq_true_eq,Bool.not_eq_true',Bool.or_eq_true,decide_eq_false_iff_not]
 constructor
 ·rintro ⟨⟨⟨⟨⟨⟨⟨⟨h1,h2⟩,h3⟩,h4⟩,h5⟩,h6⟩,h7⟩,h8⟩,h9⟩
  refine ⟨h1,h2,h3,h4,h5,h6,h7,h8,fun h0=>?_⟩
  rcases h9 with h9 | ⟨⟨⟨⟨k1,k2⟩,k3⟩,k4⟩,k5⟩
  ·exact absurd h0 h9
  ·exact ⟨k1,k2,k3,List.eq_nil_of_length_eq_zero (by omega),k5⟩
 ·intro h
  refine ⟨⟨⟨⟨⟨⟨⟨⟨h.id,h.bal⟩,h.vbal⟩,h.st⟩,h.cmd⟩,h.seq⟩,h.deps⟩,h.self⟩,?_⟩
  by_cases h0:x.2.2.2.1=0
  ·obtain ⟨k1,k2,k3,k4,k5⟩:=h.none h0
   exact .inr ⟨⟨⟨⟨k1,k2⟩,k3⟩,by rw [k4];rfl⟩,k5⟩
  ·exact .inl h0
theorem bind_of {α β:Type} {o:Option α} {a:α} {k:α→Option β} {r:Option β} (h:o=some a) (hk:k a=r):Option.bind o k=r:=by rw [h];exact hk
structure NodeS (d:D_ENode):Prop where
 ok:Ok.ok d
 is:instsOkB d.2.2.1=true
 sm:smallL d.2.2.1
 ls:d.2.2.2.length≤1000
 lsm:∀ l,l∈d.2.2.2→smallLd l
end Go.Proofs.SL
namespace Go.Proofs.SL
open Go
structure NodeF (d:D_ENode):Prop where
 me:0≤d.1∧d.1 < 3
 nx:1≤d.2.1∧d.2.1≤7
 is:instsOkB d.2.2.1=true
 ll:d.2.2.2.length≤8
 own:∀ x,x∈d.2.2.1→x.1.1=d.1→x.1.2 < d.2.1
 ld:∀ (k:Nat) (l:D_Lead),d.2.2.2[k]?=some l→LeadF l∧(d.2.2.2.findIdx? fun y=>idEq y.1 l.1)=some k
theorem nodeF {d:D_ENode} (h:nodeOkB d=true):NodeF d:=by
 unfold nodeOkB at h
 simp only [Bool.and_eq_true,decide_eq_true_eq,List.all_eq_true,Bool.not_eq_true',Bool.and_eq_false_iff,decide_eq_false_iff_not,List.mem_range] at h
 obtain ⟨⟨⟨⟨⟨h1,h2⟩,h3⟩,h4⟩,h5⟩,h6⟩:=h
 refine ⟨h1,h2,h3,h4,fun x hx he=>?_,fun k l hk=>?_⟩
 ·rcases h5 x hx with q | q
  ·exact absurd he q
  ·omega
 ·have:=h6 k (List.getElem?_eq_some_iff.1 hk).1
  unfold leadAt at this
  rw [hk] at this
  simp only [Bool.and_eq_true,decide_eq_true_eq] at this
  refine ⟨leadF this.1,?_⟩
  have h7:=this.2
  unfold firstI at h7
  cases hf:d.2.2.2.findIdx? fun y=>idEq y.1 l.1 with
  | none=>rw [hf] at h7;simp only at h7;omega
  | some j=>rw [hf] at h7;simp only at h7;exact congrArg some (by omega)
theorem nodeF.s {d:D_ENode} (h:NodeF d) (ho:Ok.ok d) (hn:smallN d):NodeS d:=⟨ho,h.is,hn.2.1,by have:=h.ll;omega,hn.2.2.2⟩
def zeroN:D_ENode:=(0,0,([]:List D_Inst),([]:List D_Lead))
theorem putLd_mem {ls:List D_Lead} {l x:D_Lead} (h:x∈putLd ls l):x∈ls∨x=l:=by
 unfold putLd at h
 split at h
 ·exact List.mem_or_eq_of_mem_set h
 ·rcases List.mem_append.1 h with q | q
  ·exact .inl q
  ·exact .inr (List.mem_singleton.1 q)
theorem putLd_len (ls:List D_Lead) (l:D_Lead):(putLd ls l).length≤ls.length+1:=by
 unfold putLd
 split<;>simp
theorem putI_len (l:List D_Inst) (x:D_Inst):(putI l x).length≤2*l.length+1:=by
 unfold putI
 have h1:=List.length_filter_le (fun y:D_Inst=>idLt y.1 x.1) l
 have h2:=List.length_filter_le (fun y:D_Inst=>idLt x.1 y.1) l
 simp only [List.length_append,List.length_cons]
 omega
end Go.Proofs.SL
namespace Go.Proofs.SL
open Go
def nb (me s:Int):Int:=s+(me - s) % 3
theorem bal_loop {α:Type} {me:Int} (hm:0≤me∧me < 3) {K:Int→Option α} {s:Int} (hs:0≤s∧s≤1000) {r:α} (hr:K (nb me s)=some r):whileP (fun t:Int=>cond (!decide (t.tmod 3=me)) (some (.inl (IntKind.wrap .i64 (t+1)))) (Option.map .inr (K t))) s=some r:=by
 refine whileP_is (fun t:Int=>0≤t∧t≤nb me s∧nb me t=nb me s) (fun t=>(nb me s - t).toNat) ?_ ⟨hs.1,by unfold nb;omega,rfl⟩
 rintro t ⟨h1,h2,h3⟩
 have hn:nb me s≤1003:=by unfold nb;omega
 by_cases h:t.tmod 3=me
 ·right
  rw [decide_eq_true h,Bool.not_true,cond_false]
  have:nb me t=t:=by
   rw [Int.tmod_eq_emod_of_nonneg h1] at h
   unfold nb;omega
  rw [← this,h3,hr];rfl
 ·left
  rw [decide_eq_false h,Bool.not_false,cond_true]
  rw [Int.tmod_eq_emod_of_nonneg h1] at h
  have hw:IntKind.wrap .i64 (t+1)=t+1:=wrap64_in (by unfold inR;omega)
  rw [hw]
  unfold nb at h2 h3 ⊢
  exact ⟨_,rfl,⟨by omega,by omega,by omega⟩,by omega⟩
def balS (b:Int):Int:=if 3≤b then b+1 else 3
def recB (me b:Int):Int:=nb me (balS b)
def recI (x:D_Inst) (b:Int):D_Inst:=(x.1,b,x.2.2.1,x.2.2.2.1,x.2.2.2.2.1,x.2.2.2.2.2.1,x.2.2.2.2.2.2.1,x.2.2.2.2.2.2.2)
def zLead (id:D_Id) (b:Int):D_Lead:=(id,b,3,0,([]:List D_Id),([]:List Int),false)
def prepM (id:D_Id) (b:Int):D_EMsg:=(6,0,0,id,b,noCmd,0,([]:List D_Id),0,(-1),false)
noncomputable def recNo (d:D_ENode) (id:D_Id):Bool:=!idOkB id||(decide ((atI d.2.2.1 id).2.2.2.1=3)||(decide (600 < recB d.1 (atI d.2.2.1 id).2.1)||((decide (d.2.2.2.length=8)&&(d.2.2.2.find? fun y=>idEq y.1 id).isNone)||(decide (id.1=d.1)&&decide (d.2.1≤id.2)))))
noncomputable def recG (d:D_ENode) (id:D_Id):D_ENode×(List D_EMsg)×Bool:=if recNo d id then (d,[],false) else
 ((d.1,d.2.1,putI d.2.2.1 (recI (atI d.2.2.1 id) (recB d.1 (atI d.2.2.1 id).2.1)),putLd d.2.2.2 (zLead id (recB d.1 (atI d.2.2.1 id).2.1))),bothD d.1 (prepM id (recB d.1 (atI d.2.2.1 id).2.1)),true)
noncomputable def recD (d:D_ENode) (id:D_Id):D_ENode×(List D_EMsg)×Bool:=if nodeOkB d then recG d id else (zeroN,[],false)
theorem cmdOk_no:cmdOkB noCmd=true:=by
 unfold cmdOkB
 simp [noCmd,pB]
theorem at_bound {is:List D_Inst} (h:instsOkB is=true) (id:D_Id):-1≤(atI is id).2.1∧(atI is id).2.1≤600:=by
 rcases atI_or is id with q | q
 ·exact (instF_iff.1 ((instsOk_facts h).1 _ q)).bal
 ·rw [q];exact ⟨by show (-1:Int)≤-1;omega,by show (-1:Int)≤600;omega⟩
theorem recI_ok {is:List D_Inst} (h:instsOkB is=true) {id:D_Id} (hi:idOkB id=true) {b:Int} (hb:(atI is id).2.1≤b) (h0:0≤b) (h6:b≤600):instOkB (recI (atI is id) b)=true:=by
 rcases atI_or is id with q | q
 ·have hx:=instF_iff.1 ((instsOk_facts h).1 _ q)
  exact instF_iff.2 ⟨hx.id,⟨by show -1≤b;omega,h6⟩,⟨hx.vbal.1,by have:=hx.vbal.2;show (atI is id).2.2.1≤b;omega⟩,hx.st,hx.cmd,hx.seq,hx.deps,hx.self,hx.none⟩
 ·rw [q]
  exact instF_iff.2 ⟨hi,⟨by show -1≤b;omega,h6⟩,⟨by show (-1:Int)≤-1;omega,by show -1≤b;omega⟩,⟨by show (0:Int)≤0;omega,by show (0:Int)≤3;omega⟩,cmdOk_no,⟨by show (0:Int)≤0;omega,by show (0:Int)≤60;omega⟩,rfl,rfl,fun _=>⟨rfl,rfl,rfl,rfl,rfl⟩⟩
theorem recB_ge (me b:Int):b≤recB me b∧3≤recB me b:=by
 unfold recB nb balS
 split<;>omega
theorem recG_small {d:D_ENode} (hd:NodeS d) (x:D_Inst) (hx:smallI x) (l:D_Lead) (hl:smallLd l):smallN (d.1,d.2.1,putI d.2.2.1 x,putLd d.2.2.2 l):=by
 have h1:=insts_len hd.is
 have h2:=hd.ls
 refine ⟨?_,small_put hd.sm hx,?_,fun y hy=>?_⟩
 ·have:=putI_len d.2.2.1 x
  show (putI _ _).length≤_
  omega
 ·have:=putLd_len d.2.2.2 l
  show (putLd _ _).length≤_
  omega
 ·rcases putLd_mem hy with q | q
  ·exact hd.lsm y q
  ·subst q;exact hl
theorem s_ENodeRecover_eq {d:D_ENode} (id:D_Id) (ho:Ok.ok d) (hn:smallN d):s_ENodeRecover d id=some (recD d id):=by
 unfold s_ENodeRecover recD
 rw [show s_ENodeOk _=_ from s_ENodeOk_eq (d:=d) ho,Option.bind_some]
 cases hk:nodeOkB d with
 | false=>rfl
 | true =>
  have hf:=nodeF hk
  have hs:=nodeF.s hf ho hn
  have hll:=hf.ll
  have hln:=insts_len hf.is
  rw [Bool.not_true,cond_false,if_pos rfl,show s_l9Copy _=some d from s_l9Copy_eq hn,Option.bind_some,show s_l8Id _=_ from s_l8Id_eq id,Option.bind_some]
  unfold recG recNo
  cases hi:idOkB id with
  | false=>rfl
  | true =>
   rw [Bool.not_true,cond_false,Bool.false_or,show s_InstAt d.2.2.1 (id.1,id.2)=_ from s_InstAt_eq (by omega) hs.sm id,Option.bind_some]
   have hb:=at_bound hf.is id
   have hok:=fun b=>recI_ok hf.is hi (b:=b)
   have hsx:=smallI_at hs.sm id
   generalize atI d.2.2.1 id=x at hb hok hsx
   have hS:0≤balS x.2.1∧balS x.2.1≤1000:=by unfold balS;split<;>omega
   have hw:3≤x.2.1→IntKind.wrap .i64 (x.2.1+1)=x.2.1+1:=fun _=>wrap64_in (by unfold inR;omega)
   rw [show (cond (decide (3≤x.2.1)) (some (.inl (IntKind.wrap .i64 (x.2.1+1)))) (some (.inl (3))):Option (Int ⊕ (D_ENode×List D_EMsg×Bool)))=some (.inl (balS x.2.1)) by
    unfold balS
    by_cases h3:3≤x.2.1
    ·rw [decide_eq_true h3,cond_true,if_pos h3,hw h3]
    ·rw [decide_eq_false h3,cond_false,if_neg h3]]
   refine bal_loop hf.me hS ?_
   rw [show nb d.1 (balS x.2.1)=recB d.1 x.2.1 from rfl]
   have hge:=recB_ge d.1 x.2.1
   generalize recB d.1 x.2.1=b at hge
   cases q3:decide (x.2.2.2.1=3) with
   | true=>rfl
   | false =>
    cases q6:decide (600 < b) with
    | true=>rfl
    | false =>
     have h6:b≤600:=by have:=of_decide_eq_false q6;omega
     rw [Bool.or_false,Bool.not_false,gb_true,show s_l9At _ _=_ from s_l9At_eq (d:=d) (x:=id) (by omega),Option.bind_some,Bool.false_or,Bool.false_or,Bool.false_or]
     have h8:decide (8≤(d.2.2.2.length:Int))=decide (d.2.2.2.length=8):=by rw [Bool.eq_iff_iff];simp only [decide_eq_true_eq];omega
     have hat:decide (firstI (fun y:D_Lead=>idEq y.1 id) d.2.2.2 < 0)=(d.2.2.2.find? fun y=>idEq y.1 id).isNone:=by
      rcases firstI_opt (fun y:D_Lead=>idEq y.1 id) d.2.2.2 with ⟨h1,h2⟩ | ⟨k,l,h1,h2,h3⟩
      ·rw [h1,h2];rfl
      ·rw [h1,h3];exact decide_eq_false (by omega)
     rw [h8,hat,Bool.and_comm]
     generalize ((decide (d.2.2.2.length=8)&&(d.2.2.2.find? fun y=>idEq y.1 id).isNone)||(decide (id.1=d.1)&&decide (d.2.1≤id.2)))=c
     cases c with
     | true=>rfl
     | false =>
      rw [cond_false,if_neg Bool.false_ne_true]
      refine bind_of (s_l8Put_eq hf.is (recI x b)) ?_
      refine bind_of (s_l9Put_eq (d:=(d.1,d.2.1,putI d.2.2.1 (recI x b),d.2.2.2)) (by show d.2.2.2.length≤_;omega) (zLead id b)) ?_
      refine bind_of (s_l9Copy_eq (d:=(d.1,d.2.1,putI d.2.2.1 (recI x b),putLd d.2.2.2 (zLead id b))) (recG_small hs (recI x b) hsx (zLead id b) ⟨Nat.zero_le _,Nat.zero_le _⟩)) ?_
      exact bind_of (s_l9Both_eq (d.1,d.2.1,putI d.2.2.1 (recI x b),putLd d.2.2.2 (zLead id b)) (m:=(6,0,0,id,b,noCmd,0,([]:List D_Id),0,0,false)) ⟨Nat.zero_le _,Nat.zero_le _⟩) rfl
theorem i_ENodeRecover_eq {d:D_ENode} (id:D_Id) (ho:Ok.ok d) (hn:smallN d):i_ENodeRecover d id=some (recD d id):=by
 unfold i_ENodeRecover recD
 rw [show i_ENodeOk _=_ from i_ENodeOk_eq (d:=d) ho,Option.bind_some]
 cases hk:nodeOkB d with
 | false=>rfl
 | true =>
  have hf:=nodeF hk
  have hs:=nodeF.s hf ho hn
  have hll:=hf.ll
  have hln:=insts_len hf.is
  rw [Bool.not_true,cond_false,if_pos rfl,show i_copyENode _=some d from i_copyENode_eq hn,Option.bind_some,show i_InstAt d.2.2.1 (id.1,id.2)=_ from i_InstAt_eq (by omega) hs.sm id,Option.bind_some]
  unfold recG recNo
  have hb:=at_bound hf.is id
  have hok:=fun hi b=>recI_ok hf.is (id:=id) hi (b:=b)
  have hsx:=smallI_at hs.sm id
  have hor:=atI_or d.2.2.1 id
  generalize atI d.2.2.1 id=x at hb hok hsx hor
  have hS:0≤balS x.2.1∧balS x.2.1≤1000:=by unfold balS;split<;>omega
  rw [show IntKind.wrap .i64 ((if 2 > x.2.1 then 2 else x.2.1)+1)=balS x.2.1 by
   unfold balS
   split<;>split<;>rw [wrap64_in (by unfold inR;omega)]<;>omega]
  refine bal_loop hf.me hS ?_
  rw [show nb d.1 (balS x.2.1)=recB d.1 x.2.1 from rfl]
  have hge:=recB_ge d.1 x.2.1
  generalize recB d.1 x.2.1=b at hge
  rw [show i_ENode_lead _ _=_ from i_lead_eq (d:=d) (x:=id) (by omega),Option.bind_some,show i_idOk _=_ from i_idOk_eq id,Option.bind_some]
  cases hi:idOkB id with
  | false=>rfl
  | true =>
   rw [Bool.not_true,Bool.false_or,Bool.false_or]
   cases q3:decide (x.2.2.2.1=3) with
   | true=>rfl
   | false =>
    rw [Bool.not_false,gb_true,show i_ENode_unknown _ _=some (decide (id.1=d.1)&&decide (d.2.1≤id.2)) from rfl,Option.bind_some,Bool.false_or,Bool.false_or]
    have h8:decide ((d.2.2.2.length:Int)=8)=decide (d.2.2.2.length=8):=by rw [Bool.eq_iff_iff];simp only [decide_eq_true_eq];omega
    have hat:decide (firstI (fun y:D_Lead=>idEq y.1 id) d.2.2.2 < 0)=(d.2.2.2.find? fun y=>idEq y.1 id).isNone:=by
     rcases firstI_opt (fun y:D_Lead=>idEq y.1 id) d.2.2.2 with ⟨h1,h2⟩ | ⟨k,l,h1,h2,h3⟩
     ·rw [h1,h2];rfl
     ·rw [h1,h3];exact decide_eq_false (by omega)
    rw [h8,hat,Bool.and_comm ((d.2.2.2.find? fun y=>idEq y.1 id).isNone)]
    cases q6:decide (600 < b) with
    | true=>cases (decide (id.1=d.1)&&decide (d.2.1≤id.2))<;>rfl
    | false =>
     have h6:b≤600:=by have:=of_decide_eq_false q6;omega
     rw [Bool.or_false,Bool.false_or,Bool.or_comm]
     generalize ((decide (d.2.2.2.length=8)&&(d.2.2.2.find? fun y=>idEq y.1 id).isNone)||(decide (id.1=d.1)&&decide (d.2.1≤id.2)))=c
     cases c with
     | true=>rfl
     | false =>
      have hii:=idOk_iff hi
      have hox:Ok.ok (recI x b):=by
       rcases hor with q | q
       ·have:=hs.ok.2.2.1.2 _ q
        exact ⟨this.1,by show inR b;unfold inR;omega,this.2.2.1,this.2.2.2.1,this.2.2.2.2.1,this.2.2.2.2.2.1,this.2.2.2.2.2.2.1,trivial⟩
       ·rw [q]
        have z0:inR 0:=by unfold inR;omega
        have z1:inR (-1):=by unfold inR;omega
        exact ⟨⟨by show inR id.1;unfold inR;omega,by show inR id.2;unfold inR;omega⟩,by show inR b;unfold inR;omega,z1,z0,⟨z0,z0,z0,Nat.zero_le _,Nat.zero_le _,Nat.zero_le _,z0,Nat.zero_le _,fun x hx=>by cases hx⟩,z0,⟨Nat.zero_le _,fun x hx=>by cases hx⟩,trivial⟩
      have hp:=i_put_eq (d:=d) (x:=recI x b) hs.ok.2.2.1 hox hs.is hs.sm hsx
      rw [hok hi b (by omega) (by omega) h6,if_pos rfl] at hp
      rw [cond_false,if_neg Bool.false_ne_true]
      refine bind_of hp ?_
      dsimp only
      have hM:smallM (prepM id b):=⟨Nat.zero_le _,Nat.zero_le _⟩
      unfold putLd
      cases hff:d.2.2.2.findIdx? fun y=>idEq y.1 (zLead id b).1 with
      | none =>
       rw [show firstI (fun y:D_Lead=>idEq y.1 id) d.2.2.2=-1 from firstI_none hff,show decide ((0:Int)≤-1)=false from rfl,cond_false,appP_ok (by simp;omega),Option.bind_some]
       exact bind_of (i_sent_eq _ (m:=prepM id b) hM rfl) rfl
      | some k =>
       obtain ⟨h1,_⟩:=List.findIdx?_eq_some_iff_getElem.1 hff
       rw [show firstI (fun y:D_Lead=>idEq y.1 id) d.2.2.2=(k:Int) from firstI_some hff,show decide ((0:Int)≤(k:Int))=true from decide_eq_true (by omega),cond_true,idx_nat,List.getElem?_eq_getElem h1,Option.bind_some,Option.bind_some,Int.toNat_natCast]
       exact bind_of (i_sent_eq _ (m:=prepM id b) hM rfl) rfl
end Go.Proofs.SL
namespace Go.Proofs.SL
open Go
theorem eqx {a b:Value} (h:a=b:=by
  first
   | (refine congrArg Value.bool (Eq.symm (eqB_false.2 fun e=>?_));simp only [dat_pair,dat_int,dat_bool,dat_str,Prod.mk.injEq,eqB_nf,eqB_nt] at *;simp_all;done)
   | (refine congrArg Value.bool (Eq.symm (eqB_true.2 ?_));simp only [dat_pair,dat_int,dat_bool,dat_str,Prod.mk.injEq,eqB_nf,eqB_nt] at *;simp_all;done)
   | (refine congrArg Value.bool (Eq.symm (eqB_false.2 fun e=>?_));try simp only [dat_pair,dat_int,dat_bool,dat_str,Prod.mk.injEq] at e;simp_all;done)
   | (refine congrArg Value.bool (Eq.symm (eqB_true.2 ?_));try simp only [dat_pair,dat_int,dat_bool,dat_str,Prod.mk.injEq];simp_all;done)):a=b:=h
theorem eqy {a b:Value} (h:a=b:=by
  first
   | (refine congrArg Value.bool (Eq.symm (eqB_false.2 fun e=>?_));try simp only [dat_pair,dat_int,dat_bool,dat_str,Prod.mk.injEq] at e;simp_all;done)
   | (refine congrArg Value.bool (Eq.symm (eqB_true.2 ?_));try simp only [dat_pair,dat_int,dat_bool,dat_str,Prod.mk.injEq];simp_all;done)):a=b:=h
end Go.Proofs.SL
namespace Go.Proofs.SL
open Go
set_option maxHeartbeats 2000000
instance el22:ElF Tryz.prog 22 5 1 1 [.int .u8 0]:=⟨by kernel_rfl⟩
instance und22:UndF Tryz.prog 22 (.slice 5):=⟨by kernel_rfl⟩
instance und5:UndF Tryz.prog 5 (.int .u8):=⟨by kernel_rfl⟩
instance und9:UndF Tryz.prog 9 (.string):=⟨by kernel_rfl⟩
theorem eqIntS_spec (w:World) (t1 t2:TL Int) (h1:GT.rd w [] t1) (h2:GT.rd w [] t2):Spec Tryz.prog 183 [t1.hdr,t2.hdr].toArray w [] (IsV (.bool (eqB (GT.dat t1) (GT.dat t2)))):=by
 obtain ⟨a1,c1,e1,x1,y1⟩:=t1
 obtain ⟨a2,c2,e2,x2,y2⟩:=t2
 have hm1:x1.length≤9223372036854775807:=rd_len h1
 have hm2:x2.length≤9223372036854775807:=rd_len h2
 dsimp only [TL.hdr]
 refine Spec.intro Tryz.func183 rfl Tryz.ntmps183 rfl ?_
 refine s8 ?_
 refine L_lenS rfl rfl el87.h ?_
 refine s1 ?_
 refine L_lenS rfl rfl el87.h ?_
 refine s2 ?_
 refine kp [0,1,10] ?_
 refine W_cond rfl (fun q1=>?_) (fun q1=>?_)
 ·refine s5 ?_
  refine res1 rfl (ResOK.tmp rfl) ⟨?_,rfl⟩ ms
  refine congrArg Value.bool (Eq.symm (eqB_false.2 fun e=>?_))
  simp at q1
  exact q1 (by have:=congrArg List.length e;simp [dat_TL] at this;omega)
 ·have hl:x1.length=x2.length:=by simp at q1;omega
  refine s7 ?_
  refine W_loopC (σ:=Nat) 0 (fun (k:Nat)=>[(5,.int .i64 (k:Int))]) (fun (k:Nat)=>[]) (fun (k:Nat)=>k≤x1.length∧(x1.map GT.dat).take k=(x2.map GT.dat).take k) (fun (k:Nat)=>x1.length - k) [(0,_),(1,_)] [] ?_ sb ms ?_
  ·exact ⟨Nat.zero_le _,rfl⟩
  ·rintro k ⟨hk,ht⟩
   refine kq [0,1,5] ?_
   refine s5 ?_
   refine L_lenS rfl rfl el87.h ?_
   refine s2 ?_
   refine kp [0,1,5,14] ?_
   refine W_cond rfl (fun q4=>?_) (fun q4=>?_)
   ·have hk1:k < x1.length:=by simpa using q4
    obtain ⟨g1,o1,rfl⟩:=rd_addr h1 hk1
    obtain ⟨g2,o2,rfl⟩:=rd_addr (k:=k) h2 (show k < x2.length by omega)
    obtain ⟨u1,hu1⟩:=getEl hk1
    obtain ⟨u2,hu2⟩:=getEl (show k < x2.length by omega)
    refine s4 ?_
    refine W_D0 [25] mix (by kernel_rfl) rfl ?_
    refine s2 ?_
    refine D_indexAddr _ GC.none (OpV.t rfl) (OpV.t rfl) el87.h (fun hg=>⟨rfl,by (try dsimp only);omega⟩) ?_
    refine D_load0 GC.none (OpV.t rfl) (fun hg=>(by first | exact RdC.blk mm | exact RdC.old (Cells.el h1 rfl hu1) | exact RdC.old (Cells.el h2 rfl hu2))) one3.h rfl ?_
    refine s2 ?_
    refine D_indexAddr _ GC.none (OpV.t rfl) (OpV.t rfl) el87.h (fun hg=>⟨rfl,by (try dsimp only);omega⟩) ?_
    refine D_load0 GC.none (OpV.t rfl) (fun hg=>(by first | exact RdC.blk mm | exact RdC.old (Cells.el h1 rfl hu1) | exact RdC.old (Cells.el h2 rfl hu2))) one3.h rfl ?_
    refine s12 ?_
    refine kp [0,1,5,25] ?_
    refine W_cond rfl (fun q6=>?_) (fun q6=>?_)
    ·refine s5 ?_
     refine res1 rfl (ResOK.tmp rfl) ⟨?_,rfl⟩ ms
     refine congrArg Value.bool (Eq.symm (eqB_false.2 fun e=>?_))
     simp at q6
     replace e:x1.map GT.dat=x2.map GT.dat:=e
     have e2:=congrArg (fun l=>l[k]?) e
     simp only [List.getElem?_map,hu1,hu2,Option.map_some,Option.some.injEq] at e2
     exact q6 (by simpa [dat_int,dat_str,dat_bool] using e2)
    ·refine s3 ?_
     refine L_binV rfl rfl rfl (bv_addR (by unfold inR;omega)) ?_
     refine s2 ?_
     refine ⟨k+1,sb,ms,?_,?_⟩
     ·exact ⟨by omega,take_succ_eq ht (by rw [List.getElem?_map,hu1];rfl) (by rw [List.getElem?_map,hu2];rfl) (by simpa [dat_int,dat_str,dat_bool] using q6)⟩
     ·(try dsimp only);omega
   ·refine W_exit ?_
    refine s5 ?_
    refine res1 rfl (ResOK.tmp rfl) ⟨?_,rfl⟩ ms
    refine congrArg Value.bool (Eq.symm (eqB_true.2 ?_))
    have hk2:x1.length≤k:=by simpa using q4
    have h3:=ht
    rw [List.take_of_length_le (by simp;omega),List.take_of_length_le (by simp;omega)] at h3
    exact h3
theorem szIntS_spec (w:World) (t1:TL Int) (left:Int) (hl:0≤left) (hm:left≤1048576) (h1:GT.rd w [] t1) (ho:Ok.ok (GT.dat t1)):Spec Tryz.prog 180 [t1.hdr,.int .i64 left].toArray w [] (IsV (.int .i64 (if (Bk.bulk t1:Int)≤left then left - (Bk.bulk t1:Int) else -1))):=by
 obtain ⟨a1,c1,e1,x1,y1⟩:=t1
 have hm1:x1.length≤9223372036854775807:=rd_len h1
 rw [bulk_TL]
 dsimp only [TL.hdr]
 have hz:bulks x1=0:=by
  clear hm1 h1 ho
  induction x1 with
  | nil=>rfl
  | cons y ys ih=>simp only [bulks,ih];rfl
 refine Spec.intro Tryz.func180 rfl Tryz.ntmps180 rfl ?_
 refine s8 ?_
 refine L_lenS rfl rfl el87.h ?_
 refine L_binV rfl rfl rfl (bv_subR (by unfold inR;omega)) ?_
 refine s8 ?_
 refine kp [1,10] ?_
 refine W_cond rfl (fun q2=>?_) (fun q2=>?_)
 ·have hb0:left - (x1.length:Int) < 0:=by simpa using q2
  refine s5 ?_
  refine res1 rfl (ResOK.tmp rfl) ⟨?_,rfl⟩ ms
  simp only [hz,Nat.add_zero]
  first
   | (rw [if_pos (by omega)];done)
   | (rw [if_neg (by omega)])
 ·have hb0:¬ (left - (x1.length:Int) < 0):=by simpa using q2
  skip
  refine s7 ?_
  refine res1 rfl (ResOK.tmp rfl) ⟨?_,rfl⟩ ms
  simp only [hz,Nat.add_zero]
  first
   | (rw [if_pos (by omega)];done)
   | (rw [if_neg (by omega)])
theorem toIntS_spec (w:World) (t1:TL Int) (h1:GT.rd w [] t1) (hb:Bk.bulk t1≤1048576):Spec Tryz.prog 182 [t1.hdr].toArray w [] (fun v M=>∃ t2:TL Int,v=t2.hdr∧GT.dat t2=GT.dat t1∧M=[treeH t2]):=by
 obtain ⟨a1,c1,e1,x1,y1⟩:=t1
 rw [bulk_TL] at hb
 dsimp only [TL.hdr]
 refine Spec.intro Tryz.func182 rfl Tryz.ntmps182 rfl ?_
 refine s7 ?_
 refine L_lenS rfl rfl el87.h ?_
 refine L_make (τ:=Int) (0:Int) rfl rfl rfl el87.h rfl rfl (flat_int trivial) (by omega) (by unfold maxLen;omega) (fun g=>?_)
 refine s8 ?_
 refine W_loopC (σ:=Nat×List Int) (0,List.replicate x1.length (0:Int)) (fun (p:Nat×List Int)=>[(4,.int .i64 (p.1:Int))]) (fun (p:Nat×List Int)=>[treeH (⟨some ⟨g,0,none⟩,x1.length,3,p.2,[]⟩:TL Int)]) (fun (p:Nat×List Int)=>p.1≤x1.length∧p.2.length=x1.length∧(p.2.take p.1).map GT.dat=(x1.take p.1).map GT.dat) (fun (p:Nat×List Int)=>x1.length - p.1) [(0,_),(3,_)] [] ?_ sb ms ?_
 ·exact ⟨Nat.zero_le _,by simp,by simp⟩
 ·rintro ⟨k,cur⟩ ⟨hk,hlen,hdat⟩
  dsimp only at hk hlen hdat
  refine kq [0,3,4] ?_
  refine s5 ?_
  refine L_lenS rfl rfl el87.h ?_
  refine s2 ?_
  refine kp [0,3,4,11] ?_
  refine W_cond rfl (fun q3=>?_) (fun q3=>?_)
  ·have hk1:k < x1.length:=by simpa using q3
   obtain ⟨g1,o1,rfl⟩:=rd_addr h1 hk1
   obtain ⟨u1,hu1⟩:=getEl hk1
   have hub:Bk.bulk u1≤1048576:=by have:=bulk_mem (List.mem_of_getElem? hu1);omega
   refine s8 ?_
   refine L_indexAddr rfl rfl rfl el87.h rfl (by omega) ?_
   refine L_load0 rfl rfl (by first | exact RdC.blk mm | exact RdC.old (Cells.el h1 rfl hu1)) one3.h rfl ?_
   refine L_indexAddr rfl rfl rfl el87.h rfl (by omega) ?_
   obtain ⟨u0,hu0⟩:=getEl (show k < cur.length by omega)
   refine L_storeElV u1 rfl rfl pk rfl hu0 rfl (flat_int (h1.2.2.1 _ (List.mem_of_getElem? hu1))) (.inr ⟨one3.h,rfl⟩) ?_
   refine s3 ?_
   refine L_binV rfl rfl rfl (bv_addR (by unfold inR;omega)) ?_
   refine s2 ?_
   refine ⟨(k+1,cur.set k u1),sb,ms,?_,?_⟩
   ·exact ⟨by dsimp only;omega,by simpa using hlen,map_take_set GT.dat GT.dat hdat (by omega) hu1 rfl⟩
   ·dsimp only;omega
  ·refine W_exit ?_
   refine s6 ?_
   refine res1 rfl (ResOK.tmp rfl) ⟨⟨some ⟨g,0,none⟩,x1.length,3,cur,[]⟩,?_,?_,rfl⟩ ms
   ·show _=Value.slice _ cur.length _
    rw [hlen]
   ·have hk2:x1.length≤k:=by simpa using q3
    rw [List.take_of_length_le (by omega),List.take_of_length_le (by omega)] at hdat
    exact hdat
theorem markText_spec (w:World) (k0:Nat) (hk0:0 < k0) (hm:k0 < 9223372036854775807):Spec Tryz.prog 78 [.int .i64 (k0:Int)].toArray w [] (IsV (.string (mtx k0))):=by
 refine Spec.intro Tryz.func78 rfl Tryz.ntmps78 rfl ?_
 refine s10 ?_
 refine kp [0,5] ?_
 refine W_cond rfl (fun q1=>?_) (fun q1=>?_)
 ·refine s5 ?_
  refine res1 rfl (ResOK.tmp rfl) ⟨?_,rfl⟩ ms
  exfalso;simp at q1;omega
 ·refine s7 ?_
  refine W_loopC (σ:=Nat×ByteArray) (k0,ByteArray.mk #[]) (fun (p:Nat×ByteArray)=>[(0,.int .i64 (p.1:Int)),(3,.string p.2)]) (fun (p:Nat×ByteArray)=>[]) (fun (p:Nat×ByteArray)=>mtxN p.1 p.2=mtxN k0 (ByteArray.mk #[])∧p.2.size+p.1≤k0) (fun (p:Nat×ByteArray)=>p.1) [] [] ?_ sb ms ?_
  ·refine ⟨rfl,?_⟩
   show (ByteArray.mk #[]).size+k0≤k0
   have:(ByteArray.mk #[]).size=0:=rfl
   omega
  ·rintro ⟨k,s⟩ ⟨hs,hz⟩
   refine kq [0,3] ?_
   refine s6 ?_
   refine kp [0,3,7] ?_
   refine W_cond rfl (fun q4=>?_) (fun q4=>?_)
   ·have hkp:0 < k:=by simpa using q4
    refine s5 ?_
    refine L_binV rfl rfl rfl (bv_remN k 10 (by omega)) ?_
    refine L_binV rfl rfl rfl (bv_addR (by unfold inR;omega)) ?_
    refine L_convInt rfl rfl und5.h (by rw [und3.h];rfl) ?_
    refine L_buildSlice1 rfl rfl el22.h rfl (by decide) (by decide) rfl (fun bb=>?_)
    refine L_bytesToStr (ns:=[IntKind.u8.wrap (48+((k % 10:Nat):Int))]) rfl rfl und22.h und5.h und9.h (RdC.blk mm) rfl rfl ?_
    refine s1 ?_
    refine L_binV rfl rfl rfl (bv_sadd (by rw [strOf_size1];omega)) ?_
    refine s4 ?_
    refine L_binV rfl rfl rfl (bv_quoN k 10 (by omega) (by omega)) ?_
    refine s2 ?_
    refine ⟨(k / 10,dg k++s),sb,ms,?_,?_⟩
    ·refine ⟨?_,?_⟩
     ·rw [← hs];exact (mtxN_step s hkp).symm
     ·dsimp only at hz ⊢
      rw [ByteArray.size_append,dg_size];omega
    ·dsimp only;omega
   ·refine W_exit ?_
    refine s1 ?_
    have hd1:({ data:=#[109] }:ByteArray).size=1:=rfl
    dsimp only at hz
    refine s2 ?_
    refine L_binV rfl rfl rfl (bv_sadd (by (try dsimp only);omega)) ?_
    refine s3 ?_
    refine res1 rfl (ResOK.tmp rfl) ⟨?_,rfl⟩ ms
    have hk2:k=0:=by simp at q4;omega
    subst hk2
    dsimp only at hs
    rw [mtxN_zero] at hs
    exact congrArg Value.string (by rw [hs];rfl)
theorem markIntS_spec (w:World) (t1:TL Int) (k0:Nat) (hk0:0 < k0) (hb:k0+Mk.cnt t1 < 9223372036854775807):Spec Tryz.prog 146 [t1.hdr,.int .i64 (k0:Int)].toArray w [treeH t1] (fun v M=>v=.int .i64 ((k0+Mk.cnt t1:Nat):Int)∧M=[treeH (Mk.mkd k0 t1)]):=by
 obtain ⟨a1,c1,e1,x1,y1⟩:=t1
 replace hb:k0+cnts x1 < 9223372036854775807:=hb
 dsimp only [TL.hdr]
 refine Spec.intro Tryz.func146 rfl Tryz.ntmps146 rfl ?_
 refine W_fact (fun w h=>ow_facts (h.prs _ (List.mem_cons_self ..))) fun hF=>?_
 replace hF:x1.length≤9223372036854775807∧(0 < x1.length→∃ g,a1=some ⟨g,0,none⟩):=hF
 refine s10 ?_
 refine W_conv (M':=[treeH (⟨a1,c1,e1,half k0 0 x1,y1⟩:TL Int)]) (fun w h=>by rw [half_zero];exact h) ?_
 refine W_loopC (σ:=Nat) 0 (fun (i:Nat)=>[(1,.int .i64 ((k0+cnts (x1.take i):Nat):Int)),(5,.int .i64 (i:Int))]) (fun (i:Nat)=>[treeH (⟨a1,c1,e1,half k0 i x1,y1⟩:TL Int)]) (fun (i:Nat)=>i≤x1.length) (fun (i:Nat)=>x1.length - i) [(0,_)] [] ?_ sb ms ?_
 ·exact Nat.zero_le _
 ·rintro i hi
  refine kq [0,1,5] ?_
  refine s5 ?_
  refine L_lenS rfl rfl el87.h ?_
  refine s2 ?_
  refine kp [0,1,5,9] ?_
  refine W_cond rfl (fun q2=>?_) (fun q2=>?_)
  ·have hk1:i < x1.length:=by simpa using q2
   obtain ⟨g,rfl⟩:=hF.2 (by omega)
   obtain ⟨u,hu⟩:=getEl hk1
   have hs:=cnts_take_succ hu
   have hle:=cnts_take_le x1 (i+1)
   have hlh:=half_length k0 i x1
   try simp only [cnt_int,cnt_str] at hs
   refine s8 ?_
   refine L_indexAddr rfl rfl rfl el87.h rfl (by omega) ?_
   refine L_storeElV (((k0+cnts (x1.take i)):Nat):Int) rfl rfl pk rfl (show ((half k0 i x1):List Int)[i]?=some (u:Int) from half_get (k:=k0) hu) rfl (flat_int trivial) (.inr ⟨one3.h,rfl⟩) ?_
   refine s3 ?_
   refine L_binV rfl rfl rfl (bv_addR (by unfold inR;omega)) ?_
   refine s2 ?_
   rw [show (((k0+cnts (x1.take i)):Nat):Int)+1=((((k0+cnts (x1.take i))+1):Nat):Int) from rfl]
   have hfin:((half k0 i x1).set i (((k0+cnts (x1.take i)):Nat):Int))=half k0 (i+1) x1:=by
    have h9:=half_set (k:=k0) hu
    try simp only [mk_pair,mk_int,mk_str,cnt_pair,cnt_int,cnt_str,← Nat.add_assoc] at h9
    try simp only [List.set_set]
    exact h9
   refine W_conv (M':=treeH (⟨some ⟨g,0,none⟩,c1,e1,(half k0 (i+1) x1),y1⟩:TL Int)::_) (fun w h=>by rw [← hfin];exact h) ?_
   have hE:((k0+cnts (x1.take i))+1)=k0+cnts (x1.take (i+1)):=by rw [hs];(try simp only [cnt_pair,cnt_int,cnt_str]);omega
   rw [hE]
   refine s2 ?_
   refine L_binV rfl rfl rfl (bv_addR (by unfold inR;omega)) ?_
   refine s2 ?_
   refine ⟨i+1,sb,ms,?_,?_⟩
   ·show i+1≤x1.length
    omega
   ·show x1.length - (i+1) < x1.length - i
    omega
  ·refine W_exit ?_
   refine s6 ?_
   have hk2:x1.length≤i:=by simpa using q2
   rw [half_all k0 hk2]
   refine res1 rfl (ResOK.tmp rfl) ⟨?_,rfl⟩ ms
   have hk2:x1.length≤i:=by simpa using q2
   rw [List.take_of_length_le hk2];rfl
theorem heldIntS_spec (w:World) (t1:TL Int) (k0:Nat) (hk0:0 < k0) (hb:k0+Mk.cnt t1 < 9223372036854775807) (h1:GT.rd w [] (Mk.mkd k0 t1)):Spec Tryz.prog 147 [(Mk.mkd k0 t1).hdr,.int .i64 (k0:Int)].toArray w [] (IsV (.int .i64 ((k0+Mk.cnt t1:Nat):Int))):=by
 obtain ⟨a1,c1,e1,x1,y1⟩:=t1
 replace hb:k0+cnts x1 < 9223372036854775807:=hb
 have hml:=mks_length x1 k0
 have hm1:(mks k0 x1).length≤9223372036854775807:=rd_len h1
 rw [mk_TL] at h1 ⊢
 dsimp only [TL.hdr]
 refine Spec.intro Tryz.func147 rfl Tryz.ntmps147 rfl ?_
 refine s10 ?_
 refine W_loopC (σ:=Nat) 0 (fun (i:Nat)=>[(1,.int .i64 ((k0+cnts (x1.take i):Nat):Int)),(5,.int .i64 (i:Int))]) (fun (i:Nat)=>[]) (fun (i:Nat)=>i≤x1.length) (fun (i:Nat)=>x1.length - i) [(0,_)] [] ?_ sb ms ?_
 ·exact Nat.zero_le _
 ·rintro i hi
  refine kq [0,1,5] ?_
  refine s5 ?_
  refine L_lenS rfl rfl el87.h ?_
  refine s2 ?_
  refine kp [0,1,5,9] ?_
  refine W_cond rfl (fun q2=>?_) (fun q2=>?_)
  ·have hk1:i < (mks k0 x1).length:=by simpa using q2
   obtain ⟨g,o1,rfl⟩:=rd_addr h1 hk1
   obtain ⟨u,hu⟩:=getEl (show i < x1.length by omega)
   have hs:=cnts_take_succ hu
   have hle:=cnts_take_le x1 (i+1)
   have hu2:=mks_get (k:=k0) hu
   try simp only [cnt_int,cnt_str] at hs
   refine s8 ?_
   refine L_indexAddr rfl rfl rfl el87.h rfl (by omega) ?_
   refine L_load0 rfl rfl (by first | exact RdC.blk mm | exact RdC.old (Cells.el h1 rfl hu2)) one3.h rfl ?_
   refine s3 ?_
   refine kp [0,1,5,17] ?_
   refine W_cond rfl (fun q4=>?_) (fun q4=>?_)
   ·refine s5 ?_
    refine res1 rfl (ResOK.tmp rfl) ⟨?_,rfl⟩ ms
    exfalso;simp [mk_int,mk_str] at q4
   ·refine s3 ?_
    refine L_binV rfl rfl rfl (bv_addR (by unfold inR;omega)) ?_
    refine s2 ?_
    rw [show (((k0+cnts (x1.take i)):Nat):Int)+1=(((k0+cnts (x1.take i))+1:Nat):Int) from rfl]
    have hE:((k0+cnts (x1.take i))+1)=k0+cnts (x1.take (i+1)):=by rw [hs];(try simp only [cnt_pair,cnt_int,cnt_str]);omega
    rw [hE]
    refine s2 ?_
    refine L_binV rfl rfl rfl (bv_addR (by unfold inR;omega)) ?_
    refine s2 ?_
    refine ⟨i+1,sb,ms,?_,?_⟩
    ·show i+1≤x1.length
     omega
    ·show x1.length - (i+1) < x1.length - i
     omega
  ·refine W_exit ?_
   refine s6 ?_
   refine res1 rfl (ResOK.tmp rfl) ⟨?_,rfl⟩ ms
   have hk2:(mks k0 x1).length≤i:=by simpa using q2
   rw [List.take_of_length_le (by omega)];rfl
end Go.Proofs.SL
