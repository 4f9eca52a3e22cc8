/- The texts of the proof, part 20: the base, walks of functions, plain Lean. -/
import Derived.Test.YthlbpedehajlgaaGreatT19
namespace Go.Proofs.SL
open Go
instance dqM9:DecidableEq (Int×Bool):=fun a b=>instDecidableEqProd a b
instance dqM8:DecidableEq (Int×Int×Bool):=fun a b=>instDecidableEqProd a b
instance dqM7:DecidableEq (List D_Id×Int×Int×Bool):=fun a b=>instDecidableEqProd a b
instance dqM6:DecidableEq (Int×List D_Id×Int×Int×Bool):=fun a b=>instDecidableEqProd a b
instance dqM5:DecidableEq (D_Cmd×Int×List D_Id×Int×Int×Bool):=fun a b=>instDecidableEqProd a b
instance dqM4:DecidableEq (Int×D_Cmd×Int×List D_Id×Int×Int×Bool):=fun a b=>instDecidableEqProd a b
instance dqM3:DecidableEq (D_Id×Int×D_Cmd×Int×List D_Id×Int×Int×Bool):=fun a b=>instDecidableEqProd a b
instance dqM2:DecidableEq (Int×D_Id×Int×D_Cmd×Int×List D_Id×Int×Int×Bool):=fun a b=>instDecidableEqProd a b
instance dqM1:DecidableEq (Int×Int×D_Id×Int×D_Cmd×Int×List D_Id×Int×Int×Bool):=fun a b=>instDecidableEqProd a b
instance dqM0:DecidableEq (Int×Int×Int×D_Id×Int×D_Cmd×Int×List D_Id×Int×Int×Bool):=fun a b=>instDecidableEqProd a b
def sameM (a b:D_EMsg):Bool:=decide (a=b)
theorem same_loop {a b:D_EMsg} {f g:Option Bool} (hf:f=some (pB (a.2.2.2.2.2.1=b.2.2.2.2.2.1))) (hg:g=some (decide (a.2.2.2.2.2.2.2.1=b.2.2.2.2.2.2.2.1))) :
  gb (((((decide (a.1=b.1))&&(decide (a.2.1=b.2.1)))&&(decide (a.2.2.1=b.2.2.1)))&&(decide (a.2.2.2.1.1=b.2.2.2.1.1)&&(decide (a.2.2.2.1.2=b.2.2.2.1.2)&&true)))&&(decide (a.2.2.2.2.1=b.2.2.2.2.1))) f (fun y1=>gb (((((((decide (a.1=b.1))&&(decide (a.2.1=b.2.1)))&&(decide (a.2.2.1=b.2.2.1)))&&(decide (a.2.2.2.1.1=b.2.2.2.1.1)&&(decide (a.2.2.2.1.2=b.2.2.2.1.2)&&true)))&&(decide (a.2.2.2.2.1=b.2.2.2.2.1)))&&y1)&&(decide (a.2.2.2.2.2.2.1=b.2.2.2.2.2.2.1))) g (fun y2=>some (((((((((((decide (a.1=b.1))&&(decide (a.2.1=b.2.1)))&&(decide (a.2.2.1=b.2.2.1)))&&(decide (a.2.2.2.1.1=b.2.2.2.1.1)&&(decide (a.2.2.2.1.2=b.2.2.2.1.2)&&true)))&&(decide (a.2.2.2.2.1=b.2.2.2.2.1)))&&y1)&&(decide (a.2.2.2.2.2.2.1=b.2.2.2.2.2.2.1)))&&y2)&&(decide (a.2.2.2.2.2.2.2.2.1=b.2.2.2.2.2.2.2.2.1)))&&(decide (a.2.2.2.2.2.2.2.2.2.1=b.2.2.2.2.2.2.2.2.2.1)))&&(a.2.2.2.2.2.2.2.2.2.2 == b.2.2.2.2.2.2.2.2.2.2))))=some (sameM a b):=by
 subst hf hg
 rw [gb_some (fun h=>?_)]
 ·rw [gb_some (fun h=>by rw [h];rfl),pB_dec]
  congr 1
  unfold sameM
  rw [Bool.eq_iff_iff]
  obtain ⟨a1,a2,a3,⟨a4,a5⟩,a6,a7,a8,a9,a10,a11,a12⟩:=a
  obtain ⟨b1,b2,b3,⟨b4,b5⟩,b6,b7,b8,b9,b10,b11,b12⟩:=b
  simp [and_assoc]
 ·rw [h];rfl
theorem s_SameMsg_eq {a b:D_EMsg} (ha:Ok.ok a):s_SameMsg a b=some (sameM a b):=by
 unfold s_SameMsg
 exact same_loop (s_SameCmd_eq (a:=a.2.2.2.2.2.1) (b:=b.2.2.2.2.2.1) ha.2.2.2.2.2.1) (s_l9Alike_dec ha.2.2.2.2.2.2.2.1.1)
theorem i_SameMsg_eq {a b:D_EMsg} (ha:Ok.ok a):i_SameMsg a b=some (sameM a b):=by
 unfold i_SameMsg
 exact same_loop (i_SameCmd_eq (a:=a.2.2.2.2.2.1) (b:=b.2.2.2.2.2.1) ha.2.2.2.2.2.1) (i_eqIds ha.2.2.2.2.2.2.2.1.1)
def hasM (l:List D_EMsg) (m:D_EMsg):Bool:=l.any fun x=>sameM x m
theorem hasM_iff {l:List D_EMsg} {m:D_EMsg}:hasM l m=true↔m∈l:=by
 unfold hasM sameM
 rw [List.any_eq_true]
 constructor
 ·rintro ⟨x,hx,h⟩;rw [← of_decide_eq_true h];exact hx
 ·intro h;exact ⟨m,h,decide_eq_true rfl⟩
theorem s_l11Has_eq {l:List D_EMsg} {m:D_EMsg} (hl:l.length≤1000) (h:∀ x,x∈l→Ok.ok x):s_l11Has l m=some (hasM l m):=by
 unfold s_l11Has
 refine whileP_is (fun s:Int=>∃ k:Nat,s=(k:Int)∧k≤l.length∧hasM (l.take k) m=false) (fun s=>(l.length - s).toNat) ?_ ⟨0,rfl,Nat.zero_le _,rfl⟩
 rintro _ ⟨k,rfl,hk,hany⟩
 by_cases hlt:k < l.length
 ·have hx:l[k]?=some l[k]:=List.getElem?_eq_getElem hlt
  have hm:l[k]∈l:=List.getElem_mem hlt
  generalize l[k]=x at hx hm
  rw [decide_eq_true (show (k:Int) < (l.length:Int) by omega),cond_true,idx_nat,hx,Option.bind_some]
  rw [show s_SameMsg _ _=_ from s_SameMsg_eq (a:=x) (b:=m) (h x hm),Option.bind_some]
  cases hq:sameM x m with
  | true =>
   right
   rw [show hasM l m=true from List.any_eq_true.2 ⟨x,hm,hq⟩];rfl
  | false =>
   left
   rw [cond_false,wrap64_in (by unfold inR;omega)]
   refine ⟨_,rfl,⟨k+1,by simp,hlt,?_⟩,by omega⟩
   unfold hasM at hany ⊢
   rw [take_snoc hx,List.any_append,hany]
   simp [hq]
 ·right
  rw [decide_eq_false (show ¬ (k:Int) < (l.length:Int) by omega),cond_false]
  rw [List.take_of_length_le (by omega)] at hany
  rw [hany];rfl
theorem i_hasMsg_eq {l:List D_EMsg} {m:D_EMsg} (hl:l.length≤1000) (h:∀ x,x∈l→Ok.ok x):i_hasMsg l m=some (hasM l m):=by
 unfold i_hasMsg sl_ContainsFunc_implEMsgimplEMsg sl_IndexFunc_implEMsgimplEMsg
 have key:∃ r,(whileP (fun s1:Int=>cond (decide (s1 < (l.length:Int))) (Option.bind (idx l s1) (fun y3=>Option.bind (i_hasMsg_c1 y3 m) (fun y4=>cond y4 (Option.map .inr (some s1)) (some (.inl (IntKind.wrap .i64 (s1+1))))))) (Option.map .inr (some (-1)))) 0:Option Int)=some r∧decide (0≤r)=hasM l m:=by
  refine whileP_rule (fun s:Int=>∃ k:Nat,s=(k:Int)∧k≤l.length∧hasM (l.take k) m=false) (fun s=>(l.length - s).toNat) (fun r=>decide (0≤r)=hasM l m) ?_ 0 ⟨0,rfl,Nat.zero_le _,rfl⟩
  rintro _ ⟨k,rfl,hk,hany⟩
  by_cases hlt:k < l.length
  ·have hx:l[k]?=some l[k]:=List.getElem?_eq_getElem hlt
   have hm:l[k]∈l:=List.getElem_mem hlt
   generalize l[k]=x at hx hm
   rw [decide_eq_true (show (k:Int) < (l.length:Int) by omega),cond_true,idx_nat,hx,Option.bind_some]
   have e:i_hasMsg_c1 x m=some (sameM x m):=bind_of (i_SameMsg_eq (a:=x) (b:=m) (h x hm)) rfl
   rw [e,Option.bind_some]
   cases hq:sameM x m with
   | true =>
    right
    refine ⟨_,rfl,?_⟩
    rw [decide_eq_true (show (0:Int)≤(k:Int) by omega)]
    exact (List.any_eq_true.2 ⟨x,hm,hq⟩).symm
   | false =>
    left
    rw [cond_false,wrap64_in (by unfold inR;omega)]
    refine ⟨_,rfl,⟨k+1,by simp,hlt,?_⟩,by omega⟩
    unfold hasM at hany ⊢
    rw [take_snoc hx,List.any_append,hany]
    simp [hq]
  ·right
   rw [decide_eq_false (show ¬ (k:Int) < (l.length:Int) by omega),cond_false]
   refine ⟨_,rfl,?_⟩
   rw [List.take_of_length_le (by omega)] at hany
   rw [hany];rfl
 obtain ⟨r,h1,h2⟩:=key
 refine bind_of (bind_of h1 rfl) ?_
 rw [h2]
structure NetF (x:D_ENet):Prop where
 len:x.1.length=3
 node:∀ (i:Nat) (n:D_ENode),x.1[i]?=some n→GN n∧n.1=(i:Int)
 pool:∀ m,m∈x.2→MsgF m
 nd:x.2.Nodup
 pl:x.2.length≤160
def addM (p out:List D_EMsg):List D_EMsg:=out.foldl (fun p m=>if hasM p m=true then p else p++[m]) p
theorem addM_len (p:List D_EMsg):∀ out:List D_EMsg,p.length≤(addM p out).length∧(addM p out).length≤p.length+out.length:=fun out=>by
 induction out generalizing p with
 | nil=>exact ⟨Nat.le_refl _,Nat.le_refl _⟩
 | cons m out ih =>
  unfold addM at ih ⊢
  rw [List.foldl_cons]
  split
  ·have:=ih p
   rw [List.length_cons];omega
  ·have:=ih (p++[m])
   rw [List.length_append,List.length_singleton] at this
   rw [List.length_cons];omega
theorem addM_mem (p:List D_EMsg):∀ (out:List D_EMsg) (m:D_EMsg),m∈addM p out↔m∈p∨m∈out:=fun out=>by
 induction out generalizing p with
 | nil=>intro m;simp [addM]
 | cons m0 out ih =>
  intro m
  unfold addM at ih ⊢
  rw [List.foldl_cons]
  split
  ·rename_i h
   rw [ih p,List.mem_cons]
   constructor
   ·exact fun h=>h.imp id .inr
   ·rintro (q | q | q)
    ·exact .inl q
    ·rw [q];exact .inl (hasM_iff.1 h)
    ·exact .inr q
  ·rw [ih,List.mem_append,List.mem_singleton,List.mem_cons,or_assoc]
theorem addM_nd {p:List D_EMsg} (h:p.Nodup):∀ out:List D_EMsg,(addM p out).Nodup:=fun out=>by
 induction out generalizing p with
 | nil=>exact h
 | cons m out ih =>
  unfold addM at ih ⊢
  rw [List.foldl_cons]
  split
  ·exact ih h
  ·rename_i hq
   refine ih (List.nodup_append.2 ⟨h,by simp,fun a ha b hb=>?_⟩)
   rw [List.mem_singleton] at hb
   subst hb
   exact fun e=>hq (hasM_iff.2 (e ▸ ha))
def noneR:GetR:=(zeroN,[],false)
noncomputable def netS (x:D_ENet) (at_:Int) (r:GetR):D_ENet×Bool :=
 if r.2.2=true then (if decide (160 < ((addM x.2 r.2.1).length:Int))=true then (x,false) else ((x.1.set at_.toNat r.1,addM x.2 r.2.1),true)) else (x,false)
def nodeA (x:D_ENet) (i:Int):D_ENode:=(x.1[i.toNat]?).getD zeroN
noncomputable def fallG (d:D_ENode):GetR:=if nodeOkB d then ((d.1,d.2.1,d.2.2.1,([]:List D_Lead)),[],true) else noneR
theorem fallG_G {d:D_ENode} (h:GN d):GRes d (fallG d):=by
 unfold fallG
 rw [if_pos (nodeF.ok h.f)]
 exact ⟨⟨NodeF.mk' h.f.me h.f.nx h.f.is (Nat.zero_le _) h.f.own (fun _ hl=>by cases hl) (by simp),fun _ hl=>(by cases hl),fun _ hl=>by cases hl⟩,rfl,fun _ hl=>(by cases hl),Nat.zero_le _⟩
theorem i_ENodeFall_eq' {d:D_ENode} (h:GN d):i_ENodeFall d=some ((fallG d).1,(fallG d).2.2):=by
 unfold i_ENodeFall fallG
 refine bind_of (i_ENodeOk_eq h.f.okk) ?_
 rw [nodeF.ok h.f,Bool.not_true,cond_false,if_pos rfl]
 exact bind_of (i_copyENode_eq h.f.small) rfl
noncomputable def actK (d:D_ENode) (a:D_EAct):GetR :=
 if decide (a.1=1)=true then offD d a.2.2.2.2 else if decide (a.1=3)=true then slowD d a.2.2.2.1 else if decide (a.1=4)=true then recD d a.2.2.2.1
 else if decide (a.1=5)=true then fallG d else noneR
noncomputable def actR (x:D_ENet) (a:D_EAct):Int×GetR :=
 if decide (a.1=2)=true then (match idx x.2 a.2.2.1 with
  | none=>(0,noneR)
  | some m=>(m.2.2.1,getD (nodeA x m.2.2.1) m))
 else if decide (0≤a.2.1∧a.2.1 < 3)=true then (if (((decide (a.1=1)||decide (a.1=3))||decide (a.1=4))||decide (a.1=5))=true then (a.2.1,actK (nodeA x a.2.1) a) else (0,noneR)) else (0,noneR)
noncomputable def netD (x:D_ENet) (a:D_EAct):D_ENet×Bool:=netS x (actR x a).1 (actR x a).2
theorem NetF.at {x:D_ENet} (h:NetF x) {i:Int} (hi:0≤i∧i < 3):idx x.1 i=some (nodeA x i)∧GN (nodeA x i)∧(nodeA x i).1=i:=by
 have hlt:i.toNat < x.1.length:=by rw [h.len];omega
 have hx:x.1[i.toNat]?=some x.1[i.toNat]:=List.getElem?_eq_getElem hlt
 have:=h.node _ _ hx
 unfold nodeA
 rw [hx]
 refine ⟨?_,this.1,?_⟩
 ·rw [idx_i x.1 (k:=i.toNat) (by omega)];exact hx
 ·show (x.1[i.toNat]).1=i
  rw [this.2];omega
theorem actK_G {d:D_ENode} (h:GN d) (a:D_EAct) (hr:(actK d a).2.2=true):GRes d (actK d a):=by
 unfold actK at hr ⊢
 split
 ·exact offD_G h _
 split
 ·exact slowD_G h _
 split
 ·exact recD_G h _
 split
 ·exact fallG_G h
 ·rename_i h1 h2 h3 h4
  rw [if_neg h1,if_neg h2,if_neg h3,if_neg h4] at hr
  cases hr
theorem idx_get {α:Type} {l:List α} {i:Int} {x:α} (h:idx l i=some x):0≤i∧i < l.length∧x∈l∧l[i.toNat]?=some x:=by
 unfold idx at h
 split at h
 ·cases h
 ·have:=(List.getElem?_eq_some_iff.1 h).1
  exact ⟨by omega,by omega,List.mem_of_getElem? h,h⟩
theorem idx_none {α:Type} {l:List α} {i:Int} (h:idx l i=none):i < 0∨(l.length:Int)≤i:=by
 unfold idx at h
 split at h
 ·exact .inl (by assumption)
 ·have:=List.getElem?_eq_none_iff.1 h
  right;omega
theorem netS_F {x:D_ENet} (h:NetF x) {i:Int} {r:GetR} (hr:r.2.2=true→(0≤i∧i < 3)∧GRes (nodeA x i) r):NetF (netS x i r).1:=by
 unfold netS
 split
 ·rename_i hk
  obtain ⟨hi,hg⟩:=hr hk
  split
  ·exact h
  ·rename_i hq
   obtain ⟨h1,h2,h3⟩:=h.at hi
   refine ⟨by show (x.1.set _ _).length=3;rw [List.length_set,h.len],fun j n hn=>?_,fun m hm=>?_,addM_nd h.nd _,?_⟩
   ·by_cases hj:i.toNat=j
    ·subst hj
     rw [show (x.1.set i.toNat r.1,addM x.2 r.2.1).1=x.1.set i.toNat r.1 from rfl,List.getElem?_set_self (by rw [h.len];omega)] at hn
     rw [← Option.some.inj hn]
     refine ⟨hg.g,?_⟩
     rw [hg.me,h3];omega
    ·rw [show (x.1.set i.toNat r.1,addM x.2 r.2.1).1=x.1.set i.toNat r.1 from rfl,List.getElem?_set_ne hj] at hn
     exact h.node j n hn
   ·rcases (addM_mem _ _ _).1 hm with q | q
    ·exact h.pool m q
    ·exact (hg.out m q).1
   ·have hq':¬ 160 < ((addM x.2 r.2.1).length:Int):=fun e=>hq (decide_eq_true e)
    show (addM x.2 r.2.1).length≤160
    omega
 ·exact h
theorem actR_G {x:D_ENet} (h:NetF x) (a:D_EAct):(actR x a).2.2.2=true→(0≤(actR x a).1∧(actR x a).1 < 3)∧GRes (nodeA x (actR x a).1) (actR x a).2:=by
 unfold actR
 split
 ·split
  ·intro q;cases q
  ·rename_i m hm
   intro _
   have hmf:=h.pool m (idx_get hm).2.2.1
   exact ⟨hmf.to,getD_G (h.at hmf.to).2.1 m⟩
 ·split
  ·rename_i hq
   have hq:=of_decide_eq_true hq
   split
   ·intro q
    exact ⟨hq,actK_G (h.at hq).2.1 a q⟩
   ·intro q;cases q
  ·intro q;cases q
theorem netD_F {x:D_ENet} (h:NetF x) (a:D_EAct):NetF (netD x a).1:=netS_F h (actR_G h a)
theorem addM_take {p out:List D_EMsg} {k:Nat} {m:D_EMsg} (h:out[k]?=some m):addM p (out.take (k+1))=if hasM (addM p (out.take k)) m=true then addM p (out.take k) else addM p (out.take k)++[m]:=by
 rw [take_snoc h]
 unfold addM
 rw [List.foldl_append];rfl
theorem i_copyENet_eq {x:D_ENet} (h:NetF x):i_copyENet x=some x:=by
 have h3:=h.len
 have hpl:=h.pl
 unfold i_copyENet
 refine whileP_is (fun s:Int×List D_ENode=>∃ k:Nat,k≤3∧s=((k:Int),x.1.take k)) (fun s=>(3 - s.1).toNat) ?_ ⟨0,by omega,rfl⟩
 rintro _ ⟨k,hk,rfl⟩
 dsimp only
 by_cases hlt:k < 3
 ·left
  have hx:x.1[k]?=some x.1[k]:=List.getElem?_eq_getElem (by omega)
  generalize x.1[k]=n at hx
  have hg:=(h.node k n hx).1
  rw [decide_eq_true (show (k:Int) < (x.1.length:Int) by omega),cond_true,idx_nat,hx,Option.bind_some]
  rw [show i_copyENode _=_ from i_copyENode_eq (d:=n) hg.f.small,Option.bind_some,appP_ok (by simp;omega),Option.bind_some,wrap64_in (by unfold inR;omega)]
  exact ⟨_,rfl,⟨k+1,hlt,by rw [take_snoc hx];simp⟩,by dsimp only;omega⟩
 ·right
  have:k=3:=by omega
  subst this
  rw [decide_eq_false (show ¬ ((3:Nat):Int) < (x.1.length:Int) by omega),cond_false,List.take_of_length_le (by omega)]
  refine inr_of ?_
  refine whileP_is (fun s:Int×List D_EMsg=>∃ k:Nat,k≤x.2.length∧s=((k:Int),x.2.take k)) (fun s=>(x.2.length - s.1).toNat) ?_ ⟨0,Nat.zero_le _,rfl⟩
  rintro _ ⟨j,hj,rfl⟩
  dsimp only
  by_cases hjl:j < x.2.length
  ·left
   have hx:x.2[j]?=some x.2[j]:=List.getElem?_eq_getElem hjl
   have hm:=List.getElem_mem hjl
   generalize x.2[j]=m at hx hm
   have hmf:=h.pool m hm
   rw [decide_eq_true (show (j:Int) < (x.2.length:Int) by omega),cond_true,idx_nat,hx,Option.bind_some]
   rw [show i_copyEMsg _=_ from i_copyEMsg_eq (m:=m) hmf.small,Option.bind_some,appP_ok (by simp;omega),Option.bind_some,wrap64_in (by unfold inR;omega)]
   exact ⟨_,rfl,⟨j+1,hjl,by rw [take_snoc hx];simp⟩,by dsimp only;omega⟩
  ·right
   have:j=x.2.length:=by omega
   subst this
   rw [decide_eq_false (show ¬ (x.2.length:Int) < (x.2.length:Int) by omega),cond_false,List.take_length];rfl
noncomputable def tailI (x:D_ENet) (at_:Int) (n:D_ENode) (ms:List D_EMsg) (ok:Bool):Option (D_ENet×Bool) :=
 Option.bind (i_copyENet x) (fun y12=>cond (!ok) (some (y12,false)) (Option.bind (idx y12.1 at_) (fun y14=>Option.bind (some (y12.1.set (at_.toNat) n)) (fun y15=>whileP (fun s17:Int×(List D_EMsg)=>cond (decide (s17.1 < (ms.length:Int))) (Option.bind (idx ms s17.1) (fun y19=>Option.bind (i_hasMsg s17.2 y19) (fun y20=>cond (!y20) (Option.bind (appP s17.2 [y19]) (fun y23=>some (.inl ((IntKind.wrap .i64 (s17.1+1),y23))))) (some (.inl ((IntKind.wrap .i64 (s17.1+1),s17.2))))))) (Option.map .inr (cond (decide (160 < (s17.2.length:Int))) (Option.bind (i_copyENet x) (fun y26=>some (y26,false))) (some ((y15,s17.2),true))))) (0,y12.2)))))
theorem tailI_eq {x:D_ENet} (h:NetF x) {i:Int} {r:GetR} (hr:r.2.2=true→(0≤i∧i < 3)∧GRes (nodeA x i) r):tailI x i r.1 r.2.1 r.2.2=some (netS x i r):=by
 unfold tailI netS
 refine bind_of (i_copyENet_eq h) ?_
 cases hk:r.2.2 with
 | false=>rfl
 | true =>
  have hpl:=h.pl
  obtain ⟨hi,hg⟩:=hr hk
  have hl2:=hg.len
  rw [Bool.not_true,cond_false,if_pos rfl,(h.at hi).1,Option.bind_some,Option.bind_some]
  refine whileP_is (fun s:Int×List D_EMsg=>∃ k:Nat,k≤r.2.1.length∧s=((k:Int),addM x.2 (r.2.1.take k))) (fun s=>(r.2.1.length - s.1).toNat) ?_ ⟨0,Nat.zero_le _,rfl⟩
  rintro _ ⟨k,hk',rfl⟩
  dsimp only
  by_cases hlt:k < r.2.1.length
  ·left
   have hx:r.2.1[k]?=some r.2.1[k]:=List.getElem?_eq_getElem hlt
   have hm:=List.getElem_mem hlt
   generalize r.2.1[k]=m at hx hm
   have hal:=addM_len x.2 (r.2.1.take k)
   rw [List.length_take] at hal
   rw [decide_eq_true (show (k:Int) < (r.2.1.length:Int) by omega),cond_true,idx_nat,hx,Option.bind_some]
   rw [i_hasMsg_eq (l:=addM x.2 (r.2.1.take k)) (m:=m) (by omega) (fun y hy=>by
    rcases (addM_mem _ _ _).1 hy with q | q
    ·exact (h.pool y q).okk
    ·exact (hg.out y (List.mem_of_mem_take q)).1.okk),Option.bind_some,wrap64_in (by unfold inR;omega)]
   cases hq:hasM (addM x.2 (r.2.1.take k)) m with
   | true=>exact ⟨_,rfl,⟨k+1,hlt,by rw [addM_take hx,if_pos hq];simp⟩,by dsimp only;omega⟩
   | false =>
    rw [Bool.not_false,cond_true,appP_ok (by simp;omega),Option.bind_some]
    exact ⟨_,rfl,⟨k+1,hlt,by rw [addM_take hx,if_neg (by rw [hq];exact Bool.false_ne_true)];simp⟩,by dsimp only;omega⟩
  ·right
   have:k=r.2.1.length:=by omega
   subst this
   rw [decide_eq_false (show ¬ (r.2.1.length:Int) < (r.2.1.length:Int) by omega),cond_false,List.take_length]
   refine inr_of ?_
   cases decide (160 < ((addM x.2 r.2.1).length:Int)) with
   | true=>exact bind_of (i_copyENet_eq h) rfl
   | false=>rfl
theorem i_netDo_eq {x:D_ENet} (h:NetF x) {a:D_EAct} (ha:Ok.ok a):i_netDo x a=some (netD x a):=by
 have hc:Ok.ok a.2.2.2.2:=ha.2.2.2.2
 have hpl:=h.pl
 unfold i_netDo netD
 have hG:=actR_G h a
 cases hk:decide (a.1=2) with
 | true =>
  rw [cond_true,within_eq,Option.bind_some,wrap64_in (by unfold inR;omega)]
  have h1:decide (a.1=1)=false:=by have:=of_decide_eq_true hk;exact decide_eq_false (by omega)
  cases hx:idx x.2 a.2.2.1 with
  | none =>
   have:=idx_none hx
   have hA:actR x a=(0,noneR):=by unfold actR;rw [hk,if_pos rfl,hx]
   rw [decide_eq_false (show ¬ (0≤a.2.2.1∧a.2.2.1≤(x.2.length:Int) - 1) by omega),Bool.not_false,cond_true,hA]
   exact bind_of (i_copyENet_eq h) rfl
  | some m =>
   obtain ⟨k1,k2,h3,_⟩:=idx_get hx
   have hA:actR x a=(m.2.2.1,getD (nodeA x m.2.2.1) m):=by unfold actR;rw [hk,if_pos rfl,hx]
   rw [hA] at hG ⊢
   have hmf:=h.pool m h3
   obtain ⟨e1,e2,_⟩:=h.at hmf.to
   rw [decide_eq_true (show 0≤a.2.2.1∧a.2.2.1≤(x.2.length:Int) - 1 by omega),Bool.not_true,cond_false,Option.bind_some,isRep_eq,Option.bind_some,decide_eq_true hmf.to,Bool.not_true,cond_false,e1,Option.bind_some,h1,cond_false,cond_true,Option.bind_some]
   refine bind_of (i_ENodeGet_eq (m:=m) e2 hmf.okk) ?_
   exact tailI_eq h hG
 | false =>
  rw [cond_false,isRep_eq,Option.bind_some]
  cases hq:decide (0≤a.2.1∧a.2.1 < 3) with
  | false =>
   have hA:actR x a=(0,noneR):=by unfold actR;rw [hk,if_neg Bool.false_ne_true,hq,if_neg Bool.false_ne_true]
   rw [Bool.not_false,cond_true,hA]
   exact bind_of (i_copyENet_eq h) rfl
  | true =>
   rw [Bool.not_true,cond_false]
   obtain ⟨e1,e2,_⟩:=h.at (of_decide_eq_true hq)
   rw [e1,Option.bind_some]
   cases h1:decide (a.1=1) with
   | true =>
    have hA:actR x a=(a.2.1,offD (nodeA x a.2.1) a.2.2.2.2):=by unfold actR actK;rw [hk,hq,h1];rfl
    rw [hA] at hG ⊢
    exact bind_of (i_ENodeOffer_eq (c:=a.2.2.2.2) e2.f.okk e2.f.small hc) (tailI_eq h hG)
   | false =>
    rw [cond_false,cond_false]
    cases h3:decide (a.1=3) with
    | true =>
     have hA:actR x a=(a.2.1,slowD (nodeA x a.2.1) a.2.2.2.1):=by unfold actR actK;rw [hk,hq,h1,h3];rfl
     rw [hA] at hG ⊢
     exact bind_of (i_ENodeSlow_eq a.2.2.2.1 e2.f.okk e2.f.small) (tailI_eq h hG)
    | false =>
     rw [cond_false]
     cases h4:decide (a.1=4) with
     | true =>
      have hA:actR x a=(a.2.1,recD (nodeA x a.2.1) a.2.2.2.1):=by unfold actR actK;rw [hk,hq,h1,h3,h4];rfl
      rw [hA] at hG ⊢
      exact bind_of (i_ENodeRecover_eq a.2.2.2.1 e2.f.okk e2.f.small) (tailI_eq h hG)
     | false =>
      rw [cond_false]
      cases h5:decide (a.1=5) with
      | true =>
       have hA:actR x a=(a.2.1,fallG (nodeA x a.2.1)):=by unfold actR actK;rw [hk,hq,h1,h3,h4,h5];rfl
       rw [hA] at hG ⊢
       have hf:=tailI_eq h hG
       unfold fallG at hf ⊢
       rw [nodeF.ok e2.f] at hf ⊢
       refine bind_of (i_ENodeFall_eq' e2) ?_
       unfold fallG
       rw [nodeF.ok e2.f]
       exact hf
      | false =>
       have hA:actR x a=(0,noneR):=by unfold actR actK;rw [hk,hq,h1,h3,h4,h5];rfl
       rw [cond_false,hA]
       exact bind_of (i_copyENet_eq h) rfl
def newN (i:Int):D_ENode:=(i,1,([]:List D_Inst),([]:List D_Lead))
def netNew:D_ENet:=([newN 0,newN 1,newN 2],[])
theorem newN_G {i:Int} (hi:0≤i∧i < 3):GN (newN i) :=
 ⟨NodeF.mk' hi ⟨by show (1:Int)≤1;omega,by show (1:Int)≤7;omega⟩ rfl (Nat.zero_le _) (fun _ hx=>by cases hx) (fun _ hx=>by cases hx) (by simp [newN]),fun _ hx=>(by cases hx),fun _ hx=>by cases hx⟩
theorem netNew_F:NetF netNew:=by
 refine ⟨rfl,fun i n hn=>?_,fun _ hm=>(by cases hm),by simp [netNew],Nat.zero_le _⟩
 match i,hn with
 | 0,hn=>rw [← Option.some.inj hn];exact ⟨newN_G (by omega),rfl⟩
 | 1,hn=>rw [← Option.some.inj hn];exact ⟨newN_G (by omega),rfl⟩
 | 2,hn=>rw [← Option.some.inj hn];exact ⟨newN_G (by omega),rfl⟩
 | k+3,hn=>cases hn
theorem i_ENetNew_eq:i_ENetNew=some netNew:=by
 unfold i_ENetNew
 refine whileP_is (fun s:Int×List D_ENode=>∃ k:Nat,k≤3∧s=((k:Int),netNew.1.take k)) (fun s=>(3 - s.1).toNat) ?_ ⟨0,by omega,rfl⟩
 rintro _ ⟨k,hk,rfl⟩
 have:k=0∨k=1∨k=2∨k=3:=by omega
 rcases this with rfl | rfl | rfl | rfl
 ·exact .inl ⟨_,rfl,⟨1,by omega,rfl⟩,by decide⟩
 ·exact .inl ⟨_,rfl,⟨2,by omega,rfl⟩,by decide⟩
 ·exact .inl ⟨_,rfl,⟨3,by omega,rfl⟩,by decide⟩
 ·exact .inr rfl
end Go.Proofs.SL
namespace Go.Proofs.SL
open Go
theorem nodup_take {α:Type} {l:List α} (h:l.Nodup) {k:Nat} {x:α} (hx:l[k]?=some x):x ∉ l.take k:=fun hm=>by
 obtain ⟨j,hj,e⟩:=List.mem_iff_getElem.1 hm
 rw [List.getElem_take] at e
 rw [List.length_take] at hj
 obtain ⟨hk,e2⟩:=List.getElem?_eq_some_iff.1 hx
 rw [List.nodup_iff_pairwise_ne,List.pairwise_iff_getElem] at h
 exact h j k (by omega) hk (by omega) (e.trans e2.symm)
theorem not_has {l:List D_EMsg} (h:l.Nodup) {k:Nat} {x:D_EMsg} (hx:l[k]?=some x):hasM (l.take k) x=false:=by
 rw [Bool.eq_false_iff]
 exact fun e=>nodup_take h hx (hasM_iff.1 e)
theorem i_ENetOk_eq {x:D_ENet} (h:NetF x):i_ENetOk x=some true:=by
 have h3:=h.len
 have hpl:=h.pl
 unfold i_ENetOk
 rw [decide_eq_true (show (x.1.length:Int)=3 by omega),decide_eq_false (show ¬ 160 < (x.2.length:Int) by omega),Bool.not_true,Bool.or_false,cond_false]
 refine whileP_is (fun s:Int=>∃ k:Nat,k≤3∧s=(k:Int)) (fun s=>(3 - s).toNat) ?_ ⟨0,by omega,rfl⟩
 rintro _ ⟨k,hk,rfl⟩
 by_cases hlt:k < 3
 ·left
  have hx:x.1[k]?=some x.1[k]:=List.getElem?_eq_getElem (by omega)
  generalize x.1[k]=n at hx
  obtain ⟨hg,hme⟩:=h.node k n hx
  rw [decide_eq_true (show (k:Int) < (x.1.length:Int) by omega),cond_true,idx_nat,hx,Option.bind_some,show i_ENodeOk _=_ from i_ENodeOk_eq (d:=n) hg.f.okk,Option.bind_some,nodeF.ok hg.f,decide_eq_true hme,Bool.not_true,Bool.or_false,cond_false,wrap64_in (by unfold inR;omega)]
  exact ⟨_,rfl,⟨k+1,hlt,by simp⟩,by omega⟩
 ·right
  have:k=3:=by omega
  subst this
  rw [decide_eq_false (show ¬ ((3:Nat):Int) < (x.1.length:Int) by omega),cond_false]
  refine inr_of ?_
  refine whileP_is (fun s:Int=>∃ k:Nat,k≤x.2.length∧s=(k:Int)) (fun s=>(x.2.length - s).toNat) ?_ ⟨0,Nat.zero_le _,rfl⟩
  rintro _ ⟨j,hj,rfl⟩
  by_cases hjl:j < x.2.length
  ·left
   have hx:x.2[j]?=some x.2[j]:=List.getElem?_eq_getElem hjl
   have hm:=List.getElem_mem hjl
   generalize x.2[j]=m at hx hm
   have hmf:=h.pool m hm
   rw [decide_eq_true (show (j:Int) < (x.2.length:Int) by omega),cond_true,idx_nat,hx,Option.bind_some,show i_EMsgOk _=_ from i_EMsgOk_eq (m:=m) hmf.okk,Option.bind_some,msgF_iff.2 hmf,Bool.not_true,Bool.not_false,gb_true,slcP_pos (by omega),Option.bind_some,gb_true]
   rw [show ((x.2.drop (0:Int).toNat).take ((j:Int).toNat - (0:Int).toNat))=x.2.take j by simp]
   rw [show i_hasMsg _ _=_ from i_hasMsg_eq (l:=x.2.take j) (m:=m) (by rw [List.length_take];omega) (fun y hy=>(h.pool y (List.mem_of_mem_take hy)).okk),not_has h.nd hx,Option.bind_some,Bool.or_false,cond_false,wrap64_in (by unfold inR;omega)]
   exact ⟨_,rfl,⟨j+1,hjl,by simp⟩,by omega⟩
  ·right
   have:j=x.2.length:=by omega
   subst this
   rw [decide_eq_false (show ¬ (x.2.length:Int) < (x.2.length:Int) by omega),cond_false];rfl
theorem s_ENetOk_eq {x:D_ENet} (h:NetF x):s_ENetOk x=some true:=by
 have h3:=h.len
 have hpl:=h.pl
 unfold s_ENetOk
 rw [decide_eq_true (show (x.1.length:Int)=3 by omega),decide_eq_false (show ¬ 160 < (x.2.length:Int) by omega),Bool.not_true,Bool.or_false,cond_false]
 refine whileP_is (fun s:Int=>∃ k:Nat,k≤3∧s=(k:Int)) (fun s=>(3 - s).toNat) ?_ ⟨0,by omega,rfl⟩
 rintro _ ⟨k,hk,rfl⟩
 by_cases hlt:k < 3
 ·left
  have hx:x.1[k]?=some x.1[k]:=List.getElem?_eq_getElem (by omega)
  generalize x.1[k]=n at hx
  obtain ⟨hg,hme⟩:=h.node k n hx
  rw [decide_eq_true (show (k:Int) < 3 by omega),cond_true,idx_nat,hx,Option.bind_some,show s_ENodeOk _=_ from s_ENodeOk_eq (d:=n) hg.f.okk,Option.bind_some,nodeF.ok hg.f,Bool.not_true,Bool.not_false,gb_true,Option.bind_some,decide_eq_true hme,Bool.not_true,Bool.or_false,cond_false,wrap64_in (by unfold inR;omega)]
  exact ⟨_,rfl,⟨k+1,hlt,by simp⟩,by omega⟩
 ·right
  have:k=3:=by omega
  subst this
  rw [show decide (((3:Nat):Int) < 3)=false from rfl,cond_false]
  refine inr_of ?_
  refine whileP_is (fun s:Int=>∃ k:Nat,k≤x.2.length∧s=(k:Int)) (fun s=>(x.2.length - s).toNat) ?_ ⟨0,Nat.zero_le _,rfl⟩
  rintro _ ⟨j,hj,rfl⟩
  by_cases hjl:j < x.2.length
  ·left
   have hx:x.2[j]?=some x.2[j]:=List.getElem?_eq_getElem hjl
   have hm:=List.getElem_mem hjl
   generalize x.2[j]=m at hx hm
   have hmf:=h.pool m hm
   rw [decide_eq_true (show (j:Int) < (x.2.length:Int) by omega),cond_true,idx_nat,hx,Option.bind_some,show s_EMsgOk _=_ from s_EMsgOk_eq (m:=m) hmf.okk,Option.bind_some,msgF_iff.2 hmf,Bool.not_true,Bool.not_false,gb_true,slcP_pos (by omega),Option.bind_some,gb_true,Option.bind_some,gb_true]
   rw [show ((x.2.drop (0:Int).toNat).take ((j:Int).toNat - (0:Int).toNat))=x.2.take j by simp]
   rw [show s_l11Has _ _=_ from s_l11Has_eq (l:=x.2.take j) (m:=m) (by rw [List.length_take];omega) (fun y hy=>(h.pool y (List.mem_of_mem_take hy)).okk),not_has h.nd hx,Option.bind_some,Bool.or_false,cond_false,wrap64_in (by unfold inR;omega)]
   exact ⟨_,rfl,⟨j+1,hjl,by simp⟩,by omega⟩
  ·right
   have:j=x.2.length:=by omega
   subst this
   rw [decide_eq_false (show ¬ (x.2.length:Int) < (x.2.length:Int) by omega),cond_false];rfl
theorem i_ENetDo_eq {x:D_ENet} (h:NetF x) {a:D_EAct} (ha:Ok.ok a):i_ENetDo x a=some (netD x a):=by
 unfold i_ENetDo
 refine bind_of (i_ENetOk_eq h) ?_
 rw [Bool.not_true,cond_false]
 exact bind_of (i_netDo_eq h ha) rfl
def giveA (b:Int):D_EAct:=(2,0,b,(0,0),noCmd)
theorem inR0:inR 0:=by unfold inR;omega
theorem noCmd_okk:Ok.ok noCmd:=cmd_ok cmdOk_no
theorem giveA_ok {b:Int} (hb:inR b):Ok.ok (giveA b):=⟨by show inR 2;unfold inR;omega,inR0,hb,⟨inR0,inR0⟩,noCmd_okk⟩
noncomputable def giveD (x:D_ENet) (b:Int):D_ENet:=(netD x (giveA b)).1
noncomputable def set1:Nat→Nat→D_ENet→D_ENet
 | 0,_,x=>x
 | f+1,b,x=>if b < x.2.length then set1 f (b+1) (giveD x (b:Int)) else x
theorem set1_F:∀ (f b:Nat) {x:D_ENet},NetF x→NetF (set1 f b x)
 | 0,_,_,h=>h
 | f+1,b,x,h=>by
  unfold set1
  split
  ·exact set1_F f (b+1) (netD_F h _)
  ·exact h
noncomputable def setR:Nat→D_ENet→D_ENet
 | 0,x=>x
 | r+1,x=>setR r (set1 161 0 x)
theorem setR_F:∀ (r:Nat) {x:D_ENet},NetF x→NetF (setR r x)
 | 0,_,h=>h
 | r+1,_,h=>setR_F r (set1_F 161 0 h)
theorem setR_succ (r:Nat) (x:D_ENet):setR (r+1) x=set1 161 0 (setR r x):=by
 induction r generalizing x with
 | zero=>rfl
 | succ r ih=>rw [setR,ih];rfl
theorem settle_inner {α:Type} {x:D_ENet} (h:NetF x) {K:D_ENet→Option α} {r:α} (hK:K (set1 161 0 x)=some r) :
  whileP (fun s3:Int×(List D_ENode)×(List D_EMsg)=>cond (decide (s3.1 < (s3.2.2.length:Int))) (Option.bind (i_ENetDo (s3.2.1,s3.2.2) (2,0,s3.1,(0,0),(0,0,0,ByteArray.empty,ByteArray.empty,ByteArray.empty,0,([]:List ByteArray)))) (fun y5=>some (.inl ((IntKind.wrap .i64 (s3.1+1),y5.1.1,y5.1.2))))) (Option.map .inr (K (s3.2.1,s3.2.2)))) (0,x.1,x.2)=some r:=by
 refine whileP_is (fun s:Int×(List D_ENode)×(List D_EMsg)=>∃ f b:Nat,f+b=161∧s.1=(b:Int)∧NetF (s.2.1,s.2.2)∧set1 f b (s.2.1,s.2.2)=set1 161 0 x∧b≤160) (fun s=>(161 - s.1).toNat) ?_ ⟨161,0,rfl,rfl,h,rfl,by omega⟩
 rintro ⟨b',n,p⟩ ⟨f,b,hfb,h1,hF,he,hb⟩
 dsimp only at h1 hF he ⊢
 subst h1
 have hpl:p.length≤160:=hF.pl
 obtain ⟨f,rfl⟩:∃ g,f=g+1:=⟨f - 1,by omega⟩
 rw [set1] at he
 by_cases hlt:b < p.length
 ·left
  rw [if_pos hlt] at he
  rw [decide_eq_true (show (b:Int) < (p.length:Int) by omega),cond_true,wrap64_in (by unfold inR;omega)]
  refine ⟨_,bind_of (i_ENetDo_eq hF (giveA_ok (b:=(b:Int)) (by unfold inR;omega))) rfl,⟨f,b+1,by omega,by simp,netD_F hF _,he,by omega⟩,by dsimp only;omega⟩
 ·right
  rw [if_neg hlt] at he
  rw [decide_eq_false (show ¬ (b:Int) < (p.length:Int) by omega),cond_false,he,hK];rfl
theorem settle_eq {x:D_ENet} (h:NetF x) (r:Nat) (hr:r≤1000):w_settle x (r:Int)=some (setR r x):=by
 unfold w_settle
 refine whileP_is (fun s:Int×(List D_ENode)×(List D_EMsg)=>∃ k:Nat,k≤r∧s=((k:Int),(setR k x).1,(setR k x).2)) (fun s=>(r - s.1).toNat) ?_ ⟨0,Nat.zero_le _,rfl⟩
 rintro _ ⟨k,hk,rfl⟩
 dsimp only
 by_cases hlt:k < r
 ·left
  rw [decide_eq_true (show (k:Int) < (r:Int) by omega),cond_true,wrap64_in (by unfold inR;omega)]
  refine ⟨((k:Int)+1,(setR (k+1) x).1,(setR (k+1) x).2),?_,⟨k+1,hlt,by simp⟩,by dsimp only;omega⟩
  exact settle_inner (α:=(Int×(List D_ENode)×(List D_EMsg)) ⊕ D_ENet) (setR_F k h) (K:=fun y=>some (Sum.inl ((k:Int)+1,y.1,y.2))) (by rw [setR_succ])
 ·right
  have:k=r:=by omega
  subst this
  rw [decide_eq_false (show ¬ (k:Int) < (k:Int) by omega),cond_false];rfl
noncomputable def doneB (x:D_ENet) (y:D_Inst):Bool:=x.1.all fun n=>decide ((atI n.2.2.1 y.1).2.2.2.1=3)
noncomputable def doneD (x:D_ENet):Nat:=((nodeA x 0).2.2.1.filter (doneB x)).length
theorem i_EDone_eq {x:D_ENet} (h:NetF x):i_EDone x=some (doneD x:Int):=by
 have h3:=h.len
 obtain ⟨e0,g0,_⟩:=h.at (i:=0) (by omega)
 have hln:=insts_len g0.f.is
 unfold i_EDone doneD
 refine bind_of (i_ENetOk_eq h) ?_
 rw [Bool.not_true,cond_false]
 rw [show idx x.1 (0:Int)=_ from e0,Option.bind_some]
 generalize (nodeA x 0).2.2.1=l at hln
 refine whileP_is (fun s:Int×Int=>∃ k:Nat,k≤l.length∧s=((((l.take k).filter (doneB x)).length:Int),(k:Int))) (fun s=>(l.length - s.2).toNat) ?_ ⟨0,Nat.zero_le _,rfl⟩
 rintro _ ⟨k,hk,rfl⟩
 dsimp only
 by_cases hlt:k < l.length
 ·left
  have hx:l[k]?=some l[k]:=List.getElem?_eq_getElem hlt
  generalize l[k]=y at hx
  have hfl:=List.length_filter_le (doneB x) (l.take k)
  rw [List.length_take] at hfl
  rw [decide_eq_true (show (k:Int) < (l.length:Int) by omega),cond_true,idx_nat,hx,Option.bind_some]
  refine ⟨((((l.take (k+1)).filter (doneB x)).length:Int),((k+1:Nat):Int)),?_,⟨k+1,hlt,rfl⟩,by dsimp only;omega⟩
  refine whileP_is (fun s:Bool×Int=>∃ j:Nat,j≤3∧s=((x.1.take j).all (fun n=>decide ((atI n.2.2.1 y.1).2.2.2.1=3)),(j:Int))) (fun s=>(3 - s.2).toNat) ?_ ⟨0,by omega,rfl⟩
  rintro _ ⟨j,hj,rfl⟩
  dsimp only
  by_cases hjl:j < 3
  ·left
   have hn:x.1[j]?=some x.1[j]:=List.getElem?_eq_getElem (by omega)
   generalize x.1[j]=n at hn
   obtain ⟨hg,_⟩:=h.node j n hn
   have hin:=insts_len hg.f.is
   rw [decide_eq_true (show (j:Int) < (x.1.length:Int) by omega),cond_true,idx_nat,hn,Option.bind_some,wrap64_in (by unfold inR;omega)]
   rw [show i_InstAt n.2.2.1 (y.1.1,y.1.2)=_ from i_InstAt_eq (by omega) hg.f.s.sm y.1]
   refine ⟨_,?_,⟨j+1,hjl,rfl⟩,by dsimp only;omega⟩
   rw [take_snoc hn,List.all_append]
   cases hq:(x.1.take j).all fun n=>decide ((atI n.2.2.1 y.1).2.2.2.1=3) with
   | true =>
    rw [gb_true,Option.bind_some]
    simp
   | false =>
    show some _=some _
    simp
  ·right
   have:j=3:=by omega
   subst this
   rw [show decide (((3:Nat):Int) < (x.1.length:Int))=false from decide_eq_false (by omega),cond_false,List.take_of_length_le (by omega),take_snoc hx,List.filter_append,List.length_append]
   rw [show (x.1.all fun n=>decide ((atI n.2.2.1 y.1).2.2.2.1=3))=doneB x y from rfl]
   cases hq:doneB x y with
   | true =>
    rw [cond_true,wrap64_in (by unfold inR;omega),wrap64_in (by unfold inR;omega),show List.filter (doneB x) [y]=[y] by simp [hq]]
    simp
   | false =>
    rw [cond_false,wrap64_in (by unfold inR;omega),show List.filter (doneB x) [y]=[] by simp [hq]]
    simp
 ·right
  have:k=l.length:=by omega
  subst this
  rw [decide_eq_false (show ¬ (l.length:Int) < (l.length:Int) by omega),cond_false,List.take_length];rfl
noncomputable def okPair (p q:D_Inst):Bool:=!(decide (p.2.2.2.1=3)&&decide (q.2.2.2.1=3))||((decide (p.2.2.2.2.1=q.2.2.2.2.1)&&decide (p.2.2.2.2.2.1=q.2.2.2.2.2.1))&&decide (p.2.2.2.2.2.2.1=q.2.2.2.2.2.2.1))
noncomputable def agreedB (x:D_ENet):Bool:=(List.range 3).all fun a:Nat=>(nodeA x (a:Int)).2.2.1.all fun p=>(List.range a).all fun b:Nat=>okPair p (atI (nodeA x (b:Int)).2.2.1 p.1)
theorem s_EAgreed_eq {x:D_ENet} (h:NetF x) (hx:agreedB x=true):s_EAgreed x=some true:=by
 have hag:∀ a:Nat,a < 3→∀ p,p∈(nodeA x (a:Int)).2.2.1→∀ b:Nat,b < a→okPair p (atI (nodeA x (b:Int)).2.2.1 p.1)=true:=fun a ha p hp b hb=>by
  unfold agreedB at hx
  exact List.all_eq_true.1 (List.all_eq_true.1 (List.all_eq_true.1 hx a (List.mem_range.2 ha)) p hp) b (List.mem_range.2 hb)
 clear hx
 unfold s_EAgreed
 refine bind_of (s_ENetOk_eq h) ?_
 rw [Bool.not_true,cond_false]
 refine whileP_is (fun s:Int=>∃ a:Nat,a≤3∧s=(a:Int)) (fun s=>(3 - s).toNat) ?_ ⟨0,by omega,rfl⟩
 rintro _ ⟨a,ha,rfl⟩
 by_cases ha3:a < 3
 ·left
  rw [decide_eq_true (show (a:Int) < 3 by omega),cond_true,wrap64_in (by unfold inR;omega)]
  refine ⟨((a:Int)+1),?_,⟨a+1,ha3,by simp⟩,by omega⟩
  obtain ⟨ea,ga,_⟩:=h.at (i:=(a:Int)) (by omega)
  rw [ea]
  have hln:=insts_len ga.f.is
  have hga:=hag a ha3
  generalize hl:(nodeA x (a:Int))=na at hln hga ga
  refine whileP_is (fun s:Int=>∃ k:Nat,k≤na.2.2.1.length∧s=(k:Int)) (fun s=>(na.2.2.1.length - s).toNat) ?_ ⟨0,Nat.zero_le _,rfl⟩
  rintro _ ⟨k,hk,rfl⟩
  rw [Option.bind_some]
  by_cases hlt:k < na.2.2.1.length
  ·left
   have hp:na.2.2.1[k]?=some na.2.2.1[k]:=List.getElem?_eq_getElem hlt
   have hpm:=List.getElem_mem hlt
   generalize na.2.2.1[k]=p at hp hpm
   have hpf:=ga.f.insF hpm
   rw [decide_eq_true (show (k:Int) < (na.2.2.1.length:Int) by omega),cond_true,Option.bind_some,idx_nat,hp,Option.bind_some,wrap64_in (by unfold inR;omega)]
   refine ⟨((k:Int)+1),?_,⟨k+1,hlt,by simp⟩,by omega⟩
   refine whileP_is (fun s:Int=>∃ b:Nat,b≤a∧s=(b:Int)) (fun s=>(a - s).toNat) ?_ ⟨0,Nat.zero_le _,rfl⟩
   rintro _ ⟨b,hb,rfl⟩
   by_cases hba:b < a
   ·left
    obtain ⟨eb,gb_,_⟩:=h.at (i:=(b:Int)) (by omega)
    have hin:=insts_len gb_.f.is
    have hok:=hga p hpm b hba
    rw [decide_eq_true (show (b:Int) < (a:Int) by omega),cond_true,eb,Option.bind_some]
    rw [show s_InstAt _ (p.1.1,p.1.2)=_ from s_InstAt_eq (by omega) gb_.f.s.sm p.1,Option.bind_some]
    generalize atI (nodeA x (b:Int)).2.2.1 p.1=q at hok
    rw [show s_SameCmd _ _=_ from s_SameCmd_eq (a:=p.2.2.2.2.1) (b:=q.2.2.2.2.1) (cmd_ok hpf.cmd),pB_dec,s_l9Alike_dec (by have:=deps_len hpf.deps;omega),wrap64_in (by unfold inR;omega)]
    refine ⟨(b:Int)+1,?_,⟨b+1,hba,by simp⟩,by omega⟩
    unfold okPair at hok
    cases hst:(decide (p.2.2.2.1=3)&&decide (q.2.2.2.1=3)) with
    | false=>rfl
    | true =>
     rw [hst,Bool.not_true,Bool.false_or] at hok
     simp only [Bool.and_eq_true] at hok
     rw [hok.1.1,hok.1.2,hok.2];rfl
   ·right
    have:b=a:=by omega
    subst this
    rw [decide_eq_false (show ¬ (b:Int) < (b:Int) by omega),cond_false];rfl
  ·right
   have:k=na.2.2.1.length:=by omega
   subst this
   rw [decide_eq_false (show ¬ (na.2.2.1.length:Int) < (na.2.2.1.length:Int) by omega),cond_false];rfl
 ·right
  have:a=3:=by omega
  subst this
  rfl
end Go.Proofs.SL
namespace Go.Proofs.SL
open Go
instance dqL1:DecidableEq ((List Int)×Bool):=fun a b=>instDecidableEqProd a b
instance dqL2:DecidableEq ((List D_Id)×(List Int)×Bool):=fun a b=>instDecidableEqProd a b
instance dqL3:DecidableEq (Int×(List D_Id)×(List Int)×Bool):=fun a b=>instDecidableEqProd a b
instance dqL4:DecidableEq (Int×Int×(List D_Id)×(List Int)×Bool):=fun a b=>instDecidableEqProd a b
instance dqL5:DecidableEq (Int×Int×Int×(List D_Id)×(List Int)×Bool):=fun a b=>instDecidableEqProd a b
instance dqL6:DecidableEq D_Lead:=fun a b=>instDecidableEqProd a b
instance dqI1:DecidableEq ((List D_Id)×Bool):=fun a b=>instDecidableEqProd a b
instance dqI2:DecidableEq (Int×(List D_Id)×Bool):=fun a b=>instDecidableEqProd a b
instance dqI3:DecidableEq (D_Cmd×Int×(List D_Id)×Bool):=fun a b=>instDecidableEqProd a b
instance dqI4:DecidableEq (Int×D_Cmd×Int×(List D_Id)×Bool):=fun a b=>instDecidableEqProd a b
instance dqI5:DecidableEq (Int×Int×D_Cmd×Int×(List D_Id)×Bool):=fun a b=>instDecidableEqProd a b
instance dqI6:DecidableEq (Int×Int×Int×D_Cmd×Int×(List D_Id)×Bool):=fun a b=>instDecidableEqProd a b
instance dqI7:DecidableEq D_Inst:=fun a b=>instDecidableEqProd a b
instance dqN1:DecidableEq ((List D_Inst)×(List D_Lead)):=fun a b=>instDecidableEqProd a b
instance dqN2:DecidableEq (Int×(List D_Inst)×(List D_Lead)):=fun a b=>instDecidableEqProd a b
instance dqN3:DecidableEq D_ENode:=fun a b=>instDecidableEqProd a b
instance dqE:DecidableEq D_ENet:=fun a b=>instDecidableEqProd a b
noncomputable def stepsR (x:D_ENet):List D_ENet:=(List.range x.2.length).map fun b:Nat=>giveD x (b:Int)
def memR (S:List D_ENet) (x:D_ENet):Bool:=S.any fun y=>decide (y=x)
noncomputable def addR (S:List D_ENet):List D_ENet→List D_ENet
 | []=>S
 | x::xs=>addR (if memR S x=true then S else S++[x]) xs
noncomputable def cloR:Nat→Nat→List D_ENet→List D_ENet
 | 0,_,S=>S
 | f+1,k,S=>match S[k]? with
  | none=>S
  | some x=>cloR f (k+1) (addR S (stepsR x))
noncomputable def firstR (c:D_Cmd):D_ENet×Bool:=netD netNew (1,0,0,(0,0),c)
noncomputable def endR (x:D_ENet):D_ENet:=setR 3 (netD (netD x (5,0,0,(0,0),noCmd)).1 (4,1,0,(0,1),noCmd)).1
noncomputable def goodR (c:D_Cmd) (z:D_ENet):Bool:=decide (doneD z=1)&&(agreedB z&&(decide ((atI (nodeA z 2).2.2.1 (0,1)).2.2.2.2.1=c)||decide ((atI (nodeA z 2).2.2.1 (0,1)).2.2.2.2.1.1=0)))
noncomputable def allR (c:D_Cmd) (S:List D_ENet):Bool:=memR S (firstR c).1&&S.all fun x=>decide (1≤x.2.length)&&((stepsR x).all (memR S)&&goodR c (endR x))
noncomputable def checkR (c:D_Cmd):Bool:=(firstR c).2&&allR c (cloR 40 0 [(firstR c).1])
def cmdsR:List D_Cmd:=[(1,2,1,ByteArray.mk #[97],ByteArray.empty,ByteArray.empty,0,[]),(1,2,1,ByteArray.mk #[98],ByteArray.empty,ByteArray.empty,0,[]),(6,2,1,ByteArray.mk #[97],ByteArray.empty,ByteArray.empty,0,[]),(6,2,1,ByteArray.mk #[98],ByteArray.empty,ByteArray.empty,0,[]),(2,2,1,ByteArray.mk #[97],ByteArray.empty,ByteArray.empty,0,[]),(2,2,1,ByteArray.mk #[98],ByteArray.empty,ByteArray.empty,0,[]),(7,2,1,ByteArray.empty,ByteArray.empty,ByteArray.empty,0,[])]
set_option maxRecDepth 100000 in
theorem cmdsR_all:cmdsR.all checkR=true:=by decide +kernel
end Go.Proofs.SL
namespace Go.Proofs.SL
open Go
theorem w_at_ok {l:List UInt8} (hl:l.length≤1048576) {i:Int} (hi:0≤i∧i≤1000):∃ v,w_at l i=some v∧0≤v∧v < 256:=by
 unfold w_at
 by_cases h:i < (l.length:Int)
 ·rw [decide_eq_true h,cond_true]
  have hx:l[i.toNat]?=some l[i.toNat]:=List.getElem?_eq_getElem (by omega)
  generalize l[i.toNat]=b at hx
  have hb:=b.toNat_lt
  refine ⟨(b.toNat:Int),?_,by omega,by omega⟩
  rw [idx_i l (k:=i.toNat) (by omega),hx,Option.bind_some,wrap64_in (by unfold inR;omega)]
 ·rw [decide_eq_false h,cond_false,show IntKind.wrap .i64 (i*37)=i*37 from wrap64_in (by unfold inR;omega),show IntKind.wrap .i64 ((l.length:Int)*11)=(l.length:Int)*11 from wrap64_in (by unfold inR;omega),wrap64_in (by unfold inR;omega)]
  refine ⟨_,rfl,?_,?_⟩
  ·rw [Int.tmod_eq_emod_of_nonneg (by omega)];omega
  ·rw [Int.tmod_eq_emod_of_nonneg (by omega)];omega
theorem cmdOf_ok {l:List UInt8} (hl:l.length≤1048576):∃ c,w_cmdOf l 1=some c∧c∈cmdsR:=by
 unfold w_cmdOf
 obtain ⟨v,h1,h2,h3⟩:=w_at_ok hl (i:=3) (by omega)
 obtain ⟨u,h4,h5,h6⟩:=w_at_ok hl (i:=4) (by omega)
 rw [Option.bind_some,show IntKind.wrap .i64 (3*1)=3 from by rw [wrap64_in (by unfold inR;omega)];rfl,h1,Option.bind_some,show IntKind.wrap .i64 (3+1)=4 from by rw [wrap64_in (by unfold inR;omega)];rfl,show IntKind.wrap .i64 (1+Int.tmod 1 9)=2 from by rw [wrap64_in (by unfold inR;decide)];rfl]
 rw [h4]
 simp only [Option.bind_some]
 have hv:v.tmod 5=0∨v.tmod 5=1∨v.tmod 5=2∨v.tmod 5=3∨v.tmod 5=4:=by
  rw [Int.tmod_eq_emod_of_nonneg h2];omega
 have hu:u.tmod 2=0∨u.tmod 2=1:=by
  rw [Int.tmod_eq_emod_of_nonneg h5];omega
 rcases hv with e | e | e | e | e<;>rcases hu with f | f<;>rw [e,f]<;>refine ⟨_,rfl,?_⟩<;>simp [cmdsR]
theorem remP_ok {a b:Int} (hb:b≠0):remP a b=some (a.tmod b):=by
 unfold remP
 rw [if_neg hb]
theorem act_ok {k a b:Int} (hk:inR k) (ha:inR a) (hb:inR b) {id:D_Id} (hi:Ok.ok id) {c:D_Cmd} (hc:Ok.ok c):Ok.ok ((k,a,b,id,c):D_EAct):=⟨hk,ha,hb,hi,hc⟩
theorem ok00:Ok.ok ((0,0):D_Id):=⟨inR0,inR0⟩
theorem memR_mem {S:List D_ENet} {x:D_ENet} (h:memR S x=true):x∈S:=by
 unfold memR at h
 obtain ⟨y,hy,e⟩:=List.any_eq_true.1 h
 rw [← of_decide_eq_true e];exact hy
theorem fnRecovered_true (l:List UInt8):w_FnRecovered l=some true:=by
 unfold w_FnRecovered w_big
 rw [Option.bind_some]
 by_cases hb:1048576 < (l.length:Int)
 ·rw [decide_eq_true hb];rfl
 rw [decide_eq_false hb,cond_false]
 have hl:l.length≤1048576:=by omega
 refine bind_of i_ENetNew_eq ?_
 obtain ⟨c,hc,hcm⟩:=cmdOf_ok hl
 rw [hc,Option.bind_some]
 have hck:=List.all_eq_true.1 cmdsR_all c hcm
 have hco:Ok.ok c:=by
  have:cmdOkB c=true:=List.all_eq_true.1 (show cmdsR.all cmdOkB=true by decide +kernel) c hcm
  exact cmd_ok this
 unfold checkR allR at hck
 generalize cloR 40 0 [(firstR c).1]=S at hck
 simp only [Bool.and_eq_true,List.all_eq_true,decide_eq_true_eq] at hck
 obtain ⟨h1,h2,h3⟩:=hck
 have z1:inR 1:=by unfold inR;omega
 have z4:inR 4:=by unfold inR;omega
 have z5:inR 5:=by unfold inR;omega
 refine bind_of (i_ENetDo_eq netNew_F (act_ok z1 inR0 inR0 ok00 hco)) ?_
 rw [show netD netNew (1,0,0,(0,0),c)=firstR c from rfl,h1,Bool.not_true,cond_false]
 have hF:NetF (firstR c).1:=netD_F netNew_F _
 obtain ⟨v0,hv0,hv1,hv2⟩:=w_at_ok hl (i:=0) (by omega)
 refine whileP_is (fun s:Int×(List D_ENode)×(List D_EMsg)=>∃ k:Nat,s.1=(k:Int)∧(k:Int)≤v0.tmod 7∧NetF (s.2.1,s.2.2)∧memR S (s.2.1,s.2.2)=true) (fun s=>(v0.tmod 7 - s.1).toNat) ?_ ⟨0,rfl,by rw [Int.tmod_eq_emod_of_nonneg hv1];omega,hF,h2⟩
 rintro ⟨k',n,p⟩ ⟨k,e,hk,hN,hM⟩
 dsimp only at e hN hM ⊢
 subst e
 have h7:v0.tmod 7≤6:=by rw [Int.tmod_eq_emod_of_nonneg hv1];omega
 obtain ⟨hlen,hst,hgood⟩:=h3 (n,p) (memR_mem hM)
 have hlen:1≤p.length:=hlen
 have hpl:p.length≤160:=hN.pl
 rw [hv0,Option.bind_some]
 by_cases hlt:(k:Int) < v0.tmod 7
 ·left
  obtain ⟨v,h4,h5,h6⟩:=w_at_ok hl (i:=(k:Int)+1) (by omega)
  rw [decide_eq_true hlt,cond_true,wrap64_in (by unfold inR;omega),h4,Option.bind_some,remP_ok (by omega),Option.bind_some]
  have hr:0≤v.tmod (p.length:Int)∧v.tmod (p.length:Int) < p.length:=by
   rw [Int.tmod_eq_emod_of_nonneg h5]
   exact ⟨Int.emod_nonneg _ (by omega),Int.emod_lt_of_pos _ (by omega)⟩
  refine ⟨_,bind_of (i_ENetDo_eq hN (giveA_ok (by unfold inR;omega))) rfl,⟨k+1,by simp,by omega,netD_F hN _,?_⟩,by dsimp only;omega⟩
  refine hst _ ?_
  unfold stepsR
  refine List.mem_map.2 ⟨(v.tmod (p.length:Int)).toNat,List.mem_range.2 (by show _ < p.length;omega),?_⟩
  rw [show (((v.tmod (p.length:Int)).toNat:Nat):Int)=v.tmod (p.length:Int) by omega];rfl
 ·right
  rw [decide_eq_false hlt,cond_false]
  refine inr_of ?_
  refine bind_of (i_ENetDo_eq hN (act_ok z5 inR0 inR0 ok00 noCmd_okk)) ?_
  have hF1:=netD_F hN (5,0,0,(0,0),noCmd)
  refine bind_of (i_ENetDo_eq hF1 (act_ok z4 z1 inR0 (id:=(0,1)) ⟨inR0,z1⟩ noCmd_okk)) ?_
  have hF2:=netD_F hF1 (4,1,0,(0,1),noCmd)
  refine bind_of (settle_eq hF2 3 (by omega)) ?_
  have hF3:=setR_F 3 hF2
  rw [show setR 3 (netD (netD (n,p) (5,0,0,(0,0),noCmd)).1 (4,1,0,(0,1),noCmd)).1=endR (n,p) from rfl] at hF3 ⊢
  generalize endR (n,p)=z at hF3 hgood
  unfold goodR at hgood
  simp only [Bool.and_eq_true,decide_eq_true_eq,Bool.or_eq_true] at hgood
  obtain ⟨g1,g2,g3⟩:=hgood
  refine bind_of (i_EDone_eq hF3) ?_
  rw [g1,show decide (((1:Nat):Int)=1)=true from rfl,Bool.not_true,Bool.not_false,gb_true]
  refine bind_of (s_EAgreed_eq hF3 g2) ?_
  rw [Bool.not_true,Bool.or_false,cond_false]
  obtain ⟨e2,g4,_⟩:=hF3.at (i:=2) (by omega)
  rw [show idx z.1 (2:Int)=_ from e2,Option.bind_some]
  have hin:=insts_len g4.f.is
  rw [show s_InstAt _ (0,1)=_ from s_InstAt_eq (by omega) g4.f.s.sm (0,1),Option.bind_some]
  have hcv:=(at_val g4.f (0,1)).cmd
  generalize atI (nodeA z 2).2.2.1 (0,1)=q at g3 hcv
  refine bind_of (s_SameCmd_eq (a:=q.2.2.2.2.1) (b:=c) (cmd_ok hcv)) ?_
  rw [pB_dec]
  rcases g3 with g | g
  ·rw [decide_eq_true g];rfl
  ·rw [decide_eq_true g,Bool.or_true]
end Go.Proofs.SL
namespace Go.Proofs.SL
open Go
theorem lawFnRecovered (w:World) (t1:TL UInt8) (h1:GT.rd w [] t1) (ho1:Ok.ok (GT.dat t1)):Spec Tryz.prog 4 [t1.hdr].toArray w [] (IsV (.bool true)):=w_FnRecovered_walk w t1 h1 true (fnRecovered_true _)
end Go.Proofs.SL
