/- The texts of the proof, part 19: the base, walks of functions, plain Lean. -/
import Derived.Test.YthlbpedehajlgaaGreatT18
namespace Go.Proofs.SL
open Go
theorem inr_of {α β:Type} {o:Option β} {r:β} (h:o=some r):Option.map (Sum.inr:β→α ⊕ β) o=some (.inr r):=by rw [h];rfl
theorem settle3_eq {d:D_ENode} (hd:NodeS d) {k:Nat} {l:D_Lead} (hk:d.2.2.2[k]?=some l) (hlf:LeadF l):i_ENode_settle d (k:Int) 3=some ((comD d l).2,(comD d l).1):=by
 have hln:=insts_len hd.is
 have hl:=hd.lsm l (List.mem_of_getElem? hk)
 have hol:Ok.ok l:=hlf.okk
 unfold i_ENode_settle comD
 rw [idx_nat,hk,Option.bind_some,show i_InstAt d.2.2.1 (l.1.1,l.1.2)=_ from i_InstAt_eq (by omega) hd.sm l.1,Option.bind_some]
 have he:=atI_id d.2.2.1 l.1
 have hsx:=smallI_at hd.sm l.1
 have hok:=comJ_ok hd.is hlf
 generalize atI d.2.2.1 l.1=x at he hsx hok
 by_cases hb:x.2.1=l.2.1
 ·have hoa:Ok.ok (comJ x l):=(instF_iff.1 (hok hb)).okk
  rw [decide_eq_true hb,Bool.not_true,cond_false,if_pos hb,i_copyIds_eq (by have:=hl.1;omega),Option.bind_some,show decide ((3:Int)=2)=false from rfl,cond_false]
  refine bind_of (i_drop_eq (d:=d) (by have:=hd.ls;omega) l.1) ?_
  have hp:=i_put_eq (d:=(d.1,d.2.1,d.2.2.1,dropL d.2.2.2 l.1)) (x:=comJ x l) hd.ok.2.2.1 hoa hd.is hd.sm ⟨hsx.1,hl.1⟩
  rw [hok hb,if_pos rfl] at hp
  refine bind_of hp ?_
  exact bind_of (i_sent_eq (d.1,d.2.1,putI d.2.2.1 (comJ x l),dropL d.2.2.2 l.1) (m:=(5,0,0,l.1,0,x.2.2.2.2.1,l.2.2.2.1,l.2.2.2.2.1,0,(-1),false)) ⟨hsx.1,hl.1⟩ rfl) rfl
 ·rw [decide_eq_false hb,Bool.not_false,cond_true,if_neg hb,show i_ENode_drop _ _=_ from i_drop_eq (d:=d) (by have:=hd.ls;omega) l.1];rfl
theorem nodes_of {l:List Int} (h1:∀ n,n∈l→0≤n∧n < 3) (h2:l.Pairwise (· < ·)):nodesOk l=true:=by
 unfold nodesOk
 rw [List.all_eq_true]
 intro k hk
 rw [List.mem_range] at hk
 have hx:l[k]?=some l[k]:=List.getElem?_eq_getElem hk
 unfold nodeOk
 rw [hx]
 have hm:=h1 _ (List.getElem_mem hk)
 simp only [Bool.and_eq_true,Bool.or_eq_true,decide_eq_true_eq]
 refine ⟨hm,?_⟩
 rcases Nat.eq_zero_or_pos k with h0 | h0
 ·exact .inl h0
 ·right
  rw [List.getElem?_eq_getElem (show k - 1 < l.length by omega)]
  exact decide_eq_true (List.pairwise_iff_getElem.1 h2 (k - 1) k (by omega) hk (by omega))
theorem ids_nodup {ls:List D_Lead} (h:∀ (k:Nat) (l:D_Lead),ls[k]?=some l→(ls.findIdx? fun y=>idEq y.1 l.1)=some k):(ls.map (·.1)).Nodup:=by
 rw [List.nodup_iff_pairwise_ne,List.pairwise_map,List.pairwise_iff_getElem]
 intro i j hi hj hij he
 have h1:=h i _ (List.getElem?_eq_getElem hi)
 have h2:=h j _ (List.getElem?_eq_getElem hj)
 rw [he,h2] at h1
 have:=Option.some.inj h1
 omega
theorem nodup_ids {ls:List D_Lead} (h:(ls.map (·.1)).Nodup) {k:Nat} {l:D_Lead} (hk:ls[k]?=some l):(ls.findIdx? fun y=>idEq y.1 l.1)=some k:=by
 obtain ⟨h1,h2⟩:=List.getElem?_eq_some_iff.1 hk
 rw [List.nodup_iff_pairwise_ne,List.pairwise_map,List.pairwise_iff_getElem] at h
 refine List.findIdx?_eq_some_iff_getElem.2 ⟨h1,?_,fun j hj=>?_⟩
 ·rw [h2,idEq_dec];simp
 ·rw [idEq_dec,Bool.not_eq_true,decide_eq_false_iff_not]
  intro e
  exact h j k (by omega) h1 hj (by rw [h2];exact e)
theorem NodeF.nd {d:D_ENode} (h:NodeF d):(d.2.2.2.map (·.1)).Nodup:=ids_nodup fun k l hk=>(h.ld k l hk).2
theorem NodeF.mk' {d:D_ENode} (h1:0≤d.1∧d.1 < 3) (h2:1≤d.2.1∧d.2.1≤7) (h3:instsOkB d.2.2.1=true) (h4:d.2.2.2.length≤8) (h5:∀ x,x∈d.2.2.1→x.1.1=d.1→x.1.2 < d.2.1) (h6:∀ l,l∈d.2.2.2→LeadF l) (h7:(d.2.2.2.map (·.1)).Nodup):NodeF d :=
 ⟨h1,h2,h3,h4,h5,fun _ l hk=>⟨h6 l (List.mem_of_getElem? hk),nodup_ids h7 hk⟩⟩
theorem nodeF.ok {d:D_ENode} (h:NodeF d):nodeOkB d=true:=by
 unfold nodeOkB
 simp only [Bool.and_eq_true,decide_eq_true_eq,List.all_eq_true,Bool.not_eq_true',Bool.and_eq_false_iff,decide_eq_false_iff_not,List.mem_range]
 refine ⟨⟨⟨⟨⟨h.me,h.nx⟩,h.is⟩,by have:=h.ll;omega⟩,fun x hx=>?_⟩,fun k hk=>?_⟩
 ·by_cases he:x.1.1=d.1
  ·right
   have:=h.own x hx he
   omega
  ·exact .inl he
 ·have hx:d.2.2.2[k]?=some d.2.2.2[k]:=List.getElem?_eq_getElem hk
  obtain ⟨h1,h2⟩:=h.ld k _ hx
  unfold leadAt
  rw [hx]
  simp only [Bool.and_eq_true,decide_eq_true_eq]
  exact ⟨leadF.ok h1,firstI_some h2⟩
theorem NodeF.putN {d:D_ENode} (h:NodeF d) {x:D_Inst} (hx:InstF x) (hu:unk d x.1=false):NodeF (putN d x):=by
 refine NodeF.mk' h.me h.nx (putI_ok h.is (instF_iff.2 hx)) h.ll (fun y hy he=>?_) (fun l hl=>h.ldF hl) h.nd
 rcases putI_mem.1 hy with q | ⟨q,_⟩
 ·subst q
  unfold unk at hu
  simp only [Bool.and_eq_false_iff,decide_eq_false_iff_not] at hu
  rcases hu with r | r
  ·exact absurd he r
  ·show y.1.2 < d.2.1
   omega
 ·exact h.own y q he
def putLN (d:D_ENode) (l:D_Lead):D_ENode:=(d.1,d.2.1,d.2.2.1,putLd d.2.2.2 l)
def dropN (d:D_ENode) (id:D_Id):D_ENode:=(d.1,d.2.1,d.2.2.1,dropL d.2.2.2 id)
theorem map_set_id {ls:List D_Lead} {k:Nat} {l m:D_Lead} (hk:ls[k]?=some l) (he:m.1=l.1):(ls.set k m).map (·.1)=ls.map (·.1):=by
 refine List.ext_getElem? fun i=>?_
 rw [List.getElem?_map,List.getElem?_map]
 by_cases hi:i=k
 ·subst hi
  rw [List.getElem?_set_self (List.getElem?_eq_some_iff.1 hk).1,hk]
  simp [he]
 ·rw [List.getElem?_set_ne (fun e=>hi e.symm)]
theorem putLd_cases (ls:List D_Lead) (l:D_Lead):((∃ k m,ls[k]?=some m∧m.1=l.1∧putLd ls l=ls.set k l))∨((∀ m,m∈ls→m.1≠l.1)∧putLd ls l=ls++[l]):=by
 unfold putLd
 cases hf:ls.findIdx? fun y=>idEq y.1 l.1 with
 | none =>
  refine .inr ⟨fun m hm he=>?_,rfl⟩
  have:=List.findIdx?_eq_none_iff.1 hf m hm
  rw [idEq_dec,decide_eq_false_iff_not] at this
  exact this he
 | some k =>
  obtain ⟨h1,h2,_⟩:=List.findIdx?_eq_some_iff_getElem.1 hf
  rw [idEq_dec] at h2
  exact .inl ⟨k,_,List.getElem?_eq_getElem h1,of_decide_eq_true h2,rfl⟩
theorem NodeF.putL {d:D_ENode} (h:NodeF d) {l:D_Lead} (hl:LeadF l) (hr:(∃ m,m∈d.2.2.2∧m.1=l.1)∨d.2.2.2.length < 8):NodeF (putLN d l):=by
 rcases putLd_cases d.2.2.2 l with ⟨k,m,hk,he,hp⟩ | ⟨hn,hp⟩
 ·refine NodeF.mk' h.me h.nx h.is ?_ h.own (fun y hy=>?_) ?_
  ·show (putLd d.2.2.2 l).length≤8
   rw [hp,List.length_set];exact h.ll
  ·rcases putLd_mem hy with q | q
   ·exact h.ldF q
   ·rw [q];exact hl
  ·show ((putLd d.2.2.2 l).map (·.1)).Nodup
   rw [hp,map_set_id hk he.symm];exact h.nd
 ·have h8:d.2.2.2.length < 8:=by
   rcases hr with ⟨m,hm,he⟩ | h8
   ·exact absurd he (hn m hm)
   ·exact h8
  refine NodeF.mk' h.me h.nx h.is ?_ h.own (fun y hy=>?_) ?_
  ·show (putLd d.2.2.2 l).length≤8
   rw [hp,List.length_append,List.length_singleton];omega
  ·rcases putLd_mem hy with q | q
   ·exact h.ldF q
   ·rw [q];exact hl
  ·show ((putLd d.2.2.2 l).map (·.1)).Nodup
   rw [hp,List.map_append,List.nodup_append]
   refine ⟨h.nd,by simp,fun a ha b hb=>?_⟩
   simp only [List.map_cons,List.map_nil,List.mem_singleton] at hb
   subst hb
   obtain ⟨m,hm,rfl⟩:=List.mem_map.1 ha
   exact hn m hm
theorem NodeF.drp {d:D_ENode} (h:NodeF d) (id:D_Id):NodeF (dropN d id):=by
 refine NodeF.mk' h.me h.nx h.is ?_ h.own (fun y hy=>h.ldF (List.mem_filter.1 hy).1) ?_
 ·have:=List.length_filter_le (fun y:D_Lead=>!idEq y.1 id) d.2.2.2
  have:=h.ll
  show (dropL _ _).length≤_
  unfold dropL;omega
 ·show ((dropL d.2.2.2 id).map (·.1)).Nodup
  unfold dropL
  exact List.Nodup.sublist (List.Sublist.map _ List.filter_sublist) h.nd
theorem find_lead {d:D_ENode} (h:NodeF d) {id:D_Id} {l:D_Lead} (hf:(d.2.2.2.find? fun y=>idEq y.1 id)=some l):l∈d.2.2.2∧l.1=id∧LeadF l:=by
 have hm:=List.mem_of_find?_eq_some hf
 exact ⟨hm,find_at (k:=0) hf,h.ldF hm⟩
def LdKnown (d:D_ENode):Prop:=∀ l,l∈d.2.2.2→unk d l.1=false
def LdThree (d:D_ENode):Prop:=∀ l,l∈d.2.2.2→l.2.2.1=3→l.2.2.2.2.2.2=false
def addN (l:List Int) (n:Int) (k:Nat):List Int:=((List.range k).map fun t:Nat=>(t:Int)).filter fun t=>decide (t=n)||l.any fun y=>decide (y=t)
def addFr (l:List Int) (n:Int):List Int:=addN l n 3
theorem addFr_facts (l:List Int) (n:Int):(∀ x,x∈addFr l n↔(0≤x∧x < 3)∧(x=n∨x∈l))∧(addFr l n).Pairwise (· < ·):=by
 constructor
 ·intro x
  unfold addFr addN
  rw [List.mem_filter,List.mem_map]
  simp only [List.mem_range,Bool.or_eq_true,decide_eq_true_eq,List.any_eq_true]
  constructor
  ·rintro ⟨⟨a,ha,rfl⟩,q⟩
   refine ⟨by omega,q.imp id ?_⟩
   rintro ⟨y,hy,rfl⟩;exact hy
  ·rintro ⟨h,q⟩
   exact ⟨⟨x.toNat,by omega,by omega⟩,q.imp id fun q=>⟨x,q,rfl⟩⟩
 ·unfold addFr addN
  refine List.Pairwise.filter _ ?_
  decide
theorem addFr_ok (l:List Int) (n:Int):nodesOk (addFr l n)=true:=nodes_of (fun x hx=>(((addFr_facts l n).1 x).1 hx).1) (addFr_facts l n).2
theorem sort_addFr {l:List Int} {n:Int} (hl:nodesOk l=true) (hn:0≤n∧n < 3) (hx:(l.any fun y=>decide (y=n))=false):sortIP (l++[n])=some (addFr l n):=by
 have h1:=nodesOk_facts hl
 have h2:=nodes_sub hl
 have hni:n ∉ l:=fun hm=>by
  have:=List.any_eq_false.1 hx n hm
  simp at this
 unfold sortIP
 rw [if_pos (by simp;omega)]
 refine congrArg some ?_
 have hp:((l++[n]).mergeSort fun x y=>decide (x≤y)).Perm (addFr l n):=by
  refine (List.mergeSort_perm _ _).trans ((List.perm_ext_iff_of_nodup ?_ ?_).2 fun x=>?_)
  ·rw [List.nodup_append]
   refine ⟨h1.2.imp fun {a b} h e=>by omega,by simp,fun a ha b hb=>?_⟩
   rw [List.mem_singleton] at hb
   subst hb
   exact fun e=>hni (e ▸ ha)
  ·exact (addFr_facts l n).2.imp fun {a b} h e=>by omega
  ·rw [(addFr_facts l n).1,List.mem_append,List.mem_singleton]
   constructor
   ·rintro (q | q)
    ·exact ⟨h1.1 x q,.inr q⟩
    ·exact ⟨by omega,.inl q⟩
   ·rintro ⟨_,q | q⟩
    ·exact .inr q
    ·exact .inl q
 refine sorted_one (lt:=fun a b:Int=>decide (a < b)) hp ?_ ?_ fun a b _ _=>?_
 ·have hs:=List.pairwise_mergeSort (le:=fun x y:Int=>decide (x≤y)) (fun a b c h1 h2=>by simp at h1 h2 ⊢;omega) (fun a b=>by simp;omega) (l++[n])
  exact hs.imp fun {a b} h=>by simp at h ⊢;omega
 ·exact (addFr_facts l n).2.imp fun {a b} h=>by simp;omega
 ·simp only [decide_eq_true_eq];omega
def preOkL (l:D_Lead) (m:D_EMsg):D_Lead:=(l.1,l.2.1,l.2.2.1,(if l.2.2.2.1 < m.2.2.2.2.2.2.1 then m.2.2.2.2.2.2.1 else l.2.2.2.1),Gr.join idLt l.2.2.2.2.1 m.2.2.2.2.2.2.2.1,addFr l.2.2.2.2.2.1 m.2.1,(l.2.2.2.2.2.2&&m.2.2.2.2.2.2.2.2.2.2))
noncomputable def preOkS (d:D_ENode) (l:D_Lead) (m:D_EMsg):GetR :=
 if ((!decide (m.2.2.2.2.1=m.2.2.2.1.1))||(!l.2.2.2.2.2.2))=true then ((accD (putLN d l) l).1,(accD (putLN d l) l).2,true)
 else if decide (2≤(l.2.2.2.2.2.1.length:Int))=true then ((comD (putLN d l) l).1,(comD (putLN d l) l).2,true) else (putLN d l,[],true)
noncomputable def preOkG (d:D_ENode) (m:D_EMsg):GetR:=match d.2.2.2.find? fun y=>idEq y.1 m.2.2.2.1 with
 | none=>noG d
 | some l=>if ((decide (l.2.1=m.2.2.2.2.1)&&decide (l.2.2.1=1))&&!(l.2.2.2.2.2.1.any fun y=>decide (y=m.2.1)))=true then preOkS d (preOkL l m) m else noG d
theorem preOkL_F {l:D_Lead} {m:D_EMsg} (hl:LeadF l) (hm:MsgF m) (he:l.1=m.2.2.2.1):LeadF (preOkL l m):=by
 refine ⟨hl.id,hl.bal,hl.ph,?_,join_idsOk hl.deps hm.deps,?_,addFr_ok _ _⟩
 ·have:=hl.seq
  have:=hm.seq
  show 0≤(if l.2.2.2.1 < m.2.2.2.2.2.2.1 then m.2.2.2.2.2.2.1 else l.2.2.2.1)∧(if l.2.2.2.1 < m.2.2.2.2.2.2.1 then m.2.2.2.2.2.2.1 else l.2.2.2.1)≤60
  split<;>omega
 ·show ((Gr.join idLt l.2.2.2.2.1 m.2.2.2.2.2.2.2.1).any fun y=>idEq y l.1)=false
  rw [List.any_eq_false]
  intro y hy
  rcases (join_mem hl.deps hm.deps y).1 hy with q | q
  ·exact List.any_eq_false.1 hl.self y q
  ·rw [he];exact List.any_eq_false.1 hm.self y q
end Go.Proofs.SL
namespace Go.Proofs.SL
open Go
theorem contains_any {l:List Int} {n:Int} (hl:l.length≤1000):sl_Contains_intint l n=some (l.any fun y=>decide (y=n)):=by
 unfold sl_Contains_intint sl_Index_intint
 have:∃ r,(whileP (fun s1:Int=>cond (decide (s1 < (l.length:Int))) (Option.bind (idx l s1) (fun y3=>cond (decide (n=y3)) (Option.map .inr (some s1)) (some (.inl (IntKind.wrap .i64 (s1+1)))))) (Option.map .inr (some (-1)))) 0:Option Int)=some r∧decide (0≤r)=l.any fun y=>decide (y=n):=by
  refine whileP_rule (fun s:Int=>∃ k:Nat,s=(k:Int)∧k≤l.length∧(l.take k).any (fun y=>decide (y=n))=false) (fun s=>(l.length - s).toNat) (fun r=>decide (0≤r)=l.any fun y=>decide (y=n)) ?_ 0 ⟨0,rfl,Nat.zero_le _,rfl⟩
  rintro _ ⟨k,rfl,hk,hany⟩
  by_cases hlt:k < l.length
  ·have hx:l[k]?=some l[k]:=List.getElem?_eq_getElem hlt
   have hm:l[k]∈l:=List.getElem_mem hlt
   generalize l[k]=x at hx hm
   rw [decide_eq_true (show (k:Int) < (l.length:Int) by omega),cond_true,idx_nat,hx,Option.bind_some]
   by_cases hq:n=x
   ·right
    rw [decide_eq_true hq,cond_true]
    refine ⟨_,rfl,?_⟩
    rw [decide_eq_true (show (0:Int)≤(k:Int) by omega)]
    exact (List.any_eq_true.2 ⟨x,hm,decide_eq_true hq.symm⟩).symm
   ·left
    rw [decide_eq_false hq,cond_false,wrap64_in (by unfold inR;omega)]
    refine ⟨_,rfl,⟨k+1,by simp,hlt,?_⟩,by omega⟩
    rw [take_snoc hx,List.any_append,hany,Bool.false_or]
    simp only [List.any_cons,List.any_nil,Bool.or_false,decide_eq_false_iff_not]
    exact fun e=>hq e.symm
  ·right
   rw [decide_eq_false (show ¬ (k:Int) < (l.length:Int) by omega),cond_false]
   refine ⟨_,rfl,?_⟩
   rw [List.take_of_length_le (by omega)] at hany
   rw [hany];rfl
 obtain ⟨r,h1,h2⟩:=this
 rw [h1,Option.bind_some,h2]
theorem i_preOk_eq {d:D_ENode} {m:D_EMsg} (h:NodeF d) (hm:MsgF m):i_ENode_preOk d m=some ((preOkG d m).2.1,(preOkG d m).2.2,(preOkG d m).1):=by
 have hs:=h.s
 have hll:=h.ll
 have hfr:=hm.frm
 unfold i_ENode_preOk preOkG
 refine bind_of (i_lead_eq (d:=d) (x:=m.2.2.2.1) (by omega)) ?_
 rcases firstI_opt (fun y:D_Lead=>idEq y.1 m.2.2.2.1) d.2.2.2 with ⟨h1,h2⟩ | ⟨k,l,h1,h2,h3⟩
 ·rw [h1,h2];rfl
 ·rw [h1,h3,show decide ((k:Int) < 0)=false from decide_eq_false (by omega)]
  obtain ⟨hlm,hlid,hlf⟩:=find_lead h h3
  have hln:=nodes_sub hlf.frm
  have hkl:=(List.getElem?_eq_some_iff.1 h2).1
  simp only [idx_nat,h2,Bool.not_false,Bool.false_or,gb_true,Option.bind_some,Bool.not_not]
  cases hc1:decide (l.2.1=m.2.2.2.2.1) with
  | false=>rfl
  | true =>
   rw [Bool.not_true,gb_true,Option.bind_some,Bool.false_or,Bool.true_and]
   cases hc2:decide (l.2.2.1=1) with
   | false=>rfl
   | true =>
    rw [Bool.not_true,Bool.not_false,gb_true,Option.bind_some,gb_true,contains_any (by omega),Option.bind_some,Bool.false_or,Bool.true_and]
    cases hany:l.2.2.2.2.2.1.any fun y=>decide (y=m.2.1) with
    | true=>rfl
    | false =>
     have hLF:=preOkL_F hlf hm hlid
     have hin:∃ m',m'∈d.2.2.2∧m'.1=(preOkL l m).1:=⟨l,hlm,rfl⟩
     have hF:NodeF (putLN d (preOkL l m)):=h.putL hLF (.inl hin)
     have hS:=hF.s
     have hidx:=(h.ld k l h2).2
     have hput:putLd d.2.2.2 (preOkL l m)=d.2.2.2.set k (preOkL l m):=putLd_at hidx
     have hk':(putLN d (preOkL l m)).2.2.2[k]?=some (preOkL l m):=by
      show (putLd d.2.2.2 (preOkL l m))[k]?=_
      rw [hput,List.getElem?_set_self hkl]
     have hf':=(hF.ld k _ hk').2
     rw [cond_false,Bool.not_false,if_pos rfl,appP_ok (by simp;omega),Option.bind_some]
     simp only [Int.toNat_natCast,List.getElem?_set_self hkl,Option.bind_some,List.set_set,sort_addFr hlf.frm hfr hany,i_JoinIds_eq hlf.deps hm.deps]
     have e0:(d.1,d.2.1,d.2.2.1,d.2.2.2.set k (preOkL l m))=putLN d (preOkL l m):=by unfold putLN;rw [hput]
     have hbm:l.2.1=m.2.2.2.2.1:=of_decide_eq_true hc1
     unfold preOkS
     have e1:((!decide (l.2.1=m.2.2.2.1.1))||(!(l.2.2.2.2.2.2&&m.2.2.2.2.2.2.2.2.2.2)))=((!decide (m.2.2.2.2.1=m.2.2.2.1.1))||(!(preOkL l m).2.2.2.2.2.2)):=by rw [hbm];rfl
     have e2:decide (2≤((addFr l.2.2.2.2.2.1 m.2.1).length:Int))=decide (2≤((preOkL l m).2.2.2.2.2.1.length:Int)):=rfl
     rw [e1,e2]
     have e3:d.2.2.2.set k ((l.1.1,l.1.2),l.2.1,l.2.2.1,(if l.2.2.2.1 < m.2.2.2.2.2.2.1 then m.2.2.2.2.2.2.1 else l.2.2.2.1),Gr.join idLt l.2.2.2.2.1 m.2.2.2.2.2.2.2.1,addFr l.2.2.2.2.2.1 m.2.1,(l.2.2.2.2.2.2&&m.2.2.2.2.2.2.2.2.2.2))=putLd d.2.2.2 (preOkL l m):=hput.symm
     rw [e3]
     cases hc:((!decide (m.2.2.2.2.1=m.2.2.2.1.1))||(!(preOkL l m).2.2.2.2.2.2)) with
     | true =>
      rw [cond_true,if_pos rfl]
      exact bind_of (settle2_eq (d:=putLN d (preOkL l m)) hS hk' hf' hLF) rfl
     | false =>
      rw [cond_false,if_neg Bool.false_ne_true]
      cases hc3:decide (2≤((preOkL l m).2.2.2.2.2.1.length:Int)) with
      | true =>
       rw [cond_true,if_pos rfl]
       exact bind_of (settle3_eq (d:=putLN d (preOkL l m)) hS hk' hLF) rfl
      | false=>rfl
noncomputable def accOkG (d:D_ENode) (m:D_EMsg):GetR:=match d.2.2.2.find? fun y=>idEq y.1 m.2.2.2.1 with
 | none=>noG d
 | some l=>if (decide (l.2.1=m.2.2.2.2.1)&&decide (l.2.2.1=2))=true then ((comD d l).1,(comD d l).2,true) else noG d
def told (m:D_EMsg):D_Inst:=(m.2.2.2.1,m.2.2.2.2.1,m.2.2.2.2.2.2.2.2.2.1,m.2.2.2.2.2.2.2.2.1,m.2.2.2.2.2.1,m.2.2.2.2.2.2.1,m.2.2.2.2.2.2.2.1,m.2.2.2.2.2.2.2.2.2.2)
def told0 (m:D_EMsg):D_Inst:=(m.2.2.2.1,0,m.2.2.2.2.2.2.2.2.2.1,m.2.2.2.2.2.2.2.2.1,m.2.2.2.2.2.1,m.2.2.2.2.2.2.1,m.2.2.2.2.2.2.2.1,m.2.2.2.2.2.2.2.2.2.2)
def firstD (x y:D_Inst):Bool:=(((((((decide (x.2.2.2.1=1))&&(decide (y.2.2.2.1=1)))&&(decide (x.2.2.1=x.1.1)))&&(decide (y.2.2.1=x.1.1)))&&x.2.2.2.2.2.2.2)&&y.2.2.2.2.2.2.2)&&(decide (x.2.2.2.2.2.1=y.2.2.2.2.2.1)))&&decide (x.2.2.2.2.2.2.1=y.2.2.2.2.2.2.1)
def zInst (id:D_Id):D_Inst:=(id,0,0,0,noCmd,0,([]:List D_Id),false)
def pickD (x y:D_Inst):D_Inst×Int :=
 if decide (x.2.2.2.1=3)=true then (x,3) else if decide (y.2.2.2.1=3)=true then (y,3)
 else if (decide (x.2.2.2.1=2)&&((!decide (y.2.2.2.1=2))||decide (y.2.2.1≤x.2.2.1)))=true then (x,2)
 else if decide (y.2.2.2.1=2)=true then (y,2) else if firstD x y=true then (x,2)
 else if decide (x.2.2.2.1=1)=true then (x,1) else if decide (y.2.2.2.1=1)=true then (y,1) else (zInst x.1,2)
def pickI (x y:D_Inst):D_Inst×Int :=
 if decide (x.2.2.2.1=3)=true then (x,1) else if decide (y.2.2.2.1=3)=true then (y,1)
 else if (decide (x.2.2.2.1=2)&&((!decide (y.2.2.2.1=2))||decide (y.2.2.1≤x.2.2.1)))=true then (x,2)
 else if decide (y.2.2.2.1=2)=true then (y,2) else if firstD x y=true then (x,3)
 else if decide (x.2.2.2.1=1)=true then (x,4) else if decide (y.2.2.2.1=1)=true then (y,4) else (zInst (0,0),5)
theorem first_swap {x y:D_Inst} (hid:y.1=x.1):(((((decide (x.2.2.2.1=1))&&(decide (x.2.2.1=x.1.1)))&&x.2.2.2.2.2.2.2)&&(((decide (y.2.2.2.1=1))&&(decide (y.2.2.1=y.1.1)))&&y.2.2.2.2.2.2.2))&&decide (x.2.2.2.2.2.1=y.2.2.2.2.2.1)&&decide (x.2.2.2.2.2.2.1=y.2.2.2.2.2.2.1))=firstD x y:=by
 unfold firstD
 rw [hid]
 cases decide (x.2.2.2.1=1)<;>cases decide (y.2.2.2.1=1)<;>cases decide (x.2.2.1=x.1.1)<;>cases decide (y.2.2.1=x.1.1)<;>cases x.2.2.2.2.2.2.2<;>cases y.2.2.2.2.2.2.2<;>rfl
theorem i_pick_eq {x y:D_Inst} (hx:x.2.2.2.2.2.2.1.length≤1048576) (hid:y.1=x.1):i_pick x y=some (pickI x y):=by
 unfold i_pick pickI
 cases decide (x.2.2.2.1=3) with
 | true=>rfl
 | false =>
  rw [cond_false,if_neg Bool.false_ne_true]
  cases hy3:decide (y.2.2.2.1=3) with
  | true=>rfl
  | false =>
   rw [cond_false,if_neg Bool.false_ne_true]
   cases (decide (x.2.2.2.1=2)&&((!decide (y.2.2.2.1=2))||decide (y.2.2.1≤x.2.2.1))) with
   | true=>rfl
   | false =>
    rw [cond_false,if_neg Bool.false_ne_true]
    cases decide (y.2.2.2.1=2) with
    | true=>rfl
    | false =>
     rw [cond_false,if_neg Bool.false_ne_true]
     have ht:(cond (decide (x.2.2.2.1=1)) (some (x,4)) (cond (decide (y.2.2.2.1=1)) (some (y,4)) (some (zInst (0,0),5))):Option (D_Inst×Int))=some (if decide (x.2.2.2.1=1)=true then (x,4) else if decide (y.2.2.2.1=1)=true then (y,4) else (zInst (0,0),5)):=by
      cases decide (x.2.2.2.1=1) with
      | true=>rfl
      | false=>cases decide (y.2.2.2.1=1)<;>rfl
     have hfs:=first_swap hid
     rw [← hfs]
     show Option.bind (some (((decide (x.2.2.2.1=1))&&(decide (x.2.2.1=x.1.1)))&&x.2.2.2.2.2.2.2)) (fun y5=>gb y5 (some (((decide (y.2.2.2.1=1))&&(decide (y.2.2.1=y.1.1)))&&y.2.2.2.2.2.2.2)) (fun y6=>gb ((y5&&y6)&&(decide (x.2.2.2.2.2.1=y.2.2.2.2.2.1))) (sl_Equal_implIdimplId x.2.2.2.2.2.2.1 y.2.2.2.2.2.2.1) (fun y7=>cond (((y5&&y6)&&(decide (x.2.2.2.2.2.1=y.2.2.2.2.2.1)))&&y7) (some (x,3)) (cond (decide (x.2.2.2.1=1)) (some (x,4)) (cond (decide (y.2.2.2.1=1)) (some (y,4)) (some (zInst (0,0),5)))))))=_
     rw [ht,i_eqIds (by omega)]
     generalize (if decide (x.2.2.2.1=1)=true then (x,4) else if decide (y.2.2.2.1=1)=true then (y,4) else (zInst (0,0),5):D_Inst×Int)=T
     generalize (((decide (x.2.2.2.1=1))&&(decide (x.2.2.1=x.1.1)))&&x.2.2.2.2.2.2.2)=A
     generalize (((decide (y.2.2.2.1=1))&&(decide (y.2.2.1=y.1.1)))&&y.2.2.2.2.2.2.2)=B
     generalize decide (x.2.2.2.2.2.1=y.2.2.2.2.2.1)=E
     generalize decide (x.2.2.2.2.2.2.1=y.2.2.2.2.2.2.1)=D
     cases A
     ·rfl
     cases B
     ·rfl
     cases E
     ·rfl
     cases D<;>rfl
theorem pick_swap (x:D_Inst) (m:D_EMsg):((pickI x (told0 m)).1.2.2.2.2.1=(pickD x (told m)).1.2.2.2.2.1∧(pickI x (told0 m)).1.2.2.2.2.2.1=(pickD x (told m)).1.2.2.2.2.2.1∧(pickI x (told0 m)).1.2.2.2.2.2.2.1=(pickD x (told m)).1.2.2.2.2.2.2.1)∧decide ((pickI x (told0 m)).2=4)=decide ((pickD x (told m)).2=1)∧decide ((pickI x (told0 m)).2=1)=decide ((pickD x (told m)).2=3)∧((pickD x (told m)).2=1∨(pickD x (told m)).2=2∨(pickD x (told m)).2=3):=by
 unfold pickI pickD
 have hs:(told0 m).2.2.2.1=(told m).2.2.2.1:=rfl
 have hv:(told0 m).2.2.1=(told m).2.2.1:=rfl
 have hf:firstD x (told0 m)=firstD x (told m):=rfl
 rw [hs,hv,hf]
 split
 ·exact ⟨⟨rfl,rfl,rfl⟩,rfl,rfl,by first | exact .inl rfl | exact .inr (.inl rfl) | exact .inr (.inr rfl)⟩
 split
 ·exact ⟨⟨rfl,rfl,rfl⟩,rfl,rfl,by first | exact .inl rfl | exact .inr (.inl rfl) | exact .inr (.inr rfl)⟩
 split
 ·exact ⟨⟨rfl,rfl,rfl⟩,rfl,rfl,by first | exact .inl rfl | exact .inr (.inl rfl) | exact .inr (.inr rfl)⟩
 split
 ·exact ⟨⟨rfl,rfl,rfl⟩,rfl,rfl,by first | exact .inl rfl | exact .inr (.inl rfl) | exact .inr (.inr rfl)⟩
 split
 ·exact ⟨⟨rfl,rfl,rfl⟩,rfl,rfl,by first | exact .inl rfl | exact .inr (.inl rfl) | exact .inr (.inr rfl)⟩
 split
 ·exact ⟨⟨rfl,rfl,rfl⟩,rfl,rfl,by first | exact .inl rfl | exact .inr (.inl rfl) | exact .inr (.inr rfl)⟩
 split
 ·exact ⟨⟨rfl,rfl,rfl⟩,rfl,rfl,by first | exact .inl rfl | exact .inr (.inl rfl) | exact .inr (.inr rfl)⟩
 ·exact ⟨⟨rfl,rfl,rfl⟩,rfl,rfl,by first | exact .inl rfl | exact .inr (.inl rfl) | exact .inr (.inr rfl)⟩
structure ValF (id:D_Id) (p:D_Inst):Prop where
 cmd:cmdOkB p.2.2.2.2.1=true
 seq:0≤p.2.2.2.2.2.1∧p.2.2.2.2.2.1≤60
 deps:idsOkB p.2.2.2.2.2.2.1=true
 self:(p.2.2.2.2.2.2.1.any fun y=>idEq y id)=false
theorem at_val {d:D_ENode} (h:NodeF d) (id:D_Id):ValF id (atI d.2.2.1 id):=by
 rcases atI_or d.2.2.1 id with q | q
 ·have:=h.insF q
  exact ⟨this.cmd,this.seq,this.deps,by have h2:=this.self;rw [atI_id] at h2;exact h2⟩
 ·rw [q]
  exact ⟨cmdOk_no,⟨by show (0:Int)≤0;omega,by show (0:Int)≤60;omega⟩,rfl,rfl⟩
theorem told_val {m:D_EMsg} (hm:MsgF m):ValF m.2.2.2.1 (told m):=⟨hm.cmd,hm.seq,hm.deps,hm.self⟩
theorem pick_val {id:D_Id} {x y:D_Inst} (hx:ValF id x) (hy:ValF id y):ValF id (pickD x y).1:=by
 unfold pickD
 repeat' split
 all_goals first | exact hx | exact hy | exact ⟨cmdOk_no,⟨by show (0:Int)≤0;omega,by show (0:Int)≤60;omega⟩,rfl,rfl⟩
noncomputable def prepOkY (d:D_ENode) (l:D_Lead) (m:D_EMsg) (p:D_Inst×Int):D_Inst :=
 if decide (p.2=1)=true then (m.2.2.2.1,l.2.1,l.2.1,1,p.1.2.2.2.2.1,(attrsD d.2.2.1 m.2.2.2.1 p.1.2.2.2.2.1).1,(attrsD d.2.2.1 m.2.2.2.1 p.1.2.2.2.2.1).2,true)
 else (m.2.2.2.1,l.2.1,l.2.1,1,p.1.2.2.2.2.1,p.1.2.2.2.2.2.1,p.1.2.2.2.2.2.2.1,false)
def prepOkL (l:D_Lead) (ph:Int) (y:D_Inst) (s:Bool):D_Lead:=(l.1,l.2.1,ph,y.2.2.2.2.2.1,y.2.2.2.2.2.2.1,([]:List Int),s)
noncomputable def prepOkS (d:D_ENode) (l:D_Lead) (m:D_EMsg) (p:D_Inst×Int):GetR :=
 if instOkB (prepOkY d l m p)=true then
  if decide (p.2=3)=true then ((comD (putN d (prepOkY d l m p)) (prepOkL l l.2.2.1 (prepOkY d l m p) (decide (p.2=1)))).1,(comD (putN d (prepOkY d l m p)) (prepOkL l l.2.2.1 (prepOkY d l m p) (decide (p.2=1)))).2,true)
  else if decide (p.2=2)=true then ((accD (putN d (prepOkY d l m p)) (prepOkL l l.2.2.1 (prepOkY d l m p) (decide (p.2=1)))).1,(accD (putN d (prepOkY d l m p)) (prepOkL l l.2.2.1 (prepOkY d l m p) (decide (p.2=1)))).2,true)
  else (putLN (putN d (prepOkY d l m p)) (prepOkL l 1 (prepOkY d l m p) (decide (p.2=1))),bothD d.1 (1,0,0,m.2.2.2.1,l.2.1,(prepOkY d l m p).2.2.2.2.1,(prepOkY d l m p).2.2.2.2.2.1,(prepOkY d l m p).2.2.2.2.2.2.1,0,(-1),false),true)
 else noG d
noncomputable def prepOkG (d:D_ENode) (m:D_EMsg):GetR:=match d.2.2.2.find? fun y=>idEq y.1 m.2.2.2.1 with
 | none=>noG d
 | some l=>if ((decide (l.2.1=m.2.2.2.2.1)&&decide (l.2.2.1=3))&&decide ((atI d.2.2.1 m.2.2.2.1).2.1=m.2.2.2.2.1))=true then prepOkS d l m (pickD (atI d.2.2.1 m.2.2.2.1) (told m)) else noG d
theorem prepOkY_okk {d:D_ENode} (h:NodeF d) {l:D_Lead} (hl:LeadF l) {m:D_EMsg} (hm:MsgF m) {p:D_Inst×Int} (hp:ValF m.2.2.2.1 p.1):Ok.ok (prepOkY d l m p):=by
 have hb:=hl.bal
 have z1:inR 1:=by unfold inR;omega
 have zb:inR l.2.1:=by unfold inR;omega
 unfold prepOkY
 split
 ·have ha:=attrs_facts h.is m.2.2.2.1 p.1.2.2.2.2.1
  have:=ha.seq
  have zs:inR (attrsD d.2.2.1 m.2.2.2.1 p.1.2.2.2.2.1).1:=by unfold inR;omega
  exact ⟨id_ok hm.id,zb,zb,z1,cmd_ok hp.cmd,zs,ids_ok ha.deps,trivial⟩
 ·have:=hp.seq
  have zs:inR p.1.2.2.2.2.2.1:=by unfold inR;omega
  exact ⟨id_ok hm.id,zb,zb,z1,cmd_ok hp.cmd,zs,ids_ok hp.deps,trivial⟩
theorem prepOkL_F {l:D_Lead} (hl:LeadF l) {y:D_Inst} (hy:InstF y) (he:y.1=l.1) {ph:Int} (hp:1≤ph∧ph≤3) (s:Bool):LeadF (prepOkL l ph y s) :=
 ⟨hl.id,hl.bal,hp,hy.seq,hy.deps,by have:=hy.self;rw [he] at this;exact this,rfl⟩
theorem prepOkY_id (d:D_ENode) (l:D_Lead) (m:D_EMsg) (p:D_Inst×Int):(prepOkY d l m p).1=m.2.2.2.1:=by unfold prepOkY;split<;>rfl
end Go.Proofs.SL
namespace Go.Proofs.SL
open Go
theorem putLd_putLd {ls:List D_Lead} {k:Nat} {l l':D_Lead} (hidx:(ls.findIdx? fun y=>idEq y.1 l.1)=some k) (he:l'.1=l.1):putLd (putLd ls l) l'=putLd ls l':=by
 have h1:(ls.findIdx? fun y=>idEq y.1 l'.1)=some k:=by rw [he];exact hidx
 have h2:((ls.set k l).findIdx? fun y=>idEq y.1 l'.1)=some k:=by rw [he];exact find_set hidx rfl
 rw [putLd_at hidx,putLd_at h2,putLd_at h1,List.set_set]
theorem dropL_put {ls:List D_Lead} {k:Nat} {l:D_Lead} (hidx:(ls.findIdx? fun y=>idEq y.1 l.1)=some k):dropL (putLd ls l) l.1=dropL ls l.1:=by
 rw [putLd_at hidx]
 obtain ⟨h1,h2,_⟩:=List.findIdx?_eq_some_iff_getElem.1 hidx
 rw [idEq_dec] at h2
 have he:=of_decide_eq_true h2
 have:=dropL_set (ls:=ls) (k:=k) (l:=ls[k]) (m:=l) (List.getElem?_eq_getElem h1) he.symm
 rw [he] at this
 exact this
theorem comD_put {d:D_ENode} {k:Nat} {l:D_Lead} (hidx:(d.2.2.2.findIdx? fun y=>idEq y.1 l.1)=some k):comD (putLN d l) l=comD d l:=by
 unfold comD putLN
 dsimp only
 rw [dropL_put hidx]
theorem accD_put {d:D_ENode} {k:Nat} {l:D_Lead} (hidx:(d.2.2.2.findIdx? fun y=>idEq y.1 l.1)=some k):accD (putLN d l) l=accD d l:=by
 unfold accD putLN
 dsimp only
 rw [dropL_put hidx,putLd_putLd (l':=(l.1,l.2.1,2,l.2.2.2.1,l.2.2.2.2.1,[],l.2.2.2.2.2.2)) hidx rfl]
theorem i_prepOk_eq {d:D_ENode} {m:D_EMsg} (h:NodeF d) (hm:MsgF m) (hu:unk d m.2.2.2.1=false) (h3:LdThree d):i_ENode_prepOk d m=some ((prepOkG d m).2.1,(prepOkG d m).2.2,(prepOkG d m).1):=by
 have hs:=h.s
 have hll:=h.ll
 have hln:=insts_len h.is
 unfold i_ENode_prepOk prepOkG
 refine bind_of (i_lead_eq (d:=d) (x:=m.2.2.2.1) (by omega)) ?_
 refine bind_of (i_InstAt_eq (by omega) hs.sm m.2.2.2.1) ?_
 have hv:=at_val h m.2.2.2.1
 have hsx:=smallI_at hs.sm m.2.2.2.1
 have hxid:=atI_id d.2.2.1 m.2.2.2.1
 generalize atI d.2.2.1 m.2.2.2.1=x at hv hsx hxid
 rcases firstI_opt (fun y:D_Lead=>idEq y.1 m.2.2.2.1) d.2.2.2 with ⟨h1,h2⟩ | ⟨k,l,h1,h2,hf⟩
 ·rw [h1,h2];rfl
 ·rw [h1,hf,show decide ((k:Int) < 0)=false from decide_eq_false (by omega)]
  obtain ⟨hlm,hlid,hlf⟩:=find_lead h hf
  have hkl:=(List.getElem?_eq_some_iff.1 h2).1
  have hidx:=(h.ld k l h2).2
  simp only [idx_nat,h2,Bool.not_false,Bool.false_or,gb_true,Option.bind_some,Bool.not_not]
  cases hc1:decide (l.2.1=m.2.2.2.2.1) with
  | false=>rfl
  | true =>
   rw [Bool.not_true,gb_true,Option.bind_some,Bool.false_or,Bool.true_and]
   cases hc2:decide (l.2.2.1=3) with
   | false=>rfl
   | true =>
    rw [Bool.not_true,Bool.false_or,Bool.true_and]
    cases hc3:decide (x.2.1=m.2.2.2.2.1) with
    | false=>rfl
    | true =>
     rw [Bool.not_true,cond_false,if_pos rfl]
     have hsame:l.2.2.2.2.2.2=false:=h3 l hlm (of_decide_eq_true hc2)
     have hxb:x.2.1=l.2.1:=(of_decide_eq_true hc3).trans (of_decide_eq_true hc1).symm
     have hmb:m.2.2.2.2.1=l.2.1:=(of_decide_eq_true hc1).symm
     refine bind_of (show i_instOf m=some (told0 m) from rfl) ?_
     refine bind_of (i_pick_eq (y:=told0 m) hsx.2 hxid.symm) ?_
     have hpv:=pick_val hv (told_val hm)
     obtain ⟨⟨q1,q2,q3⟩,q4,q5,h123⟩:=pick_swap x m
     generalize pickI x (told0 m)=r at q1 q2 q3 q4 q5
     generalize pickD x (told m)=p at hpv h123 q1 q2 q3 q4 q5
     rw [q4,q5,q1,q2,q3,hxb,hmb]
     have hoy:=prepOkY_okk h hlf hm (p:=p) hpv
     have hyid:=prepOkY_id d l m p
     unfold prepOkS
     have key:∀ y:D_Inst,y=prepOkY d l m p→∀ ph:Int, ∀ b:Bool,LeadF (prepOkL l l.2.2.1 y false)→y.1=m.2.2.2.1→True:=fun _ _ _ _ _ _=>trivial
     clear key
     cases hh1:decide (p.2=1) with
     | true =>
      rw [cond_true]
      have hp3:decide (p.2=3)=false:=by have:=of_decide_eq_true hh1;exact decide_eq_false (by omega)
      have hp2:decide (p.2=2)=false:=by have:=of_decide_eq_true hh1;exact decide_eq_false (by omega)
      rw [hp3,hp2]
      have ha:=attrs_facts h.is m.2.2.2.1 p.1.2.2.2.2.1
      refine bind_of (i_AttrsOf_eq (c:=p.1.2.2.2.2.1) h.is hs.ok.2.2.1 (cmd_ok hpv.cmd) m.2.2.2.1) ?_
      have hy:prepOkY d l m p=(m.2.2.2.1,l.2.1,l.2.1,1,p.1.2.2.2.2.1,(attrsD d.2.2.1 m.2.2.2.1 p.1.2.2.2.2.1).1,(attrsD d.2.2.1 m.2.2.2.1 p.1.2.2.2.2.1).2,true):=by unfold prepOkY;rw [if_pos hh1]
      have hdl:=deps_len ha.deps
      have hsy:smallI (prepOkY d l m p):=by rw [hy];exact ⟨by have:=cmd_small hpv.cmd;show p.1.2.2.2.2.1.2.2.2.2.2.2.2.length≤_;omega,by show (attrsD _ _ _).2.length≤_;omega⟩
      have hp:=i_put_eq (d:=d) (x:=prepOkY d l m p) hs.ok.2.2.1 hoy h.is hs.sm hsy
      rw [hy] at hp ⊢
      refine bind_of hp ?_
      rw [← hy]
      cases hi:instOkB (prepOkY d l m p) with
      | false=>rfl
      | true =>
       rw [if_pos rfl,if_pos rfl,Bool.not_true,cond_false,if_neg Bool.false_ne_true,if_neg Bool.false_ne_true]
       simp only [h2,Option.bind_some,Int.toNat_natCast,i_copyIds_eq (show (attrsD d.2.2.1 m.2.2.2.1 p.1.2.2.2.2.1).2.length≤4294967296 by omega),List.getElem?_set_self hkl,List.set_set,cond_false,cond_true]
       refine bind_of (i_sent_eq _ (m:=(1,0,0,m.2.2.2.1,l.2.1,p.1.2.2.2.2.1,(attrsD d.2.2.1 m.2.2.2.1 p.1.2.2.2.2.1).1,(attrsD d.2.2.1 m.2.2.2.1 p.1.2.2.2.2.1).2,0,(-1),false)) ⟨hsy.1 |> fun t=>by rw [hy] at t;exact t,by show (attrsD _ _ _).2.length≤_;omega⟩ rfl) ?_
       have hput:putLd d.2.2.2 (prepOkL l 1 (prepOkY d l m p) true)=d.2.2.2.set k (prepOkL l 1 (prepOkY d l m p) true):=putLd_at (l:=prepOkL l 1 (prepOkY d l m p) true) hidx
       unfold putLN
       rw [show (putN d (prepOkY d l m p)).2.2.2=d.2.2.2 from rfl,hput,hy];rfl
     | false =>
      rw [cond_false]
      have hy:prepOkY d l m p=(m.2.2.2.1,l.2.1,l.2.1,1,p.1.2.2.2.2.1,p.1.2.2.2.2.2.1,p.1.2.2.2.2.2.2.1,false):=by unfold prepOkY;rw [if_neg (by rw [hh1];exact Bool.false_ne_true)]
      have hdl:=deps_len hpv.deps
      have hsy:smallI (prepOkY d l m p):=by rw [hy];exact ⟨by have:=cmd_small hpv.cmd;show p.1.2.2.2.2.1.2.2.2.2.2.2.2.length≤_;omega,by show p.1.2.2.2.2.2.2.1.length≤_;omega⟩
      have hp:=i_put_eq (d:=d) (x:=prepOkY d l m p) hs.ok.2.2.1 hoy h.is hs.sm hsy
      rw [hy] at hp ⊢
      refine bind_of hp ?_
      rw [← hy]
      cases hi:instOkB (prepOkY d l m p) with
      | false=>rfl
      | true =>
       have hyF:=instF_iff.1 hi
       have hLF:LeadF (prepOkL l l.2.2.1 (prepOkY d l m p) false):=prepOkL_F hlf hyF (hyid.trans hlid.symm) hlf.ph false
       have hNF:NodeF (putN d (prepOkY d l m p)):=h.putN hyF (by rw [hyid];exact hu)
       have hNF2:NodeF (putLN (putN d (prepOkY d l m p)) (prepOkL l l.2.2.1 (prepOkY d l m p) false)):=hNF.putL hLF (.inl ⟨l,hlm,rfl⟩)
       have hput:putLd d.2.2.2 (prepOkL l l.2.2.1 (prepOkY d l m p) false)=d.2.2.2.set k (prepOkL l l.2.2.1 (prepOkY d l m p) false):=putLd_at (l:=prepOkL l l.2.2.1 (prepOkY d l m p) false) hidx
       have hk':(putLN (putN d (prepOkY d l m p)) (prepOkL l l.2.2.1 (prepOkY d l m p) false)).2.2.2[k]?=some (prepOkL l l.2.2.1 (prepOkY d l m p) false):=by
        show (putLd d.2.2.2 _)[k]?=_
        rw [hput,List.getElem?_set_self hkl]
       have hf':=(hNF2.ld k _ hk').2
       rw [if_pos rfl,if_pos rfl,Bool.not_true,cond_false]
       simp only [h2,Option.bind_some,Int.toNat_natCast,i_copyIds_eq (show p.1.2.2.2.2.2.2.1.length≤4294967296 by omega),List.getElem?_set_self hkl,List.set_set,cond_false]
       have e1:d.2.2.2.set k ((l.1.1,l.1.2),l.2.1,l.2.2.1,p.1.2.2.2.2.2.1,p.1.2.2.2.2.2.2.1,([]:List Int),l.2.2.2.2.2.2)=putLd d.2.2.2 (prepOkL l l.2.2.1 (prepOkY d l m p) false):=by
        rw [hput,hsame,hy];rfl
       rw [e1]
       cases hh3:decide (p.2=3) with
       | true =>
        rw [cond_true,if_pos rfl]
        refine bind_of (settle3_eq (d:=putLN (putN d (prepOkY d l m p)) (prepOkL l l.2.2.1 (prepOkY d l m p) false)) hNF2.s hk' hLF) ?_
        rw [comD_put (d:=putN d (prepOkY d l m p)) (l:=prepOkL l l.2.2.1 (prepOkY d l m p) false) hidx]
       | false =>
        have hh2:decide (p.2=2)=true:=by
         have h1:=of_decide_eq_false hh1
         have h3:=of_decide_eq_false hh3
         exact decide_eq_true (by omega)
        rw [cond_false,hh2,if_neg Bool.false_ne_true,if_pos rfl]
        refine bind_of (settle2_eq (d:=putLN (putN d (prepOkY d l m p)) (prepOkL l l.2.2.1 (prepOkY d l m p) false)) hNF2.s hk' hf' hLF) ?_
        rw [accD_put (d:=putN d (prepOkY d l m p)) (l:=prepOkL l l.2.2.1 (prepOkY d l m p) false) hidx]
noncomputable def getG (d:D_ENode) (m:D_EMsg):GetR :=
 if decide (m.1=1)=true then preG d m else if decide (m.1=2)=true then preOkG d m else if decide (m.1=3)=true then accG d m
 else if decide (m.1=4)=true then accOkG d m else if decide (m.1=5)=true then comG d m else if decide (m.1=6)=true then prepG d m else prepOkG d m
noncomputable def getD (d:D_ENode) (m:D_EMsg):GetR:=if nodeOkB d then (if ((!msgOkB m)||(!decide (m.2.2.1=d.1)))||unk d m.2.2.2.1 then noG d else getG d m) else (zeroN,[],false)
theorem i_get_eq {d:D_ENode} {m:D_EMsg} (h:NodeF d) (hm:MsgF m) (hu:unk d m.2.2.2.1=false) (h3:LdThree d):i_ENode_get d m=some ((getG d m).2.1,(getG d m).2.2,(getG d m).1):=by
 have hs:=h.s
 have hll:=h.ll
 unfold i_ENode_get getG
 cases decide (m.1=1) with
 | true=>exact bind_of (i_pre_eq h hm) rfl
 | false =>
  rw [cond_false,if_neg Bool.false_ne_true]
  cases decide (m.1=2) with
  | true=>exact bind_of (i_preOk_eq h hm) rfl
  | false =>
   rw [cond_false,if_neg Bool.false_ne_true]
   cases decide (m.1=3) with
   | true=>exact bind_of (i_acc_eq h hm) rfl
   | false =>
    rw [cond_false,if_neg Bool.false_ne_true]
    cases decide (m.1=4) with
    | true =>
     rw [cond_true,if_pos rfl]
     unfold accOkG
     refine bind_of (i_lead_eq (d:=d) (x:=m.2.2.2.1) (by omega)) ?_
     rcases firstI_opt (fun y:D_Lead=>idEq y.1 m.2.2.2.1) d.2.2.2 with ⟨h1,h2⟩ | ⟨k,l,h1,h2,h3⟩
     ·rw [h1,h2];rfl
     ·rw [h1,h3,show decide ((k:Int) < 0)=false from decide_eq_false (by omega)]
      obtain ⟨hlm,hlid,hlf⟩:=find_lead h h3
      simp only [idx_nat,h2,Bool.not_false,Bool.false_or,gb_true,Option.bind_some,Bool.not_not]
      cases hc1:decide (l.2.1=m.2.2.2.2.1) with
      | false=>rfl
      | true =>
       rw [Bool.not_true,gb_true,Option.bind_some,Bool.false_or,Bool.true_and]
       cases hc2:decide (l.2.2.1=2) with
       | false=>rfl
       | true =>
        rw [Bool.not_true,cond_false,if_pos rfl]
        exact bind_of (settle3_eq (d:=d) hs h2 hlf) rfl
    | false =>
     rw [cond_false,if_neg Bool.false_ne_true]
     cases decide (m.1=5) with
     | true=>exact bind_of (i_com_eq h hm) rfl
     | false =>
      rw [cond_false,if_neg Bool.false_ne_true]
      cases decide (m.1=6) with
      | true=>exact bind_of (i_prep_eq h hm) rfl
      | false=>exact bind_of (i_prepOk_eq h hm hu h3) rfl
end Go.Proofs.SL
namespace Go.Proofs.SL
open Go
structure GN (d:D_ENode):Prop where
 f:NodeF d
 kn:LdKnown d
 th:LdThree d
structure GRes (d:D_ENode) (r:GetR):Prop where
 g:GN r.1
 me:r.1.1=d.1
 out:∀ m,m∈r.2.1→MsgF m∧m.2.1=d.1
 len:r.2.1.length≤2
theorem GN.no {d:D_ENode} (h:GN d):GRes d (noG d):=⟨h,rfl,fun _ hm=>(by cases hm),Nat.zero_le _⟩
theorem unk_same {d e:D_ENode} (h1:e.1=d.1) (h2:e.2.1=d.2.1) (id:D_Id):unk e id=unk d id:=by unfold unk;rw [h1,h2]
theorem GN.putN {d:D_ENode} (h:GN d) {x:D_Inst} (hx:InstF x) (hu:unk d x.1=false):GN (putN d x) :=
 ⟨h.f.putN hx hu,fun l hl=>by rw [unk_same rfl rfl];exact h.kn l hl,h.th⟩
theorem GN.putL {d:D_ENode} (h:GN d) {l:D_Lead} (hl:LeadF l) (hr:(∃ m,m∈d.2.2.2∧m.1=l.1)∨d.2.2.2.length < 8) (hu:unk d l.1=false) (h3:l.2.2.1=3→l.2.2.2.2.2.2=false):GN (putLN d l):=by
 refine ⟨h.f.putL hl hr,fun y hy=>?_,fun y hy=>?_⟩
 ·rw [unk_same rfl rfl]
  rcases putLd_mem hy with q | q
  ·exact h.kn y q
  ·rw [q];exact hu
 ·rcases putLd_mem hy with q | q
  ·exact h.th y q
  ·rw [q];exact h3
theorem GN.drp {d:D_ENode} (h:GN d) (id:D_Id):GN (dropN d id) :=
 ⟨h.f.drp id,fun y hy=>h.kn y (List.mem_filter.1 hy).1,fun y hy=>h.th y (List.mem_filter.1 hy).1⟩
theorem bothD_mem {me:Int} {m x:D_EMsg} (h:x∈bothD me m):∃ t:Int,(0≤t∧t < 3)∧t≠me∧x=toMsg me t m:=by
 unfold bothD bothN at h
 obtain ⟨t,ht,rfl⟩:=List.mem_map.1 h
 obtain ⟨h1,h2⟩:=List.mem_filter.1 ht
 have:=List.mem_range.1 h1
 simp only [Bool.not_eq_true',decide_eq_false_iff_not] at h2
 exact ⟨(t:Int),by omega,h2,rfl⟩
theorem bothD_len {me:Int} (h:0≤me∧me < 3) (m:D_EMsg):(bothD me m).length=2:=by
 have:me=0∨me=1∨me=2:=by omega
 rcases this with rfl | rfl | rfl<;>rfl
structure BodyF (m:D_EMsg):Prop where
 kind:1≤m.1∧m.1≤7
 id:idOkB m.2.2.2.1=true
 bal:0≤m.2.2.2.2.1∧m.2.2.2.2.1≤600
 cmd:cmdOkB m.2.2.2.2.2.1=true
 seq:0≤m.2.2.2.2.2.2.1∧m.2.2.2.2.2.2.1≤60
 deps:idsOkB m.2.2.2.2.2.2.2.1=true
 self:(m.2.2.2.2.2.2.2.1.any fun y=>idEq y m.2.2.2.1)=false
 st:0≤m.2.2.2.2.2.2.2.2.1∧m.2.2.2.2.2.2.2.2.1≤3
theorem both_F {me:Int} (hme:0≤me∧me < 3) {m:D_EMsg} (h:BodyF m):∀ x,x∈bothD me m→MsgF x∧x.2.1=me:=fun x hx=>by
 obtain ⟨t,ht,hne,rfl⟩:=bothD_mem hx
 exact ⟨⟨h.kind,hme,ht,fun e=>hne e.symm,h.id,h.bal,h.cmd,h.seq,h.deps,h.self,h.st,by show (-1:Int)≤-1;omega,by show (-1:Int)≤600;omega⟩,rfl⟩
theorem accD_G {d:D_ENode} (h:GN d) {l:D_Lead} (hl:LeadF l) (hin:∃ m,m∈d.2.2.2∧m.1=l.1) (hu:unk d l.1=false):GRes d ((accD d l).1,(accD d l).2,true):=by
 unfold accD
 split
 ·rename_i hb
  have hx:InstF (accI (atI d.2.2.1 l.1) l):=instF_iff.1 (accI_ok h.f.is hl hb)
  have hxid:(accI (atI d.2.2.1 l.1) l).1=l.1:=atI_id _ _
  have h1:=h.putN hx (by rw [hxid];exact hu)
  refine ⟨h1.putL (l:=(l.1,l.2.1,2,l.2.2.2.1,l.2.2.2.2.1,[],l.2.2.2.2.2.2)) ⟨hl.id,hl.bal,⟨by show (1:Int)≤2;omega,by show (2:Int)≤3;omega⟩,hl.seq,hl.deps,hl.self,rfl⟩ (.inl hin) hu (fun e=>by exact absurd (show (2:Int)=3 from e) (by decide)),rfl,?_,by show (bothD _ _).length≤2;rw [bothD_len h.f.me];omega⟩
  exact both_F h.f.me ⟨⟨by show (1:Int)≤3;omega,by show (3:Int)≤7;omega⟩,hl.id,hl.bal,(at_val h.f l.1).cmd,hl.seq,hl.deps,hl.self,⟨by show (0:Int)≤0;omega,by show (0:Int)≤3;omega⟩⟩
 ·exact ⟨h.drp l.1,rfl,fun _ hm=>(by cases hm),Nat.zero_le _⟩
theorem comD_G {d:D_ENode} (h:GN d) {l:D_Lead} (hl:LeadF l) (hu:unk d l.1=false):GRes d ((comD d l).1,(comD d l).2,true):=by
 unfold comD
 split
 ·rename_i hb
  have hx:InstF (comJ (atI d.2.2.1 l.1) l):=instF_iff.1 (comJ_ok h.f.is hl hb)
  have hxid:(comJ (atI d.2.2.1 l.1) l).1=l.1:=atI_id _ _
  refine ⟨(h.putN hx (by rw [hxid];exact hu)).drp l.1,rfl,?_,by show (bothD _ _).length≤2;rw [bothD_len h.f.me];omega⟩
  exact both_F h.f.me ⟨⟨by show (1:Int)≤5;omega,by show (5:Int)≤7;omega⟩,hl.id,⟨by show (0:Int)≤0;omega,by show (0:Int)≤600;omega⟩,(at_val h.f l.1).cmd,hl.seq,hl.deps,hl.self,⟨by show (0:Int)≤0;omega,by show (0:Int)≤3;omega⟩⟩
 ·exact ⟨h.drp l.1,rfl,fun _ hm=>(by cases hm),Nat.zero_le _⟩
theorem GRes.of {d e:D_ENode} {r:GetR} (h:GRes e r) (he:e.1=d.1):GRes d r:=⟨h.g,h.me.trans he,fun m hm=>by rw [← he];exact h.out m hm,h.len⟩
theorem one_out {d:D_ENode} {m x:D_EMsg} (h:MsgF m∧m.2.1=d.1) (hx:x∈[m]):MsgF x∧x.2.1=d.1:=by
 rw [List.mem_singleton] at hx;rw [hx];exact h
theorem preOkM_F {d:D_ENode} (h:NodeF d) {m:D_EMsg} (hm:MsgF m) (ht:m.2.2.1=d.1) {x:D_Inst} (hx:ValF m.2.2.2.1 x):MsgF (preOkM d.1 m x)∧(preOkM d.1 m x).2.1=d.1 :=
 ⟨⟨⟨by show (1:Int)≤2;omega,by show (2:Int)≤7;omega⟩,h.me,hm.frm,fun e=>hm.ne (e.symm.trans ht.symm),hm.id,hm.bal,cmdOk_no,hx.seq,hx.deps,hx.self,⟨by show (0:Int)≤0;omega,by show (0:Int)≤3;omega⟩,⟨by show (-1:Int)≤-1;omega,by show (-1:Int)≤600;omega⟩⟩,rfl⟩
theorem accOkM_F {d:D_ENode} (h:NodeF d) {m:D_EMsg} (hm:MsgF m) (ht:m.2.2.1=d.1):MsgF (accOkM d.1 m)∧(accOkM d.1 m).2.1=d.1 :=
 ⟨⟨⟨by show (1:Int)≤4;omega,by show (4:Int)≤7;omega⟩,h.me,hm.frm,fun e=>hm.ne (e.symm.trans ht.symm),hm.id,hm.bal,cmdOk_no,⟨by show (0:Int)≤0;omega,by show (0:Int)≤60;omega⟩,rfl,rfl,⟨by show (0:Int)≤0;omega,by show (0:Int)≤3;omega⟩,⟨by show (-1:Int)≤-1;omega,by show (-1:Int)≤600;omega⟩⟩,rfl⟩
theorem prepOkM_F {d:D_ENode} (h:NodeF d) {m:D_EMsg} (hm:MsgF m) (ht:m.2.2.1=d.1):MsgF (prepOkM d.1 m (atI d.2.2.1 m.2.2.2.1))∧(prepOkM d.1 m (atI d.2.2.1 m.2.2.2.1)).2.1=d.1:=by
 have hx:=at_val h m.2.2.2.1
 have hb:=at_bounds h m.2.2.2.1
 exact ⟨⟨⟨by show (1:Int)≤7;omega,by show (7:Int)≤7;omega⟩,h.me,hm.frm,fun e=>hm.ne (e.symm.trans ht.symm),hm.id,hm.bal,hx.cmd,hx.seq,hx.deps,hx.self,hb.2.2,hb.2.1⟩,rfl⟩
theorem InstF.val {x:D_Inst} (h:InstF x) {id:D_Id} (he:x.1=id):ValF id x:=⟨h.cmd,h.seq,h.deps,by rw [← he];exact h.self⟩
theorem preG_G {d:D_ENode} (h:GN d) {m:D_EMsg} (hm:MsgF m) (ht:m.2.2.1=d.1) (hu:unk d m.2.2.2.1=false):GRes d (preG d m):=by
 unfold preG
 split
 ·exact h.no
 split
 ·exact ⟨h,rfl,fun x hx=>one_out (preOkM_F h.f hm ht (at_val h.f _)) hx,by show (1:Nat)≤2;omega⟩
 split
 ·rename_i hi
  have hiF:=instF_iff.1 hi
  exact ⟨h.putN hiF hu,rfl,fun x hx=>one_out (preOkM_F h.f hm ht (hiF.val rfl)) hx,by show (1:Nat)≤2;omega⟩
 ·exact h.no
theorem accG_G {d:D_ENode} (h:GN d) {m:D_EMsg} (hm:MsgF m) (ht:m.2.2.1=d.1) (hu:unk d m.2.2.2.1=false):GRes d (accG d m):=by
 unfold accG
 split
 ·exact h.no
 split
 ·rename_i hi
  exact ⟨h.putN (instF_iff.1 hi) hu,rfl,fun x hx=>one_out (accOkM_F h.f hm ht) hx,by show (1:Nat)≤2;omega⟩
 ·exact h.no
theorem comG_G {d:D_ENode} (h:GN d) {m:D_EMsg} (hu:unk d m.2.2.2.1=false):GRes d (comG d m):=by
 unfold comG
 split
 ·exact h.no
 split
 ·rename_i hi
  exact ⟨(h.putN (instF_iff.1 hi) hu).drp m.2.2.2.1,rfl,fun _ hx=>(by cases hx),Nat.zero_le _⟩
 ·exact h.no
theorem prepG_G {d:D_ENode} (h:GN d) {m:D_EMsg} (hm:MsgF m) (ht:m.2.2.1=d.1) (hu:unk d m.2.2.2.1=false):GRes d (prepG d m):=by
 unfold prepG
 split
 ·exact h.no
 ·rename_i hq
  have hmb:=hm.bal
  have hq':¬ m.2.2.2.2.1≤(atI d.2.2.1 m.2.2.2.1).2.1:=fun e=>hq (decide_eq_true e)
  have hi:=recI_ok h.f.is (id:=m.2.2.2.1) hm.id (b:=m.2.2.2.2.1) (by omega) hmb.1 hmb.2
  have hid:(recI (atI d.2.2.1 m.2.2.2.1) m.2.2.2.2.1).1=m.2.2.2.1:=atI_id _ _
  exact ⟨h.putN (instF_iff.1 hi) (by rw [hid];exact hu),rfl,fun x hx=>one_out (prepOkM_F h.f hm ht) hx,by show (1:Nat)≤2;omega⟩
theorem preOkG_G {d:D_ENode} (h:GN d) {m:D_EMsg} (hm:MsgF m):GRes d (preOkG d m):=by
 unfold preOkG
 split
 ·exact h.no
 ·rename_i l hf
  obtain ⟨hlm,hlid,hlf⟩:=find_lead h.f hf
  split
  ·rename_i hc
   simp only [Bool.and_eq_true,decide_eq_true_eq] at hc
   have hLF:=preOkL_F hlf hm hlid
   have hul:unk d (preOkL l m).1=false:=h.kn l hlm
   have hG:GN (putLN d (preOkL l m)):=h.putL hLF (.inl ⟨l,hlm,rfl⟩) hul (fun e=>by have:(preOkL l m).2.2.1=1:=hc.1.2;omega)
   have hin:∃ m',m'∈(putLN d (preOkL l m)).2.2.2∧m'.1=(preOkL l m).1:=by
    refine ⟨preOkL l m,?_,rfl⟩
    show preOkL l m∈putLd d.2.2.2 (preOkL l m)
    rcases putLd_cases d.2.2.2 (preOkL l m) with ⟨k,y,hk,_,hp⟩ | ⟨_,hp⟩
    ·rw [hp];exact List.mem_set (List.getElem?_eq_some_iff.1 hk).1 _
    ·rw [hp];simp
   unfold preOkS
   split
   ·exact (accD_G hG hLF hin (by rw [unk_same rfl rfl];exact hul)).of rfl
   split
   ·exact (comD_G hG hLF (by rw [unk_same rfl rfl];exact hul)).of rfl
   ·exact ⟨hG,rfl,fun _ hx=>(by cases hx),Nat.zero_le _⟩
  ·exact h.no
theorem accOkG_G {d:D_ENode} (h:GN d) {m:D_EMsg}:GRes d (accOkG d m):=by
 unfold accOkG
 split
 ·exact h.no
 ·rename_i l hf
  obtain ⟨hlm,hlid,hlf⟩:=find_lead h.f hf
  split
  ·exact comD_G h hlf (h.kn l hlm)
  ·exact h.no
theorem prepOkG_G {d:D_ENode} (h:GN d) {m:D_EMsg} (hu:unk d m.2.2.2.1=false):GRes d (prepOkG d m):=by
 unfold prepOkG
 split
 ·exact h.no
 ·rename_i l hf
  obtain ⟨hlm,hlid,hlf⟩:=find_lead h.f hf
  split
  ·rename_i hc
   simp only [Bool.and_eq_true,decide_eq_true_eq] at hc
   obtain ⟨_,_,_,h123⟩:=pick_swap (atI d.2.2.1 m.2.2.2.1) m
   generalize pickD (atI d.2.2.1 m.2.2.2.1) (told m)=p at h123
   unfold prepOkS
   split
   ·rename_i hi
    have hyF:=instF_iff.1 hi
    have hyid:=prepOkY_id d l m p
    have hG:=h.putN hyF (by rw [hyid];exact hu)
    have hul:unk (putN d (prepOkY d l m p)) l.1=false:=by rw [unk_same rfl rfl];exact h.kn l hlm
    have hin:∃ m',m'∈(putN d (prepOkY d l m p)).2.2.2∧m'.1=l.1:=⟨l,hlm,rfl⟩
    split
    ·exact (comD_G hG (prepOkL_F hlf hyF (hyid.trans hlid.symm) hlf.ph _) hul).of rfl
    split
    ·exact (accD_G hG (prepOkL_F hlf hyF (hyid.trans hlid.symm) hlf.ph _) hin hul).of rfl
    ·refine ⟨hG.putL (prepOkL_F hlf hyF (hyid.trans hlid.symm) (by omega) _) (.inl hin) hul (fun e=>by exact absurd (show (1:Int)=3 from e) (by decide)),rfl,?_,by show (bothD _ _).length≤2;rw [bothD_len h.f.me];omega⟩
     exact both_F h.f.me ⟨⟨by show (1:Int)≤1;omega,by show (1:Int)≤7;omega⟩,by show idOkB m.2.2.2.1=true;rw [← hyid];exact hyF.id,hlf.bal,hyF.cmd,hyF.seq,hyF.deps,by show (((prepOkY d l m p).2.2.2.2.2.2.1).any fun y=>idEq y m.2.2.2.1)=false;have:=hyF.self;rw [hyid] at this;exact this,⟨by show (0:Int)≤0;omega,by show (0:Int)≤3;omega⟩⟩
   ·exact h.no
  ·exact h.no
theorem getG_G {d:D_ENode} (h:GN d) {m:D_EMsg} (hm:MsgF m) (ht:m.2.2.1=d.1) (hu:unk d m.2.2.2.1=false):GRes d (getG d m):=by
 unfold getG
 split
 ·exact preG_G h hm ht hu
 split
 ·exact preOkG_G h hm
 split
 ·exact accG_G h hm ht hu
 split
 ·exact accOkG_G h
 split
 ·exact comG_G h hu
 split
 ·exact prepG_G h hm ht hu
 ·exact prepOkG_G h hu
theorem getD_G {d:D_ENode} (h:GN d) (m:D_EMsg):GRes d (getD d m):=by
 unfold getD
 rw [if_pos (nodeF.ok h.f)]
 split
 ·exact h.no
 ·rename_i hc
  simp only [Bool.or_eq_true,Bool.not_eq_true',decide_eq_false_iff_not,not_or,Bool.not_eq_false,Classical.not_not,Bool.not_eq_true] at hc
  exact getG_G h (msgF_iff.1 hc.1.1) hc.1.2 hc.2
theorem slowD_G {d:D_ENode} (h:GN d) (id:D_Id):GRes d (slowD d id):=by
 unfold slowD
 rw [if_pos (nodeF.ok h.f)]
 unfold slowG
 split
 ·exact h.no
 ·rename_i l hf
  obtain ⟨hlm,hlid,hlf⟩:=find_lead h.f hf
  split
  ·exact accD_G h hlf ⟨l,hlm,rfl⟩ (h.kn l hlm)
  ·exact h.no
theorem recD_G {d:D_ENode} (h:GN d) (id:D_Id):GRes d (recD d id):=by
 unfold recD
 rw [if_pos (nodeF.ok h.f)]
 unfold recG
 split
 ·exact h.no
 ·rename_i hc
  unfold recNo at hc
  simp only [Bool.or_eq_true,Bool.not_eq_true',not_or,Bool.not_eq_false,Bool.not_eq_true] at hc
  obtain ⟨hid,hst,h600,h8,hu⟩:=hc
  have h600:¬ 600 < recB d.1 (atI d.2.2.1 id).2.1:=of_decide_eq_false h600
  have hge:=recB_ge d.1 (atI d.2.2.1 id).2.1
  have hi:=recI_ok h.f.is hid (b:=recB d.1 (atI d.2.2.1 id).2.1) hge.1 (by omega) (by omega)
  have hxid:(recI (atI d.2.2.1 id) (recB d.1 (atI d.2.2.1 id).2.1)).1=id:=atI_id _ _
  have hG:=h.putN (instF_iff.1 hi) (by rw [hxid];exact hu)
  refine ⟨hG.putL (l:=zLead id (recB d.1 (atI d.2.2.1 id).2.1)) ⟨hid,by show 0≤recB _ _∧recB _ _≤600;omega,⟨by show (1:Int)≤3;omega,by show (3:Int)≤3;omega⟩,⟨by show (0:Int)≤0;omega,by show (0:Int)≤60;omega⟩,rfl,rfl,rfl⟩ ?_ (by rw [unk_same rfl rfl];exact hu) (fun _=>rfl),rfl,?_,by show (bothD _ _).length≤2;rw [bothD_len h.f.me];omega⟩
  ·rw [Bool.and_eq_false_iff] at h8
   rcases h8 with q | q
   ·right
    have:=of_decide_eq_false q
    have:=h.f.ll
    show d.2.2.2.length < 8
    omega
   ·left
    cases hf:d.2.2.2.find? fun y=>idEq y.1 id with
    | none=>rw [hf] at q;cases q
    | some l=>exact ⟨l,(find_lead h.f hf).1,(find_lead h.f hf).2.1⟩
  ·exact both_F h.f.me ⟨⟨by show (1:Int)≤6;omega,by show (6:Int)≤7;omega⟩,hid,by show 0≤recB _ _∧recB _ _≤600;omega,cmdOk_no,⟨by show (0:Int)≤0;omega,by show (0:Int)≤60;omega⟩,rfl,rfl,⟨by show (0:Int)≤0;omega,by show (0:Int)≤3;omega⟩⟩
theorem no_own {d:D_ENode} (h:GN d):(d.2.2.2.findIdx? fun y=>idEq y.1 (d.1,d.2.1))=none:=by
 rw [List.findIdx?_eq_none_iff]
 intro l hl
 have:=h.kn l hl
 unfold unk at this
 rw [idEq_dec,decide_eq_false_iff_not]
 intro e
 rw [e] at this
 simp at this
theorem offD_G {d:D_ENode} (h:GN d) (c:D_Cmd):GRes d (offD d c):=by
 unfold offD
 rw [if_pos (nodeF.ok h.f)]
 unfold offG
 cases hno:offNo d c with
 | true=>exact h.no
 | false =>
  rw [if_neg Bool.false_ne_true]
  have hi:=instF_iff.1 (offInst_ok h.f hno)
  have hnx:=h.f.nx
  have hme:=h.f.me
  have hno2:=hno
  unfold offNo at hno2
  simp only [Bool.or_eq_false_iff,Bool.not_eq_false',decide_eq_false_iff_not] at hno2
  obtain ⟨⟨⟨⟨h1,h2⟩,h3⟩,h4⟩,h5⟩:=hno2
  have hlf:LeadF (offLead d c):=⟨hi.id,by show 0≤d.1∧d.1≤600;omega,⟨by show (1:Int)≤1;omega,by show (1:Int)≤3;omega⟩,hi.seq,hi.deps,hi.self,rfl⟩
  refine ⟨⟨NodeF.mk' hme (by show 1≤d.2.1+1∧d.2.1+1≤7;omega) (putI_ok h.f.is (instF_iff.2 hi)) ?_ (fun x hx he=>?_) (fun l hl=>?_) ?_,fun l hl=>?_,fun l hl h3'=>?_⟩,rfl,?_,by show (bothD _ _).length≤2;rw [bothD_len h.f.me];omega⟩
  ·show (d.2.2.2++[offLead d c]).length≤8
   rw [List.length_append,List.length_singleton];omega
  ·show x.1.2 < d.2.1+1
   rcases putI_mem.1 hx with q | ⟨q,_⟩
   ·rw [q];show d.2.1 < d.2.1+1;omega
   ·have:=h.f.own x q he;omega
  ·rcases List.mem_append.1 hl with q | q
   ·exact h.f.ldF q
   ·rw [List.mem_singleton.1 q];exact hlf
  ·show ((d.2.2.2++[offLead d c]).map (·.1)).Nodup
   rw [List.map_append,List.nodup_append]
   refine ⟨h.f.nd,by simp,fun a ha b hb=>?_⟩
   simp only [List.map_cons,List.map_nil,List.mem_singleton] at hb
   subst hb
   obtain ⟨m,hm,rfl⟩:=List.mem_map.1 ha
   have:=List.findIdx?_eq_none_iff.1 (no_own h) m hm
   rw [idEq_dec,decide_eq_false_iff_not] at this
   exact this
  ·show (decide (l.1.1=d.1)&&decide (d.2.1+1≤l.1.2))=false
   rcases List.mem_append.1 hl with q | q
   ·have:=h.kn l q
    unfold unk at this
    simp only [Bool.and_eq_false_iff,decide_eq_false_iff_not] at this ⊢
    omega
   ·rw [List.mem_singleton.1 q]
    simp only [Bool.and_eq_false_iff,decide_eq_false_iff_not]
    right;show ¬ d.2.1+1≤d.2.1;omega
  ·rcases List.mem_append.1 hl with q | q
   ·exact h.th l q h3'
   ·rw [List.mem_singleton.1 q] at h3'
    exact absurd (show (1:Int)=3 from h3') (by decide)
  ·exact both_F hme ⟨⟨by show (1:Int)≤1;omega,by show (1:Int)≤7;omega⟩,hi.id,by show 0≤d.1∧d.1≤600;omega,hi.cmd,hi.seq,hi.deps,hi.self,⟨by show (0:Int)≤0;omega,by show (0:Int)≤3;omega⟩⟩
def NoOr (d:D_ENode) (r:GetR):Prop:=r=noG d∨r.2.2=true
theorem NoOr.ite {d:D_ENode} {c:Prop} [Decidable c] {a b:GetR} (h1:NoOr d a) (h2:NoOr d b):NoOr d (if c then a else b):=by
 by_cases h:c
 ·rw [if_pos h];exact h1
 ·rw [if_neg h];exact h2
theorem NoOr.no (d:D_ENode):NoOr d (noG d):=.inl rfl
theorem NoOr.yes {d e:D_ENode} {ms:List D_EMsg}:NoOr d (e,ms,true):=.inr rfl
theorem preOkG_or (d:D_ENode) (m:D_EMsg):NoOr d (preOkG d m):=by
 unfold preOkG
 split
 ·exact .no d
 ·exact .ite (.ite .yes (.ite .yes .yes)) (.no d)
theorem accOkG_or (d:D_ENode) (m:D_EMsg):NoOr d (accOkG d m):=by
 unfold accOkG
 split
 ·exact .no d
 ·exact .ite .yes (.no d)
theorem prepOkG_or (d:D_ENode) (m:D_EMsg):NoOr d (prepOkG d m):=by
 unfold prepOkG
 split
 ·exact .no d
 ·exact .ite (.ite (.ite .yes (.ite .yes .yes)) (.no d)) (.no d)
theorem getG_or (d:D_ENode) (m:D_EMsg):NoOr d (getG d m):=by
 unfold getG
 exact .ite (.ite (.no d) (.ite .yes (.ite .yes (.no d)))) (.ite (preOkG_or d m) (.ite (.ite (.no d) (.ite .yes (.no d))) (.ite (accOkG_or d m) (.ite (.ite (.no d) (.ite .yes (.no d))) (.ite (.ite (.no d) .yes) (prepOkG_or d m))))))
theorem getG_no {d:D_ENode} {m:D_EMsg} (h:(getG d m).2.2=false):getG d m=noG d:=by
 rcases getG_or d m with q | q
 ·exact q
 ·rw [h] at q;cases q
theorem i_ENodeGet_eq {d:D_ENode} {m:D_EMsg} (h:GN d) (hm:Ok.ok m):i_ENodeGet d m=some (getD d m):=by
 have hf:=h.f
 have hk:=nodeF.ok hf
 unfold i_ENodeGet getD
 refine bind_of (i_ENodeOk_eq hf.okk) ?_
 rw [hk,Bool.not_true,cond_false,if_pos rfl]
 refine bind_of (i_EMsgOk_eq hm) ?_
 rw [show i_ENode_unknown _ _=some (unk d m.2.2.2.1) from rfl]
 cases hc1:((!msgOkB m)||(!decide (m.2.2.1=d.1))) with
 | true =>
  rw [Bool.true_or,if_pos rfl]
  exact bind_of (i_copyENode_eq hf.small) rfl
 | false =>
  rw [Bool.not_false,gb_true,Option.bind_some,Bool.false_or]
  cases hc2:unk d m.2.2.2.1 with
  | true =>
   rw [cond_true,if_pos rfl]
   exact bind_of (i_copyENode_eq hf.small) rfl
  | false =>
   rw [cond_false,if_neg Bool.false_ne_true]
   simp only [Bool.or_eq_false_iff,Bool.not_eq_false',decide_eq_true_eq] at hc1
   have hmf:=msgF_iff.1 hc1.1
   refine bind_of (i_copyENode_eq hf.small) ?_
   refine bind_of (i_get_eq hf hmf hc2 h.th) ?_
   by_cases hr:(getG d m).2.2=true
   ·show (cond (!(getG d m).2.2) _ _:Option GetR)=some (getG d m)
    rw [hr,Bool.not_true,cond_false]
    have e:getG d m=((getG d m).1,(getG d m).2.1,true):=by rw [← hr]
    exact congrArg some e.symm
   ·have hr:(getG d m).2.2=false:=by simpa using hr
    show (cond (!(getG d m).2.2) _ _:Option GetR)=some (getG d m)
    rw [hr,Bool.not_false,cond_true,getG_no hr]
    exact bind_of (i_copyENode_eq hf.small) rfl
end Go.Proofs.SL
