/- The texts of the proof, part 2: the base, walks of functions, plain Lean. -/
import Derived.Test.YthlbpedehajlgaaGreatT1
namespace Go.Proofs.SL
open Go
abbrev Rel:=Value→List HP→Prop
abbrev Fl:=List (Nat×Rel)
def FC (c:Prop) (x:Value):Rel:=fun v M=>M=[]∧(c→v=x)∧(¬ c→v=undef)
def ons (o:Oper):List Nat:=(o.after.toList.filter (Region.binds .any)).map (·.on)
def dagB (n:Nat) (ops:Array Oper):Bool :=
 (List.range ops.size).all fun i =>
  match ops[i]? with
  | none=>false
  | some oi =>
   (ons oi).all (fun j=>decide (j < i)) &&
   (match oi.dst with | some d=>decide (d < n) | none=>true) &&
   (List.range ops.size).all fun j =>
    j == i ||
    match ops[j]? with
    | none=>false
    | some oj =>
     match oj.dst with
     | none=>true
     | some t=>oi.dst != some t&&(!(oi.looksAt ops).contains t||(if j < i then (ons oi).contains j else (ons oj).contains i))
structure DagOK (n:Nat) (ops:Array Oper):Prop where
 before:∀ (i:Nat) (oi:Oper),ops[i]?=some oi→∀ j,j∈ons oi→j < i
 small:∀ (i:Nat) (oi:Oper) (d:Nat),ops[i]?=some oi→oi.dst=some d→d < n
 uniq:∀ (i j:Nat) (oi oj:Oper) (t:Nat),i≠j→ops[i]?=some oi→ops[j]?=some oj→oj.dst=some t→oi.dst≠some t
 look:∀ (i j:Nat) (oi oj:Oper) (t:Nat),i≠j→ops[i]?=some oi→ops[j]?=some oj→oj.dst=some t→t∈oi.looksAt ops→(j < i∧j∈ons oi)∨(i < j∧i∈ons oj)
theorem dagB_ok {n:Nat} {ops:Array Oper} (h:dagB n ops=true):DagOK n ops:=by
 have key:∀ i oi,ops[i]?=some oi→(ons oi).all (fun j=>decide (j < i))=true∧(match oi.dst with | some d=>decide (d < n) | none=>true)=true ∧
   ∀ j oj,ops[j]?=some oj→j≠i→∀ t,oj.dst=some t→oi.dst≠some t∧(t∈oi.looksAt ops→if j < i then j∈ons oi else i∈ons oj):=by
  intro i oi hi
  have hlt:=(Array.getElem?_eq_some_iff.1 hi).1
  have h1:=List.all_eq_true.1 h i (List.mem_range.2 hlt)
  simp only [hi,Bool.and_eq_true] at h1
  refine ⟨h1.1.1,h1.1.2,fun j oj hj hne t ht=>?_⟩
  have hltj:=(Array.getElem?_eq_some_iff.1 hj).1
  have h2:=List.all_eq_true.1 h1.2 j (List.mem_range.2 hltj)
  simp only [hj,ht,Bool.or_eq_true,beq_iff_eq,hne,false_or,Bool.and_eq_true,bne_iff_ne,Bool.not_eq_true',List.contains_eq_mem,decide_eq_false_iff_not] at h2
  refine ⟨h2.1,fun hm=>?_⟩
  have h3:=h2.2.resolve_left (fun h=>h hm)
  by_cases hji:j < i
  ·rw [if_pos hji] at h3 ⊢;simpa using h3
  ·rw [if_neg hji] at h3 ⊢;simpa using h3
 refine ⟨fun i oi hi j hj=>?_,fun i oi d hi hd=>?_,fun i j oi oj t hne hi hj ht=>((key i oi hi).2.2 j oj hj (Ne.symm hne) t ht).1,fun i j oi oj t hne hi hj ht hm=>?_⟩
 ·have:=List.all_eq_true.1 (key i oi hi).1 j hj;simpa using this
 ·have:=(key i oi hi).2.1;simp only [hd,decide_eq_true_eq] at this;exact this
 ·have:=((key i oi hi).2.2 j oj hj (Ne.symm hne) t ht).2 hm
  split at this
  ·exact .inl ⟨‹_›,this⟩
  ·exact .inr ⟨by omega,this⟩
def Yl (Γ:Cx) (dst:Option Nat) (F:List HP) (R:Rel):Result Next→Prop
 | .ok (.value v) w'=>∃ Mr,R (dst.elim undef fun _=>v) Mr∧Holds Γ.w0 Γ.S0 (Mr++F) w'
 | .ok .skip w'=>∃ Mr,R undef Mr∧Holds Γ.w0 Γ.S0 (Mr++F) w'
 | .ok (.enter f args) w'=>Calls Γ.P f args w' fun e w''=>∃ v Mr,e=.returned v∧R (dst.elim undef fun _=>v) Mr∧Holds Γ.w0 Γ.S0 (Mr++F) w''
 | _=>False
def Facts (E:Fl) (ts:List Nat) (F:List HP) (a:Act):Prop:=∀ t R,t∈ts→E.lookup t=some R→∃ M,R (a.tmps.getD t undef) M∧∀ h,h∈M→h∈F
def ConsF (E:Fl) (a:Act):List Nat→List HP→Prop
 | [],Mk=>Mk=[]
 | t::ts,Mk=>∃ M Mk',Mk=M++Mk'∧(∀ R,E.lookup t=some R→R (a.tmps.getD t undef) M)∧ConsF E a ts Mk'
def wk (R:Rel):Rel:=fun v M=>M=[]∧∃ M',R v M'
def dropE (cons:List Nat):Fl→Fl
 | []=>[]
 | (t,R)::E=>match cons.elem t with
  | true=>(t,wk R)::dropE cons E
  | false=>(t,R)::dropE cons E
def WkOf (R0 R:Rel):Prop:=∀ v,(∃ M,R0 v M)→R v []
def StepA (Γ:Cx) (ops:Array Oper) (Msh:List HP) (E:Fl) (cons:List Nat) (o:Oper) (Mc:List HP) (Ra:Act→Rel):Prop :=
 ∀ a w F Mk,a.tmps.size=Γ.n→a.defers=[]→Holds Γ.w0 Γ.S0 (Mc++(Mk++F)) w→(∀ h,h∈Msh→h∈F)→Facts (dropE cons E) (o.looksAt ops) F a→ConsF E a cons Mk →
  if Region.wanted o (yielded ops a.tmps) then Yl Γ o.dst F (Ra a) ((execOp a.eval o).run Γ.P w) else Ra a undef (Mc++Mk)
abbrev StepOK (Γ:Cx) (ops:Array Oper) (Msh:List HP) (E:Fl) (cons:List Nat) (o:Oper) (Mc:List HP) (R:Rel):Prop:=StepA Γ ops Msh E cons o Mc fun _=>R
def keyA (d k:Option Nat) (R:Rel):Act→Rel:=fun a v M=>match d,k with
 | none,some t=>R (a.tmps.getD t undef) M
 | _,_=>R v M
def KeyOK (d:Option Nat) (C:List Nat) (k:Option Nat) (ck:List Nat):Prop:=(k=d∧ck=C)∨(d=none∧∃ t,C=t::ck∧k=some t)
def pushF (o:Oper) (R:Rel) (E:Fl):Fl:=match o.dst with | some d=>(d,R)::E | none=>E
def linB (ops:Array Oper) (o:Oper) (cons:List Nat):Bool :=
 cons.all fun t=>(o.looksAt ops).contains t&&((ops.toList.filter fun o'=>(o'.looksAt ops).contains t).length == 1||(o.dst.isSome&&(ops.toList.find? fun o'=>(o'.looksAt ops).contains t).bind (·.dst) == o.dst))&&(cons.filter (· == t)).length == 1&&(ons o).any fun j=>(ops[j]?).bind (·.dst) == some t
abbrev RKont:=List (Option Nat×Rel)→List Nat→List HP→Prop
def DV (Γ:Cx) (ops:Array Oper) (Msh:List HP):(pool:List HP)→(E:Fl)→(rs:List (Option Nat×Rel))→(cs:List Nat)→List Oper→(K:RKont)→Prop
 | pool,_,rs,cs,[],K=>K rs cs pool
 | pool,E,rs,cs,o::rest,K=>∃ R Mc pool' cons k ck,List.Perm pool (Mc++pool')∧linB ops o cons=true∧KeyOK o.dst cons k ck∧StepA Γ ops Msh E cons o Mc (keyA o.dst k R)∧DV Γ ops Msh pool' (pushF o R (dropE cons E)) ((k,R)::rs) (ck++cs) rest K
theorem keyA_self {d:Option Nat} {R:Rel}:keyA d d R=fun _=>R:=by
 cases d<;>rfl
theorem DV.mk {Γ:Cx} {ops:Array Oper} {Msh pool:List HP} {E:Fl} {rs:List (Option Nat×Rel)} {cs:List Nat} {o:Oper} {rest:List Oper} {K:RKont} (R:Rel) (Mc pool':List HP) (cons:List Nat) (h1:List.Perm pool (Mc++pool')) (h2:linB ops o cons=true)
  (h3:StepOK Γ ops Msh E cons o Mc R) (h4:DV Γ ops Msh pool' (pushF o R (dropE cons E)) ((o.dst,R)::rs) (cons++cs) rest K):DV Γ ops Msh pool E rs cs (o::rest) K :=
 ⟨R,Mc,pool',cons,o.dst,cons,h1,h2,.inl ⟨rfl,rfl⟩,by rw [keyA_self];exact h3,h4⟩
theorem DV.mkK {Γ:Cx} {ops:Array Oper} {Msh pool:List HP} {E:Fl} {rs:List (Option Nat×Rel)} {cs:List Nat} {o:Oper} {rest:List Oper} {K:RKont} (R:Rel) (Mc pool':List HP) (t:Nat) (cons:List Nat) (hd:o.dst=none) (h1:List.Perm pool (Mc++pool')) (h2:linB ops o (t::cons)=true)
  (h3:StepA Γ ops Msh E (t::cons) o Mc (fun a _ M=>R (a.tmps.getD t undef) M)) (h4:DV Γ ops Msh pool' (dropE (t::cons) E) ((some t,R)::rs) (cons++cs) rest K):DV Γ ops Msh pool E rs cs (o::rest) K :=
 ⟨R,Mc,pool',t::cons,some t,cons,h1,h2,.inr ⟨hd,t,rfl,rfl⟩,by rw [hd];exact h3,by unfold pushF;rw [hd];exact h4⟩
def initE (l:Envl):Fl:=l.map fun p=>(p.1,FC True p.2)
theorem lookup_initE (l:Envl) (t:Nat) (R:Rel) (h:(initE l).lookup t=some R):∃ v,l.lookup t=some v∧R=FC True v:=by
 induction l with
 | nil=>simp [initE] at h
 | cons p l ih =>
  obtain ⟨s,u⟩:=p
  simp only [initE,List.map_cons,List.lookup_cons] at h ⊢
  cases hs:t == s with
  | true=>rw [hs] at h;cases h;exact ⟨_,rfl,rfl⟩
  | false=>rw [hs] at h;exact ih h
theorem lookup_dropE (cons:List Nat) (E:Fl) (t:Nat) (R:Rel) (h:(dropE cons E).lookup t=some R):∃ R0,E.lookup t=some R0∧((t ∉ cons∧R=R0)∨(t∈cons∧R=wk R0)):=by
 induction E with
 | nil=>simp [dropE] at h
 | cons p E ih =>
  obtain ⟨s,u⟩:=p
  simp only [dropE] at h
  simp only [List.lookup_cons]
  cases he:t == s with
  | true =>
   simp only [beq_iff_eq] at he;subst he
   refine ⟨u,rfl,?_⟩
   split at h
   ·rename_i hs
    simp only [List.lookup_cons,beq_self_eq_true] at h
    cases h
    exact .inr ⟨List.mem_of_elem_eq_true hs,rfl⟩
   ·rename_i hs
    simp only [List.lookup_cons,beq_self_eq_true] at h
    cases h
    refine .inl ⟨fun hm=>?_,rfl⟩
    rw [List.elem_eq_true_of_mem hm] at hs;cases hs
  | false =>
   refine ih ?_
   split at h<;>(simp only [List.lookup_cons,he] at h;exact h)
def rmN (t:Nat) (ts:List Nat):List Nat:=ts.filter fun x=>!(x == t)
theorem mem_rmN {t x:Nat} {ts:List Nat}:x∈rmN t ts↔x∈ts∧x≠t:=by
 unfold rmN;rw [List.mem_filter];simp
def Give (ts:List Nat) (cs:List Nat):List (Option Nat×Rel)→Envl→List HP→Kont→Prop
 | [],l,M,K=>K l M
 | (some t,R)::rs,l,M,K=>match cs.elem t with
  | true=>Give ts cs rs l M K
  | false=>match ts.elem t with
   | true=>∀ v Mr,R v Mr→Give (rmN t ts) cs rs ((t,v)::l) (Mr++M) K
   | false=>Give ts cs rs l M K
 | (none,R)::rs,l,M,K=>∀ Mr,R undef Mr→Give ts cs rs l (Mr++M) K
def Efrom (E:Fl):List Oper→List Rel→List (List Nat)→Nat→Fl
 | o::os,R::Rs,C::Cs,i+1=>Efrom (pushF o R (dropE C E)) os Rs Cs i
 | _,_,_,_=>E
theorem lookup_pushF {o:Oper} {R R':Rel} {E:Fl} {t:Nat} (h:(pushF o R E).lookup t=some R'):(o.dst=some t∧R'=R)∨(o.dst≠some t∧E.lookup t=some R'):=by
 unfold pushF at h
 split at h
 ·rename_i d hd
  simp only [List.lookup_cons] at h
  cases he:t == d with
  | true=>rw [he] at h;simp only [beq_iff_eq] at he;subst he;cases h;exact .inl ⟨hd,rfl⟩
  | false=>rw [he] at h;refine .inr ⟨?_,h⟩;rw [hd];intro e;cases e;simp at he
 ·rename_i hd;exact .inr ⟨(by rw [hd];intro e;cases e),h⟩
theorem lookup_Efrom:∀ (os:List Oper) (Rs:List Rel) (Cs:List (List Nat)) (E:Fl) (i t:Nat) (R:Rel),os.length=Rs.length→os.length=Cs.length→i≤os.length→(Efrom E os Rs Cs i).lookup t=some R →
  (∃ j o R0,j < i∧os[j]?=some o∧o.dst=some t∧Rs[j]?=some R0∧((R=R0∧∀ k C,j < k→k < i→Cs[k]?=some C→t ∉ C)∨((∃ k C,j < k∧k < i∧Cs[k]?=some C∧t∈C)∧WkOf R0 R))) ∨
   ((∀ j o,j < i→os[j]?=some o→o.dst≠some t)∧∃ R0,E.lookup t=some R0∧((R=R0∧∀ k C,k < i→Cs[k]?=some C→t ∉ C)∨((∃ k C,k < i∧Cs[k]?=some C∧t∈C)∧WkOf R0 R)))
 | _,_,_,E,0,t,R,_,_,_,h=>by
  have:E.lookup t=some R:=by simpa [Efrom] using h
  exact .inr ⟨fun j o hj=>by omega,R,this,.inl ⟨rfl,fun k C hk=>by omega⟩⟩
 | [],_,_,E,i+1,t,R,_,_,hi,h=>by simp at hi
 | o::os,[],_,E,i+1,t,R,hl,_,_,_=>by simp at hl
 | o::os,_,[],E,i+1,t,R,_,hl,_,_=>by simp at hl
 | o::os,R0::Rs,C::Cs,E,i+1,t,R,hl,hl2,hi,h=>by
  simp only [Efrom] at h
  rcases lookup_Efrom os Rs Cs _ i t R (by simpa using hl) (by simpa using hl2) (by simpa using hi) h with ⟨j,o',R1,hj,h1,h2,h3,h4⟩ | ⟨h1,R1,h2,h4⟩
  ·refine .inl ⟨j+1,o',R1,by omega,by simpa using h1,h2,by simpa using h3,?_⟩
   rcases h4 with ⟨h5,h6⟩ | ⟨⟨k,C',h5,h6,h7,h8⟩,h9⟩
   ·refine .inl ⟨h5,fun k C' hk hk2 hC=>?_⟩
    obtain ⟨k',rfl⟩:∃ k',k=k'+1:=⟨k - 1,by omega⟩
    exact h6 k' C' (by omega) (by omega) (by simpa using hC)
   ·exact .inr ⟨⟨k+1,C',by omega,by omega,by simpa using h7,h8⟩,h9⟩
  ·rcases lookup_pushF h2 with ⟨h3,h5⟩ | ⟨h3,h5⟩
   ·subst h5
    refine .inl ⟨0,o,R1,by omega,by simp,h3,by simp,?_⟩
    rcases h4 with ⟨h5,h6⟩ | ⟨⟨k,C',h6,h7,h8⟩,h9⟩
    ·refine .inl ⟨h5,fun k C' hk hk2 hC=>?_⟩
     obtain ⟨k',rfl⟩:∃ k',k=k'+1:=⟨k - 1,by omega⟩
     exact h6 k' C' (by omega) (by simpa using hC)
    ·exact .inr ⟨⟨k+1,C',by omega,by omega,by simpa using h7,h8⟩,h9⟩
   ·refine .inr ⟨fun j o' hj ho'=>?_,?_⟩
    ·cases j with
     | zero=>simp at ho';subst ho';exact h3
     | succ j=>exact h1 j o' (by omega) (by simpa using ho')
    ·obtain ⟨R2,h6,h7⟩:=lookup_dropE _ _ _ _ h5
     refine ⟨R2,h6,?_⟩
     rcases h7 with ⟨h7,rfl⟩ | ⟨h7,rfl⟩
     ·rcases h4 with ⟨h8,h9⟩ | ⟨⟨k,C',h8,h9,h10⟩,h11⟩
      ·refine .inl ⟨h8,fun k C' hk hC=>?_⟩
       cases k with
       | zero=>simp at hC;subst hC;exact h7
       | succ k=>exact h9 k C' (by omega) (by simpa using hC)
      ·exact .inr ⟨⟨k+1,C',by omega,by simpa using h9,h10⟩,h11⟩
     ·refine .inr ⟨⟨0,C,by omega,by simp,h7⟩,?_⟩
      rcases h4 with ⟨rfl,_⟩ | ⟨_,h11⟩
      ·exact fun v hv=>⟨rfl,hv⟩
      ·exact fun v hv=>h11 v ⟨[],rfl,hv⟩
theorem DV_parts {Γ:Cx} {ops:Array Oper} {Msh:List HP} {K:RKont}:∀ (rest:List Oper) (pool:List HP) (E:Fl) (rs:List (Option Nat×Rel)) (cs:List Nat),DV Γ ops Msh pool E rs cs rest K →
  ∃ (Rs:List Rel) (Mcs:List (List HP)) (Cs:List (List Nat)) (Ks:List (Option Nat)) (CKs:List (List Nat)) (pool':List HP),Rs.length=rest.length∧Mcs.length=rest.length∧Cs.length=rest.length∧Ks.length=rest.length∧CKs.length=rest.length∧List.Perm pool (Mcs.flatten++pool') ∧
   (∀ i o R Mc C k ck,rest[i]?=some o→Rs[i]?=some R→Mcs[i]?=some Mc→Cs[i]?=some C→Ks[i]?=some k→CKs[i]?=some ck→linB ops o C=true∧KeyOK o.dst C k ck∧StepA Γ ops Msh (Efrom E rest Rs Cs i) C o Mc (keyA o.dst k R)) ∧
   K ((List.zipWith (fun k R=>(k,R)) Ks Rs).reverse++rs) (CKs.reverse.flatten++cs) pool'
 | [],pool,E,rs,cs,h=>⟨[],[],[],[],[],pool,rfl,rfl,rfl,rfl,rfl,by simp,fun i o R Mc C k ck hi=>by simp at hi,by simpa [DV] using h⟩
 | o::rest,pool,E,rs,cs,h=>by
  obtain ⟨R,Mc,pool',C,k,ck,hp,hlin,hk,hs,hd⟩:=h
  obtain ⟨Rs,Mcs,Cs,Ks,CKs,pool'',h1,h2,h2',h2k,h2c,h3,h4,h5⟩:=DV_parts rest pool' _ _ _ hd
  refine ⟨R::Rs,Mc::Mcs,C::Cs,k::Ks,ck::CKs,pool'',by simp [h1],by simp [h2],by simp [h2'],by simp [h2k],by simp [h2c],?_,fun i o' R' Mc' C' k' ck' hi hR hM hC hK hCK=>?_,by simpa using h5⟩
  ·simp only [List.flatten_cons,List.append_assoc]
   exact hp.trans (h3.append_left Mc)
  ·cases i with
   | zero=>simp at hi hR hM hC hK hCK;subst hi;subst hR;subst hM;subst hC;subst hK;subst hCK;exact ⟨hlin,hk,by simpa [Efrom] using hs⟩
   | succ i=>simpa [Efrom] using h4 i o' R' Mc' C' k' ck' (by simpa using hi) (by simpa using hR) (by simpa using hM) (by simpa using hC) (by simpa using hK) (by simpa using hCK)
theorem getD_set {listed:Array Bool} {i j:Nat} (d:Bool) (hi:i < listed.size):(listed.setIfInBounds i true).getD j d=if j=i then true else listed.getD j d:=by
 by_cases h:j=i
 ·subst h;simp [Array.getD_eq_getD_getElem?,hi]
 ·rw [if_neg h,getD_set_ne d (Ne.symm h)]
theorem perm_filter_out {α:Type} [DecidableEq α] (A B:List α) (hA:A.Nodup) (hB:B.Nodup) (hs:∀ x,x∈A→x∈B):List.Perm B (A++B.filter fun x=>!A.elem x):=by
 refine List.perm_iff_count.2 fun x=>?_
 rw [List.count_append]
 by_cases hx:x∈A
 ·have h1:List.count x B=1:=hB.count.trans (by rw [if_pos (hs x hx)])
  have h2:List.count x A=1:=hA.count.trans (by rw [if_pos hx])
  have h3:List.count x (B.filter fun x=>!A.elem x)=0:=List.count_eq_zero.2 fun hm=>by
   have:=(List.mem_filter.1 hm).2
   rw [List.elem_eq_true_of_mem hx] at this;cases this
  omega
 ·have h2:List.count x A=0:=List.count_eq_zero.2 hx
  have h3:List.count x (B.filter fun x=>!A.elem x)=List.count x B:=by
   rw [List.count_filter]
   have:A.elem x=false:=by
    cases he:A.elem x with
    | true=>exact (hx (List.mem_of_elem_eq_true he)).elim
    | false=>rfl
   rw [this];rfl
  omega
def czd (ops:Array Oper) (m:Nat) (Cf:Nat→List Nat) (listed:Array Bool) (j:Nat):Bool :=
 match (ops[j]?).bind (·.dst) with
 | some t=>(List.range m).any fun k=>listed.getD k false&&(Cf k).elem t
 | none=>false
def kv (a:Act):Option Nat→Value
 | some d=>a.tmps.getD d undef
 | none=>undef
theorem keyA_kv {d k:Option Nat} {R:Rel} {a:Act} {v:Value} {M:List HP} (hk:k=d∨(d=none∧∃ t,k=some t)) (hd:∀ t,d=some t→t < a.tmps.size) (h:keyA d k R a (d.elim undef fun _=>v) M):R (kv (a.put d v) k) M:=by
 rcases hk with rfl | ⟨rfl,t,rfl⟩
 ·rw [keyA_self] at h
  cases k with
  | none=>exact h
  | some t =>
   have:=hd t rfl
   simp only [kv,Act.put,Array.getD_eq_getD_getElem?]
   rw [Array.getElem?_setIfInBounds_self_of_lt this];exact h
 ·exact h
structure DInv (Γ:Cx) (ops:Array Oper) (m:Nat) (Msh pool:List HP) (l:Envl) (Rf:Nat→Rel) (Mc:Nat→List HP) (Cf:Nat→List Nat) (Kf:Nat→Option Nat) (fuel:Nat) (listed:Array Bool) (a:Act) (w:World):Prop where
 lsize:listed.size=ops.size
 count:((List.range m).filter fun i=>!listed.getD i true).length=fuel
 suff:∀ (j:Nat),m≤j→listed.getD j false=false
 size:a.tmps.size=Γ.n
 defers:a.defers=[]
 closed:∀ (i:Nat) (oi:Oper),ops[i]?=some oi→listed.getD i false=true→∀ j,j∈ons oi→listed.getD j false=true
 env:∀ t v,l.lookup t=some v→(∀ (i:Nat) (oi:Oper),ops[i]?=some oi→listed.getD i false=true→oi.dst≠some t)→a.tmps[t]?=some v
 mem:∃ Mr:Nat→List HP,Holds Γ.w0 Γ.S0 (((List.range m).flatMap fun i=>if listed.getD i false then (if czd ops m Cf listed i then [] else Mr i) else Mc i)++(Msh++pool)) w ∧
  ∀ (i:Nat) (oi:Oper),ops[i]?=some oi→listed.getD i false=true→Rf i (kv a (Kf i)) (Mr i)
structure LinOK (ops:Array Oper) (m:Nat) (Cf:Nat→List Nat) (Kf:Nat→Option Nat):Prop where
 look:∀ (i:Nat) (oi:Oper) (t:Nat),i < m→ops[i]?=some oi→t∈Cf i→t∈oi.looksAt ops
 first:∀ (i j:Nat) (oi oj:Oper) (t:Nat),i < m→ops[i]?=some oi→ops[j]?=some oj→t∈Cf i→t∈oj.looksAt ops→i≤j
 nodup:∀ (i:Nat),i < m→(Cf i).Nodup
 writer:∀ (i:Nat) (oi:Oper) (t:Nat),i < m→ops[i]?=some oi→t∈Cf i→∃ j,j∈ons oi∧(ops[j]?).bind (·.dst)=some t
 key:∀ (i:Nat) (oi:Oper),i < m→ops[i]?=some oi→Kf i=oi.dst∨(oi.dst=none∧∃ t,Kf i=some t∧t∈Cf i)
theorem find_first {α:Type} (p:α→Bool):∀ (l:List α) (x:α),l.find? p=some x→∃ k:Nat,l[k]?=some x∧∀ (j:Nat) (y:α),l[j]?=some y→p y=true→k≤j
 | [],x,h=>by simp at h
 | a::l,x,h=>by
  cases hp:p a with
  | true=>rw [List.find?_cons_of_pos hp] at h;cases h;exact ⟨0,rfl,fun j y _ _=>Nat.zero_le _⟩
  | false =>
   rw [List.find?_cons_of_neg (by simp [hp])] at h
   obtain ⟨k,h1,h2⟩:=find_first p l x h
   refine ⟨k+1,by simpa using h1,fun j y hj hy=>?_⟩
   cases j with
   | zero=>simp at hj;subst hj;rw [hp] at hy;cases hy
   | succ j=>exact Nat.succ_le_succ (h2 j y (by simpa using hj) hy)
theorem filter_one {α:Type} (p:α→Bool):∀ (l:List α) (i j:Nat) (x y:α),(l.filter p).length=1→l[i]?=some x→l[j]?=some y→p x=true→p y=true→j=i
 | [],i,j,x,y,_,hi,_,_,_=>by simp at hi
 | z::l,0,0,x,y,_,_,_,_,_=>rfl
 | z::l,0,j+1,x,y,h,hi,hj,hx,hy=>by
  simp at hi hj;subst hi
  rw [List.filter_cons,if_pos hx,List.length_cons] at h
  have:y∈l.filter p:=List.mem_filter.2 ⟨List.mem_of_getElem? hj,hy⟩
  have h0:l.filter p=[]:=List.eq_nil_of_length_eq_zero (by omega)
  rw [h0] at this;cases this
 | z::l,i+1,0,x,y,h,hi,hj,hx,hy=>by
  simp at hi hj;subst hj
  rw [List.filter_cons,if_pos hy,List.length_cons] at h
  have:x∈l.filter p:=List.mem_filter.2 ⟨List.mem_of_getElem? hi,hx⟩
  have h0:l.filter p=[]:=List.eq_nil_of_length_eq_zero (by omega)
  rw [h0] at this;cases this
 | z::l,i+1,j+1,x,y,h,hi,hj,hx,hy=>by
  simp only [List.getElem?_cons_succ] at hi hj
  rw [List.filter_cons] at h
  split at h
  ·have:x∈l.filter p:=List.mem_filter.2 ⟨List.mem_of_getElem? hi,hx⟩
   have h0:l.filter p=[]:=List.eq_nil_of_length_eq_zero (by simpa using h)
   rw [h0] at this;cases this
  ·rw [filter_one p l i j x y h hi hj hx hy]
theorem nodup_of_counts (l:List Nat) (h:(l.all fun t=>(l.filter (· == t)).length == 1)=true):l.Nodup:=by
 refine List.nodup_iff_count.2 fun t=>?_
 by_cases ht:t∈l
 ·have:=List.all_eq_true.1 h t ht
  simp only [beq_iff_eq] at this
  rw [List.count_eq_length_filter];omega
 ·rw [List.count_eq_zero.2 ht];omega
theorem linB_ok {n:Nat} {ops:Array Oper} {m:Nat} {Cs:List (List Nat)} {Ks:List (Option Nat)} (hd:DagOK n ops) (hm:m≤ops.size) (hC:Cs.length=m) (hK:Ks.length=m) (h:∀ i o C,i < m→ops[i]?=some o→Cs[i]?=some C→linB ops o C=true)
  (hk:∀ i o C k,i < m→ops[i]?=some o→Cs[i]?=some C→Ks[i]?=some k→∃ ck,KeyOK o.dst C k ck) :
  LinOK ops m (fun i=>Cs.getD i []) (fun i=>Ks.getD i none):=by
 have key:∀ (i:Nat) (oi:Oper),i < m→ops[i]?=some oi→linB ops oi (Cs.getD i [])=true:=fun i oi hi ho=>by
  have:Cs[i]?=some Cs[i]:=List.getElem?_eq_getElem (by omega)
  have h1:=h i oi _ hi ho this
  simpa [List.getD_eq_getElem?_getD,this] using h1
 refine ⟨fun i oi t hi ho ht=>?_,fun i j oi oj t hi ho hj ht hl=>?_,fun i hi=>?_,fun i oi t hi ho ht=>?_,fun i oi hi ho=>?_⟩
 ·have:=List.all_eq_true.1 (key i oi hi ho) t ht
  simp only [Bool.and_eq_true,List.contains_eq_mem,decide_eq_true_eq] at this
  exact this.1.1.1
 ·have:=List.all_eq_true.1 (key i oi hi ho) t ht
  simp only [Bool.and_eq_true,Bool.or_eq_true,List.contains_eq_mem,decide_eq_true_eq,beq_iff_eq] at this
  rcases this.1.1.2 with h1 | ⟨h1,h2⟩
  ·exact Nat.le_of_eq (filter_one (fun o'=>decide (t∈o'.looksAt ops)) ops.toList i j oi oj h1 (by simpa using ho) (by simpa using hj) (by simpa using this.1.1.1) (by simpa using hl)).symm
  ·cases hf:ops.toList.find? (fun o'=>decide (t∈o'.looksAt ops)) with
   | none=>rw [hf] at h2;rw [← h2] at h1;cases h1
   | some of =>
    rw [hf] at h2
    obtain ⟨k,h3,h4⟩:=find_first _ _ _ hf
    have h3':ops[k]?=some of:=by simpa using h3
    obtain ⟨d,hdd⟩:=Option.isSome_iff_exists.1 h1
    have hki:k=i:=by
     rcases Nat.decEq k i with hne | he
     ·exact (hd.uniq k i of oi d hne h3' ho hdd (by rw [← hdd,← h2];rfl)).elim
     ·exact he
    subst hki
    exact h4 j oj (by simpa using hj) (by simpa using hl)
 ·have hlt:i < ops.size:=by omega
  have h1:=key i _ hi (Array.getElem?_eq_getElem hlt)
  refine nodup_of_counts _ (List.all_eq_true.2 fun t ht=>?_)
  have:=List.all_eq_true.1 h1 t ht
  simp only [Bool.and_eq_true] at this
  exact this.1.2
 ·have:=List.all_eq_true.1 (key i oi hi ho) t ht
  simp only [Bool.and_eq_true] at this
  obtain ⟨j,h1,h2⟩:=List.any_eq_true.1 this.2
  exact ⟨j,h1,by simpa using h2⟩
 ·have e1:Cs[i]?=some Cs[i]:=List.getElem?_eq_getElem (by omega)
  have e2:Ks[i]?=some Ks[i]:=List.getElem?_eq_getElem (by omega)
  obtain ⟨ck,h1⟩:=hk i oi _ _ hi ho e1 e2
  simp only [List.getD_eq_getElem?_getD,e1,e2,Option.getD_some]
  rcases h1 with ⟨h1,_⟩ | ⟨h1,t,h2,h3⟩
  ·exact .inl h1
  ·exact .inr ⟨h1,t,h3,by rw [h2];exact List.mem_cons_self ..⟩
theorem elem_iff {t:Nat} {l:List Nat}:l.elem t=true↔t∈l:=⟨List.mem_of_elem_eq_true,List.elem_eq_true_of_mem⟩
theorem czd_set {ops:Array Oper} {m:Nat} {Cf:Nat→List Nat} {listed:Array Bool} {i j:Nat} (hi:i < listed.size) (him:i < m) :
  czd ops m Cf (listed.setIfInBounds i true) j=(czd ops m Cf listed j||match (ops[j]?).bind (·.dst) with | some t=>(Cf i).elem t | none=>false):=by
 unfold czd
 cases hj:(ops[j]?).bind (·.dst) with
 | none=>rfl
 | some t =>
  simp only []
  rw [Bool.eq_iff_iff]
  simp only [List.any_eq_true,List.mem_range,Bool.and_eq_true,Bool.or_eq_true]
  constructor
  ·rintro ⟨k,hk,h1,h2⟩
   rw [getD_set false hi] at h1
   by_cases hki:k=i
   ·subst hki;exact .inr h2
   ·rw [if_neg hki] at h1;exact .inl ⟨k,hk,h1,h2⟩
  ·rintro (⟨k,hk,h1,h2⟩ | h2)
   ·refine ⟨k,hk,?_,h2⟩
    rw [getD_set false hi];split<;>simp_all
   ·exact ⟨i,him,by rw [getD_set false hi,if_pos rfl],h2⟩
def wrs (ops:Array Oper) (m:Nat) (C:List Nat):List Nat:=C.filterMap fun t=>(List.range m).find? fun j=>(ops[j]?).bind (·.dst) == some t
theorem mem_wrs {ops:Array Oper} {m:Nat} {C:List Nat} {j:Nat} (h:j∈wrs ops m C):∃ t,t∈C∧j < m∧(ops[j]?).bind (·.dst)=some t:=by
 obtain ⟨t,h1,h2⟩:=List.mem_filterMap.1 h
 have h3:=List.find?_some h2
 have h4:=List.mem_of_find?_eq_some h2
 exact ⟨t,h1,List.mem_range.1 h4,by simpa using h3⟩
theorem wrs_nodup {n:Nat} {ops:Array Oper} {m:Nat} (hd:DagOK n ops):∀ (C:List Nat),C.Nodup→(wrs ops m C).Nodup
 | [],_=>by simp [wrs]
 | t::C,h=>by
  obtain ⟨h1,h2⟩:=List.nodup_cons.1 h
  have ih:=wrs_nodup (m:=m) hd C h2
  unfold wrs at ih ⊢
  rw [List.filterMap_cons]
  split
  ·exact ih
  ·rename_i j hj
   refine List.nodup_cons.2 ⟨fun hm=>?_,ih⟩
   obtain ⟨t',h3,_,h5⟩:=mem_wrs (ops:=ops) (m:=m) (C:=C) hm
   have h6:=List.find?_some hj
   simp only [beq_iff_eq] at h6
   rw [h5] at h6;cases h6
   exact h1 h3
theorem wrs_covers {n:Nat} {ops:Array Oper} {m:Nat} {C:List Nat} {j t:Nat} {oj:Oper} (hd:DagOK n ops) (hj:j < m) (hoj:ops[j]?=some oj) (hdst:oj.dst=some t) (ht:t∈C):j∈wrs ops m C:=by
 refine List.mem_filterMap.2 ⟨t,ht,?_⟩
 cases hf:(List.range m).find? (fun j=>(ops[j]?).bind (·.dst) == some t) with
 | none =>
  have:=List.find?_eq_none.1 hf j (List.mem_range.2 hj)
  simp [hoj,hdst] at this
 | some k =>
  have h6:=List.find?_some hf
  simp only [beq_iff_eq] at h6
  by_cases hkj:k=j
  ·rw [hkj]
  ·cases hk:ops[k]? with
   | none=>rw [hk] at h6;simp at h6
   | some ok =>
    rw [hk] at h6
    exact (hd.uniq k j ok oj t hkj hk hoj hdst (by simpa using h6)).elim
theorem DInv.step {Γ:Cx} {ops:Array Oper} {m:Nat} {Msh pool:List HP} {l:Envl} {Rf:Nat→Rel} {Mc:Nat→List HP} {Cf:Nat→List Nat} {Kf:Nat→Option Nat} {fuel:Nat} {listed:Array Bool} {a:Act} {w w':World}
  (hd:DagOK Γ.n ops) (hlin:LinOK ops m Cf Kf) (h:DInv Γ ops m Msh pool l Rf Mc Cf Kf (fuel+1) listed a w) {i:Nat} {oi:Oper} (hi:ops[i]?=some oi) (him:i < m) (hun:listed.getD i true=false)
  (hall:∀ j,j∈ons oi→listed.getD j false=true) {Mr:Nat→List HP} {v:Value} {Mi:List HP}
  (hM:Holds Γ.w0 Γ.S0 (Mi++((((List.range m).filter fun x=>!(i::wrs ops m (Cf i)).elem x).flatMap fun i=>if listed.getD i false then (if czd ops m Cf listed i then [] else Mr i) else Mc i)++(Msh++pool))) w')
  (hold:∀ (i:Nat) (oi:Oper),ops[i]?=some oi→listed.getD i false=true→Rf i (kv a (Kf i)) (Mr i))
  (hR:Rf i (kv (a.put oi.dst v) (Kf i)) Mi):DInv Γ ops m Msh pool l Rf Mc Cf Kf fuel (listed.setIfInBounds i true) (a.put oi.dst v) w':=by
 have hlt:i < ops.size:=(Array.getElem?_eq_some_iff.1 hi).1
 have hls:i < listed.size:=by rw [h.lsize];exact hlt
 have hput:∀ t,oi.dst≠some t→(a.put oi.dst v).tmps[t]?=a.tmps[t]?:=by
  intro t ht
  cases hdst:oi.dst with
  | none=>rfl
  | some d =>
   have:d≠t:=fun e=>ht (by rw [hdst,e])
   simp only [Act.put]
   rw [Array.getElem?_setIfInBounds_ne this]
 have hnotw:i ∉ wrs ops m (Cf i):=fun hm=>by
  obtain ⟨t,h1,h2,h3⟩:=mem_wrs hm
  simp only [hi,Option.bind_some] at h3
  obtain ⟨j,h4,h5⟩:=hlin.writer i oi t him hi h1
  have hji:=hd.before i oi hi j h4
  cases hj:ops[j]? with
  | none=>rw [hj] at h5;simp at h5
  | some oj=>rw [hj] at h5;exact hd.uniq i j oi oj t (by omega) hi hj (by simpa using h5) h3
 refine ⟨by simpa using h.lsize,?_,fun j hj=>?_,?_,?_,fun k ok hk hl j hj=>?_,fun t u ht hno=>?_,fun k=>if k=i then Mi else Mr k,?_,fun k ok hk hl=>?_⟩
 ·have hc:=h.count
  have e:((List.range m).filter fun j=>!(listed.setIfInBounds i true).getD j true)=((List.range m).filter fun j=>!listed.getD j true).erase i:=by
   rw [List.Nodup.erase_eq_filter (List.Pairwise.filter _ List.nodup_range),List.filter_filter]
   refine List.filter_congr fun j _=>?_
   rw [getD_set true hls]
   by_cases hji:j=i<;>simp [hji]
  rw [e,List.length_erase_of_mem (List.mem_filter.2 ⟨List.mem_range.2 him,by rw [hun];rfl⟩),hc];rfl
 ·rw [getD_set false hls,if_neg (by omega)];exact h.suff j hj
 ·cases oi.dst<;>simp [Act.put,h.size]
 ·cases oi.dst<;>simp [Act.put,h.defers]
 ·rw [getD_set false hls] at hl
  rw [getD_set false hls]
  split
  ·rfl
  ·by_cases hki:k=i
   ·subst hki;rw [hi] at hk;cases hk;exact hall j hj
   ·rw [if_neg hki] at hl;exact h.closed k ok hk hl j hj
 ·have hne:oi.dst≠some t:=hno i oi hi (by rw [getD_set false hls,if_pos rfl])
  rw [hput t hne]
  exact h.env t u ht fun k ok hk hl=>hno k ok hk (by rw [getD_set false hls];split<;>simp_all)
 ·refine hM.perm ?_
  rw [← List.append_assoc]
  refine List.Perm.append_right _ ?_
  have hsub:∀ x,x∈(i::wrs ops m (Cf i))→x∈List.range m:=fun x hx=>by
   rcases List.mem_cons.1 hx with rfl | hx
   ·exact List.mem_range.2 him
   ·obtain ⟨t,_,h2,_⟩:=mem_wrs hx;exact List.mem_range.2 h2
  have hp:=perm_filter_out (i::wrs ops m (Cf i)) (List.range m) (List.nodup_cons.2 ⟨hnotw,wrs_nodup hd _ (hlin.nodup i him)⟩) List.nodup_range hsub
  refine List.Perm.symm (((hp.flatMap_right _)).trans ?_)
  rw [List.flatMap_append,List.flatMap_cons]
  have hczi:czd ops m Cf (listed.setIfInBounds i true) i=false:=by
   rw [czd_set hls him]
   have h1:czd ops m Cf listed i=false:=by
    unfold czd
    cases hdst:oi.dst with
    | none=>simp [hi,hdst]
    | some t =>
     simp only [hi,Option.bind_some,hdst]
     cases ha:(List.range m).any fun k=>listed.getD k false&&(Cf k).elem t with
     | false=>rfl
     | true =>
      obtain ⟨k,hk,h2⟩:=List.any_eq_true.1 ha
      simp only [Bool.and_eq_true] at h2
      have hkm:=List.mem_range.1 hk
      have hkl:k < ops.size:=by
       rcases Nat.lt_or_ge k ops.size with h3 | h3
       ·exact h3
       ·have:=h2.1;rw [Array.getD_eq_getD_getElem?,Array.getElem?_eq_none (by rw [h.lsize];exact h3)] at this;cases this
      have hok:=Array.getElem?_eq_getElem hkl
      have hlook:=hlin.look k _ t hkm hok (elem_iff.1 h2.2)
      have hki:k≠i:=fun e=>by
       subst e
       have:=h2.1
       have hks:k < listed.size:=hls
       simp [Array.getD_eq_getD_getElem?,hks] at this hun
       rw [this] at hun;cases hun
      have hfi:listed.getD i false=false:=by
       simp [Array.getD_eq_getD_getElem?,hls] at hun ⊢;exact hun
      rcases hd.look k i _ oi t hki hok hi hdst hlook with ⟨_,h4⟩ | ⟨h4,h5⟩
      ·have:=h.closed k _ hok h2.1 i h4
       rw [hfi] at this;cases this
      ·obtain ⟨j,h6,h7⟩:=hlin.writer k _ t hkm hok (elem_iff.1 h2.2)
       have hjk:=hd.before k _ hok j h6
       cases hj:ops[j]? with
       | none=>rw [hj] at h7;simp at h7
       | some oj=>rw [hj] at h7;exact (hd.uniq i j oi oj t (by omega) hi hj (by simpa using h7) hdst).elim
   rw [h1,Bool.false_or]
   cases hdst:oi.dst with
   | none=>simp [hi,hdst]
   | some t =>
    simp only [hi,Option.bind_some,hdst]
    cases he:(Cf i).elem t with
    | false=>rfl
    | true=>exact (hnotw (wrs_covers hd him hi hdst (elem_iff.1 he))).elim
  have e0:(if (listed.setIfInBounds i true).getD i false=true then (if czd ops m Cf (listed.setIfInBounds i true) i=true then [] else (if i=i then Mi else Mr i)) else Mc i)=Mi:=by
   rw [getD_set false hls,hczi];simp
  rw [e0]
  have e1:((wrs ops m (Cf i)).flatMap fun x=>if (listed.setIfInBounds i true).getD x false=true then (if czd ops m Cf (listed.setIfInBounds i true) x=true then [] else (if x=i then Mi else Mr x)) else Mc x)=[]:=by
   refine List.flatMap_eq_nil_iff.2 fun j hj=>?_
   obtain ⟨t,h1,h2,h3⟩:=mem_wrs hj
   obtain ⟨j',h4,h5⟩:=hlin.writer i oi t him hi h1
   have hjj:j=j':=by
    cases hj1:ops[j]? with
    | none=>rw [hj1] at h3;simp at h3
    | some o1 =>
     cases hj2:ops[j']? with
     | none=>rw [hj2] at h5;simp at h5
     | some o2 =>
      rw [hj1] at h3;rw [hj2] at h5
      rcases Nat.decEq j j' with hne | he
      ·exact (hd.uniq j j' o1 o2 t hne hj1 hj2 (by simpa using h5) (by simpa using h3)).elim
      ·exact he
   subst hjj
   rw [getD_set false hls,czd_set hls him,hall j h4,h3]
   simp only [elem_iff.2 h1,Bool.or_true,if_true]
   split<;>rfl
  rw [e1,List.append_nil]
  refine List.Perm.append_left _ (List.Perm.of_eq ?_)
  rw [List.flatMap_def,List.flatMap_def]
  refine congrArg List.flatten (List.map_congr_left fun k hk=>?_)
  have hk2:=(List.mem_filter.1 hk).2
  have hkm:=List.mem_range.1 (List.mem_filter.1 hk).1
  have hknot:k ∉ (i::wrs ops m (Cf i)):=fun hm=>by rw [elem_iff.2 hm] at hk2;cases hk2
  have hki:k≠i:=fun e=>hknot (by rw [e];exact List.mem_cons_self ..)
  have hkw:k ∉ wrs ops m (Cf i):=fun hm=>hknot (List.mem_cons_of_mem _ hm)
  rw [getD_set false hls,czd_set hls him,if_neg hki]
  have e2:(match (ops[k]?).bind (·.dst) with | some t=>(Cf i).elem t | none=>false)=false:=by
   cases hk3:ops[k]? with
   | none=>rfl
   | some ok =>
    simp only [Option.bind_some]
    cases hdst:ok.dst with
    | none=>rfl
    | some t =>
     simp only []
     cases he:(Cf i).elem t with
     | false=>rfl
     | true=>exact (hkw (wrs_covers hd hkm hk3 hdst (elem_iff.1 he))).elim
  rw [e2,Bool.or_false]
  simp only [if_neg hki]
 ·by_cases hki:k=i
  ·subst hki;rw [hi] at hk;cases hk
   simp only [if_true]
   exact hR
  ·rw [getD_set false hls,if_neg hki] at hl
   have h1:=hold k ok hk hl
   simp only [if_neg hki]
   have hkm:k < m:=by
    rcases Nat.lt_or_ge k m with h2 | h2
    ·exact h2
    ·rw [h.suff k h2] at hl;cases hl
   have hkv:kv (a.put oi.dst v) (Kf k)=kv a (Kf k):=by
    rcases hlin.key k ok hkm hk with hkk | ⟨_,t,hkk,ht⟩
    ·rw [hkk]
     cases hdst:ok.dst with
     | none=>rfl
     | some t=>simp only [kv,Array.getD_eq_getD_getElem?];rw [hput t (hd.uniq i k oi ok t (Ne.symm hki) hi hk hdst)]
    ·rw [hkk]
     simp only [kv,Array.getD_eq_getD_getElem?]
     rw [hput t ?_]
     intro hdst
     obtain ⟨j,h4,h5⟩:=hlin.writer k ok t hkm hk ht
     have hjl:=h.closed k ok hk hl j h4
     cases hj:ops[j]? with
     | none=>rw [hj] at h5;simp at h5
     | some oj =>
      rw [hj] at h5
      refine hd.uniq i j oi oj t ?_ hi hj (by simpa using h5) hdst
      intro e;subst e
      simp [Array.getD_eq_getD_getElem?,hls] at hun hjl
      rw [hun] at hjl;cases hjl
   rw [hkv];exact h1
def needsB (ops:Array Oper):Nat→Nat→Nat→Bool
 | 0,_,_=>false
 | f+1,i,j=>match ops[i]? with
  | some o=>(ons o).contains j||(ons o).any fun k=>needsB ops f k j
  | none=>false
def sufB (ops:Array Oper) (m:Nat):Bool:=(List.range ops.size).all fun i=>decide (i < m)||match ops[i]? with
 | some o=>((List.range i).all fun j=>(ons o).contains j)||(decide (m < i)&&(ons o).contains (i - 1))||(i == m&&(List.range m).all fun j=>needsB ops ops.size m j)
 | none=>false
def SufOK (ops:Array Oper) (m i:Nat) (o:Oper):Prop:=(∀ j,j < i→j∈ons o)∨(m < i∧i - 1∈ons o)∨(i=m∧∀ j,j < m→needsB ops ops.size m j=true)
theorem sufB_ok {ops:Array Oper} {m:Nat} (h:sufB ops m=true):∀ i o,m≤i→ops[i]?=some o→SufOK ops m i o:=by
 intro i o hi ho
 have:=List.all_eq_true.1 h i (List.mem_range.2 (Array.getElem?_eq_some_iff.1 ho).1)
 simp only [Bool.or_eq_true,decide_eq_true_eq,ho] at this
 rcases this.resolve_left (by omega) with (h1 | h1) | h1
 ·exact .inl fun j hj=>by simpa using List.all_eq_true.1 h1 j (List.mem_range.2 hj)
 ·simp only [Bool.and_eq_true,decide_eq_true_eq] at h1
  exact .inr (.inl ⟨h1.1,by simpa using h1.2⟩)
 ·simp only [Bool.and_eq_true,beq_iff_eq] at h1
  exact .inr (.inr ⟨h1.1,fun j hj=>List.all_eq_true.1 h1.2 j (List.mem_range.2 hj)⟩)
theorem needs_listed {ops:Array Oper} {listed:Array Bool} (hcl:∀ (i:Nat) (oi:Oper),ops[i]?=some oi→listed.getD i false=true→∀ j,j∈ons oi→listed.getD j false=true) :
  ∀ (f i:Nat) (oi:Oper) (j:Nat),ops[i]?=some oi→(∀ k,k∈ons oi→listed.getD k false=true)→needsB ops f i j=true→listed.getD j false=true
 | 0,i,oi,j,_,_,h=>by cases h
 | f+1,i,oi,j,ho,hd,h=>by
  simp only [needsB,ho,Bool.or_eq_true,List.any_eq_true] at h
  rcases h with h | ⟨k,hk,h⟩
  ·exact hd j (by simpa using h)
  ·cases hok:ops[k]? with
   | none=>cases f<;>simp [needsB,hok] at h
   | some ok=>exact needs_listed hcl f k ok j hok (hcl k ok hok (hd k hk)) h
theorem S_any {P:Program} {ops:Array Oper} {m:Nat} {Q:Exit→Act→World→Prop} (hs:∀ i o,m≤i→ops[i]?=some o→SufOK ops m i o) (hb:∀ (i:Nat) (oi:Oper),ops[i]?=some oi→∀ j,j∈ons oi→j < i) :
  ∀ (r k:Nat) (listed:Array Bool) (a:Act) (w:World),k+r=ops.size→m≤k→listed.size=ops.size→(∀ j,j < ops.size→listed.getD j false=decide (j < k))→wpList P ops Q (ops.toList.drop k) a w →
   wpAny P .any ops Q r listed a w
 | 0,k,listed,a,w,hk,_,hsz,hl,h=>by
  have hd:ops.toList.drop k=[]:=List.drop_eq_nil_of_le (by simp;omega)
  rw [hd] at h
  refine ⟨List.eq_nil_iff_forall_not_mem.2 fun j hj=>?_,h⟩
  obtain ⟨h1,oj,h2,_⟩:=mem_ready.1 hj
  have hlt:=(Array.getElem?_eq_some_iff.1 h2).1
  have h3:=hl j hlt
  rw [decide_eq_true (by omega)] at h3
  have:j < listed.size:=by omega
  simp [Array.getD_eq_getD_getElem?,this] at h1 h3
  rw [h1] at h3;cases h3
 | r+1,k,listed,a,w,hk,hm,hsz,hl,h=>by
  have hklt:k < ops.size:=by omega
  have hks:k < listed.size:=by omega
  have hun:∀ j,j < ops.size→listed.getD j true=decide (j < k):=fun j hj=>by
   have h3:=hl j hj
   have:j < listed.size:=by omega
   simp [Array.getD_eq_getD_getElem?,this] at h3 ⊢
   exact h3
  have hready:k∈Region.ready .any ops listed:=mem_ready.2 ⟨by rw [hun k hklt];simp,ops[k],Array.getElem?_eq_getElem hklt,fun e he hbd=>by
   have:=hb k _ (Array.getElem?_eq_getElem hklt) e.on (List.mem_map.2 ⟨e,List.mem_filter.2 ⟨Array.mem_toList_iff.2 he,hbd⟩,rfl⟩)
   rw [hl e.on (by omega)];exact decide_eq_true this⟩
  refine ⟨fun hn=>(by rw [hn] at hready;cases hready),fun i hi=>?_⟩
  obtain ⟨h1,oi,h2,h3⟩:=mem_ready.1 hi
  have hilt:=(Array.getElem?_eq_some_iff.1 h2).1
  have hik:i=k:=by
   rw [hun i hilt] at h1
   have h4:¬ i < k:=by simpa using h1
   rcases Nat.lt_or_ge k i with h5 | h5
   ·rcases hs i oi (by omega) h2 with h6 | ⟨h7,h6⟩ | ⟨h7,_⟩
    ·obtain ⟨e,he,hek⟩:=List.mem_map.1 (h6 k h5)
     obtain ⟨he1,he2⟩:=List.mem_filter.1 he
     have:=h3 e (Array.mem_toList_iff.1 he1) he2
     rw [hek,hl k hklt] at this;simp at this
    ·obtain ⟨e,he,hek⟩:=List.mem_map.1 h6
     obtain ⟨he1,he2⟩:=List.mem_filter.1 he
     have:=h3 e (Array.mem_toList_iff.1 he1) he2
     rw [hek,hl (i - 1) (by omega)] at this
     have:=of_decide_eq_true this
     omega
    ·omega
   ·omega
  subst hik
  have hcons:ops.toList.drop i=oi::ops.toList.drop (i+1):=by
   rw [List.drop_eq_getElem_cons (by simpa using hilt)]
   have:ops.toList[i]'(by simpa using hilt)=oi:=by
    have:=(Array.getElem?_eq_some_iff.1 h2).2;simpa using this
   rw [this]
  rw [hcons] at h
  have next:∀ a w,wpList P ops Q (ops.toList.drop (i+1)) a w→wpAny P .any ops Q r (listed.setIfInBounds i true) a w:=fun a w h' =>
   S_any hs hb r (i+1) _ a w (by omega) (by omega) (by simpa using hsz) (fun j hj=>by
    rw [getD_set false hks]
    by_cases hji:j=i
    ·subst hji;simp
    ·rw [if_neg hji,hl j hj]
     by_cases h7:j < i
     ·rw [decide_eq_true h7,decide_eq_true (by omega)]
     ·rw [decide_eq_false h7,decide_eq_false (by omega)]) h'
  unfold wpOp
  rw [h2]
  unfold wpList at h
  dsimp only
  split
  ·rename_i hw;rw [if_pos hw] at h;exact h.imp (Oper.wp_mono next) id
  ·rename_i hw;rw [if_neg hw] at h;exact next _ _ h
theorem D_any {Γ:Cx} {ops:Array Oper} {m:Nat} {Msh pool':List HP} {l:Envl} {Rs:List Rel} {Mcs:List (List HP)} {Cs:List (List Nat)} {Ks:List (Option Nat)} {Q:Exit→Act→World→Prop}
  (hd:DagOK Γ.n ops) (hm:m≤ops.size) (hR:Rs.length=m) (hMc:Mcs.length=m) (hC:Cs.length=m) (hK:Ks.length=m) (hlin:LinOK ops m (fun i=>Cs.getD i []) (fun i=>Ks.getD i none))
  (hsuf:∀ i o,m≤i→ops[i]?=some o→SufOK ops m i o)
  (hstep:∀ i o R Mc C k,(ops.toList.take m)[i]?=some o→Rs[i]?=some R→Mcs[i]?=some Mc→Cs[i]?=some C→Ks[i]?=some k→StepA Γ ops Msh (Efrom (initE l) (ops.toList.take m) Rs Cs i) C o Mc (keyA o.dst k R))
  (hfin:∀ listed a w,DInv Γ ops m Msh pool' l (fun i=>Rs.getD i (fun _ _=>True)) (fun i=>Mcs.getD i []) (fun i=>Cs.getD i []) (fun i=>Ks.getD i none) 0 listed a w→(∀ i,i < m→listed.getD i false=true)→wpList Γ.P ops Q (ops.toList.drop m) a w) :
  ∀ (fuel:Nat) (listed:Array Bool) (a:Act) (w:World),DInv Γ ops m Msh pool' l (fun i=>Rs.getD i (fun _ _=>True)) (fun i=>Mcs.getD i []) (fun i=>Cs.getD i []) (fun i=>Ks.getD i none) fuel listed a w →
   wpAny Γ.P .any ops Q (fuel+(ops.size - m)) listed a w
 | 0,listed,a,w,h=>by
  have hall:∀ i,i < m→listed.getD i false=true:=by
   intro i hi
   have hsz:i < listed.size:=by rw [h.lsize];omega
   cases hl:listed.getD i false with
   | true=>rfl
   | false =>
    have hl':listed.getD i true=false:=by simpa [Array.getD_eq_getD_getElem?,hsz] using hl
    have:i∈((List.range m).filter fun i=>!listed.getD i true):=List.mem_filter.2 ⟨List.mem_range.2 hi,by rw [hl'];rfl⟩
    rw [List.eq_nil_of_length_eq_zero h.count] at this;cases this
  rw [Nat.zero_add]
  refine S_any hsuf hd.before _ m listed a w (by omega) (Nat.le_refl _) h.lsize (fun j hj=>?_) (hfin listed a w h hall)
  by_cases hjm:j < m
  ·rw [hall j hjm,decide_eq_true hjm]
  ·rw [h.suff j (by omega),decide_eq_false hjm]
 | fuel+1,listed,a,w,h=>by
  have hget:∀ i oi,ops[i]?=some oi→listed.getD i true=listed.getD i false:=fun i oi hi=>by
   have:i < listed.size:=by rw [h.lsize];exact (Array.getElem?_eq_some_iff.1 hi).1
   simp [Array.getD_eq_getD_getElem?,this]
  have hne:((List.range m).filter fun i=>!listed.getD i true)≠[]:=fun e=>by have:=h.count;rw [e] at this;simp at this
  obtain ⟨i0,hi0⟩:=List.exists_mem_of_ne_nil _ hne
  obtain ⟨hi0m,hi0u⟩:=List.mem_filter.1 hi0
  have hi0m:=List.mem_range.1 hi0m
  rw [show fuel+1+(ops.size - m)=(fuel+(ops.size - m))+1 by omega]
  refine ⟨fun hnone=>?_,fun i hi=>?_⟩
  ·exfalso
   have key:∀ k i,i≤k→∀ oi,ops[i]?=some oi→listed.getD i true=false→False:=by
    intro k
    induction k with
    | zero =>
     intro i hik oi hi hun
     have:i∈Region.ready .any ops listed:=mem_ready.2 ⟨hun,oi,hi,fun e he hb=>by
      have:=hd.before i oi hi e.on (List.mem_map.2 ⟨e,List.mem_filter.2 ⟨Array.mem_toList_iff.2 he,hb⟩,rfl⟩)
      omega⟩
     rw [hnone] at this;cases this
    | succ k ih =>
     intro i hik oi hi hun
     have:i∈Region.ready .any ops listed:=mem_ready.2 ⟨hun,oi,hi,fun e he hb=>by
      have hlt:=hd.before i oi hi e.on (List.mem_map.2 ⟨e,List.mem_filter.2 ⟨Array.mem_toList_iff.2 he,hb⟩,rfl⟩)
      have hlts:e.on < ops.size:=Nat.lt_trans hlt (Array.getElem?_eq_some_iff.1 hi).1
      cases hl:listed.getD e.on false with
      | true=>rfl
      | false =>
       exact (ih e.on (by omega) ops[e.on] (Array.getElem?_eq_getElem hlts) (by rw [hget e.on _ (Array.getElem?_eq_getElem hlts)];exact hl)).elim⟩
     rw [hnone] at this;cases this
   exact key i0 i0 (Nat.le_refl _) _ (Array.getElem?_eq_getElem (Nat.lt_of_lt_of_le hi0m hm)) (by simpa using hi0u)
  ·obtain ⟨hun,oi,hoi,hall⟩:=mem_ready.1 hi
   have hlt:i < ops.size:=(Array.getElem?_eq_some_iff.1 hoi).1
   have hall':∀ j,j∈ons oi→listed.getD j false=true:=fun j hj=>by
    obtain ⟨e,he,rfl⟩:=List.mem_map.1 hj
    obtain ⟨he1,he2⟩:=List.mem_filter.1 he
    exact hall e (Array.mem_toList_iff.1 he1) he2
   have him:i < m:=by
    rcases Nat.lt_or_ge i m with h1 | h1
    ·exact h1
    ·rcases hsuf i oi h1 hoi with h5 | ⟨h6,h5⟩ | ⟨h6,h5⟩
     ·have h2:=hall' i0 (h5 i0 (by omega))
      have h3:listed.getD i0 true=false:=by simpa using hi0u
      rw [hget i0 _ (Array.getElem?_eq_getElem (Nat.lt_of_lt_of_le hi0m hm)),h2] at h3;cases h3
     ·have h2:=hall' _ h5
      rw [h.suff (i - 1) (by omega)] at h2;cases h2
     ·subst h6
      have h2:=needs_listed h.closed ops.size i oi i0 hoi hall' (h5 i0 hi0m)
      have h3:listed.getD i0 true=false:=by simpa using hi0u
      rw [hget i0 _ (Array.getElem?_eq_getElem (Nat.lt_of_lt_of_le hi0m hm)),h2] at h3;cases h3
   obtain ⟨Mr,hM,hold⟩:=h.mem
   have hRi:Rs[i]?=some Rs[i]:=List.getElem?_eq_getElem (by omega)
   have hMi:Mcs[i]?=some Mcs[i]:=List.getElem?_eq_getElem (by omega)
   have hCi:Cs[i]?=some Cs[i]:=List.getElem?_eq_getElem (by omega)
   have hKi:Ks[i]?=some Ks[i]:=List.getElem?_eq_getElem (by omega)
   have eK:Ks.getD i none=Ks[i]:=by simp [List.getD_eq_getElem?_getD,hKi]
   have hst:=hstep i oi _ _ _ _ (by rw [List.getElem?_take,if_pos him];simpa using hoi) hRi hMi hCi hKi
   have hlf:listed.getD i false=false:=by rw [← hget i oi hoi];exact hun
   have eC:Cs.getD i []=Cs[i]:=by simp [List.getD_eq_getElem?_getD,hCi]
   have eMc:Mcs.getD i []=Mcs[i]:=by simp [List.getD_eq_getElem?_getD,hMi]
   have eR:Rs.getD i (fun _ _=>True)=Rs[i]:=by simp [List.getD_eq_getElem?_getD,hRi]
   have hnd:(Cs[i]).Nodup:=by have:=hlin.nodup i him;rw [eC] at this;exact this
   have hnotw:i ∉ wrs ops m Cs[i]:=fun hmm=>by
    obtain ⟨t,h1,h2,h3⟩:=mem_wrs hmm
    simp only [hoi,Option.bind_some] at h3
    obtain ⟨j,h4,h5⟩:=hlin.writer i oi t him hoi (by rw [eC];exact h1)
    have hji:=hd.before i oi hoi j h4
    cases hj:ops[j]? with
    | none=>rw [hj] at h5;simp at h5
    | some oj=>rw [hj] at h5;exact hd.uniq i j oi oj t (by omega) hoi hj (by simpa using h5) h3
   have hsub:∀ x,x∈(i::wrs ops m Cs[i])→x∈List.range m:=fun x hx=>by
    rcases List.mem_cons.1 hx with rfl | hx
    ·exact List.mem_range.2 him
    ·obtain ⟨t,_,h2,_⟩:=mem_wrs hx;exact List.mem_range.2 h2
   have hp:=perm_filter_out (i::wrs ops m Cs[i]) (List.range m) (List.nodup_cons.2 ⟨hnotw,wrs_nodup hd _ hnd⟩) List.nodup_range hsub
   have hwr:∀ t j,t∈Cs[i]→j < m→(ops[j]?).bind (·.dst)=some t→listed.getD j false=true∧czd ops m (fun i=>Cs.getD i []) listed j=false∧t∈oi.looksAt ops:=by
    intro t j ht hj hjt
    have hlook:=hlin.look i oi t him hoi (by rw [eC];exact ht)
    obtain ⟨j',h4,h5⟩:=hlin.writer i oi t him hoi (by rw [eC];exact ht)
    have hjj:j'=j:=by
     cases hj1:ops[j]? with
     | none=>rw [hj1] at hjt;simp at hjt
     | some o1 =>
      cases hj2:ops[j']? with
      | none=>rw [hj2] at h5;simp at h5
      | some o2 =>
       rw [hj1] at hjt;rw [hj2] at h5
       rcases Nat.decEq j' j with hne | he
       ·exact (hd.uniq j' j o2 o1 t hne hj2 hj1 (by simpa using hjt) (by simpa using h5)).elim
       ·exact he
    subst hjj
    refine ⟨hall' _ h4,?_,hlook⟩
    unfold czd
    rw [hjt]
    simp only []
    cases ha:(List.range m).any fun k=>listed.getD k false&&(Cs.getD k []).elem t with
    | false=>rfl
    | true =>
     obtain ⟨k,hk,h2⟩:=List.any_eq_true.1 ha
     simp only [Bool.and_eq_true] at h2
     have hkm:=List.mem_range.1 hk
     have hok:=Array.getElem?_eq_getElem (Nat.lt_of_lt_of_le hkm hm)
     have hik:=Nat.le_antisymm (hlin.first k i _ oi t hkm hok hoi (elem_iff.1 h2.2) hlook) (hlin.first i k oi _ t him hoi hok (by rw [eC];exact ht) (hlin.look k _ t hkm hok (elem_iff.1 h2.2)))
     subst hik
     rw [h2.1] at hlf;cases hlf
   have hM':=hM.perm (List.Perm.append_right _ (hp.flatMap_right _))
   rw [List.cons_append,List.flatMap_cons,if_neg (by rw [hlf];simp),eMc,List.flatMap_append,List.append_assoc,List.append_assoc] at hM'
   have hcons:∀ C,(∀ t,t∈C→t∈Cs[i])→ConsF (Efrom (initE l) (ops.toList.take m) Rs Cs i) a C ((wrs ops m C).flatMap fun i=>if listed.getD i false then (if czd ops m (fun i=>Cs.getD i []) listed i then [] else Mr i) else Mcs.getD i []):=by
    intro C
    induction C with
    | nil=>intro _;simp [ConsF,wrs]
    | cons t C ih =>
     intro hC
     have ih':=ih (fun t ht=>hC t (List.mem_cons_of_mem _ ht))
     have ht:=hC t (List.mem_cons_self ..)
     obtain ⟨j',h4,h5⟩:=hlin.writer i oi t him hoi (by rw [eC];exact ht)
     have hj'm:j' < m:=Nat.lt_trans (hd.before i oi hoi j' h4) him
     unfold wrs at ih' ⊢
     rw [List.filterMap_cons]
     cases hf:(List.range m).find? (fun j=>(ops[j]?).bind (·.dst) == some t) with
     | none =>
      have:=List.find?_eq_none.1 hf j' (List.mem_range.2 hj'm)
      rw [h5] at this;simp at this
     | some j =>
      have h6:=List.find?_some hf
      simp only [beq_iff_eq] at h6
      have hjm:=List.mem_range.1 (List.mem_of_find?_eq_some hf)
      obtain ⟨h7,h8,h9⟩:=hwr t j ht hjm h6
      simp only []
      rw [List.flatMap_cons,if_pos h7,h8]
      refine ⟨Mr j,_,rfl,fun R' hlk=>?_,ih'⟩
      cases hoj:ops[j]? with
      | none=>rw [hoj] at h6;simp at h6
      | some oj =>
       rw [hoj] at h6
       have hdst:oj.dst=some t:=by simpa using h6
       have h10:=hold j oj hoj h7
       rcases lookup_Efrom _ _ _ _ _ _ _ (by simp;omega) (by simp;omega) (by simp;omega) hlk with ⟨k,ok,R0,hki,hok,hdk,hRk,hcc⟩ | ⟨hno,_⟩
       ·rw [List.getElem?_take,if_pos (by omega)] at hok
        have hok':ops[k]?=some ok:=by simpa using hok
        have hkj:k=j:=by
         rcases Nat.decEq k j with hne | he
         ·exact (hd.uniq k j ok oj t hne hok' hoj hdst hdk).elim
         ·exact he
        subst hkj
        rcases hcc with ⟨rfl,_⟩ | ⟨⟨k2,C2,h11,h12,h13,h14⟩,_⟩
        ·have hkk:Ks.getD k none=some t:=by
          rcases hlin.key k ok (by omega) hok' with h15 | ⟨h15,_⟩
          ·rw [← hdk];exact h15
          ·rw [hdk] at h15;cases h15
         simp only [hkk,kv,List.getD_eq_getElem?_getD,hRk,Option.getD_some] at h10
         exact h10
        ·exfalso
         have h15:=hlin.first i k2 oi _ t him hoi (Array.getElem?_eq_getElem (by omega)) (by rw [eC];exact ht) (hlin.look k2 _ t (by omega) (Array.getElem?_eq_getElem (by omega)) (by simpa [List.getD_eq_getElem?_getD,h13] using h14))
         omega
       ·exfalso
        obtain ⟨j2,h11,h12⟩:=hlin.writer i oi t him hoi (by rw [eC];exact ht)
        have hlt2:=hd.before i oi hoi j2 h11
        cases hj2:ops[j2]? with
        | none=>rw [hj2] at h12;simp at h12
        | some o2 =>
         rw [hj2] at h12
         exact hno j2 o2 hlt2 (by rw [List.getElem?_take,if_pos (by omega)];simpa using hj2) (by simpa using h12)
   have hfacts:Facts (dropE Cs[i] (Efrom (initE l) (ops.toList.take m) Rs Cs i)) (oi.looksAt ops) ((((List.range m).filter fun x=>!(i::wrs ops m Cs[i]).elem x).flatMap fun i=>if listed.getD i false then (if czd ops m (fun i=>Cs.getD i []) listed i then [] else Mr i) else Mcs.getD i [])++(Msh++pool')) a:=by
    intro t R' ht hlk0
    obtain ⟨R1,hlk,hdr⟩:=lookup_dropE _ _ _ _ hlk0
    rcases lookup_Efrom _ _ _ _ _ _ _ (by simp;omega) (by simp;omega) (by simp;omega) hlk with ⟨j,oj,R0,hji,hoj,hdj,hRj,hcc⟩ | ⟨hno,R0,hlk',hcc⟩
    ·rw [List.getElem?_take,if_pos (by omega)] at hoj
     have hoj':ops[j]?=some oj:=by simpa using hoj
     have hjl:listed.getD j false=true:=by
      rcases hd.look i j oi oj t (by omega) hoi hoj' hdj ht with ⟨_,hmm⟩ | ⟨h3,_⟩
      ·exact hall' j hmm
      ·omega
     have h4:=hold j oj hoj' hjl
     have hkk:Ks.getD j none=some t:=by
      rcases hlin.key j oj (by omega) hoj' with h15 | ⟨h15,_⟩
      ·rw [← hdj];exact h15
      ·rw [hdj] at h15;cases h15
     simp only [hkk,kv,List.getD_eq_getElem?_getD,hRj,Option.getD_some] at h4
     have weak:R' (a.tmps.getD t undef) []∨(R'=R0∧t ∉ Cs[i]∧∀ k C,j < k→k < i→Cs[k]?=some C→t ∉ C):=by
      rcases hcc with ⟨rfl,h5⟩ | ⟨_,h5⟩
      ·rcases hdr with ⟨h6,rfl⟩ | ⟨h6,rfl⟩
       ·exact .inr ⟨rfl,h6,h5⟩
       ·exact .inl ⟨rfl,_,h4⟩
      ·have h7:=h5 _ ⟨_,h4⟩
       rcases hdr with ⟨h6,rfl⟩ | ⟨h6,rfl⟩
       ·exact .inl h7
       ·exact .inl ⟨rfl,_,h7⟩
     rcases weak with hwk | ⟨rfl,hnc,hncs⟩
     ·exact ⟨[],hwk,fun x hx=>by cases hx⟩
     have hczd:czd ops m (fun i=>Cs.getD i []) listed j=false:=by
      unfold czd
      rw [hoj']
      simp only [Option.bind_some,hdj]
      cases ha:(List.range m).any fun k=>listed.getD k false&&(Cs.getD k []).elem t with
      | false=>rfl
      | true =>
       obtain ⟨k,hk,h2⟩:=List.any_eq_true.1 ha
       simp only [Bool.and_eq_true] at h2
       have hkm:=List.mem_range.1 hk
       have hok:=Array.getElem?_eq_getElem (Nat.lt_of_lt_of_le hkm hm)
       have hik:=hlin.first k i _ oi t hkm hok hoi (elem_iff.1 h2.2) ht
       have hki:k≠i:=fun e=>by subst e;rw [h2.1] at hlf;cases hlf
       obtain ⟨j',h6,h7⟩:=hlin.writer k _ t hkm hok (elem_iff.1 h2.2)
       have hjk:=hd.before k _ hok j' h6
       have hjj:j'=j:=by
        cases hj1:ops[j']? with
        | none=>rw [hj1] at h7;simp at h7
        | some o1 =>
         rw [hj1] at h7
         rcases Nat.decEq j' j with hne | he
         ·exact (hd.uniq j' j o1 oj t hne hj1 hoj' hdj (by simpa using h7)).elim
         ·exact he
       have hCk:Cs[k]?=some Cs[k]:=List.getElem?_eq_getElem (by omega)
       have h8:=elem_iff.1 h2.2
       rw [List.getD_eq_getElem?_getD,hCk] at h8
       exact (hncs k _ (by omega) (by omega) hCk h8).elim
     refine ⟨Mr j,h4,fun x hx=>List.mem_append_left _ (List.mem_flatMap.2 ⟨j,?_,?_⟩)⟩
     ·refine List.mem_filter.2 ⟨List.mem_range.2 (by omega),?_⟩
      cases he:(i::wrs ops m Cs[i]).elem j with
      | false=>rfl
      | true =>
       rcases List.mem_cons.1 (elem_iff.1 he) with h5 | h5
       ·omega
       ·obtain ⟨t',h6,_,h7⟩:=mem_wrs h5
        rw [hoj'] at h7
        simp only [Option.bind_some,hdj] at h7
        cases h7;exact (hnc h6).elim
     ·rw [hjl,hczd];exact hx
    ·obtain ⟨v,hv,rfl⟩:=lookup_initE _ _ _ hlk'
     have h5:=h.env t v hv (fun k ok hk hkl hkd=>by
      have hkm:k < m:=by
       rcases Nat.lt_or_ge k m with h1 | h1
       ·exact h1
       ·rw [h.suff k h1] at hkl;cases hkl
      by_cases hki:k=i
      ·subst hki;rw [hlf] at hkl;cases hkl
      ·rcases hd.look i k oi ok t (Ne.symm hki) hoi hk hkd ht with ⟨h6,_⟩ | ⟨_,h7⟩
       ·exact hno k ok h6 (by rw [List.getElem?_take,if_pos hkm];simpa using hk) hkd
       ·have:=h.closed k ok hk hkl i h7
        rw [hlf] at this;cases this)
     have h6:FC True v (a.tmps.getD t undef) []:=⟨rfl,fun _=>by simp [Array.getD_eq_getD_getElem?,h5],fun hn=>(hn trivial).elim⟩
     have h7:R1 (a.tmps.getD t undef) []:=by
      rcases hcc with ⟨rfl,_⟩ | ⟨_,h8⟩
      ·exact h6
      ·exact h8 _ ⟨_,h6⟩
     refine ⟨[],?_,fun x hx=>by cases hx⟩
     rcases hdr with ⟨_,rfl⟩ | ⟨_,rfl⟩
     ·exact h7
     ·exact ⟨rfl,_,h7⟩
   have hstA:=hst a w _ _ h.size h.defers hM' (fun x hx=>List.mem_append_right _ (List.mem_append_left _ hx)) hfacts (hcons Cs[i] (fun _ h=>h))
   have eU:(oi.dst.elim undef fun _=>undef)=undef:=by cases oi.dst<;>rfl
   have next:∀ (v:Value) (w':World) (Mi:List HP),keyA oi.dst Ks[i] Rs[i] a (oi.dst.elim undef fun _=>v) Mi →
     Holds Γ.w0 Γ.S0 (Mi++((((List.range m).filter fun x=>!(i::wrs ops m Cs[i]).elem x).flatMap fun i=>if listed.getD i false then (if czd ops m (fun i=>Cs.getD i []) listed i then [] else Mr i) else Mcs.getD i [])++(Msh++pool'))) w' →
     wpAny Γ.P .any ops Q (fuel+(ops.size - m)) (listed.setIfInBounds i true) (a.put oi.dst v) w':=fun v w' Mi hr hh =>
    D_any hd hm hR hMc hC hK hlin hsuf hstep hfin fuel _ _ _ (DInv.step hd hlin h hoi him hun hall' (by rw [eC];exact hh) hold (by
     rw [eR,eK]
     refine keyA_kv ?_ (fun t ht=>by rw [h.size];exact hd.small i oi t hoi ht) hr
     rcases hlin.key i oi him hoi with h1 | ⟨h1,t,h2,_⟩
     ·rw [eK] at h1;exact .inl h1
     ·rw [eK] at h2;exact .inr ⟨h1,t,h2⟩))
   unfold wpOp
   rw [hoi]
   dsimp only
   split
   ·rename_i hwt
    rw [if_pos hwt] at hstA
    refine .inl ?_
    unfold Oper.wp
    generalize (execOp a.eval oi).run Γ.P w=r at hstA ⊢
    cases r with
    | ok n w' =>
     cases n<;>first
      | exact hstA.elim
      | (obtain ⟨Mi,h1,h2⟩:=hstA;exact next _ _ _ h1 h2)
      | (obtain ⟨Mi,h1,h2⟩:=hstA;exact next undef _ _ (by rw [eU];exact h1) h2)
      | (exact hstA.mono fun e w'' ⟨v,Mi,he,h1,h2⟩=>by subst he;exact next _ _ _ h1 h2)
    | halt x w'=>exact hstA.elim
   ·rename_i hwt
    rw [if_neg hwt] at hstA
    refine next undef w _ (by rw [eU];exact hstA) ?_
    rw [List.append_assoc];exact hM'
def GiveH (a:Act) (ts cs:List Nat) (rs:List (Option Nat×Rel)) (Mr:List (List HP)):Prop:=∀ (i:Nat) (d:Option Nat) (R:Rel) (m:List HP),rs[i]?=some (d,R)→Mr[i]?=some m →
   (d=none→R undef m)∧(∀ t,d=some t→t∈cs→m=[])∧(∀ t,d=some t→t ∉ cs→t∈ts→(∀ i',i' < i→∀ R',rs[i']?≠some (some t,R'))→R (a.tmps.getD t undef) m)
theorem GiveH.tail {a:Act} {ts ts' cs:List Nat} {d:Option Nat} {R:Rel} {rs:List (Option Nat×Rel)} {m:List HP} {Mr:List (List HP)} (h:GiveH a ts cs ((d,R)::rs) (m::Mr)) (hs:∀ t,t ∉ cs→t∈ts'→t∈ts∧d≠some t):GiveH a ts' cs rs Mr:=by
 intro i d' R' m' hi hm
 obtain ⟨h1,h2,h3⟩:=h (i+1) d' R' m' (by simpa using hi) (by simpa using hm)
 refine ⟨h1,h2,fun t ht hc hts hno=>h3 t ht hc (hs t hc hts).1 fun i' hi' R2 he=>?_⟩
 cases i' with
 | zero=>simp at he;exact (hs t hc hts).2 he.1
 | succ i'=>exact hno i' (by omega) R2 (by simpa using he)
theorem Give_use (n:Nat) {cs:List Nat} {K:Kont} {a:Act} {w:World} {w0:World} {S0:List Nat} (hs:a.tmps.size=n) (hdf:a.defers=[]):∀ (rs:List (Option Nat×Rel)) (ts:List Nat) (l:Envl) (M:List HP),Give ts cs rs l M K →
  (∀ t v,l.lookup t=some v→(∀ R,(some t,R)∈rs→t ∉ ts∨t∈cs)→a.tmps[t]?=some v) →
  (∀ t R,(some t,R)∈rs→t < n) →
  (∃ Mr:List (List HP),Mr.length=rs.length∧Holds w0 S0 (Mr.flatten++M) w∧GiveH a ts cs rs Mr) →
  ∃ l' M',Env a n l'∧Holds w0 S0 M' w∧K l' M'
 | [],ts,l,M,h,hl,_,⟨Mr,h1,h2,_⟩=>by
  have:Mr=[]:=List.eq_nil_of_length_eq_zero (by simpa using h1)
  subst this
  exact ⟨l,M,⟨hs,hdf,fun t v ht=>hl t v ht (by simp)⟩,by simpa using h2,h⟩
 | (none,R)::rs,ts,l,M,h,hl,hn,⟨Mr,h1,h2,h3⟩=>by
  cases Mr with
  | nil=>simp at h1
  | cons m Mr =>
   have hR:=(h3 0 none R m (by simp) (by simp)).1 rfl
   refine Give_use n hs hdf rs ts l (m++M) (h m hR) (fun t v ht hno=>hl t v ht fun R' hm=>?_) (fun t R' hm=>hn t R' (List.mem_cons_of_mem _ hm)) ⟨Mr,by simpa using h1,?_,h3.tail fun t _ ht=>⟨ht,fun e=>by cases e⟩⟩
   ·rcases List.mem_cons.1 hm with h4 | h4
    ·cases h4
    ·exact hno R' h4
   ·refine h2.perm ?_
    simp only [List.flatten_cons,List.append_assoc]
    rw [← List.append_assoc,← List.append_assoc]
    exact List.Perm.append_right _ List.perm_append_comm
 | (some t,R)::rs,ts,l,M,h,hl,hn,⟨Mr,h1,h2,h3⟩=>by
  cases Mr with
  | nil=>simp at h1
  | cons m Mr =>
   have h30:=h3 0 (some t) R m (by simp) (by simp)
   have htn:=hn t R (by simp)
   have hget:a.tmps[t]?=some (a.tmps.getD t undef):=by
    have hlt:t < a.tmps.size:=by rw [hs];exact htn
    simp [Array.getD_eq_getD_getElem?,Array.getElem?_eq_getElem hlt]
   have hrest:List.Perm (((m::Mr):List (List HP)).flatten++M) ((Mr.flatten++M)++m):=by
    simp only [List.flatten_cons,List.append_assoc]
    exact List.perm_append_comm.trans (by simp)
   cases hce:cs.elem t with
   | true =>
    have htc:=elem_iff.1 hce
    have h':Give ts cs rs l M K:=by simp only [Give,hce] at h;exact h
    refine Give_use n hs hdf rs ts l M h' (fun t' v ht hno=>hl t' v ht fun R' hm=>?_) (fun t R' hm=>hn t R' (List.mem_cons_of_mem _ hm)) ⟨Mr,by simpa using h1,h2.sub ⟨m,hrest⟩,h3.tail fun t' hc ht=>⟨ht,fun e=>by cases e;exact hc htc⟩⟩
    rcases List.mem_cons.1 hm with h4 | h4
    ·cases h4;exact .inr htc
    ·exact hno R' h4
   | false =>
    have hnc:t ∉ cs:=fun hm=>by rw [elem_iff.2 hm] at hce;cases hce
    cases hte:ts.elem t with
    | true =>
     have hR:=h30.2.2 t rfl hnc (elem_iff.1 hte) (fun i' hi'=>by omega)
     have h':∀ v Mr,R v Mr→Give (rmN t ts) cs rs ((t,v)::l) (Mr++M) K:=by simp only [Give,hte,hce] at h;exact h
     refine Give_use n hs hdf rs _ _ (m++M) (h' _ m hR) (fun t' v ht hno=>?_) (fun t R' hm=>hn t R' (List.mem_cons_of_mem _ hm)) ⟨Mr,by simpa using h1,?_,h3.tail fun t' _ ht=>⟨(mem_rmN.1 ht).1,fun e=>by cases e;exact (mem_rmN.1 ht).2 rfl⟩⟩
     ·simp only [List.lookup_cons] at ht
      cases he:t' == t with
      | true =>
       rw [he] at ht
       simp only [beq_iff_eq] at he;subst he
       cases ht
       exact hget
      | false =>
       rw [he] at ht
       have hne:t'≠t:=fun e=>by subst e;simp at he
       refine hl t' v ht fun R' hm=>?_
       rcases List.mem_cons.1 hm with h4 | h4
       ·cases h4;exact (hne rfl).elim
       ·rcases hno R' h4 with h5 | h5
        ·exact .inl fun h6=>h5 (mem_rmN.2 ⟨h6,hne⟩)
        ·exact .inr h5
     ·refine h2.perm ?_
      simp only [List.flatten_cons,List.append_assoc]
      rw [← List.append_assoc,← List.append_assoc]
      exact List.Perm.append_right _ List.perm_append_comm
    | false =>
     have hnt:t ∉ ts:=fun hmem=>by rw [elem_iff.2 hmem] at hte;cases hte
     have h':Give ts cs rs l M K:=by simp only [Give,hte,hce] at h;exact h
     refine Give_use n hs hdf rs ts l M h' (fun t' v ht hno=>hl t' v ht fun R' hm=>?_) (fun t R' hm=>hn t R' (List.mem_cons_of_mem _ hm)) ⟨Mr,by simpa using h1,h2.sub ⟨m,hrest⟩,h3.tail fun t' _ ht=>⟨ht,fun e=>by cases e;exact hnt ht⟩⟩
     rcases List.mem_cons.1 hm with h4 | h4
     ·cases h4;exact .inl hnt
     ·exact hno R' h4
theorem D_lex {P:Program} {n:Nat} {ops:Array Oper} {Q:Exit→Act→World→Prop} (hd:DagOK n ops):∀ (m k:Nat) (listed:Array Bool) (a:Act) (w:World),k+m=ops.size→listed.size=ops.size →
  (∀ j,j < ops.size→listed.getD j false=decide (j < k))→wpAny P .any ops Q m listed a w→wpOps P ops Q (List.range' k m) a w
 | 0,k,listed,a,w,_,_,_,h=>by simpa [wpOps] using h.2
 | m+1,k,listed,a,w,hk,hs,hl,h=>by
  rw [List.range'_succ,wpOps_cons]
  have hlt:k < ops.size:=by omega
  have hk1:listed.getD k true=false:=by
   have:=hl k hlt
   have hks:k < listed.size:=by omega
   simp [Array.getD_eq_getD_getElem?,hks] at this ⊢
   exact this
  refine wpOp_mono (fun a w h'=>D_lex hd m (k+1) _ a w (by omega) (by simpa using hs) (fun j hj=>?_) h') (h.2 k (mem_ready.2 ⟨hk1,ops[k],Array.getElem?_eq_getElem hlt,fun e he hb=>?_⟩))
  ·rw [getD_set false (by omega)]
   by_cases hjk:j=k
   ·subst hjk;simp
   ·rw [if_neg hjk,hl j hj]
    by_cases h1:j < k
    ·rw [decide_eq_true h1,decide_eq_true (by omega)]
    ·rw [decide_eq_false h1,decide_eq_false (by omega)]
  ·have:=hd.before k _ (Array.getElem?_eq_getElem hlt) e.on (List.mem_map.2 ⟨e,List.mem_filter.2 ⟨Array.mem_toList_iff.2 he,hb⟩,rfl⟩)
   rw [hl e.on (by omega)];exact decide_eq_true this
def checkTs (ts:List Nat) (l:Envl) (ops:Array Oper):List Oper→Bool
 | []=>true
 | o::rest=>(match o.dst with | none=>true | some t=>(l.lookup t).isNone||(ts.elem t&&rest.all fun o'=>!(o'.looksAt ops).contains t))&&checkTs ts l ops rest
theorem checkTs_ok {ts:List Nat} {l:Envl} {ops:Array Oper}:∀ {pre:List Oper},checkTs ts l ops pre=true→∀ (i:Nat) (o:Oper) (t:Nat) (v:Value),pre[i]?=some o→o.dst=some t→l.lookup t=some v→t∈ts∧∀ (k:Nat) (ok:Oper),i < k→pre[k]?=some ok→t ∉ ok.looksAt ops
 | [],_,i,o,t,v,hi,_,_=>by simp at hi
 | p::pre,h,i,o,t,v,hi,hd,hl=>by
  simp only [checkTs,Bool.and_eq_true] at h
  cases i with
  | zero =>
   simp at hi;subst hi
   have h1:=h.1
   simp only [hd,hl,Option.isNone_some,Bool.false_or,Bool.and_eq_true] at h1
   refine ⟨elem_iff.1 h1.1,fun k ok hk hok hm=>?_⟩
   obtain ⟨k',rfl⟩:∃ k',k=k'+1:=⟨k - 1,by omega⟩
   have:=List.all_eq_true.1 h1.2 ok (List.mem_of_getElem? (by simpa using hok))
   simp [hm] at this
  | succ i =>
   obtain ⟨h2,h3⟩:=checkTs_ok h.2 i o t v (by simpa using hi) hd hl
   refine ⟨h2,fun k ok hk hok=>?_⟩
   obtain ⟨k',rfl⟩:∃ k',k=k'+1:=⟨k - 1,by omega⟩
   exact h3 k' ok (by omega) (by simpa using hok)
theorem W_D {Γ:Cx} {l:Envl} {M:List HP} {Q:Post} {id:Nat} {draw:Bool} {pre suf:List Oper} (ts:List Nat) (Msh pool:List HP) (hp:List.Perm M (Msh++pool)) (hm:Γ.P.follows .mixedOrders=true)
  (hd:dagB Γ.n (pre++suf).toArray=true) (hsb:sufB (pre++suf).toArray pre.length=true) (hc:checkTs ts l (pre++suf).toArray pre=true)
  (h:DV Γ (pre++suf).toArray Msh pool (initE l) [] [] pre (fun rs cs pool'=>Give ts cs rs l (pool'++Msh) fun l' M'=>L Γ suf l' M' fun l M=>Q .normal l M)):W Γ (.region id (pre++suf).toArray draw) l M Q:=by
 have hdag:=dagB_ok hd
 have hsuf:=sufB_ok hsb
 intro a w ha hw
 obtain ⟨Rs,Mcs,Cs,Ks,CKs,pool',h1,h2,h2',h2k,h2c,h3,h4,h5⟩:=DV_parts pre pool _ _ _ h
 have hsz:(pre++suf).toArray.size=pre.length+suf.length:=by simp
 have htk:(pre++suf).toArray.toList.take pre.length=pre:=by simp
 have hdr:(pre++suf).toArray.toList.drop pre.length=suf:=by simp
 have hpre:∀ (i:Nat) (o:Oper),pre[i]?=some o→(pre++suf).toArray[i]?=some o:=fun i o hi=>by
  have:=(List.getElem?_eq_some_iff.1 hi).1
  have e:(pre++suf)[i]?=some o:=by rw [List.getElem?_append_left this];exact hi
  simpa using e
 have any:∀ w,Holds Γ.w0 Γ.S0 M w→wpAny Γ.P .any (pre++suf).toArray (liftQ Γ Q) (pre++suf).toArray.size (Array.replicate (pre++suf).toArray.size false) a w:=by
  intro w hw
  have hlin:LinOK (pre++suf).toArray pre.length (fun i=>Cs.getD i []) (fun i=>Ks.getD i none):=linB_ok hdag (by rw [hsz];omega) (by omega) (by omega) (fun i o C hi ho hC=>by
   have ho':pre[i]?=some o:=by
    simp only [List.getElem?_toArray] at ho;rw [List.getElem?_append_left hi] at ho;exact ho
   exact (h4 i o Rs[i] Mcs[i] C Ks[i] CKs[i] ho' (List.getElem?_eq_getElem (by omega)) (List.getElem?_eq_getElem (by omega)) hC (List.getElem?_eq_getElem (by omega)) (List.getElem?_eq_getElem (by omega))).1) (fun i o C k hi ho hC hk=>by
   have ho':pre[i]?=some o:=by
    simp only [List.getElem?_toArray] at ho;rw [List.getElem?_append_left hi] at ho;exact ho
   exact ⟨_,(h4 i o Rs[i] Mcs[i] C k CKs[i] ho' (List.getElem?_eq_getElem (by omega)) (List.getElem?_eq_getElem (by omega)) hC hk (List.getElem?_eq_getElem (by omega))).2.1⟩)
  have hmain:=D_any (Γ:=Γ) (ops:=(pre++suf).toArray) (m:=pre.length) (Msh:=Msh) (pool':=pool') (l:=l) (Rs:=Rs) (Mcs:=Mcs) (Cs:=Cs) (Ks:=Ks) (Q:=liftQ Γ Q) hdag (by rw [hsz];omega) h1 h2 h2' h2k hlin hsuf
   (fun i o R Mc C k hi hR hM hC hk=>by
    have:=(List.getElem?_eq_some_iff.1 hR).1
    rw [htk] at hi ⊢;exact (h4 i o R Mc C k CKs[i] hi hR hM hC hk (List.getElem?_eq_getElem (by omega))).2.2) ?_ pre.length (Array.replicate (pre++suf).toArray.size false) a w ?_
  ·rw [show pre.length+((pre++suf).toArray.size - pre.length)=(pre++suf).toArray.size by rw [hsz];omega] at hmain
   exact hmain
  ·intro listed a w hI hall
   rw [hdr]
   obtain ⟨Mr,hM,hold⟩:=hI.mem
   have hget:∀ i d R,((List.zipWith (fun k R=>(k,R)) Ks Rs).reverse++[])[i]?=some (d,R)→∃ j o,i+j+1=pre.length∧pre[j]?=some o∧Ks[j]?=some d∧Rs[j]?=some R:=by
    intro i d R hi
    rw [List.append_nil] at hi
    have hlen:(List.zipWith (fun k R=>(k,R)) Ks Rs).length=pre.length:=by simp [h1,h2k]
    have hlt:i < pre.length:=by have:=(List.getElem?_eq_some_iff.1 hi).1;simpa [h1,h2k] using this
    rw [List.getElem?_reverse (by rw [hlen];exact hlt),hlen] at hi
    have hj:pre.length - 1 - i < Ks.length:=by omega
    have hj':pre.length - 1 - i < Rs.length:=by omega
    simp only [List.getElem?_zipWith,List.getElem?_eq_getElem hj,List.getElem?_eq_getElem hj'] at hi
    simp at hi
    exact ⟨pre.length - 1 - i,pre[pre.length - 1 - i],by omega,List.getElem?_eq_getElem (by omega),by rw [List.getElem?_eq_getElem hj,hi.1],by rw [List.getElem?_eq_getElem hj',hi.2]⟩
   have hput:∀ (j:Nat) (k:Option Nat) (R:Rel),Ks[j]?=some k→Rs[j]?=some R→((List.zipWith (fun k R=>(k,R)) Ks Rs).reverse++[])[pre.length - 1 - j]?=some (k,R):=by
    intro j k R hk hR
    have hjl:=(List.getElem?_eq_some_iff.1 hk).1
    have hlen:(List.zipWith (fun k R=>(k,R)) Ks Rs).length=pre.length:=by simp [h1,h2k]
    rw [List.append_nil,List.getElem?_reverse (by rw [hlen];omega),hlen,show pre.length - 1 - (pre.length - 1 - j)=j by omega]
    simp [List.getElem?_zipWith,hk,hR]
   have hko:∀ (j:Nat) (o:Oper),pre[j]?=some o→∃ C k ck,Cs[j]?=some C∧Ks[j]?=some k∧CKs[j]?=some ck∧KeyOK o.dst C k ck:=by
    intro j o ho
    have:=(List.getElem?_eq_some_iff.1 ho).1
    have e1:Cs[j]?=some Cs[j]:=List.getElem?_eq_getElem (by omega)
    have e2:Ks[j]?=some Ks[j]:=List.getElem?_eq_getElem (by omega)
    have e3:CKs[j]?=some CKs[j]:=List.getElem?_eq_getElem (by omega)
    exact ⟨_,_,_,e1,e2,e3,(h4 j o Rs[j] Mcs[j] _ _ _ ho (List.getElem?_eq_getElem (by omega)) (List.getElem?_eq_getElem (by omega)) e1 e2 e3).2.1⟩
   have hcs:∀ t,t∈(CKs.reverse.flatten++([]:List Nat))↔∃ k,k < pre.length∧t∈CKs.getD k []:=by
    intro t
    rw [List.append_nil]
    simp only [List.mem_flatten,List.mem_reverse]
    constructor
    ·rintro ⟨C,hC,ht⟩
     obtain ⟨k,hk⟩:=List.getElem?_of_mem hC
     exact ⟨k,by have:=(List.getElem?_eq_some_iff.1 hk).1;omega,by simpa [List.getD_eq_getElem?_getD,hk] using ht⟩
    ·rintro ⟨k,hk,ht⟩
     have hk':CKs[k]?=some CKs[k]:=List.getElem?_eq_getElem (by omega)
     rw [List.getD_eq_getElem?_getD,hk'] at ht
     exact ⟨CKs[k],List.mem_of_getElem? hk',ht⟩
   have hckC:∀ k t,k < pre.length→t∈CKs.getD k []→t∈Cs.getD k []:=by
    intro k t hk ht
    obtain ⟨C,k',ck,e1,e2,e3,e4⟩:=hko k _ (List.getElem?_eq_getElem hk)
    simp only [List.getD_eq_getElem?_getD,e1,e3,Option.getD_some] at ht ⊢
    rcases e4 with ⟨_,rfl⟩ | ⟨_,u,rfl,_⟩
    ·exact ht
    ·exact List.mem_cons_of_mem _ ht
   have hone:∀ j k t,j < pre.length→k < pre.length→t∈Cs.getD j []→t∈Cs.getD k []→j=k:=by
    intro j k t hj hk h6 h7
    have hoj:=hpre j _ (List.getElem?_eq_getElem hj)
    have hok:=hpre k _ (List.getElem?_eq_getElem hk)
    exact Nat.le_antisymm (hlin.first j k _ _ t hj hoj hok h6 (hlin.look k _ t hk hok h7)) (hlin.first k j _ _ t hk hok hoj h7 (hlin.look j _ t hj hoj h6))
   have hwr:∀ i k t oi,i < pre.length→k < pre.length→pre[i]?=some oi→oi.dst=some t→t∈Cs.getD k []→i < k:=by
    intro i k t oi hi hk hoi hdst htk'
    have hok:=hpre k _ (List.getElem?_eq_getElem hk)
    obtain ⟨j,h7,h8⟩:=hlin.writer k _ t hk hok htk'
    have hjk:=hdag.before k _ hok j h7
    have hji:j=i:=by
     cases hj:(pre++suf).toArray[j]? with
     | none=>rw [hj] at h8;simp at h8
     | some oj =>
      rw [hj] at h8
      rcases Nat.decEq j i with hne | he
      ·exact (hdag.uniq j i oj oi t hne hj (hpre i oi hoi) hdst (by simpa using h8)).elim
      ·exact he
    subst hji
    exact hjk
   have hgv:=Give_use Γ.n hI.size hI.defers (w:=w) (w0:=Γ.w0) (S0:=Γ.S0) _ _ l (pool'++Msh) h5 ?_ ?_ ?_
   ·obtain ⟨l',M',e1,e2,e3⟩:=hgv
    exact e3 _ a w _ e1 e2 fun a' w' l'' M'' q1 q2 q3=>⟨l'',M'',q1,q2,q3⟩
   ·intro t v ht hno
    refine hI.env t v ht fun i oi hi hil hdst=>?_
    have hilt:i < pre.length:=by
     rcases Nat.lt_or_ge i pre.length with h6 | h6
     ·exact h6
     ·rw [hI.suff i h6] at hil;cases hil
    have hi':pre[i]?=some oi:=by
     simp only [List.getElem?_toArray] at hi;rw [List.getElem?_append_left hilt] at hi;exact hi
    obtain ⟨hc1,hc2⟩:=checkTs_ok hc i oi t v hi' hdst ht
    have hRi:Rs[i]?=some Rs[i]:=List.getElem?_eq_getElem (by omega)
    have hKi:Ks[i]?=some (some t):=by
     obtain ⟨C,k',ck,_,e2,_,e4⟩:=hko i oi hi'
     rcases e4 with ⟨h6,_⟩ | ⟨h6,_⟩
     ·rw [e2,h6,hdst]
     ·rw [hdst] at h6;cases h6
    rcases hno Rs[i] (List.mem_of_getElem? (hput i _ _ hKi hRi)) with h6 | h6
    ·exact h6 hc1
    ·obtain ⟨k,hk,htk'⟩:=(hcs t).1 h6
     have htk2:=hckC k t hk htk'
     have h7:=hwr i k t oi hilt hk hi' hdst htk2
     exact hc2 k _ h7 (List.getElem?_eq_getElem hk) (hlin.look k _ t hk (hpre k _ (List.getElem?_eq_getElem hk)) htk2)
   ·intro t R hmm
    obtain ⟨i,hi⟩:=List.getElem?_of_mem hmm
    obtain ⟨j,o,_,h6,h7,_⟩:=hget i _ R hi
    obtain ⟨C,k',ck,e1,e2,_,e4⟩:=hko j o h6
    rw [h7] at e2;cases e2
    have hjl:=(List.getElem?_eq_some_iff.1 h6).1
    rcases e4 with ⟨h8,_⟩ | ⟨_,u,h8,h9⟩
    ·exact hdag.small j o t (hpre j o h6) h8.symm
    ·cases h9
     obtain ⟨j',h10,h11⟩:=hlin.writer j o t hjl (hpre j o h6) (by rw [List.getD_eq_getElem?_getD,e1,h8];exact List.mem_cons_self ..)
     cases hj:(pre++suf).toArray[j']? with
     | none=>rw [hj] at h11;simp at h11
     | some oj=>rw [hj] at h11;exact hdag.small j' oj t hj (by simpa using h11)
   ·refine ⟨((List.range pre.length).map fun j=>if czd (pre++suf).toArray pre.length (fun i=>Cs.getD i []) listed j then [] else Mr j).reverse,by simp [h1,h2k],?_,fun i d R m hi hmm=>?_⟩
    ·refine hM.perm ((List.Perm.append_left _ List.perm_append_comm).trans (List.Perm.append_right _ ?_))
     have e:((List.range pre.length).flatMap fun i=>if listed.getD i false then (if czd (pre++suf).toArray pre.length (fun i=>Cs.getD i []) listed i then [] else Mr i) else Mcs.getD i [])=((List.range pre.length).map fun j=>if czd (pre++suf).toArray pre.length (fun i=>Cs.getD i []) listed j then [] else Mr j).flatten:=by
      rw [List.flatMap_def]
      refine congrArg List.flatten ?_
      exact List.map_congr_left fun i hi=>by rw [if_pos (hall i (List.mem_range.1 hi))]
     rw [e]
     exact (List.reverse_perm _).symm.flatten
    ·obtain ⟨j,o,h6,h7,h8,h9⟩:=hget i d R hi
     have hj:j < pre.length:=by omega
     have hm':m=if czd (pre++suf).toArray pre.length (fun i=>Cs.getD i []) listed j then [] else Mr j:=by
      rw [List.getElem?_reverse (by simp;omega)] at hmm
      simp only [List.length_map,List.length_range,List.getElem?_map] at hmm
      rw [show pre.length - 1 - i=j by omega,List.getElem?_range hj] at hmm
      simpa using hmm.symm
     have hczd:∀ t,o.dst=some t→(czd (pre++suf).toArray pre.length (fun i=>Cs.getD i []) listed j=true↔∃ k,k < pre.length∧t∈Cs.getD k []):=by
      intro t hot
      unfold czd
      rw [hpre j o h7]
      simp only [Option.bind_some,hot,List.any_eq_true,List.mem_range,Bool.and_eq_true]
      constructor
      ·rintro ⟨k,hk,_,hk2⟩;exact ⟨k,hk,elem_iff.1 hk2⟩
      ·rintro ⟨k,hk,hk2⟩;exact ⟨k,hk,hall k hk,elem_iff.2 hk2⟩
     have hczn:o.dst=none→czd (pre++suf).toArray pre.length (fun i=>Cs.getD i []) listed j=false:=fun hdst=>by
      unfold czd;rw [hpre j o h7];simp [hdst]
     obtain ⟨C,k',ck,e1,e2,e3,e4⟩:=hko j o h7
     rw [h8] at e2;cases e2
     have hhold:=hold j o (hpre j o h7) (hall j hj)
     simp only [List.getD_eq_getElem?_getD,h9,h8,Option.getD_some] at hhold
     refine ⟨fun hdn=>?_,fun t hdt htc=>?_,fun t hdt htc hts hno=>?_⟩
     ·subst hdn
      rcases e4 with ⟨h10,_⟩ | ⟨h10,u,_,h11⟩
      ·rw [hczn h10.symm] at hm'
       simp only [Bool.false_eq_true,if_false] at hm'
       subst hm';exact hhold
      ·cases h11
     ·subst hdt
      obtain ⟨k,hk,htk'⟩:=(hcs t).1 htc
      rcases e4 with ⟨h10,_⟩ | ⟨h10,u,h11,h12⟩
      ·rw [hm',(hczd t h10.symm).2 ⟨k,hk,hckC k t hk htk'⟩,if_pos rfl]
      ·exfalso
       cases h12
       have htj:t∈Cs.getD j []:=by rw [List.getD_eq_getElem?_getD,e1,h11];exact List.mem_cons_self ..
       have:=hone j k t hj hk htj (hckC k t hk htk')
       subst this
       have hnd:=hlin.nodup j hj
       simp only [List.getD_eq_getElem?_getD,e1,h11,Option.getD_some] at hnd
       simp only [List.getD_eq_getElem?_getD,e3,Option.getD_some] at htk'
       exact (List.nodup_cons.1 hnd).1 htk'
     ·subst hdt
      have hcf:czd (pre++suf).toArray pre.length (fun i=>Cs.getD i []) listed j=false:=by
       rcases e4 with ⟨h10,_⟩ | ⟨h10,_⟩
       ·cases hcz:czd (pre++suf).toArray pre.length (fun i=>Cs.getD i []) listed j with
        | false=>rfl
        | true =>
         exfalso
         obtain ⟨k,hk,htk'⟩:=(hczd t h10.symm).1 hcz
         have hjk:=hwr j k t o hj hk h7 h10.symm htk'
         obtain ⟨Ck,kk,ckk,f1,f2,f3,f4⟩:=hko k _ (List.getElem?_eq_getElem hk)
         rcases f4 with ⟨_,f5⟩ | ⟨_,u,f5,f6⟩
         ·subst f5
          exact htc ((hcs t).2 ⟨k,hk,by simpa only [List.getD_eq_getElem?_getD,f1,f3] using htk'⟩)
         ·simp only [List.getD_eq_getElem?_getD,f1,f5,Option.getD_some] at htk'
          rcases List.mem_cons.1 htk' with h11 | h11
          ·subst h11
           have hRk:Rs[k]?=some Rs[k]:=List.getElem?_eq_getElem (by omega)
           exact hno (pre.length - 1 - k) (by omega) Rs[k] (hput k _ _ (by rw [f2,f6]) hRk)
          ·exact htc ((hcs t).2 ⟨k,hk,by simpa only [List.getD_eq_getElem?_getD,f3,Option.getD_some] using h11⟩)
       ·exact hczn h10
      rw [hcf] at hm'
      simp only [Bool.false_eq_true,if_false] at hm'
      subst hm'
      exact hhold
  ·refine ⟨by simp,?_,fun j hj=>?_,ha.size,ha.defers,fun i oi _ hl=>?_,fun t v ht _=>ha.get t v ht,fun _=>[],?_,fun i oi _ hl=>?_⟩
   ·rw [List.filter_eq_self.2]
    ·simp
    ·intro i hi
     have:=List.mem_range.1 hi
     have h7:i < pre.length+suf.length:=by omega
     simp [Array.getD_eq_getD_getElem?,Array.getElem?_replicate,h7]
   ·simp only [Array.getD_eq_getD_getElem?,Array.getElem?_replicate];split<;>rfl
   ·simp [Array.getD_eq_getD_getElem?,Array.getElem?_replicate] at hl;split at hl<;>simp at hl
   ·refine (hw.perm hp).perm ?_
    have e:((List.range pre.length).flatMap fun i=>if (Array.replicate (pre++suf).toArray.size false).getD i false=true then (if czd (pre++suf).toArray pre.length (fun i=>Cs.getD i []) (Array.replicate (pre++suf).toArray.size false) i then [] else []) else Mcs.getD i [])=Mcs.flatten:=by
     rw [List.flatMap_def]
     refine congrArg List.flatten (List.ext_getElem? fun i=>?_)
     simp only [List.getElem?_map]
     by_cases hi:i < pre.length
     ·rw [List.getElem?_range hi]
      have:Mcs[i]?=some Mcs[i]:=List.getElem?_eq_getElem (by omega)
      have h7:i < pre.length+suf.length:=by omega
      simp [Array.getD_eq_getD_getElem?,Array.getElem?_replicate,h7,List.getD_eq_getElem?_getD,this]
     ·rw [List.getElem?_eq_none (by simpa using hi),List.getElem?_eq_none (by omega)];rfl
    rw [e]
    refine (List.Perm.append_left Msh h3).trans ?_
    rw [← List.append_assoc,← List.append_assoc]
    exact List.Perm.append_right _ List.perm_append_comm
   ·simp [Array.getD_eq_getD_getElem?,Array.getElem?_replicate] at hl;split at hl<;>simp at hl
 cases draw with
 | true=>exact wp_region_any hm (any _ ⟨hw.os,⟨hw.tape.1,Nat.le_succ_of_le hw.tape.2⟩,hw.output,hw.size,hw.old,fun h hh=>h.st w _ (fun _ _=>rfl) (hw.prs h hh),hw.nodup,hw.rng⟩)
 | false =>
  refine wp_region ?_
  rw [List.range_eq_range']
  refine D_lex hdag _ 0 _ a w (by simp) (by simp) (fun j hj=>?_) (any w hw)
  rw [Array.getD_eq_getD_getElem?,Array.getElem?_replicate]
  split<;>simp
theorem DV_mono {Γ:Cx} {ops:Array Oper} {Msh:List HP} {K K':RKont} (hk:∀ rs cs pool,K rs cs pool→K' rs cs pool):∀ (rest:List Oper) (pool:List HP) (E:Fl) (rs:List (Option Nat×Rel)) (cs:List Nat),DV Γ ops Msh pool E rs cs rest K→DV Γ ops Msh pool E rs cs rest K'
 | [],_,_,_,_,h=>hk _ _ _ h
 | _::rest,_,_,_,_,⟨R,Mc,pool',C,k,ck,h1,h2,h3,h4,h5⟩=>⟨R,Mc,pool',C,k,ck,h1,h2,h3,h4,DV_mono hk rest _ _ _ _ h5⟩
theorem Give_mono {cs:List Nat} {K K':Kont} (hk:∀ l M,K l M→K' l M):∀ (rs:List (Option Nat×Rel)) (ts:List Nat) (l:Envl) (M:List HP),Give ts cs rs l M K→Give ts cs rs l M K'
 | [],_,l,M,h=>hk l M h
 | (none,R)::rs,_,l,M,h=>fun Mr hr=>Give_mono hk rs _ _ _ (h Mr hr)
 | (some t,R)::rs,ts,l,M,h=>by
  simp only [Give] at h ⊢
  split
  ·rename_i he;rw [he] at h;exact Give_mono hk rs _ _ _ h
  ·rename_i he
   rw [he] at h
   split
   ·rename_i hf;rw [hf] at h;exact fun v Mr hr=>Give_mono hk rs _ _ _ (h v Mr hr)
   ·rename_i hf;rw [hf] at h;exact Give_mono hk rs _ _ _ h
theorem W_D0 {Γ:Cx} {l:Envl} {M:List HP} {Q:Post} {id:Nat} {draw:Bool} {pre:List Oper} (ts:List Nat) (hm:Γ.P.follows .mixedOrders=true)
  (hd:dagB Γ.n pre.toArray=true) (hc:checkTs ts l pre.toArray pre=true)
  (h:DV Γ pre.toArray M [] (initE l) [] [] pre (fun rs cs pool'=>Give ts cs rs l (pool'++M) fun l' M'=>Q .normal l' M')):W Γ (.region id pre.toArray draw) l M Q:=by
 have e:pre++[]=pre:=List.append_nil pre
 have:=W_D (Q:=Q) (id:=id) (draw:=draw) (pre:=pre) (suf:=[]) (M:=M) ts M [] (by simp) hm (by rw [e];exact hd) (by
  rw [e]
  refine List.all_eq_true.2 fun i hi=>?_
  have:=List.mem_range.1 hi
  simp at this
  simp [this]) (by rw [e];exact hc) (by
  rw [e]
  refine DV_mono ?_ pre _ _ _ _ h
  intro rs cs pool' hg
  exact Give_mono (fun l' M' hq=>L_nil hq) rs _ _ _ hg)
 rw [e] at this;exact this
end Go.Proofs.SL
