/- The texts of the proof, part 2. -/
import Derived.Test.YthlbpedehajlgaaGreatT1
set_option linter.all false
namespace Go.Proofs.SL
open Go
abbrev Rel:=Value→List HP→Prop
abbrev Fl:=List (Nat×Rel)
def FC (c:Prop) (x:Value):Rel:=fun v M=>M=[]∧(c→v=x)∧(¬ c→v=undef)
def ons (o:Oper):List Nat:=(o.after.toList.filter (Region.binds .any)).map (·.on)
def eY (n:Nat) (ops:Array Oper):Bool :=
 (List.range ops.size).all fun i =>
  match ops[i]? with
  | none=>false
  | some oi =>
   (ons oi).all (fun j=>decide (j < i)) &&
   (match oi.dst with | some d=>decide (d < n) | none=>true) &&
   (List.range ops.size).all fun j =>
    j == i ||
    match ops[j]? with
    | none=>false
    | some oj =>
     match oj.dst with
     | none=>true
     | some t=>oi.dst != some t&&(!(oi.looksAt ops).contains t||(if j < i then (ons oi).contains j else (ons oj).contains i))
structure DagOK (n:Nat) (ops:Array Oper):Prop where
 before:∀ (i:Nat) (oi:Oper),ops[i]?=some oi→∀ j,j∈ons oi→j < i
 small:∀ (i:Nat) (oi:Oper) (d:Nat),ops[i]?=some oi→oi.dst=some d→d < n
 uniq:∀ (i j:Nat) (oi oj:Oper) (t:Nat),i≠j→ops[i]?=some oi→ops[j]?=some oj→oj.dst=some t→oi.dst≠some t
 look:∀ (i j:Nat) (oi oj:Oper) (t:Nat),i≠j→ops[i]?=some oi→ops[j]?=some oj→oj.dst=some t→t∈oi.looksAt ops→(j < i∧j∈ons oi)∨(i < j∧i∈ons oj)
theorem qQ {n:Nat} {ops:Array Oper} (h:eY n ops=true):DagOK n ops:=by
 have key:∀ i oi,ops[i]?=some oi→(ons oi).all (fun j=>decide (j < i))=true∧(match oi.dst with | some d=>decide (d < n) | none=>true)=true ∧
   ∀ j oj,ops[j]?=some oj→j≠i→∀ t,oj.dst=some t→oi.dst≠some t∧(t∈oi.looksAt ops→if j < i then j∈ons oi else i∈ons oj):=by
  intro i oi hi;have hlt:=(aB7.1 hi).1;have h1:=aAw.1 h i (aAv.2 hlt);simp only [hi,aAg] at h1;refine ⟨h1.1.1,h1.1.2,fun j oj hj hne t ht=>?_⟩;have hltj:=(aB7.1 hj).1;have h2:=aAw.1 h1.2 j (aAv.2 hltj);simp only [hj,ht,aBg,beq_iff_eq,hne,false_or,aAg,bne_iff_ne,aB4,aF4,aAm] at h2;refine ⟨h2.1,fun hm=>?_⟩;have h3:=h2.2.resolve_left (fun h=>h hm);by_cases hji:j < i
  ·rw [if_pos hji] at h3 ⊢;simpa using h3
  ·rw [if_neg hji] at h3 ⊢;simpa using h3
 refine ⟨fun i oi hi j hj=>?_,fun i oi d hi hd=>?_,fun i j oi oj t hne hi hj ht=>((key i oi hi).2.2 j oj hj (Ne.symm hne) t ht).1,fun i j oi oj t hne hi hj ht hm=>?_⟩
 ·have:=aAw.1 (key i oi hi).1 j hj;simpa using this
 ·have:=(key i oi hi).2.1;simp only [hd,aAd] at this;exact this
 ·have:=((key i oi hi).2.2 j oj hj (Ne.symm hne) t ht).2 hm;split at this
  ·exact .inl ⟨‹_›,this⟩
  ·exact .inr ⟨by omega,this⟩
def Yl (Γ:Cx) (dst:Option Nat) (F:List HP) (R:Rel):Result Next→Prop
 | .ok (.value v) w'=>∃ Mr,R (dst.elim undef fun _=>v) Mr∧Holds Γ.w0 Γ.S0 (Mr++F) w'
 | .ok .skip w'=>∃ Mr,R undef Mr∧Holds Γ.w0 Γ.S0 (Mr++F) w'
 | .ok (.enter f args) w'=>Calls Γ.P f args w' fun e w''=>∃ v Mr,e=.returned v∧R (dst.elim undef fun _=>v) Mr∧Holds Γ.w0 Γ.S0 (Mr++F) w''
 | _=>False
def LE (E:Fl) (ts:List Nat) (F:List HP) (a:Act):Prop:=∀ t R,t∈ts→E.lookup t=some R→∃ M,R (a.tmps.getD t undef) M∧∀ h,h∈M→h∈F
def YF (E:Fl) (a:Act):List Nat→List HP→Prop
 | [],Mk=>Mk=[]
 | t::ts,Mk=>∃ M Mk',Mk=M++Mk'∧(∀ R,E.lookup t=some R→R (a.tmps.getD t undef) M)∧YF E a ts Mk'
def wk (R:Rel):Rel:=fun v M=>M=[]∧∃ M',R v M'
def Eb (cons:List Nat):Fl→Fl
 | []=>[]
 | (t,R)::E=>match cons.elem t with
  | true=>(t,wk R)::Eb cons E
  | false=>(t,R)::Eb cons E
def tV (R0 R:Rel):Prop:=∀ v,(∃ M,R0 v M)→R v []
def VB (Γ:Cx) (ops:Array Oper) (Msh:List HP) (E:Fl) (cons:List Nat) (o:Oper) (Mc:List HP) (Ra:Act→Rel):Prop :=
 ∀ a w F Mk,a.tmps.size=Γ.n→a.defers=[]→Holds Γ.w0 Γ.S0 (Mc++(Mk++F)) w→(∀ h,h∈Msh→h∈F)→LE (Eb cons E) (o.looksAt ops) F a→YF E a cons Mk →
  if Region.wanted o (yielded ops a.tmps) then Yl Γ o.dst F (Ra a) ((execOp a.eval o).run Γ.P w) else Ra a undef (Mc++Mk)
abbrev tW (Γ:Cx) (ops:Array Oper) (Msh:List HP) (E:Fl) (cons:List Nat) (o:Oper) (Mc:List HP) (R:Rel):Prop:=VB Γ ops Msh E cons o Mc fun _=>R
def WQ (d k:Option Nat) (R:Rel):Act→Rel:=fun a v M=>match d,k with
 | none,some t=>R (a.tmps.getD t undef) M
 | _,_=>R v M
def YG (d:Option Nat) (C:List Nat) (k:Option Nat) (ck:List Nat):Prop:=(k=d∧ck=C)∨(d=none∧∃ t,C=t::ck∧k=some t)
def TZ (o:Oper) (R:Rel) (E:Fl):Fl:=match o.dst with | some d=>(d,R)::E | none=>E
def IC (ops:Array Oper) (o:Oper) (cons:List Nat):Bool :=
 cons.all fun t=>(o.looksAt ops).contains t&&((ops.toList.filter fun o'=>(o'.looksAt ops).contains t).length == 1||(o.dst.isSome&&(ops.toList.find? fun o'=>(o'.looksAt ops).contains t).bind (·.dst) == o.dst))&&(cons.filter (· == t)).length == 1&&(ons o).any fun j=>(ops[j]?).bind (·.dst) == some t
abbrev Gx:=List (Option Nat×Rel)→List Nat→List HP→Prop
def DV (Γ:Cx) (ops:Array Oper) (Msh:List HP):(pool:List HP)→(E:Fl)→(rs:List (Option Nat×Rel))→(cs:List Nat)→List Oper→(K:Gx)→Prop
 | pool,_,rs,cs,[],K=>K rs cs pool
 | pool,E,rs,cs,o::rest,K=>∃ R Mc pool' cons k ck,List.Perm pool (Mc++pool')∧IC ops o cons=true∧YG o.dst cons k ck∧VB Γ ops Msh E cons o Mc (WQ o.dst k R)∧DV Γ ops Msh pool' (TZ o R (Eb cons E)) ((k,R)::rs) (ck++cs) rest K
theorem XM {d:Option Nat} {R:Rel}:WQ d d R=fun _=>R:=by
 cases d<;>rfl
theorem DV.mk {Γ:Cx} {ops:Array Oper} {Msh pool:List HP} {E:Fl} {rs:List (Option Nat×Rel)} {cs:List Nat} {o:Oper} {rest:List Oper} {K:Gx} (R:Rel) (Mc pool':List HP) (cons:List Nat) (h1:List.Perm pool (Mc++pool')) (h2:IC ops o cons=true)
  (h3:tW Γ ops Msh E cons o Mc R) (h4:DV Γ ops Msh pool' (TZ o R (Eb cons E)) ((o.dst,R)::rs) (cons++cs) rest K):DV Γ ops Msh pool E rs cs (o::rest) K :=
 ⟨R,Mc,pool',cons,o.dst,cons,h1,h2,.inl ⟨rfl,rfl⟩,by rw [XM];exact h3,h4⟩
theorem DV.mkK {Γ:Cx} {ops:Array Oper} {Msh pool:List HP} {E:Fl} {rs:List (Option Nat×Rel)} {cs:List Nat} {o:Oper} {rest:List Oper} {K:Gx} (R:Rel) (Mc pool':List HP) (t:Nat) (cons:List Nat) (hd:o.dst=none) (h1:List.Perm pool (Mc++pool')) (h2:IC ops o (t::cons)=true)
  (h3:VB Γ ops Msh E (t::cons) o Mc (fun a _ M=>R (a.tmps.getD t undef) M)) (h4:DV Γ ops Msh pool' (Eb (t::cons) E) ((some t,R)::rs) (cons++cs) rest K):DV Γ ops Msh pool E rs cs (o::rest) K :=
 ⟨R,Mc,pool',t::cons,some t,cons,h1,h2,.inr ⟨hd,t,rfl,rfl⟩,by rw [hd];exact h3,by unfold TZ;rw [hd];exact h4⟩
def Ov (l:BR):Fl:=l.map fun p=>(p.1,FC True p.2)
theorem Zb (l:BR) (t:Nat) (R:Rel) (h:(Ov l).lookup t=some R):∃ v,l.lookup t=some v∧R=FC True v:=by
 induction l with
 | nil=>simp [Ov] at h
 | cons p l ih =>
  obtain ⟨s,u⟩:=p;simp only [Ov,aE2,aBh] at h ⊢
  cases hs:t == s with
  | true=>rw [hs] at h;cases h;exact ⟨_,rfl,rfl⟩
  | false=>rw [hs] at h;exact ih h
theorem Tj (cons:List Nat) (E:Fl) (t:Nat) (R:Rel) (h:(Eb cons E).lookup t=some R):∃ R0,E.lookup t=some R0∧((t ∉ cons∧R=R0)∨(t∈cons∧R=wk R0)):=by
 induction E with
 | nil=>simp [Eb] at h
 | cons p E ih =>
  obtain ⟨s,u⟩:=p;simp only [Eb] at h;simp only [aBh]
  cases he:t == s with
  | true =>
   simp only [beq_iff_eq] at he;subst he;refine ⟨u,rfl,?_⟩;split at h
   ·rename_i hs;simp only [aBh,beq_self_eq_true] at h;cases h;exact .inr ⟨aEq hs,rfl⟩
   ·rename_i hs;simp only [aBh,beq_self_eq_true] at h;cases h;refine .inl ⟨fun hm=>?_,rfl⟩;rw [aEr hm] at hs;cases hs
  | false =>
   refine ih ?_;split at h<;>(simp only [aBh,he] at h;exact h)
def rmN (t:Nat) (ts:List Nat):List Nat:=ts.filter fun x=>!(x == t)
theorem WR {t x:Nat} {ts:List Nat}:x∈rmN t ts↔x∈ts∧x≠t:=by
 unfold rmN;rw [aAs];simp
def Fs (ts:List Nat) (cs:List Nat):List (Option Nat×Rel)→BR→List HP→CW→Prop
 | [],l,M,K=>K l M
 | (some t,R)::rs,l,M,K=>match cs.elem t with
  | true=>Fs ts cs rs l M K
  | false=>match ts.elem t with
   | true=>∀ v Mr,R v Mr→Fs (rmN t ts) cs rs ((t,v)::l) (Mr++M) K
   | false=>Fs ts cs rs l M K
 | (none,R)::rs,l,M,K=>∀ Mr,R undef Mr→Fs ts cs rs l (Mr++M) K
def Nh (E:Fl):List Oper→List Rel→List (List Nat)→Nat→Fl
 | o::os,R::Rs,C::Cs,i+1=>Nh (TZ o R (Eb C E)) os Rs Cs i
 | _,_,_,_=>E
theorem Zc {o:Oper} {R R':Rel} {E:Fl} {t:Nat} (h:(TZ o R E).lookup t=some R'):(o.dst=some t∧R'=R)∨(o.dst≠some t∧E.lookup t=some R'):=by
 unfold TZ at h;split at h
 ·rename_i d hd;simp only [aBh] at h
  cases he:t == d with
  | true=>rw [he] at h;simp only [beq_iff_eq] at he;subst he;cases h;exact .inl ⟨hd,rfl⟩
  | false=>rw [he] at h;refine .inr ⟨?_,h⟩;rw [hd];intro e;cases e;simp at he
 ·rename_i hd;exact .inr ⟨(by rw [hd];intro e;cases e),h⟩
theorem OZ:∀ (os:List Oper) (Rs:List Rel) (Cs:List (List Nat)) (E:Fl) (i t:Nat) (R:Rel),os.length=Rs.length→os.length=Cs.length→i≤os.length→(Nh E os Rs Cs i).lookup t=some R →
  (∃ j o R0,j < i∧os[j]?=some o∧o.dst=some t∧Rs[j]?=some R0∧((R=R0∧∀ k C,j < k→k < i→Cs[k]?=some C→t ∉ C)∨((∃ k C,j < k∧k < i∧Cs[k]?=some C∧t∈C)∧tV R0 R))) ∨
   ((∀ j o,j < i→os[j]?=some o→o.dst≠some t)∧∃ R0,E.lookup t=some R0∧((R=R0∧∀ k C,k < i→Cs[k]?=some C→t ∉ C)∨((∃ k C,k < i∧Cs[k]?=some C∧t∈C)∧tV R0 R)))
 | _,_,_,E,0,t,R,_,_,_,h=>by
  have:E.lookup t=some R:=by simpa [Nh] using h
  exact .inr ⟨fun j o hj=>by omega,R,this,.inl ⟨rfl,fun k C hk=>by omega⟩⟩
 | [],_,_,E,i+1,t,R,_,_,hi,h=>by simp at hi
 | o::os,[],_,E,i+1,t,R,hl,_,_,_=>by simp at hl
 | o::os,_,[],E,i+1,t,R,_,hl,_,_=>by simp at hl
 | o::os,R0::Rs,C::Cs,E,i+1,t,R,hl,hl2,hi,h=>by
  simp only [Nh] at h;rcases OZ os Rs Cs _ i t R (by simpa using hl) (by simpa using hl2) (by simpa using hi) h with ⟨j,o',R1,hj,h1,h2,h3,h4⟩ | ⟨h1,R1,h2,h4⟩
  ·refine .inl ⟨j+1,o',R1,by omega,by simpa using h1,h2,by simpa using h3,?_⟩;rcases h4 with ⟨h5,h6⟩ | ⟨⟨k,C',h5,h6,h7,h8⟩,h9⟩
   ·refine .inl ⟨h5,fun k C' hk hk2 hC=>?_⟩;obtain ⟨k',rfl⟩:∃ k',k=k'+1:=⟨k - 1,by omega⟩;exact h6 k' C' om om (by simpa using hC)
   ·exact .inr ⟨⟨k+1,C',by omega,by omega,by simpa using h7,h8⟩,h9⟩
  ·rcases Zc h2 with ⟨h3,h5⟩ | ⟨h3,h5⟩
   ·subst h5;refine .inl ⟨0,o,R1,by omega,by simp,h3,by simp,?_⟩;rcases h4 with ⟨h5,h6⟩ | ⟨⟨k,C',h6,h7,h8⟩,h9⟩
    ·refine .inl ⟨h5,fun k C' hk hk2 hC=>?_⟩;obtain ⟨k',rfl⟩:∃ k',k=k'+1:=⟨k - 1,by omega⟩;exact h6 k' C' om (by simpa using hC)
    ·exact .inr ⟨⟨k+1,C',by omega,by omega,by simpa using h7,h8⟩,h9⟩
   ·refine .inr ⟨fun j o' hj ho'=>?_,?_⟩
    ·cases j with
     | zero=>simp at ho';subst ho';exact h3
     | succ j=>exact h1 j o' om (by simpa using ho')
    ·obtain ⟨R2,h6,h7⟩:=Tj _ _ _ _ h5;refine ⟨R2,h6,?_⟩;rcases h7 with ⟨h7,rfl⟩ | ⟨h7,rfl⟩
     ·rcases h4 with ⟨h8,h9⟩ | ⟨⟨k,C',h8,h9,h10⟩,h11⟩
      ·refine .inl ⟨h8,fun k C' hk hC=>?_⟩
       cases k with
       | zero=>simp at hC;subst hC;exact h7
       | succ k=>exact h9 k C' om (by simpa using hC)
      ·exact .inr ⟨⟨k+1,C',by omega,by simpa using h9,h10⟩,h11⟩
     ·refine .inr ⟨⟨0,C,by omega,by simp,h7⟩,?_⟩;rcases h4 with ⟨rfl,_⟩ | ⟨_,h11⟩
      ·exact fun v hv=>⟨rfl,hv⟩
      ·exact fun v hv=>h11 v ⟨[],rfl,hv⟩
theorem Zd {Γ:Cx} {ops:Array Oper} {Msh:List HP} {K:Gx}:∀ (rest:List Oper) (pool:List HP) (E:Fl) (rs:List (Option Nat×Rel)) (cs:List Nat),DV Γ ops Msh pool E rs cs rest K →
  ∃ (Rs:List Rel) (Mcs:List (List HP)) (Cs:List (List Nat)) (Ks:List (Option Nat)) (CKs:List (List Nat)) (pool':List HP),Rs.length=rest.length∧Mcs.length=rest.length∧Cs.length=rest.length∧Ks.length=rest.length∧CKs.length=rest.length∧List.Perm pool (Mcs.flatten++pool') ∧
   (∀ i o R Mc C k ck,rest[i]?=some o→Rs[i]?=some R→Mcs[i]?=some Mc→Cs[i]?=some C→Ks[i]?=some k→CKs[i]?=some ck→IC ops o C=true∧YG o.dst C k ck∧VB Γ ops Msh (Nh E rest Rs Cs i) C o Mc (WQ o.dst k R)) ∧
   K ((List.zipWith (fun k R=>(k,R)) Ks Rs).reverse++rs) (CKs.reverse.flatten++cs) pool'
 | [],pool,E,rs,cs,h=>⟨[],[],[],[],[],pool,rfl,rfl,rfl,rfl,rfl,by simp,fun i o R Mc C k ck hi=>by simp at hi,by simpa [DV] using h⟩
 | o::rest,pool,E,rs,cs,h=>by
  obtain ⟨R,Mc,pool',C,k,ck,hp,hlin,hk,hs,hd⟩:=h;obtain ⟨Rs,Mcs,Cs,Ks,CKs,pool'',h1,h2,h2',h2k,h2c,h3,h4,h5⟩:=Zd rest pool' _ _ _ hd;refine ⟨R::Rs,Mc::Mcs,C::Cs,k::Ks,ck::CKs,pool'',by simp [h1],by simp [h2],by simp [h2'],by simp [h2k],by simp [h2c],?_,fun i o' R' Mc' C' k' ck' hi hR hM hC hK hCK=>?_,by simpa using h5⟩
  ·simp only [aD3,aAh];exact hp.trans (h3.append_left Mc)
  ·cases i with
   | zero=>simp at hi hR hM hC hK hCK;subst hi;subst hR;subst hM;subst hC;subst hK;subst hCK;exact ⟨hlin,hk,by simpa [Nh] using hs⟩
   | succ i=>simpa [Nh] using h4 i o' R' Mc' C' k' ck' (by simpa using hi) (by simpa using hR) (by simpa using hM) (by simpa using hC) (by simpa using hK) (by simpa using hCK)
theorem Fy {listed:Array Bool} {i j:Nat} (d:Bool) (hi:i < listed.size):(listed.setIfInBounds i true).getD j d=if j=i then true else listed.getD j d:=by
 by_cases h:j=i
 ·subst h;simp [aAo,hi]
 ·rw [if_neg h,getD_set_ne d (Ne.symm h)]
theorem PW {α:Type} [DecidableEq α] (A B:List α) (hA:A.Nodup) (hB:B.Nodup) (hs:∀ x,x∈A→x∈B):List.Perm B (A++B.filter fun x=>!A.elem x):=by
 refine List.perm_iff_count.2 fun x=>?_;rw [List.count_append];by_cases hx:x∈A
 ·have h1:List.count x B=1:=hB.count.trans (by rw [if_pos (hs x hx)]);have h2:List.count x A=1:=hA.count.trans (by rw [if_pos hx]);have h3:List.count x (B.filter fun x=>!A.elem x)=0:=aFj.2 fun hm=>by
   have:=(aAs.1 hm).2;rw [aEr hx] at this;cases this
  omega
 ·have h2:List.count x A=0:=aFj.2 hx;have h3:List.count x (B.filter fun x=>!A.elem x)=List.count x B:=by
   rw [List.count_filter];have:A.elem x=false:=by
    cases he:A.elem x with
    | true=>exact (hx (aEq he)).elim
    | false=>rfl
   rw [this];rfl
  omega
def czd (ops:Array Oper) (m:Nat) (Cf:Nat→List Nat) (listed:Array Bool) (j:Nat):Bool :=
 match (ops[j]?).bind (·.dst) with
 | some t=>(List.range m).any fun k=>listed.getD k false&&(Cf k).elem t
 | none=>false
def kv (a:Act):Option Nat→Value
 | some d=>a.tmps.getD d undef
 | none=>undef
theorem qR {d k:Option Nat} {R:Rel} {a:Act} {v:Value} {M:List HP} (hk:k=d∨(d=none∧∃ t,k=some t)) (hd:∀ t,d=some t→t < a.tmps.size) (h:WQ d k R a (d.elim undef fun _=>v) M):R (kv (a.put d v) k) M:=by
 rcases hk with rfl | ⟨rfl,t,rfl⟩
 ·rw [XM] at h
  cases k with
  | none=>exact h
  | some t =>
   have:=hd t rfl;simp only [kv,Act.put,aAo];rw [aEf this];exact h
 ·exact h
structure DInv (Γ:Cx) (ops:Array Oper) (m:Nat) (Msh pool:List HP) (l:BR) (Rf:Nat→Rel) (Mc:Nat→List HP) (Cf:Nat→List Nat) (Kf:Nat→Option Nat) (fuel:Nat) (listed:Array Bool) (a:Act) (w:World):Prop where
 lsize:listed.size=ops.size
 count:((List.range m).filter fun i=>!listed.getD i true).length=fuel
 suff:∀ (j:Nat),m≤j→listed.getD j false=false
 size:a.tmps.size=Γ.n
 defers:a.defers=[]
 closed:∀ (i:Nat) (oi:Oper),ops[i]?=some oi→listed.getD i false=true→∀ j,j∈ons oi→listed.getD j false=true
 env:∀ t v,l.lookup t=some v→(∀ (i:Nat) (oi:Oper),ops[i]?=some oi→listed.getD i false=true→oi.dst≠some t)→a.tmps[t]?=some v
 mem:∃ Mr:Nat→List HP,Holds Γ.w0 Γ.S0 (((List.range m).flatMap fun i=>if listed.getD i false then (if czd ops m Cf listed i then [] else Mr i) else Mc i)++(Msh++pool)) w ∧
  ∀ (i:Nat) (oi:Oper),ops[i]?=some oi→listed.getD i false=true→Rf i (kv a (Kf i)) (Mr i)
structure LinOK (ops:Array Oper) (m:Nat) (Cf:Nat→List Nat) (Kf:Nat→Option Nat):Prop where
 look:∀ (i:Nat) (oi:Oper) (t:Nat),i < m→ops[i]?=some oi→t∈Cf i→t∈oi.looksAt ops
 first:∀ (i j:Nat) (oi oj:Oper) (t:Nat),i < m→ops[i]?=some oi→ops[j]?=some oj→t∈Cf i→t∈oj.looksAt ops→i≤j
 nodup:∀ (i:Nat),i < m→(Cf i).Nodup
 writer:∀ (i:Nat) (oi:Oper) (t:Nat),i < m→ops[i]?=some oi→t∈Cf i→∃ j,j∈ons oi∧(ops[j]?).bind (·.dst)=some t
 key:∀ (i:Nat) (oi:Oper),i < m→ops[i]?=some oi→Kf i=oi.dst∨(oi.dst=none∧∃ t,Kf i=some t∧t∈Cf i)
theorem HH {α:Type} (p:α→Bool):∀ (l:List α) (x:α),l.find? p=some x→∃ k:Nat,l[k]?=some x∧∀ (j:Nat) (y:α),l[j]?=some y→p y=true→k≤j
 | [],x,h=>by simp at h
 | a::l,x,h=>by
  cases hp:p a with
  | true=>rw [aE5 hp] at h;cases h;exact ⟨0,rfl,fun j y _ _=>aAn _⟩
  | false =>
   rw [aCw (by simp [hp])] at h;obtain ⟨k,h1,h2⟩:=HH p l x h;refine ⟨k+1,by simpa using h1,fun j y hj hy=>?_⟩
   cases j with
   | zero=>simp at hj;subst hj;rw [hp] at hy;cases hy
   | succ j=>exact Nat.succ_le_succ (h2 j y (by simpa using hj) hy)
theorem VC {α:Type} (p:α→Bool):∀ (l:List α) (i j:Nat) (x y:α),(l.filter p).length=1→l[i]?=some x→l[j]?=some y→p x=true→p y=true→j=i
 | [],i,j,x,y,_,hi,_,_,_=>by simp at hi
 | z::l,0,0,x,y,_,_,_,_,_=>rfl
 | z::l,0,j+1,x,y,h,hi,hj,hx,hy=>by
  simp at hi hj;subst hi;rw [aBp,if_pos hx,aB5] at h;have:y∈l.filter p:=aAs.2 ⟨aAj hj,hy⟩;have h0:l.filter p=[]:=aC0 om;rw [h0] at this;cases this
 | z::l,i+1,0,x,y,h,hi,hj,hx,hy=>by
  simp at hi hj;subst hj;rw [aBp,if_pos hy,aB5] at h;have:x∈l.filter p:=aAs.2 ⟨aAj hi,hx⟩;have h0:l.filter p=[]:=aC0 om;rw [h0] at this;cases this
 | z::l,i+1,j+1,x,y,h,hi,hj,hx,hy=>by
  simp only [aG4] at hi hj;rw [aBp] at h;split at h
  ·have:x∈l.filter p:=aAs.2 ⟨aAj hi,hx⟩;have h0:l.filter p=[]:=aC0 (by simpa using h);rw [h0] at this;cases this
  ·rw [VC p l i j x y h hi hj hx hy]
theorem VD (l:List Nat) (h:(l.all fun t=>(l.filter (· == t)).length == 1)=true):l.Nodup:=by
 refine List.nodup_iff_count.2 fun t=>?_;by_cases ht:t∈l
 ·have:=aAw.1 h t ht;simp only [beq_iff_eq] at this;rw [List.count_eq_length_filter];omega
 ·rw [aFj.2 ht];omega
theorem qS {n:Nat} {ops:Array Oper} {m:Nat} {Cs:List (List Nat)} {Ks:List (Option Nat)} (hd:DagOK n ops) (hm:m≤ops.size) (hC:Cs.length=m) (hK:Ks.length=m) (h:∀ i o C,i < m→ops[i]?=some o→Cs[i]?=some C→IC ops o C=true)
  (hk:∀ i o C k,i < m→ops[i]?=some o→Cs[i]?=some C→Ks[i]?=some k→∃ ck,YG o.dst C k ck) :
  LinOK ops m (fun i=>Cs.getD i []) (fun i=>Ks.getD i none):=by
 have key:∀ (i:Nat) (oi:Oper),i < m→ops[i]?=some oi→IC ops oi (Cs.getD i [])=true:=fun i oi hi ho=>by
  have:Cs[i]?=some Cs[i]:=aA1 om;have h1:=h i oi _ hi ho this;simpa [aAt,this] using h1
 refine ⟨fun i oi t hi ho ht=>?_,fun i j oi oj t hi ho hj ht hl=>?_,fun i hi=>?_,fun i oi t hi ho ht=>?_,fun i oi hi ho=>?_⟩
 ·have:=aAw.1 (key i oi hi ho) t ht;simp only [aAg,aF4,aAd] at this;exact this.1.1.1
 ·have:=aAw.1 (key i oi hi ho) t ht;simp only [aAg,aBg,aF4,aAd,beq_iff_eq] at this;rcases this.1.1.2 with h1 | ⟨h1,h2⟩
  ·exact Nat.le_of_eq (VC (fun o'=>decide (t∈o'.looksAt ops)) ops.toList i j oi oj h1 (by simpa using ho) (by simpa using hj) (by simpa using this.1.1.1) (by simpa using hl)).symm
  ·cases hf:ops.toList.find? (fun o'=>decide (t∈o'.looksAt ops)) with
   | none=>rw [hf] at h2;rw [← h2] at h1;cases h1
   | some of =>
    rw [hf] at h2;obtain ⟨k,h3,h4⟩:=HH _ _ _ hf;have h3':ops[k]?=some of:=by simpa using h3
    obtain ⟨d,hdd⟩:=aEo.1 h1;have hki:k=i:=by
     rcases Nat.decEq k i with hne | he
     ·exact (hd.uniq k i of oi d hne h3' ho hdd (by rw [← hdd,← h2];rfl)).elim
     ·exact he
    subst hki;exact h4 j oj (by simpa using hj) (by simpa using hl)
 ·have hlt:i < ops.size:=by omega
  have h1:=key i _ hi (aAy hlt);refine VD _ (aAw.2 fun t ht=>?_);have:=aAw.1 h1 t ht;simp only [aAg] at this;exact this.1.2
 ·have:=aAw.1 (key i oi hi ho) t ht;simp only [aAg] at this;obtain ⟨j,h1,h2⟩:=aBs.1 this.2;exact ⟨j,h1,by simpa using h2⟩
 ·have e1:Cs[i]?=some Cs[i]:=aA1 om;have e2:Ks[i]?=some Ks[i]:=aA1 om;obtain ⟨ck,h1⟩:=hk i oi _ _ hi ho e1 e2;simp only [aAt,e1,e2,aCc];rcases h1 with ⟨h1,_⟩ | ⟨h1,t,h2,h3⟩
  ·exact .inl h1
  ·exact .inr ⟨h1,t,h3,by rw [h2];exact aA9 ..⟩
theorem Eu {t:Nat} {l:List Nat}:l.elem t=true↔t∈l:=⟨aEq,aEr⟩
theorem WT {ops:Array Oper} {m:Nat} {Cf:Nat→List Nat} {listed:Array Bool} {i j:Nat} (hi:i < listed.size) (him:i < m) :
  czd ops m Cf (listed.setIfInBounds i true) j=(czd ops m Cf listed j||match (ops[j]?).bind (·.dst) with | some t=>(Cf i).elem t | none=>false):=by
 unfold czd
 cases hj:(ops[j]?).bind (·.dst) with
 | none=>rfl
 | some t =>
  simp only [];rw [aBn];simp only [aBs,aAv,aAg,aBg];constructor
  ·rintro ⟨k,hk,h1,h2⟩;rw [Fy false hi] at h1;by_cases hki:k=i
   ·subst hki;exact .inr h2
   ·rw [if_neg hki] at h1;exact .inl ⟨k,hk,h1,h2⟩
  ·rintro (⟨k,hk,h1,h2⟩ | h2)
   ·refine ⟨k,hk,?_,h2⟩;rw [Fy false hi];split<;>simp_all
   ·exact ⟨i,him,by rw [Fy false hi,if_pos rfl],h2⟩
def wrs (ops:Array Oper) (m:Nat) (C:List Nat):List Nat:=C.filterMap fun t=>(List.range m).find? fun j=>(ops[j]?).bind (·.dst) == some t
theorem Me {ops:Array Oper} {m:Nat} {C:List Nat} {j:Nat} (h:j∈wrs ops m C):∃ t,t∈C∧j < m∧(ops[j]?).bind (·.dst)=some t:=by
 obtain ⟨t,h1,h2⟩:=aEs.1 h;have h3:=aC9 h2;have h4:=aCi h2;exact ⟨t,h1,aAv.1 h4,by simpa using h3⟩
theorem Tk {n:Nat} {ops:Array Oper} {m:Nat} (hd:DagOK n ops):∀ (C:List Nat),C.Nodup→(wrs ops m C).Nodup
 | [],_=>by simp [wrs]
 | t::C,h=>by
  obtain ⟨h1,h2⟩:=aCp.1 h;have ih:=Tk (m:=m) hd C h2;unfold wrs at ih ⊢;rw [List.filterMap_cons];split
  ·exact ih
  ·rename_i j hj;refine aCp.2 ⟨fun hm=>?_,ih⟩;obtain ⟨t',h3,_,h5⟩:=Me (ops:=ops) (m:=m) (C:=C) hm;have h6:=aC9 hj;simp only [beq_iff_eq] at h6;rw [h5] at h6;cases h6;exact h1 h3
theorem VE {n:Nat} {ops:Array Oper} {m:Nat} {C:List Nat} {j t:Nat} {oj:Oper} (hd:DagOK n ops) (hj:j < m) (hoj:ops[j]?=some oj) (hdst:oj.dst=some t) (ht:t∈C):j∈wrs ops m C:=by
 refine aEs.2 ⟨t,ht,?_⟩
 cases hf:(List.range m).find? (fun j=>(ops[j]?).bind (·.dst) == some t) with
 | none =>
  have:=aCs.1 hf j (aAv.2 hj);simp [hoj,hdst] at this
 | some k =>
  have h6:=aC9 hf;simp only [beq_iff_eq] at h6;by_cases hkj:k=j
  ·rw [hkj]
  ·cases hk:ops[k]? with
   | none=>rw [hk] at h6;simp at h6
   | some ok =>
    rw [hk] at h6;exact (hd.uniq k j ok oj t hkj hk hoj hdst (by simpa using h6)).elim
theorem DInv.step {Γ:Cx} {ops:Array Oper} {m:Nat} {Msh pool:List HP} {l:BR} {Rf:Nat→Rel} {Mc:Nat→List HP} {Cf:Nat→List Nat} {Kf:Nat→Option Nat} {fuel:Nat} {listed:Array Bool} {a:Act} {w w':World}
  (hd:DagOK Γ.n ops) (hlin:LinOK ops m Cf Kf) (h:DInv Γ ops m Msh pool l Rf Mc Cf Kf (fuel+1) listed a w) {i:Nat} {oi:Oper} (hi:ops[i]?=some oi) (him:i < m) (hun:listed.getD i true=false)
  (hall:∀ j,j∈ons oi→listed.getD j false=true) {Mr:Nat→List HP} {v:Value} {Mi:List HP}
  (hM:Holds Γ.w0 Γ.S0 (Mi++((((List.range m).filter fun x=>!(i::wrs ops m (Cf i)).elem x).flatMap fun i=>if listed.getD i false then (if czd ops m Cf listed i then [] else Mr i) else Mc i)++(Msh++pool))) w')
  (hold:∀ (i:Nat) (oi:Oper),ops[i]?=some oi→listed.getD i false=true→Rf i (kv a (Kf i)) (Mr i))
  (hR:Rf i (kv (a.put oi.dst v) (Kf i)) Mi):DInv Γ ops m Msh pool l Rf Mc Cf Kf fuel (listed.setIfInBounds i true) (a.put oi.dst v) w':=by
 have hlt:i < ops.size:=(aB7.1 hi).1;have hls:i < listed.size:=by rw [h.lsize];exact hlt
 have hput:∀ t,oi.dst≠some t→(a.put oi.dst v).tmps[t]?=a.tmps[t]?:=by
  intro t ht
  cases hdst:oi.dst with
  | none=>rfl
  | some d =>
   have:d≠t:=fun e=>ht (by rw [hdst,e]);simp only [Act.put];rw [aDe this]
 have hnotw:i ∉ wrs ops m (Cf i):=fun hm=>by
  obtain ⟨t,h1,h2,h3⟩:=Me hm;simp only [hi,aA7] at h3;obtain ⟨j,h4,h5⟩:=hlin.writer i oi t him hi h1;have hji:=hd.before i oi hi j h4
  cases hj:ops[j]? with
  | none=>rw [hj] at h5;simp at h5
  | some oj=>rw [hj] at h5;exact hd.uniq i j oi oj t om hi hj (by simpa using h5) h3
 refine ⟨by simpa using h.lsize,?_,fun j hj=>?_,?_,?_,fun k ok hk hl j hj=>?_,fun t u ht hno=>?_,fun k=>if k=i then Mi else Mr k,?_,fun k ok hk hl=>?_⟩
 ·have hc:=h.count;have e:((List.range m).filter fun j=>!(listed.setIfInBounds i true).getD j true)=((List.range m).filter fun j=>!listed.getD j true).erase i:=by
   rw [List.Nodup.erase_eq_filter (List.Pairwise.filter _ aFt),List.filter_filter];refine aFn fun j _=>?_;rw [Fy true hls];by_cases hji:j=i<;>simp [hji]
  rw [e,aEt (aAs.2 ⟨aAv.2 him,by rw [hun];rfl⟩),hc];rfl
 ·rw [Fy false hls,if_neg om];exact h.suff j hj
 ·cases oi.dst<;>simp [Act.put,h.size]
 ·cases oi.dst<;>simp [Act.put,h.defers]
 ·rw [Fy false hls] at hl;rw [Fy false hls];split
  ·rfl
  ·by_cases hki:k=i
   ·subst hki;rw [hi] at hk;cases hk;exact hall j hj
   ·rw [if_neg hki] at hl;exact h.closed k ok hk hl j hj
 ·have hne:oi.dst≠some t:=hno i oi hi (by rw [Fy false hls,if_pos rfl]);rw [hput t hne];exact h.env t u ht fun k ok hk hl=>hno k ok hk (by rw [Fy false hls];split<;>simp_all)
 ·refine hM.perm ?_;rw [← aAh];refine aCh _ ?_;have hsub:∀ x,x∈(i::wrs ops m (Cf i))→x∈List.range m:=fun x hx=>by
   rcases aAf.1 hx with rfl | hx
   ·exact aAv.2 him
   ·obtain ⟨t,_,h2,_⟩:=Me hx;exact aAv.2 h2
  have hp:=PW (i::wrs ops m (Cf i)) (List.range m) (aCp.2 ⟨hnotw,Tk hd _ (hlin.nodup i him)⟩) aFt hsub;refine List.Perm.symm (((hp.flatMap_right _)).trans ?_);rw [aDw,aDp];have hczi:czd ops m Cf (listed.setIfInBounds i true) i=false:=by
   rw [WT hls him];have h1:czd ops m Cf listed i=false:=by
    unfold czd
    cases hdst:oi.dst with
    | none=>simp [hi,hdst]
    | some t =>
     simp only [hi,aA7,hdst]
     cases ha:(List.range m).any fun k=>listed.getD k false&&(Cf k).elem t with
     | false=>rfl
     | true =>
      obtain ⟨k,hk,h2⟩:=aBs.1 ha;simp only [aAg] at h2;have hkm:=aAv.1 hk;have hkl:k < ops.size:=by
       rcases aCf k ops.size with h3 | h3
       ·exact h3
       ·have:=h2.1;rw [aAo,aD8 (by rw [h.lsize];exact h3)] at this;cases this
      have hok:=aAy hkl;have hlook:=hlin.look k _ t hkm hok (Eu.1 h2.2);have hki:k≠i:=fun e=>by
       subst e;have:=h2.1;have hks:k < listed.size:=hls;simp [aAo,hks] at this hun;rw [this] at hun;cases hun
      have hfi:listed.getD i false=false:=by
       simp [aAo,hls] at hun ⊢;exact hun
      rcases hd.look k i _ oi t hki hok hi hdst hlook with ⟨_,h4⟩ | ⟨h4,h5⟩
      ·have:=h.closed k _ hok h2.1 i h4;rw [hfi] at this;cases this
      ·obtain ⟨j,h6,h7⟩:=hlin.writer k _ t hkm hok (Eu.1 h2.2);have hjk:=hd.before k _ hok j h6
       cases hj:ops[j]? with
       | none=>rw [hj] at h7;simp at h7
       | some oj=>rw [hj] at h7;exact (hd.uniq i j oi oj t om hi hj (by simpa using h7) hdst).elim
   rw [h1,aAz]
   cases hdst:oi.dst with
   | none=>simp [hi,hdst]
   | some t =>
    simp only [hi,aA7,hdst]
    cases he:(Cf i).elem t with
    | false=>rfl
    | true=>exact (hnotw (VE hd him hi hdst (Eu.1 he))).elim
  have e0:(if (listed.setIfInBounds i true).getD i false=true then (if czd ops m Cf (listed.setIfInBounds i true) i=true then [] else (if i=i then Mi else Mr i)) else Mc i)=Mi:=by
   rw [Fy false hls,hczi];simp
  rw [e0];have e1:((wrs ops m (Cf i)).flatMap fun x=>if (listed.setIfInBounds i true).getD x false=true then (if czd ops m Cf (listed.setIfInBounds i true) x=true then [] else (if x=i then Mi else Mr x)) else Mc x)=[]:=by
   refine aDy.2 fun j hj=>?_;obtain ⟨t,h1,h2,h3⟩:=Me hj;obtain ⟨j',h4,h5⟩:=hlin.writer i oi t him hi h1;have hjj:j=j':=by
    cases hj1:ops[j]? with
    | none=>rw [hj1] at h3;simp at h3
    | some o1 =>
     cases hj2:ops[j']? with
     | none=>rw [hj2] at h5;simp at h5
     | some o2 =>
      rw [hj1] at h3;rw [hj2] at h5;rcases Nat.decEq j j' with hne | he
      ·exact (hd.uniq j j' o1 o2 t hne hj1 hj2 (by simpa using h5) (by simpa using h3)).elim
      ·exact he
   subst hjj;rw [Fy false hls,WT hls him,hall j h4,h3];simp only [Eu.2 h1,Bool.or_true,if_true];split<;>rfl
  rw [e1,aBx];refine aF2 _ (aBa ?_);rw [aEz,aEz];refine aC5 List.flatten (aFd fun k hk=>?_);have hk2:=(aAs.1 hk).2;have hkm:=aAv.1 (aAs.1 hk).1;have hknot:k ∉ (i::wrs ops m (Cf i)):=fun hm=>by rw [Eu.2 hm] at hk2;cases hk2
  have hki:k≠i:=fun e=>hknot (by rw [e];exact aA9 ..);have hkw:k ∉ wrs ops m (Cf i):=fun hm=>hknot (aA4 _ hm);rw [Fy false hls,WT hls him,if_neg hki];have e2:(match (ops[k]?).bind (·.dst) with | some t=>(Cf i).elem t | none=>false)=false:=by
   cases hk3:ops[k]? with
   | none=>rfl
   | some ok =>
    simp only [aA7]
    cases hdst:ok.dst with
    | none=>rfl
    | some t =>
     simp only []
     cases he:(Cf i).elem t with
     | false=>rfl
     | true=>exact (hkw (VE hd hkm hk3 hdst (Eu.1 he))).elim
  rw [e2,aCm];simp only [if_neg hki]
 ·by_cases hki:k=i
  ·subst hki;rw [hi] at hk;cases hk;simp only [if_true];exact hR
  ·rw [Fy false hls,if_neg hki] at hl;have h1:=hold k ok hk hl;simp only [if_neg hki];have hkm:k < m:=by
    rcases aCf k m with h2 | h2
    ·exact h2
    ·rw [h.suff k h2] at hl;cases hl
   have hkv:kv (a.put oi.dst v) (Kf k)=kv a (Kf k):=by
    rcases hlin.key k ok hkm hk with hkk | ⟨_,t,hkk,ht⟩
    ·rw [hkk]
     cases hdst:ok.dst with
     | none=>rfl
     | some t=>simp only [kv,aAo];rw [hput t (hd.uniq i k oi ok t (Ne.symm hki) hi hk hdst)]
    ·rw [hkk];simp only [kv,aAo];rw [hput t ?_];intro hdst;obtain ⟨j,h4,h5⟩:=hlin.writer k ok t hkm hk ht;have hjl:=h.closed k ok hk hl j h4
     cases hj:ops[j]? with
     | none=>rw [hj] at h5;simp at h5
     | some oj =>
      rw [hj] at h5;refine hd.uniq i j oi oj t ?_ hi hj (by simpa using h5) hdst;intro e;subst e;simp [aAo,hls] at hun hjl;rw [hun] at hjl;cases hjl
   rw [hkv];exact h1
def QT (ops:Array Oper):Nat→Nat→Nat→Bool
 | 0,_,_=>false
 | f+1,i,j=>match ops[i]? with
  | some o=>(ons o).contains j||(ons o).any fun k=>QT ops f k j
  | none=>false
def mE (ops:Array Oper) (m:Nat):Bool:=(List.range ops.size).all fun i=>decide (i < m)||match ops[i]? with
 | some o=>((List.range i).all fun j=>(ons o).contains j)||(decide (m < i)&&(ons o).contains (i - 1))||(i == m&&(List.range m).all fun j=>QT ops ops.size m j)
 | none=>false
def eZ (ops:Array Oper) (m i:Nat) (o:Oper):Prop:=(∀ j,j < i→j∈ons o)∨(m < i∧i - 1∈ons o)∨(i=m∧∀ j,j < m→QT ops ops.size m j=true)
theorem qT {ops:Array Oper} {m:Nat} (h:mE ops m=true):∀ i o,m≤i→ops[i]?=some o→eZ ops m i o:=by
 intro i o hi ho;have:=aAw.1 h i (aAv.2 (aB7.1 ho).1);simp only [aBg,aAd,ho] at this;rcases this.resolve_left om with (h1 | h1) | h1
 ·exact .inl fun j hj=>by simpa using aAw.1 h1 j (aAv.2 hj)
 ·simp only [aAg,aAd] at h1;exact .inr (.inl ⟨h1.1,by simpa using h1.2⟩)
 ·simp only [aAg,beq_iff_eq] at h1;exact .inr (.inr ⟨h1.1,fun j hj=>aAw.1 h1.2 j (aAv.2 hj)⟩)
theorem Tl {ops:Array Oper} {listed:Array Bool} (hcl:∀ (i:Nat) (oi:Oper),ops[i]?=some oi→listed.getD i false=true→∀ j,j∈ons oi→listed.getD j false=true) :
  ∀ (f i:Nat) (oi:Oper) (j:Nat),ops[i]?=some oi→(∀ k,k∈ons oi→listed.getD k false=true)→QT ops f i j=true→listed.getD j false=true
 | 0,i,oi,j,_,_,h=>by cases h
 | f+1,i,oi,j,ho,hd,h=>by
  simp only [QT,ho,aBg,aBs] at h;rcases h with h | ⟨k,hk,h⟩
  ·exact hd j (by simpa using h)
  ·cases hok:ops[k]? with
   | none=>cases f<;>simp [QT,hok] at h
   | some ok=>exact Tl hcl f k ok j hok (hcl k ok hok (hd k hk)) h
theorem pJ {P:Program} {ops:Array Oper} {m:Nat} {Q:Exit→Act→World→Prop} (hs:∀ i o,m≤i→ops[i]?=some o→eZ ops m i o) (hb:∀ (i:Nat) (oi:Oper),ops[i]?=some oi→∀ j,j∈ons oi→j < i) :
  ∀ (r k:Nat) (listed:Array Bool) (a:Act) (w:World),k+r=ops.size→m≤k→listed.size=ops.size→(∀ j,j < ops.size→listed.getD j false=decide (j < k))→wpList P ops Q (ops.toList.drop k) a w →
   wpAny P .any ops Q r listed a w
 | 0,k,listed,a,w,hk,_,hsz,hl,h=>by
  have hd:ops.toList.drop k=[]:=List.drop_eq_nil_of_le (by simp;omega);rw [hd] at h;refine ⟨List.eq_nil_iff_forall_not_mem.2 fun j hj=>?_,h⟩;obtain ⟨h1,oj,h2,_⟩:=mem_ready.1 hj;have hlt:=(aB7.1 h2).1;have h3:=hl j hlt;rw [aA6 om] at h3;have:j < listed.size:=by omega
  simp [aAo,this] at h1 h3;rw [h1] at h3;cases h3
 | r+1,k,listed,a,w,hk,hm,hsz,hl,h=>by
  have hklt:k < ops.size:=by omega
  have hks:k < listed.size:=by omega
  have hun:∀ j,j < ops.size→listed.getD j true=decide (j < k):=fun j hj=>by
   have h3:=hl j hj;have:j < listed.size:=by omega
   simp [aAo,this] at h3 ⊢;exact h3
  have hready:k∈Region.ready .any ops listed:=mem_ready.2 ⟨by rw [hun k hklt];simp,ops[k],aAy hklt,fun e he hbd=>by
   have:=hb k _ (aAy hklt) e.on (aBz.2 ⟨e,aAs.2 ⟨aD2.2 he,hbd⟩,rfl⟩);rw [hl e.on om];exact aA6 this⟩
  refine ⟨fun hn=>(by rw [hn] at hready;cases hready),fun i hi=>?_⟩;obtain ⟨h1,oi,h2,h3⟩:=mem_ready.1 hi;have hilt:=(aB7.1 h2).1;have hik:i=k:=by
   rw [hun i hilt] at h1;have h4:¬ i < k:=by simpa using h1
   rcases aCf k i with h5 | h5
   ·rcases hs i oi om h2 with h6 | ⟨h7,h6⟩ | ⟨h7,_⟩
    ·obtain ⟨e,he,hek⟩:=aBz.1 (h6 k h5);obtain ⟨a0,a1⟩:=aAs.1 he;have:=h3 e (aD2.1 a0) a1;rw [hek,hl k hklt] at this;simp at this
    ·obtain ⟨e,he,hek⟩:=aBz.1 h6;obtain ⟨a0,a1⟩:=aAs.1 he;have:=h3 e (aD2.1 a0) a1;rw [hek,hl (i - 1) om] at this;have:=aAr this;omega
    ·omega
   ·omega
  subst hik;have hcons:ops.toList.drop i=oi::ops.toList.drop (i+1):=by
   rw [aC8 (by simpa using hilt)];have:ops.toList[i]'(by simpa using hilt)=oi:=by
    have:=(aB7.1 h2).2;simpa using this
   rw [this]
  rw [hcons] at h;have next:∀ a w,wpList P ops Q (ops.toList.drop (i+1)) a w→wpAny P .any ops Q r (listed.setIfInBounds i true) a w:=fun a w h' =>
   pJ hs hb r (i+1) _ a w om om (by simpa using hsz) (fun j hj=>by
    rw [Fy false hks];by_cases hji:j=i
    ·subst hji;simp
    ·rw [if_neg hji,hl j hj];by_cases h7:j < i
     ·rw [aA6 h7,aA6 om]
     ·rw [aA5 h7,aA5 om]) h'
  unfold wpOp;rw [h2];unfold wpList at h;dsimp only;split
  ·rename_i hw;rw [if_pos hw] at h;exact h.imp (Oper.wp_mono next) id
  ·rename_i hw;rw [if_neg hw] at h;exact next _ _ h
theorem pK {Γ:Cx} {ops:Array Oper} {m:Nat} {Msh pool':List HP} {l:BR} {Rs:List Rel} {Mcs:List (List HP)} {Cs:List (List Nat)} {Ks:List (Option Nat)} {Q:Exit→Act→World→Prop}
  (hd:DagOK Γ.n ops) (hm:m≤ops.size) (hR:Rs.length=m) (hMc:Mcs.length=m) (hC:Cs.length=m) (hK:Ks.length=m) (hlin:LinOK ops m (fun i=>Cs.getD i []) (fun i=>Ks.getD i none))
  (hsuf:∀ i o,m≤i→ops[i]?=some o→eZ ops m i o)
  (hstep:∀ i o R Mc C k,(ops.toList.take m)[i]?=some o→Rs[i]?=some R→Mcs[i]?=some Mc→Cs[i]?=some C→Ks[i]?=some k→VB Γ ops Msh (Nh (Ov l) (ops.toList.take m) Rs Cs i) C o Mc (WQ o.dst k R))
  (hfin:∀ listed a w,DInv Γ ops m Msh pool' l (fun i=>Rs.getD i (fun _ _=>True)) (fun i=>Mcs.getD i []) (fun i=>Cs.getD i []) (fun i=>Ks.getD i none) 0 listed a w→(∀ i,i < m→listed.getD i false=true)→wpList Γ.P ops Q (ops.toList.drop m) a w) :
  ∀ (fuel:Nat) (listed:Array Bool) (a:Act) (w:World),DInv Γ ops m Msh pool' l (fun i=>Rs.getD i (fun _ _=>True)) (fun i=>Mcs.getD i []) (fun i=>Cs.getD i []) (fun i=>Ks.getD i none) fuel listed a w →
   wpAny Γ.P .any ops Q (fuel+(ops.size - m)) listed a w
 | 0,listed,a,w,h=>by
  have hall:∀ i,i < m→listed.getD i false=true:=by
   intro i hi;have hsz:i < listed.size:=by rw [h.lsize];omega
   cases hl:listed.getD i false with
   | true=>rfl
   | false =>
    have hl':listed.getD i true=false:=by simpa [aAo,hsz] using hl
    have:i∈((List.range m).filter fun i=>!listed.getD i true):=aAs.2 ⟨aAv.2 hi,by rw [hl'];rfl⟩;rw [aC0 h.count] at this;cases this
  rw [aBk];refine pJ hsuf hd.before _ m listed a w om (aAu _) h.lsize (fun j hj=>?_) (hfin listed a w h hall);by_cases hjm:j < m
  ·rw [hall j hjm,aA6 hjm]
  ·rw [h.suff j om,aA5 hjm]
 | fuel+1,listed,a,w,h=>by
  have hget:∀ i oi,ops[i]?=some oi→listed.getD i true=listed.getD i false:=fun i oi hi=>by
   have:i < listed.size:=by rw [h.lsize];exact (aB7.1 hi).1
   simp [aAo,this]
  have hne:((List.range m).filter fun i=>!listed.getD i true)≠[]:=fun e=>by have:=h.count;rw [e] at this;simp at this
  obtain ⟨i0,hi0⟩:=List.exists_mem_of_ne_nil _ hne;obtain ⟨hi0m,hi0u⟩:=aAs.1 hi0;have hi0m:=aAv.1 hi0m;rw [show fuel+1+(ops.size - m)=(fuel+(ops.size - m))+1 by omega];refine ⟨fun hnone=>?_,fun i hi=>?_⟩
  ·exfalso;have key:∀ k i,i≤k→∀ oi,ops[i]?=some oi→listed.getD i true=false→False:=by
    intro k
    induction k with
    | zero =>
     intro i hik oi hi hun;have:i∈Region.ready .any ops listed:=mem_ready.2 ⟨hun,oi,hi,fun e he hb=>by
      have:=hd.before i oi hi e.on (aBz.2 ⟨e,aAs.2 ⟨aD2.2 he,hb⟩,rfl⟩);omega⟩
     rw [hnone] at this;cases this
    | succ k ih =>
     intro i hik oi hi hun;have:i∈Region.ready .any ops listed:=mem_ready.2 ⟨hun,oi,hi,fun e he hb=>by
      have hlt:=hd.before i oi hi e.on (aBz.2 ⟨e,aAs.2 ⟨aD2.2 he,hb⟩,rfl⟩);have hlts:e.on < ops.size:=Nat.lt_trans hlt (aB7.1 hi).1
      cases hl:listed.getD e.on false with
      | true=>rfl
      | false =>
       exact (ih e.on om ops[e.on] (aAy hlts) (by rw [hget e.on _ (aAy hlts)];exact hl)).elim⟩
     rw [hnone] at this;cases this
   exact key i0 i0 (aAu _) _ (aAy (aC6 hi0m hm)) (by simpa using hi0u)
  ·obtain ⟨hun,oi,hoi,hall⟩:=mem_ready.1 hi;have hlt:i < ops.size:=(aB7.1 hoi).1;have hall':∀ j,j∈ons oi→listed.getD j false=true:=fun j hj=>by
    obtain ⟨e,he,rfl⟩:=aBz.1 hj;obtain ⟨a0,a1⟩:=aAs.1 he;exact hall e (aD2.1 a0) a1
   have him:i < m:=by
    rcases aCf i m with h1 | h1
    ·exact h1
    ·rcases hsuf i oi h1 hoi with h5 | ⟨h6,h5⟩ | ⟨h6,h5⟩
     ·have h2:=hall' i0 (h5 i0 om);have h3:listed.getD i0 true=false:=by simpa using hi0u
      rw [hget i0 _ (aAy (aC6 hi0m hm)),h2] at h3;cases h3
     ·have h2:=hall' _ h5;rw [h.suff (i - 1) om] at h2;cases h2
     ·subst h6;have h2:=Tl h.closed ops.size i oi i0 hoi hall' (h5 i0 hi0m);have h3:listed.getD i0 true=false:=by simpa using hi0u
      rw [hget i0 _ (aAy (aC6 hi0m hm)),h2] at h3;cases h3
   obtain ⟨Mr,hM,hold⟩:=h.mem;have hRi:Rs[i]?=some Rs[i]:=aA1 om;have hMi:Mcs[i]?=some Mcs[i]:=aA1 om;have hCi:Cs[i]?=some Cs[i]:=aA1 om;have hKi:Ks[i]?=some Ks[i]:=aA1 om;have eK:Ks.getD i none=Ks[i]:=by simp [aAt,hKi]
   have hst:=hstep i oi _ _ _ _ (by rw [aCz,if_pos him];simpa using hoi) hRi hMi hCi hKi;have hlf:listed.getD i false=false:=by rw [← hget i oi hoi];exact hun
   have eC:Cs.getD i []=Cs[i]:=by simp [aAt,hCi]
   have eMc:Mcs.getD i []=Mcs[i]:=by simp [aAt,hMi]
   have eR:Rs.getD i (fun _ _=>True)=Rs[i]:=by simp [aAt,hRi]
   have hnd:(Cs[i]).Nodup:=by have:=hlin.nodup i him;rw [eC] at this;exact this
   have hnotw:i ∉ wrs ops m Cs[i]:=fun hmm=>by
    obtain ⟨t,h1,h2,h3⟩:=Me hmm;simp only [hoi,aA7] at h3;obtain ⟨j,h4,h5⟩:=hlin.writer i oi t him hoi (by rw [eC];exact h1);have hji:=hd.before i oi hoi j h4
    cases hj:ops[j]? with
    | none=>rw [hj] at h5;simp at h5
    | some oj=>rw [hj] at h5;exact hd.uniq i j oi oj t om hoi hj (by simpa using h5) h3
   have hsub:∀ x,x∈(i::wrs ops m Cs[i])→x∈List.range m:=fun x hx=>by
    rcases aAf.1 hx with rfl | hx
    ·exact aAv.2 him
    ·obtain ⟨t,_,h2,_⟩:=Me hx;exact aAv.2 h2
   have hp:=PW (i::wrs ops m Cs[i]) (List.range m) (aCp.2 ⟨hnotw,Tk hd _ hnd⟩) aFt hsub;have hwr:∀ t j,t∈Cs[i]→j < m→(ops[j]?).bind (·.dst)=some t→listed.getD j false=true∧czd ops m (fun i=>Cs.getD i []) listed j=false∧t∈oi.looksAt ops:=by
    intro t j ht hj hjt;have hlook:=hlin.look i oi t him hoi (by rw [eC];exact ht);obtain ⟨j',h4,h5⟩:=hlin.writer i oi t him hoi (by rw [eC];exact ht);have hjj:j'=j:=by
     cases hj1:ops[j]? with
     | none=>rw [hj1] at hjt;simp at hjt
     | some o1 =>
      cases hj2:ops[j']? with
      | none=>rw [hj2] at h5;simp at h5
      | some o2 =>
       rw [hj1] at hjt;rw [hj2] at h5;rcases Nat.decEq j' j with hne | he
       ·exact (hd.uniq j' j o2 o1 t hne hj2 hj1 (by simpa using hjt) (by simpa using h5)).elim
       ·exact he
    subst hjj;refine ⟨hall' _ h4,?_,hlook⟩;unfold czd;rw [hjt];simp only []
    cases ha:(List.range m).any fun k=>listed.getD k false&&(Cs.getD k []).elem t with
    | false=>rfl
    | true =>
     obtain ⟨k,hk,h2⟩:=aBs.1 ha;simp only [aAg] at h2;have hkm:=aAv.1 hk;have hok:=aAy (aC6 hkm hm);have hik:=Nat.le_antisymm (hlin.first k i _ oi t hkm hok hoi (Eu.1 h2.2) hlook) (hlin.first i k oi _ t him hoi hok (by rw [eC];exact ht) (hlin.look k _ t hkm hok (Eu.1 h2.2)));subst hik;rw [h2.1] at hlf;cases hlf
   have hM':=hM.perm (aCh _ (hp.flatMap_right _));rw [aAk,aDp,if_neg (by rw [hlf];simp),eMc,aDw,aAh,aAh] at hM';have hcons:∀ C,(∀ t,t∈C→t∈Cs[i])→YF (Nh (Ov l) (ops.toList.take m) Rs Cs i) a C ((wrs ops m C).flatMap fun i=>if listed.getD i false then (if czd ops m (fun i=>Cs.getD i []) listed i then [] else Mr i) else Mcs.getD i []):=by
    intro C
    induction C with
    | nil=>intro _;simp [YF,wrs]
    | cons t C ih =>
     intro hC;have ih':=ih (fun t ht=>hC t (aA4 _ ht));have ht:=hC t (aA9 ..);obtain ⟨j',h4,h5⟩:=hlin.writer i oi t him hoi (by rw [eC];exact ht);have hj'm:j' < m:=Nat.lt_trans (hd.before i oi hoi j' h4) him;unfold wrs at ih' ⊢;rw [List.filterMap_cons]
     cases hf:(List.range m).find? (fun j=>(ops[j]?).bind (·.dst) == some t) with
     | none =>
      have:=aCs.1 hf j' (aAv.2 hj'm);rw [h5] at this;simp at this
     | some j =>
      have h6:=aC9 hf;simp only [beq_iff_eq] at h6;have hjm:=aAv.1 (aCi hf);obtain ⟨h7,h8,h9⟩:=hwr t j ht hjm h6;simp only [];rw [aDp,if_pos h7,h8];refine ⟨Mr j,_,rfl,fun R' hlk=>?_,ih'⟩
      cases hoj:ops[j]? with
      | none=>rw [hoj] at h6;simp at h6
      | some oj =>
       rw [hoj] at h6;have hdst:oj.dst=some t:=by simpa using h6
       have h10:=hold j oj hoj h7;rcases OZ _ _ _ _ _ _ _ (by simp;omega) (by simp;omega) (by simp;omega) hlk with ⟨k,ok,R0,hki,hok,hdk,hRk,hcc⟩ | ⟨hno,_⟩
       ·rw [aCz,if_pos om] at hok;have hok':ops[k]?=some ok:=by simpa using hok
        have hkj:k=j:=by
         rcases Nat.decEq k j with hne | he
         ·exact (hd.uniq k j ok oj t hne hok' hoj hdst hdk).elim
         ·exact he
        subst hkj;rcases hcc with ⟨rfl,_⟩ | ⟨⟨k2,C2,h11,h12,h13,h14⟩,_⟩
        ·have hkk:Ks.getD k none=some t:=by
          rcases hlin.key k ok om hok' with h15 | ⟨h15,_⟩
          ·rw [← hdk];exact h15
          ·rw [hdk] at h15;cases h15
         simp only [hkk,kv,aAt,hRk,aCc] at h10;exact h10
        ·exfalso;have h15:=hlin.first i k2 oi _ t him hoi (aAy om) (by rw [eC];exact ht) (hlin.look k2 _ t om (aAy om) (by simpa [aAt,h13] using h14));omega
       ·exfalso;obtain ⟨j2,h11,h12⟩:=hlin.writer i oi t him hoi (by rw [eC];exact ht);have hlt2:=hd.before i oi hoi j2 h11
        cases hj2:ops[j2]? with
        | none=>rw [hj2] at h12;simp at h12
        | some o2 =>
         rw [hj2] at h12;exact hno j2 o2 hlt2 (by rw [aCz,if_pos om];simpa using hj2) (by simpa using h12)
   have hfacts:LE (Eb Cs[i] (Nh (Ov l) (ops.toList.take m) Rs Cs i)) (oi.looksAt ops) ((((List.range m).filter fun x=>!(i::wrs ops m Cs[i]).elem x).flatMap fun i=>if listed.getD i false then (if czd ops m (fun i=>Cs.getD i []) listed i then [] else Mr i) else Mcs.getD i [])++(Msh++pool')) a:=by
    intro t R' ht hlk0;obtain ⟨R1,hlk,hdr⟩:=Tj _ _ _ _ hlk0;rcases OZ _ _ _ _ _ _ _ (by simp;omega) (by simp;omega) (by simp;omega) hlk with ⟨j,oj,R0,hji,hoj,hdj,hRj,hcc⟩ | ⟨hno,R0,hlk',hcc⟩
    ·rw [aCz,if_pos om] at hoj;have hoj':ops[j]?=some oj:=by simpa using hoj
     have hjl:listed.getD j false=true:=by
      rcases hd.look i j oi oj t om hoi hoj' hdj ht with ⟨_,hmm⟩ | ⟨h3,_⟩
      ·exact hall' j hmm
      ·omega
     have h4:=hold j oj hoj' hjl;have hkk:Ks.getD j none=some t:=by
      rcases hlin.key j oj om hoj' with h15 | ⟨h15,_⟩
      ·rw [← hdj];exact h15
      ·rw [hdj] at h15;cases h15
     simp only [hkk,kv,aAt,hRj,aCc] at h4;have weak:R' (a.tmps.getD t undef) []∨(R'=R0∧t ∉ Cs[i]∧∀ k C,j < k→k < i→Cs[k]?=some C→t ∉ C):=by
      rcases hcc with ⟨rfl,h5⟩ | ⟨_,h5⟩
      ·rcases hdr with ⟨h6,rfl⟩ | ⟨h6,rfl⟩
       ·exact .inr ⟨rfl,h6,h5⟩
       ·exact .inl ⟨rfl,_,h4⟩
      ·have h7:=h5 _ ⟨_,h4⟩;rcases hdr with ⟨h6,rfl⟩ | ⟨h6,rfl⟩
       ·exact .inl h7
       ·exact .inl ⟨rfl,_,h7⟩
     rcases weak with hwk | ⟨rfl,hnc,hncs⟩
     ·exact ⟨[],hwk,fun x hx=>by cases hx⟩
     have hczd:czd ops m (fun i=>Cs.getD i []) listed j=false:=by
      unfold czd;rw [hoj'];simp only [aA7,hdj]
      cases ha:(List.range m).any fun k=>listed.getD k false&&(Cs.getD k []).elem t with
      | false=>rfl
      | true =>
       obtain ⟨k,hk,h2⟩:=aBs.1 ha;simp only [aAg] at h2;have hkm:=aAv.1 hk;have hok:=aAy (aC6 hkm hm);have hik:=hlin.first k i _ oi t hkm hok hoi (Eu.1 h2.2) ht;have hki:k≠i:=fun e=>by subst e;rw [h2.1] at hlf;cases hlf
       obtain ⟨j',h6,h7⟩:=hlin.writer k _ t hkm hok (Eu.1 h2.2);have hjk:=hd.before k _ hok j' h6;have hjj:j'=j:=by
        cases hj1:ops[j']? with
        | none=>rw [hj1] at h7;simp at h7
        | some o1 =>
         rw [hj1] at h7;rcases Nat.decEq j' j with hne | he
         ·exact (hd.uniq j' j o1 oj t hne hj1 hoj' hdj (by simpa using h7)).elim
         ·exact he
       have hCk:Cs[k]?=some Cs[k]:=aA1 om;have h8:=Eu.1 h2.2;rw [aAt,hCk] at h8;exact (hncs k _ om om hCk h8).elim
     refine ⟨Mr j,h4,fun x hx=>aB2 _ (aBq.2 ⟨j,?_,?_⟩)⟩
     ·refine aAs.2 ⟨aAv.2 om,?_⟩
      cases he:(i::wrs ops m Cs[i]).elem j with
      | false=>rfl
      | true =>
       rcases aAf.1 (Eu.1 he) with h5 | h5
       ·omega
       ·obtain ⟨t',h6,_,h7⟩:=Me h5;rw [hoj'] at h7;simp only [aA7,hdj] at h7
        cases h7;exact (hnc h6).elim
     ·rw [hjl,hczd];exact hx
    ·obtain ⟨v,hv,rfl⟩:=Zb _ _ _ hlk';have h5:=h.env t v hv (fun k ok hk hkl hkd=>by
      have hkm:k < m:=by
       rcases aCf k m with h1 | h1
       ·exact h1
       ·rw [h.suff k h1] at hkl;cases hkl
      by_cases hki:k=i
      ·subst hki;rw [hlf] at hkl;cases hkl
      ·rcases hd.look i k oi ok t (Ne.symm hki) hoi hk hkd ht with ⟨h6,_⟩ | ⟨_,h7⟩
       ·exact hno k ok h6 (by rw [aCz,if_pos hkm];simpa using hk) hkd
       ·have:=h.closed k ok hk hkl i h7;rw [hlf] at this;cases this)
     have h6:FC True v (a.tmps.getD t undef) []:=⟨rfl,fun _=>by simp [aAo,h5],fun hn=>(hn trivial).elim⟩;have h7:R1 (a.tmps.getD t undef) []:=by
      rcases hcc with ⟨rfl,_⟩ | ⟨_,h8⟩
      ·exact h6
      ·exact h8 _ ⟨_,h6⟩
     refine ⟨[],?_,fun x hx=>by cases hx⟩;rcases hdr with ⟨_,rfl⟩ | ⟨_,rfl⟩
     ·exact h7
     ·exact ⟨rfl,_,h7⟩
   have hstA:=hst a w _ _ h.size h.defers hM' (fun x hx=>aAx _ (aB2 _ hx)) hfacts (hcons Cs[i] (fun _ h=>h));have eU:(oi.dst.elim undef fun _=>undef)=undef:=by cases oi.dst<;>rfl
   have next:∀ (v:Value) (w':World) (Mi:List HP),WQ oi.dst Ks[i] Rs[i] a (oi.dst.elim undef fun _=>v) Mi →
     Holds Γ.w0 Γ.S0 (Mi++((((List.range m).filter fun x=>!(i::wrs ops m Cs[i]).elem x).flatMap fun i=>if listed.getD i false then (if czd ops m (fun i=>Cs.getD i []) listed i then [] else Mr i) else Mcs.getD i [])++(Msh++pool'))) w' →
     wpAny Γ.P .any ops Q (fuel+(ops.size - m)) (listed.setIfInBounds i true) (a.put oi.dst v) w':=fun v w' Mi hr hh =>
    pK hd hm hR hMc hC hK hlin hsuf hstep hfin fuel _ _ _ (DInv.step hd hlin h hoi him hun hall' (by rw [eC];exact hh) hold (by
     rw [eR,eK];refine qR ?_ (fun t ht=>by rw [h.size];exact hd.small i oi t hoi ht) hr;rcases hlin.key i oi him hoi with h1 | ⟨h1,t,h2,_⟩
     ·rw [eK] at h1;exact .inl h1
     ·rw [eK] at h2;exact .inr ⟨h1,t,h2⟩))
   unfold wpOp;rw [hoi];dsimp only;split
   ·rename_i hwt;rw [if_pos hwt] at hstA;refine .inl ?_;unfold Oper.wp;generalize (execOp a.eval oi).run Γ.P w=r at hstA ⊢
    cases r with
    | ok n w' =>
     cases n<;>first
      | exact hstA.elim
      | (obtain ⟨Mi,h1,h2⟩:=hstA;exact next _ _ _ h1 h2)
      | (obtain ⟨Mi,h1,h2⟩:=hstA;exact next undef _ _ (by rw [eU];exact h1) h2)
      | (exact hstA.mono fun e w'' ⟨v,Mi,he,h1,h2⟩=>by subst he;exact next _ _ _ h1 h2)
    | halt x w'=>exact hstA.elim
   ·rename_i hwt;rw [if_neg hwt] at hstA;refine next undef w _ (by rw [eU];exact hstA) ?_;rw [aAh];exact hM'
def GiveH (a:Act) (ts cs:List Nat) (rs:List (Option Nat×Rel)) (Mr:List (List HP)):Prop:=∀ (i:Nat) (d:Option Nat) (R:Rel) (m:List HP),rs[i]?=some (d,R)→Mr[i]?=some m →
   (d=none→R undef m)∧(∀ t,d=some t→t∈cs→m=[])∧(∀ t,d=some t→t ∉ cs→t∈ts→(∀ i',i' < i→∀ R',rs[i']?≠some (some t,R'))→R (a.tmps.getD t undef) m)
theorem GiveH.tail {a:Act} {ts ts' cs:List Nat} {d:Option Nat} {R:Rel} {rs:List (Option Nat×Rel)} {m:List HP} {Mr:List (List HP)} (h:GiveH a ts cs ((d,R)::rs) (m::Mr)) (hs:∀ t,t ∉ cs→t∈ts'→t∈ts∧d≠some t):GiveH a ts' cs rs Mr:=by
 intro i d' R' m' hi hm;obtain ⟨h1,h2,h3⟩:=h (i+1) d' R' m' (by simpa using hi) (by simpa using hm);refine ⟨h1,h2,fun t ht hc hts hno=>h3 t ht hc (hs t hc hts).1 fun i' hi' R2 he=>?_⟩
 cases i' with
 | zero=>simp at he;exact (hs t hc hts).2 he.1
 | succ i'=>exact hno i' om R2 (by simpa using he)
theorem Pa (n:Nat) {cs:List Nat} {K:CW} {a:Act} {w:World} {w0:World} {S0:List Nat} (hs:a.tmps.size=n) (hdf:a.defers=[]):∀ (rs:List (Option Nat×Rel)) (ts:List Nat) (l:BR) (M:List HP),Fs ts cs rs l M K →
  (∀ t v,l.lookup t=some v→(∀ R,(some t,R)∈rs→t ∉ ts∨t∈cs)→a.tmps[t]?=some v) →
  (∀ t R,(some t,R)∈rs→t < n) →
  (∃ Mr:List (List HP),Mr.length=rs.length∧Holds w0 S0 (Mr.flatten++M) w∧GiveH a ts cs rs Mr) →
  ∃ l' M',Env a n l'∧Holds w0 S0 M' w∧K l' M'
 | [],ts,l,M,h,hl,_,⟨Mr,h1,h2,_⟩=>by
  have:Mr=[]:=aC0 (by simpa using h1);subst this;exact ⟨l,M,⟨hs,hdf,fun t v ht=>hl t v ht (by simp)⟩,by simpa using h2,h⟩
 | (none,R)::rs,ts,l,M,h,hl,hn,⟨Mr,h1,h2,h3⟩=>by
  cases Mr with
  | nil=>simp at h1
  | cons m Mr =>
   have hR:=(h3 0 none R m (by simp) (by simp)).1 rfl;refine Pa n hs hdf rs ts l (m++M) (h m hR) (fun t v ht hno=>hl t v ht fun R' hm=>?_) (fun t R' hm=>hn t R' (aA4 _ hm)) ⟨Mr,by simpa using h1,?_,h3.tail fun t _ ht=>⟨ht,fun e=>by cases e⟩⟩
   ·rcases aAf.1 hm with h4 | h4
    ·cases h4
    ·exact hno R' h4
   ·refine h2.perm ?_;simp only [aD3,aAh];rw [← aAh,← aAh];exact aCh _ aB9
 | (some t,R)::rs,ts,l,M,h,hl,hn,⟨Mr,h1,h2,h3⟩=>by
  cases Mr with
  | nil=>simp at h1
  | cons m Mr =>
   have h30:=h3 0 (some t) R m (by simp) (by simp);have htn:=hn t R (by simp);have hget:a.tmps[t]?=some (a.tmps.getD t undef):=by
    have hlt:t < a.tmps.size:=by rw [hs];exact htn
    simp [aAo,aAy hlt]
   have hrest:List.Perm (((m::Mr):List (List HP)).flatten++M) ((Mr.flatten++M)++m):=by
    simp only [aD3,aAh];exact aB9.trans (by simp)
   cases hce:cs.elem t with
   | true =>
    have htc:=Eu.1 hce;have h':Fs ts cs rs l M K:=by simp only [Fs,hce] at h;exact h
    refine Pa n hs hdf rs ts l M h' (fun t' v ht hno=>hl t' v ht fun R' hm=>?_) (fun t R' hm=>hn t R' (aA4 _ hm)) ⟨Mr,by simpa using h1,h2.sub ⟨m,hrest⟩,h3.tail fun t' hc ht=>⟨ht,fun e=>by cases e;exact hc htc⟩⟩;rcases aAf.1 hm with h4 | h4
    ·cases h4;exact .inr htc
    ·exact hno R' h4
   | false =>
    have hnc:t ∉ cs:=fun hm=>by rw [Eu.2 hm] at hce;cases hce
    cases hte:ts.elem t with
    | true =>
     have hR:=h30.2.2 t rfl hnc (Eu.1 hte) (fun i' hi'=>by omega);have h':∀ v Mr,R v Mr→Fs (rmN t ts) cs rs ((t,v)::l) (Mr++M) K:=by simp only [Fs,hte,hce] at h;exact h
     refine Pa n hs hdf rs _ _ (m++M) (h' _ m hR) (fun t' v ht hno=>?_) (fun t R' hm=>hn t R' (aA4 _ hm)) ⟨Mr,by simpa using h1,?_,h3.tail fun t' _ ht=>⟨(WR.1 ht).1,fun e=>by cases e;exact (WR.1 ht).2 rfl⟩⟩
     ·simp only [aBh] at ht
      cases he:t' == t with
      | true =>
       rw [he] at ht;simp only [beq_iff_eq] at he;subst he;cases ht;exact hget
      | false =>
       rw [he] at ht;have hne:t'≠t:=fun e=>by subst e;simp at he
       refine hl t' v ht fun R' hm=>?_;rcases aAf.1 hm with h4 | h4
       ·cases h4;exact (hne rfl).elim
       ·rcases hno R' h4 with h5 | h5
        ·exact .inl fun h6=>h5 (WR.2 ⟨h6,hne⟩)
        ·exact .inr h5
     ·refine h2.perm ?_;simp only [aD3,aAh];rw [← aAh,← aAh];exact aCh _ aB9
    | false =>
     have hnt:t ∉ ts:=fun hmem=>by rw [Eu.2 hmem] at hte;cases hte
     have h':Fs ts cs rs l M K:=by simp only [Fs,hte,hce] at h;exact h
     refine Pa n hs hdf rs ts l M h' (fun t' v ht hno=>hl t' v ht fun R' hm=>?_) (fun t R' hm=>hn t R' (aA4 _ hm)) ⟨Mr,by simpa using h1,h2.sub ⟨m,hrest⟩,h3.tail fun t' _ ht=>⟨ht,fun e=>by cases e;exact hnt ht⟩⟩;rcases aAf.1 hm with h4 | h4
     ·cases h4;exact .inl hnt
     ·exact hno R' h4
theorem pL {P:Program} {n:Nat} {ops:Array Oper} {Q:Exit→Act→World→Prop} (hd:DagOK n ops):∀ (m k:Nat) (listed:Array Bool) (a:Act) (w:World),k+m=ops.size→listed.size=ops.size →
  (∀ j,j < ops.size→listed.getD j false=decide (j < k))→wpAny P .any ops Q m listed a w→wpOps P ops Q (List.range' k m) a w
 | 0,k,listed,a,w,_,_,_,h=>by simpa [wpOps] using h.2
 | m+1,k,listed,a,w,hk,hs,hl,h=>by
  rw [List.range'_succ,wpOps_cons];have hlt:k < ops.size:=by omega
  have hk1:listed.getD k true=false:=by
   have:=hl k hlt;have hks:k < listed.size:=by omega
   simp [aAo,hks] at this ⊢;exact this
  refine wpOp_mono (fun a w h'=>pL hd m (k+1) _ a w om (by simpa using hs) (fun j hj=>?_) h') (h.2 k (mem_ready.2 ⟨hk1,ops[k],aAy hlt,fun e he hb=>?_⟩))
  ·rw [Fy false om];by_cases hjk:j=k
   ·subst hjk;simp
   ·rw [if_neg hjk,hl j hj];by_cases h1:j < k
    ·rw [aA6 h1,aA6 om]
    ·rw [aA5 h1,aA5 om]
  ·have:=hd.before k _ (aAy hlt) e.on (aBz.2 ⟨e,aAs.2 ⟨aD2.2 he,hb⟩,rfl⟩);rw [hl e.on om];exact aA6 this
def ON (ts:List Nat) (l:BR) (ops:Array Oper):List Oper→Bool
 | []=>true
 | o::rest=>(match o.dst with | none=>true | some t=>(l.lookup t).isNone||(ts.elem t&&rest.all fun o'=>!(o'.looksAt ops).contains t))&&ON ts l ops rest
theorem VF {ts:List Nat} {l:BR} {ops:Array Oper}:∀ {pre:List Oper},ON ts l ops pre=true→∀ (i:Nat) (o:Oper) (t:Nat) (v:Value),pre[i]?=some o→o.dst=some t→l.lookup t=some v→t∈ts∧∀ (k:Nat) (ok:Oper),i < k→pre[k]?=some ok→t ∉ ok.looksAt ops
 | [],_,i,o,t,v,hi,_,_=>by simp at hi
 | p::pre,h,i,o,t,v,hi,hd,hl=>by
  simp only [ON,aAg] at h
  cases i with
  | zero =>
   simp at hi;subst hi;have h1:=h.1;simp only [hd,hl,Option.isNone_some,aAz,aAg] at h1;refine ⟨Eu.1 h1.1,fun k ok hk hok hm=>?_⟩;obtain ⟨k',rfl⟩:∃ k',k=k'+1:=⟨k - 1,by omega⟩;have:=aAw.1 h1.2 ok (aAj (by simpa using hok));simp [hm] at this
  | succ i =>
   obtain ⟨h2,h3⟩:=VF h.2 i o t v (by simpa using hi) hd hl;refine ⟨h2,fun k ok hk hok=>?_⟩;obtain ⟨k',rfl⟩:∃ k',k=k'+1:=⟨k - 1,by omega⟩;exact h3 k' ok om (by simpa using hok)
theorem W_D {Γ:Cx} {l:BR} {M:List HP} {Q:CX} {id:Nat} {draw:Bool} {pre suf:List Oper} (ts:List Nat) (Msh pool:List HP) (hp:List.Perm M (Msh++pool)) (hm:Γ.P.follows .mixedOrders=true)
  (hd:eY Γ.n (pre++suf).toArray=true) (hsb:mE (pre++suf).toArray pre.length=true) (hc:ON ts l (pre++suf).toArray pre=true)
  (h:DV Γ (pre++suf).toArray Msh pool (Ov l) [] [] pre (fun rs cs pool'=>Fs ts cs rs l (pool'++Msh) fun l' M'=>L Γ suf l' M' fun l M=>Q .normal l M)):W Γ (.region id (pre++suf).toArray draw) l M Q:=by
 have hdag:=qQ hd;have hsuf:=qT hsb;intro a w ha hw;obtain ⟨Rs,Mcs,Cs,Ks,CKs,pool',h1,h2,h2',h2k,h2c,h3,h4,h5⟩:=Zd pre pool _ _ _ h;have hsz:(pre++suf).toArray.size=pre.length+suf.length:=by simp
 have htk:(pre++suf).toArray.toList.take pre.length=pre:=by simp
 have hdr:(pre++suf).toArray.toList.drop pre.length=suf:=by simp
 have hpre:∀ (i:Nat) (o:Oper),pre[i]?=some o→(pre++suf).toArray[i]?=some o:=fun i o hi=>by
  have:=(aA2.1 hi).1;have e:(pre++suf)[i]?=some o:=by rw [aAp this];exact hi
  simpa using e
 have any:∀ w,Holds Γ.w0 Γ.S0 M w→wpAny Γ.P .any (pre++suf).toArray (Ng Γ Q) (pre++suf).toArray.size (Array.replicate (pre++suf).toArray.size false) a w:=by
  intro w hw;have hlin:LinOK (pre++suf).toArray pre.length (fun i=>Cs.getD i []) (fun i=>Ks.getD i none):=qS hdag (by rw [hsz];omega) om om (fun i o C hi ho hC=>by
   have ho':pre[i]?=some o:=by
    simp only [aBm] at ho;rw [aAp hi] at ho;exact ho
   exact (h4 i o Rs[i] Mcs[i] C Ks[i] CKs[i] ho' (aA1 om) (aA1 om) hC (aA1 om) (aA1 om)).1) (fun i o C k hi ho hC hk=>by
   have ho':pre[i]?=some o:=by
    simp only [aBm] at ho;rw [aAp hi] at ho;exact ho
   exact ⟨_,(h4 i o Rs[i] Mcs[i] C k CKs[i] ho' (aA1 om) (aA1 om) hC hk (aA1 om)).2.1⟩)
  have hmain:=pK (Γ:=Γ) (ops:=(pre++suf).toArray) (m:=pre.length) (Msh:=Msh) (pool':=pool') (l:=l) (Rs:=Rs) (Mcs:=Mcs) (Cs:=Cs) (Ks:=Ks) (Q:=Ng Γ Q) hdag (by rw [hsz];omega) h1 h2 h2' h2k hlin hsuf
   (fun i o R Mc C k hi hR hM hC hk=>by
    have:=(aA2.1 hR).1;rw [htk] at hi ⊢;exact (h4 i o R Mc C k CKs[i] hi hR hM hC hk (aA1 om)).2.2) ?_ pre.length (Array.replicate (pre++suf).toArray.size false) a w ?_
  ·rw [show pre.length+((pre++suf).toArray.size - pre.length)=(pre++suf).toArray.size by rw [hsz];omega] at hmain;exact hmain
  ·intro listed a w hI hall;rw [hdr];obtain ⟨Mr,hM,hold⟩:=hI.mem;have hget:∀ i d R,((List.zipWith (fun k R=>(k,R)) Ks Rs).reverse++[])[i]?=some (d,R)→∃ j o,i+j+1=pre.length∧pre[j]?=some o∧Ks[j]?=some d∧Rs[j]?=some R:=by
    intro i d R hi;rw [aBx] at hi;have hlen:(List.zipWith (fun k R=>(k,R)) Ks Rs).length=pre.length:=by simp [h1,h2k]
    have hlt:i < pre.length:=by have:=(aA2.1 hi).1;simpa [h1,h2k] using this
    rw [aF3 (by rw [hlen];exact hlt),hlen] at hi;have hj:pre.length - 1 - i < Ks.length:=by omega
    have hj':pre.length - 1 - i < Rs.length:=by omega
    simp only [List.getElem?_zipWith,aA1 hj,aA1 hj'] at hi;simp at hi;exact ⟨pre.length - 1 - i,pre[pre.length - 1 - i],by omega,aA1 om,by rw [aA1 hj,hi.1],by rw [aA1 hj',hi.2]⟩
   have hput:∀ (j:Nat) (k:Option Nat) (R:Rel),Ks[j]?=some k→Rs[j]?=some R→((List.zipWith (fun k R=>(k,R)) Ks Rs).reverse++[])[pre.length - 1 - j]?=some (k,R):=by
    intro j k R hk hR;have hjl:=(aA2.1 hk).1;have hlen:(List.zipWith (fun k R=>(k,R)) Ks Rs).length=pre.length:=by simp [h1,h2k]
    rw [aBx,aF3 (by rw [hlen];omega),hlen,show pre.length - 1 - (pre.length - 1 - j)=j by omega];simp [List.getElem?_zipWith,hk,hR]
   have hko:∀ (j:Nat) (o:Oper),pre[j]?=some o→∃ C k ck,Cs[j]?=some C∧Ks[j]?=some k∧CKs[j]?=some ck∧YG o.dst C k ck:=by
    intro j o ho;have:=(aA2.1 ho).1;have e1:Cs[j]?=some Cs[j]:=aA1 om;have e2:Ks[j]?=some Ks[j]:=aA1 om;have e3:CKs[j]?=some CKs[j]:=aA1 om;exact ⟨_,_,_,e1,e2,e3,(h4 j o Rs[j] Mcs[j] _ _ _ ho (aA1 om) (aA1 om) e1 e2 e3).2.1⟩
   have hcs:∀ t,t∈(CKs.reverse.flatten++([]:List Nat))↔∃ k,k < pre.length∧t∈CKs.getD k []:=by
    intro t;rw [aBx];simp only [aDk,List.mem_reverse];constructor
    ·rintro ⟨C,hC,ht⟩;obtain ⟨k,hk⟩:=aBe hC;exact ⟨k,by have:=(aA2.1 hk).1;omega,by simpa [aAt,hk] using ht⟩
    ·rintro ⟨k,hk,ht⟩;have hk':CKs[k]?=some CKs[k]:=aA1 om;rw [aAt,hk'] at ht;exact ⟨CKs[k],aAj hk',ht⟩
   have hckC:∀ k t,k < pre.length→t∈CKs.getD k []→t∈Cs.getD k []:=by
    intro k t hk ht;obtain ⟨C,k',ck,e1,e2,e3,e4⟩:=hko k _ (aA1 hk);simp only [aAt,e1,e3,aCc] at ht ⊢;rcases e4 with ⟨_,rfl⟩ | ⟨_,u,rfl,_⟩
    ·exact ht
    ·exact aA4 _ ht
   have hone:∀ j k t,j < pre.length→k < pre.length→t∈Cs.getD j []→t∈Cs.getD k []→j=k:=by
    intro j k t hj hk h6 h7;have hoj:=hpre j _ (aA1 hj);have hok:=hpre k _ (aA1 hk);exact Nat.le_antisymm (hlin.first j k _ _ t hj hoj hok h6 (hlin.look k _ t hk hok h7)) (hlin.first k j _ _ t hk hok hoj h7 (hlin.look j _ t hj hoj h6))
   have hwr:∀ i k t oi,i < pre.length→k < pre.length→pre[i]?=some oi→oi.dst=some t→t∈Cs.getD k []→i < k:=by
    intro i k t oi hi hk hoi hdst htk';have hok:=hpre k _ (aA1 hk);obtain ⟨j,h7,h8⟩:=hlin.writer k _ t hk hok htk';have hjk:=hdag.before k _ hok j h7;have hji:j=i:=by
     cases hj:(pre++suf).toArray[j]? with
     | none=>rw [hj] at h8;simp at h8
     | some oj =>
      rw [hj] at h8;rcases Nat.decEq j i with hne | he
      ·exact (hdag.uniq j i oj oi t hne hj (hpre i oi hoi) hdst (by simpa using h8)).elim
      ·exact he
    subst hji;exact hjk
   have hgv:=Pa Γ.n hI.size hI.defers (w:=w) (w0:=Γ.w0) (S0:=Γ.S0) _ _ l (pool'++Msh) h5 ?_ ?_ ?_
   ·obtain ⟨l',M',e1,e2,e3⟩:=hgv;exact e3 _ a w _ e1 e2 fun a' w' l'' M'' q1 q2 q3=>⟨l'',M'',q1,q2,q3⟩
   ·intro t v ht hno;refine hI.env t v ht fun i oi hi hil hdst=>?_;have hilt:i < pre.length:=by
     rcases aCf i pre.length with h6 | h6
     ·exact h6
     ·rw [hI.suff i h6] at hil;cases hil
    have hi':pre[i]?=some oi:=by
     simp only [aBm] at hi;rw [aAp hilt] at hi;exact hi
    obtain ⟨a0,a1⟩:=VF hc i oi t v hi' hdst ht;have hRi:Rs[i]?=some Rs[i]:=aA1 om;have hKi:Ks[i]?=some (some t):=by
     obtain ⟨C,k',ck,_,e2,_,e4⟩:=hko i oi hi';rcases e4 with ⟨h6,_⟩ | ⟨h6,_⟩
     ·rw [e2,h6,hdst]
     ·rw [hdst] at h6;cases h6
    rcases hno Rs[i] (aAj (hput i _ _ hKi hRi)) with h6 | h6
    ·exact h6 a0
    ·obtain ⟨k,hk,htk'⟩:=(hcs t).1 h6;have htk2:=hckC k t hk htk';have h7:=hwr i k t oi hilt hk hi' hdst htk2;exact a1 k _ h7 (aA1 hk) (hlin.look k _ t hk (hpre k _ (aA1 hk)) htk2)
   ·intro t R hmm;obtain ⟨i,hi⟩:=aBe hmm;obtain ⟨j,o,_,h6,h7,_⟩:=hget i _ R hi;obtain ⟨C,k',ck,e1,e2,_,e4⟩:=hko j o h6;rw [h7] at e2;cases e2;have hjl:=(aA2.1 h6).1;rcases e4 with ⟨h8,_⟩ | ⟨_,u,h8,h9⟩
    ·exact hdag.small j o t (hpre j o h6) h8.symm
    ·cases h9;obtain ⟨j',h10,h11⟩:=hlin.writer j o t hjl (hpre j o h6) (by rw [aAt,e1,h8];exact aA9 ..)
     cases hj:(pre++suf).toArray[j']? with
     | none=>rw [hj] at h11;simp at h11
     | some oj=>rw [hj] at h11;exact hdag.small j' oj t hj (by simpa using h11)
   ·refine ⟨((List.range pre.length).map fun j=>if czd (pre++suf).toArray pre.length (fun i=>Cs.getD i []) listed j then [] else Mr j).reverse,by simp [h1,h2k],?_,fun i d R m hi hmm=>?_⟩
    ·refine hM.perm ((aF2 _ aB9).trans (aCh _ ?_));have e:((List.range pre.length).flatMap fun i=>if listed.getD i false then (if czd (pre++suf).toArray pre.length (fun i=>Cs.getD i []) listed i then [] else Mr i) else Mcs.getD i [])=((List.range pre.length).map fun j=>if czd (pre++suf).toArray pre.length (fun i=>Cs.getD i []) listed j then [] else Mr j).flatten:=by
      rw [aEz];refine aC5 List.flatten ?_;exact aFd fun i hi=>by rw [if_pos (hall i (aAv.1 hi))]
     rw [e];exact (List.reverse_perm _).symm.flatten
    ·obtain ⟨j,o,h6,h7,h8,h9⟩:=hget i d R hi;have hj:j < pre.length:=by omega
     have hm':m=if czd (pre++suf).toArray pre.length (fun i=>Cs.getD i []) listed j then [] else Mr j:=by
      rw [aF3 (by simp;omega)] at hmm;simp only [aB1,aFo,aD4] at hmm;rw [show pre.length - 1 - i=j by omega,aEj hj] at hmm;simpa using hmm.symm
     have hczd:∀ t,o.dst=some t→(czd (pre++suf).toArray pre.length (fun i=>Cs.getD i []) listed j=true↔∃ k,k < pre.length∧t∈Cs.getD k []):=by
      intro t hot;unfold czd;rw [hpre j o h7];simp only [aA7,hot,aBs,aAv,aAg];constructor
      ·rintro ⟨k,hk,_,hk2⟩;exact ⟨k,hk,Eu.1 hk2⟩
      ·rintro ⟨k,hk,hk2⟩;exact ⟨k,hk,hall k hk,Eu.2 hk2⟩
     have hczn:o.dst=none→czd (pre++suf).toArray pre.length (fun i=>Cs.getD i []) listed j=false:=fun hdst=>by
      unfold czd;rw [hpre j o h7];simp [hdst]
     obtain ⟨C,k',ck,e1,e2,e3,e4⟩:=hko j o h7;rw [h8] at e2;cases e2;have hhold:=hold j o (hpre j o h7) (hall j hj);simp only [aAt,h9,h8,aCc] at hhold;refine ⟨fun hdn=>?_,fun t hdt htc=>?_,fun t hdt htc hts hno=>?_⟩
     ·subst hdn;rcases e4 with ⟨h10,_⟩ | ⟨h10,u,_,h11⟩
      ·rw [hczn h10.symm] at hm';simp only [aBr,if_false] at hm';subst hm';exact hhold
      ·cases h11
     ·subst hdt;obtain ⟨k,hk,htk'⟩:=(hcs t).1 htc;rcases e4 with ⟨h10,_⟩ | ⟨h10,u,h11,h12⟩
      ·rw [hm',(hczd t h10.symm).2 ⟨k,hk,hckC k t hk htk'⟩,if_pos rfl]
      ·exfalso;cases h12;have htj:t∈Cs.getD j []:=by rw [aAt,e1,h11];exact aA9 ..
       have:=hone j k t hj hk htj (hckC k t hk htk');subst this;have hnd:=hlin.nodup j hj;simp only [aAt,e1,h11,aCc] at hnd;simp only [aAt,e3,aCc] at htk';exact (aCp.1 hnd).1 htk'
     ·subst hdt;have hcf:czd (pre++suf).toArray pre.length (fun i=>Cs.getD i []) listed j=false:=by
       rcases e4 with ⟨h10,_⟩ | ⟨h10,_⟩
       ·cases hcz:czd (pre++suf).toArray pre.length (fun i=>Cs.getD i []) listed j with
        | false=>rfl
        | true =>
         exfalso;obtain ⟨k,hk,htk'⟩:=(hczd t h10.symm).1 hcz;have hjk:=hwr j k t o hj hk h7 h10.symm htk';obtain ⟨Ck,kk,ckk,f1,f2,f3,f4⟩:=hko k _ (aA1 hk);rcases f4 with ⟨_,f5⟩ | ⟨_,u,f5,f6⟩
         ·subst f5;exact htc ((hcs t).2 ⟨k,hk,by simpa only [aAt,f1,f3] using htk'⟩)
         ·simp only [aAt,f1,f5,aCc] at htk';rcases aAf.1 htk' with h11 | h11
          ·subst h11;have hRk:Rs[k]?=some Rs[k]:=aA1 om;exact hno (pre.length - 1 - k) om Rs[k] (hput k _ _ (by rw [f2,f6]) hRk)
          ·exact htc ((hcs t).2 ⟨k,hk,by simpa only [aAt,f3,aCc] using h11⟩)
       ·exact hczn h10
      rw [hcf] at hm';simp only [aBr,if_false] at hm';subst hm';exact hhold
  ·refine ⟨by simp,?_,fun j hj=>?_,ha.size,ha.defers,fun i oi _ hl=>?_,fun t v ht _=>ha.get t v ht,fun _=>[],?_,fun i oi _ hl=>?_⟩
   ·rw [aD6.2]
    ·simp
    ·intro i hi;have:=aAv.1 hi;have h7:i < pre.length+suf.length:=by omega
     simp [aAo,aD0,h7]
   ·simp only [aAo,aD0];split<;>rfl
   ·simp [aAo,aD0] at hl;split at hl<;>simp at hl
   ·refine (hw.perm hp).perm ?_;have e:((List.range pre.length).flatMap fun i=>if (Array.replicate (pre++suf).toArray.size false).getD i false=true then (if czd (pre++suf).toArray pre.length (fun i=>Cs.getD i []) (Array.replicate (pre++suf).toArray.size false) i then [] else []) else Mcs.getD i [])=Mcs.flatten:=by
     rw [aEz];refine aC5 List.flatten (aDq fun i=>?_);simp only [aD4];by_cases hi:i < pre.length
     ·rw [aEj hi];have:Mcs[i]?=some Mcs[i]:=aA1 om;have h7:i < pre.length+suf.length:=by omega
      simp [aAo,aD0,h7,aAt,this]
     ·rw [aCd (by simpa using hi),aCd om];rfl
    rw [e];refine (aF2 Msh h3).trans ?_;rw [← aAh,← aAh];exact aCh _ aB9
   ·simp [aAo,aD0] at hl;split at hl<;>simp at hl
 cases draw with
 | true=>exact wp_region_any hm (any _ ⟨hw.os,⟨hw.tape.1,Nat.le_succ_of_le hw.tape.2⟩,hw.output,hw.size,hw.old,fun h hh=>h.st w _ (fun _ _=>rfl) (hw.prs h hh),hw.nodup,hw.rng⟩)
 | false =>
  refine wp_region ?_;rw [List.range_eq_range'];refine pL hdag _ 0 _ a w (by simp) (by simp) (fun j hj=>?_) (any w hw);rw [aAo,aD0];split<;>simp
theorem dI {Γ:Cx} {ops:Array Oper} {Msh:List HP} {K K':Gx} (hk:∀ rs cs pool,K rs cs pool→K' rs cs pool):∀ (rest:List Oper) (pool:List HP) (E:Fl) (rs:List (Option Nat×Rel)) (cs:List Nat),DV Γ ops Msh pool E rs cs rest K→DV Γ ops Msh pool E rs cs rest K'
 | [],_,_,_,_,h=>hk _ _ _ h
 | _::rest,_,_,_,_,⟨R,Mc,pool',C,k,ck,h1,h2,h3,h4,h5⟩=>⟨R,Mc,pool',C,k,ck,h1,h2,h3,h4,dI hk rest _ _ _ _ h5⟩
theorem Nr {cs:List Nat} {K K':CW} (hk:∀ l M,K l M→K' l M):∀ (rs:List (Option Nat×Rel)) (ts:List Nat) (l:BR) (M:List HP),Fs ts cs rs l M K→Fs ts cs rs l M K'
 | [],_,l,M,h=>hk l M h
 | (none,R)::rs,_,l,M,h=>fun Mr hr=>Nr hk rs _ _ _ (h Mr hr)
 | (some t,R)::rs,ts,l,M,h=>by
  simp only [Fs] at h ⊢;split
  ·rename_i he;rw [he] at h;exact Nr hk rs _ _ _ h
  ·rename_i he;rw [he] at h;split
   ·rename_i hf;rw [hf] at h;exact fun v Mr hr=>Nr hk rs _ _ _ (h v Mr hr)
   ·rename_i hf;rw [hf] at h;exact Nr hk rs _ _ _ h
theorem BM {Γ:Cx} {l:BR} {M:List HP} {Q:CX} {id:Nat} {draw:Bool} {pre:List Oper} (ts:List Nat) (hm:Γ.P.follows .mixedOrders=true)
  (hd:eY Γ.n pre.toArray=true) (hc:ON ts l pre.toArray pre=true)
  (h:DV Γ pre.toArray M [] (Ov l) [] [] pre (fun rs cs pool'=>Fs ts cs rs l (pool'++M) fun l' M'=>Q .normal l' M')):W Γ (.region id pre.toArray draw) l M Q:=by
 have e:pre++[]=pre:=aBx pre;have:=W_D (Q:=Q) (id:=id) (draw:=draw) (pre:=pre) (suf:=[]) (M:=M) ts M [] (by simp) hm (by rw [e];exact hd) (by
  rw [e];refine aAw.2 fun i hi=>?_;have:=aAv.1 hi;simp at this;simp [this]) (by rw [e];exact hc) (by
  rw [e];refine dI ?_ pre _ _ _ _ h;intro rs cs pool' hg;exact Nr (fun l' M' hq=>Ca hq) rs _ _ _ hg)
 rw [e] at this;exact this
variable {Γ:Cx} {ops:Array Oper} {Msh pool:List HP} {E:Fl} {rs:List (Option Nat×Rel)} {rest:List Oper} {KD:Gx} {cs0:List Nat}
variable {d:Nat} {ty:TypeId} {pos:String} {af:Array Edge} {gd:Option (Nat×Bool)}
theorem Dq:∀ (E:Fl),Eb [] E=E
 | []=>rfl
 | (t,R)::E=>by simp only [Eb,List.elem_nil];rw [Dq E]
theorem VG (h:KD rs cs0 pool):DV Γ ops Msh pool E rs cs0 [] KD:=h
def OpV (E:Fl) (x:Operand) (c:Prop) (v:Value):Prop :=
 match x with
 | .tmp t=>∃ R,E.lookup t=some R∧∀ u M,R u M→c→u=v
 | .const u=>u=v
 | .func f=>.func (.func f) #[] #[]=v
 | .global g=>.pointer (some ⟨g,0,none⟩)=v
theorem OpV.c {c:Prop} {v:Value}:OpV E (.const v) c v:=rfl
abbrev Bp:=@OpV.c
theorem OpV.g {t:Nat} {c c':Prop} {v:Value} (h:E.lookup t=some (FC c' v)) (hc:c→c'):OpV E (.tmp t) c v:=⟨_,h,fun _ _ hR hcc=>hR.2.1 (hc hcc)⟩
theorem OpV.t {t:Nat} {c:Prop} {v:Value} (h:E.lookup t=some (FC True v)):OpV E (.tmp t) c v:=.g h fun _=>trivial
abbrev Ag:=@OpV.t
theorem OpV.s {t:Nat} {c:Prop} {v:Value} (h:E.lookup t=some (FC c v)):OpV E (.tmp t) c v:=.g h id
abbrev Al:=@OpV.s
theorem OpV.eval {a:Act} {F:List HP} {o:Oper} {x:Operand} {c:Prop} {v:Value} (h:OpV E x c v) (hf:LE E (o.looksAt ops) F a) (hx:x∈o.op.operands.toList) (hc:c):a.eval x=v:=by
 cases x with
 | tmp t =>
  obtain ⟨R,h1,h2⟩:=h;obtain ⟨M,h3,_⟩:=hf t R (aB2 _ (aEs.2 ⟨_,hx,rfl⟩)) h1;exact h2 _ _ h3 hc
 | const u=>exact h
 | func f=>exact h
 | global g=>exact h
def GC (ops:Array Oper) (E:Fl) (o:Oper) (c:Prop):Prop:=∀ a F,LE E (o.looksAt ops) F a→(Region.wanted o (yielded ops a.tmps)=true↔c)
theorem GC.none {op:Op}:GC ops E ⟨some d,op,ty,pos,af,Option.none⟩ True:=fun a F _=>by simp [Region.wanted]
abbrev Ai:=@GC.none
theorem GC.some {op:Op} {g tg:Nat} {want b:Bool} {c0:Prop} {dd:Option Nat} (h1:(ops[g]?).bind (·.dst)=some tg) (h2:E.lookup tg=Option.some (FC c0 (.bool b))) :
  GC ops E ⟨dd,op,ty,pos,af,Option.some (g,want)⟩ (c0∧b=want):=fun a F hf=>by
 obtain ⟨M,⟨_,h4,h5⟩,_⟩:=hf tg _ (aAx _ (by simp [h1])) h2;simp only [Region.wanted,yielded,h1,aA7];by_cases hc:c0
 ·have h6:=h4 hc;by_cases hlt:tg < a.tmps.size
  ·simp only [aAo,aAy hlt,aCc] at h6;rw [aAy hlt,h6];simp [hc]
  ·simp only [aAo,aD8 (Nat.le_of_not_lt hlt),Option.getD_none] at h6;cases h6
 ·have h6:=h5 hc;by_cases hlt:tg < a.tmps.size
  ·simp only [aAo,aAy hlt,aCc] at h6;rw [aAy hlt,h6];simp [hc,undef]
  ·rw [aD8 (Nat.le_of_not_lt hlt)];simp [hc]
abbrev Aj:=@GC.some
theorem Eg {op:Op} (c:Prop) (x:Value) (hg:GC ops E ⟨some d,op,ty,pos,af,gd⟩ c)
  (he:∀ a w F,c→LE E (Oper.looksAt ops ⟨some d,op,ty,pos,af,gd⟩) F a→Sees Γ.w0 Γ.S0 Msh w →
   (execOp a.eval ⟨some d,op,ty,pos,af,gd⟩).run Γ.P w=.ok (.value x) w)
  (hk:DV Γ ops Msh pool ((d,FC c x)::E) ((some d,FC c x)::rs) cs0 rest KD) :
  DV Γ ops Msh pool E rs cs0 (⟨some d,op,ty,pos,af,gd⟩::rest) KD:=by
 refine DV.mk (FC c x) [] pool [] (by simp) rfl ?_ (by rw [Dq];exact hk);intro a w F Mk _ _ hw hm hf hcf;have hMk:Mk=[]:=hcf;subst hMk;rw [Dq] at hf;simp only [aAa] at hw ⊢;have hgc:=hg a F hf;split
 ·rename_i hwt;have hc:=hgc.1 hwt;rw [he a w F hc hf ((show Holds Γ.w0 Γ.S0 F w by simpa using hw).seesSub hm)];exact ⟨[],⟨rfl,fun _=>rfl,fun hn=>(hn hc).elim⟩,hw⟩
 ·rename_i hwt;exact ⟨rfl,fun hc=>(hwt (hgc.2 hc)).elim,fun _=>rfl⟩
theorem Dz {x:Operand} {c:Prop} {v:Value} (hg:GC ops E ⟨some d,.move x,ty,pos,af,gd⟩ c) (hx:OpV E x c v)
  (hk:DV Γ ops Msh pool ((d,FC c v)::E) ((some d,FC c v)::rs) cs0 rest KD):DV Γ ops Msh pool E rs cs0 (⟨some d,.move x,ty,pos,af,gd⟩::rest) KD :=
 Eg c v hg (fun a w F hc hf _=>by have e:=hx.eval hf (by simp [Op.operands]) hc;simp [execOp,e]) hk
theorem RT {x:Operand} {c:Prop} {v:Value} (hg:GC ops E ⟨some d,.assign x,ty,pos,af,gd⟩ c) (hx:OpV E x c v)
  (hk:DV Γ ops Msh pool ((d,FC c v)::E) ((some d,FC c v)::rs) cs0 rest KD):DV Γ ops Msh pool E rs cs0 (⟨some d,.assign x,ty,pos,af,gd⟩::rest) KD :=
 Eg c v hg (fun a w F hc hf _=>by have e:=hx.eval hf (by simp [Op.operands]) hc;simp [execOp,e]) hk
theorem pM {x:Operand} {T:TypeId} {c:Prop} {b:Bool} (hg:GC ops E ⟨some d,.unOp .not T x,ty,pos,af,gd⟩ c) (hx:OpV E x c (.bool b))
  (hk:DV Γ ops Msh pool ((d,FC c (.bool (!b)))::E) ((some d,FC c (.bool (!b)))::rs) cs0 rest KD):DV Γ ops Msh pool E rs cs0 (⟨some d,.unOp .not T x,ty,pos,af,gd⟩::rest) KD :=
 Eg c _ hg (fun a w F hc hf _=>by have e:=hx.eval hf (by simp [Op.operands]) hc;simp [execOp,e,Op.unary]) hk
theorem DT {op:BinOp} {T U:TypeId} {x y:Operand} {c:Prop} {u v r:Value} (hg:GC ops E ⟨some d,.binOp op T x y U,ty,pos,af,gd⟩ c)
  (hx:OpV E x c u) (hy:OpV E y c v) (he:c→ET Γ.P op T x y u v r)
  (hk:DV Γ ops Msh pool ((d,FC c r)::E) ((some d,FC c r)::rs) cs0 rest KD):DV Γ ops Msh pool E rs cs0 (⟨some d,.binOp op T x y U,ty,pos,af,gd⟩::rest) KD :=
 Eg c r hg (fun a w F hc hf _=>by
  have e1:=hx.eval hf (by simp [Op.operands]) hc;have e2:=hy.eval hf (by simp [Op.operands]) hc;simp only [execOp,e1,e2];rw [Sem.run_bind,he hc w];rfl) hk
theorem Ow (a:Act) (v:Value):a.eval (.const v)=v:=rfl
theorem zV {x y:Operand} {c cy:Prop} {b b':Bool} (hg:GC ops E ⟨some d,.pick x (.const (.bool true)) y,ty,pos,af,gd⟩ c) (hx:OpV E x c (.bool b))
  (hy:OpV E y cy (.bool b')) (hcy:c→b=false→cy)
  (hk:DV Γ ops Msh pool ((d,FC c (.bool (b||b')))::E) ((some d,FC c (.bool (b||b')))::rs) cs0 rest KD):DV Γ ops Msh pool E rs cs0 (⟨some d,.pick x (.const (.bool true)) y,ty,pos,af,gd⟩::rest) KD :=
 Eg c _ hg (fun a w F hc hf _=>by
  have e:=hx.eval hf (by simp [Op.operands]) hc
  cases hb:b with
  | true=>subst hb;simp [execOp,e,asBool,Ow]
  | false =>
   have e2:=hy.eval hf (by simp [Op.operands]) (hcy hc hb);subst hb;simp [execOp,e,e2,asBool,Ow]) hk
theorem El {x y:Operand} {c cy:Prop} {b b':Bool} (hg:GC ops E ⟨some d,.pick x y (.const (.bool false)),ty,pos,af,gd⟩ c) (hx:OpV E x c (.bool b))
  (hy:OpV E y cy (.bool b')) (hcy:c→b=true→cy)
  (hk:DV Γ ops Msh pool ((d,FC c (.bool (b&&b')))::E) ((some d,FC c (.bool (b&&b')))::rs) cs0 rest KD):DV Γ ops Msh pool E rs cs0 (⟨some d,.pick x y (.const (.bool false)),ty,pos,af,gd⟩::rest) KD :=
 Eg c _ hg (fun a w F hc hf _=>by
  have e:=hx.eval hf (by simp [Op.operands]) hc
  cases hb:b with
  | false=>subst hb;simp [execOp,e,asBool,Ow]
  | true =>
   have e2:=hy.eval hf (by simp [Op.operands]) (hcy hc hb);subst hb;simp [execOp,e,e2,asBool,Ow]) hk
theorem tX {x:Operand} {T:TypeId} {e:TypeId×Nat×Nat×List Value} {a:Option Addr} {n cp:Nat} {c:Prop} (hg:GC ops E ⟨some d,.call { callee:=.builtin .len,args:=#[x],argTypes:=#[T] },ty,pos,af,gd⟩ c)
  (hx:OpV E x c (.slice a n cp)) (ht:elOf Γ.P T=some e)
  (hk:DV Γ ops Msh pool ((d,FC c (.int .i64 n))::E) ((some d,FC c (.int .i64 n))::rs) cs0 rest KD) :
  DV Γ ops Msh pool E rs cs0 (⟨some d,.call { callee:=.builtin .len,args:=#[x],argTypes:=#[T] },ty,pos,af,gd⟩::rest) KD :=
 Eg c _ hg (fun a' w F hc hf _=>by
  have e1:=hx.eval hf (by simp [Op.operands,Call.operands]) hc;have:=NU (z:=e) ht a n cp ty w;simp [execOp,resolve,invoke,builtin,e1,this]) hk
theorem cG {P:Program} {T f fo:Nat} (ht:PU P T f=some fo) (g o:Nat) (w:World):(Instr.fieldAt T (.pointer (some ⟨g,o,none⟩)) f).run P w=.ok (.pointer (some ⟨g,o+fo,none⟩)) w:=by
 unfold PU at ht;split at ht<;>(try cases ht);rename_i fs hfs;split at ht<;>(try cases ht);rename_i x' hx';split at ht<;>(try cases ht);rename_i i hi;split at ht<;>cases ht;rename_i hsz;simp [Instr.fieldAt,underlying,hfs,hx',Instr.sureAddr,fieldPlace,sizeOf,typeInfo,hi,hsz,DP]
theorem Br {x:Operand} {T f fo g o:Nat} {c:Prop} (hg:GC ops E ⟨some d,.fieldAddr T x f,ty,pos,af,gd⟩ c)
  (hx:OpV E x c (.pointer (some ⟨g,o,none⟩))) (ht:PU Γ.P T f=some fo)
  (hk:DV Γ ops Msh pool ((d,FC c (.pointer (some ⟨g,o+fo,none⟩)))::E) ((some d,FC c (.pointer (some ⟨g,o+fo,none⟩)))::rs) cs0 rest KD) :
  DV Γ ops Msh pool E rs cs0 (⟨some d,.fieldAddr T x f,ty,pos,af,gd⟩::rest) KD :=
 Eg c _ hg (fun a' w F hc hf _=>by
  have e1:=hx.eval hf (by simp [Op.operands]) hc;simp [execOp,e1,cG ht]) hk
theorem fA {x:Operand} {a:Addr} {c:Prop} (hg:GC ops E ⟨some d,.nilCheck x,ty,pos,af,gd⟩ c)
  (hx:OpV E x c (.pointer (some a)))
  (hk:DV Γ ops Msh pool ((d,FC c (.pointer (some a)))::E) ((some d,FC c (.pointer (some a)))::rs) cs0 rest KD) :
  DV Γ ops Msh pool E rs cs0 (⟨some d,.nilCheck x,ty,pos,af,gd⟩::rest) KD :=
 Eg c _ hg (fun a' w F hc hf _=>by
  have e1:=hx.eval hf (by simp [Op.operands]) hc;simp [execOp,e1]) hk
theorem Hg {x:Operand} {S T:TypeId} {k k':IntKind} {n:Int} {c:Prop} (hg:GC ops E ⟨some d,.convert S T x,ty,pos,af,gd⟩ c)
  (hx:OpV E x c (.int k n)) (ht:Γ.P.underlying T=some (.int k')) (hs:(Γ.P.underlying S).isSome=true)
  (hk:DV Γ ops Msh pool ((d,FC c (.int k' (k'.wrap n)))::E) ((some d,FC c (.int k' (k'.wrap n)))::rs) cs0 rest KD) :
  DV Γ ops Msh pool E rs cs0 (⟨some d,.convert S T x,ty,pos,af,gd⟩::rest) KD :=
 Eg c _ hg (fun a' w F hc hf _=>by
  have e1:=hx.eval hf (by simp [Op.operands]) hc;obtain ⟨u,hu⟩:=aEo.1 hs;simp [execOp,e1,convert,underlying,hu,ht,Conv.intToInt]) hk
theorem Bu {x:Operand} {T g off fo:Nat} {cs:List Value} {v:Value} {c:Prop} (hg:GC ops E ⟨some d,.load T x,ty,pos,af,gd⟩ c)
  (hx:OpV E x c (.pointer (some ⟨g,off+fo,none⟩))) (hc:c→RdC Γ Msh g off cs) (ht:Ie Γ.P T=true) (hv:cs[fo]?=some v)
  (hk:DV Γ ops Msh pool ((d,FC c v)::E) ((some d,FC c v)::rs) cs0 rest KD) :
  DV Γ ops Msh pool E rs cs0 (⟨some d,.load T x,ty,pos,af,gd⟩::rest) KD :=
 Eg c _ hg (fun a' w F hcc hf hw=>by
  have e1:=hx.eval hf (by simp [Op.operands]) hcc;simp [execOp,e1,Instr.loadAt,Instr.sureAddr,loadVar,Fx ht,hc hcc w hw fo v hv]) hk
theorem Cr {x:Operand} {T g off:Nat} {cs:List Value} {v:Value} {c:Prop} (hg:GC ops E ⟨some d,.load T x,ty,pos,af,gd⟩ c)
  (hx:OpV E x c (.pointer (some ⟨g,off,none⟩))) (hc:c→RdC Γ Msh g off cs) (ht:Ie Γ.P T=true) (hv:cs[0]?=some v)
  (hk:DV Γ ops Msh pool ((d,FC c v)::E) ((some d,FC c v)::rs) cs0 rest KD) :
  DV Γ ops Msh pool E rs cs0 (⟨some d,.load T x,ty,pos,af,gd⟩::rest) KD :=
 Bu (fo:=0) hg hx hc ht hv hk
theorem Bw {x:Operand} {T g off:Nat} {cs:List Value} {c:Prop} (hg:GC ops E ⟨some d,.load T x,ty,pos,af,gd⟩ c)
  (hx:OpV E x c (.pointer (some ⟨g,off,none⟩))) (hc:c→RdC Γ Msh g off cs) (ht:Jp Γ.P T=some cs.length)
  (hk:DV Γ ops Msh pool ((d,FC c (.agg cs.toArray))::E) ((some d,FC c (.agg cs.toArray))::rs) cs0 rest KD) :
  DV Γ ops Msh pool E rs cs0 (⟨some d,.load T x,ty,pos,af,gd⟩::rest) KD :=
 Eg c _ hg (fun a' w F hcc hf hw=>by
  have e1:=hx.eval hf (by simp [Op.operands]) hcc;have hl:=Gk (P:=Γ.P) (hc hcc w hw);simp [execOp,e1,Instr.loadAt,Instr.sureAddr,loadVar,Ey ht,hl]) hk
def IsV (x:Value):Rel:=fun v M=>v=x∧M=[]
def OpVs (E:Fl) (c:Prop):List Operand→List Value→Prop
 | [],[]=>True
 | x::xs,v::vs=>OpV E x c v∧OpVs E c xs vs
 | _,_=>False
theorem OpVs.nil {c:Prop}:OpVs E c [] []:=trivial
abbrev AC:=@OpVs.nil
theorem OpVs.cons {c:Prop} {x:Operand} {v:Value} {xs:List Operand} {vs:List Value} (h:OpV E x c v) (hs:OpVs E c xs vs):OpVs E c (x::xs) (v::vs):=⟨h,hs⟩
abbrev Ae:=@OpVs.cons
theorem OpVs.evals {a:Act} {F:List HP} {o:Oper} {c:Prop} (hc:c) (hf:LE E (o.looksAt ops) F a):∀ (xs:List Operand) (vs:List Value),OpVs E c xs vs→(∀ x,x∈xs→x∈o.op.operands.toList)→xs.map a.eval=vs
 | [],[],_,_=>rfl
 | x::xs,v::vs,h,hm=>by
  rw [aE2,h.1.eval hf (hm x (by simp)) hc,OpVs.evals hc hf xs vs h.2 (fun y hy=>hm y (aA4 _ hy))]
 | [],_::_,h,_=>h.elim
 | _::_,[],h,_=>h.elim
theorem AT {f:Nat} {xs:List Operand} {ats:Array TypeId} {vs:List Value} {c:Prop} {x:Value}
  (hg:GC ops E ⟨some d,.call { callee:=.value (.func f),args:=xs.toArray,argTypes:=ats },ty,pos,af,gd⟩ c)
  (hf:IsFn Γ.P f) (hx:OpVs E c xs vs) (hc:c→∀ w F,Holds Γ.w0 Γ.S0 F w→(∀ h,h∈Msh→h∈F)→Spec Γ.P f vs.toArray w [] (IsV x))
  (hk:DV Γ ops Msh pool ((d,FC c x)::E) ((some d,FC c x)::rs) cs0 rest KD) :
  DV Γ ops Msh pool E rs cs0 (⟨some d,.call { callee:=.value (.func f),args:=xs.toArray,argTypes:=ats },ty,pos,af,gd⟩::rest) KD:=by
 refine DV.mk (FC c x) [] pool [] (by simp) rfl ?_ (by rw [Dq];exact hk);intro a w F Mk _ _ hw hm hfa hcf;have hMk:Mk=[]:=hcf;subst hMk;rw [Dq] at hfa;simp only [aAa] at hw ⊢;have hgc:=hg a F hfa;split
 ·rename_i hwt;have hcc:=hgc.1 hwt;have hw':Holds Γ.w0 Γ.S0 F w:=by simpa using hw
  have h2:(#[]++xs.toArray.map a.eval++#[]:Array Value)=vs.toArray:=by
   simp [OpVs.evals (o:=⟨some d,.call { callee:=.value (.func f),args:=xs.toArray,argTypes:=ats },ty,pos,af,gd⟩) hcc hfa xs vs hx (fun x hx=>by simp [Op.operands,Call.operands,hx])]
  rw [execOp_call_go,h2,hf.run];exact (hc hcc w F hw' hm (Holds.split (M1:=[]) (M2:=F) hw)).mono fun e w'' ⟨v,M',h1,h3,h4⟩=>⟨v,M',h1,⟨h3.2,fun _=>h3.1,fun hn=>(hn hcc).elim⟩,Holds.frame (M1:=[]) (M2:=F) hw h4⟩
 ·rename_i hwt;exact ⟨rfl,fun hc=>(hwt (hgc.2 hc)).elim,fun _=>rfl⟩
def OpRs (E:Fl):List Operand→List Rel→Prop
 | [],[]=>True
 | x::xs,R::Rs=>(match x with | .tmp t=>∃ R',E.lookup t=some R'∧∀ v M,R' v M→R v M | .const u=>R u [] | .func f=>R (.func (.func f) #[] #[]) [] | .global g=>R (.pointer (some ⟨g,0,none⟩)) [])∧OpRs E xs Rs
 | _,_=>False
def mF (F:List HP):List Rel→List Value→Prop
 | [],vs=>vs=[]
 | R::Rs,vs=>∃ v us M,vs=v::us∧R v M∧(∀ h,h∈M→h∈F)∧mF F Rs us
theorem OpRs.evals {a:Act} {F:List HP} {o:Oper} (hf:LE E (o.looksAt ops) F a):∀ (xs:List Operand) (Rs:List Rel),OpRs E xs Rs→(∀ x,x∈xs→x∈o.op.operands.toList)→mF F Rs (xs.map a.eval)
 | [],[],_,_=>rfl
 | x::xs,R::Rs,h,hm=>by
  have h2:=OpRs.evals hf xs Rs h.2 (fun y hy=>hm y (aA4 _ hy));have h1:=h.1
  cases x with
  | tmp t =>
   obtain ⟨R',h3,h4⟩:=h1;obtain ⟨M,h5,h6⟩:=hf t R' (aB2 _ (aEs.2 ⟨_,hm _ (aA9 ..),rfl⟩)) h3;exact ⟨_,_,M,rfl,h4 _ _ h5,h6,h2⟩
  | const u=>exact ⟨_,_,[],rfl,h1,fun x hx=>(by cases hx),h2⟩
  | func f=>exact ⟨_,_,[],rfl,h1,fun x hx=>(by cases hx),h2⟩
  | global g=>exact ⟨_,_,[],rfl,h1,fun x hx=>(by cases hx),h2⟩
 | [],_::_,h,_=>h.elim
 | _::_,[],h,_=>h.elim
theorem Pb {x y:Operand} {T b:Nat} {T':TypeId} {cs cs':List Value} {pool':List HP} (hx:OpV E x True (.pointer (some ⟨b,0,none⟩))) (hy:OpV E y True (.agg cs'.toArray)) (hp:Pick (blk b cs T') pool pool')
  (ht:Jp Γ.P T=some cs'.length) (hl:cs'.length=cs.length) (h1:∀ v,v∈cs'→v.oneCell'=true)
  (hk:DV Γ ops Msh pool' E ((none,fun _ M=>M=[blk b cs' T'])::rs) cs0 rest KD) :
  DV Γ ops Msh pool E rs cs0 (⟨none,.store T x y,ty,pos,af,none⟩::rest) KD:=by
 refine DV.mk (fun _ M=>M=[blk b cs' T']) ([blk b cs T']) pool' [] hp.perm rfl ?_ (by rw [Dq];exact hk);intro a w F Mk _ _ hw hm hfa hcf;have hMk:Mk=[]:=hcf;subst hMk;rw [Dq] at hfa;simp only [aAa] at hw;rw [if_pos (by simp [Region.wanted])];have e1:=hx.eval hfa (by simp [Op.operands]) trivial;have e2:=hy.eval hfa (by simp [Op.operands]) trivial;have hh:w.heap[b]?=some (.cells cs.toArray T' (0,0)):=hw.prs (blk b cs T') (by simp);have hs:=Ga (P:=Γ.P) (fo:=0) (vs:=cs') (ty:=T) hh om h1;have e:(cs.take 0++cs'++cs.drop (0+cs'.length))=cs':=by simp [hl]
 rw [e] at hs;have hrun:(execOp a.eval ⟨none,.store T x y,ty,pos,af,none⟩).run Γ.P w=.ok .skip (w.setRow b cs'.toArray):=by
  simp [execOp,e1,e2,Instr.storeAt,Instr.sureAddr,storeVar,Ey ht,Value.cells,hs]
 rw [hrun];exact ⟨_,rfl,IB (cs':=cs') hw⟩
theorem Ua {ts:List Nat} {t:Nat} {x:Value} {l:BR} {M:List HP} {K:CW} (hc:cs0.elem t=false) (ht:ts.elem t=true) (h:Fs (rmN t ts) cs0 rs ((t,x)::l) M K):Fs ts cs0 ((some t,FC True x)::rs) l M K:=by
 simp only [Fs,ht,hc];rintro v Mr ⟨rfl,h1,_⟩;rw [h1 trivial];exact h
theorem PX {ts:List Nat} {t:Nat} {R:Rel} {l:BR} {M:List HP} {K:CW} (ht:ts.elem t=false) (h:Fs ts cs0 rs l M K):Fs ts cs0 ((some t,R)::rs) l M K:=by
 simp only [Fs,ht];split<;>exact h
theorem jD {ts:List Nat} {t:Nat} {R:Rel} {l:BR} {M:List HP} {K:CW} (hc:cs0.elem t=true) (h:Fs ts cs0 rs l M K):Fs ts cs0 ((some t,R)::rs) l M K:=by
 simp only [Fs,hc];exact h
theorem Cm {ts:List Nat} {t:Nat} {R:Rel} {l:BR} {M:List HP} {K:CW} (hc:cs0.elem t=false) (ht:ts.elem t=true) (h:∀ v Mr,R v Mr→Fs (rmN t ts) cs0 rs ((t,v)::l) (Mr++M) K):Fs ts cs0 ((some t,R)::rs) l M K:=by
 simp only [Fs,ht,hc];exact h
theorem qU {ts:List Nat} {b:List HP} {l:BR} {M:List HP} {K:CW} (h:Fs ts cs0 rs l (b++M) K):Fs ts cs0 ((none,fun _ M=>M=b)::rs) l M K:=by
 rintro Mr rfl;exact h
theorem RU {ts:List Nat} {l:BR} {M:List HP} {K:CW} (h:K l M):Fs ts cs0 [] l M K:=h
theorem BH {l:BR} {M:List HP} {K:CW} {f:Nat} {xs:List Operand} {ats:Array TypeId} {vs:List Value} {x:Value}
  (hn:Nat.blt d Γ.n=true) (hf:IsFn Γ.P f) (hx:evs l xs=some vs) (hc:∀ w,Holds Γ.w0 Γ.S0 M w→Spec Γ.P f vs.toArray w [] (IsV x))
  (hk:L Γ rest ((d,x)::l) M K):L Γ (⟨some d,.call { callee:=.value (.func f),args:=xs.toArray,argTypes:=ats },ty,pos,af,none⟩::rest) l M K :=
 YX (M1:=[]) (M2:=M) (R:=IsV x) rfl rfl rfl (aAc hn) hf hx (by simp) (fun w hw=>hc w hw) (fun v M' ⟨h1,h2⟩=>by subst h1;subst h2;exact hk)
theorem AZ {l:BR} {M:List HP} {K:CW} {f:Nat} {xs:List Operand} {ats:Array TypeId} {vs:List Value} {R:Rel}
  (hn:Nat.blt d Γ.n=true) (hf:IsFn Γ.P f) (hx:evs l xs=some vs) (hc:∀ w,Holds Γ.w0 Γ.S0 M w→Spec Γ.P f vs.toArray w [] R)
  (hk:∀ v M',R v M'→L Γ rest ((d,v)::l) (M'++M) K):L Γ (⟨some d,.call { callee:=.value (.func f),args:=xs.toArray,argTypes:=ats },ty,pos,af,none⟩::rest) l M K :=
 YX (M1:=[]) (M2:=M) (R:=R) rfl rfl rfl (aAc hn) hf hx (by simp) (fun w hw=>hc w hw) hk
section
variable {τ δ:Type} [GT τ δ] {w0 w:World} {S0:List Nat} {F:List HP} {t:τ}
theorem Jx (h:GT.rd w0 S0 t) (hw:Holds w0 S0 F w):GT.rd w [] t:=GT.rd_mono h fun _ _ ho=>ho.carry (M1:=[]) (M2:=F) hw
theorem Ox (hm:Af t∈F) (hw:Sees w0 S0 F w):GT.rd w [] t:=GT.ow_rd (hw.prs _ hm) fun _ _ h=>by cases h
end
theorem qV {τ δ:Type} [GT τ δ] {w0:World} {S0:List Nat} {L:TL τ} {k:Nat} (h:GT.rd w0 S0 L) (hk:k < L.els.length):∃ g o,L.a=some ⟨g,o,none⟩:=by
 cases ha:L.a with
 | none=>have:=h.2.2.2.1 ha;rw [this] at hk;simp at hk
 | some a =>
  obtain ⟨b,o,s⟩:=a;have:=(h.2.2.2.2 _ ha).1 (fun e=>by rw [e] at hk;simp at hk);exact ⟨b,o,by simp at this;rw [this]⟩
theorem Dv {l:BR} {M:List HP} {Q:CX} {id:Nat} {draw:Bool} {pre suf:List Oper} (ts:List Nat) (pool Msh:List HP) (hp:List.Perm M (pool++Msh)) (hm:Γ.P.follows .mixedOrders=true)
  (hd:eY Γ.n (pre++suf).toArray=true) (hsb:mE (pre++suf).toArray pre.length=true) (hc:ON ts l (pre++suf).toArray pre=true)
  (h:DV Γ (pre++suf).toArray Msh pool (Ov l) [] [] pre (fun rs cs pool'=>Fs ts cs rs l (pool'++Msh) fun l' M'=>L Γ suf l' M' fun l M=>Q .normal l M)):W Γ (.region id (pre++suf).toArray draw) l M Q :=
 W_D ts Msh pool (hp.trans aB9) hm hd hsb hc h
variable {Γ:Cx} {l:BR} {M:List HP} {Q:CX} {K:CW} {w0 w:World} {S0:List Nat}
variable {rest:List Oper} {d:Nat} {ty:TypeId} {pos:String} {af:Array Edge}
section
variable {τ δ:Type} [GT τ δ]
structure Flat (t:τ):Prop where
 fp:GT.fp t=[]
 ow:∀ w,GT.ow w t
theorem Ze {n:Int} (_:True):Flat n:=⟨rfl,fun _=>trivial⟩
theorem XN (b:Bool):Flat b:=⟨rfl,fun _=>trivial⟩
theorem qW (b:UInt8):Flat b:=⟨rfl,fun _=>trivial⟩
theorem Zf {s:ByteArray} (_:True):Flat s:=⟨rfl,fun _=>trivial⟩
theorem jE {α β δ ε:Type} [GT α δ] [GT β ε] {a:α} {b:β} (ha:Flat a) (hb:Flat b):Flat (a,b):=⟨by show GT.fp a++GT.fp b=[];rw [ha.fp,hb.fp];rfl,fun w=>⟨ha.ow w,hb.ow w⟩⟩
def TL.nil (τ:Type) (e:TypeId):TL τ:=⟨none,0,e,[],[]⟩
theorem Zg (e:TypeId):Flat (TL.nil τ e):=⟨rfl,fun _=>⟨aAu _,by simp [TL.nil,maxLen],fun x hx=>by simp [TL.nil] at hx,fun _=>⟨rfl,rfl⟩,fun a ha=>by simp [TL.nil] at ha⟩⟩
theorem RV (xs:List τ) (h:∀ x,x∈xs→Flat x):xs.flatMap GT.fp=[]:=aDy.2 fun x hx=>(h x hx).fp
def Be (L:TL τ):HP:=⟨(match L.a with | none=>[] | some a=>[a.block]),fun w=>L.els.length≤L.cap∧L.cap≤maxLen∧(L.a=none→L.els=[]∧L.cap=0) ∧
  ∀ a,L.a=some a→a.spot=none∧a.off=0∧w.heap[a.block]?=some (.cells (Av L.els++L.tail).toArray L.e (0,0))∧L.els.length*GT.sz τ+L.tail.length=L.cap*GT.sz τ,
 fun w w' hh h=>⟨h.1,h.2.1,h.2.2.1,fun a ha=>by
  obtain ⟨h1,h2,h3,h4⟩:=h.2.2.2 a ha;exact ⟨h1,h2,by rw [hh a.block (by rw [ha];simp)];exact h3,h4⟩⟩⟩
theorem Holds.addFlat {t:τ} (h:Holds w0 S0 M w) (hf:Flat t):Holds w0 S0 (Af t::M) w:=by
 have e:fps (Af t::M)=fps M:=by rw [BZ];show GT.fp t++fps M=_;rw [hf.fp];rfl
 refine ⟨h.os,h.tape,h.output,h.size,h.old,fun x hx=>?_,by rw [e];exact h.nodup,fun k hk=>h.rng k (by rw [← e];exact hk)⟩;rcases aAf.1 hx with rfl | hx
 ·exact hf.ow w
 ·exact h.prs _ hx
theorem jF {α β δ ε:Type} [GT α δ] [GT β ε] {a:α} {b:β} (h:Holds w0 S0 (Af (a,b)::M) w):Holds w0 S0 (Af a::Af b::M) w:=by
 have ht:GT.ow w (a,b):=h.prs _ (aA9 ..);have e:fps (Af a::Af b::M)=fps (Af (a,b)::M):=by
  simp only [BZ];show GT.fp a++(GT.fp b++fps M)=(GT.fp a++GT.fp b)++fps M;rw [aAh]
 refine ⟨h.os,h.tape,h.output,h.size,h.old,fun x hx=>?_,by rw [e];exact h.nodup,fun k hk=>h.rng k (by rw [← e];exact hk)⟩;rcases aAf.1 hx with rfl | hx
 ·exact ht.1
 rcases aAf.1 hx with rfl | hx
 ·exact ht.2
 ·exact h.prs _ (aA4 _ hx)
theorem jG {α β δ ε:Type} [GT α δ] [GT β ε] {a:α} {b:β} (h:Holds w0 S0 (Af a::Af b::M) w):Holds w0 S0 (Af (a,b)::M) w:=by
 have ha:GT.ow w a:=h.prs _ (aA9 ..);have hb:GT.ow w b:=h.prs _ (aA4 _ (aA9 ..));have e:fps (Af (a,b)::M)=fps (Af a::Af b::M):=by
  simp only [BZ];show (GT.fp a++GT.fp b)++fps M=GT.fp a++(GT.fp b++fps M);rw [aAh]
 refine ⟨h.os,h.tape,h.output,h.size,h.old,fun x hx=>?_,by rw [e];exact h.nodup,fun k hk=>h.rng k (by rw [← e];exact hk)⟩;rcases aAf.1 hx with rfl | hx
 ·exact ⟨ha,hb⟩
 ·exact h.prs _ (aA4 _ (aA4 _ hx))
theorem AX {c:Code} {M':List HP} (h:∀ w,Holds Γ.w0 Γ.S0 M w→Holds Γ.w0 Γ.S0 M' w) (hk:W Γ c l M' Q):W Γ c l M Q:=fun a w ha hw=>hk a w ha (h w hw)
theorem Cn {M':List HP} (h:∀ w,Holds Γ.w0 Γ.S0 M w→Holds Γ.w0 Γ.S0 M' w) (hk:L Γ rest l M' K):L Γ rest l M K:=fun ops a w Q ha hw hq=>hk ops a w Q ha (h w hw) hq
theorem mG (n sz:Nat) (z:Array Value) (t0:τ) (hz:z.toList=GT.cells t0) (hsz:GT.sz τ=sz) :
  ((Array.range (n*sz)).map (z[· % z.size]!)).toList=Av (List.replicate n t0):=by
 have hzs:z.size=sz:=by rw [← aDj,hz,GT.len,hsz]
 have hpos:0 < sz:=hsz ▸ GT.pos (τ:=τ);refine aDq fun i=>?_;by_cases hi:i < n*sz
 ·have h1:i / sz < n:=aF5 (by rw [aFu];exact hi);have h2:i % sz < sz:=aGa _ hpos;have h3:=Hq (List.replicate n t0) (i / sz) (i % sz) t0 (by rw [List.getElem?_replicate,if_pos h1]) (by rw [hsz];exact h2);rw [hsz,aFv i sz] at h3;rw [h3,← hz];simp only [aFw,aFk,aD4,aEj hi,aE3];rw [hzs];have h4:i % sz < z.size:=by rw [hzs];exact h2
  rw [getElem!_pos z (i % sz) h4];simp [h4]
 ·rw [aCd (by simpa using hi),aCd (by rw [BV,hsz,aE8];omega)]
theorem tY {x y:Operand} {T e sz by_:Nat} {z:List Value} {k k':IntKind} {n:Nat} (t0:τ) (hn:Nat.blt d Γ.n=true) (hx:ev l x=some (.int k n)) (hy:ev l y=some (.int k' n)) (ht:elOf Γ.P T=some (e,sz,by_,z))
  (hz:GT.cells t0=z) (hsz:GT.sz τ=sz) (hf:Flat t0) (hb:n*by_≤281474976710656) (hm:n≤maxLen)
  (hk:∀ g,L Γ rest ((d,.slice (some ⟨g,0,none⟩) n n)::l) (Af (⟨some ⟨g,0,none⟩,n,e,List.replicate n t0,[]⟩:TL τ)::M) K) :
  L Γ (⟨some d,.makeSlice T x y,ty,pos,af,none⟩::rest) l M K:=by
 unfold elOf at ht;split at ht<;>(try cases ht);rename_i e' he;split at ht<;>(try cases ht);rename_i i' hi';split at ht<;>cases ht;rename_i z' hz';have hrow:=mG n i'.size z'.cells t0 hz.symm hsz;have hrun:∀ w,(Instr.makeSlice T (.int k n) (.int k' n)).run Γ.P w=.ok (.slice (some ⟨w.heap.size,0,none⟩) n n) (w.alloc (.cells (Av (List.replicate n t0)).toArray e (0,0))):=by
  intro w;have hm':(n:Int)≤9223372036854775807:=by
   have h:=hm;simp only [maxLen] at h;omega
  have hb':(i'.bytes:Int)*(n:Int)≤281474976710656:=by
   have h:((i'.bytes*n:Nat):Int)≤281474976710656:=by rw [aFu];omega
   rwa [Int.natCast_mul] at h
  have hr:=run_make (P:=Γ.P) w T e i' z' he hi' hz' k k' n n om (aFi _) hb' hm';simp only [aB8] at hr;rw [hr];have:madeCells z'.cells (n*i'.size)=(Av (List.replicate n t0)).toArray:=by
   apply Array.toList_inj.1;unfold madeCells;rw [hrow]
  rw [this]
 refine Md (fun v M'=>∃ g,v=.slice (some ⟨g,0,none⟩) n n∧M'=Af (⟨some ⟨g,0,none⟩,n,e,List.replicate n t0,[]⟩:TL τ)::M) rfl rfl (aAc hn)
  (fun a w ha hw=>⟨_,_,w.alloc (.cells (Av (List.replicate n t0)).toArray e (0,0)),⟨w.heap.size,rfl,rfl⟩,?_,?_⟩) (fun v M' ⟨g,h1,h2⟩=>by subst h1;subst h2;exact hk g)
 ·simp [execOp,ha.eval hx,ha.eval hy,hrun]
 ·have h1:=hw.new (b:=w.heap.size) (cs:=Av (List.replicate n t0)) (T:=e) rfl;have hp:=h1.prs (blk w.heap.size (Av (List.replicate n t0)) e) (aA9 ..);have hff:∀ x,x∈List.replicate n t0→Flat x:=fun x hx=>by rw [aFx hx];exact hf
  refine ⟨h1.os,h1.tape,h1.output,h1.size,h1.old,fun x hx=>?_,?_,fun k hk=>h1.rng k ?_⟩
  ·rcases aAf.1 hx with rfl | hx
   ·refine ⟨by simp,hm,fun y hy=>(hff y hy).ow _,fun h=>(by cases h),fun a ha=>?_⟩;cases ha;exact ⟨rfl,rfl,by rw [aBx];exact hp,by simp⟩
   ·exact h1.prs x (aA4 _ hx)
  ·have h2:=h1.nodup;rw [BZ] at h2 ⊢;show (([w.heap.size]++(List.replicate n t0).flatMap GT.fp)++fps M).Nodup;rw [RV _ hff];exact h2
  ·rw [BZ] at hk ⊢;have hk':k∈([w.heap.size]++(List.replicate n t0).flatMap GT.fp)++fps M:=hk;rw [RV _ hff] at hk';exact hk'
end
variable {Γ:Cx} {l:BR} {M F:List HP} {Q:CX} {K:CW} {w0 w:World} {S0:List Nat}
variable {rest:List Oper} {d:Nat} {ty:TypeId} {pos:String} {af:Array Edge}
theorem Holds.drew (h:Holds w0 S0 M w):Holds w0 S0 M w.drew:=⟨h.os,⟨h.tape.1,Nat.le_succ_of_le h.tape.2⟩,h.output,h.size,h.old,fun x hx=>x.st w _ (fun _ _=>rfl) (h.prs x hx),h.nodup,h.rng⟩
theorem Holds.swap {h h':HP} {w':World} (hw:Holds w0 S0 (h::F) w) (hos:w'.os=w.os) (htape:w'.tape=w.tape∧w.drawn≤w'.drawn) (hout:w'.output=w.output) (hsz:w.heap.size≤w'.heap.size)
  (hsame:∀ k,k < w.heap.size→k ∉ h.fp→w'.heap[k]?=w.heap[k]?) (hfp:∀ k,k∈h'.fp→(k∈h.fp∨w.heap.size≤k)∧k < w'.heap.size) (hnd:h'.fp.Nodup) (hpr:h'.pr w'):Holds w0 S0 (h'::F) w':=by
 have hnd0:=hw.nodup;rw [BZ] at hnd0;obtain ⟨_,a0,hdis⟩:=aBo.1 hnd0;have hr1:∀ k,k∈h.fp→(k∈S0∨w0.heap.size≤k)∧k < w.heap.size:=fun k hk=>hw.rng k (by rw [BZ];exact aB2 _ hk);have hr2:∀ k,k∈fps F→(k∈S0∨w0.heap.size≤k)∧k < w.heap.size:=fun k hk=>hw.rng k (by rw [BZ];exact aAx _ hk);have hno:∀ k,k∈fps F→k ∉ h.fp:=fun k h2 h1=>hdis k h1 k h2 rfl;refine ⟨hos.trans hw.os,⟨htape.1.trans hw.tape.1,aCy hw.tape.2 htape.2⟩,hout.trans hw.output,aCy hw.size hsz,fun k hk hs=>?_,fun x hx=>?_,?_,fun k hk=>?_⟩
 ·rw [hsame k (aC6 hk hw.size) (fun hm=>by
   rcases (hr1 k hm).1 with h3 | h3
   ·exact hs h3
   ·omega)]
  exact hw.old k hk hs
 ·rcases aAf.1 hx with rfl | hx
  ·exact hpr
  ·refine x.st w w' (fun k hk=>?_) (hw.prs x (aA4 _ hx));have hm:k∈fps F:=aBq.2 ⟨x,hx,hk⟩;exact hsame k (hr2 k hm).2 (hno k hm)
 ·rw [BZ];refine aBo.2 ⟨hnd,a0,fun a ha b hb e=>?_⟩;subst e;rcases (hfp a ha).1 with h3 | h3
  ·exact hno a hb h3
  ·have:=(hr2 a hb).2;omega
 ·rw [BZ] at hk;rcases aB0.1 hk with hk | hk
  ·obtain ⟨h3,h4⟩:=hfp k hk;refine ⟨?_,h4⟩;rcases h3 with h3 | h3
   ·exact (hr1 k h3).1
   ·exact .inr (aCy hw.size h3)
  ·exact ⟨(hr2 k hk).1,aC6 (hr2 k hk).2 hsz⟩
section
variable {τ δ:Type} [GT τ δ]
theorem dJ (z:Array Value) (n:Nat):(Builtin.zeroCells z n).size=n*z.size:=by simp [Builtin.zeroCells]
theorem Qq {P:Program} {T e sz by_:Nat} {z:List Value} (ht:elOf P T=some (e,sz,by_,z)) {a:Option Addr} {n c c2:Nat} (hnc:n≤c) (ty:TypeId) :
  (Builtin.append_ #[T,T] ty #[.slice a n c,.slice none 0 c2]).run P w=.ok (.slice a n c) w:=by
 unfold elOf at ht;split at ht<;>(try cases ht);rename_i e' het;split at ht<;>(try cases ht);rename_i i' hi'
 cases a<;>simp [Builtin.append_,run_underlying het,sizeOf,typeInfo,hi',Builtin.lenOf,Builtin.firstCells,hnc,storeCells]
def Ce (xs:List τ):HP:=⟨xs.flatMap GT.fp,fun w=>∀ x,x∈xs→GT.ow w x,fun w w' h hp x hx=>GT.ow_st (fun k hk=>h k (aBq.2 ⟨x,hx,hk⟩)) (hp x hx)⟩
theorem Holds.reFp {h1 h2:List HP} {w:World} (hw:Holds w0 S0 h1 w) (he:List.Perm (fps h1) (fps h2)) (hp:∀ x,x∈h2→x.pr w):Holds w0 S0 h2 w :=
 ⟨hw.os,hw.tape,hw.output,hw.size,hw.old,hp,he.nodup_iff.1 hw.nodup,fun k hk=>hw.rng k (he.mem_iff.2 hk)⟩
theorem KT {L:TL τ} (h:Holds w0 S0 (Af L::M) w):Holds w0 S0 (Be L::Ce L.els::M) w:=by
 have ht:GT.ow w L:=h.prs _ (aA9 ..);refine h.reFp (aBa ?_) fun x hx=>?_
 ·simp only [BZ];show ((match L.a with | none=>[] | some a=>[a.block])++L.els.flatMap GT.fp)++fps M=_;rw [aAh];rfl
 ·rcases aAf.1 hx with rfl | hx
  ·exact ⟨ht.1,ht.2.1,ht.2.2.2.1,ht.2.2.2.2⟩
  rcases aAf.1 hx with rfl | hx
  ·exact ht.2.2.1
  ·exact h.prs _ (aA4 _ hx)
theorem KU {L:TL τ} (h:Holds w0 S0 (Be L::Ce L.els::M) w):Holds w0 S0 (Af L::M) w:=by
 have hr:=h.prs (Be L) (aA9 ..);have he:=h.prs (Ce L.els) (aA4 _ (aA9 ..));refine h.reFp (aBa ?_) fun x hx=>?_
 ·simp only [BZ];show _=((match L.a with | none=>[] | some a=>[a.block])++L.els.flatMap GT.fp)++fps M;rw [aAh];rfl
 ·rcases aAf.1 hx with rfl | hx
  ·exact ⟨hr.1,hr.2.1,he,hr.2.2.1,hr.2.2.2⟩
  ·exact h.prs _ (aA4 _ (aA4 _ hx))
theorem RW {xs ys:List τ} (h:Holds w0 S0 (Ce xs::Ce ys::M) w):Holds w0 S0 (Ce (xs++ys)::M) w:=by
 refine h.reFp (aBa ?_) fun x hx=>?_
 ·simp only [BZ];show _=(xs++ys).flatMap GT.fp++fps M;rw [aDw,aAh];rfl
 ·rcases aAf.1 hx with rfl | hx
  ·intro y hy;rcases aB0.1 hy with hy | hy
   ·exact h.prs (Ce xs) (aA9 ..) y hy
   ·exact h.prs (Ce ys) (aA4 _ (aA9 ..)) y hy
  ·exact h.prs _ (aA4 _ (aA4 _ hx))
theorem mH {x:τ} (h:Holds w0 S0 (Af x::M) w):Holds w0 S0 (Ce [x]::M) w:=by
 refine h.reFp (aBa ?_) fun y hy=>?_
 ·simp only [BZ];show _=[x].flatMap GT.fp++fps M;simp [Af]
 ·rcases aAf.1 hy with rfl | hy
  ·intro z hz;simp at hz;subst hz;exact h.prs (Af z) (aA9 ..)
  ·exact h.prs _ (aA4 _ hy)
theorem Lj {xs:List τ} (h:Holds w0 S0 M w) (hf:∀ x,x∈xs→Flat x):Holds w0 S0 (Ce xs::M) w:=by
 refine h.reFp (aBa ?_) fun y hy=>?_
 ·rw [BZ];show _=xs.flatMap GT.fp++fps M;rw [RV xs hf];rfl
 ·rcases aAf.1 hy with rfl | hy
  ·exact fun x hx=>(hf x hx).ow w
  ·exact h.prs _ hy
theorem Zh (xs:List τ) (i:Nat) (x':τ) (hi:i < xs.length):Av (xs.set i x')=(Av xs).take (i*GT.sz τ)++GT.cells x'++(Av xs).drop (i*GT.sz τ+GT.sz τ):=by
 have h1:xs=xs.take i++xs[i]::xs.drop (i+1):=by rw [← aC8 hi,aBf]
 have h2:Av xs=Av (xs.take i)++GT.cells xs[i]++Av (xs.drop (i+1)):=by
  conv=>lhs;rw [h1]
  rw [CG,EZ,aAh]
 have l1:(Av (xs.take i)).length=i*GT.sz τ:=by rw [BV,aB3,aCa (Nat.le_of_lt hi)]
 have l2:(Av (xs.take i)++GT.cells xs[i]).length=i*GT.sz τ+GT.sz τ:=by rw [aAq,l1,GT.len]
 rw [aCo,if_pos hi,CG,EZ,← aAh];congr 1
 ·congr 1;rw [h2,aAh,← l1,aE9]
 ·rw [h2,← l2,aFg]
theorem mI {P:Program} {L:TL τ} {g i fo:Nat} {x x':τ} {vs:List Value} (hw:Holds w0 S0 (Be L::F) w) (ha:L.a=some ⟨g,0,none⟩) (hi:L.els[i]?=some x)
  (hc:GT.cells x'=(GT.cells x).take fo++vs++(GT.cells x).drop (fo+vs.length)) (h1:∀ v,v∈vs→v.oneCell'=true) (hfo:fo+vs.length≤GT.sz τ) :
  ∃ w',(storeCells ⟨g,0+i*GT.sz τ+fo,none⟩ vs).run P w=.ok () w'∧Holds w0 S0 (Be { L with els:=L.els.set i x' }::F) w':=by
 have hr:=hw.prs (Be L) (aA9 ..);obtain ⟨hr1,hr2,hr3,hr4⟩:=hr;obtain ⟨h2,h3,h4,h5⟩:=hr4 _ ha;have hlt:=(aA2.1 hi).1;have hlen:(Av L.els).length=L.els.length*GT.sz τ:=BV _;have hle:i*GT.sz τ+GT.sz τ≤L.els.length*GT.sz τ:=by rw [← Nat.succ_mul];exact aCg _ hlt
 have hs:=Ga (P:=P) (fo:=0+i*GT.sz τ+fo) (vs:=vs) (ty:=0) h4 (by rw [aAq,hlen];omega) h1;refine ⟨_,hs,?_⟩;have e:(Av L.els++L.tail).take (0+i*GT.sz τ+fo)++vs++(Av L.els++L.tail).drop (0+i*GT.sz τ+fo+vs.length)=Av (L.els.set i x')++L.tail:=by
  rw [aBk,Zh _ _ _ hlt,hc];have hget:((Av L.els).drop (i*GT.sz τ)).take (GT.sz τ)=GT.cells x:=by
   refine aDq fun j=>?_;rw [aCz];split
   ·rename_i hj;rw [aC2,Hq _ _ _ _ hi hj]
   ·rename_i hj;rw [aCd];rw [GT.len];omega
  have h6:Av L.els=(Av L.els).take (i*GT.sz τ)++GT.cells x++(Av L.els).drop (i*GT.sz τ+GT.sz τ):=by
   rw [← hget,aAh,← aDl,aBf,aBf]
  have l1:((Av L.els).take (i*GT.sz τ)).length=i*GT.sz τ:=by rw [aB3,hlen];omega
  generalize hA:(Av L.els).take (i*GT.sz τ)=A at *;generalize hB:(Av L.els).drop (i*GT.sz τ+GT.sz τ)=B at *;rw [h6];have lx:(GT.cells x).length=GT.sz τ:=GT.len x;have t1:(A++GT.cells x++B++L.tail).take (i*GT.sz τ+fo)=A++(GT.cells x).take fo:=by
   rw [aAh,aAh,aFy,aBi om,l1,aCu,aCk om]
  have t2:(A++GT.cells x++B++L.tail).drop (i*GT.sz τ+fo+vs.length)=(GT.cells x).drop (fo+vs.length)++(B++L.tail):=by
   rw [aAh,aAh,aEd,aBj om,aAa,l1,show i*GT.sz τ+fo+vs.length - i*GT.sz τ=fo+vs.length by omega,aFc om]
  rw [t1,t2];simp only [aAh]
 rw [e];refine Holds.swap hw rfl ⟨rfl,aAu _⟩ rfl (by simp) (fun k hk hn=>?_) (fun k hk=>?_) (by rw [show (Be { L with els:=L.els.set i x' }).fp=[g] by simp [Be,ha]];simp) ?_
 ·exact setRow_other _ _ _ _ (fun e=>hn (by simp [Be,ha,e]))
 ·have hk':k=g:=by simpa [Be,ha] using hk
  subst hk';exact ⟨.inl (by simp [Be,ha]),by simp;exact (aB7.1 h4).1⟩
 ·refine ⟨by simpa using hr1,hr2,fun h=>?_,fun a ha'=>?_⟩
  ·have:L.a=none:=h;rw [ha] at this;cases this
  ·have ha2:L.a=some a:=ha';rw [ha] at ha2;cases ha2;exact ⟨rfl,rfl,setRow_heap _ _ _ _ _ _ h4,by simpa using h5⟩
end
variable {Γ:Cx} {l:BR} {M M1 M2 F:List HP} {Q:CX} {K:CW} {w0 w:World} {S0:List Nat}
variable {rest:List Oper} {d:Nat} {ty:TypeId} {pos:String} {af:Array Edge}
def RdT {τ δ:Type} [GT τ δ] (Γ:Cx) (M:List HP) (t:τ):Prop:=∀ w,Sees Γ.w0 Γ.S0 M w→GT.rd w [] t
section
variable {τ δ:Type} [GT τ δ] {t:τ}
theorem RdT.old (h:GT.rd Γ.w0 Γ.S0 t):RdT Γ M t:=fun _ hw=>GT.rd_mono h fun _ _ ho=>⟨ho.now hw,by simp⟩
abbrev Ab:=@RdT.old
theorem At (h:Af t∈M):RdT Γ M t:=fun _ hw=>Ox h hw
theorem Bf {α β δ ε:Type} [GT α δ] [GT β ε] {t:α×β} (h:RdT Γ M t):RdT Γ M t.1:=fun w hw=>(h w hw).1
theorem Ad {α β δ ε:Type} [GT α δ] [GT β ε] {t:α×β} (h:RdT Γ M t):RdT Γ M t.2:=fun w hw=>(h w hw).2
theorem RdT.el {L:TL τ} {x:τ} (h:RdT Γ M L) (hx:x∈L.els):RdT Γ M x:=fun w hw=>(h w hw).2.2.1 x hx
theorem RdT.cells {L:TL τ} {g o i:Nat} {x:τ} (h:RdT Γ M L) (ha:L.a=some ⟨g,o,none⟩) (hi:L.els[i]?=some x):RdC Γ M g (o+i*GT.sz τ) (GT.cells x):=fun w hw j v hv =>
 ((Cells.el (h w hw) ha hi) j v hv).1
theorem Ab6 {L:TL τ} {g o:Nat} (h:RdT Γ M L) (ha:L.a=some ⟨g,o,none⟩):RdC Γ M g o (Av L.els):=fun w hw j v hv=>(((h w hw).2.2.2.2 _ ha).2 j v hv).1
theorem RdT.sub {M':List HP} (h:RdT Γ M t) (hm:∀ x,x∈M→x∈M'):RdT Γ M' t:=fun w hw=>h w ⟨hw.old,fun x hx=>hw.prs x (hm x hx)⟩
end
theorem Pick.sub {h:HP} {M M':List HP} (p:Pick h M M'):∀ x,x∈M'→x∈M:=fun x hx=>p.perm.mem_iff.2 (aA4 _ hx)
section
variable {τ δ:Type} [GT τ δ]
end
variable {Γ:Cx} {l:BR} {M M1 M2 F:List HP} {Q:CX} {K:CW} {w0 w:World} {S0:List Nat}
variable {rest:List Oper} {d:Nat} {ty:TypeId} {pos:String} {af:Array Edge}
theorem jH {x:Operand} {i:Nat} {vs:Array Value} {v:Value} (hn:Nat.blt d Γ.n=true) (hx:ev l x=some (.tuple vs)) (hv:vs[i]?=some v) (hk:L Γ rest ((d,v)::l) M K) :
  L Γ (⟨some d,.extract x i,ty,pos,af,none⟩::rest) l M K :=
 Eq hn (fun a w ha _=>by simp [execOp,ha.eval hx,Instr.extract,hv]) hk
theorem ID {fn:Fn} {fs cs:List Operand} {us vs:List Value} (hn:Nat.blt d Γ.n=true) (hf:evs l fs=some us) (hc:evs l cs=some vs) (hk:L Γ rest ((d,.func fn us.toArray vs.toArray)::l) M K) :
  L Γ (⟨some d,.makeFunc fn fs.toArray cs.toArray,ty,pos,af,none⟩::rest) l M K :=
 Eq hn (fun a w ha _=>by simp [execOp,Instr.makeFunc,ha.evals _ _ hf,ha.evals _ _ hc]) hk
theorem fC {x y:Operand} {ats:Array TypeId} {k:IntKind} {a b:Int} (hn:Nat.blt d Γ.n=true) (hx:ev l x=some (.int k a)) (hy:ev l y=some (.int k b)) (hk:L Γ rest ((d,.int k (if b > a then b else a))::l) M K) :
  L Γ (⟨some d,.call { callee:=.builtin .max,args:=#[x,y],argTypes:=ats },ty,pos,af,none⟩::rest) l M K :=
 Eq hn (fun a' w ha _=>by simp [execOp,resolve,invoke,builtin,ha.eval hx,ha.eval hy,run_max_int2]) hk
theorem qX {o:Oper} {t d' f:Nat} {xs:List Operand} {ats:Array TypeId} {vs cs:List Value} {M1 M2:List HP} {R:Value→List HP→Prop}
  (ho:o.op=.call { callee:=.value (.tmp t),args:=xs.toArray,argTypes:=ats }) (hg:o.guard=none) (hd:o.dst=some d') (hn:d' < Γ.n) (ht:l.lookup t=some (.func (.func f) #[] cs.toArray))
  (hf:IsFn Γ.P f) (hx:evs l xs=some vs) (hp:List.Perm M (M1++M2))
  (hc:∀ w,Holds Γ.w0 Γ.S0 (M1++M2) w→Spec Γ.P f (vs++cs).toArray w M1 R)
  (hk:∀ v M',R v M'→L Γ rest ((d',v)::l) (M'++M2) K):L Γ (o::rest) l M K:=fun ops a w Q ha hw hq =>
 wpList_plain hg fun K' hK'=>by
  have hw':=hw.perm hp;have ht':a.eval (.tmp t)=.func (.func f) #[] cs.toArray:=ha.eval (x:=.tmp t) ht;have he:(execOp a.eval o).run Γ.P w=.ok (.enter f (vs++cs).toArray) w:=by
   unfold execOp;rw [ho];simp [resolve,Deferred.ofValue,ht',invoke,ha.evals xs vs hx,hf.run]
  unfold Oper.wp;rw [he,Oper.upon_enter];refine (hc w hw' hw'.split).mono fun e w'' ⟨v,M',h1,h2,h3⟩=>?_;subst h1;simp only [hd];exact hK' _ _ (hk v M' h2 ops _ w'' Q (ha.put hn) (hw'.frame h3) hq)
theorem Pc {t f:Nat} {xs:List Operand} {ats:Array TypeId} {vs cs:List Value} {x:Value} (hn:Nat.blt d Γ.n=true) (ht:l.lookup t=some (.func (.func f) #[] cs.toArray))
  (hf:IsFn Γ.P f) (hx:evs l xs=some vs) (hc:∀ w,Holds Γ.w0 Γ.S0 M w→Spec Γ.P f (vs++cs).toArray w [] (IsV x))
  (hk:L Γ rest ((d,x)::l) M K):L Γ (⟨some d,.call { callee:=.value (.tmp t),args:=xs.toArray,argTypes:=ats },ty,pos,af,none⟩::rest) l M K :=
 qX (M1:=[]) (M2:=M) (R:=IsV x) rfl rfl rfl (aAc hn) ht hf hx (by simp) (fun w hw=>hc w hw) (fun v M' ⟨h1,h2⟩=>by subst h1;subst h2;exact hk)
def HI (place:Nat→Option (Nat×Nat)) (cells:List Value):List (Nat×Value)→Option (List Value)
 | []=>some cells
 | (i,v)::rest =>
  match place i with
  | none=>none
  | some (off,size) =>
   match Nat.beq v.cells.toList.length size&&Nat.ble (off+v.cells.toList.length) cells.length with
   | true=>HI place (cells.take off++v.cells.toList++cells.drop (off+v.cells.toList.length)) rest
   | false=>none
theorem jI (off:Nat):∀ (vs:List Value) (k:Nat) (cs:Array Value),off+k+vs.length≤cs.size →
  ((vs.zipIdx k).foldl (fun cs (p:Value×Nat)=>cs.setIfInBounds (off+p.2) p.1) cs).toList=cs.toList.take (off+k)++vs++cs.toList.drop (off+k+vs.length)
 | [],k,cs,h=>by simp
 | v::vs,k,cs,h=>by
  rw [List.zipIdx_cons,aCq];rw [jI off vs (k+1) _ (by simp at h ⊢;omega)];have hlt:off+k < cs.toList.length:=by simp at h ⊢;omega
  have e1:(cs.setIfInBounds (off+k) v).toList=cs.toList.set (off+k) v:=by simp
  simp only [] at e1 ⊢;rw [e1,aCo,if_pos hlt];have l1:(cs.toList.take (off+k)).length=off+k:=by rw [aB3];omega
  have t1:(cs.toList.take (off+k)++v::cs.toList.drop (off+k+1)).take (off+(k+1))=cs.toList.take (off+k)++[v]:=by
   rw [aFy,aBi om,l1,show off+(k+1) - (off+k)=1 by omega];rfl
  have t2:(cs.toList.take (off+k)++v::cs.toList.drop (off+k+1)).drop (off+(k+1)+vs.length)=cs.toList.drop (off+k+(v::vs).length):=by
   rw [aEd,aBj om,aAa,l1,show off+(k+1)+vs.length - (off+k)=vs.length+1 by omega,List.drop_succ_cons,aDl,aB5];congr 1;omega
  rw [t1,t2];simp
theorem WU (place:Nat→Option (Nat×Nat)):∀ (parts:List (Nat×Value)) (cells:Array Value) (cs:List Value),HI place cells.toList parts=some cs→Instr.fill place cells parts=some cs.toArray
 | [],cells,cs,h=>by
  simp only [HI,Option.some.injEq] at h;subst h;simp [Instr.fill]
 | (i,v)::rest,cells,cs,h=>by
  unfold HI at h;unfold Instr.fill;cases hp:place i with
  | none=>rw [hp] at h;cases h
  | some os =>
   obtain ⟨off,size⟩:=os;rw [hp] at h;simp only [] at h ⊢
   cases hb:(Nat.beq v.cells.toList.length size&&Nat.ble (off+v.cells.toList.length) cells.toList.length) with
   | false=>rw [hb] at h;cases h
   | true =>
    rw [hb] at h;simp only [aAg] at hb;have h1:v.cells.size=size:=by have:=Nat.eq_of_beq_eq_true hb.1;simpa using this
    have h2:off+v.cells.size≤cells.size:=by have:=aAc hb.2;simpa using this
    rw [if_neg (by simp [h1];omega)];refine WU place rest _ cs ?_;rw [← h];congr 1;have e:(v.cells.zipIdx.foldl (fun cs (p:Value×Nat)=>cs.setIfInBounds (off+p.2) p.1) cells)=(v.cells.toList.zipIdx.foldl (fun cs (p:Value×Nat)=>cs.setIfInBounds (off+p.2) p.1) cells):=by
     rw [← Array.foldl_toList];simp
    have:=jI off v.cells.toList 0 cells (by simpa using h2);simp only [aEp] at this;rw [← this,← e]
def PY (P:Program) (T:TypeId):Option (List (Nat×Nat)×List Value) :=
 match P.underlying T,OY P T with
 | some (.struct fs),some z=>match fs.toList.mapM fun f=>(P.info? f.type).map fun i=>(f.offset,i.size) with
  | some pl=>some (pl,z)
  | none=>none
 | _,_=>none
theorem fD {P:Program} {fs:List Field}:∀ {pl:List (Nat×Nat)},fs.mapM (fun f=>(P.info? f.type).map fun i=>(f.offset,i.size))=some pl→(fs.mapM (fun f=>Prod.mk f.offset <$> sizeOf f.type:Field→Sem (Nat×Nat))).run P w=.ok pl w:=by
 induction fs with
 | nil=>intro pl h;simp at h;subst h;simp
 | cons f fs ih =>
  intro pl h;rw [List.mapM_cons] at h
  cases hf:P.info? f.type with
  | none=>rw [hf] at h;simp at h
  | some i =>
   rw [hf] at h
   cases hfs:fs.mapM (fun f=>(P.info? f.type).map fun i=>(f.offset,i.size)) with
   | none=>rw [hfs] at h;simp at h
   | some pl' =>
    rw [hfs] at h;simp at h;subst h;have:=ih hfs;simp [List.mapM_cons,sizeOf,typeInfo,hf] at this ⊢;simp [this]
def evp (l:BR):List (Nat×Operand)→Option (List (Nat×Value))
 | []=>some []
 | (i,x)::xs=>match ev l x,evp l xs with
  | some v,some vs=>some ((i,v)::vs)
  | _,_=>none
theorem Env.evalp {a:Act} {n:Nat} (h:Env a n l):∀ (xs:List (Nat×Operand)) (vs:List (Nat×Value)),evp l xs=some vs→xs.map (fun (i,x)=>(i,a.eval x))=vs
 | [],vs,hx=>by simp [evp] at hx;simp [hx]
 | (i,x)::xs,vs,hx=>by
  simp only [evp] at hx;split at hx
  ·rename_i v us h1 h2
   cases hx;simp [h.eval h1,h.evalp xs us h2]
  ·cases hx
theorem Ns {P:Program} {T:TypeId} {pl:List (Nat×Nat)} {z cs:List Value} {ps:List (Nat×Value)} (ht:PY P T=some (pl,z)) (hf:HI (pl[·]?) z ps=some cs) :
  (Instr.build T ps.toArray).run P w=.ok (.agg cs.toArray) w:=by
 unfold PY at ht;split at ht<;>(try cases ht);rename_i fs z' hu hz;split at ht<;>cases ht;rename_i hpl;have hp:=fD (w:=w) hpl;unfold OY at hz;split at hz<;>(try cases hz);rename_i i hi;split at hz<;>cases hz;rename_i zz hzz;have h1:(fs.mapM (fun f=>do pure (f.offset,← sizeOf f.type):Field→Sem (Nat×Nat))).run P w=.ok pl.toArray w:=by
  have:fs=fs.toList.toArray:=by simp
  rw [this,List.mapM_toArray];simp only [bind_pure_comp,Sem.run_map];rw [hp];rfl
 have h2:=WU (pl[·]?) ps zz.cells cs (by simpa using hf);have h3:(fun x:Nat=>pl.toArray[x]?)=(fun x:Nat=>pl[x]?):=by funext x;simp
 simp only [Instr.build,zeroValue,typeInfo,underlying,Sem.run_bind,run_program,Result.andThen_ok,hi,hzz,hu,Sem.run_pure,h1,h3,h2]
theorem Cg {T:TypeId} {xs:List (Nat×Operand)} {ps:List (Nat×Value)} {pl:List (Nat×Nat)} {z cs:List Value} (hn:Nat.blt d Γ.n=true) (hx:evp l xs=some ps) (ht:PY Γ.P T=some (pl,z))
  (hf:HI (pl[·]?) z ps=some cs) (hk:L Γ rest ((d,.agg cs.toArray)::l) M K) :
  L Γ (⟨some d,.build T xs.toArray,ty,pos,af,none⟩::rest) l M K :=
 Eq hn (fun a w ha _=>by
  have h1:xs.toArray.map (fun (i,x)=>(i,a.eval x))=ps.toArray:=by simp [ha.evalp xs ps hx]
  simp only [execOp,h1];simp [Ns ht hf]) hk
theorem Mg {P:Program} {T e sz by_:Nat} {z cs:List Value} {ps:List (Nat×Value)} {n:Nat} (ht:elOf P T=some (e,sz,by_,z)) (hz:z.length=sz) (hsz:0 < sz) (hn:n*sz≤65536) (a0:0 < n)
  (hf:HI (fun i=>some (i*sz,sz)) ((List.range (n*sz)).map fun i=>z.getD (i % sz) undef) ps=some cs) :
  (Instr.buildSlice T n ps.toArray).run P w=.ok (.slice (some ⟨w.heap.size,0,none⟩) n n) (w.alloc (.cells cs.toArray e (0,0))):=by
 unfold elOf at ht;split at ht<;>(try cases ht);rename_i e' het;split at ht<;>(try cases ht);rename_i i' hi';split at ht<;>cases ht;rename_i z' hz';have hzs:z'.cells.size=i'.size:=by rw [← aDj];exact hz
 have hne:¬ (n*i'.size=0):=by intro h;rcases Nat.mul_eq_zero.1 h with h | h<;>omega
 have hle:¬ (2 ^ 24 < n*i'.size):=by
  have:(2:Nat) ^ 24=16777216:=by decide
  omega
 have e0:((Array.range (n*i'.size)).map (z'.cells[· % z'.cells.size]!)).toList=(List.range (n*i'.size)).map fun i=>z'.cells.toList.getD (i % i'.size) undef:=by
  rw [aFw,aFk];refine aFd fun i _=>?_;have h2:i % i'.size < z'.cells.size:=by rw [hzs];exact aGa _ hsz
  rw [hzs,getElem!_pos z'.cells (i % i'.size) h2];simp [aAt,h2]
 have h2:=WU (fun i=>some (i*i'.size,i'.size)) ps ((Array.range (n*i'.size)).map (z'.cells[· % z'.cells.size]!)) cs (by rw [e0];exact hf);simp only [Instr.buildSlice,underlying,het,sizeOf,typeInfo,hi',Sem.run_bind,run_program,Result.andThen_ok,Sem.run_pure,gt_iff_lt,hle,if_false,hne,zeroValue,hz',newRow,run_newObj];simp only [h2,Sem.run_bind,Result.andThen_ok,Sem.run_pure,newRow,run_newObj,Sem.run_map];rfl
theorem Tm {T e sz by_ n:Nat} {z cs:List Value} {xs:List (Nat×Operand)} {ps:List (Nat×Value)} (hn:Nat.blt d Γ.n=true) (hx:evp l xs=some ps) (ht:elOf Γ.P T=some (e,sz,by_,z)) (hz:z.length=sz)
  (hsz:0 < sz) (hns:n*sz≤65536) (a0:0 < n) (hf:HI (fun i=>some (i*sz,sz)) ((List.range (n*sz)).map fun i=>z.getD (i % sz) undef) ps=some cs)
  (hk:∀ b,L Γ rest ((d,.slice (some ⟨b,0,none⟩) n n)::l) (blk b cs e::M) K) :
  L Γ (⟨some d,.buildSlice T n xs.toArray,ty,pos,af,none⟩::rest) l M K :=
 Md (fun v M'=>∃ b,v=.slice (some ⟨b,0,none⟩) n n∧M'=blk b cs e::M) rfl rfl (aAc hn)
  (fun a w ha hw=>by
   have h1:xs.toArray.map (fun (i,x)=>(i,a.eval x))=ps.toArray:=by simp [ha.evalp xs ps hx]
   refine ⟨_,_,_,⟨w.heap.size,rfl,rfl⟩,?_,hw.new rfl⟩;simp only [execOp,h1];simp [Mg ht hz hsz hns a0 hf]) (fun v M' ⟨b,h1,h2⟩=>by subst h1;subst h2;exact hk b)
theorem BJ {T e sz by_:Nat} {z:List Value} {x:Operand} {v:Value} (hn:Nat.blt d Γ.n=true) (hx:ev l x=some v) (ht:elOf Γ.P T=some (e,sz,by_,z)) (hz:z.length=sz)
  (hsz:0 < sz) (hns:sz≤65536) (hv:v.cells.toList.length=sz)
  (hk:∀ b,L Γ rest ((d,.slice (some ⟨b,0,none⟩) 1 1)::l) (blk b v.cells.toList e::M) K) :
  L Γ (⟨some d,.buildSlice T 1 #[(0,x)],ty,pos,af,none⟩::rest) l M K :=
 Tm (xs:=[(0,x)]) (ps:=[(0,v)]) (cs:=v.cells.toList) hn (by simp [evp,hx]) ht hz hsz om om (by
  simp only [HI,aEn,Nat.one_mul,aBk,hv,aD7,aBc,aB1,aFo,aEy,aAa];rw [show Nat.ble sz sz=true from Nat.ble_eq_true_of_le (aAu _)];simp only [];rw [aBj (by simp),aBx]) hk
end Go.Proofs.SL
