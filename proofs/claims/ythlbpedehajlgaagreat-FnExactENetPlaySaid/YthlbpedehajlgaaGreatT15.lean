/- The texts of the proof, part 15. -/
import Derived.Test.YthlbpedehajlgaaGreatT14
import Derived.Test.YthlbpedehajlgaaGreatT4
import Derived.Test.YthlbpedehajlgaaGreatT11
import Derived.Test.YthlbpedehajlgaaGreatRows
set_option linter.all false
namespace Go.Proofs.SL
open Go
instance vN:DecidableEq (Int×Bool):=fun a b=>instDecidableEqProd a b
instance vO:DecidableEq (Int×Int×Bool):=fun a b=>instDecidableEqProd a b
instance vP:DecidableEq (List AU×Int×Int×Bool):=fun a b=>instDecidableEqProd a b
instance vQ:DecidableEq (Int×List AU×Int×Int×Bool):=fun a b=>instDecidableEqProd a b
instance vR:DecidableEq (CH×Int×List AU×Int×Int×Bool):=fun a b=>instDecidableEqProd a b
instance vS:DecidableEq (Int×CH×Int×List AU×Int×Int×Bool):=fun a b=>instDecidableEqProd a b
instance vT:DecidableEq (AU×Int×CH×Int×List AU×Int×Int×Bool):=fun a b=>instDecidableEqProd a b
instance vU:DecidableEq (Int×AU×Int×CH×Int×List AU×Int×Int×Bool):=fun a b=>instDecidableEqProd a b
instance vV:DecidableEq (Int×Int×AU×Int×CH×Int×List AU×Int×Int×Bool):=fun a b=>instDecidableEqProd a b
instance vW:DecidableEq (Int×Int×Int×AU×Int×CH×Int×List AU×Int×Int×Bool):=fun a b=>instDecidableEqProd a b
def NV (a b:Au):Bool:=decide (a=b)
theorem Wx {a b:Au} {f g:Option Bool} (hf:f=some (pB (a.2.2.2.2.2.1=b.2.2.2.2.2.1))) (hg:g=some (decide (a.2.2.2.2.2.2.2.1=b.2.2.2.2.2.2.2.1))) :
  gb (((((decide (a.1=b.1))&&(decide (a.2.1=b.2.1)))&&(decide (a.2.2.1=b.2.2.1)))&&(decide (a.2.2.2.1.1=b.2.2.2.1.1)&&(decide (a.2.2.2.1.2=b.2.2.2.1.2)&&true)))&&(decide (a.2.2.2.2.1=b.2.2.2.2.1))) f (fun y1=>gb (((((((decide (a.1=b.1))&&(decide (a.2.1=b.2.1)))&&(decide (a.2.2.1=b.2.2.1)))&&(decide (a.2.2.2.1.1=b.2.2.2.1.1)&&(decide (a.2.2.2.1.2=b.2.2.2.1.2)&&true)))&&(decide (a.2.2.2.2.1=b.2.2.2.2.1)))&&y1)&&(decide (a.2.2.2.2.2.2.1=b.2.2.2.2.2.2.1))) g (fun y2=>some (((((((((((decide (a.1=b.1))&&(decide (a.2.1=b.2.1)))&&(decide (a.2.2.1=b.2.2.1)))&&(decide (a.2.2.2.1.1=b.2.2.2.1.1)&&(decide (a.2.2.2.1.2=b.2.2.2.1.2)&&true)))&&(decide (a.2.2.2.2.1=b.2.2.2.2.1)))&&y1)&&(decide (a.2.2.2.2.2.2.1=b.2.2.2.2.2.2.1)))&&y2)&&(decide (a.2.2.2.2.2.2.2.2.1=b.2.2.2.2.2.2.2.2.1)))&&(decide (a.2.2.2.2.2.2.2.2.2.1=b.2.2.2.2.2.2.2.2.2.1)))&&(a.2.2.2.2.2.2.2.2.2.2 == b.2.2.2.2.2.2.2.2.2.2))))=some (NV a b):=by
 subst hf hg;rw [PY (fun h=>?_)]
 ·rw [PY (fun h=>by rw [h];rfl),Yn]
  congr 1
  unfold NV;rw [Bool.eq_iff_iff];obtain ⟨a1,a2,a3,⟨a4,a5⟩,a6,a7,a8,a9,a0,aa,ab⟩:=a;obtain ⟨b1,b2,b3,⟨b4,b5⟩,b6,b7,b8,b9,b10,b11,b12⟩:=b;simp [and_assoc]
 ·rw [h];rfl
theorem YL {a b:Au} (ha:Ok.ok a):Lb a b=some (NV a b):=by
 unfold Lb;exact Wx (OL (a:=a.2.2.2.2.2.1) (b:=b.2.2.2.2.2.1) ha.2.2.2.2.2.1) (RW ha.2.2.2.2.2.2.2.1.1)
theorem YM {a b:Au} (ha:Ok.ok a):Nd a b=some (NV a b):=by
 unfold Nd;exact Wx (St (a:=a.2.2.2.2.2.1) (b:=b.2.2.2.2.2.1) ha.2.2.2.2.2.1) (VL ha.2.2.2.2.2.2.2.1.1)
def KO (l:List Au) (m:Au):Bool:=l.any fun x=>NV x m
theorem YN {l:List Au} {m:Au}:KO l m=true↔m∈l:=by
 unfold KO NV;rw [List.any_eq_true]
 constructor
 ·rintro ⟨x,hx,h⟩;rw [← of_decide_eq_true h];exact hx
 intro h;exact ⟨m,h,decide_eq_true rfl⟩
theorem Zx {l:List Au} {m:Au} (hl:l.length≤1000) (h:∀ x,x∈l→Ok.ok x):Mq l m=some (KO l m):=by
 unfold Mq;refine Dx (fun s:Int=>∃ k:Nat,s=(k:Int)∧k≤l.length∧KO (l.take k) m=false) (fun s=>(l.length - s).toNat) ?_ ⟨0,rfl,Nat.zero_le _,rfl⟩;rintro _ ⟨k,rfl,hk,hany⟩
 by_cases hlt:k < l.length
 ·have hx:l[k]?=some l[k]:=List.getElem?_eq_getElem hlt
  have hm:l[k]∈l:=List.getElem_mem hlt
  generalize l[k]=x at hx hm;rw [decide_eq_true (show (k:Int) < (l.length:Int) by omega),cond_true,BV,hx,ob];rw [show Lb _ _=_ from YL (a:=x) (b:=m) (h x hm),ob]
  cases hq:NV x m with
  | true =>
   right;rw [show KO l m=true from List.any_eq_true.2 ⟨x,hm,hq⟩];rfl
  | false =>
   left;rw [cond_false,CE iR];refine ⟨_,rfl,⟨k+1,by simp,hlt,?_⟩,by omega⟩;unfold KO at hany ⊢;rw [Fa hx,List.any_append,hany];simp [hq]
 right;rw [decide_eq_false (show ¬ (k:Int) < (l.length:Int) by omega),cond_false];rw [List.take_of_length_le om] at hany;rw [hany];rfl
theorem Zy {l:List Au} {m:Au} (hl:l.length≤1000) (h:∀ x,x∈l→Ok.ok x):FO l m=some (KO l m):=by
 unfold FO EO Fg
 have key:∃ r,(BH (fun s1:Int=>cond (decide (s1 < (l.length:Int))) (Option.bind (idx l s1) (fun y3=>Option.bind (Jl y3 m) (fun y4=>cond y4 (Option.map .inr (some s1)) (some (.inl (IntKind.wrap .i64 (s1+1))))))) (Option.map .inr (some (-1)))) 0:Option Int)=some r∧decide (0≤r)=KO l m:=by
  refine Kg (fun s:Int=>∃ k:Nat,s=(k:Int)∧k≤l.length∧KO (l.take k) m=false) (fun s=>(l.length - s).toNat) (fun r=>decide (0≤r)=KO l m) ?_ 0 ⟨0,rfl,Nat.zero_le _,rfl⟩;rintro _ ⟨k,rfl,hk,hany⟩
  by_cases hlt:k < l.length
  ·have hx:l[k]?=some l[k]:=List.getElem?_eq_getElem hlt
   have hm:l[k]∈l:=List.getElem_mem hlt
   generalize l[k]=x at hx hm;rw [decide_eq_true (show (k:Int) < (l.length:Int) by omega),cond_true,BV,hx,ob]
   have e:Jl x m=some (NV x m):=AN (YM (a:=x) (b:=m) (h x hm)) rfl
   rw [e,ob]
   cases hq:NV x m with
   | true =>
    right;refine ⟨_,rfl,?_⟩;rw [decide_eq_true (show (0:Int)≤(k:Int) by omega)];exact (List.any_eq_true.2 ⟨x,hm,hq⟩).symm
   | false =>
    left;rw [cond_false,CE iR];refine ⟨_,rfl,⟨k+1,by simp,hlt,?_⟩,by omega⟩;unfold KO at hany ⊢;rw [Fa hx,List.any_append,hany];simp [hq]
  ·right;rw [decide_eq_false (show ¬ (k:Int) < (l.length:Int) by omega),cond_false];refine ⟨_,rfl,?_⟩;rw [List.take_of_length_le om] at hany;rw [hany];rfl
 obtain ⟨r,h1,h2⟩:=key;refine AN (AN h1 rfl) ?_;rw [h2]
structure NetF (x:Dt):Prop where
 len:x.1.length=3
 node:∀ (i:Nat) (n:At),x.1[i]?=some n→GN n∧n.1=(i:Int)
 pool:∀ m,m∈x.2→MsgF m
 nd:x.2.Nodup
 pl:x.2.length≤160
def Gw (p out:List Au):List Au:=out.foldl (fun p m=>if KO p m=true then p else p++[m]) p
theorem YO (p:List Au):∀ out:List Au,p.length≤(Gw p out).length∧(Gw p out).length≤p.length+out.length:=fun out=>by
 induction out generalizing p with
 | nil=>exact ⟨Nat.le_refl _,Nat.le_refl _⟩
 | cons m out ih =>
  unfold Gw at ih ⊢;rw [List.foldl_cons]
  split
  ·have:=ih p
   rw [List.length_cons];omega
  ·have:=ih (p++[m])
   rw [List.length_append,List.length_singleton] at this;rw [List.length_cons];omega
theorem Uc (p:List Au):∀ (out:List Au) (m:Au),m∈Gw p out↔m∈p∨m∈out:=fun out=>by
 induction out generalizing p with
 | nil=>intro m;simp [Gw]
 | cons m0 out ih =>
  intro m;unfold Gw at ih ⊢;rw [List.foldl_cons]
  split
  ·rename_i h
   rw [ih p,List.mem_cons]
   constructor
   ·exact fun h=>h.imp id .inr
   ·rintro (q | q | q)
    ·exact .inl q
    ·rw [q];exact .inl (YN.1 h)
    ·exact .inr q
  ·rw [ih,List.mem_append,List.mem_singleton,List.mem_cons,or_assoc]
theorem mO {p:List Au} (h:p.Nodup):∀ out:List Au,(Gw p out).Nodup:=fun out=>by
 induction out generalizing p with
 | nil=>exact h
 | cons m out ih =>
  unfold Gw at ih ⊢;rw [List.foldl_cons]
  split
  ·exact ih h
  ·rename_i hq
   refine ih (List.nodup_append.2 ⟨h,by simp,fun a ha b hb=>?_⟩);rw [List.mem_singleton] at hb;subst hb;exact fun e=>hq (YN.2 (e ▸ ha))
def PD:Gv:=(Ta,[],false)
noncomputable def VO (x:Dt) (at_:Int) (r:Gv):Dt×Bool :=
 if r.2.2=true then (if decide (160 < ((Gw x.2 r.2.1).length:Int))=true then (x,false) else ((x.1.set at_.toNat r.1,Gw x.2 r.2.1),true)) else (x,false)
def Jv (x:Dt) (i:Int):At:=(x.1[i.toNat]?).getD Ta
noncomputable def Ka (d:At):Gv:=if Ft d then ((d.1,d.2.1,d.2.2.1,([]:List Bb)),[],true) else PD
theorem mP {d:At} (h:GN d):GRes d (Ka d):=by
 unfold Ka;rw [if_pos (nodeF.ok h.f)];exact ⟨⟨NodeF.mk' h.f.me h.f.nx h.f.is (Nat.zero_le _) h.f.own (fun _ hl=>by cases hl) (by simp),fun _ hl=>(by cases hl),fun _ hl=>by cases hl⟩,rfl,fun _ hl=>(by cases hl),Nat.zero_le _⟩
theorem UV {d:At} (h:GN d):Ku d=some ((Ka d).1,(Ka d).2.2):=by
 unfold Ku Ka;refine AN (JN h.f.okk) ?_;rw [nodeF.ok h.f,Bool.not_true,cond_false,if_pos rfl];exact AN (FG h.f.small) rfl
theorem UW {d:At} (h:GN d):Jj d=some ((Ka d).1,(Ka d).2.2):=by
 unfold Jj Ka;refine AN (JO h.f.okk) ?_;rw [nodeF.ok h.f,Bool.not_true,cond_false,if_pos rfl];exact AN (Fu h.f.small) rfl
noncomputable def PS (d:At) (a:Fd):Gv :=
 if decide (a.1=1)=true then Sx d a.2.2.2.2 else if decide (a.1=3)=true then Pz d a.2.2.2.1 else if decide (a.1=4)=true then Sw d a.2.2.2.1
 else if decide (a.1=5)=true then Ka d else PD
noncomputable def FP (x:Dt) (a:Fd):Int×Gv :=
 if decide (a.1=2)=true then (match idx x.2 a.2.2.1 with
  | none=>(0,PD)
  | some m=>(m.2.2.1,getD (Jv x m.2.2.1) m))
 else if decide (0≤a.2.1∧a.2.1 < 3)=true then (if (((decide (a.1=1)||decide (a.1=3))||decide (a.1=4))||decide (a.1=5))=true then (a.2.1,PS (Jv x a.2.1) a) else (0,PD)) else (0,PD)
noncomputable def RI (x:Dt) (a:Fd):Dt×Bool:=VO x (FP x a).1 (FP x a).2
theorem NetF.at {x:Dt} (h:NetF x) {i:Int} (hi:0≤i∧i < 3):idx x.1 i=some (Jv x i)∧GN (Jv x i)∧(Jv x i).1=i:=by
 have hlt:i.toNat < x.1.length:=by rw [h.len];omega
 have hx:x.1[i.toNat]?=some x.1[i.toNat]:=List.getElem?_eq_getElem hlt
 have:=h.node _ _ hx
 unfold Jv;rw [hx];refine ⟨?_,this.1,?_⟩
 ·rw [cB x.1 (k:=i.toNat) om];exact hx
 show (x.1[i.toNat]).1=i;rw [this.2];omega
theorem oW {d:At} (h:GN d) (a:Fd) (hr:(PS d a).2.2=true):GRes d (PS d a):=by
 unfold PS at hr ⊢
 split
 ·exact oV h _
 split
 ·exact mL h _
 split
 ·exact oU h _
 split
 ·exact mP h
 rename_i h1 h2 h3 h4
 rw [if_neg h1,if_neg h2,if_neg h3,if_neg h4] at hr;cases hr
theorem VP {α:Type} {l:List α} {i:Int} {x:α} (h:idx l i=some x):0≤i∧i < l.length∧x∈l∧l[i.toNat]?=some x:=by
 unfold idx at h
 split at h
 ·cases h
 have:=(List.getElem?_eq_some_iff.1 h).1
 exact ⟨by omega,by omega,List.mem_of_getElem? h,h⟩
theorem YP {α:Type} {l:List α} {i:Int} (h:idx l i=none):i < 0∨(l.length:Int)≤i:=by
 unfold idx at h
 split at h
 ·exact .inl (by assumption)
 have:=List.getElem?_eq_none_iff.1 h
 right;omega
theorem oX {x:Dt} (h:NetF x) {i:Int} {r:Gv} (hr:r.2.2=true→(0≤i∧i < 3)∧GRes (Jv x i) r):NetF (VO x i r).1:=by
 unfold VO
 split
 ·rename_i hk
  obtain ⟨hi,hg⟩:=hr hk
  split
  ·exact h
  rename_i hq
  obtain ⟨h1,h2,h3⟩:=h.at hi;refine ⟨by show (x.1.set _ _).length=3;rw [List.length_set,h.len],fun j n hn=>?_,fun m hm=>?_,mO h.nd _,?_⟩
  ·by_cases hj:i.toNat=j
   ·subst hj;rw [show (x.1.set i.toNat r.1,Gw x.2 r.2.1).1=x.1.set i.toNat r.1 from rfl,List.getElem?_set_self (by rw [h.len];omega)] at hn;rw [← Option.some.inj hn];refine ⟨hg.g,?_⟩;rw [hg.me,h3];omega
   rw [show (x.1.set i.toNat r.1,Gw x.2 r.2.1).1=x.1.set i.toNat r.1 from rfl,List.getElem?_set_ne hj] at hn;exact h.node j n hn
  ·rcases (Uc _ _ _).1 hm with q | q
   ·exact h.pool m q
   exact (hg.out m q).1
  have hq':¬ 160 < ((Gw x.2 r.2.1).length:Int):=fun e=>hq (decide_eq_true e)
  show (Gw x.2 r.2.1).length≤160;omega
 exact h
theorem UX {x:Dt} (h:NetF x) (a:Fd):(FP x a).2.2.2=true→(0≤(FP x a).1∧(FP x a).1 < 3)∧GRes (Jv x (FP x a).1) (FP x a).2:=by
 unfold FP
 split
 ·split
  ·intro q;cases q
  rename_i m hm
  intro _
  have hmf:=h.pool m (VP hm).2.2.1
  exact ⟨hmf.to,oT (h.at hmf.to).2.1 m⟩
 split
 ·rename_i hq
  have hq:=of_decide_eq_true hq
  split
  ·intro q;exact ⟨hq,oW (h.at hq).2.1 a q⟩
  intro q;cases q
 intro q;cases q
theorem oY {x:Dt} (h:NetF x) (a:Fd):NetF (RI x a).1:=oX h (UX h a)
theorem YQ {x:Dt} (h:NetF x) {a:Fd} (ha:Ok.ok a):Nc x a=some (FP x a):=by
 have hc:Ok.ok a.2.2.2.2:=ha.2.2.2.2
 unfold Nc FP
 cases hk:decide (a.1=2) with
 | true =>
  rw [cond_true,if_pos rfl]
  cases hx:idx x.2 a.2.2.1 with
  | none =>
   have:=YP hx
   rw [show (decide (a.2.2.1 < 0)||decide ((x.2.length:Int)≤a.2.2.1))=true by rw [Bool.or_eq_true,decide_eq_true_eq,decide_eq_true_eq];exact this];rfl
  | some m =>
   obtain ⟨h1,h2,h3,_⟩:=VP hx;rw [show (decide (a.2.2.1 < 0)||decide ((x.2.length:Int)≤a.2.2.1))=false by rw [Bool.or_eq_false_iff,decide_eq_false_iff_not,decide_eq_false_iff_not];omega,cond_false,ob]
   have hmf:=h.pool m h3
   obtain ⟨e1,e2,_⟩:=h.at hmf.to;rw [e1,ob];exact AN (WW (m:=m) e2 hmf.okk) rfl
 | false =>
  rw [cond_false,if_neg Bool.false_ne_true,Pv,ob]
  cases hq:decide (0≤a.2.1∧a.2.1 < 3) with
  | false=>rfl
  | true =>
   rw [Bool.not_true,cond_false,if_pos rfl];obtain ⟨e1,e2,_⟩:=h.at (of_decide_eq_true hq);rw [e1];simp only [ob];unfold PS
   cases decide (a.1=1) with
   | true=>exact AN (UP (c:=a.2.2.2.2) e2.f.okk e2.f.small hc (fN e2)) rfl
   | false =>
    rw [cond_false,if_neg Bool.false_ne_true]
    cases decide (a.1=3) with
    | true=>exact AN (VH a.2.2.2.1 e2.f.okk e2.f.small) rfl
    | false =>
     rw [cond_false,if_neg Bool.false_ne_true]
     cases decide (a.1=4) with
     | true=>exact AN (Ti a.2.2.2.1 e2.f.okk e2.f.small) rfl
     | false =>
      rw [cond_false,if_neg Bool.false_ne_true]
      cases decide (a.1=5) with
      | true =>
       refine AN (UV e2) ?_;unfold Ka;rw [nodeF.ok e2.f];rfl
      | false=>rfl
theorem PE {p out:List Au} {k:Nat} {m:Au} (h:out[k]?=some m):Gw p (out.take (k+1))=if KO (Gw p (out.take k)) m=true then Gw p (out.take k) else Gw p (out.take k)++[m]:=by
 rw [Fa h];unfold Gw;rw [List.foldl_append];rfl
theorem iN {x:Dt} (h:NetF x) (a:Fd) (hr:(FP x a).2.2.2=true):(FP x a).2.2.1.length≤2∧∀ m,m∈(FP x a).2.2.1→MsgF m:=by
 obtain ⟨_,hg⟩:=UX h a hr;exact ⟨hg.len,fun m hm=>(hg.out m hm).1⟩
theorem cM {x:Dt} (h:NetF x) {a:Fd} (ha:Ok.ok a):Oh x a=some (RI x a):=by
 unfold Oh RI VO;refine AN (YQ h ha) ?_
 cases hr:(FP x a).2.2.2 with
 | false=>rfl
 | true =>
  have hpl:=h.pl
  obtain ⟨hi,hg⟩:=UX h a hr;obtain ⟨hl2,hmF⟩:=iN h a hr;rw [Bool.not_true,cond_false,if_pos rfl,ob,Cp (by simp;omega),ob,List.nil_append];generalize FP x a=r at hi hl2 hmF;refine Dx (fun s:List Au×Int=>∃ k:Nat,k≤r.2.2.1.length∧s=(Gw x.2 (r.2.2.1.take k),(k:Int))) (fun s=>(r.2.2.1.length - s.2).toNat) ?_ ⟨0,Nat.zero_le _,rfl⟩;rintro _ ⟨k,hk,rfl⟩;dsimp only
  by_cases hlt:k < r.2.2.1.length
  ·left
   have hx:r.2.2.1[k]?=some r.2.2.1[k]:=List.getElem?_eq_getElem hlt
   have hm:=List.getElem_mem hlt
   generalize r.2.2.1[k]=m at hx hm
   have hal:=YO x.2 (r.2.2.1.take k)
   rw [List.length_take] at hal;rw [decide_eq_true (show (k:Int) < (r.2.2.1.length:Int) by omega),cond_true,BV,hx,ob];rw [show Mq _ _=_ from Zx (l:=Gw x.2 (r.2.2.1.take k)) (m:=m) om (fun y hy=>by
    rcases (Uc _ _ _).1 hy with q | q
    ·exact (h.pool y q).okk
    ·exact (hmF y (List.mem_of_mem_take q)).okk),ob,CE iR]
   cases hq:KO (Gw x.2 (r.2.2.1.take k)) m with
   | true=>exact ⟨_,rfl,⟨k+1,hlt,by rw [PE hx,if_pos hq];simp⟩,by dsimp only;omega⟩
   | false =>
    rw [Bool.not_false,cond_true,ob,Cp (by simp;omega),ob];exact ⟨_,rfl,⟨k+1,hlt,by rw [PE hx,if_neg (by rw [hq];exact Bool.false_ne_true)];simp⟩,by dsimp only;omega⟩
  ·right
   have:k=r.2.2.1.length:=by omega
   subst this;rw [decide_eq_false (show ¬ (r.2.2.1.length:Int) < (r.2.2.1.length:Int) by omega),cond_false,List.take_length];refine Qv ?_
   cases decide (160 < ((Gw x.2 r.2.2.1).length:Int)) with
   | true=>rfl
   | false =>
    rw [cond_false,if_neg Bool.false_ne_true,(h.at hi).1,ob,ob]
theorem YR {x:Dt} (h:NetF x):Nb x=some x:=by
 have h3:=h.len
 have hpl:=h.pl
 unfold Nb;refine Dx (fun s:Int×List At=>∃ k:Nat,k≤3∧s=((k:Int),x.1.take k)) (fun s=>(3 - s.1).toNat) ?_ ⟨0,by omega,rfl⟩;rintro _ ⟨k,hk,rfl⟩;dsimp only
 by_cases hlt:k < 3
 ·left
  have hx:x.1[k]?=some x.1[k]:=List.getElem?_eq_getElem om
  generalize x.1[k]=n at hx
  have hg:=(h.node k n hx).1
  rw [decide_eq_true (show (k:Int) < (x.1.length:Int) by omega),cond_true,BV,hx,ob];rw [show EN _=_ from FG (d:=n) hg.f.small,ob,Cp (by simp;omega),ob,CE iR];exact ⟨_,rfl,⟨k+1,hlt,by rw [Fa hx];simp⟩,by dsimp only;omega⟩
 right
 have:k=3:=by omega
 subst this;rw [decide_eq_false (show ¬ ((3:Nat):Int) < (x.1.length:Int) by omega),cond_false,List.take_of_length_le om];refine Qv ?_;refine Dx (fun s:Int×List Au=>∃ k:Nat,k≤x.2.length∧s=((k:Int),x.2.take k)) (fun s=>(x.2.length - s.1).toNat) ?_ ⟨0,Nat.zero_le _,rfl⟩;rintro _ ⟨j,hj,rfl⟩;dsimp only
 by_cases hjl:j < x.2.length
 ·left
  have hx:x.2[j]?=some x.2[j]:=List.getElem?_eq_getElem hjl
  have hm:=List.getElem_mem hjl
  generalize x.2[j]=m at hx hm
  have hmf:=h.pool m hm
  have hdl:=Ex hmf.deps
  rw [decide_eq_true (show (j:Int) < (x.2.length:Int) by omega),cond_true,BV,hx,ob];rw [show FL _=_ from GD (c:=m.2.2.2.2.2.1) hmf.small.1,ob,ob,Cp (by simp;omega),ob,Cp (by simp;omega),ob,CE iR];exact ⟨_,rfl,⟨j+1,hjl,by rw [Fa hx];simp⟩,by dsimp only;omega⟩
 right
 have:j=x.2.length:=by omega
 subst this;rw [decide_eq_false (show ¬ (x.2.length:Int) < (x.2.length:Int) by omega),cond_false,List.take_length];rfl
theorem Jc {x:Dt} (h:NetF x):CM x=some x:=by
 have h3:=h.len
 have hpl:=h.pl
 unfold CM;refine Dx (fun s:Int×List At=>∃ k:Nat,k≤3∧s=((k:Int),x.1.take k)) (fun s=>(3 - s.1).toNat) ?_ ⟨0,by omega,rfl⟩;rintro _ ⟨k,hk,rfl⟩;dsimp only
 by_cases hlt:k < 3
 ·left
  have hx:x.1[k]?=some x.1[k]:=List.getElem?_eq_getElem om
  generalize x.1[k]=n at hx
  have hg:=(h.node k n hx).1
  rw [decide_eq_true (show (k:Int) < (x.1.length:Int) by omega),cond_true,BV,hx,ob];rw [show Ef _=_ from Fu (d:=n) hg.f.small,ob,Cp (by simp;omega),ob,CE iR];exact ⟨_,rfl,⟨k+1,hlt,by rw [Fa hx];simp⟩,by dsimp only;omega⟩
 right
 have:k=3:=by omega
 subst this;rw [decide_eq_false (show ¬ ((3:Nat):Int) < (x.1.length:Int) by omega),cond_false,List.take_of_length_le om];refine Qv ?_;refine Dx (fun s:Int×List Au=>∃ k:Nat,k≤x.2.length∧s=((k:Int),x.2.take k)) (fun s=>(x.2.length - s.1).toNat) ?_ ⟨0,Nat.zero_le _,rfl⟩;rintro _ ⟨j,hj,rfl⟩;dsimp only
 by_cases hjl:j < x.2.length
 ·left
  have hx:x.2[j]?=some x.2[j]:=List.getElem?_eq_getElem hjl
  have hm:=List.getElem_mem hjl
  generalize x.2[j]=m at hx hm
  have hmf:=h.pool m hm
  rw [decide_eq_true (show (j:Int) < (x.2.length:Int) by omega),cond_true,BV,hx,ob];rw [show Hg _=_ from Nx (m:=m) hmf.small,ob,Cp (by simp;omega),ob,CE iR];exact ⟨_,rfl,⟨j+1,hjl,by rw [Fa hx];simp⟩,by dsimp only;omega⟩
 right
 have:j=x.2.length:=by omega
 subst this;rw [decide_eq_false (show ¬ (x.2.length:Int) < (x.2.length:Int) by omega),cond_false,List.take_length];rfl
noncomputable def jR (x:Dt) (at_:Int) (n:At) (ms:List Au) (ok:Bool):Option (Dt×Bool) :=
 Option.bind (CM x) (fun a0=>cond (!ok) (some (a0,false)) (Option.bind (idx a0.1 at_) (fun a6=>Option.bind (some (a0.1.set (at_.toNat) n)) (fun a2=>BH (fun s17:Int×(List Au)=>cond (decide (s17.1 < (ms.length:Int))) (Option.bind (idx ms s17.1) (fun a1=>Option.bind (FO s17.2 a1) (fun a3=>cond (!a3) (Option.bind (CO s17.2 [a1]) (fun a4=>some (.inl ((IntKind.wrap .i64 (s17.1+1),a4))))) (some (.inl ((IntKind.wrap .i64 (s17.1+1),s17.2))))))) (Option.map .inr (cond (decide (160 < (s17.2.length:Int))) (Option.bind (CM x) (fun a5=>some (a5,false))) (some ((a2,s17.2),true))))) (0,a0.2)))))
theorem OU {x:Dt} (h:NetF x) {i:Int} {r:Gv} (hr:r.2.2=true→(0≤i∧i < 3)∧GRes (Jv x i) r):jR x i r.1 r.2.1 r.2.2=some (VO x i r):=by
 unfold jR VO;refine AN (Jc h) ?_
 cases hk:r.2.2 with
 | false=>rfl
 | true =>
  have hpl:=h.pl
  obtain ⟨hi,hg⟩:=hr hk
  have hl2:=hg.len
  rw [Bool.not_true,cond_false,if_pos rfl,(h.at hi).1,ob,ob];refine Dx (fun s:Int×List Au=>∃ k:Nat,k≤r.2.1.length∧s=((k:Int),Gw x.2 (r.2.1.take k))) (fun s=>(r.2.1.length - s.1).toNat) ?_ ⟨0,Nat.zero_le _,rfl⟩;rintro _ ⟨k,hk',rfl⟩;dsimp only
  by_cases hlt:k < r.2.1.length
  ·left
   have hx:r.2.1[k]?=some r.2.1[k]:=List.getElem?_eq_getElem hlt
   have hm:=List.getElem_mem hlt
   generalize r.2.1[k]=m at hx hm
   have hal:=YO x.2 (r.2.1.take k)
   rw [List.length_take] at hal;rw [decide_eq_true (show (k:Int) < (r.2.1.length:Int) by omega),cond_true,BV,hx,ob];rw [Zy (l:=Gw x.2 (r.2.1.take k)) (m:=m) om (fun y hy=>by
    rcases (Uc _ _ _).1 hy with q | q
    ·exact (h.pool y q).okk
    ·exact (hg.out y (List.mem_of_mem_take q)).1.okk),ob,CE iR]
   cases hq:KO (Gw x.2 (r.2.1.take k)) m with
   | true=>exact ⟨_,rfl,⟨k+1,hlt,by rw [PE hx,if_pos hq];simp⟩,by dsimp only;omega⟩
   | false =>
    rw [Bool.not_false,cond_true,Cp (by simp;omega),ob];exact ⟨_,rfl,⟨k+1,hlt,by rw [PE hx,if_neg (by rw [hq];exact Bool.false_ne_true)];simp⟩,by dsimp only;omega⟩
  ·right
   have:k=r.2.1.length:=by omega
   subst this;rw [decide_eq_false (show ¬ (r.2.1.length:Int) < (r.2.1.length:Int) by omega),cond_false,List.take_length];refine Qv ?_
   cases decide (160 < ((Gw x.2 r.2.1).length:Int)) with
   | true=>exact AN (Jc h) rfl
   | false=>rfl
theorem cN {x:Dt} (h:NetF x) {a:Fd} (ha:Ok.ok a):Oi x a=some (RI x a):=by
 have hc:Ok.ok a.2.2.2.2:=ha.2.2.2.2
 have hpl:=h.pl
 unfold Oi RI
 have hG:=UX h a
 cases hk:decide (a.1=2) with
 | true =>
  rw [cond_true,HT,ob,CE iR]
  have h1:decide (a.1=1)=false:=by have:=of_decide_eq_true hk;exact decide_eq_false om
  cases hx:idx x.2 a.2.2.1 with
  | none =>
   have:=YP hx
   have hA:FP x a=(0,PD):=by unfold FP;rw [hk,if_pos rfl,hx]
   rw [decide_eq_false (show ¬ (0≤a.2.2.1∧a.2.2.1≤(x.2.length:Int) - 1) by omega),Bool.not_false,cond_true,hA];exact AN (Jc h) rfl
  | some m =>
   obtain ⟨k1,k2,h3,_⟩:=VP hx
   have hA:FP x a=(m.2.2.1,getD (Jv x m.2.2.1) m):=by unfold FP;rw [hk,if_pos rfl,hx]
   rw [hA] at hG ⊢
   have hmf:=h.pool m h3
   obtain ⟨e1,e2,_⟩:=h.at hmf.to;rw [decide_eq_true (show 0≤a.2.2.1∧a.2.2.1≤(x.2.length:Int) - 1 by omega),Bool.not_true,cond_false,ob,OK,ob,decide_eq_true hmf.to,Bool.not_true,cond_false,e1,ob,h1,cond_false,cond_true,ob];refine AN (WX (m:=m) e2 hmf.okk) ?_;exact OU h hG
 | false =>
  rw [cond_false,OK,ob]
  cases hq:decide (0≤a.2.1∧a.2.1 < 3) with
  | false =>
   have hA:FP x a=(0,PD):=by unfold FP;rw [hk,if_neg Bool.false_ne_true,hq,if_neg Bool.false_ne_true]
   rw [Bool.not_false,cond_true,hA];exact AN (Jc h) rfl
  | true =>
   rw [Bool.not_true,cond_false];obtain ⟨e1,e2,_⟩:=h.at (of_decide_eq_true hq);rw [e1,ob]
   cases h1:decide (a.1=1) with
   | true =>
    have hA:FP x a=(a.2.1,Sx (Jv x a.2.1) a.2.2.2.2):=by unfold FP PS;rw [hk,hq,h1];rfl
    rw [hA] at hG ⊢;exact AN (UQ (c:=a.2.2.2.2) e2.f.okk e2.f.small hc) (OU h hG)
   | false =>
    rw [cond_false,cond_false]
    cases h3:decide (a.1=3) with
    | true =>
     have hA:FP x a=(a.2.1,Pz (Jv x a.2.1) a.2.2.2.1):=by unfold FP PS;rw [hk,hq,h1,h3];rfl
     rw [hA] at hG ⊢;exact AN (VI a.2.2.2.1 e2.f.okk e2.f.small) (OU h hG)
    | false =>
     rw [cond_false]
     cases h4:decide (a.1=4) with
     | true =>
      have hA:FP x a=(a.2.1,Sw (Jv x a.2.1) a.2.2.2.1):=by unfold FP PS;rw [hk,hq,h1,h3,h4];rfl
      rw [hA] at hG ⊢;exact AN (Tj a.2.2.2.1 e2.f.okk e2.f.small) (OU h hG)
     | false =>
      rw [cond_false]
      cases h5:decide (a.1=5) with
      | true =>
       have hA:FP x a=(a.2.1,Ka (Jv x a.2.1)):=by unfold FP PS;rw [hk,hq,h1,h3,h4,h5];rfl
       rw [hA] at hG ⊢
       have hf:=OU h hG
       unfold Ka at hf ⊢;rw [nodeF.ok e2.f] at hf ⊢;refine AN (UW e2) ?_;unfold Ka;rw [nodeF.ok e2.f];exact hf
      | false =>
       have hA:FP x a=(0,PD):=by unfold FP PS;rw [hk,hq,h1,h3,h4,h5];rfl
       rw [cond_false,hA];exact AN (Jc h) rfl
def YS (i:Int):At:=(i,1,([]:List AD),([]:List Bb))
def OV:Dt:=([YS 0,YS 1,YS 2],[])
theorem YT {i:Int} (hi:0≤i∧i < 3):GN (YS i) :=
 ⟨NodeF.mk' hi ⟨by show (1:Int)≤1;omega,by show (1:Int)≤7;omega⟩ rfl (Nat.zero_le _) (fun _ hx=>by cases hx) (fun _ hx=>by cases hx) (by simp [YS]),fun _ hx=>(by cases hx),fun _ hx=>by cases hx⟩
theorem iO:NetF OV:=by
 refine ⟨rfl,fun i n hn=>?_,fun _ hm=>(by cases hm),by simp [OV],Nat.zero_le _⟩
 match i,hn with
 | 0,hn=>rw [← Option.some.inj hn];exact ⟨YT om,rfl⟩
 | 1,hn=>rw [← Option.some.inj hn];exact ⟨YT om,rfl⟩
 | 2,hn=>rw [← Option.some.inj hn];exact ⟨YT om,rfl⟩
 | k+3,hn=>cases hn
theorem YU:Na=some OV:=by
 unfold Na;refine Dx (fun s:Int×List At=>∃ k:Nat,k≤3∧s=((k:Int),OV.1.take k)) (fun s=>(3 - s.1).toNat) ?_ ⟨0,by omega,rfl⟩;rintro _ ⟨k,hk,rfl⟩
 have:k=0∨k=1∨k=2∨k=3:=by omega
 rcases this with rfl | rfl | rfl | rfl
 ·exact .inl ⟨_,rfl,⟨1,by omega,rfl⟩,by decide⟩
 ·exact .inl ⟨_,rfl,⟨2,by omega,rfl⟩,by decide⟩
 ·exact .inl ⟨_,rfl,⟨3,by omega,rfl⟩,by decide⟩
 exact .inr rfl
theorem YV:Nf=some OV:=by
 unfold Nf;refine Dx (fun s:Int×List At=>∃ k:Nat,k≤3∧s=((k:Int),OV.1.take k)) (fun s=>(3 - s.1).toNat) ?_ ⟨0,by omega,rfl⟩;rintro _ ⟨k,hk,rfl⟩
 have:k=0∨k=1∨k=2∨k=3:=by omega
 rcases this with rfl | rfl | rfl | rfl
 ·exact .inl ⟨_,rfl,⟨1,by omega,rfl⟩,by decide⟩
 ·exact .inl ⟨_,rfl,⟨2,by omega,rfl⟩,by decide⟩
 ·exact .inl ⟨_,rfl,⟨3,by omega,rfl⟩,by decide⟩
 exact .inr rfl
noncomputable def PF (t:Dt×Int) (a:Fd):Dt×Int:=((RI t.1 a).1,if (RI t.1 a).2=true then t.2+1 else t.2)
noncomputable def Gd (l:List Fd):Dt×Int:=l.foldl PF (OV,0)
theorem NW {l:List Fd} {k:Nat} {a:Fd} (h:l[k]?=some a):Gd (l.take (k+1))=PF (Gd (l.take k)) a:=by
 unfold Gd;rw [Fa h,List.foldl_append];rfl
theorem VQ (l:List Fd):NetF (Gd l).1∧0≤(Gd l).2∧(Gd l).2≤l.length:=by
 refine PA (P:=fun l=>NetF (Gd l).1∧0≤(Gd l).2∧(Gd l).2≤l.length) ⟨iO,by decide,by decide⟩ (fun l a ih=>?_) l
 have e:Gd (l++[a])=PF (Gd l) a:=by unfold Gd;rw [List.foldl_append];rfl
 rw [e,List.length_append,List.length_singleton];unfold PF;refine ⟨oY ih.1 a,?_⟩;dsimp only
 split<;>omega
noncomputable def Kb (l:List Fd):Dt×Int:=if decide (300 < (l.length:Int))=true then ((([]:List At),([]:List Au)),0) else Gd l
theorem WY {l:List Fd} (hl:Ok.ok l):NL l=some (Kb l):=by
 unfold NL Kb
 cases hq:decide (300 < (l.length:Int)) with
 | true=>rfl
 | false =>
  have hq:¬ 300 < (l.length:Int):=of_decide_eq_false hq
  rw [cond_false,if_neg Bool.false_ne_true];refine AN YU ?_;refine Dx (fun s:Int×Int×List At×List Au×Unit=>∃ k:Nat,k≤l.length∧s=((Gd (l.take k)).2,(k:Int),(Gd (l.take k)).1.1,(Gd (l.take k)).1.2,())) (fun s=>(l.length - s.2.1).toNat) ?_ ⟨0,Nat.zero_le _,rfl⟩;rintro _ ⟨k,hk,rfl⟩;dsimp only
  have hF:=VQ (l.take k)
  rw [List.length_take] at hF
  by_cases hlt:k < l.length
  ·left
   have hx:l[k]?=some l[k]:=List.getElem?_eq_getElem hlt
   have hm:=List.getElem_mem hlt
   generalize l[k]=a at hx hm;rw [decide_eq_true (show (k:Int) < (l.length:Int) by omega),cond_true,BV,hx,ob];rw [show Oh _ _=_ from cM (x:=(Gd (l.take k)).1) (a:=a) hF.1 (hl.2 a hm),ob,CE iR,CE iR]
   cases hd:(RI (Gd (l.take k)).1 a).2 with
   | true=>exact ⟨_,rfl,⟨k+1,hlt,by rw [NW hx];unfold PF;rw [hd];rfl⟩,by dsimp only;omega⟩
   | false=>exact ⟨_,rfl,⟨k+1,hlt,by rw [NW hx];unfold PF;rw [hd];rfl⟩,by dsimp only;omega⟩
  ·right
   have:k=l.length:=by omega
   subst this;rw [decide_eq_false (show ¬ (l.length:Int) < (l.length:Int) by omega),cond_false];rw [List.take_length] at hF ⊢;exact Qv (AN (YR hF.1) rfl)
theorem WZ {l:List Fd} (hl:Ok.ok l):NM l=some (Kb l):=by
 unfold NM Kb
 cases hq:decide (300 < (l.length:Int)) with
 | true=>rfl
 | false =>
  have hq:¬ 300 < (l.length:Int):=of_decide_eq_false hq
  rw [cond_false,if_neg Bool.false_ne_true];refine AN YV ?_;refine Dx (fun s:Int×Int×List At×List Au=>∃ k:Nat,k≤l.length∧s=((Gd (l.take k)).2,(k:Int),(Gd (l.take k)).1.1,(Gd (l.take k)).1.2)) (fun s=>(l.length - s.2.1).toNat) ?_ ⟨0,Nat.zero_le _,rfl⟩;rintro _ ⟨k,hk,rfl⟩;dsimp only
  have hF:=VQ (l.take k)
  rw [List.length_take] at hF
  by_cases hlt:k < l.length
  ·left
   have hx:l[k]?=some l[k]:=List.getElem?_eq_getElem hlt
   have hm:=List.getElem_mem hlt
   generalize l[k]=a at hx hm;rw [decide_eq_true (show (k:Int) < (l.length:Int) by omega),cond_true,BV,hx,ob];rw [show Oi _ _=_ from cN (x:=(Gd (l.take k)).1) (a:=a) hF.1 (hl.2 a hm),ob,CE iR,CE iR]
   cases hd:(RI (Gd (l.take k)).1 a).2 with
   | true=>exact ⟨_,rfl,⟨k+1,hlt,by rw [NW hx];unfold PF;rw [hd];rfl⟩,by dsimp only;omega⟩
   | false=>exact ⟨_,rfl,⟨k+1,hlt,by rw [NW hx];unfold PF;rw [hd];rfl⟩,by dsimp only;omega⟩
  ·right
   have:k=l.length:=by omega
   subst this;rw [decide_eq_false (show ¬ (l.length:Int) < (l.length:Int) by omega),cond_false,List.take_length];rfl
theorem eqx {a b:Value} (h:a=b:=by
  first
   | (refine congrArg Value.bool (Eq.symm (DT.2 fun e=>?_));simp only [Fy,DU,DD,Ee,Prod.mk.injEq,dZ,eA] at *;simp_all;done)
   | (refine congrArg Value.bool (Eq.symm (Fj.2 ?_));simp only [Fy,DU,DD,Ee,Prod.mk.injEq,dZ,eA] at *;simp_all;done)
   | (refine congrArg Value.bool (Eq.symm (DT.2 fun e=>?_));try simp only [Fy,DU,DD,Ee,Prod.mk.injEq] at e;simp_all;done)
   | (refine congrArg Value.bool (Eq.symm (Fj.2 ?_));try simp only [Fy,DU,DD,Ee,Prod.mk.injEq];simp_all;done)):a=b:=h
theorem eqy {a b:Value} (h:a=b:=by
  first
   | (refine congrArg Value.bool (Eq.symm (DT.2 fun e=>?_));try simp only [Fy,DU,DD,Ee,Prod.mk.injEq] at e;simp_all;done)
   | (refine congrArg Value.bool (Eq.symm (Fj.2 ?_));try simp only [Fy,DU,DD,Ee,Prod.mk.injEq];simp_all;done)):a=b:=h
end Go.Proofs.SL
namespace Go.Proofs.SL
open Go
variable {Γ:Cx} {l:Ca} {M M1 M2 F:List HP} {Q:Dw} {K:Dp} {w0 w:World} {S0:List Nat}
variable {rest:List Oper} {ty:TypeId} {pos:String} {af:Array Edge}
theorem MD {α:Type} {xs:List α} {i:Nat} {x:α} (h:xs[i]?=some x):xs.set i x=xs:=by
 obtain ⟨h1,rfl⟩:=List.getElem?_eq_some_iff.1 h;exact List.set_getElem_self h1
theorem BN {τ δ:Type} [GT τ δ] {p y:Operand} {T g i Lc n fo:Nat} {Lx:List τ} {Lt:List Value} {Le:TypeId} {v:Value} {x:τ} (x':τ) (hp0:ev l p=some (.pointer (some ⟨g,0+i*n+fo,none⟩))) (hy:ev l y=some v)
  (hp:Pick (Af (⟨some ⟨g,0,none⟩,Lc,Le,Lx.set i x,Lt⟩:TL τ)) M M1) (hn:GT.sz τ=n) (hi:i < Lx.length) (how:∀ w,GT.ow w x→GT.ow w x')
  (hT:HO Γ.P T=true) (hk:L Γ rest l (Af (⟨some ⟨g,0,none⟩,Lc,Le,Lx.set i x',Lt⟩:TL τ)::M1) K) (hv:GT.cells x'=(GT.cells x).set fo v:=by rfl) (h1:v.oneCell'=true:=by rfl) (hfo:fo < n:=by decide)
  (hfp:GT.fp x'=GT.fp x:=by rfl) :
  L Γ ({ dst:=none,op:=.store T p y,type:=ty,pos,after:=af,guard:=none }::rest) l M K:=by
 refine aM x' hp0 hy hp hn (x:=x) ?_ hv h1 hfo hfp how hT ?_
 ·rw [List.getElem?_set_self hi]
 ·rw [List.set_set];exact hk
end Go.Proofs.SL
namespace Go.Proofs.SL
open Go Tryz Go.Proofs.SL.GT
variable (w:World)
set_option maxHeartbeats 2000000
instance rO:UndF prog 22 (.slice 5):=⟨kr⟩
instance oZ:UndF prog 9 (.string):=⟨kr⟩
theorem Zz (t1 t2:TL Int) (h1:rd w [] t1) (h2:rd w [] t2):Sp 223 [t1.hdr,t2.hdr] w [] (IsV (.bool (eqB (dat t1) (dat t2)))):=by
 obtain ⟨a1,c1,e1,x1,y1⟩:=t1;obtain ⟨a2,c2,e2,x2,y2⟩:=t2
 have hm1:x1.length≤9223372036854775807:=EQ h1
 have hm2:x2.length≤9223372036854775807:=EQ h2
 dsimp only [TL.hdr];refine Spec.intro func223 rfl ntmps223 rfl (s8 ?_);refine CT rfl rfl FD.h (s1 ?_);refine CT rfl rfl FD.h (s2 ?_);refine kp [0,1,10] ?_;refine Ai rfl (fun q1=>?_) (fun q1=>?_)
 ·refine s5 ?_;refine AE rfl (Ab rfl) ⟨?_,rfl⟩ ms;refine congrArg Value.bool (Eq.symm (DT.2 fun e=>?_));simp at q1;exact q1 (by have:=congrArg List.length e;simp [Ln] at this;omega)
 have hl:x1.length=x2.length:=by simp at q1;omega
 refine s7 ?_;refine DO (σ:=Nat) 0 (fun (k:Nat)=>[(5,.int .i64 (k:Int))]) (fun (k:Nat)=>[]) (fun (k:Nat)=>k≤x1.length∧(x1.map dat).take k=(x2.map dat).take k) (fun (k:Nat)=>x1.length - k) [(0,_),(1,_)] [] ?_ sb ms ?_
 ·exact ⟨Nat.zero_le _,rfl⟩
 rintro k ⟨hk,ht⟩;refine kq [0,1,5] ?_;refine s5 ?_;refine CT rfl rfl FD.h (s2 ?_);refine kp [0,1,5,14] ?_;refine Ai rfl (fun q4=>?_) (fun q4=>?_)
 ·have hk1:k < x1.length:=by simpa using q4
  obtain ⟨g1,o1,rfl⟩:=DP h1 hk1;obtain ⟨g2,o2,rfl⟩:=DP (k:=k) h2 (show k < x2.length by omega);obtain ⟨u1,hu1⟩:=Eb hk1;obtain ⟨u2,hu2⟩:=Eb (show k < x2.length by omega);refine s4 ?_;refine BX [25] mix kr rfl (s2 ?_);refine Db _ Ar (Aj rfl) (Aj rfl) FD.h (fun hg=>⟨rfl,by (try dsimp only);omega⟩) ?_;refine Gq Ar (Aj rfl) (fun hg=>(by first | exact Ag mm | exact Br (Cells.el h1 rfl hu1) | exact Br (Cells.el h2 rfl hu2))) AM.h rfl (s2 ?_);refine Db _ Ar (Aj rfl) (Aj rfl) FD.h (fun hg=>⟨rfl,by (try dsimp only);omega⟩) ?_;refine Gq Ar (Aj rfl) (fun hg=>(by first | exact Ag mm | exact Br (Cells.el h1 rfl hu1) | exact Br (Cells.el h2 rfl hu2))) AM.h rfl (s12 ?_);refine kp [0,1,5,25] ?_;refine Ai rfl (fun q6=>?_) (fun q6=>?_)
  ·refine s5 ?_;refine AE rfl (Ab rfl) ⟨?_,rfl⟩ ms;refine congrArg Value.bool (Eq.symm (DT.2 fun e=>?_));simp at q6;replace e:x1.map dat=x2.map dat:=e
   have e2:=congrArg (fun l=>l[k]?) e
   simp only [List.getElem?_map,hu1,hu2,Option.map_some,Option.some.injEq] at e2;exact q6 (by simpa [DU,Ee,DD] using e2)
  refine s3 ?_;refine Be rfl rfl rfl (Bc iR) (s2 ?_);refine ⟨k+1,sb,ms,?_,?_⟩
  ·exact ⟨by omega,GE ht (by rw [List.getElem?_map,hu1];rfl) (by rw [List.getElem?_map,hu2];rfl) (by simpa [DU,Ee,DD] using q6)⟩
  (try dsimp only);omega
 refine BF (s5 ?_);refine AE rfl (Ab rfl) ⟨?_,rfl⟩ ms;refine congrArg Value.bool (Eq.symm (Fj.2 ?_))
 have hk2:x1.length≤k:=by simpa using q4
 have h3:=ht
 rw [List.take_of_length_le (by simp;omega),List.take_of_length_le (by simp;omega)] at h3;exact h3
theorem Du (k0:Nat) (hk0:0 < k0) (hm:k0 < 9223372036854775807):Sp 53 [.int .i64 (k0:Int)] w [] (IsV (.string (mtx k0))):=by
 refine Spec.intro func53 rfl ntmps53 rfl (s10 ?_);refine kp [0,5] ?_;refine Ai rfl (fun q1=>?_) (fun q1=>?_)
 ·refine s5 ?_;refine AE rfl (Ab rfl) ⟨?_,rfl⟩ ms
  exfalso;simp at q1;omega
 refine s7 ?_;refine DO (σ:=Nat×ByteArray) (k0,ByteArray.mk #[]) (fun (p:Nat×ByteArray)=>[(0,.int .i64 (p.1:Int)),(3,.string p.2)]) (fun (p:Nat×ByteArray)=>[]) (fun (p:Nat×ByteArray)=>QU p.1 p.2=QU k0 (ByteArray.mk #[])∧p.2.size+p.1≤k0) (fun (p:Nat×ByteArray)=>p.1) [] [] ?_ sb ms ?_
 ·refine ⟨rfl,?_⟩;show (ByteArray.mk #[]).size+k0≤k0
  have:(ByteArray.mk #[]).size=0:=rfl
  omega
 rintro ⟨k,s⟩ ⟨hs,hz⟩;refine kq [0,3] ?_;refine s6 ?_;refine kp [0,3,7] ?_;refine Ai rfl (fun q4=>?_) (fun q4=>?_)
 ·have hkp:0 < k:=by simpa using q4
  refine s5 ?_;refine Be rfl rfl rfl (kL k 10 om) ?_;refine Be rfl rfl rfl (Bc iR) ?_;refine dD rfl rfl hL.h (by rw [Eu.h];rfl) ?_;refine BQ rfl rfl oM.h rfl de de rfl (fun bb=>?_);refine XF (ns:=[IntKind.u8.wrap (48+((k % 10:Nat):Int))]) rfl rfl rO.h hL.h oZ.h (Ag mm) rfl rfl (s1 ?_);refine Be rfl rfl rfl (ZH (by rw [Tk];omega)) (s4 ?_);refine Be rfl rfl rfl (kM k 10 om om) (s2 ?_);refine ⟨(k / 10,dg k++s),sb,ms,?_,?_⟩
  ·refine ⟨?_,?_⟩
   ·rw [← hs];exact (dL s hkp).symm
   dsimp only at hz ⊢;rw [ByteArray.size_append,kN];omega
  dsimp only;omega
 refine BF (s1 ?_)
 have a0:({ data:=#[109] }:ByteArray).size=1:=rfl
 dsimp only at hz;refine s2 ?_;refine Be rfl rfl rfl (ZH (by (try dsimp only);omega)) (s3 ?_);refine AE rfl (Ab rfl) ⟨?_,rfl⟩ ms
 have hk2:k=0:=by simp at q4;omega
 subst hk2;dsimp only at hs;rw [dK] at hs;exact congrArg Value.string (by rw [hs];rfl)
theorem Xa (t1:TL Int) (k0:Nat) (hk0:0 < k0) (hb:k0+Mk.cnt t1 < 9223372036854775807):Sp 156 [t1.hdr,.int .i64 (k0:Int)] w [Af t1] (fun v M=>v=.int .i64 ((k0+Mk.cnt t1:Nat):Int)∧M=[Af (Mk.mkd k0 t1)]):=by
 obtain ⟨a1,c1,e1,x1,y1⟩:=t1;replace hb:k0+CL x1 < 9223372036854775807:=hb;dsimp only [TL.hdr];refine Spec.intro func156 rfl ntmps156 rfl ?_;refine Lp (fun w h=>II (h.prs _ (List.mem_cons_self ..))) fun hF=>?_;replace hF:x1.length≤9223372036854775807∧(0 < x1.length→∃ g,a1=some ⟨g,0,none⟩):=hF;refine s10 ?_;refine AS (M':=[Af (⟨a1,c1,e1,Cr k0 0 x1,y1⟩:TL Int)]) (fun w h=>by rw [IC];exact h) ?_;refine DO (σ:=Nat) 0 (fun (i:Nat)=>[(1,.int .i64 ((k0+CL (x1.take i):Nat):Int)),(5,.int .i64 (i:Int))]) (fun (i:Nat)=>[Af (⟨a1,c1,e1,Cr k0 i x1,y1⟩:TL Int)]) (fun (i:Nat)=>i≤x1.length) (fun (i:Nat)=>x1.length - i) [(0,_)] [] ?_ sb ms ?_
 ·exact Nat.zero_le _
 rintro i hi;refine kq [0,1,5] ?_;refine s5 ?_;refine CT rfl rfl FD.h (s2 ?_);refine kp [0,1,5,9] ?_;refine Ai rfl (fun q2=>?_) (fun q2=>?_)
 ·have hk1:i < x1.length:=by simpa using q2
  obtain ⟨g,rfl⟩:=hF.2 om;obtain ⟨u,hu⟩:=Eb hk1
  have hs:=Dy hu
  have hle:=DY x1 (i+1)
  have hlh:=Hk k0 i x1
  try simp only [CI,CJ] at hs
  obtain ⟨K,hK⟩:∃ K:Nat,k0+CL (x1.take i)=K:=⟨_,rfl⟩;rw [hK];refine s8 ?_;refine AI rfl rfl rfl FD.h rfl om ?_;refine QT ((K:Nat):Int) rfl rfl pk rfl (show ((Cr k0 i x1):List Int)[i]?=some (u:Int) from CW (k:=k0) hu) rfl (Es trivial) (.inr ⟨AM.h,rfl⟩) (s3 ?_);refine Be rfl rfl rfl (Bc iR) (s2 ?_);rw [show ((K:Nat):Int)+1=((K+1:Nat):Int) from rfl]
  have hfin:((Cr k0 i x1).set i ((K:Nat):Int))=Cr k0 (i+1) x1:=by
   have h9:=Jz (k:=k0) hu
   rw [hK] at h9;try simp only [EX,Cg,Ch,Cw,CI,CJ,← Nat.add_assoc] at h9
   try simp only [List.set_set]
   exact h9
  refine AS (M':=Af (⟨some ⟨g,0,none⟩,c1,e1,(Cr k0 (i+1) x1),y1⟩:TL Int)::_) (fun w h=>by rw [← hfin];exact h) ?_
  have hE:(K+1)=k0+CL (x1.take (i+1)):=by rw [hs];(try simp only [Cw,CI,CJ]);omega
  rw [hE];refine s2 ?_;refine Be rfl rfl rfl (Bc iR) (s2 ?_);refine ⟨i+1,sb,ms,?_,?_⟩
  ·show i+1≤x1.length;omega
  show x1.length - (i+1) < x1.length - i;omega
 refine BF (s6 ?_)
 have hk2:x1.length≤i:=by simpa using q2
 rw [Jy k0 hk2];refine AE rfl (Ab rfl) ⟨?_,rfl⟩ ms
 have hk2:x1.length≤i:=by simpa using q2
 rw [List.take_of_length_le hk2];rfl
theorem Xb (t1:TL Int) (k0:Nat) (hk0:0 < k0) (hb:k0+Mk.cnt t1 < 9223372036854775807) (h1:rd w [] (Mk.mkd k0 t1)):Sp 157 [(Mk.mkd k0 t1).hdr,.int .i64 (k0:Int)] w [] (IsV (.int .i64 ((k0+Mk.cnt t1:Nat):Int))):=by
 obtain ⟨a1,c1,e1,x1,y1⟩:=t1;replace hb:k0+CL x1 < 9223372036854775807:=hb
 have hml:=DQ x1 k0
 have hm1:(mks k0 x1).length≤9223372036854775807:=EQ h1
 rw [QV] at h1 ⊢;dsimp only [TL.hdr];refine Spec.intro func157 rfl ntmps157 rfl (s10 ?_);refine DO (σ:=Nat) 0 (fun (i:Nat)=>[(1,.int .i64 ((k0+CL (x1.take i):Nat):Int)),(5,.int .i64 (i:Int))]) (fun (i:Nat)=>[]) (fun (i:Nat)=>i≤x1.length) (fun (i:Nat)=>x1.length - i) [(0,_)] [] ?_ sb ms ?_
 ·exact Nat.zero_le _
 rintro i hi;refine kq [0,1,5] ?_;refine s5 ?_;refine CT rfl rfl FD.h (s2 ?_);refine kp [0,1,5,9] ?_;refine Ai rfl (fun q2=>?_) (fun q2=>?_)
 ·have hk1:i < (mks k0 x1).length:=by simpa using q2
  obtain ⟨g,o1,rfl⟩:=DP h1 hk1;obtain ⟨u,hu⟩:=Eb (show i < x1.length by omega)
  have hs:=Dy hu
  have hle:=DY x1 (i+1)
  have hu2:=KR (k:=k0) hu
  try simp only [CI,CJ] at hs
  obtain ⟨K,hK⟩:∃ K:Nat,k0+CL (x1.take i)=K:=⟨_,rfl⟩;rw [hK] at hu2 ⊢;refine s8 ?_;refine AI rfl rfl rfl FD.h rfl om ?_;refine LN rfl rfl (by first | exact Ag mm | exact Br (Cells.el h1 rfl hu2)) AM.h rfl (s3 ?_);refine kp [0,1,5,17] ?_;refine Ai rfl (fun q4=>?_) (fun q4=>?_)
  ·refine s5 ?_;refine AE rfl (Ab rfl) ⟨?_,rfl⟩ ms
   exfalso;simp [Cg,Ch] at q4
  refine s3 ?_;refine Be rfl rfl rfl (Bc iR) (s2 ?_);rw [show ((K:Nat):Int)+1=((K+1:Nat):Int) from rfl]
  have hE:(K+1)=k0+CL (x1.take (i+1)):=by rw [hs];(try simp only [Cw,CI,CJ]);omega
  rw [hE];refine s2 ?_;refine Be rfl rfl rfl (Bc iR) (s2 ?_);refine ⟨i+1,sb,ms,?_,?_⟩
  ·show i+1≤x1.length;omega
  show x1.length - (i+1) < x1.length - i;omega
 refine BF (s6 ?_);refine AE rfl (Ab rfl) ⟨?_,rfl⟩ ms
 have hk2:(mks k0 x1).length≤i:=by simpa using q2
 rw [List.take_of_length_le om];rfl
set_option maxHeartbeats 2000000
instance uQ:FldF prog 82 0 0:=⟨kr⟩
instance uR:FldF prog 82 1 1:=⟨kr⟩
instance YW:FnF prog 99:=⟨_,func99,kr,rfl⟩
instance rP:FnF prog 155:=⟨_,func155,kr,rfl⟩
instance uS:FldF prog 83 3 3:=⟨kr⟩
instance uT:FldF prog 83 4 4:=⟨kr⟩
instance uU:FldF prog 83 5 5:=⟨kr⟩
instance uV:FldF prog 83 7 7:=⟨kr⟩
instance rQ:FnF prog 144:=⟨_,func144,kr,rfl⟩
instance uW:FldF prog 83 0 0:=⟨kr⟩
instance uX:FldF prog 83 1 1:=⟨kr⟩
instance uY:FldF prog 83 2 2:=⟨kr⟩
instance uZ:FldF prog 83 6 6:=⟨kr⟩
instance rR:FnF prog 151:=⟨_,func151,kr,rfl⟩
instance JV:FnF prog 53:=⟨_,func53,kr,rfl⟩
theorem Nn (t1 t2:Bj) (h1:rd w [] t1) (h2:rd w [] t2):Sp 99 [.agg (cells t1).toArray,.agg (cells t2).toArray] w [] (IsV (.bool (eqB (dat t1) (dat t2)))):=by
 obtain ⟨a1,a2⟩:=t1;obtain ⟨b1,b2⟩:=t2;change Spec _ _ [Value.agg #[.int .i64 a1,.int .i64 a2],Value.agg #[.int .i64 b1,.int .i64 b2]].toArray w [] _;refine Spec.intro func99 rfl ntmps99 rfl (s2 ?_);refine bx fun a0=>?_;refine bx fun a3=>?_;refine s6 ?_;refine AY rfl rfl (by exact Ag mm) AM.h rfl (s1 ?_);refine AY rfl rfl (by exact Ag mm) AM.h rfl (s2 ?_);refine kp [2,3,9] ?_;refine Ai rfl (fun q1=>?_) (fun q1=>?_)
 ·refine s5 ?_;refine AE rfl (Ab rfl) ⟨?_,rfl⟩ ms;clear h1 h2;exact eqy
 refine s5 ?_;refine AY rfl rfl (by exact Ag mm) AM.h rfl (s1 ?_);refine AY rfl rfl (by exact Ag mm) AM.h rfl (s2 ?_);refine kp [14] ?_;refine Ai rfl (fun q3=>?_) (fun q3=>?_)
 ·refine s5 ?_;refine AE rfl (Ab rfl) ⟨?_,rfl⟩ ms;clear h1 h2;exact eqy
 refine s6 ?_;refine AE rfl (Ab rfl) ⟨?_,rfl⟩ ms;clear h1 h2;exact eqy
theorem fQ (t1:Bj) (h1:rd w [] t1) (hb:Bk.bulk t1≤1048576):Sp 95 [.agg (cells t1).toArray] w [] (fun v M=>∃ t2:Bj,v=.agg (cells t2).toArray∧dat t2=dat t1∧M=[Af t2]):=by
 obtain ⟨a1,a2⟩:=t1;change Spec _ _ [Value.agg #[.int .i64 a1,.int .i64 a2]].toArray w [] _;refine Spec.intro func95 rfl ntmps95 rfl (s2 ?_);refine bx fun a0=>?_;refine al fun a3=>?_;refine s3 ?_;refine al fun a4=>?_;refine s4 ?_;refine AY rfl rfl (by exact Ag mm) AM.h rfl (s6 ?_);refine AY rfl rfl (by exact Ag mm) AM.h rfl (s5 ?_);refine AW rfl rfl (by exact Ag mm) (by exact Bp.h) ?_;refine Jx rfl rfl pk (by exact Bp.h) (by rfl) (by first | (simp [Value.oneCell',TL.hdr];done) | (simp [Value.oneCell',TL.hdr,Value.cells];done) | exact fun v hv=>GT.one _ v hv) (s1 ?_);refine AS (M':=Af ((a1,a2):Bj)::_) (fun w h=>(HC (Es (h1.1)) (h.addFlat (Es (h1.2))))) (s1 ?_);refine AE rfl (AC rfl mm (by exact Bp.h)) ⟨(a1,a2),rfl,by simp only [Fy],rfl⟩ ms
theorem RJ (t1 t2:TL Bj) (h1:rd w [] t1) (h2:rd w [] t2):Sp 154 [t1.hdr,t2.hdr] w [] (IsV (.bool (eqB (dat t1) (dat t2)))):=by
 obtain ⟨a1,c1,e1,x1,y1⟩:=t1;obtain ⟨a2,c2,e2,x2,y2⟩:=t2
 have hm1:x1.length≤9223372036854775807:=EQ h1
 have hm2:x2.length≤9223372036854775807:=EQ h2
 dsimp only [TL.hdr];refine Spec.intro func154 rfl ntmps154 rfl (s8 ?_);refine CT rfl rfl Cq.h (s1 ?_);refine CT rfl rfl Cq.h (s2 ?_);refine kp [0,1,10] ?_;refine Ai rfl (fun q1=>?_) (fun q1=>?_)
 ·refine s5 ?_;refine AE rfl (Ab rfl) ⟨?_,rfl⟩ ms;refine congrArg Value.bool (Eq.symm (DT.2 fun e=>?_));simp at q1;exact q1 (by have:=congrArg List.length e;simp [Ln] at this;omega)
 have hl:x1.length=x2.length:=by simp at q1;omega
 refine s7 ?_;refine DO (σ:=Nat) 0 (fun (k:Nat)=>[(5,.int .i64 (k:Int))]) (fun (k:Nat)=>[]) (fun (k:Nat)=>k≤x1.length∧(x1.map dat).take k=(x2.map dat).take k) (fun (k:Nat)=>x1.length - k) [(0,_),(1,_)] [] ?_ sb ms ?_
 ·exact ⟨Nat.zero_le _,rfl⟩
 rintro k ⟨hk,ht⟩;refine kq [0,1,5] ?_;refine s5 ?_;refine CT rfl rfl Cq.h (s2 ?_);refine kp [0,1,5,14] ?_;refine Ai rfl (fun q4=>?_) (fun q4=>?_)
 ·have hk1:k < x1.length:=by simpa using q4
  obtain ⟨g1,o1,rfl⟩:=DP h1 hk1;obtain ⟨g2,o2,rfl⟩:=DP (k:=k) h2 (show k < x2.length by omega);obtain ⟨u1,hu1⟩:=Eb hk1;obtain ⟨u2,hu2⟩:=Eb (show k < x2.length by omega);refine s4 ?_;refine BX [26] mix kr rfl (s2 ?_);refine Db _ Ar (Aj rfl) (Aj rfl) Cq.h (fun hg=>⟨rfl,by (try dsimp only);omega⟩) ?_;refine Bq Ar (Aj rfl) (fun hg=>(by first | exact Ag mm | exact Br (Cells.el h1 rfl hu1) | exact Br (Cells.el h2 rfl hu2))) (by exact Bp.h) (s2 ?_);refine Db _ Ar (Aj rfl) (Aj rfl) Cq.h (fun hg=>⟨rfl,by (try dsimp only);omega⟩) ?_;refine Bq Ar (Aj rfl) (fun hg=>(by first | exact Ag mm | exact Br (Cells.el h1 rfl hu1) | exact Br (Cells.el h2 rfl hu2))) (by exact Bp.h) ?_;refine AZ Ar YW.h (Ah (Aj rfl) (Ah (Aj rfl) (AF))) (by exact fun hg w F hF hM=>(fun w hw=>Nn w _ _ (BG (h1.2.2.1 _ (List.mem_of_getElem? hu1)) hw) (BG (h2.2.2.1 _ (List.mem_of_getElem? hu2)) hw)) w hF) (s13 ?_);refine kp [0,1,5,26] ?_;refine Ai rfl (fun q6=>?_) (fun q6=>?_)
  ·refine s5 ?_;refine AE rfl (Ab rfl) ⟨?_,rfl⟩ ms;refine congrArg Value.bool (Eq.symm (DT.2 fun e=>?_));simp at q6;replace e:x1.map dat=x2.map dat:=e
   have e2:=congrArg (fun l=>l[k]?) e
   simp only [List.getElem?_map,hu1,hu2,Option.map_some,Option.some.injEq] at e2;exact q6 (by simpa [DU,Ee,DD] using e2)
  refine s3 ?_;refine Be rfl rfl rfl (Bc iR) (s2 ?_);refine ⟨k+1,sb,ms,?_,?_⟩
  ·exact ⟨by omega,GE ht (by rw [List.getElem?_map,hu1];rfl) (by rw [List.getElem?_map,hu2];rfl) (by simpa [DU,Ee,DD] using q6)⟩
  (try dsimp only);omega
 refine BF (s5 ?_);refine AE rfl (Ab rfl) ⟨?_,rfl⟩ ms;refine congrArg Value.bool (Eq.symm (Fj.2 ?_))
 have hk2:x1.length≤k:=by simpa using q4
 have h3:=ht
 rw [List.take_of_length_le (by simp;omega),List.take_of_length_le (by simp;omega)] at h3;exact h3
theorem VR (t1 t2:TL ByteArray) (h1:rd w [] t1) (h2:rd w [] t2):Sp 155 [t1.hdr,t2.hdr] w [] (IsV (.bool (eqB (dat t1) (dat t2)))):=by
 obtain ⟨a1,c1,e1,x1,y1⟩:=t1;obtain ⟨a2,c2,e2,x2,y2⟩:=t2
 have hm1:x1.length≤9223372036854775807:=EQ h1
 have hm2:x2.length≤9223372036854775807:=EQ h2
 dsimp only [TL.hdr];refine Spec.intro func155 rfl ntmps155 rfl (s8 ?_);refine CT rfl rfl Gp.h (s1 ?_);refine CT rfl rfl Gp.h (s2 ?_);refine kp [0,1,10] ?_;refine Ai rfl (fun q1=>?_) (fun q1=>?_)
 ·refine s5 ?_;refine AE rfl (Ab rfl) ⟨?_,rfl⟩ ms;refine congrArg Value.bool (Eq.symm (DT.2 fun e=>?_));simp at q1;exact q1 (by have:=congrArg List.length e;simp [Ln] at this;omega)
 have hl:x1.length=x2.length:=by simp at q1;omega
 refine s7 ?_;refine DO (σ:=Nat) 0 (fun (k:Nat)=>[(5,.int .i64 (k:Int))]) (fun (k:Nat)=>[]) (fun (k:Nat)=>k≤x1.length∧(x1.map dat).take k=(x2.map dat).take k) (fun (k:Nat)=>x1.length - k) [(0,_),(1,_)] [] ?_ sb ms ?_
 ·exact ⟨Nat.zero_le _,rfl⟩
 rintro k ⟨hk,ht⟩;refine kq [0,1,5] ?_;refine s5 ?_;refine CT rfl rfl Gp.h (s2 ?_);refine kp [0,1,5,14] ?_;refine Ai rfl (fun q4=>?_) (fun q4=>?_)
 ·have hk1:k < x1.length:=by simpa using q4
  obtain ⟨g1,o1,rfl⟩:=DP h1 hk1;obtain ⟨g2,o2,rfl⟩:=DP (k:=k) h2 (show k < x2.length by omega);obtain ⟨u1,hu1⟩:=Eb hk1;obtain ⟨u2,hu2⟩:=Eb (show k < x2.length by omega);refine s4 ?_;refine BX [25] mix kr rfl (s2 ?_);refine Db _ Ar (Aj rfl) (Aj rfl) Gp.h (fun hg=>⟨rfl,by (try dsimp only);omega⟩) ?_;refine Gq Ar (Aj rfl) (fun hg=>(by first | exact Ag mm | exact Br (Cells.el h1 rfl hu1) | exact Br (Cells.el h2 rfl hu2))) ED.h rfl (s2 ?_);refine Db _ Ar (Aj rfl) (Aj rfl) Gp.h (fun hg=>⟨rfl,by (try dsimp only);omega⟩) ?_;refine Gq Ar (Aj rfl) (fun hg=>(by first | exact Ag mm | exact Br (Cells.el h1 rfl hu1) | exact Br (Cells.el h2 rfl hu2))) ED.h rfl (s12 ?_);refine kp [0,1,5,25] ?_;refine Ai rfl (fun q6=>?_) (fun q6=>?_)
  ·refine s5 ?_;refine AE rfl (Ab rfl) ⟨?_,rfl⟩ ms;refine congrArg Value.bool (Eq.symm (DT.2 fun e=>?_));simp at q6;replace e:x1.map dat=x2.map dat:=e
   have e2:=congrArg (fun l=>l[k]?) e
   simp only [List.getElem?_map,hu1,hu2,Option.map_some,Option.some.injEq] at e2;exact q6 (by simpa [DU,Ee,DD] using e2)
  refine s3 ?_;refine Be rfl rfl rfl (Bc iR) (s2 ?_);refine ⟨k+1,sb,ms,?_,?_⟩
  ·exact ⟨by omega,GE ht (by rw [List.getElem?_map,hu1];rfl) (by rw [List.getElem?_map,hu2];rfl) (by simpa [DU,Ee,DD] using q6)⟩
  (try dsimp only);omega
 refine BF (s5 ?_);refine AE rfl (Ab rfl) ⟨?_,rfl⟩ ms;refine congrArg Value.bool (Eq.symm (Fj.2 ?_))
 have hk2:x1.length≤k:=by simpa using q4
 have h3:=ht
 rw [List.take_of_length_le (by simp;omega),List.take_of_length_le (by simp;omega)] at h3;exact h3
theorem VS (t1:TL ByteArray) (left:Int) (hl:0≤left) (hm:left≤1048576) (h1:rd w [] t1) (ho:Ok.ok (dat t1)):Sp 144 [t1.hdr,.int .i64 left] w [] (IsV (.int .i64 (if (Bk.bulk t1:Int)≤left then left - (Bk.bulk t1:Int) else -1))):=by
  obtain ⟨a1,c1,e1,x1,y1⟩:=t1
  have hm1:x1.length≤9223372036854775807:=EQ h1
  rw [PW];dsimp only [TL.hdr];refine Spec.intro func144 rfl ntmps144 rfl (s8 ?_);refine CT rfl rfl Gp.h ?_;refine Be rfl rfl rfl (NY iR) (s8 ?_);refine kp [0,1,11] ?_;refine Ai rfl (fun q2=>?_) (fun q2=>?_)
  · have hb0:left - (x1.length:Int) < 0:=by simpa using q2
    refine s5 ?_;refine AE rfl (Ab rfl) ⟨?_,rfl⟩ ms
    first
      | (rw [if_neg (by simp only [Int.natCast_add];omega)];done)
      | (rw [if_neg (by have:=Gi x1 (k+1);simp only [Int.natCast_add];omega)];done)
      | (have hk2:x1.length≤k:=by simpa using q5
         rw [List.take_of_length_le hk2] at ht ⊢;rw [if_pos (by simp only [Int.natCast_add];omega)];congr 1;simp only [Int.natCast_add];omega)
  have hb0:¬ (left - (x1.length:Int) < 0):=by simpa using q2
  refine s7 ?_
  have h0:left - (x1.length:Int)=left - (x1.length:Int) - (DI (x1.take 0):Int):=by simp [DI]
  rw [h0];refine DO (σ:=Nat) 0 (fun (k:Nat)=>[(1,.int .i64 (left - (x1.length:Int) - (DI (x1.take k):Int))),(5,.int .i64 (k:Int))]) (fun (k:Nat)=>[]) (fun (k:Nat)=>k≤x1.length∧0≤(left - (x1.length:Int) - (DI (x1.take k):Int))) (fun (k:Nat)=>x1.length - k) [(0,_)] [] ?_ sb ms ?_
  · exact ⟨Nat.zero_le _,by simp [DI];omega⟩
  rintro k ⟨hk,ht⟩;refine kq [0,1,5] ?_;refine s5 ?_;refine CT rfl rfl Gp.h (s2 ?_);refine kp [0,1,5,15] ?_;refine Ai rfl (fun q5=>?_) (fun q5=>?_)
  · have hk1:k < x1.length:=by simpa using q5
    obtain ⟨g1,o1,rfl⟩:=DP h1 hk1;obtain ⟨u1,hu1⟩:=Eb hk1
    have hbs:=Pf hu1
    have hble:=Gi x1 (k+1)
    have hus:u1.size≤9223372036854775807:=ho.2 _ (List.mem_map.2 ⟨u1,List.mem_of_getElem? hu1,rfl⟩)
    rw [HB] at hbs;refine s8 ?_;refine AI rfl rfl rfl Gp.h rfl om ?_;refine LN rfl rfl (by first | exact Ag mm | exact Br (Cells.el h1 rfl hu1)) ED.h rfl (s1 ?_);refine Be rfl rfl rfl (NY iR) (s7 ?_);refine kp [0,1,5,26] ?_;refine Ai rfl (fun q8=>?_) (fun q8=>?_)
    · have hb1:(left - (x1.length:Int) - (DI (x1.take k):Int)) - (u1.size:Int) < 0:=by simpa using q8
      refine s5 ?_;refine AE rfl (Ab rfl) ⟨?_,rfl⟩ ms
      first
        | (rw [if_neg (by simp only [Int.natCast_add];omega)];done)
        | (rw [if_neg (by have:=Gi x1 (k+1);simp only [Int.natCast_add];omega)];done)
        | (have hk2:x1.length≤k:=by simpa using q5
           rw [List.take_of_length_le hk2] at ht ⊢;rw [if_pos (by simp only [Int.natCast_add];omega)];congr 1;simp only [Int.natCast_add];omega)
    have hb1:¬ ((left - (x1.length:Int) - (DI (x1.take k):Int)) - (u1.size:Int) < 0):=by simpa using q8
    have hnx:(left - (x1.length:Int) - (DI (x1.take k):Int)) - (u1.size:Int)=left - (x1.length:Int) - (DI (x1.take (k+1)):Int):=by rw [hbs];omega
    rw [hnx];refine s3 ?_;refine Be rfl rfl rfl (Bc iR) (s2 ?_);refine ⟨k+1,sb,ms,?_,?_⟩
    · exact ⟨by omega,by omega⟩
    (try dsimp only);omega
  refine BF (s6 ?_);refine AE rfl (Ab rfl) ⟨?_,rfl⟩ ms
  first
    | (rw [if_neg (by simp only [Int.natCast_add];omega)];done)
    | (rw [if_neg (by have:=Gi x1 (k+1);simp only [Int.natCast_add];omega)];done)
    | (have hk2:x1.length≤k:=by simpa using q5
       rw [List.take_of_length_le hk2] at ht ⊢;rw [if_pos (by simp only [Int.natCast_add];omega)];congr 1;simp only [Int.natCast_add];omega)
theorem VT (t1:TL ByteArray) (h1:rd w [] t1) (hb:Bk.bulk t1≤1048576):Sp 151 [t1.hdr] w [] (fun v M=>∃ t2:TL ByteArray,v=t2.hdr∧dat t2=dat t1∧M=[Af t2]):=by
 obtain ⟨a1,c1,e1,x1,y1⟩:=t1;rw [PW] at hb;dsimp only [TL.hdr];refine Spec.intro func151 rfl ntmps151 rfl (s7 ?_);refine CT rfl rfl Gp.h ?_;refine dF (τ:=ByteArray) ByteArray.empty rfl rfl rfl Gp.h rfl rfl (HA trivial) om (by unfold maxLen;omega) (fun g=>s8 ?_);refine DO (σ:=Nat×List ByteArray) (0,List.replicate x1.length ByteArray.empty) (fun (p:Nat×List ByteArray)=>[(4,.int .i64 (p.1:Int))]) (fun (p:Nat×List ByteArray)=>[Af (⟨some ⟨g,0,none⟩,x1.length,9,p.2,[]⟩:TL ByteArray)]) (fun (p:Nat×List ByteArray)=>p.1≤x1.length∧p.2.length=x1.length∧(p.2.take p.1).map dat=(x1.take p.1).map dat) (fun (p:Nat×List ByteArray)=>x1.length - p.1) [(0,_),(3,_)] [] ?_ sb ms ?_
 ·exact ⟨Nat.zero_le _,by simp,by simp⟩
 rintro ⟨k,cur⟩ ⟨hk,hlen,hdat⟩;dsimp only at hk hlen hdat;refine kq [0,3,4] ?_;refine s5 ?_;refine CT rfl rfl Gp.h (s2 ?_);refine kp [0,3,4,11] ?_;refine Ai rfl (fun q3=>?_) (fun q3=>?_)
 ·have hk1:k < x1.length:=by simpa using q3
  obtain ⟨g1,o1,rfl⟩:=DP h1 hk1;obtain ⟨u1,hu1⟩:=Eb hk1
  have hub:Bk.bulk u1≤1048576:=by have:=XE (List.mem_of_getElem? hu1);omega
  refine s8 ?_;refine AI rfl rfl rfl Gp.h rfl om ?_;refine LN rfl rfl (by first | exact Ag mm | exact Br (Cells.el h1 rfl hu1)) ED.h rfl ?_;refine AI rfl rfl rfl Gp.h rfl om ?_;obtain ⟨u0,hu0⟩:=Eb (show k < cur.length by omega);refine QT u1 rfl rfl pk rfl hu0 rfl (HA (h1.2.2.1 _ (List.mem_of_getElem? hu1))) (.inr ⟨ED.h,rfl⟩) (s3 ?_);refine Be rfl rfl rfl (Bc iR) (s2 ?_);refine ⟨(k+1,cur.set k u1),sb,ms,?_,?_⟩
  ·exact ⟨by dsimp only;omega,by simpa using hlen,Sg dat dat hdat om hu1 rfl⟩
  dsimp only;omega
 refine BF (s6 ?_);refine AE rfl (Ab rfl) ⟨⟨some ⟨g,0,none⟩,x1.length,9,cur,[]⟩,?_,?_,rfl⟩ ms
 ·show _=Value.slice _ cur.length _;rw [hlen]
 have hk2:x1.length≤k:=by simpa using q3
 rw [List.take_of_length_le om,List.take_of_length_le om] at hdat;exact hdat
theorem RK (t1 t2:Dg) (h1:rd w [] t1) (h2:rd w [] t2):Sp 100 [.agg (cells t1).toArray,.agg (cells t2).toArray] w [] (IsV (.bool (eqB (dat t1) (dat t2)))):=by
 obtain ⟨a1,a2,a3,a4,a5,a6,a7,a8⟩:=t1;obtain ⟨b1,b2,b3,b4,b5,b6,b7,b8⟩:=t2;change Spec _ _ [Value.agg #[.int .i64 a1,.int .i64 a2,.int .i64 a3,.string a4,.string a5,.string a6,.int .i64 a7,a8.hdr],Value.agg #[.int .i64 b1,.int .i64 b2,.int .i64 b3,.string b4,.string b5,.string b6,.int .i64 b7,b8.hdr]].toArray w [] _;refine Spec.intro func100 rfl ntmps100 rfl (s2 ?_);refine bx fun ab=>?_;refine bx fun ac=>?_;refine s6 ?_;refine AY rfl rfl (by exact Ag mm) AM.h rfl (s1 ?_);refine AY rfl rfl (by exact Ag mm) AM.h rfl (s2 ?_);refine kp [2,3,9] ?_;refine Ai rfl (fun q1=>?_) (fun q1=>?_)
 ·refine s5 ?_;refine AE rfl (Ab rfl) ⟨?_,rfl⟩ ms;clear h1 h2;exact eqy
 refine s5 ?_;refine AY rfl rfl (by exact Ag mm) AM.h rfl (s1 ?_);refine AY rfl rfl (by exact Ag mm) AM.h rfl (s2 ?_);refine kp [2,3,14] ?_;refine Ai rfl (fun q3=>?_) (fun q3=>?_)
 ·refine s5 ?_;refine AE rfl (Ab rfl) ⟨?_,rfl⟩ ms;clear h1 h2;exact eqy
 refine s5 ?_;refine AY rfl rfl (by exact Ag mm) AM.h rfl (s1 ?_);refine AY rfl rfl (by exact Ag mm) AM.h rfl (s2 ?_);refine kp [2,3,19] ?_;refine Ai rfl (fun q5=>?_) (fun q5=>?_)
 ·refine s5 ?_;refine AE rfl (Ab rfl) ⟨?_,rfl⟩ ms;clear h1 h2;exact eqy
 refine s5 ?_;refine AY rfl rfl (by exact Ag mm) ED.h rfl (s1 ?_);refine AY rfl rfl (by exact Ag mm) ED.h rfl (s2 ?_);refine kp [2,3,24] ?_;refine Ai rfl (fun q7=>?_) (fun q7=>?_)
 ·refine s5 ?_;refine AE rfl (Ab rfl) ⟨?_,rfl⟩ ms;clear h1 h2;exact eqy
 refine s5 ?_;refine AY rfl rfl (by exact Ag mm) ED.h rfl (s1 ?_);refine AY rfl rfl (by exact Ag mm) ED.h rfl (s2 ?_);refine kp [2,3,29] ?_;refine Ai rfl (fun q9=>?_) (fun q9=>?_)
 ·refine s5 ?_;refine AE rfl (Ab rfl) ⟨?_,rfl⟩ ms;clear h1 h2;exact eqy
 refine s5 ?_;refine AY rfl rfl (by exact Ag mm) ED.h rfl (s1 ?_);refine AY rfl rfl (by exact Ag mm) ED.h rfl (s2 ?_);refine kp [2,3,34] ?_;refine Ai rfl (fun a0=>?_) (fun a0=>?_)
 ·refine s5 ?_;refine AE rfl (Ab rfl) ⟨?_,rfl⟩ ms;clear h1 h2;exact eqy
 refine s5 ?_;refine AY rfl rfl (by exact Ag mm) AM.h rfl (s1 ?_);refine AY rfl rfl (by exact Ag mm) AM.h rfl (s2 ?_);refine kp [2,3,39] ?_;refine Ai rfl (fun a9=>?_) (fun a9=>?_)
 ·refine s5 ?_;refine AE rfl (Ab rfl) ⟨?_,rfl⟩ ms;clear h1 h2;exact eqy
 refine s5 ?_;refine AY rfl rfl (by exact Ag mm) MH.h rfl (s1 ?_);refine AY rfl rfl (by exact Ag mm) MH.h rfl ?_;refine Bi rfl rP.h rfl (by exact fun w hw=>VR w _ _ (BG (h1.2.2.2.2.2.2.2) hw) (BG (h2.2.2.2.2.2.2.2) hw)) (s2 ?_);refine kp [45] ?_;refine Ai rfl (fun aa=>?_) (fun aa=>?_)
 ·refine s5 ?_;refine AE rfl (Ab rfl) ⟨?_,rfl⟩ ms;clear h1 h2;exact eqy
 refine s6 ?_;refine AE rfl (Ab rfl) ⟨?_,rfl⟩ ms;clear h1 h2;exact eqy
theorem cO (t1:Dg) (left:Int) (hl:0≤left) (hm:left≤1048576) (h1:rd w [] t1) (ho:Ok.ok (dat t1)):Sp 91 [.agg (cells t1).toArray,.int .i64 left] w [] (IsV (.int .i64 (if (Bk.bulk t1:Int)≤left then left - (Bk.bulk t1:Int) else -1))):=by
 obtain ⟨a1,a2,a3,a4,a5,a6,a7,a8⟩:=t1
 have a9:a4.size≤9223372036854775807:=ho.2.2.2.1
 have aa:a5.size≤9223372036854775807:=ho.2.2.2.2.1
 have ab:a6.size≤9223372036854775807:=ho.2.2.2.2.2.1
 change Spec _ _ [Value.agg #[.int .i64 a1,.int .i64 a2,.int .i64 a3,.string a4,.string a5,.string a6,.int .i64 a7,a8.hdr],.int .i64 left].toArray w [] _;refine Spec.intro func91 rfl ntmps91 rfl (s2 ?_);refine bx fun ac=>?_;refine s6 ?_;refine AY rfl rfl (by exact Ag mm) ED.h rfl (s1 ?_);refine Be rfl rfl rfl (NY iR) (s8 ?_);refine kp [1,2,11] ?_;refine Ai rfl (fun q2=>?_) (fun q2=>?_)
 ·have hb3:left - (a4.size:Int) < 0:=by simpa using q2
  refine s5 ?_;refine AE rfl (Ab rfl) ⟨?_,rfl⟩ ms;try simp only [FR,HW,Hj,HB,Int.natCast_add,Int.natCast_zero] at *
  all_goals first
   | rfl
   | (rw [if_pos om]<;>(congr 1<;>omega))
   | (rw [if_neg om])
 have hb3:¬ (left - (a4.size:Int) < 0):=by simpa using q2
 refine s5 ?_;refine AY rfl rfl (by exact Ag mm) ED.h rfl (s1 ?_);refine Be rfl rfl rfl (NY iR) (s8 ?_);refine kp [1,2,18] ?_;refine Ai rfl (fun q5=>?_) (fun q5=>?_)
 ·have hb4:left - (a4.size:Int) - (a5.size:Int) < 0:=by simpa using q5
  refine s5 ?_;refine AE rfl (Ab rfl) ⟨?_,rfl⟩ ms;try simp only [FR,HW,Hj,HB,Int.natCast_add,Int.natCast_zero] at *
  all_goals first
   | rfl
   | (rw [if_pos om]<;>(congr 1<;>omega))
   | (rw [if_neg om])
 have hb4:¬ (left - (a4.size:Int) - (a5.size:Int) < 0):=by simpa using q5
 refine s5 ?_;refine AY rfl rfl (by exact Ag mm) ED.h rfl (s1 ?_);refine Be rfl rfl rfl (NY iR) (s8 ?_);refine kp [1,2,25] ?_;refine Ai rfl (fun q8=>?_) (fun q8=>?_)
 ·have hb5:left - (a4.size:Int) - (a5.size:Int) - (a6.size:Int) < 0:=by simpa using q8
  refine s5 ?_;refine AE rfl (Ab rfl) ⟨?_,rfl⟩ ms;try simp only [FR,HW,Hj,HB,Int.natCast_add,Int.natCast_zero] at *
  all_goals first
   | rfl
   | (rw [if_pos om]<;>(congr 1<;>omega))
   | (rw [if_neg om])
 have hb5:¬ (left - (a4.size:Int) - (a5.size:Int) - (a6.size:Int) < 0):=by simpa using q8
 refine s4 ?_;refine AY rfl rfl (by exact Ag mm) MH.h rfl (s1 ?_);refine Bi rfl rQ.h rfl (by exact fun w hw=>VS w _ (left - (a4.size:Int) - (a5.size:Int) - (a6.size:Int)) om om (BG (h1.2.2.2.2.2.2.2) hw) ho.2.2.2.2.2.2.2) (s8 ?_);refine kp [1,31] ?_;refine Ai rfl (fun a0=>?_) (fun a0=>?_)
 ·have hb7:¬ ((Bk.bulk a8:Int)≤left - (a4.size:Int) - (a5.size:Int) - (a6.size:Int)):=by
   intro hn;rw [if_pos hn] at a0;simp at a0;omega
  refine s5 ?_;refine AE rfl (Ab rfl) ⟨?_,rfl⟩ ms;try simp only [FR,HW,Hj,HB,Int.natCast_add,Int.natCast_zero] at *
  all_goals first
   | rfl
   | (rw [if_pos om]<;>(congr 1<;>omega))
   | (rw [if_neg om])
 have hb7:(Bk.bulk a8:Int)≤left - (a4.size:Int) - (a5.size:Int) - (a6.size:Int):=by
  rcases Int.decLt (left - (a4.size:Int) - (a5.size:Int) - (a6.size:Int)) (Bk.bulk a8:Int) with hn | hn
  ·omega
  ·rw [if_neg om] at a0;simp at a0
 rw [if_pos hb7];refine s7 ?_;refine AE rfl (Ab rfl) ⟨?_,rfl⟩ ms;try simp only [FR,HW,Hj,HB,Int.natCast_add,Int.natCast_zero] at *
 all_goals first
  | rfl
  | (rw [if_pos om]<;>(congr 1<;>omega))
  | (rw [if_neg om])
theorem cP (t1:Dg) (h1:rd w [] t1) (hb:Bk.bulk t1≤1048576):Sp 96 [.agg (cells t1).toArray] w [] (fun v M=>∃ t2:Dg,v=.agg (cells t2).toArray∧dat t2=dat t1∧M=[Af t2]):=by
 obtain ⟨a1,a2,a3,a4,a5,a6,a7,a8⟩:=t1
 have hbk_7:Bk.bulk a8≤1048576:=by (try simp only [FR,HW,Hj,HB] at hb ⊢);omega
 change Spec _ _ [Value.agg #[.int .i64 a1,.int .i64 a2,.int .i64 a3,.string a4,.string a5,.string a6,.int .i64 a7,a8.hdr]].toArray w [] _;refine Spec.intro func96 rfl ntmps96 rfl (s2 ?_);refine bx fun a9=>?_;refine al fun aa=>?_;refine s3 ?_;refine al fun ab=>?_;refine s4 ?_;refine AY rfl rfl (by exact Ag mm) AM.h rfl (s6 ?_);refine AY rfl rfl (by exact Ag mm) AM.h rfl (s6 ?_);refine AY rfl rfl (by exact Ag mm) AM.h rfl (s6 ?_);refine AY rfl rfl (by exact Ag mm) ED.h rfl (s6 ?_);refine AY rfl rfl (by exact Ag mm) ED.h rfl (s6 ?_);refine AY rfl rfl (by exact Ag mm) ED.h rfl (s6 ?_);refine AY rfl rfl (by exact Ag mm) AM.h rfl (s6 ?_);refine AY rfl rfl (by exact Ag mm) MH.h rfl ?_;refine AV rfl rR.h rfl (by exact fun w hw=>VT w _ (BG (h1.2.2.2.2.2.2.2) hw) hbk_7) ?_;rintro v M1 ⟨n8t,hv,a0,rfl⟩;subst hv;simp only [List.cons_append,List.nil_append];refine s5 ?_;refine AW rfl rfl (by exact Ag mm) (by exact CS.h) ?_;refine Jx rfl rfl pk (by exact CS.h) (by rfl) (by first | (simp [Value.oneCell',TL.hdr];done) | (simp [Value.oneCell',TL.hdr,Value.cells];done) | exact fun v hv=>GT.one _ v hv) (s1 ?_);refine AS (M':=Af ((a1,a2,a3,a4,a5,a6,a7,n8t):Dg)::_) (fun w h=>(HC (Es (h1.1)) (HC (Es (h1.2.1)) (HC (Es (h1.2.2.1)) (HC (HA (h1.2.2.2.1)) (HC (HA (h1.2.2.2.2.1)) (HC (HA (h1.2.2.2.2.2.1)) (HC (Es (h1.2.2.2.2.2.2.1)) (Bt pk h))))))))) (s1 ?_);refine AE rfl (AC rfl mm (by exact CS.h)) ⟨(a1,a2,a3,a4,a5,a6,a7,n8t),rfl,by simp only [Fy,a0],rfl⟩ ms
theorem OW (t1:TL Bj) (k0:Nat) (hk0:0 < k0) (hb:k0+Mk.cnt t1 < 9223372036854775807):Sp 103 [t1.hdr,.int .i64 (k0:Int)] w [Af t1] (fun v M=>v=.int .i64 ((k0+Mk.cnt t1:Nat):Int)∧M=[Af (Mk.mkd k0 t1)]):=by
 obtain ⟨a1,c1,e1,x1,y1⟩:=t1;replace hb:k0+CL x1 < 9223372036854775807:=hb;dsimp only [TL.hdr];refine Spec.intro func103 rfl ntmps103 rfl ?_;refine Lp (fun w h=>II (h.prs _ (List.mem_cons_self ..))) fun hF=>?_;replace hF:x1.length≤9223372036854775807∧(0 < x1.length→∃ g,a1=some ⟨g,0,none⟩):=hF;refine s10 ?_;refine AS (M':=[Af (⟨a1,c1,e1,Cr k0 0 x1,y1⟩:TL Bj)]) (fun w h=>by rw [IC];exact h) ?_;refine DO (σ:=Nat) 0 (fun (i:Nat)=>[(1,.int .i64 ((k0+CL (x1.take i):Nat):Int)),(5,.int .i64 (i:Int))]) (fun (i:Nat)=>[Af (⟨a1,c1,e1,Cr k0 i x1,y1⟩:TL Bj)]) (fun (i:Nat)=>i≤x1.length) (fun (i:Nat)=>x1.length - i) [(0,_)] [] ?_ sb ms ?_
 ·exact Nat.zero_le _
 rintro i hi;refine kq [0,1,5] ?_;refine s5 ?_;refine CT rfl rfl Cq.h (s2 ?_);refine kp [0,1,5,9] ?_;refine Ai rfl (fun q2=>?_) (fun q2=>?_)
 ·have hk1:i < x1.length:=by simpa using q2
  obtain ⟨g,rfl⟩:=hF.2 om;obtain ⟨u,hu⟩:=Eb hk1
  have hs:=Dy hu
  have hle:=DY x1 (i+1)
  have hlh:=Hk k0 i x1
  obtain ⟨b1,b2⟩:=u;simp only [Cw,CI,CJ] at hs;obtain ⟨K,hK⟩:∃ K:Nat,k0+CL (x1.take i)=K:=⟨_,rfl⟩;rw [hK];rw [← MD (CW (k:=k0) hu)];refine s8 ?_;refine AI rfl rfl rfl Cq.h rfl om (s1 ?_);refine BN (fo:=0) (x':=((((K:Nat):Int),b2):Bj)) rfl rfl pk rfl om (fun w h=>by exact ⟨(by exact trivial),h.2⟩) AM.h (s4 ?_);refine Be rfl rfl rfl (Bc iR) (s2 ?_);rw [show ((K:Nat):Int)+1=((K+1:Nat):Int) from rfl];refine s5 ?_;refine AI rfl rfl rfl Cq.h rfl om (s1 ?_);refine BN (fo:=1) (x':=((((K:Nat):Int),((K+1:Nat):Int)):Bj)) rfl rfl pk rfl om (fun w h=>by exact ⟨h.1,(by exact trivial)⟩) AM.h (s3 ?_);refine Be rfl rfl rfl (Bc iR) (s2 ?_);rw [show ((K+1:Nat):Int)+1=((K+2:Nat):Int) from rfl]
  have hfin:((Cr k0 i x1).set i ((((K:Nat):Int),((K+1:Nat):Int)):Bj))=Cr k0 (i+1) x1:=by
   have h9:=Jz (k:=k0) hu
   rw [hK] at h9;try simp only [EX,Cg,Ch,Cw,CI,CJ,← Nat.add_assoc] at h9
   try simp only [List.set_set]
   exact h9
  refine AS (M':=Af (⟨some ⟨g,0,none⟩,c1,e1,(Cr k0 (i+1) x1),y1⟩:TL Bj)::_) (fun w h=>by rw [← hfin];exact h) ?_
  have hE:(K+2)=k0+CL (x1.take (i+1)):=by rw [hs];(try simp only [Cw,CI,CJ]);omega
  rw [hE];refine s2 ?_;refine Be rfl rfl rfl (Bc iR) (s2 ?_);refine ⟨i+1,sb,ms,?_,?_⟩
  ·show i+1≤x1.length;omega
  show x1.length - (i+1) < x1.length - i;omega
 refine BF (s6 ?_)
 have hk2:x1.length≤i:=by simpa using q2
 rw [Jy k0 hk2];refine AE rfl (Ab rfl) ⟨?_,rfl⟩ ms
 have hk2:x1.length≤i:=by simpa using q2
 rw [List.take_of_length_le hk2];rfl
theorem OX (t1:TL Bj) (k0:Nat) (hk0:0 < k0) (hb:k0+Mk.cnt t1 < 9223372036854775807) (h1:rd w [] (Mk.mkd k0 t1)):Sp 107 [(Mk.mkd k0 t1).hdr,.int .i64 (k0:Int)] w [] (IsV (.int .i64 ((k0+Mk.cnt t1:Nat):Int))):=by
 obtain ⟨a1,c1,e1,x1,y1⟩:=t1;replace hb:k0+CL x1 < 9223372036854775807:=hb
 have hml:=DQ x1 k0
 have hm1:(mks k0 x1).length≤9223372036854775807:=EQ h1
 rw [QV] at h1 ⊢;dsimp only [TL.hdr];refine Spec.intro func107 rfl ntmps107 rfl (s10 ?_);refine DO (σ:=Nat) 0 (fun (i:Nat)=>[(1,.int .i64 ((k0+CL (x1.take i):Nat):Int)),(5,.int .i64 (i:Int))]) (fun (i:Nat)=>[]) (fun (i:Nat)=>i≤x1.length) (fun (i:Nat)=>x1.length - i) [(0,_)] [] ?_ sb ms ?_
 ·exact Nat.zero_le _
 rintro i hi;refine kq [0,1,5] ?_;refine s5 ?_;refine CT rfl rfl Cq.h (s2 ?_);refine kp [0,1,5,9] ?_;refine Ai rfl (fun q2=>?_) (fun q2=>?_)
 ·have hk1:i < (mks k0 x1).length:=by simpa using q2
  obtain ⟨g,o1,rfl⟩:=DP h1 hk1;obtain ⟨u,hu⟩:=Eb (show i < x1.length by omega)
  have hs:=Dy hu
  have hle:=DY x1 (i+1)
  have hu2:=KR (k:=k0) hu
  obtain ⟨b1,b2⟩:=u;simp only [EX,Cg,Ch,Cw,CI,CJ,← Nat.add_assoc] at hs hu2;obtain ⟨K,hK⟩:∃ K:Nat,k0+CL (x1.take i)=K:=⟨_,rfl⟩;rw [hK] at hu2 ⊢;refine s8 ?_;refine AI rfl rfl rfl Cq.h rfl om (s1 ?_);refine AY rfl rfl (by first | exact Ag mm | exact Br (Cells.el h1 rfl hu2)) AM.h rfl (s3 ?_);refine kp [0,1,5,18] ?_;refine Ai rfl (fun q4=>?_) (fun q4=>?_)
  ·refine s5 ?_;refine AE rfl (Ab rfl) ⟨?_,rfl⟩ ms
   exfalso;simp [Cg,Ch] at q4
  refine s4 ?_;refine Be rfl rfl rfl (Bc iR) (s2 ?_);rw [show ((K:Nat):Int)+1=((K+1:Nat):Int) from rfl];refine s5 ?_;refine AI rfl rfl rfl Cq.h rfl om (s1 ?_);refine AY rfl rfl (by first | exact Ag mm | exact Br (Cells.el h1 rfl hu2)) AM.h rfl (s3 ?_);refine kp [0,1,5,27] ?_;refine Ai rfl (fun q7=>?_) (fun q7=>?_)
  ·refine s5 ?_;refine AE rfl (Ab rfl) ⟨?_,rfl⟩ ms
   exfalso;simp [Cg,Ch] at q7
  refine s3 ?_;refine Be rfl rfl rfl (Bc iR) (s2 ?_);rw [show ((K+1:Nat):Int)+1=(((K+1)+1:Nat):Int) from rfl]
  have hE:((K+1)+1)=k0+CL (x1.take (i+1)):=by rw [hs];(try simp only [Cw,CI,CJ]);omega
  rw [hE];refine s2 ?_;refine Be rfl rfl rfl (Bc iR) (s2 ?_);refine ⟨i+1,sb,ms,?_,?_⟩
  ·show i+1≤x1.length;omega
  show x1.length - (i+1) < x1.length - i;omega
 refine BF (s6 ?_);refine AE rfl (Ab rfl) ⟨?_,rfl⟩ ms
 have hk2:(mks k0 x1).length≤i:=by simpa using q2
 rw [List.take_of_length_le om];rfl
theorem KP (t1:TL ByteArray) (k0:Nat) (hk0:0 < k0) (hb:k0+Mk.cnt t1 < 9223372036854775807):Sp 54 [t1.hdr,.int .i64 (k0:Int)] w [Af t1] (fun v M=>v=.int .i64 ((k0+Mk.cnt t1:Nat):Int)∧M=[Af (Mk.mkd k0 t1)]):=by
 obtain ⟨a1,c1,e1,x1,y1⟩:=t1;replace hb:k0+CL x1 < 9223372036854775807:=hb;dsimp only [TL.hdr];refine Spec.intro func54 rfl ntmps54 rfl ?_;refine Lp (fun w h=>II (h.prs _ (List.mem_cons_self ..))) fun hF=>?_;replace hF:x1.length≤9223372036854775807∧(0 < x1.length→∃ g,a1=some ⟨g,0,none⟩):=hF;refine s10 ?_;refine AS (M':=[Af (⟨a1,c1,e1,Cr k0 0 x1,y1⟩:TL ByteArray)]) (fun w h=>by rw [IC];exact h) ?_;refine DO (σ:=Nat) 0 (fun (i:Nat)=>[(1,.int .i64 ((k0+CL (x1.take i):Nat):Int)),(5,.int .i64 (i:Int))]) (fun (i:Nat)=>[Af (⟨a1,c1,e1,Cr k0 i x1,y1⟩:TL ByteArray)]) (fun (i:Nat)=>i≤x1.length) (fun (i:Nat)=>x1.length - i) [(0,_)] [] ?_ sb ms ?_
 ·exact Nat.zero_le _
 rintro i hi;refine kq [0,1,5] ?_;refine s5 ?_;refine CT rfl rfl Gp.h (s2 ?_);refine kp [0,1,5,9] ?_;refine Ai rfl (fun q2=>?_) (fun q2=>?_)
 ·have hk1:i < x1.length:=by simpa using q2
  obtain ⟨g,rfl⟩:=hF.2 om;obtain ⟨u,hu⟩:=Eb hk1
  have hs:=Dy hu
  have hle:=DY x1 (i+1)
  have hlh:=Hk k0 i x1
  try simp only [CI,CJ] at hs
  obtain ⟨K,hK⟩:∃ K:Nat,k0+CL (x1.take i)=K:=⟨_,rfl⟩;rw [hK];refine s8 ?_;refine Bi rfl JV.h rfl (by exact fun w hw=>Du w K om om) ?_;refine AI rfl rfl rfl Gp.h rfl om ?_;refine QT (mtx K) rfl rfl pk rfl (show ((Cr k0 i x1):List ByteArray)[i]?=some (u:ByteArray) from CW (k:=k0) hu) rfl (HA trivial) (.inr ⟨ED.h,rfl⟩) (s3 ?_);refine Be rfl rfl rfl (Bc iR) (s2 ?_);rw [show ((K:Nat):Int)+1=((K+1:Nat):Int) from rfl]
  have hfin:((Cr k0 i x1).set i (mtx K))=Cr k0 (i+1) x1:=by
   have h9:=Jz (k:=k0) hu
   rw [hK] at h9;try simp only [EX,Cg,Ch,Cw,CI,CJ,← Nat.add_assoc] at h9
   try simp only [List.set_set]
   exact h9
  refine AS (M':=Af (⟨some ⟨g,0,none⟩,c1,e1,(Cr k0 (i+1) x1),y1⟩:TL ByteArray)::_) (fun w h=>by rw [← hfin];exact h) ?_
  have hE:(K+1)=k0+CL (x1.take (i+1)):=by rw [hs];(try simp only [Cw,CI,CJ]);omega
  rw [hE];refine s2 ?_;refine Be rfl rfl rfl (Bc iR) (s2 ?_);refine ⟨i+1,sb,ms,?_,?_⟩
  ·show i+1≤x1.length;omega
  show x1.length - (i+1) < x1.length - i;omega
 refine BF (s6 ?_)
 have hk2:x1.length≤i:=by simpa using q2
 rw [Jy k0 hk2];refine AE rfl (Ab rfl) ⟨?_,rfl⟩ ms
 have hk2:x1.length≤i:=by simpa using q2
 rw [List.take_of_length_le hk2];rfl
theorem OY (t1:TL ByteArray) (k0:Nat) (hk0:0 < k0) (hb:k0+Mk.cnt t1 < 9223372036854775807) (h1:rd w [] (Mk.mkd k0 t1)):Sp 106 [(Mk.mkd k0 t1).hdr,.int .i64 (k0:Int)] w [] (IsV (.int .i64 ((k0+Mk.cnt t1:Nat):Int))):=by
 obtain ⟨a1,c1,e1,x1,y1⟩:=t1;replace hb:k0+CL x1 < 9223372036854775807:=hb
 have hml:=DQ x1 k0
 have hm1:(mks k0 x1).length≤9223372036854775807:=EQ h1
 rw [QV] at h1 ⊢;dsimp only [TL.hdr];refine Spec.intro func106 rfl ntmps106 rfl (s10 ?_);refine DO (σ:=Nat) 0 (fun (i:Nat)=>[(1,.int .i64 ((k0+CL (x1.take i):Nat):Int)),(5,.int .i64 (i:Int))]) (fun (i:Nat)=>[]) (fun (i:Nat)=>i≤x1.length) (fun (i:Nat)=>x1.length - i) [(0,_)] [] ?_ sb ms ?_
 ·exact Nat.zero_le _
 rintro i hi;refine kq [0,1,5] ?_;refine s5 ?_;refine CT rfl rfl Gp.h (s2 ?_);refine kp [0,1,5,9] ?_;refine Ai rfl (fun q2=>?_) (fun q2=>?_)
 ·have hk1:i < (mks k0 x1).length:=by simpa using q2
  obtain ⟨g,o1,rfl⟩:=DP h1 hk1;obtain ⟨u,hu⟩:=Eb (show i < x1.length by omega)
  have hs:=Dy hu
  have hle:=DY x1 (i+1)
  have hu2:=KR (k:=k0) hu
  try simp only [CI,CJ] at hs
  obtain ⟨K,hK⟩:∃ K:Nat,k0+CL (x1.take i)=K:=⟨_,rfl⟩;rw [hK] at hu2 ⊢;refine s5 ?_;refine BX [18] mix kr rfl (s2 ?_);refine Db _ Ar (Aj rfl) (Aj rfl) Gp.h (fun hg=>⟨rfl,by (try dsimp only);omega⟩) ?_;refine Gq Ar (Aj rfl) (fun hg=>(by first | exact Ag mm | exact Br (Cells.el h1 rfl hu2))) ED.h rfl (s1 ?_);refine AZ Ar JV.h (Ah (Aj rfl) (AF)) (by exact fun hg w F hF hM=>(fun w hw=>Du w K om om) w hF) (s10 ?_);refine kp [0,1,5,18] ?_;refine Ai rfl (fun q4=>?_) (fun q4=>?_)
  ·refine s5 ?_;refine AE rfl (Ab rfl) ⟨?_,rfl⟩ ms
   exfalso;simp [Cg,Ch] at q4
  refine s3 ?_;refine Be rfl rfl rfl (Bc iR) (s2 ?_);rw [show ((K:Nat):Int)+1=((K+1:Nat):Int) from rfl]
  have hE:(K+1)=k0+CL (x1.take (i+1)):=by rw [hs];(try simp only [Cw,CI,CJ]);omega
  rw [hE];refine s2 ?_;refine Be rfl rfl rfl (Bc iR) (s2 ?_);refine ⟨i+1,sb,ms,?_,?_⟩
  ·show i+1≤x1.length;omega
  show x1.length - (i+1) < x1.length - i;omega
 refine BF (s6 ?_);refine AE rfl (Ab rfl) ⟨?_,rfl⟩ ms
 have hk2:(mks k0 x1).length≤i:=by simpa using q2
 rw [List.take_of_length_le om];rfl
set_option maxHeartbeats 2000000
instance iP:FnF prog 54:=⟨_,func54,kr,rfl⟩
instance cQ:FnF prog 103:=⟨_,func103,kr,rfl⟩
instance cR:FnF prog 100:=⟨_,func100,kr,rfl⟩
instance cS:FnF prog 154:=⟨_,func154,kr,rfl⟩
instance rS:FnF prog 189:=⟨_,func189,kr,rfl⟩
instance jS:FnF prog 106:=⟨_,func106,kr,rfl⟩
instance cT:FnF prog 107:=⟨_,func107,kr,rfl⟩
theorem ZA (t1 t2:Av) (h1:rd w [] t1) (h2:rd w [] t2):Sp 189 [.agg (cells t1).toArray,.agg (cells t2).toArray] w [] (IsV (.bool (eqB (dat t1) (dat t2)))):=by
 obtain ⟨⟨a0,a1⟩,a2,a3,a4,⟨a5,a9,aa,ab,ac,ad,ae,af⟩,a6,a7,a8⟩:=t1;obtain ⟨⟨b11,b12⟩,b2,b3,b4,⟨b51,b52,b53,b54,b55,b56,b57,b58⟩,b6,b7,b8⟩:=t2;change Spec _ _ [Value.agg #[.int .i64 a0,.int .i64 a1,.int .i64 a2,.int .i64 a3,.int .i64 a4,.int .i64 a5,.int .i64 a9,.int .i64 aa,.string ab,.string ac,.string ad,.int .i64 ae,af.hdr,.int .i64 a6,a7.hdr,.bool a8],Value.agg #[.int .i64 b11,.int .i64 b12,.int .i64 b2,.int .i64 b3,.int .i64 b4,.int .i64 b51,.int .i64 b52,.int .i64 b53,.string b54,.string b55,.string b56,.int .i64 b57,b58.hdr,.int .i64 b6,b7.hdr,.bool b8]].toArray w [] _;refine Spec.intro func189 rfl ntmps189 rfl (s2 ?_);refine bx fun aj=>?_;refine bx fun ak=>?_;refine s6 ?_;refine AW rfl rfl (AT (by exact Ag mm) 0 2 rfl) (by exact Bp.h) (s1 ?_);refine AW rfl rfl (AT (by exact Ag mm) 0 2 rfl) (by exact Bp.h) ?_;refine Bi rfl YW.h rfl (by exact fun w hw=>Nn w (a0,a1) (b11,b12) (BG (h1.1) hw) (BG (h2.1) hw)) (s2 ?_);refine kp [2,3,10] ?_;refine Ai rfl (fun q1=>?_) (fun q1=>?_)
 ·refine s5 ?_;refine AE rfl (Ab rfl) ⟨?_,rfl⟩ ms;clear h1 h2;exact eqx
 refine s5 ?_;refine AY rfl rfl (by exact Ag mm) AM.h rfl (s1 ?_);refine AY rfl rfl (by exact Ag mm) AM.h rfl (s2 ?_);refine kp [2,3,15] ?_;refine Ai rfl (fun q3=>?_) (fun q3=>?_)
 ·refine s5 ?_;refine AE rfl (Ab rfl) ⟨?_,rfl⟩ ms;clear h1 h2;exact eqx
 refine s5 ?_;refine AY rfl rfl (by exact Ag mm) AM.h rfl (s1 ?_);refine AY rfl rfl (by exact Ag mm) AM.h rfl (s2 ?_);refine kp [2,3,20] ?_;refine Ai rfl (fun q5=>?_) (fun q5=>?_)
 ·refine s5 ?_;refine AE rfl (Ab rfl) ⟨?_,rfl⟩ ms;clear h1 h2;exact eqx
 refine s5 ?_;refine AY rfl rfl (by exact Ag mm) AM.h rfl (s1 ?_);refine AY rfl rfl (by exact Ag mm) AM.h rfl (s2 ?_);refine kp [2,3,25] ?_;refine Ai rfl (fun q7=>?_) (fun q7=>?_)
 ·refine s5 ?_;refine AE rfl (Ab rfl) ⟨?_,rfl⟩ ms;clear h1 h2;exact eqx
 refine s5 ?_;refine AW rfl rfl (AT (by exact Ag mm) 5 8 rfl) (by exact CS.h) (s1 ?_);refine AW rfl rfl (AT (by exact Ag mm) 5 8 rfl) (by exact CS.h) ?_;refine Bi rfl cR.h rfl (by exact fun w hw=>RK w (a5,a9,aa,ab,ac,ad,ae,af) (b51,b52,b53,b54,b55,b56,b57,b58) (BG (h1.2.2.2.2.1) hw) (BG (h2.2.2.2.2.1) hw)) (s2 ?_);refine kp [2,3,31] ?_;refine Ai rfl (fun q9=>?_) (fun q9=>?_)
 ·refine s5 ?_;refine AE rfl (Ab rfl) ⟨?_,rfl⟩ ms;clear h1 h2;exact eqx
 refine s5 ?_;refine AY rfl rfl (by exact Ag mm) AM.h rfl (s1 ?_);refine AY rfl rfl (by exact Ag mm) AM.h rfl (s2 ?_);refine kp [2,3,36] ?_;refine Ai rfl (fun ag=>?_) (fun ag=>?_)
 ·refine s5 ?_;refine AE rfl (Ab rfl) ⟨?_,rfl⟩ ms;clear h1 h2;exact eqx
 refine s5 ?_;refine AY rfl rfl (by exact Ag mm) FZ.h rfl (s1 ?_);refine AY rfl rfl (by exact Ag mm) FZ.h rfl ?_;refine Bi rfl cS.h rfl (by exact fun w hw=>RJ w _ _ (BG (h1.2.2.2.2.2.2.1) hw) (BG (h2.2.2.2.2.2.2.1) hw)) (s2 ?_);refine kp [2,3,42] ?_;refine Ai rfl (fun ah=>?_) (fun ah=>?_)
 ·refine s5 ?_;refine AE rfl (Ab rfl) ⟨?_,rfl⟩ ms;clear h1 h2;exact eqx
 refine s5 ?_;refine AY rfl rfl (by exact Ag mm) HH.h rfl (s1 ?_);refine AY rfl rfl (by exact Ag mm) HH.h rfl (s2 ?_);refine kp [47] ?_;refine Ai rfl (fun ai=>?_) (fun ai=>?_)
 ·refine s5 ?_;refine AE rfl (Ab rfl) ⟨?_,rfl⟩ ms;clear h1 h2;exact eqx
 refine s6 ?_;refine AE rfl (Ab rfl) ⟨?_,rfl⟩ ms;clear h1 h2;exact eqx
theorem YX (t1 t2:TL Av) (h1:rd w [] t1) (h2:rd w [] t2):Sp 152 [t1.hdr,t2.hdr] w [] (IsV (.bool (eqB (dat t1) (dat t2)))):=by
 obtain ⟨a1,c1,e1,x1,y1⟩:=t1;obtain ⟨a2,c2,e2,x2,y2⟩:=t2
 have hm1:x1.length≤9223372036854775807:=EQ h1
 have hm2:x2.length≤9223372036854775807:=EQ h2
 dsimp only [TL.hdr];refine Spec.intro func152 rfl ntmps152 rfl (s8 ?_);refine CT rfl rfl CG.h (s1 ?_);refine CT rfl rfl CG.h (s2 ?_);refine kp [0,1,10] ?_;refine Ai rfl (fun q1=>?_) (fun q1=>?_)
 ·refine s5 ?_;refine AE rfl (Ab rfl) ⟨?_,rfl⟩ ms;refine congrArg Value.bool (Eq.symm (DT.2 fun e=>?_));simp at q1;exact q1 (by have:=congrArg List.length e;simp [Ln] at this;omega)
 have hl:x1.length=x2.length:=by simp at q1;omega
 refine s7 ?_;refine DO (σ:=Nat) 0 (fun (k:Nat)=>[(5,.int .i64 (k:Int))]) (fun (k:Nat)=>[]) (fun (k:Nat)=>k≤x1.length∧(x1.map dat).take k=(x2.map dat).take k) (fun (k:Nat)=>x1.length - k) [(0,_),(1,_)] [] ?_ sb ms ?_
 ·exact ⟨Nat.zero_le _,rfl⟩
 rintro k ⟨hk,ht⟩;refine kq [0,1,5] ?_;refine s5 ?_;refine CT rfl rfl CG.h (s2 ?_);refine kp [0,1,5,14] ?_;refine Ai rfl (fun q4=>?_) (fun q4=>?_)
 ·have hk1:k < x1.length:=by simpa using q4
  obtain ⟨g1,o1,rfl⟩:=DP h1 hk1;obtain ⟨g2,o2,rfl⟩:=DP (k:=k) h2 (show k < x2.length by omega);obtain ⟨u1,hu1⟩:=Eb hk1;obtain ⟨u2,hu2⟩:=Eb (show k < x2.length by omega);refine s4 ?_;refine BX [26] mix kr rfl (s2 ?_);refine Db _ Ar (Aj rfl) (Aj rfl) CG.h (fun hg=>⟨rfl,by (try dsimp only);omega⟩) ?_;refine Bq Ar (Aj rfl) (fun hg=>(by first | exact Ag mm | exact Br (Cells.el h1 rfl hu1) | exact Br (Cells.el h2 rfl hu2))) (by exact DK.h) (s2 ?_);refine Db _ Ar (Aj rfl) (Aj rfl) CG.h (fun hg=>⟨rfl,by (try dsimp only);omega⟩) ?_;refine Bq Ar (Aj rfl) (fun hg=>(by first | exact Ag mm | exact Br (Cells.el h1 rfl hu1) | exact Br (Cells.el h2 rfl hu2))) (by exact DK.h) ?_;refine AZ Ar rS.h (Ah (Aj rfl) (Ah (Aj rfl) (AF))) (by exact fun hg w F hF hM=>(fun w hw=>ZA w _ _ (BG (h1.2.2.1 _ (List.mem_of_getElem? hu1)) hw) (BG (h2.2.2.1 _ (List.mem_of_getElem? hu2)) hw)) w hF) (s13 ?_);refine kp [0,1,5,26] ?_;refine Ai rfl (fun q6=>?_) (fun q6=>?_)
  ·refine s5 ?_;refine AE rfl (Ab rfl) ⟨?_,rfl⟩ ms;refine congrArg Value.bool (Eq.symm (DT.2 fun e=>?_));simp at q6;replace e:x1.map dat=x2.map dat:=e
   have e2:=congrArg (fun l=>l[k]?) e
   simp only [List.getElem?_map,hu1,hu2,Option.map_some,Option.some.injEq] at e2;exact q6 (by simpa [DU,Ee,DD] using e2)
  refine s3 ?_;refine Be rfl rfl rfl (Bc iR) (s2 ?_);refine ⟨k+1,sb,ms,?_,?_⟩
  ·exact ⟨by omega,GE ht (by rw [List.getElem?_map,hu1];rfl) (by rw [List.getElem?_map,hu2];rfl) (by simpa [DU,Ee,DD] using q6)⟩
  (try dsimp only);omega
 refine BF (s5 ?_);refine AE rfl (Ab rfl) ⟨?_,rfl⟩ ms;refine congrArg Value.bool (Eq.symm (Fj.2 ?_))
 have hk2:x1.length≤k:=by simpa using q4
 have h3:=ht
 rw [List.take_of_length_le (by simp;omega),List.take_of_length_le (by simp;omega)] at h3;exact h3
set_option maxHeartbeats 4000000 in
theorem VU (t1:TL Av) (k0:Nat) (hk0:0 < k0) (hb:k0+Mk.cnt t1 < 9223372036854775807):Sp 101 [t1.hdr,.int .i64 (k0:Int)] w [Af t1] (fun v M=>v=.int .i64 ((k0+Mk.cnt t1:Nat):Int)∧M=[Af (Mk.mkd k0 t1)]):=by
 obtain ⟨a1,c1,e1,x1,y1⟩:=t1;replace hb:k0+CL x1 < 9223372036854775807:=hb;dsimp only [TL.hdr];refine Spec.intro func101 rfl ntmps101 rfl ?_;refine Lp (fun w h=>II (h.prs _ (List.mem_cons_self ..))) fun hF=>?_;replace hF:x1.length≤9223372036854775807∧(0 < x1.length→∃ g,a1=some ⟨g,0,none⟩):=hF;refine s10 ?_;refine AS (M':=[Af (⟨a1,c1,e1,Cr k0 0 x1,y1⟩:TL Av)]) (fun w h=>by rw [IC];exact h) ?_;refine DO (σ:=Nat) 0 (fun (i:Nat)=>[(1,.int .i64 ((k0+CL (x1.take i):Nat):Int)),(5,.int .i64 (i:Int))]) (fun (i:Nat)=>[Af (⟨a1,c1,e1,Cr k0 i x1,y1⟩:TL Av)]) (fun (i:Nat)=>i≤x1.length) (fun (i:Nat)=>x1.length - i) [(0,_)] [] ?_ sb ms ?_
 ·exact Nat.zero_le _
 rintro i hi;refine kq [0,1,5] ?_;refine s5 ?_;refine CT rfl rfl CG.h (s2 ?_);refine kp [0,1,5,9] ?_;refine Ai rfl (fun q2=>?_) (fun q2=>?_)
 ·have hk1:i < x1.length:=by simpa using q2
  obtain ⟨g,rfl⟩:=hF.2 om;obtain ⟨u,hu⟩:=Eb hk1
  have hs:=Dy hu
  have hle:=DY x1 (i+1)
  have hlh:=Hk k0 i x1
  obtain ⟨⟨b11,b12⟩,b2,b3,b4,⟨b51,b52,b53,b54,b55,b56,b57,b58⟩,b6,b7,b8⟩:=u;simp only [Cw,CI,CJ,Et] at hs;obtain ⟨K,hK⟩:∃ K:Nat,k0+CL (x1.take i)=K:=⟨_,rfl⟩;rw [hK];rw [← MD (CW (k:=k0) hu)];refine s8 ?_;refine AI rfl rfl rfl CG.h rfl om (s2 ?_);refine BN (fo:=0) (x':=(((((K:Nat):Int),b12),b2,b3,b4,(b51,b52,b53,b54,b55,b56,b57,b58),b6,b7,b8):Av)) rfl rfl pk rfl om (fun w h=>by exact ⟨⟨(by exact trivial),h.1.2⟩,h.2.1,h.2.2.1,h.2.2.2.1,⟨h.2.2.2.2.1.1,h.2.2.2.2.1.2.1,h.2.2.2.2.1.2.2.1,h.2.2.2.2.1.2.2.2.1,h.2.2.2.2.1.2.2.2.2.1,h.2.2.2.2.1.2.2.2.2.2.1,h.2.2.2.2.1.2.2.2.2.2.2.1,h.2.2.2.2.1.2.2.2.2.2.2.2⟩,h.2.2.2.2.2.1,h.2.2.2.2.2.2.1,h.2.2.2.2.2.2.2⟩) AM.h (s4 ?_);refine Be rfl rfl rfl (Bc iR) (s2 ?_);rw [show ((K:Nat):Int)+1=((K+1:Nat):Int) from rfl];refine s5 ?_;refine AI rfl rfl rfl CG.h rfl om (s2 ?_);refine BN (fo:=1) (x':=(((((K:Nat):Int),((K+1:Nat):Int)),b2,b3,b4,(b51,b52,b53,b54,b55,b56,b57,b58),b6,b7,b8):Av)) rfl rfl pk rfl om (fun w h=>by exact ⟨⟨h.1.1,(by exact trivial)⟩,h.2.1,h.2.2.1,h.2.2.2.1,⟨h.2.2.2.2.1.1,h.2.2.2.2.1.2.1,h.2.2.2.2.1.2.2.1,h.2.2.2.2.1.2.2.2.1,h.2.2.2.2.1.2.2.2.2.1,h.2.2.2.2.1.2.2.2.2.2.1,h.2.2.2.2.1.2.2.2.2.2.2.1,h.2.2.2.2.1.2.2.2.2.2.2.2⟩,h.2.2.2.2.2.1,h.2.2.2.2.2.2.1,h.2.2.2.2.2.2.2⟩) AM.h (s4 ?_);refine Be rfl rfl rfl (Bc iR) (s2 ?_);rw [show ((K+1:Nat):Int)+1=((K+2:Nat):Int) from rfl];refine s5 ?_;refine AI rfl rfl rfl CG.h rfl om (s1 ?_);refine BN (fo:=2) (x':=(((((K:Nat):Int),((K+1:Nat):Int)),((K+2:Nat):Int),b3,b4,(b51,b52,b53,b54,b55,b56,b57,b58),b6,b7,b8):Av)) rfl rfl pk rfl om (fun w h=>by exact ⟨⟨h.1.1,h.1.2⟩,(by exact trivial),h.2.2.1,h.2.2.2.1,⟨h.2.2.2.2.1.1,h.2.2.2.2.1.2.1,h.2.2.2.2.1.2.2.1,h.2.2.2.2.1.2.2.2.1,h.2.2.2.2.1.2.2.2.2.1,h.2.2.2.2.1.2.2.2.2.2.1,h.2.2.2.2.1.2.2.2.2.2.2.1,h.2.2.2.2.1.2.2.2.2.2.2.2⟩,h.2.2.2.2.2.1,h.2.2.2.2.2.2.1,h.2.2.2.2.2.2.2⟩) AM.h (s4 ?_);refine Be rfl rfl rfl (Bc iR) (s2 ?_);rw [show ((K+2:Nat):Int)+1=((K+3:Nat):Int) from rfl];refine s5 ?_;refine AI rfl rfl rfl CG.h rfl om (s1 ?_);refine BN (fo:=3) (x':=(((((K:Nat):Int),((K+1:Nat):Int)),((K+2:Nat):Int),((K+3:Nat):Int),b4,(b51,b52,b53,b54,b55,b56,b57,b58),b6,b7,b8):Av)) rfl rfl pk rfl om (fun w h=>by exact ⟨⟨h.1.1,h.1.2⟩,h.2.1,(by exact trivial),h.2.2.2.1,⟨h.2.2.2.2.1.1,h.2.2.2.2.1.2.1,h.2.2.2.2.1.2.2.1,h.2.2.2.2.1.2.2.2.1,h.2.2.2.2.1.2.2.2.2.1,h.2.2.2.2.1.2.2.2.2.2.1,h.2.2.2.2.1.2.2.2.2.2.2.1,h.2.2.2.2.1.2.2.2.2.2.2.2⟩,h.2.2.2.2.2.1,h.2.2.2.2.2.2.1,h.2.2.2.2.2.2.2⟩) AM.h (s4 ?_);refine Be rfl rfl rfl (Bc iR) (s2 ?_);rw [show ((K+3:Nat):Int)+1=((K+4:Nat):Int) from rfl];refine s5 ?_;refine AI rfl rfl rfl CG.h rfl om (s1 ?_);refine BN (fo:=4) (x':=(((((K:Nat):Int),((K+1:Nat):Int)),((K+2:Nat):Int),((K+3:Nat):Int),((K+4:Nat):Int),(b51,b52,b53,b54,b55,b56,b57,b58),b6,b7,b8):Av)) rfl rfl pk rfl om (fun w h=>by exact ⟨⟨h.1.1,h.1.2⟩,h.2.1,h.2.2.1,(by exact trivial),⟨h.2.2.2.2.1.1,h.2.2.2.2.1.2.1,h.2.2.2.2.1.2.2.1,h.2.2.2.2.1.2.2.2.1,h.2.2.2.2.1.2.2.2.2.1,h.2.2.2.2.1.2.2.2.2.2.1,h.2.2.2.2.1.2.2.2.2.2.2.1,h.2.2.2.2.1.2.2.2.2.2.2.2⟩,h.2.2.2.2.2.1,h.2.2.2.2.2.2.1,h.2.2.2.2.2.2.2⟩) AM.h (s4 ?_);refine Be rfl rfl rfl (Bc iR) (s2 ?_);rw [show ((K+4:Nat):Int)+1=((K+5:Nat):Int) from rfl];refine s5 ?_;refine AI rfl rfl rfl CG.h rfl om (s2 ?_);refine BN (fo:=5) (x':=(((((K:Nat):Int),((K+1:Nat):Int)),((K+2:Nat):Int),((K+3:Nat):Int),((K+4:Nat):Int),(((K+5:Nat):Int),b52,b53,b54,b55,b56,b57,b58),b6,b7,b8):Av)) rfl rfl pk rfl om (fun w h=>by exact ⟨⟨h.1.1,h.1.2⟩,h.2.1,h.2.2.1,h.2.2.2.1,⟨(by exact trivial),h.2.2.2.2.1.2.1,h.2.2.2.2.1.2.2.1,h.2.2.2.2.1.2.2.2.1,h.2.2.2.2.1.2.2.2.2.1,h.2.2.2.2.1.2.2.2.2.2.1,h.2.2.2.2.1.2.2.2.2.2.2.1,h.2.2.2.2.1.2.2.2.2.2.2.2⟩,h.2.2.2.2.2.1,h.2.2.2.2.2.2.1,h.2.2.2.2.2.2.2⟩) AM.h (s4 ?_);refine Be rfl rfl rfl (Bc iR) (s2 ?_);rw [show ((K+5:Nat):Int)+1=((K+6:Nat):Int) from rfl];refine s5 ?_;refine AI rfl rfl rfl CG.h rfl om (s2 ?_);refine BN (fo:=6) (x':=(((((K:Nat):Int),((K+1:Nat):Int)),((K+2:Nat):Int),((K+3:Nat):Int),((K+4:Nat):Int),(((K+5:Nat):Int),((K+6:Nat):Int),b53,b54,b55,b56,b57,b58),b6,b7,b8):Av)) rfl rfl pk rfl om (fun w h=>by exact ⟨⟨h.1.1,h.1.2⟩,h.2.1,h.2.2.1,h.2.2.2.1,⟨h.2.2.2.2.1.1,(by exact trivial),h.2.2.2.2.1.2.2.1,h.2.2.2.2.1.2.2.2.1,h.2.2.2.2.1.2.2.2.2.1,h.2.2.2.2.1.2.2.2.2.2.1,h.2.2.2.2.1.2.2.2.2.2.2.1,h.2.2.2.2.1.2.2.2.2.2.2.2⟩,h.2.2.2.2.2.1,h.2.2.2.2.2.2.1,h.2.2.2.2.2.2.2⟩) AM.h (s4 ?_);refine Be rfl rfl rfl (Bc iR) (s2 ?_);rw [show ((K+6:Nat):Int)+1=((K+7:Nat):Int) from rfl];refine s5 ?_;refine AI rfl rfl rfl CG.h rfl om (s2 ?_);refine BN (fo:=7) (x':=(((((K:Nat):Int),((K+1:Nat):Int)),((K+2:Nat):Int),((K+3:Nat):Int),((K+4:Nat):Int),(((K+5:Nat):Int),((K+6:Nat):Int),((K+7:Nat):Int),b54,b55,b56,b57,b58),b6,b7,b8):Av)) rfl rfl pk rfl om (fun w h=>by exact ⟨⟨h.1.1,h.1.2⟩,h.2.1,h.2.2.1,h.2.2.2.1,⟨h.2.2.2.2.1.1,h.2.2.2.2.1.2.1,(by exact trivial),h.2.2.2.2.1.2.2.2.1,h.2.2.2.2.1.2.2.2.2.1,h.2.2.2.2.1.2.2.2.2.2.1,h.2.2.2.2.1.2.2.2.2.2.2.1,h.2.2.2.2.1.2.2.2.2.2.2.2⟩,h.2.2.2.2.2.1,h.2.2.2.2.2.2.1,h.2.2.2.2.2.2.2⟩) AM.h (s4 ?_);refine Be rfl rfl rfl (Bc iR) (s2 ?_);rw [show ((K+7:Nat):Int)+1=((K+8:Nat):Int) from rfl];refine s5 ?_;refine Bi rfl JV.h rfl (by exact fun w hw=>Du w (K+8) om om) ?_;refine AI rfl rfl rfl CG.h rfl om (s2 ?_);refine BN (fo:=8) (x':=(((((K:Nat):Int),((K+1:Nat):Int)),((K+2:Nat):Int),((K+3:Nat):Int),((K+4:Nat):Int),(((K+5:Nat):Int),((K+6:Nat):Int),((K+7:Nat):Int),(mtx (K+8)),b55,b56,b57,b58),b6,b7,b8):Av)) rfl rfl pk rfl om (fun w h=>by exact ⟨⟨h.1.1,h.1.2⟩,h.2.1,h.2.2.1,h.2.2.2.1,⟨h.2.2.2.2.1.1,h.2.2.2.2.1.2.1,h.2.2.2.2.1.2.2.1,(by exact trivial),h.2.2.2.2.1.2.2.2.2.1,h.2.2.2.2.1.2.2.2.2.2.1,h.2.2.2.2.1.2.2.2.2.2.2.1,h.2.2.2.2.1.2.2.2.2.2.2.2⟩,h.2.2.2.2.2.1,h.2.2.2.2.2.2.1,h.2.2.2.2.2.2.2⟩) ED.h (s4 ?_);refine Be rfl rfl rfl (Bc iR) (s2 ?_);rw [show ((K+8:Nat):Int)+1=((K+9:Nat):Int) from rfl];refine s5 ?_;refine Bi rfl JV.h rfl (by exact fun w hw=>Du w (K+9) om om) ?_;refine AI rfl rfl rfl CG.h rfl om (s2 ?_);refine BN (fo:=9) (x':=(((((K:Nat):Int),((K+1:Nat):Int)),((K+2:Nat):Int),((K+3:Nat):Int),((K+4:Nat):Int),(((K+5:Nat):Int),((K+6:Nat):Int),((K+7:Nat):Int),(mtx (K+8)),(mtx (K+9)),b56,b57,b58),b6,b7,b8):Av)) rfl rfl pk rfl om (fun w h=>by exact ⟨⟨h.1.1,h.1.2⟩,h.2.1,h.2.2.1,h.2.2.2.1,⟨h.2.2.2.2.1.1,h.2.2.2.2.1.2.1,h.2.2.2.2.1.2.2.1,h.2.2.2.2.1.2.2.2.1,(by exact trivial),h.2.2.2.2.1.2.2.2.2.2.1,h.2.2.2.2.1.2.2.2.2.2.2.1,h.2.2.2.2.1.2.2.2.2.2.2.2⟩,h.2.2.2.2.2.1,h.2.2.2.2.2.2.1,h.2.2.2.2.2.2.2⟩) ED.h (s4 ?_);refine Be rfl rfl rfl (Bc iR) (s2 ?_);rw [show ((K+9:Nat):Int)+1=((K+10:Nat):Int) from rfl];refine s5 ?_;refine Bi rfl JV.h rfl (by exact fun w hw=>Du w (K+10) om om) ?_;refine AI rfl rfl rfl CG.h rfl om (s2 ?_);refine BN (fo:=10) (x':=(((((K:Nat):Int),((K+1:Nat):Int)),((K+2:Nat):Int),((K+3:Nat):Int),((K+4:Nat):Int),(((K+5:Nat):Int),((K+6:Nat):Int),((K+7:Nat):Int),(mtx (K+8)),(mtx (K+9)),(mtx (K+10)),b57,b58),b6,b7,b8):Av)) rfl rfl pk rfl om (fun w h=>by exact ⟨⟨h.1.1,h.1.2⟩,h.2.1,h.2.2.1,h.2.2.2.1,⟨h.2.2.2.2.1.1,h.2.2.2.2.1.2.1,h.2.2.2.2.1.2.2.1,h.2.2.2.2.1.2.2.2.1,h.2.2.2.2.1.2.2.2.2.1,(by exact trivial),h.2.2.2.2.1.2.2.2.2.2.2.1,h.2.2.2.2.1.2.2.2.2.2.2.2⟩,h.2.2.2.2.2.1,h.2.2.2.2.2.2.1,h.2.2.2.2.2.2.2⟩) ED.h (s4 ?_);refine Be rfl rfl rfl (Bc iR) (s2 ?_);rw [show ((K+10:Nat):Int)+1=((K+11:Nat):Int) from rfl];refine s5 ?_;refine AI rfl rfl rfl CG.h rfl om (s2 ?_);refine BN (fo:=11) (x':=(((((K:Nat):Int),((K+1:Nat):Int)),((K+2:Nat):Int),((K+3:Nat):Int),((K+4:Nat):Int),(((K+5:Nat):Int),((K+6:Nat):Int),((K+7:Nat):Int),(mtx (K+8)),(mtx (K+9)),(mtx (K+10)),((K+11:Nat):Int),b58),b6,b7,b8):Av)) rfl rfl pk rfl om (fun w h=>by exact ⟨⟨h.1.1,h.1.2⟩,h.2.1,h.2.2.1,h.2.2.2.1,⟨h.2.2.2.2.1.1,h.2.2.2.2.1.2.1,h.2.2.2.2.1.2.2.1,h.2.2.2.2.1.2.2.2.1,h.2.2.2.2.1.2.2.2.2.1,h.2.2.2.2.1.2.2.2.2.2.1,(by exact trivial),h.2.2.2.2.1.2.2.2.2.2.2.2⟩,h.2.2.2.2.2.1,h.2.2.2.2.2.2.1,h.2.2.2.2.2.2.2⟩) AM.h (s4 ?_);refine Be rfl rfl rfl (Bc iR) (s2 ?_);rw [show ((K+11:Nat):Int)+1=((K+12:Nat):Int) from rfl];refine s4 ?_;refine AI rfl rfl rfl CG.h rfl om (s2 ?_);refine AY (fo:=12) rfl rfl (by exact Lj (L:=(⟨some ⟨g,0,none⟩,c1,e1,((Cr k0 i x1).set i (((((K:Nat):Int),((K+1:Nat):Int)),((K+2:Nat):Int),((K+3:Nat):Int),((K+4:Nat):Int),(((K+5:Nat):Int),((K+6:Nat):Int),((K+7:Nat):Int),(mtx (K+8)),(mtx (K+9)),(mtx (K+10)),((K+11:Nat):Int),b58),b6,b7,b8):Av)),y1⟩:TL Av)) mm rfl (DW (CW (k:=k0) hu))) MH.h rfl (s1 ?_);refine AA (fun w h=>Lo (L:=(⟨some ⟨g,0,none⟩,c1,e1,((Cr k0 i x1).set i (((((K:Nat):Int),((K+1:Nat):Int)),((K+2:Nat):Int),((K+3:Nat):Int),((K+4:Nat):Int),(((K+5:Nat):Int),((K+6:Nat):Int),((K+7:Nat):Int),(mtx (K+8)),(mtx (K+9)),(mtx (K+10)),((K+11:Nat):Int),b58),b6,b7,b8):Av)),y1⟩:TL Av)) (DW (CW (k:=k0) hu)) (Bt pk h)) ?_;refine AA (fun _=>Bx) ?_;refine AA (fun _=>Bt (Pick.there _ (Pick.here _))) ?_;refine AA (fun _=>Bx) ?_;refine AA (fun _=>Bt (Pick.there _ (Pick.here _))) ?_;refine AA (fun _=>Bx) ?_;refine AA (fun _=>Bt (Pick.there _ (Pick.here _))) ?_;refine AA (fun _=>Bx) ?_;refine AA (fun _=>Bt (Pick.there _ (Pick.here _))) ?_;refine AA (fun _=>Bx) ?_;refine AA (fun _=>Bx) ?_;refine AA (fun _=>Bt (Pick.there _ (Pick.here _))) ?_;refine AA (fun _=>Bx) ?_;refine AA (fun _=>Bt (Pick.there _ (Pick.here _))) ?_;refine AA (fun _=>Bx) ?_;refine AA (fun _=>Bt (Pick.there _ (Pick.here _))) ?_;refine AA (fun _=>Bx) ?_;refine AA (fun _=>Bt (Pick.there _ (Pick.here _))) ?_;refine AA (fun _=>Bx) ?_;refine AA (fun _=>Bt (Pick.there _ (Pick.here _))) ?_;refine AA (fun _=>Bx) ?_;refine AA (fun _=>Bt (Pick.there _ (Pick.here _))) ?_;refine AA (fun _=>Bx) ?_;refine AA (fun _=>Bt (Pick.there _ (Pick.here _))) ?_;refine Hr rfl iP.h rfl (Pick.here _) (by exact fun w hw=>KP w b58 (K+12) om om) ?_;rintro v M1 ⟨hv,rfl⟩;subst hv;simp only [List.cons_append,List.nil_append];refine AA (fun _=>BS (Pick.here _)) ?_;refine AA (fun _=>BS (Pick.here _)) ?_;refine AA (fun _=>BS (Pick.here _)) ?_;refine AA (fun _=>BS (Pick.here _)) ?_;refine AA (fun _=>BS (Pick.here _)) ?_;refine AA (fun _=>BS (Pick.here _)) ?_;refine AA (fun _=>BS (Pick.here _)) ?_;refine AA (fun _=>ID (Pick.here _)) ?_;refine AA (fun _=>BS (Pick.here _)) ?_;refine AA (fun _=>BS (Pick.here _)) ?_;refine AA (fun _=>BS (Pick.here _)) ?_;refine AA (fun _=>BS (Pick.here _)) ?_;refine AA (M':=Af (⟨some ⟨g,0,none⟩,c1,e1,(((Cr k0 i x1).set i (((((K:Nat):Int),((K+1:Nat):Int)),((K+2:Nat):Int),((K+3:Nat):Int),((K+4:Nat):Int),(((K+5:Nat):Int),((K+6:Nat):Int),((K+7:Nat):Int),(mtx (K+8)),(mtx (K+9)),(mtx (K+10)),((K+11:Nat):Int),b58),b6,b7,b8):Av)).set i (((((K:Nat):Int),((K+1:Nat):Int)),((K+2:Nat):Int),((K+3:Nat):Int),((K+4:Nat):Int),(((K+5:Nat):Int),((K+6:Nat):Int),((K+7:Nat):Int),(mtx (K+8)),(mtx (K+9)),(mtx (K+10)),((K+11:Nat):Int),(Mk.mkd (K+12) b58)),b6,b7,b8):Av)),y1⟩:TL Av)::_) (fun w h=>NG (L:=(⟨some ⟨g,0,none⟩,c1,e1,((Cr k0 i x1).set i (((((K:Nat):Int),((K+1:Nat):Int)),((K+2:Nat):Int),((K+3:Nat):Int),((K+4:Nat):Int),(((K+5:Nat):Int),((K+6:Nat):Int),((K+7:Nat):Int),(mtx (K+8)),(mtx (K+9)),(mtx (K+10)),((K+11:Nat):Int),b58),b6,b7,b8):Av)),y1⟩:TL Av)) (DW (CW (k:=k0) hu)) (by simp only [CA,Gy]) h) ?_;rw [List.set_set];refine s7 ?_;refine AI rfl rfl rfl CG.h rfl om (s1 ?_);refine BN (fo:=13) (x':=(((((K:Nat):Int),((K+1:Nat):Int)),((K+2:Nat):Int),((K+3:Nat):Int),((K+4:Nat):Int),(((K+5:Nat):Int),((K+6:Nat):Int),((K+7:Nat):Int),(mtx (K+8)),(mtx (K+9)),(mtx (K+10)),((K+11:Nat):Int),(Mk.mkd (K+12) b58)),((((K+12)+Mk.cnt b58):Nat):Int),b7,b8):Av)) rfl rfl pk rfl om (fun w h=>by exact ⟨⟨h.1.1,h.1.2⟩,h.2.1,h.2.2.1,h.2.2.2.1,⟨h.2.2.2.2.1.1,h.2.2.2.2.1.2.1,h.2.2.2.2.1.2.2.1,h.2.2.2.2.1.2.2.2.1,h.2.2.2.2.1.2.2.2.2.1,h.2.2.2.2.1.2.2.2.2.2.1,h.2.2.2.2.1.2.2.2.2.2.2.1,h.2.2.2.2.1.2.2.2.2.2.2.2⟩,(by exact trivial),h.2.2.2.2.2.2.1,h.2.2.2.2.2.2.2⟩) AM.h (s4 ?_);refine Be rfl rfl rfl (Bc iR) (s2 ?_);rw [show ((((K+12)+Mk.cnt b58):Nat):Int)+1=(((((K+12)+Mk.cnt b58)+1):Nat):Int) from rfl];refine s4 ?_;refine AI rfl rfl rfl CG.h rfl om (s1 ?_);refine AY rfl rfl (by exact Lj (L:=(⟨some ⟨g,0,none⟩,c1,e1,((Cr k0 i x1).set i (((((K:Nat):Int),((K+1:Nat):Int)),((K+2:Nat):Int),((K+3:Nat):Int),((K+4:Nat):Int),(((K+5:Nat):Int),((K+6:Nat):Int),((K+7:Nat):Int),(mtx (K+8)),(mtx (K+9)),(mtx (K+10)),((K+11:Nat):Int),(Mk.mkd (K+12) b58)),((((K+12)+Mk.cnt b58):Nat):Int),b7,b8):Av)),y1⟩:TL Av)) mm rfl (DW (CW (k:=k0) hu))) FZ.h rfl (s1 ?_);refine AA (fun w h=>Lo (L:=(⟨some ⟨g,0,none⟩,c1,e1,((Cr k0 i x1).set i (((((K:Nat):Int),((K+1:Nat):Int)),((K+2:Nat):Int),((K+3:Nat):Int),((K+4:Nat):Int),(((K+5:Nat):Int),((K+6:Nat):Int),((K+7:Nat):Int),(mtx (K+8)),(mtx (K+9)),(mtx (K+10)),((K+11:Nat):Int),(Mk.mkd (K+12) b58)),((((K+12)+Mk.cnt b58):Nat):Int),b7,b8):Av)),y1⟩:TL Av)) (DW (CW (k:=k0) hu)) (Bt pk h)) ?_;refine AA (fun _=>Bx) ?_;refine AA (fun _=>Bt (Pick.there _ (Pick.here _))) ?_;refine AA (fun _=>Bx) ?_;refine AA (fun _=>Bt (Pick.there _ (Pick.here _))) ?_;refine AA (fun _=>Bx) ?_;refine AA (fun _=>Bt (Pick.there _ (Pick.here _))) ?_;refine AA (fun _=>Bx) ?_;refine AA (fun _=>Bt (Pick.there _ (Pick.here _))) ?_;refine AA (fun _=>Bx) ?_;refine AA (fun _=>Bt (Pick.there _ (Pick.here _))) ?_;refine AA (fun _=>Bx) ?_;refine AA (fun _=>Bt (Pick.there _ (Pick.here _))) ?_;refine AA (fun _=>Bx) ?_;refine Hr rfl cQ.h rfl (Pick.here _) (by exact fun w hw=>OW w b7 (((K+12)+Mk.cnt b58)+1) om om) ?_;rintro v M1 ⟨hv,rfl⟩;subst hv;simp only [List.cons_append,List.nil_append];refine AA (fun _=>ID (Pick.here _)) ?_;refine AA (fun _=>BS (Pick.here _)) ?_;refine AA (fun _=>BS (Pick.here _)) ?_;refine AA (fun _=>BS (Pick.here _)) ?_;refine AA (fun _=>BS (Pick.here _)) ?_;refine AA (fun _=>BS (Pick.here _)) ?_;refine AA (fun _=>BS (Pick.here _)) ?_;refine AA (M':=Af (⟨some ⟨g,0,none⟩,c1,e1,(((Cr k0 i x1).set i (((((K:Nat):Int),((K+1:Nat):Int)),((K+2:Nat):Int),((K+3:Nat):Int),((K+4:Nat):Int),(((K+5:Nat):Int),((K+6:Nat):Int),((K+7:Nat):Int),(mtx (K+8)),(mtx (K+9)),(mtx (K+10)),((K+11:Nat):Int),(Mk.mkd (K+12) b58)),((((K+12)+Mk.cnt b58):Nat):Int),b7,b8):Av)).set i (((((K:Nat):Int),((K+1:Nat):Int)),((K+2:Nat):Int),((K+3:Nat):Int),((K+4:Nat):Int),(((K+5:Nat):Int),((K+6:Nat):Int),((K+7:Nat):Int),(mtx (K+8)),(mtx (K+9)),(mtx (K+10)),((K+11:Nat):Int),(Mk.mkd (K+12) b58)),((((K+12)+Mk.cnt b58):Nat):Int),(Mk.mkd (((K+12)+Mk.cnt b58)+1) b7),b8):Av)),y1⟩:TL Av)::_) (fun w h=>NG (L:=(⟨some ⟨g,0,none⟩,c1,e1,((Cr k0 i x1).set i (((((K:Nat):Int),((K+1:Nat):Int)),((K+2:Nat):Int),((K+3:Nat):Int),((K+4:Nat):Int),(((K+5:Nat):Int),((K+6:Nat):Int),((K+7:Nat):Int),(mtx (K+8)),(mtx (K+9)),(mtx (K+10)),((K+11:Nat):Int),(Mk.mkd (K+12) b58)),((((K+12)+Mk.cnt b58):Nat):Int),b7,b8):Av)),y1⟩:TL Av)) (DW (CW (k:=k0) hu)) (by simp only [CA,Gy]) h) ?_;rw [List.set_set];refine s7 ?_;refine Be rfl rfl rfl (MO om) (s1 ?_);refine AI rfl rfl rfl CG.h rfl om (s1 ?_);refine BN (fo:=15) (x':=(((((K:Nat):Int),((K+1:Nat):Int)),((K+2:Nat):Int),((K+3:Nat):Int),((K+4:Nat):Int),(((K+5:Nat):Int),((K+6:Nat):Int),((K+7:Nat):Int),(mtx (K+8)),(mtx (K+9)),(mtx (K+10)),((K+11:Nat):Int),(Mk.mkd (K+12) b58)),((((K+12)+Mk.cnt b58):Nat):Int),(Mk.mkd (((K+12)+Mk.cnt b58)+1) b7),(decide (((((((K+12)+Mk.cnt b58)+1)+Mk.cnt b7):Nat):Int).tmod 3=0))):Av)) rfl rfl pk rfl om (fun w h=>by exact ⟨⟨h.1.1,h.1.2⟩,h.2.1,h.2.2.1,h.2.2.2.1,⟨h.2.2.2.2.1.1,h.2.2.2.2.1.2.1,h.2.2.2.2.1.2.2.1,h.2.2.2.2.1.2.2.2.1,h.2.2.2.2.1.2.2.2.2.1,h.2.2.2.2.1.2.2.2.2.2.1,h.2.2.2.2.1.2.2.2.2.2.2.1,h.2.2.2.2.1.2.2.2.2.2.2.2⟩,h.2.2.2.2.2.1,h.2.2.2.2.2.2.1,(by exact trivial)⟩) HH.h (s3 ?_);refine Be rfl rfl rfl (Bc iR) (s2 ?_);rw [show ((((((K+12)+Mk.cnt b58)+1)+Mk.cnt b7):Nat):Int)+1=(((((((K+12)+Mk.cnt b58)+1)+Mk.cnt b7)+1):Nat):Int) from rfl]
  have hfin:((Cr k0 i x1).set i (((((K:Nat):Int),((K+1:Nat):Int)),((K+2:Nat):Int),((K+3:Nat):Int),((K+4:Nat):Int),(((K+5:Nat):Int),((K+6:Nat):Int),((K+7:Nat):Int),(mtx (K+8)),(mtx (K+9)),(mtx (K+10)),((K+11:Nat):Int),(Mk.mkd (K+12) b58)),((((K+12)+Mk.cnt b58):Nat):Int),(Mk.mkd (((K+12)+Mk.cnt b58)+1) b7),(decide (((((((K+12)+Mk.cnt b58)+1)+Mk.cnt b7):Nat):Int).tmod 3=0))):Av))=Cr k0 (i+1) x1:=by
   have h9:=Jz (k:=k0) hu
   rw [hK] at h9;try simp only [EX,Cg,Ch,CB,Cw,CI,CJ,Et,← Nat.add_assoc] at h9
   try simp only [List.set_set]
   exact h9
  refine AS (M':=Af (⟨some ⟨g,0,none⟩,c1,e1,(Cr k0 (i+1) x1),y1⟩:TL Av)::_) (fun w h=>by rw [← hfin];exact h) ?_
  have hE:(((((K+12)+Mk.cnt b58)+1)+Mk.cnt b7)+1)=k0+CL (x1.take (i+1)):=by rw [hs];(try simp only [Cw,CI,CJ,Et]);omega
  rw [hE];refine s2 ?_;refine Be rfl rfl rfl (Bc iR) (s2 ?_);refine ⟨i+1,sb,ms,?_,?_⟩
  ·show i+1≤x1.length;omega
  show x1.length - (i+1) < x1.length - i;omega
 refine BF (s6 ?_)
 have hk2:x1.length≤i:=by simpa using q2
 rw [Jy k0 hk2];refine AE rfl (Ab rfl) ⟨?_,rfl⟩ ms
 have hk2:x1.length≤i:=by simpa using q2
 rw [List.take_of_length_le hk2];rfl
set_option maxHeartbeats 4000000 in
theorem VV (t1:TL Av) (k0:Nat) (hk0:0 < k0) (hb:k0+Mk.cnt t1 < 9223372036854775807) (h1:rd w [] (Mk.mkd k0 t1)):Sp 104 [(Mk.mkd k0 t1).hdr,.int .i64 (k0:Int)] w [] (IsV (.int .i64 ((k0+Mk.cnt t1:Nat):Int))):=by
 obtain ⟨a1,c1,e1,x1,y1⟩:=t1;replace hb:k0+CL x1 < 9223372036854775807:=hb
 have hml:=DQ x1 k0
 have hm1:(mks k0 x1).length≤9223372036854775807:=EQ h1
 rw [QV] at h1 ⊢;dsimp only [TL.hdr];refine Spec.intro func104 rfl ntmps104 rfl (s10 ?_);refine DO (σ:=Nat) 0 (fun (i:Nat)=>[(1,.int .i64 ((k0+CL (x1.take i):Nat):Int)),(5,.int .i64 (i:Int))]) (fun (i:Nat)=>[]) (fun (i:Nat)=>i≤x1.length) (fun (i:Nat)=>x1.length - i) [(0,_)] [] ?_ sb ms ?_
 ·exact Nat.zero_le _
 rintro i hi;refine kq [0,1,5] ?_;refine s5 ?_;refine CT rfl rfl CG.h (s2 ?_);refine kp [0,1,5,9] ?_;refine Ai rfl (fun q2=>?_) (fun q2=>?_)
 ·have hk1:i < (mks k0 x1).length:=by simpa using q2
  obtain ⟨g,o1,rfl⟩:=DP h1 hk1;obtain ⟨u,hu⟩:=Eb (show i < x1.length by omega)
  have hs:=Dy hu
  have hle:=DY x1 (i+1)
  have hu2:=KR (k:=k0) hu
  obtain ⟨⟨b11,b12⟩,b2,b3,b4,⟨b51,b52,b53,b54,b55,b56,b57,b58⟩,b6,b7,b8⟩:=u;simp only [EX,Cg,Ch,CB,Cw,CI,CJ,Et,← Nat.add_assoc] at hs hu2;obtain ⟨K,hK⟩:∃ K:Nat,k0+CL (x1.take i)=K:=⟨_,rfl⟩;rw [hK] at hu2 ⊢;refine s8 ?_;refine AI rfl rfl rfl CG.h rfl om (s2 ?_);refine AY (fo:=0) rfl rfl (by first | exact Ag mm | exact Br (Cells.el h1 rfl hu2)) AM.h rfl (s3 ?_);refine kp [0,1,5,19] ?_;refine Ai rfl (fun q4=>?_) (fun q4=>?_)
  ·refine s5 ?_;refine AE rfl (Ab rfl) ⟨?_,rfl⟩ ms
   exfalso;simp [Cg,Ch,CB] at q4
  refine s4 ?_;refine Be rfl rfl rfl (Bc iR) (s2 ?_);rw [show ((K:Nat):Int)+1=((K+1:Nat):Int) from rfl];refine s5 ?_;refine AI rfl rfl rfl CG.h rfl om (s2 ?_);refine AY (fo:=1) rfl rfl (by first | exact Ag mm | exact Br (Cells.el h1 rfl hu2)) AM.h rfl (s3 ?_);refine kp [0,1,5,29] ?_;refine Ai rfl (fun q7=>?_) (fun q7=>?_)
  ·refine s5 ?_;refine AE rfl (Ab rfl) ⟨?_,rfl⟩ ms
   exfalso;simp [Cg,Ch,CB] at q7
  refine s4 ?_;refine Be rfl rfl rfl (Bc iR) (s2 ?_);rw [show ((K+1:Nat):Int)+1=(((K+1)+1:Nat):Int) from rfl];refine s5 ?_;refine AI rfl rfl rfl CG.h rfl om (s1 ?_);refine AY rfl rfl (by first | exact Ag mm | exact Br (Cells.el h1 rfl hu2)) AM.h rfl (s3 ?_);refine kp [0,1,5,38] ?_;refine Ai rfl (fun a0=>?_) (fun a0=>?_)
  ·refine s5 ?_;refine AE rfl (Ab rfl) ⟨?_,rfl⟩ ms
   exfalso;simp [Cg,Ch,CB] at a0
  refine s4 ?_;refine Be rfl rfl rfl (Bc iR) (s2 ?_);rw [show ((((K+1)+1):Nat):Int)+1=((((K+1)+1)+1:Nat):Int) from rfl];refine s5 ?_;refine AI rfl rfl rfl CG.h rfl om (s1 ?_);refine AY rfl rfl (by first | exact Ag mm | exact Br (Cells.el h1 rfl hu2)) AM.h rfl (s3 ?_);refine kp [0,1,5,47] ?_;refine Ai rfl (fun a2=>?_) (fun a2=>?_)
  ·refine s5 ?_;refine AE rfl (Ab rfl) ⟨?_,rfl⟩ ms
   exfalso;simp [Cg,Ch,CB] at a2
  refine s4 ?_;refine Be rfl rfl rfl (Bc iR) (s2 ?_);rw [show (((((K+1)+1)+1):Nat):Int)+1=(((((K+1)+1)+1)+1:Nat):Int) from rfl];refine s5 ?_;refine AI rfl rfl rfl CG.h rfl om (s1 ?_);refine AY rfl rfl (by first | exact Ag mm | exact Br (Cells.el h1 rfl hu2)) AM.h rfl (s3 ?_);refine kp [0,1,5,56] ?_;refine Ai rfl (fun a3=>?_) (fun a3=>?_)
  ·refine s5 ?_;refine AE rfl (Ab rfl) ⟨?_,rfl⟩ ms
   exfalso;simp [Cg,Ch,CB] at a3
  refine s4 ?_;refine Be rfl rfl rfl (Bc iR) (s2 ?_);rw [show ((((((K+1)+1)+1)+1):Nat):Int)+1=((((((K+1)+1)+1)+1)+1:Nat):Int) from rfl];refine s5 ?_;refine AI rfl rfl rfl CG.h rfl om (s2 ?_);refine AY (fo:=5) rfl rfl (by first | exact Ag mm | exact Br (Cells.el h1 rfl hu2)) AM.h rfl (s3 ?_);refine kp [0,1,5,66] ?_;refine Ai rfl (fun a4=>?_) (fun a4=>?_)
  ·refine s5 ?_;refine AE rfl (Ab rfl) ⟨?_,rfl⟩ ms
   exfalso;simp [Cg,Ch,CB] at a4
  refine s4 ?_;refine Be rfl rfl rfl (Bc iR) (s2 ?_);rw [show (((((((K+1)+1)+1)+1)+1):Nat):Int)+1=(((((((K+1)+1)+1)+1)+1)+1:Nat):Int) from rfl];refine s5 ?_;refine AI rfl rfl rfl CG.h rfl om (s2 ?_);refine AY (fo:=6) rfl rfl (by first | exact Ag mm | exact Br (Cells.el h1 rfl hu2)) AM.h rfl (s3 ?_);refine kp [0,1,5,76] ?_;refine Ai rfl (fun a5=>?_) (fun a5=>?_)
  ·refine s5 ?_;refine AE rfl (Ab rfl) ⟨?_,rfl⟩ ms
   exfalso;simp [Cg,Ch,CB] at a5
  refine s4 ?_;refine Be rfl rfl rfl (Bc iR) (s2 ?_);rw [show ((((((((K+1)+1)+1)+1)+1)+1):Nat):Int)+1=((((((((K+1)+1)+1)+1)+1)+1)+1:Nat):Int) from rfl];refine s5 ?_;refine AI rfl rfl rfl CG.h rfl om (s2 ?_);refine AY (fo:=7) rfl rfl (by first | exact Ag mm | exact Br (Cells.el h1 rfl hu2)) AM.h rfl (s3 ?_);refine kp [0,1,5,86] ?_;refine Ai rfl (fun a6=>?_) (fun a6=>?_)
  ·refine s5 ?_;refine AE rfl (Ab rfl) ⟨?_,rfl⟩ ms
   exfalso;simp [Cg,Ch,CB] at a6
  refine s4 ?_;refine Be rfl rfl rfl (Bc iR) (s2 ?_);rw [show (((((((((K+1)+1)+1)+1)+1)+1)+1):Nat):Int)+1=(((((((((K+1)+1)+1)+1)+1)+1)+1)+1:Nat):Int) from rfl];refine s2 ?_;refine BX [97] mix kr rfl (s2 ?_);refine Db _ Ar (Aj rfl) (Aj rfl) CG.h (fun hg=>⟨rfl,by (try dsimp only);omega⟩) (s2 ?_);refine BA (fo:=8) Ar (Aj rfl) (fun hg=>(by first | exact Ag mm | exact Br (Cells.el h1 rfl hu2))) ED.h rfl (s1 ?_);refine AZ Ar JV.h (Ah (Aj rfl) (AF)) (by exact fun hg w F hF hM=>(fun w hw=>Du w ((((((((K+1)+1)+1)+1)+1)+1)+1)+1) om om) w hF) (s12 ?_);refine kp [0,1,5,97] ?_;refine Ai rfl (fun a7=>?_) (fun a7=>?_)
  ·refine s5 ?_;refine AE rfl (Ab rfl) ⟨?_,rfl⟩ ms
   exfalso;simp [Cg,Ch,CB] at a7
  refine s4 ?_;refine Be rfl rfl rfl (Bc iR) (s2 ?_);rw [show ((((((((((K+1)+1)+1)+1)+1)+1)+1)+1):Nat):Int)+1=((((((((((K+1)+1)+1)+1)+1)+1)+1)+1)+1:Nat):Int) from rfl];refine s2 ?_;refine BX [108] mix kr rfl (s2 ?_);refine Db _ Ar (Aj rfl) (Aj rfl) CG.h (fun hg=>⟨rfl,by (try dsimp only);omega⟩) (s2 ?_);refine BA (fo:=9) Ar (Aj rfl) (fun hg=>(by first | exact Ag mm | exact Br (Cells.el h1 rfl hu2))) ED.h rfl (s1 ?_);refine AZ Ar JV.h (Ah (Aj rfl) (AF)) (by exact fun hg w F hF hM=>(fun w hw=>Du w (((((((((K+1)+1)+1)+1)+1)+1)+1)+1)+1) om om) w hF) (s12 ?_);refine kp [0,1,5,108] ?_;refine Ai rfl (fun a8=>?_) (fun a8=>?_)
  ·refine s5 ?_;refine AE rfl (Ab rfl) ⟨?_,rfl⟩ ms
   exfalso;simp [Cg,Ch,CB] at a8
  refine s4 ?_;refine Be rfl rfl rfl (Bc iR) (s2 ?_);rw [show (((((((((((K+1)+1)+1)+1)+1)+1)+1)+1)+1):Nat):Int)+1=(((((((((((K+1)+1)+1)+1)+1)+1)+1)+1)+1)+1:Nat):Int) from rfl];refine s2 ?_;refine BX [119] mix kr rfl (s2 ?_);refine Db _ Ar (Aj rfl) (Aj rfl) CG.h (fun hg=>⟨rfl,by (try dsimp only);omega⟩) (s2 ?_);refine BA (fo:=10) Ar (Aj rfl) (fun hg=>(by first | exact Ag mm | exact Br (Cells.el h1 rfl hu2))) ED.h rfl (s1 ?_);refine AZ Ar JV.h (Ah (Aj rfl) (AF)) (by exact fun hg w F hF hM=>(fun w hw=>Du w ((((((((((K+1)+1)+1)+1)+1)+1)+1)+1)+1)+1) om om) w hF) (s12 ?_);refine kp [0,1,5,119] ?_;refine Ai rfl (fun a9=>?_) (fun a9=>?_)
  ·refine s5 ?_;refine AE rfl (Ab rfl) ⟨?_,rfl⟩ ms
   exfalso;simp [Cg,Ch,CB] at a9
  refine s4 ?_;refine Be rfl rfl rfl (Bc iR) (s2 ?_);rw [show ((((((((((((K+1)+1)+1)+1)+1)+1)+1)+1)+1)+1):Nat):Int)+1=((((((((((((K+1)+1)+1)+1)+1)+1)+1)+1)+1)+1)+1:Nat):Int) from rfl];refine s5 ?_;refine AI rfl rfl rfl CG.h rfl om (s2 ?_);refine AY (fo:=11) rfl rfl (by first | exact Ag mm | exact Br (Cells.el h1 rfl hu2)) AM.h rfl (s3 ?_);refine kp [0,1,5,129] ?_;refine Ai rfl (fun aa=>?_) (fun aa=>?_)
  ·refine s5 ?_;refine AE rfl (Ab rfl) ⟨?_,rfl⟩ ms
   exfalso;simp [Cg,Ch,CB] at aa
  refine s4 ?_;refine Be rfl rfl rfl (Bc iR) (s2 ?_);rw [show (((((((((((((K+1)+1)+1)+1)+1)+1)+1)+1)+1)+1)+1):Nat):Int)+1=(((((((((((((K+1)+1)+1)+1)+1)+1)+1)+1)+1)+1)+1)+1:Nat):Int) from rfl];refine s4 ?_;refine AI rfl rfl rfl CG.h rfl om (s2 ?_);refine AY (fo:=12) rfl rfl (by first | exact Ag mm | exact Br (Cells.el h1 rfl hu2)) MH.h rfl (s1 ?_);refine Bi rfl jS.h rfl (by exact fun w hw=>OY w b58 ((((((((((((K+1)+1)+1)+1)+1)+1)+1)+1)+1)+1)+1)+1) om om (BG (show rd _ _ (Mk.mkd ((((((((((((K+1)+1)+1)+1)+1)+1)+1)+1)+1)+1)+1)+1) b58) from by have h9:=h1.2.2.1 _ (List.mem_of_getElem? hu2);(try simp only [EX,Cg,Ch,CB,Cw,CI,CJ,Et,← Nat.add_assoc] at h9);exact h9.2.2.2.2.1.2.2.2.2.2.2.2) hw)) (s8 ?_);refine kp [0,1,5,141] ?_;refine Ai rfl (fun ab=>?_) (fun ab=>?_)
  ·refine s5 ?_;refine AE rfl (Ab rfl) ⟨?_,rfl⟩ ms
   exfalso;simp at ab;omega
  refine s6 ?_;refine AI rfl rfl rfl CG.h rfl om (s1 ?_);refine AY rfl rfl (by first | exact Ag mm | exact Br (Cells.el h1 rfl hu2)) AM.h rfl (s3 ?_);refine kp [0,1,5,148] ?_;refine Ai rfl (fun ac=>?_) (fun ac=>?_)
  ·refine s5 ?_;refine AE rfl (Ab rfl) ⟨?_,rfl⟩ ms
   exfalso;simp [Cg,Ch,CB] at ac
  refine s4 ?_;refine Be rfl rfl rfl (Bc iR) (s2 ?_);rw [show (((((((((((((((K+1)+1)+1)+1)+1)+1)+1)+1)+1)+1)+1)+1)+Mk.cnt b58):Nat):Int)+1=(((((((((((((((K+1)+1)+1)+1)+1)+1)+1)+1)+1)+1)+1)+1)+Mk.cnt b58)+1:Nat):Int) from rfl];refine s4 ?_;refine AI rfl rfl rfl CG.h rfl om (s1 ?_);refine AY rfl rfl (by first | exact Ag mm | exact Br (Cells.el h1 rfl hu2)) FZ.h rfl (s1 ?_);refine Bi rfl cT.h rfl (by exact fun w hw=>OX w b7 ((((((((((((((K+1)+1)+1)+1)+1)+1)+1)+1)+1)+1)+1)+1)+Mk.cnt b58)+1) om om (BG (show rd _ _ (Mk.mkd ((((((((((((((K+1)+1)+1)+1)+1)+1)+1)+1)+1)+1)+1)+1)+Mk.cnt b58)+1) b7) from by have h9:=h1.2.2.1 _ (List.mem_of_getElem? hu2);(try simp only [EX,Cg,Ch,CB,Cw,CI,CJ,Et,← Nat.add_assoc] at h9);exact h9.2.2.2.2.2.2.1) hw)) (s8 ?_);refine kp [0,1,5,159] ?_;refine Ai rfl (fun ad=>?_) (fun ad=>?_)
  ·refine s5 ?_;refine AE rfl (Ab rfl) ⟨?_,rfl⟩ ms
   exfalso;simp at ad;omega
  refine s6 ?_;refine AI rfl rfl rfl CG.h rfl om (s1 ?_);refine AY rfl rfl (by first | exact Ag mm | exact Br (Cells.el h1 rfl hu2)) HH.h rfl (s1 ?_);refine Be rfl rfl rfl (MO om) (s3 ?_);refine kp [0,1,5,168] ?_;refine Ai rfl (fun ae=>?_) (fun ae=>?_)
  ·refine s5 ?_;refine AE rfl (Ab rfl) ⟨?_,rfl⟩ ms
   exfalso;simp [Cg,Ch,CB] at ae
  refine s3 ?_;refine Be rfl rfl rfl (Bc iR) (s2 ?_);rw [show (((((((((((((((((K+1)+1)+1)+1)+1)+1)+1)+1)+1)+1)+1)+1)+Mk.cnt b58)+1)+Mk.cnt b7):Nat):Int)+1=(((((((((((((((((K+1)+1)+1)+1)+1)+1)+1)+1)+1)+1)+1)+1)+Mk.cnt b58)+1)+Mk.cnt b7)+1:Nat):Int) from rfl]
  have hE:((((((((((((((((K+1)+1)+1)+1)+1)+1)+1)+1)+1)+1)+1)+1)+Mk.cnt b58)+1)+Mk.cnt b7)+1)=k0+CL (x1.take (i+1)):=by rw [hs];(try simp only [Cw,CI,CJ,Et]);omega
  rw [hE];refine s2 ?_;refine Be rfl rfl rfl (Bc iR) (s2 ?_);refine ⟨i+1,sb,ms,?_,?_⟩
  ·show i+1≤x1.length;omega
  show x1.length - (i+1) < x1.length - i;omega
 refine BF (s6 ?_);refine AE rfl (Ab rfl) ⟨?_,rfl⟩ ms
 have hk2:(mks k0 x1).length≤i:=by simpa using q2
 rw [List.take_of_length_le om];rfl
end Go.Proofs.SL
