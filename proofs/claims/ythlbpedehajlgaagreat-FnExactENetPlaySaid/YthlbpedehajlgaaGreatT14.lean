/- The texts of the proof, part 14. -/
import Derived.Test.YthlbpedehajlgaaGreatT13
set_option linter.all false
namespace Go.Proofs.SL
open Go
namespace Gr
variable {ι:Type} [DecidableEq ι]
theorem cA {lt:ι→ι→Bool} (h:STO lt) {l m:List ι} (hl:Up lt l) (hs:∀ x,x∈l→x∈m):l.length≤m.length:=by
 have hn:=up_nodup h hl
 clear hl
 induction l generalizing m with
 | nil=>simp
 | cons a l ih =>
  obtain ⟨n1,n2⟩:=List.nodup_cons.1 hn
  have ha:a∈m:=hs a (List.mem_cons_self ..)
  have:=ih (m:=m.erase a) (fun x hx=>(List.mem_erase_of_ne (fun e=>n1 (by rw [← e];exact hx))).2 (hs x (List.mem_cons_of_mem _ hx))) n2
  rw [List.length_erase_of_mem ha] at this
  have hp:=List.length_pos_of_mem ha
  simp only [List.length_cons];omega
theorem up_same {lt:ι→ι→Bool} (h:STO lt) {l m:List ι} (hl:Up lt l) (hm:Up lt m) (hs:∀ x,x∈l→x∈m) (hlen:m.length≤l.length):∀ x,x∈m→x∈l:=by
 intro x hx;refine Classical.byContradiction fun hn=>?_
 have:=cA h hl (m:=m.erase x) fun y hy=>(List.mem_erase_of_ne (fun e=>hn (by rw [← e];exact hy))).2 (hs y hy)
 rw [List.length_erase_of_mem hx] at this
 have hp:=List.length_pos_of_mem hx
 omega
end Gr
def ddS (acc:List AU) (x:AU):List AU:=if acc.getLast?=some x then acc else acc++[x]
def ddF (l:List AU):List AU:=l.foldl ddS []
theorem MA (l:List AU) (x:AU):ddF (l++[x])=ddS (ddF l) x:=by unfold ddF;rw [List.foldl_append];rfl
theorem hU (acc:List AU) (x:AU):(ddS acc x).getLast?=some x:=by
 unfold ddS
 split
 ·assumption
 simp
theorem PA {α:Type} {P:List α→Prop} (h0:P []) (h1:∀ l x,P l→P (l++[x])):∀ l,P l:=fun l=>by
 have:∀ n (l:List α),l.length=n→P l:=fun n=>by
  induction n with
  | zero=>intro l hl;rw [List.eq_nil_of_length_eq_zero hl];exact h0
  | succ n ih =>
   intro l hl
   have hne:l≠[]:=fun e=>by rw [e] at hl;cases hl
   rw [← List.dropLast_concat_getLast hne];exact h1 _ _ (ih _ (by rw [List.length_dropLast,hl];rfl))
 exact this _ l rfl
theorem OR (l:List AU):(ddF l).getLast?=l.getLast?:=by
 refine PA (P:=fun l=>(ddF l).getLast?=l.getLast?) rfl (fun l x _=>?_) l;rw [MA,hU];simp
theorem aF (l:List AU) (y:AU):y∈ddF l↔y∈l:=by
 refine PA (P:=fun l=>y∈ddF l↔y∈l) (by simp [ddF]) (fun l x ih=>?_) l;rw [MA];unfold ddS
 split
 ·rename_i h
  rw [ih,List.mem_append,List.mem_singleton]
  constructor
  ·exact .inl
  rintro (q | q)
  ·exact q
  subst q;rw [OR] at h;exact List.mem_of_getLast? h
 rw [List.mem_append,List.mem_append,ih]
theorem oP {l:List AU} (h:l.Pairwise fun a b=>Cy b a=false):Gr.Up Cy (ddF l):=by
 refine PA (P:=fun l=>(l.Pairwise fun a b=>Cy b a=false)→Gr.Up Cy (ddF l)) (fun _=>by simp [ddF]) (fun l x ih h=>?_) l h;obtain ⟨h1,_,h3⟩:=List.pairwise_append.1 h;rw [MA];unfold ddS
 split
 ·exact ih h1
 rename_i hn
 refine List.pairwise_append.2 ⟨ih h1,by simp,fun a ha b hb=>?_⟩;rw [List.mem_singleton] at hb;subst hb
 have ha':=(aF l a).1 ha
 have hax:=h3 a ha' b (by simp)
 rcases Ea.tot a b with q | q | q
 ·exact q
 ·rw [hax] at q;cases q
 subst q
 exfalso
 apply hn
 rw [OR]
 have hne:l≠[]:=fun e=>by rw [e] at ha';cases ha'
 rw [List.getLast?_eq_some_getLast hne];refine congrArg some ?_
 have hl:Cy a (l.getLast hne)=false:=h3 _ (List.getLast_mem hne) a (by simp)
 have hl':a=l.getLast hne∨Cy (l.getLast hne) a=false:=by
  rw [← List.dropLast_concat_getLast hne,List.mem_append,List.mem_singleton] at ha';rcases ha' with q | q
  ·rw [← List.dropLast_concat_getLast hne] at h1;exact .inr ((List.pairwise_append.1 h1).2.2 a q _ (by simp))
  ·exact .inl q
 rcases hl' with q | q
 ·exact q.symm
 rcases Ea.tot a (l.getLast hne) with r | r | r
 ·rw [hl] at r;cases r
 ·rw [q] at r;cases r
 exact r.symm
theorem Fa {α:Type} {l:List α} {k:Nat} {x:α} (h:l[k]?=some x):l.take (k+1)=l.take k++[x]:=by
 rw [List.take_add_one,h];rfl
theorem Wv {α:Type} {l:List α} {k:Nat} {x:α} (h:l[k]?=some x):(l.take (k+1)).getLast?=some x:=by
 rw [Fa h];simp
theorem idq (a b:AU):(decide (a.1=b.1)&&(decide (a.2=b.2)&&true))=decide (a=b):=EP a b
theorem cB {α:Type} (l:List α) {i:Int} {k:Nat} (h:i=(k:Int)):idx l i=l[k]?:=by rw [h,BV]
theorem cC {l:List AU} (hl:l.length≤1000):Fw l=some (ddF l):=by
 unfold Fw
 by_cases h2:l.length < 2
 ·rw [decide_eq_true (show (l.length:Int) < 2 by omega),cond_true]
  match l,h2 with
  | [],_=>rfl
  | [x],_=>rfl
 rw [decide_eq_false (show ¬ (l.length:Int) < 2 by omega),cond_false];refine Dx (fun s:Int=>∃ k:Nat,s=(k:Int)∧1≤k∧k≤l.length∧ddF (l.take k)=l.take k) (fun s=>(l.length - s).toNat) ?_ ⟨1,rfl,Nat.le_refl _,by omega,?_⟩
 ·rintro _ ⟨k,rfl,hk1,hk,hd⟩
  by_cases hlt:k < l.length
  ·have hx:l[k]?=some l[k]:=List.getElem?_eq_getElem hlt
   have hy:l[k - 1]?=some l[k - 1]:=List.getElem?_eq_getElem om
   generalize l[k]=x at hx;generalize l[k - 1]=y at hy
   have hlast:(l.take k).getLast?=some y:=by
    have:=Wv hy
    rwa [show k - 1+1=k by omega] at this
   rw [decide_eq_true (show (k:Int) < (l.length:Int) by omega),cond_true,BV,hx,ob,CE iR,cB l (k:=k - 1) om,hy,ob,idq]
   by_cases hxy:x=y
   ·right;subst hxy;rw [decide_eq_true rfl,cond_true,ON om,ob]
    have a0:ddF (l.take (k+1))=l.take k:=by
     rw [Fa hx,MA];unfold ddS;rw [if_pos (by rw [OR];exact hlast),hd]
    refine Dx (s:=(l,(k:Int),(1:Int))) (fun s:List AU×Int×Int=>∃ i j:Nat,s.2.1=(i:Int)∧s.2.2=(j:Int)∧1≤j∧k+j≤l.length∧1≤i∧i≤k+j - 1∧s.1.length=l.length∧s.1.drop (k+j - 1)=l.drop (k+j - 1)∧s.1.take i=ddF (l.take (k+j))) (fun s=>(l.length - s.2.2).toNat) ?_ ⟨k,1,rfl,rfl,Nat.le_refl _,by omega,hk1,by omega,rfl,rfl,a0.symm⟩;rintro ⟨m,i',j'⟩ ⟨i,j,h1,h3,hj1,hj,hi1,hi,hm,hdr,htk⟩;dsimp only at h1 h3 hm hdr htk ⊢;subst h1 h3;rw [hm,ON om,ob]
    have hsub:((m.drop ((k:Int)).toNat).take ((l.length:Int).toNat - ((k:Int)).toNat))=m.drop k:=by
     rw [Int.toNat_natCast,Int.toNat_natCast,List.take_of_length_le (by rw [List.length_drop,hm];exact Nat.le_refl _)]
    rw [hsub]
    have hlen:((m.drop k).length:Int)=(l.length:Int) - (k:Int):=by rw [List.length_drop,hm];omega
    by_cases hjl:k+j < l.length
    ·left
     have hu:l[k+j]?=some l[k+j]:=List.getElem?_eq_getElem hjl
     have hv:l[k+j - 1]?=some l[k+j - 1]:=List.getElem?_eq_getElem om
     generalize l[k+j]=u at hu;generalize l[k+j - 1]=v at hv
     have hu':(m.drop k)[j]?=some u:=by
      rw [List.getElem?_drop,← hu,show k+j=(k+j - 1)+1 by omega,← List.getElem?_drop,← List.getElem?_drop,hdr]
     have hv':(m.drop k)[j - 1]?=some v:=by
      rw [List.getElem?_drop,← hv,show k+(j - 1)=(k+j - 1)+0 by omega,← List.getElem?_drop,hdr,List.getElem?_drop,Nat.add_zero]
     rw [decide_eq_true (show (j:Int) < ((m.drop k).length:Int) by omega),cond_true,BV,hu',ob,CE iR,cB _ (k:=j - 1) om,hv',ob,idq,CE iR]
     have hlast':(l.take (k+j)).getLast?=some v:=by
      have:=Wv hv
      rwa [show k+j - 1+1=k+j by omega] at this
     have hnext:ddF (l.take (k+(j+1)))=ddS (ddF (l.take (k+j))) u:=by
      rw [show k+(j+1)=k+j+1 by omega,Fa hu,MA]
     by_cases huv:u=v
     ·subst huv;rw [decide_eq_true rfl,Bool.not_true,cond_false,CE iR];refine ⟨_,rfl,⟨i,j+1,rfl,by simp,by omega,by omega,hi1,by omega,hm,?_,?_⟩,by dsimp only;omega⟩
      ·dsimp only
       have:=congrArg (List.drop 1) hdr
       rw [List.drop_drop,List.drop_drop] at this
       rwa [show k+(j+1) - 1=k+j - 1+1 by omega]
      dsimp only;rw [hnext,htk];unfold ddS;rw [if_pos (by rw [OR];exact hlast')]
     rw [decide_eq_false huv,Bool.not_false,cond_true,ob]
     have hmi:m[i]?=some m[i]:=List.getElem?_eq_getElem om
     rw [BV,hmi,ob,ob,Int.toNat_natCast,CE iR];refine ⟨_,rfl,⟨i+1,j+1,by simp,by simp,by omega,by omega,by omega,by omega,by simpa using hm,?_,?_⟩,by dsimp only;omega⟩
     ·dsimp only;rw [List.drop_set_of_lt om]
      have:=congrArg (List.drop 1) hdr
      rw [List.drop_drop,List.drop_drop] at this
      rwa [show k+(j+1) - 1=k+j - 1+1 by omega]
     dsimp only;rw [hnext,← htk];unfold ddS;rw [if_neg,List.take_add_one,List.getElem?_set_self om,List.take_set_of_le om]
     ·rfl
     rw [htk,OR,hlast'];intro e;exact huv (Option.some.inj e).symm
    right
    have hje:k+j=l.length:=by omega
    rw [decide_eq_false (show ¬ (j:Int) < ((m.drop k).length:Int) by omega),cond_false,ON om,ob,decide_eq_true (show (i:Int) < (l.length:Int) by omega)];rw [show (LQ true:Option Unit)=some () from rfl,ob,ob]
    have hcl:(Np m (i:Int) (l.length:Int) ((0,0):AU)).take i=m.take i:=by
     unfold Np;rw [Int.toNat_natCast,List.take_append_of_le_length (by rw [List.length_take];omega),List.take_take,Nat.min_self]
    have hcln:(Np m (i:Int) (l.length:Int) ((0,0):AU)).length=l.length:=by
     unfold Np;simp only [Int.toNat_natCast,List.length_append,List.length_take,List.length_replicate,List.length_drop];omega
    rw [ON (by rw [hcln];omega),ob];rw [show ((0:Int)).toNat=0 from rfl,List.drop_zero,Int.toNat_natCast,Nat.sub_zero,hcl,htk,hje,List.take_length];rfl
   left;rw [decide_eq_false hxy,cond_false,CE iR];refine ⟨_,rfl,⟨k+1,by simp,by omega,by omega,?_⟩,by omega⟩;rw [Fa hx,MA,hd];unfold ddS;rw [if_neg (by rw [hlast];exact fun e=>hxy (Option.some.inj e).symm)]
  right
  have:k=l.length:=by omega
  subst this;rw [decide_eq_false (show ¬ (l.length:Int) < (l.length:Int) by omega),cond_false];rw [List.take_length] at hd;rw [hd];rfl
 match l,h2 with
 | [],h=>exact absurd (by simp) h
 | x::r,_=>rfl
theorem UR {a b:List AU} (ha:Dl a=true) (hb:Dl b=true):Dl (Gr.join Cy a b)=true:=by
 obtain ⟨h1,h2⟩:=EZ ha;obtain ⟨h3,h4⟩:=EZ hb;obtain ⟨h5,h6⟩:=Gr.join_facts Ea h2 h4;refine Yy (fun x hx=>?_) h5;rcases (h6 x).1 hx with q | q
 ·exact h1 x q
 exact h3 x q
theorem Yz {a b:List AU} (ha:Dl a=true) (hb:Dl b=true) (x:AU):x∈Gr.join Cy a b↔x∈a∨x∈b :=
 (Gr.join_facts Ea (EZ ha).2 (EZ hb).2).2 x
theorem Sy {a b:List AU} (ha:Dl a=true) (hb:Dl b=true):KZ a b=some (Gr.join Cy a b):=by
 have hla:=Ex ha
 have hlb:=Ex hb
 unfold KZ;rw [NO om,ha,ob,NO om,hb];rw [Bool.not_true,Bool.not_false,Dn,ob,Bool.not_true,Bool.or_false,cond_false,ob,Cp (by simp;omega),ob,List.nil_append,Cp om,ob];rw [show HQ (a++b) (fun z0 z1=>ES z0 z1)=some (Pk Cy (a++b)) from eZ Ea RV (by simp;omega),ob]
 have hp:=JX Cy (a++b)
 have hs:=Ls (Yr Ea) (a++b)
 rw [cC (by rw [hp.length_eq];simp;omega),ob];refine congrArg some (Gr.up_ext Ea (oP hs) (Gr.join_facts Ea (EZ ha).2 (EZ hb).2).1 fun x=>?_);rw [aF,hp.mem_iff,List.mem_append,Yz ha hb]
theorem US {a b:List AU} (ha:a.length≤9223372036854775807) {f:List AU→List AU→Option Bool} (hf:f a b=(cond (!decide ((a.length:Int)=(b.length:Int))) (some false) (BH (fun s2:Int=>cond (decide (s2 < (a.length:Int))) (Option.bind (idx a s2) (fun y4=>Option.bind (idx b s2) (fun y5=>cond (!(decide (y4.1=y5.1)&&(decide (y4.2=y5.2)&&true))) (Option.map .inr (some false)) (some (.inl (IntKind.wrap .i64 (s2+1))))))) (Option.map .inr (some true))) 0))):f a b=some (decide (a=b)):=by
 rw [hf]
 by_cases hl:a.length=b.length
 ·rw [decide_eq_true (show (a.length:Int)=(b.length:Int) by omega),Bool.not_true,cond_false];refine Dx (fun s:Int=>∃ k:Nat,s=(k:Int)∧k≤a.length∧a.take k=b.take k) (fun s=>(a.length - s).toNat) ?_ ⟨0,rfl,Nat.zero_le _,rfl⟩;rintro _ ⟨k,rfl,hk,he⟩
  by_cases hlt:k < a.length
  ·have hx:a[k]?=some a[k]:=List.getElem?_eq_getElem hlt
   have hy:b[k]?=some b[k]:=List.getElem?_eq_getElem om
   generalize a[k]=x at hx;generalize b[k]=y at hy;rw [decide_eq_true (show (k:Int) < (a.length:Int) by omega),cond_true,BV,hx,ob,BV,hy,ob,idq]
   by_cases hxy:x=y
   ·left;rw [decide_eq_true hxy,Bool.not_true,cond_false,CE iR];refine ⟨_,rfl,⟨k+1,by simp,by omega,by rw [Fa hx,Fa hy,he,hxy]⟩,by omega⟩
   right;rw [decide_eq_false hxy,Bool.not_false,cond_true,decide_eq_false]
   ·rfl
   intro e;subst e;rw [hx] at hy;exact hxy (Option.some.inj hy)
  right;rw [decide_eq_false (show ¬ (k:Int) < (a.length:Int) by omega),cond_false,List.take_of_length_le om,List.take_of_length_le om] at *;rw [decide_eq_true he];rfl
 rw [decide_eq_false (show ¬ (a.length:Int)=(b.length:Int) by omega),Bool.not_false,cond_true,decide_eq_false];intro e;exact hl (by rw [e])
theorem RW {a b:List AU} (ha:a.length≤9223372036854775807):MW a b=some (decide (a=b)):=US ha rfl
theorem VL {a b:List AU} (ha:a.length≤9223372036854775807):EG a b=some (decide (a=b)):=US ha rfl
theorem fD {a b:List AU} (ha:Dl a=true) (hb:Dl b=true):decide ((Gr.join Cy a b).length=a.length)=decide (Gr.join Cy a b=a):=by
 rw [Bool.eq_iff_iff,decide_eq_true_eq,decide_eq_true_eq]
 constructor
 ·intro h;obtain ⟨h5,h6⟩:=Gr.join_facts Ea (EZ ha).2 (EZ hb).2;refine Gr.up_ext Ea h5 (EZ ha).2 fun x=>⟨fun hx=>?_,fun hx=>(h6 x).2 (.inl hx)⟩;exact Gr.up_same Ea (EZ ha).2 h5 (fun y hy=>(h6 y).2 (.inl hy)) om x hx
 intro h;rw [h]
end Go.Proofs.SL
namespace Go.Proofs.SL
open Go
theorem Lh {s:ByteArray} {b:Bool} (h:Gu s b=true):s.size≤8:=by
 unfold Gu at h
 cases b with
 | true =>
  rw [if_pos rfl] at h;unfold Oj at h;simp only [Bool.and_eq_true,decide_eq_true_eq] at h;omega
 | false =>
  rw [if_neg Bool.false_ne_true] at h;rw [of_decide_eq_true h];exact Nat.zero_le _
theorem JT {c:CH} (h:DN c=true):Ok.ok c:=by
 have hs:=IF h
 have z0:inR 0:=by unfold inR;omega
 unfold DN at h
 by_cases h0:c.1=0
 ·rw [if_pos h0] at h
  have:c=Ih:=by
   exact of_decide_eq_true h
  rw [this];exact ⟨z0,z0,z0,Nat.zero_le _,Nat.zero_le _,Nat.zero_le _,z0,Nat.zero_le _,fun x hx=>by cases hx⟩
 rw [if_neg h0] at h;simp only [Bool.and_eq_true,decide_eq_true_eq,Bool.or_eq_true] at h;obtain ⟨⟨⟨⟨⟨⟨⟨h1,h2⟩,h3⟩,h4⟩,h5⟩,h6⟩,h7⟩,h8⟩:=h
 have k4:=Lh h4
 have k5:=Lh h5
 have k6:=Lh h6
 refine ⟨by show inR _;unfold inR;omega,by show inR _;unfold inR;omega,by show inR _;unfold inR;omega,by show _≤_;omega,by show _≤_;omega,by show _≤_;omega,?_,by show _≤_;omega,fun x hx=>?_⟩
 ·show inR _;unfold inR;rcases h7 with q | q
  ·omega
  omega
 show x.size≤_
 by_cases h3:c.1=3
 ·rw [if_pos h3] at h8;simp only [Bool.and_eq_true] at h8
  have:=List.all_eq_true.1 h8.2 x hx
  have:=of_decide_eq_true this
  omega
 rw [if_neg h3] at h8
 have:=of_decide_eq_true h8
 have:=List.eq_nil_of_length_eq_zero (show c.2.2.2.2.2.2.2.length=0 by omega)
 rw [this] at hx;cases hx
theorem Nk {l:List AU} (h:Dl l=true):Ok.ok l:=by
 have:=Ex h
 refine ⟨by omega,fun y hy=>?_⟩
 have:=JQ ((EZ h).1 y hy)
 exact ⟨by show inR y.1;unfold inR;omega,by show inR y.2;unfold inR;omega⟩
theorem PB {x:AU} (h:Ed x=true):Ok.ok x:=by
 have:=JQ h
 exact ⟨by show inR x.1;unfold inR;omega,by show inR x.2;unfold inR;omega⟩
theorem InstF.okk {x:AD} (h:InstF x):Ok.ok x:=by
 have h1:=h.bal
 have h2:=h.vbal
 have h3:=h.st
 have h4:=h.seq
 exact ⟨PB h.id,by show inR _;unfold inR;omega,by show inR _;unfold inR;omega,by show inR _;unfold inR;omega,JT h.cmd,by show inR _;unfold inR;omega,Nk h.deps,trivial⟩
theorem InstF.small {x:AD} (h:InstF x):Gc x:=⟨by have:=IF h.cmd;omega,by have:=Ex h.deps;omega⟩
theorem Li {l:List Int} (h:Hw l=true):l.length≤3:=Yk (Ja h).1 (Ja h).2
theorem LeadF.okk {x:Bb} (h:LeadF x):Ok.ok x:=by
 have h1:=h.bal
 have h2:=h.ph
 have h3:=h.seq
 have h4:=Li h.frm
 refine ⟨PB h.id,by show inR _;unfold inR;omega,by show inR _;unfold inR;omega,by show inR _;unfold inR;omega,Nk h.deps,⟨by omega,fun n hn=>?_⟩,trivial⟩
 have:=(Ja h.frm).1 n hn
 show inR n;unfold inR;omega
theorem LeadF.small {x:Bb} (h:LeadF x):Mw x:=⟨by have:=Ex h.deps;omega,by have:=Li h.frm;omega⟩
theorem NodeF.insF {d:At} (h:NodeF d) {x:AD} (hx:x∈d.2.2.1):InstF x:=CY.1 ((Em h.is).1 x hx)
theorem NodeF.ldF {d:At} (h:NodeF d) {l:Bb} (hl:l∈d.2.2.2):LeadF l:=by
 obtain ⟨k,hk,rfl⟩:=List.mem_iff_getElem.1 hl;exact (h.ld k _ (List.getElem?_eq_getElem hk)).1
theorem NodeF.okk {d:At} (h:NodeF d):Ok.ok d:=by
 have h1:=h.me
 have h2:=h.nx
 have h3:=Dh h.is
 have h4:=h.ll
 exact ⟨by show inR _;unfold inR;omega,by show inR _;unfold inR;omega,⟨by omega,fun x hx=>(h.insF hx).okk⟩,⟨by omega,fun x hx=>(h.ldF hx).okk⟩⟩
theorem NodeF.small {d:At} (h:NodeF d):IA d:=by
 have h3:=Dh h.is
 have h4:=h.ll
 exact ⟨by omega,fun x hx=>(h.insF hx).small,by omega,fun x hx=>(h.ldF hx).small⟩
theorem NodeF.s {d:At} (h:NodeF d):NodeS d:=nodeF.s h h.okk h.small
noncomputable def LH (m:Au):Bool:=decide (1≤m.1∧m.1≤7)&&decide (0≤m.2.1∧m.2.1 < 3)&&decide (0≤m.2.2.1∧m.2.2.1 < 3)&&!decide (m.2.1=m.2.2.1)&&Ed m.2.2.2.1&&decide (0≤m.2.2.2.2.1∧m.2.2.2.2.1≤600)&&DN m.2.2.2.2.2.1&&decide (0≤m.2.2.2.2.2.2.1∧m.2.2.2.2.2.2.1≤60)&&(Dl m.2.2.2.2.2.2.2.1&&!(m.2.2.2.2.2.2.2.1.any fun y=>BT y m.2.2.2.1))&&decide (0≤m.2.2.2.2.2.2.2.2.1∧m.2.2.2.2.2.2.2.2.1≤3)&&decide (-1≤m.2.2.2.2.2.2.2.2.2.1∧m.2.2.2.2.2.2.2.2.2.1≤600)
structure MsgF (m:Au):Prop where
 kind:1≤m.1∧m.1≤7
 frm:0≤m.2.1∧m.2.1 < 3
 to:0≤m.2.2.1∧m.2.2.1 < 3
 ne:m.2.1≠m.2.2.1
 id:Ed m.2.2.2.1=true
 bal:0≤m.2.2.2.2.1∧m.2.2.2.2.1≤600
 cmd:DN m.2.2.2.2.2.1=true
 seq:0≤m.2.2.2.2.2.2.1∧m.2.2.2.2.2.2.1≤60
 deps:Dl m.2.2.2.2.2.2.2.1=true
 self:(m.2.2.2.2.2.2.2.1.any fun y=>BT y m.2.2.2.1)=false
 st:0≤m.2.2.2.2.2.2.2.2.1∧m.2.2.2.2.2.2.2.2.1≤3
 vbal:-1≤m.2.2.2.2.2.2.2.2.2.1∧m.2.2.2.2.2.2.2.2.2.1≤600
theorem TZ {m:Au}:LH m=true↔MsgF m:=by
 unfold LH;simp only [Bool.and_eq_true,decide_eq_true_eq,Bool.not_eq_true',decide_eq_false_iff_not]
 constructor
 ·rintro ⟨⟨⟨⟨⟨⟨⟨⟨⟨⟨h1,h2⟩,h3⟩,h4⟩,h5⟩,h6⟩,h7⟩,h8⟩,h9,h10⟩,h11⟩,h12⟩;exact ⟨h1,h2,h3,h4,h5,h6,h7,h8,h9,h10,h11,h12⟩
 intro h;exact ⟨⟨⟨⟨⟨⟨⟨⟨⟨⟨h.kind,h.frm⟩,h.to⟩,h.ne⟩,h.id⟩,h.bal⟩,h.cmd⟩,h.seq⟩,h.deps,h.self⟩,h.st⟩,h.vbal⟩
theorem MsgF.okk {m:Au} (h:MsgF m):Ok.ok m:=by
 have h1:=h.kind
 have h2:=h.frm
 have h3:=h.to
 have h4:=h.bal
 have h5:=h.seq
 have h6:=h.st
 have h7:=h.vbal
 exact ⟨by show inR _;unfold inR;omega,by show inR _;unfold inR;omega,by show inR _;unfold inR;omega,PB h.id,by show inR _;unfold inR;omega,JT h.cmd,by show inR _;unfold inR;omega,Nk h.deps,by show inR _;unfold inR;omega,by show inR _;unfold inR;omega,trivial⟩
theorem MsgF.small {m:Au} (h:MsgF m):Qt m:=⟨by have:=IF h.cmd;omega,by have:=Ex h.deps;omega⟩
theorem Zr {m:Au} (ho:Ok.ok m):OD m=some (LH m):=by
 have hc:Ok.ok m.2.2.2.2.2.1:=ho.2.2.2.2.2.1
 have hd:m.2.2.2.2.2.2.2.1.length≤9223372036854775807:=ho.2.2.2.2.2.2.2.1.1
 unfold OD LH;simp only [Prod.eta,Nh,Mt,Pv,LA hc,Rv hd,Rx hd,ob];generalize decide (-1≤m.2.2.2.2.2.2.2.2.2.1∧m.2.2.2.2.2.2.2.2.2.1≤600)=c1;generalize decide (0≤m.2.2.2.2.2.2.2.2.1∧m.2.2.2.2.2.2.2.2.1≤3)=c2;generalize (m.2.2.2.2.2.2.2.1.any fun y=>BT y m.2.2.2.1)=c3;generalize Dl m.2.2.2.2.2.2.2.1=c4;generalize decide (0≤m.2.2.2.2.2.2.1∧m.2.2.2.2.2.2.1≤60)=c5;generalize DN m.2.2.2.2.2.1=c6;generalize decide (0≤m.2.2.2.2.1∧m.2.2.2.2.1≤600)=c7;generalize Ed m.2.2.2.1=c8;generalize decide (m.2.1=m.2.2.1)=c9;generalize decide (0≤m.2.2.1∧m.2.2.1 < 3)=c10;generalize decide (0≤m.2.1∧m.2.1 < 3)=c11;generalize decide (1≤m.1∧m.1≤7)=c12;cases c12
 ·rfl
 cases c11
 ·rfl
 cases c10
 ·rfl
 cases c9
 ·cases c8
  ·rfl
  cases c7
  ·rfl
  cases c6
  ·rfl
  cases c5
  ·rfl
  cases c4
  ·rfl
  cases c3
  ·cases c2
   ·rfl
   cases c1<;>rfl
  rfl
 rfl
theorem Zs {m:Au} (ho:Ok.ok m):OJ m=some (LH m):=by
 have hc:Ok.ok m.2.2.2.2.2.1:=ho.2.2.2.2.2.1
 have hd:m.2.2.2.2.2.2.2.1.length≤9223372036854775807:=ho.2.2.2.2.2.2.2.1.1
 unfold OJ LH;simp only [Prod.eta,Ni,HT,OK,Lz hc,Su hd,ob];generalize decide (-1≤m.2.2.2.2.2.2.2.2.2.1∧m.2.2.2.2.2.2.2.2.2.1≤600)=c1;generalize decide (0≤m.2.2.2.2.2.2.2.2.1∧m.2.2.2.2.2.2.2.2.1≤3)=c2;generalize (Dl m.2.2.2.2.2.2.2.1&&!(m.2.2.2.2.2.2.2.1.any fun y=>BT y m.2.2.2.1))=c3;generalize decide (0≤m.2.2.2.2.2.2.1∧m.2.2.2.2.2.2.1≤60)=c5;generalize DN m.2.2.2.2.2.1=c6;generalize decide (0≤m.2.2.2.2.1∧m.2.2.2.2.1≤600)=c7;generalize Ed m.2.2.2.1=c8;generalize decide (m.2.1=m.2.2.1)=c9;generalize decide (0≤m.2.2.1∧m.2.2.1 < 3)=c10;generalize decide (0≤m.2.1∧m.2.1 < 3)=c11;generalize decide (1≤m.1∧m.1≤7)=c12;cases c12
 ·rfl
 cases c11
 ·rfl
 cases c10
 ·rfl
 cases c9
 ·cases c8
  ·rfl
  cases c7
  ·rfl
  cases c6
  ·rfl
  cases c5
  ·rfl
  cases c3
  ·rfl
  cases c2
  ·rfl
  cases c1<;>rfl
 rfl
def Sz (me:Int) (m:Au) (x:AD):Au:=(2,me,m.2.1,m.2.2.2.1,m.2.2.2.2.1,Ih,x.2.2.2.2.2.1,x.2.2.2.2.2.2.1,0,(-1),x.2.2.2.2.2.2.2)
def UT (me:Int) (m:Au):Au:=(4,me,m.2.1,m.2.2.2.1,m.2.2.2.2.1,Ih,0,([]:List AU),0,(-1),false)
def Tb (me:Int) (m:Au) (x:AD):Au:=(7,me,m.2.1,m.2.2.2.1,m.2.2.2.2.1,x.2.2.2.2.1,x.2.2.2.2.2.1,x.2.2.2.2.2.2.1,x.2.2.2.1,x.2.2.1,x.2.2.2.2.2.2.2)
theorem SA {σ α:Type} (s:σ) (k:σ→Option α):Ph (some (.inl s)) k=k s:=rfl
theorem YA (d:At) (m:Au) {x:AD} (h:Gc x):GJ d m 2 x false=some [Sz d.1 m x]:=by
 unfold GJ;rw [show decide ((2:Int)=4)=false from rfl,Bool.not_false,cond_true,ob,Cp (by have:=h.2;simp;omega),ob];rfl
theorem hZ (d:At) (m:Au) (x:AD):GJ d m 4 x false=some [UT d.1 m]:=rfl
theorem iA (d:At) (m:Au) {x:AD} (h:Gc x):GJ d m 7 x true=some [Tb d.1 m x]:=by
 unfold GJ;rw [show decide ((7:Int)=4)=false from rfl,Bool.not_false,cond_true,ob,Cp (by have:=h.2;simp;omega),ob,SA,cond_true];exact AN (GD h.1) rfl
theorem NS (d:At) (m:Au) {r:Au} (h:Qt r):Gm d m r=some [(r.1,d.1,m.2.1,m.2.2.2.1,r.2.2.2.2)]:=by
 unfold Gm;exact AN (Nx h) rfl
abbrev Gv:=At×List Au×Bool
def noG (d:At):Gv:=(d,[],false)
noncomputable def PQ (d:At) (m:Au):Int:=if (CR d.2.2.1 m.2.2.2.1 m.2.2.2.2.2.1).1 < m.2.2.2.2.2.2.1 then m.2.2.2.2.2.2.1 else (CR d.2.2.1 m.2.2.2.1 m.2.2.2.2.2.1).1
noncomputable def Ua (d:At) (m:Au):List AU:=Gr.join Cy m.2.2.2.2.2.2.2.1 (CR d.2.2.1 m.2.2.2.1 m.2.2.2.2.2.1).2
noncomputable def KN (d:At) (m:Au):AD:=(m.2.2.2.1,m.2.2.2.2.1,m.2.2.2.2.1,1,m.2.2.2.2.2.1,PQ d m,Ua d m,decide (PQ d m=m.2.2.2.2.2.2.1)&&decide (((Ua d m).length:Int)=(m.2.2.2.2.2.2.2.1.length:Int)))
def putN (d:At) (x:AD):At:=(d.1,d.2.1,EH d.2.2.1 x,d.2.2.2)
noncomputable def RC (d:At) (m:Au):Gv :=
 if (decide (m.2.2.2.2.1 < (atI d.2.2.1 m.2.2.2.1).2.1)||decide (1 < (atI d.2.2.1 m.2.2.2.1).2.2.2.1))=true then noG d
 else if (decide ((atI d.2.2.1 m.2.2.2.1).2.2.2.1=1)&&decide ((atI d.2.2.1 m.2.2.2.1).2.2.1=m.2.2.2.2.1))=true then (d,[Sz d.1 m (atI d.2.2.1 m.2.2.2.1)],true)
 else if Da (KN d m)=true then (putN d (KN d m),[Sz d.1 m (KN d m)],true) else noG d
theorem VM {d:At} {m:Au} (h:NodeF d) (hm:MsgF m):Dl (Ua d m)=true:=UR hm.deps (FV h.is _ _).deps
theorem mI {d:At} {m:Au} (h:NodeF d) (hm:MsgF m):1≤PQ d m∧PQ d m≤61:=by
 have:=(FV h.is m.2.2.2.1 m.2.2.2.2.2.1).seq
 have:=hm.seq
 unfold PQ
 split<;>omega
theorem RD {d:At} {m:Au} (h:NodeF d) (hm:MsgF m):Gc (KN d m):=⟨hm.small.1,by have:=Ex (VM h hm);show (Ua d m).length≤_;omega⟩
theorem YB {d:At} {m:Au} (h:NodeF d) (hm:MsgF m):Ok.ok (KN d m):=by
 have h1:=hm.bal
 have h2:=mI h hm
 have z1:inR 1:=by unfold inR;omega
 have zb:inR m.2.2.2.2.1:=by unfold inR;omega
 exact ⟨PB hm.id,zb,zb,z1,JT hm.cmd,by show inR (PQ d m);unfold inR;omega,Nk (VM h hm),trivial⟩
def unk (d:At) (id:AU):Bool:=decide (id.1=d.1)&&decide (d.2.1≤id.2)
theorem cD {d:At} {m:Au} (h:NodeF d) (hm:MsgF m) (hu:unk d m.2.2.2.1=false):Qh d m=some (RC d m):=by
 have hs:=h.s
 have hln:=Dh h.is
 unfold Qh RC;refine AN (Hp om hs.sm m.2.2.2.1) ?_
 have hsx:=FU hs.sm m.2.2.2.1
 generalize atI d.2.2.1 m.2.2.2.1=x at hsx;generalize q1:(decide (m.2.2.2.2.1 < x.2.1)||decide (1 < x.2.2.2.1))=c1
 cases c1 with
 | true=>rfl
 | false =>
  rw [cond_false,if_neg Bool.false_ne_true];generalize q2:(decide (x.2.2.2.1=1)&&decide (x.2.2.1=m.2.2.2.2.1))=c2
  cases c2 with
  | true =>
   rw [cond_true,if_pos rfl];exact AN (YA d m hsx) rfl
  | false =>
   rw [cond_false,if_neg Bool.false_ne_true];refine AN (OP (c:=m.2.2.2.2.2.1) h.is hs.ok.2.2.1 (JT hm.cmd) m.2.2.2.1) ?_
   have ha:=FV h.is m.2.2.2.1 m.2.2.2.2.2.1
   have hda:=Ex ha.deps
   have hdm:=Ex hm.deps
   refine AN (Tt om om) ?_
   have e1:(cond (decide ((CR d.2.2.1 m.2.2.2.1 m.2.2.2.2.2.1).1 < m.2.2.2.2.2.2.1)) (some (.inl (m.2.2.2.2.2.2.1))) (some (.inl ((CR d.2.2.1 m.2.2.2.1 m.2.2.2.2.2.1).1))):Option (Int ⊕ Gv))=some (.inl (PQ d m)):=by
    unfold PQ
    by_cases hq:(CR d.2.2.1 m.2.2.2.1 m.2.2.2.2.2.1).1 < m.2.2.2.2.2.2.1
    ·rw [decide_eq_true hq,cond_true,if_pos hq]
    ·rw [decide_eq_false hq,cond_false,if_neg hq]
   rw [e1,SA];refine AN (GD (c:=m.2.2.2.2.2.1) hm.small.1) ?_;refine AN (Kz (x:=KN d m) (YB h hm)) ?_;rw [show (decide (m.2.2.2.1.1=d.1)&&decide (d.2.1≤m.2.2.2.1.2))=false from hu,Bool.or_false]
   cases hi:Da (KN d m) with
   | false=>rfl
   | true =>
    rw [Bool.not_true,cond_false,if_pos rfl];refine AN (Hi h.is (KN d m)) ?_;exact AN (YA (putN d (KN d m)) m (RD h hm)) rfl
theorem iB {d:At} {m:Au} (h:NodeF d) (hm:MsgF m):Kv d m=some ((RC d m).2.1,(RC d m).2.2,(RC d m).1):=by
 have hs:=h.s
 have hln:=Dh h.is
 unfold Kv RC;refine AN (Hq om hs.sm m.2.2.2.1) ?_
 have hsx:=FU hs.sm m.2.2.2.1
 have hid:=HU d.2.2.1 m.2.2.2.1
 generalize atI d.2.2.1 m.2.2.2.1=x at hsx hid;generalize q1:(decide (m.2.2.2.2.1 < x.2.1)||decide (1 < x.2.2.2.1))=c1
 cases c1 with
 | true=>rfl
 | false =>
  rw [cond_false,if_neg Bool.false_ne_true,← Bool.not_and];generalize q2:(decide (x.2.2.2.1=1)&&decide (x.2.2.1=m.2.2.2.2.1))=c2
  cases c2 with
  | true =>
   rw [Bool.not_true,cond_false,if_pos rfl];exact AN (NS d m (r:=(2,0,0,(0,0),m.2.2.2.2.1,Ih,x.2.2.2.2.2.1,x.2.2.2.2.2.2.1,0,(-1),x.2.2.2.2.2.2.2)) ⟨Nat.zero_le _,hsx.2⟩) rfl
  | false =>
   rw [Bool.not_false,cond_true,if_neg Bool.false_ne_true];refine AN (OQ (c:=m.2.2.2.2.2.1) h.is hs.ok.2.2.1 (JT hm.cmd) m.2.2.2.1) ?_
   have ha:=FV h.is m.2.2.2.1 m.2.2.2.2.2.1
   refine AN (OM (c:=m.2.2.2.2.2.1) hm.small.1) ?_;refine AN (Sy hm.deps ha.deps) ?_
   have e1:(if (CR d.2.2.1 m.2.2.2.1 m.2.2.2.2.2.1).1 > m.2.2.2.2.2.2.1 then (CR d.2.2.1 m.2.2.2.1 m.2.2.2.2.2.1).1 else m.2.2.2.2.2.2.1)=PQ d m:=by
    unfold PQ
    split<;>split<;>omega
   have hdl:=Ex (VM h hm)
   have e2:decide (Gr.join Cy m.2.2.2.2.2.2.2.1 (CR d.2.2.1 m.2.2.2.1 m.2.2.2.2.2.1).2=m.2.2.2.2.2.2.2.1)=decide (((Ua d m).length:Int)=(m.2.2.2.2.2.2.2.1.length:Int)):=by
    rw [← fD hm.deps ha.deps];unfold Ua;rw [Bool.eq_iff_iff,decide_eq_true_eq,decide_eq_true_eq];omega
   rw [e1,VL (show (Gr.join Cy m.2.2.2.2.2.2.2.1 (CR d.2.2.1 m.2.2.2.1 m.2.2.2.2.2.1).2).length≤9223372036854775807 by unfold Ua at hdl;omega),e2,PY (fun hh=>by rw [hh];rfl)];rw [hid]
   have hp:=Ie (d:=d) (x:=KN d m) hs.ok.2.2.1 (YB h hm) h.is hs.sm (RD h hm)
   refine AN hp ?_
   cases hi:Da (KN d m) with
   | false=>rfl
   | true =>
    rw [if_pos rfl,if_pos rfl,Bool.not_true,cond_false];exact AN (NS (putN d (KN d m)) m (r:=(2,0,0,(0,0),m.2.2.2.2.1,Ih,(KN d m).2.2.2.2.2.1,(KN d m).2.2.2.2.2.2.1,0,(-1),(KN d m).2.2.2.2.2.2.2)) ⟨Nat.zero_le _,(RD h hm).2⟩) rfl
def OS (m:Au):AD:=(m.2.2.2.1,m.2.2.2.2.1,m.2.2.2.2.1,2,m.2.2.2.2.2.1,m.2.2.2.2.2.2.1,m.2.2.2.2.2.2.2.1,false)
noncomputable def RE (d:At) (m:Au):Gv :=
 if (decide (m.2.2.2.2.1 < (atI d.2.2.1 m.2.2.2.1).2.1)||decide ((atI d.2.2.1 m.2.2.2.1).2.2.2.1=3))=true then noG d
 else if Da (OS m)=true then (putN d (OS m),[UT d.1 m],true) else noG d
def PR (x:AD) (m:Au):AD:=(m.2.2.2.1,x.2.1,x.2.2.1,3,m.2.2.2.2.2.1,m.2.2.2.2.2.2.1,m.2.2.2.2.2.2.2.1,false)
noncomputable def RF (d:At) (m:Au):Gv :=
 if decide ((atI d.2.2.1 m.2.2.2.1).2.2.2.1=3)=true then noG d
 else if Da (PR (atI d.2.2.1 m.2.2.2.1) m)=true then ((d.1,d.2.1,EH d.2.2.1 (PR (atI d.2.2.1 m.2.2.2.1) m),GS d.2.2.2 m.2.2.2.1),[],true) else noG d
noncomputable def NT (d:At) (m:Au):Gv :=
 if decide (m.2.2.2.2.1≤(atI d.2.2.1 m.2.2.2.1).2.1)=true then noG d
 else (putN d (JS (atI d.2.2.1 m.2.2.2.1) m.2.2.2.2.1),[Tb d.1 m (atI d.2.2.1 m.2.2.2.1)],true)
theorem YC {m:Au} (hm:MsgF m):Ok.ok (OS m):=by
 have h1:=hm.bal
 have h2:=hm.seq
 have zb:inR m.2.2.2.2.1:=by unfold inR;omega
 have zs:inR m.2.2.2.2.2.2.1:=by unfold inR;omega
 exact ⟨PB hm.id,zb,zb,by show inR 2;unfold inR;omega,JT hm.cmd,zs,Nk hm.deps,trivial⟩
theorem cE {d:At} {m:Au} (h:NodeF d) (hm:MsgF m) (hu:unk d m.2.2.2.1=false):Qi d m=some (RE d m):=by
 have hs:=h.s
 have hln:=Dh h.is
 have hdm:=Ex hm.deps
 unfold Qi RE;refine AN (Hp om hs.sm m.2.2.2.1) ?_;refine AN (GD (c:=m.2.2.2.2.2.1) hm.small.1) ?_;rw [ob,Cp (by simp;omega),ob,List.nil_append];generalize atI d.2.2.1 m.2.2.2.1=x;rw [show Gs (m.2.2.2.1,m.2.2.2.2.1,m.2.2.2.2.1,2,_,m.2.2.2.2.2.2.1,m.2.2.2.2.2.2.2.1,false)=_ from Kz (x:=OS m) (YC hm)];rw [show (decide (m.2.2.2.1.1=d.1)&&decide (d.2.1≤m.2.2.2.1.2))=false from hu];generalize q1:(decide (m.2.2.2.2.1 < x.2.1)||decide (x.2.2.2.1=3))=c1
 cases c1 with
 | true=>rfl
 | false =>
  rw [Bool.not_false,Dn,ob,Bool.false_or,Bool.or_false,if_neg Bool.false_ne_true]
  cases hi:Da (OS m) with
  | false=>rfl
  | true =>
   rw [Bool.not_true,cond_false,if_pos rfl];refine AN (Hi h.is (OS m)) ?_;exact AN (hZ (putN d (OS m)) m (OS m)) rfl
theorem iC {d:At} {m:Au} (h:NodeF d) (hm:MsgF m):Kw d m=some ((RE d m).2.1,(RE d m).2.2,(RE d m).1):=by
 have hs:=h.s
 have hln:=Dh h.is
 unfold Kw RE;refine AN (Hq om hs.sm m.2.2.2.1) ?_;generalize atI d.2.2.1 m.2.2.2.1=x;generalize q1:(decide (m.2.2.2.2.1 < x.2.1)||decide (x.2.2.2.1=3))=c1
 cases c1 with
 | true=>rfl
 | false =>
  rw [cond_false,if_neg Bool.false_ne_true]
  have hp:=Ie (d:=d) (x:=OS m) hs.ok.2.2.1 (YC hm) h.is hs.sm hm.small
  refine AN hp ?_
  cases hi:Da (OS m) with
  | false=>rfl
  | true =>
   rw [if_pos rfl,if_pos rfl,Bool.not_true,cond_false];exact AN (NS (putN d (OS m)) m (r:=(4,0,0,(0,0),m.2.2.2.2.1,Ih,0,([]:List AU),0,(-1),false)) ⟨Nat.zero_le _,Nat.zero_le _⟩) rfl
theorem SB {d:At} (h:NodeF d) (id:AU):(-1≤(atI d.2.2.1 id).2.1∧(atI d.2.2.1 id).2.1≤600)∧(-1≤(atI d.2.2.1 id).2.2.1∧(atI d.2.2.1 id).2.2.1≤600)∧(0≤(atI d.2.2.1 id).2.2.2.1∧(atI d.2.2.1 id).2.2.2.1≤3):=by
 rcases Nj d.2.2.1 id with q | q
 ·have:=h.insF q
  have h1:=this.bal
  have h2:=this.vbal
  have h3:=this.st
  omega
 rw [q];refine ⟨⟨?_,?_⟩,⟨?_,?_⟩,⟨?_,?_⟩⟩<;>dsimp only<;>omega
theorem YD {d:At} (h:NodeF d) {m:Au} (hm:MsgF m):Ok.ok (PR (atI d.2.2.1 m.2.2.2.1) m):=by
 have h1:=SB h m.2.2.2.1
 have h2:=hm.seq
 have zb:inR (atI d.2.2.1 m.2.2.2.1).2.1:=by unfold inR;omega
 have zv:inR (atI d.2.2.1 m.2.2.2.1).2.2.1:=by unfold inR;omega
 have zs:inR m.2.2.2.2.2.2.1:=by unfold inR;omega
 exact ⟨PB hm.id,zb,zv,by show inR 3;unfold inR;omega,JT hm.cmd,zs,Nk hm.deps,trivial⟩
theorem cF {d:At} {m:Au} (h:NodeF d) (hm:MsgF m) (hu:unk d m.2.2.2.1=false):Qj d m=some (RF d m):=by
 have hs:=h.s
 have hln:=Dh h.is
 have hdm:=Ex hm.deps
 have hll:=h.ll
 unfold Qj RF;refine AN (Hp om hs.sm m.2.2.2.1) ?_;refine AN (GD (c:=m.2.2.2.2.2.1) hm.small.1) ?_;rw [ob,Cp (by simp;omega),ob,List.nil_append]
 have hok:=YD h hm
 generalize atI d.2.2.1 m.2.2.2.1=x at hok;rw [show Gs (m.2.2.2.1,x.2.1,x.2.2.1,3,_,m.2.2.2.2.2.2.1,m.2.2.2.2.2.2.2.1,false)=_ from Kz (x:=PR x m) hok];rw [show (decide (m.2.2.2.1.1=d.1)&&decide (d.2.1≤m.2.2.2.1.2))=false from hu]
 cases decide (x.2.2.2.1=3) with
 | true=>rfl
 | false =>
  rw [Bool.not_false,Dn,ob,Bool.false_or,Bool.or_false,if_neg Bool.false_ne_true]
  cases hi:Da (PR x m) with
  | false=>rfl
  | true =>
   rw [Bool.not_true,cond_false,if_pos rfl];refine AN (Hi h.is (PR x m)) ?_;exact AN (PP (d:=(d.1,d.2.1,EH d.2.2.1 (PR x m),d.2.2.2)) (by show d.2.2.2.length≤_;omega) m.2.2.2.1) rfl
theorem iD {d:At} {m:Au} (h:NodeF d) (hm:MsgF m):Kx d m=some ((RF d m).2.1,(RF d m).2.2,(RF d m).1):=by
 have hs:=h.s
 have hln:=Dh h.is
 have hll:=h.ll
 unfold Kx RF;refine AN (Hq om hs.sm m.2.2.2.1) ?_
 have hok:=YD h hm
 generalize atI d.2.2.1 m.2.2.2.1=x at hok
 cases decide (x.2.2.2.1=3) with
 | true=>rfl
 | false =>
  rw [cond_false,if_neg Bool.false_ne_true]
  have hp:=Ie (d:=d) (x:=PR x m) hs.ok.2.2.1 hok h.is hs.sm hm.small
  refine AN hp ?_
  cases hi:Da (PR x m) with
  | false=>rfl
  | true =>
   rw [if_pos rfl,if_pos rfl,Bool.not_true,cond_false];exact AN (Py (d:=(d.1,d.2.1,EH d.2.2.1 (PR x m),d.2.2.2)) (by show d.2.2.2.length≤_;omega) m.2.2.2.1) rfl
theorem Zt {d:At} {m:Au} (h:NodeF d) (hm:MsgF m) (hu:unk d m.2.2.2.1=false):OE d m=some (NT d m):=by
 have hs:=h.s
 have hln:=Dh h.is
 unfold OE NT;refine AN (Hp om hs.sm m.2.2.2.1) ?_
 have hsx:=FU hs.sm m.2.2.2.1
 generalize atI d.2.2.1 m.2.2.2.1=x at hsx;rw [show (decide (m.2.2.2.1.1=d.1)&&decide (d.2.1≤m.2.2.2.1.2))=false from hu,Bool.or_false]
 cases decide (m.2.2.2.2.1≤x.2.1) with
 | true=>rfl
 | false =>
  rw [cond_false,if_neg Bool.false_ne_true];refine AN (Hi h.is (JS x m.2.2.2.2.1)) ?_;exact AN (iA (putN d (JS x m.2.2.2.2.1)) m (x:=JS x m.2.2.2.2.1) hsx) rfl
theorem fE {d:At} {m:Au} (h:NodeF d) (hm:MsgF m):JL d m=some ((NT d m).2.1,(NT d m).2.2,(NT d m).1):=by
 have hs:=h.s
 have hln:=Dh h.is
 unfold JL NT;refine AN (Hq om hs.sm m.2.2.2.1) ?_
 have hsx:=FU hs.sm m.2.2.2.1
 have hid:=HU d.2.2.1 m.2.2.2.1
 have hb:=SB h m.2.2.2.1
 have hmb:=hm.bal
 have hok:=fun hb=>Qu h.is (id:=m.2.2.2.1) hm.id (b:=m.2.2.2.2.1) hb hmb.1 hmb.2
 generalize atI d.2.2.1 m.2.2.2.1=x at hsx hid hb hok
 by_cases hq:m.2.2.2.2.1≤x.2.1
 ·rw [decide_eq_true hq];rfl
 rw [decide_eq_false hq,cond_false,if_neg Bool.false_ne_true]
 have hi:=hok om
 have hp:=Ie (d:=d) (x:=JS x m.2.2.2.2.1) hs.ok.2.2.1 (CY.1 hi).okk h.is hs.sm hsx
 rw [hi,if_pos rfl] at hp;refine AN hp ?_;rw [Bool.not_true,cond_false];exact AN (NS (putN d (JS x m.2.2.2.2.1)) m (r:=(7,0,0,(0,0),m.2.2.2.2.1,x.2.2.2.2.1,x.2.2.2.2.2.1,x.2.2.2.2.2.2.1,x.2.2.2.1,x.2.2.1,x.2.2.2.2.2.2.2)) hsx) rfl
theorem Qv {α β:Type} {o:Option β} {r:β} (h:o=some r):Option.map (Sum.inr:β→α ⊕ β) o=some (.inr r):=by rw [h];rfl
theorem RG {d:At} (hd:NodeS d) {k:Nat} {l:Bb} (hk:d.2.2.2[k]?=some l) (hlf:LeadF l):DL d (k:Int) 3=some ((IX d l).2,(IX d l).1):=by
 have hln:=Dh hd.is
 have hl:=hd.lsm l (List.mem_of_getElem? hk)
 have hol:Ok.ok l:=hlf.okk
 unfold DL IX;rw [BV,hk,ob,show Ga d.2.2.1 l.1=_ from Hq om hd.sm l.1,ob]
 have he:=HU d.2.2.1 l.1
 have hsx:=FU hd.sm l.1
 have hok:=aB hd.is hlf
 generalize atI d.2.2.1 l.1=x at he hsx hok
 by_cases hb:x.2.1=l.2.1
 ·have hoa:Ok.ok (Ry x l):=(CY.1 (hok hb)).okk
  rw [decide_eq_true hb,Bool.not_true,cond_false,if_pos hb,GL (by have:=hl.1;omega),ob,show decide ((3:Int)=2)=false from rfl,cond_false];refine AN (Py (d:=d) (by have:=hd.ls;omega) l.1) ?_
  have hp:=Ie (d:=(d.1,d.2.1,d.2.2.1,GS d.2.2.2 l.1)) (x:=Ry x l) hd.ok.2.2.1 hoa hd.is hd.sm ⟨hsx.1,hl.1⟩
  rw [hok hb,if_pos rfl] at hp;refine AN hp ?_;exact AN (Lf (d.1,d.2.1,EH d.2.2.1 (Ry x l),GS d.2.2.2 l.1) (m:=(5,0,0,l.1,0,x.2.2.2.2.1,l.2.2.2.1,l.2.2.2.2.1,0,(-1),false)) ⟨hsx.1,hl.1⟩ rfl) rfl
 rw [decide_eq_false hb,Bool.not_false,cond_true,if_neg hb,show Gb _ _=_ from Py (d:=d) (by have:=hd.ls;omega) l.1];rfl
theorem iE {l:List Int} (h1:∀ n,n∈l→0≤n∧n < 3) (h2:l.Pairwise (· < ·)):Hw l=true:=by
 unfold Hw;rw [List.all_eq_true];intro k hk;rw [List.mem_range] at hk
 have hx:l[k]?=some l[k]:=List.getElem?_eq_getElem hk
 unfold Qq;rw [hx]
 have hm:=h1 _ (List.getElem_mem hk)
 simp only [Bool.and_eq_true,Bool.or_eq_true,decide_eq_true_eq];refine ⟨hm,?_⟩;rcases Nat.eq_zero_or_pos k with h0 | h0
 ·exact .inl h0
 right;rw [List.getElem?_eq_getElem (show k - 1 < l.length by omega)];exact decide_eq_true (List.pairwise_iff_getElem.1 h2 (k - 1) k om hk om)
theorem fF {ls:List Bb} (h:∀ (k:Nat) (l:Bb),ls[k]?=some l→(ls.findIdx? fun y=>BT y.1 l.1)=some k):(ls.map (·.1)).Nodup:=by
 rw [List.nodup_iff_pairwise_ne,List.pairwise_map,List.pairwise_iff_getElem];intro i j hi hj hij he
 have h1:=h i _ (List.getElem?_eq_getElem hi)
 have h2:=h j _ (List.getElem?_eq_getElem hj)
 rw [he,h2] at h1
 have:=Option.some.inj h1
 omega
theorem fG {ls:List Bb} (h:(ls.map (·.1)).Nodup) {k:Nat} {l:Bb} (hk:ls[k]?=some l):(ls.findIdx? fun y=>BT y.1 l.1)=some k:=by
 obtain ⟨h1,h2⟩:=List.getElem?_eq_some_iff.1 hk;rw [List.nodup_iff_pairwise_ne,List.pairwise_map,List.pairwise_iff_getElem] at h;refine List.findIdx?_eq_some_iff_getElem.2 ⟨h1,?_,fun j hj=>?_⟩
 ·rw [h2,EP];simp
 rw [EP,Bool.not_eq_true,decide_eq_false_iff_not];intro e;exact h j k om h1 hj (by rw [h2];exact e)
theorem NodeF.nd {d:At} (h:NodeF d):(d.2.2.2.map (·.1)).Nodup:=fF fun k l hk=>(h.ld k l hk).2
theorem NodeF.mk' {d:At} (h1:0≤d.1∧d.1 < 3) (h2:1≤d.2.1∧d.2.1≤7) (h3:Dk d.2.2.1=true) (h4:d.2.2.2.length≤8) (h5:∀ x,x∈d.2.2.1→x.1.1=d.1→x.1.2 < d.2.1) (h6:∀ l,l∈d.2.2.2→LeadF l) (h7:(d.2.2.2.map (·.1)).Nodup):NodeF d :=
 ⟨h1,h2,h3,h4,h5,fun _ l hk=>⟨h6 l (List.mem_of_getElem? hk),fG h7 hk⟩⟩
theorem nodeF.ok {d:At} (h:NodeF d):Ft d=true:=by
 unfold Ft;simp only [Bool.and_eq_true,decide_eq_true_eq,List.all_eq_true,Bool.not_eq_true',Bool.and_eq_false_iff,decide_eq_false_iff_not,List.mem_range];refine ⟨⟨⟨⟨⟨h.me,h.nx⟩,h.is⟩,by have:=h.ll;omega⟩,fun x hx=>?_⟩,fun k hk=>?_⟩
 ·by_cases he:x.1.1=d.1
  ·right
   have:=h.own x hx he
   omega
  exact .inl he
 have hx:d.2.2.2[k]?=some d.2.2.2[k]:=List.getElem?_eq_getElem hk
 obtain ⟨h1,h2⟩:=h.ld k _ hx;unfold Iz;rw [hx];simp only [Bool.and_eq_true,decide_eq_true_eq];exact ⟨leadF.ok h1,ML h2⟩
theorem NodeF.putN {d:At} (h:NodeF d) {x:AD} (hx:InstF x) (hu:unk d x.1=false):NodeF (putN d x):=by
 refine NodeF.mk' h.me h.nx (VG h.is (CY.2 hx)) h.ll (fun y hy he=>?_) (fun l hl=>h.ldF hl) h.nd;rcases My.1 hy with q | ⟨q,_⟩
 ·subst q;unfold unk at hu;simp only [Bool.and_eq_false_iff,decide_eq_false_iff_not] at hu;rcases hu with r | r
  ·exact absurd he r
  show y.1.2 < d.2.1;omega
 exact h.own y q he
def EW (d:At) (l:Bb):At:=(d.1,d.2.1,d.2.2.1,DR d.2.2.2 l)
def jQ (d:At) (id:AU):At:=(d.1,d.2.1,d.2.2.1,GS d.2.2.2 id)
theorem cG {ls:List Bb} {k:Nat} {l m:Bb} (hk:ls[k]?=some l) (he:m.1=l.1):(ls.set k m).map (·.1)=ls.map (·.1):=by
 refine List.ext_getElem? fun i=>?_;rw [List.getElem?_map,List.getElem?_map]
 by_cases hi:i=k
 ·subst hi;rw [List.getElem?_set_self (List.getElem?_eq_some_iff.1 hk).1,hk];simp [he]
 rw [List.getElem?_set_ne (fun e=>hi e.symm)]
theorem Tw (ls:List Bb) (l:Bb):((∃ k m,ls[k]?=some m∧m.1=l.1∧DR ls l=ls.set k l))∨((∀ m,m∈ls→m.1≠l.1)∧DR ls l=ls++[l]):=by
 unfold DR
 cases hf:ls.findIdx? fun y=>BT y.1 l.1 with
 | none =>
  refine .inr ⟨fun m hm he=>?_,rfl⟩
  have:=List.findIdx?_eq_none_iff.1 hf m hm
  rw [EP,decide_eq_false_iff_not] at this;exact this he
 | some k =>
  obtain ⟨h1,h2,_⟩:=List.findIdx?_eq_some_iff_getElem.1 hf;rw [EP] at h2;exact .inl ⟨k,_,List.getElem?_eq_getElem h1,of_decide_eq_true h2,rfl⟩
theorem NodeF.putL {d:At} (h:NodeF d) {l:Bb} (hl:LeadF l) (hr:(∃ m,m∈d.2.2.2∧m.1=l.1)∨d.2.2.2.length < 8):NodeF (EW d l):=by
 rcases Tw d.2.2.2 l with ⟨k,m,hk,he,hp⟩ | ⟨hn,hp⟩
 ·refine NodeF.mk' h.me h.nx h.is ?_ h.own (fun y hy=>?_) ?_
  ·show (DR d.2.2.2 l).length≤8;rw [hp,List.length_set];exact h.ll
  ·rcases Lg hy with q | q
   ·exact h.ldF q
   rw [q];exact hl
  show ((DR d.2.2.2 l).map (·.1)).Nodup;rw [hp,cG hk he.symm];exact h.nd
 have h8:d.2.2.2.length < 8:=by
  rcases hr with ⟨m,hm,he⟩ | h8
  ·exact absurd he (hn m hm)
  ·exact h8
 refine NodeF.mk' h.me h.nx h.is ?_ h.own (fun y hy=>?_) ?_
 ·show (DR d.2.2.2 l).length≤8;rw [hp,List.length_append,List.length_singleton];omega
 ·rcases Lg hy with q | q
  ·exact h.ldF q
  rw [q];exact hl
 show ((DR d.2.2.2 l).map (·.1)).Nodup;rw [hp,List.map_append,List.nodup_append];refine ⟨h.nd,by simp,fun a ha b hb=>?_⟩;simp only [List.map_cons,List.map_nil,List.mem_singleton] at hb;subst hb;obtain ⟨m,hm,rfl⟩:=List.mem_map.1 ha;exact hn m hm
theorem NodeF.drp {d:At} (h:NodeF d) (id:AU):NodeF (jQ d id):=by
 refine NodeF.mk' h.me h.nx h.is ?_ h.own (fun y hy=>h.ldF (List.mem_filter.1 hy).1) ?_
 ·have:=List.length_filter_le (fun y:Bb=>!BT y.1 id) d.2.2.2
  have:=h.ll
  show (GS _ _).length≤_;unfold GS;omega
 show ((GS d.2.2.2 id).map (·.1)).Nodup;unfold GS;exact List.Nodup.sublist (List.Sublist.map _ List.filter_sublist) h.nd
theorem Gn {d:At} (h:NodeF d) {id:AU} {l:Bb} (hf:(d.2.2.2.find? fun y=>BT y.1 id)=some l):l∈d.2.2.2∧l.1=id∧LeadF l:=by
 have hm:=List.mem_of_find?_eq_some hf
 exact ⟨hm,mH (k:=0) hf,h.ldF hm⟩
def mJ (d:At):Prop:=∀ l,l∈d.2.2.2→unk d l.1=false
def VN (d:At):Prop:=∀ l,l∈d.2.2.2→l.2.2.1=3→l.2.2.2.2.2.2=false
def NA (l:List Int) (n:Int) (k:Nat):List Int:=((List.range k).map fun t:Nat=>(t:Int)).filter fun t=>decide (t=n)||l.any fun y=>decide (y=t)
def MN (l:List Int) (n:Int):List Int:=NA l n 3
theorem fH (l:List Int) (n:Int) (k:Nat):NA l n (k+1)=if (decide ((k:Int)=n)||l.any fun y=>decide (y=(k:Int)))=true then NA l n k++[(k:Int)] else NA l n k:=by
 unfold NA;rw [List.range_succ,List.map_append,List.filter_append]
 by_cases h:(decide ((k:Int)=n)||l.any fun y=>decide (y=(k:Int)))=true
 ·rw [if_pos h];simp [h]
 rw [if_neg h];simp [h]
theorem iF (l:List Int) (n:Int) (k:Nat):(NA l n k).length≤k:=by
 unfold NA;refine Nat.le_trans (List.length_filter_le _ _) ?_;simp
theorem KC (l:List Int) (n:Int):(∀ x,x∈MN l n↔(0≤x∧x < 3)∧(x=n∨x∈l))∧(MN l n).Pairwise (· < ·):=by
 constructor
 ·intro x;unfold MN NA;rw [List.mem_filter,List.mem_map];simp only [List.mem_range,Bool.or_eq_true,decide_eq_true_eq,List.any_eq_true]
  constructor
  ·rintro ⟨⟨a,ha,rfl⟩,q⟩;refine ⟨by omega,q.imp id ?_⟩;rintro ⟨y,hy,rfl⟩;exact hy
  rintro ⟨h,q⟩;exact ⟨⟨x.toNat,by omega,by omega⟩,q.imp id fun q=>⟨x,q,rfl⟩⟩
 unfold MN NA;refine List.Pairwise.filter _ ?_
 decide
theorem iG (l:List Int) (n:Int):Hw (MN l n)=true:=iE (fun x hx=>(((KC l n).1 x).1 hx).1) (KC l n).2
theorem cH {l:List Int} {n:Int} (hl:Hw l=true) (hn:0≤n∧n < 3) (hx:(l.any fun y=>decide (y=n))=false):PZ (l++[n])=some (MN l n):=by
 have h1:=Ja hl
 have h2:=Li hl
 have hni:n ∉ l:=fun hm=>by
  have:=List.any_eq_false.1 hx n hm
  simp at this
 unfold PZ;rw [if_pos (by simp;omega)];refine congrArg some ?_
 have hp:((l++[n]).mergeSort fun x y=>decide (x≤y)).Perm (MN l n):=by
  refine (List.mergeSort_perm _ _).trans ((List.perm_ext_iff_of_nodup ?_ ?_).2 fun x=>?_)
  ·rw [List.nodup_append];refine ⟨h1.2.imp fun {a b} h e=>by omega,by simp,fun a ha b hb=>?_⟩;rw [List.mem_singleton] at hb;subst hb;exact fun e=>hni (e ▸ ha)
  ·exact (KC l n).2.imp fun {a b} h e=>by omega
  ·rw [(KC l n).1,List.mem_append,List.mem_singleton]
   constructor
   ·rintro (q | q)
    ·exact ⟨h1.1 x q,.inr q⟩
    ·exact ⟨by omega,.inl q⟩
   ·rintro ⟨_,q | q⟩
    ·exact .inr q
    ·exact .inl q
 refine NI (lt:=fun a b:Int=>decide (a < b)) hp ?_ ?_ fun a b _ _=>?_
 ·have hs:=List.pairwise_mergeSort (le:=fun x y:Int=>decide (x≤y)) (fun a b c h1 h2=>by simp at h1 h2 ⊢;omega) (fun a b=>by simp;omega) (l++[n])
  exact hs.imp fun {a b} h=>by simp at h ⊢;omega
 ·exact (KC l n).2.imp fun {a b} h=>by simp;omega
 simp only [decide_eq_true_eq];omega
def Dm (l:Bb) (m:Au):Bb:=(l.1,l.2.1,l.2.2.1,(if l.2.2.2.1 < m.2.2.2.2.2.2.1 then m.2.2.2.2.2.2.1 else l.2.2.2.1),Gr.join Cy l.2.2.2.2.1 m.2.2.2.2.2.2.2.1,MN l.2.2.2.2.2.1 m.2.1,(l.2.2.2.2.2.2&&m.2.2.2.2.2.2.2.2.2.2))
noncomputable def UU (d:At) (l:Bb) (m:Au):Gv :=
 if ((!decide (m.2.2.2.2.1=m.2.2.2.1.1))||(!l.2.2.2.2.2.2))=true then ((HI (EW d l) l).1,(HI (EW d l) l).2,true)
 else if decide (2≤(l.2.2.2.2.2.1.length:Int))=true then ((IX (EW d l) l).1,(IX (EW d l) l).2,true) else (EW d l,[],true)
noncomputable def JU (d:At) (m:Au):Gv:=match d.2.2.2.find? fun y=>BT y.1 m.2.2.2.1 with
 | none=>noG d
 | some l=>if ((decide (l.2.1=m.2.2.2.2.1)&&decide (l.2.2.1=1))&&!(l.2.2.2.2.2.1.any fun y=>decide (y=m.2.1)))=true then UU d (Dm l m) m else noG d
theorem Ub {l:Bb} {m:Au} (hl:LeadF l) (hm:MsgF m) (he:l.1=m.2.2.2.1):LeadF (Dm l m):=by
 refine ⟨hl.id,hl.bal,hl.ph,?_,UR hl.deps hm.deps,?_,iG _ _⟩
 ·have:=hl.seq
  have:=hm.seq
  show 0≤(if l.2.2.2.1 < m.2.2.2.2.2.2.1 then m.2.2.2.2.2.2.1 else l.2.2.2.1)∧(if l.2.2.2.1 < m.2.2.2.2.2.2.1 then m.2.2.2.2.2.2.1 else l.2.2.2.1)≤60
  split<;>omega
 show ((Gr.join Cy l.2.2.2.2.1 m.2.2.2.2.2.2.2.1).any fun y=>BT y l.1)=false;rw [List.any_eq_false];intro y hy;rcases (Yz hl.deps hm.deps y).1 hy with q | q
 ·exact List.any_eq_false.1 hl.self y q
 rw [he];exact List.any_eq_false.1 hm.self y q
theorem YE {d:At} {m:Au} (h:NodeF d) (hm:MsgF m):MY d m=some (JU d m):=by
 have hs:=h.s
 have hll:=h.ll
 have hfr:=hm.frm
 unfold MY JU;refine AN (JM (d:=d) (x:=m.2.2.2.1) om) ?_;rcases FJ (fun y:Bb=>BT y.1 m.2.2.2.1) d.2.2.2 with ⟨h1,h2⟩ | ⟨k,l,h1,h2,h3⟩
 ·rw [h1,h2];rfl
 rw [h1,h3,show decide ((k:Int) < 0)=false from decide_eq_false om];obtain ⟨hlm,hlid,hlf⟩:=Gn h h3
 have hln:=Li hlf.frm
 simp only [BV,h2,Bool.not_false,Bool.false_or,Dn,ob,Bool.not_not]
 cases q1:decide (l.2.1=m.2.2.2.2.1) with
 | false=>rfl
 | true =>
  rw [Bool.not_true,Dn,ob,Bool.false_or,Bool.true_and]
  cases q2:decide (l.2.2.1=1) with
  | false=>rfl
  | true =>
   rw [Bool.not_true,cond_false,Bool.true_and]
   cases hany:l.2.2.2.2.2.1.any fun y=>decide (y=m.2.1) with
   | true =>
    obtain ⟨y,hy,hye⟩:=List.any_eq_true.1 hany
    have hye:=of_decide_eq_true hye
    obtain ⟨j0,hj0,hyj⟩:=List.mem_iff_getElem.1 hy;rw [if_neg de];refine Dx (fun s:List Int×Int=>s=([],0)) (fun _=>0) ?_ rfl;rintro _ rfl;right;rw [show decide ((0:Int) < 3)=true from rfl,cond_true];refine Dx (fun s:Bool×Int=>∃ j:Nat,s.2=(j:Int)∧j≤j0) (fun s=>(j0 - s.2).toNat) ?_ ⟨0,rfl,Nat.zero_le _⟩;rintro ⟨b,j'⟩ ⟨j,e,hj⟩;dsimp only at e ⊢;subst e
    have hx:l.2.2.2.2.2.1[j]?=some l.2.2.2.2.2.1[j]:=List.getElem?_eq_getElem om
    rw [decide_eq_true (show (j:Int) < (l.2.2.2.2.2.1.length:Int) by omega),cond_true,BV,hx,ob]
    by_cases hq:l.2.2.2.2.2.1[j]=m.2.1
    ·right;rw [decide_eq_true hq];rfl
    ·left;rw [decide_eq_false hq,cond_false]
     have hne:j≠j0:=fun e=>by subst e;exact hq (hyj.trans hye)
     rw [CE iR]
     cases b with
     | true=>exact ⟨_,rfl,⟨j+1,by simp,by omega⟩,by dsimp only;omega⟩
     | false =>
      rw [Bool.not_false,Dn,ob];exact ⟨_,rfl,⟨j+1,by simp,by omega⟩,by dsimp only;omega⟩
   | false =>
    rw [Bool.not_false,if_pos rfl];refine Dx (fun s:List Int×Int=>∃ t:Nat,t≤3∧s=(NA l.2.2.2.2.2.1 m.2.1 t,(t:Int))) (fun s=>(3 - s.2).toNat) ?_ ⟨0,by omega,rfl⟩;rintro _ ⟨t,ht,rfl⟩;dsimp only
    by_cases h3t:t < 3
    ·left;rw [decide_eq_true (show (t:Int) < 3 by omega),cond_true]
     have hal:=iF l.2.2.2.2.2.1 m.2.1 t
     refine ⟨(NA l.2.2.2.2.2.1 m.2.1 (t+1),((t+1:Nat):Int)),?_,⟨t+1,h3t,rfl⟩,by dsimp only;omega⟩;refine Dx (fun s:Bool×Int=>∃ j:Nat,s.2=(j:Int)∧j≤l.2.2.2.2.2.1.length∧s.1=(decide ((t:Int)=m.2.1)||(l.2.2.2.2.2.1.take j).any fun y=>decide (y=(t:Int)))) (fun s=>(l.2.2.2.2.2.1.length - s.2).toNat) ?_ ⟨0,rfl,Nat.zero_le _,by simp⟩;rintro ⟨b,j'⟩ ⟨j,e,hj,hb⟩;dsimp only at e hb ⊢;subst e
     by_cases hjl:j < l.2.2.2.2.2.1.length
     ·left
      have hx:l.2.2.2.2.2.1[j]?=some l.2.2.2.2.2.1[j]:=List.getElem?_eq_getElem hjl
      have hq:¬ l.2.2.2.2.2.1[j]=m.2.1:=fun e=>by
       have:=List.any_eq_false.1 hany _ (List.getElem_mem hjl)
       rw [e] at this;simp at this
      generalize l.2.2.2.2.2.1[j]=y at hx hq;rw [decide_eq_true (show (j:Int) < (l.2.2.2.2.2.1.length:Int) by omega),cond_true,BV,hx,ob,decide_eq_false hq,cond_false,CE iR]
      have hnx:(l.2.2.2.2.2.1.take (j+1)).any (fun y=>decide (y=(t:Int)))=((l.2.2.2.2.2.1.take j).any (fun y=>decide (y=(t:Int)))||decide (y=(t:Int))):=by
       rw [Fa hx,List.any_append];simp
      cases b with
      | true=>exact ⟨_,rfl,⟨j+1,by simp,hjl,by dsimp only;rw [hnx,← Bool.or_assoc,← hb];rfl⟩,by dsimp only;omega⟩
      | false =>
       rw [Bool.not_false,Dn,ob];exact ⟨_,rfl,⟨j+1,by simp,hjl,by dsimp only;rw [hnx,← Bool.or_assoc,← hb]⟩,by dsimp only;omega⟩
     ·right
      have:j=l.2.2.2.2.2.1.length:=by omega
      subst this;rw [List.take_length] at hb;rw [decide_eq_false (show ¬ (l.2.2.2.2.2.1.length:Int) < (l.2.2.2.2.2.1.length:Int) by omega),cond_false,fH,← hb,CE iR]
      cases b with
      | true=>rw [cond_true,Cp (by simp;omega),if_pos rfl];rfl
      | false=>rw [cond_false,if_neg Bool.false_ne_true];rfl
    ·right
     have:t=3:=by omega
     subst this;rw [show decide (((3:Nat):Int) < 3)=false from rfl,cond_false]
     have hLF:=Ub hlf hm hlid
     have h4:=Ex hlf.deps
     have h5:=Ex hm.deps
     have e1:(cond (decide (l.2.2.2.1 < m.2.2.2.2.2.2.1)) (some (.inl (m.2.2.2.2.2.2.1))) (some (.inl (l.2.2.2.1))):Option (Int ⊕ Gv))=some (.inl (Dm l m).2.2.2.1):=by
      unfold Dm
      by_cases hq:l.2.2.2.1 < m.2.2.2.2.2.2.1
      ·rw [decide_eq_true hq,cond_true,if_pos hq]
      ·rw [decide_eq_false hq,cond_false,if_neg hq]
     rw [Tt om om,ob,e1,SA]
     have hin:∃ m',m'∈d.2.2.2∧m'.1=(Dm l m).1:=⟨l,hlm,rfl⟩
     have hF:NodeF (EW d (Dm l m)):=h.putL hLF (.inl hin)
     have hS:=hF.s
     refine Qv ?_;refine AN (LC (d:=d) om (Dm l m)) ?_;unfold UU
     have hb1:(NA l.2.2.2.2.2.1 m.2.1 3)=(Dm l m).2.2.2.2.2.1:=rfl
     have hb2:(l.2.2.2.2.2.2&&m.2.2.2.2.2.2.2.2.2.2)=(Dm l m).2.2.2.2.2.2:=rfl
     rw [hb1,hb2]
     cases hc:((!decide (m.2.2.2.2.1=m.2.2.2.1.1))||(!(Dm l m).2.2.2.2.2.2)) with
     | true =>
      rw [cond_true,if_pos rfl];exact AN (Ny (d:=EW d (Dm l m)) (l:=Dm l m) hS.is hS.sm hLF.small hS.ls) rfl
     | false =>
      rw [cond_false,if_neg Bool.false_ne_true]
      cases q3:decide (2≤((Dm l m).2.2.2.2.2.1.length:Int)) with
      | true =>
       rw [cond_true,if_pos rfl];exact AN (Nz (d:=EW d (Dm l m)) (l:=Dm l m) hS.is hS.sm hLF.small hS.ls) rfl
      | false=>rfl
theorem YF {l:List Int} {n:Int} (hl:l.length≤1000):GK l n=some (l.any fun y=>decide (y=n)):=by
 unfold GK Ju
 have:∃ r,(BH (fun s1:Int=>cond (decide (s1 < (l.length:Int))) (Option.bind (idx l s1) (fun y3=>cond (decide (n=y3)) (Option.map .inr (some s1)) (some (.inl (IntKind.wrap .i64 (s1+1)))))) (Option.map .inr (some (-1)))) 0:Option Int)=some r∧decide (0≤r)=l.any fun y=>decide (y=n):=by
  refine Kg (fun s:Int=>∃ k:Nat,s=(k:Int)∧k≤l.length∧(l.take k).any (fun y=>decide (y=n))=false) (fun s=>(l.length - s).toNat) (fun r=>decide (0≤r)=l.any fun y=>decide (y=n)) ?_ 0 ⟨0,rfl,Nat.zero_le _,rfl⟩;rintro _ ⟨k,rfl,hk,hany⟩
  by_cases hlt:k < l.length
  ·have hx:l[k]?=some l[k]:=List.getElem?_eq_getElem hlt
   have hm:l[k]∈l:=List.getElem_mem hlt
   generalize l[k]=x at hx hm;rw [decide_eq_true (show (k:Int) < (l.length:Int) by omega),cond_true,BV,hx,ob]
   by_cases hq:n=x
   ·right;rw [decide_eq_true hq,cond_true];refine ⟨_,rfl,?_⟩;rw [decide_eq_true (show (0:Int)≤(k:Int) by omega)];exact (List.any_eq_true.2 ⟨x,hm,decide_eq_true hq.symm⟩).symm
   ·left;rw [decide_eq_false hq,cond_false,CE iR];refine ⟨_,rfl,⟨k+1,by simp,hlt,?_⟩,by omega⟩;rw [Fa hx,List.any_append,hany,Bool.false_or];simp only [List.any_cons,List.any_nil,Bool.or_false,decide_eq_false_iff_not];exact fun e=>hq e.symm
  ·right;rw [decide_eq_false (show ¬ (k:Int) < (l.length:Int) by omega),cond_false];refine ⟨_,rfl,?_⟩;rw [List.take_of_length_le om] at hany;rw [hany];rfl
 obtain ⟨r,h1,h2⟩:=this;rw [h1,ob,h2]
theorem cI {d:At} {m:Au} (h:NodeF d) (hm:MsgF m):IZ d m=some ((JU d m).2.1,(JU d m).2.2,(JU d m).1):=by
 have hs:=h.s
 have hll:=h.ll
 have hfr:=hm.frm
 unfold IZ JU;refine AN (Ld (d:=d) (x:=m.2.2.2.1) om) ?_;rcases FJ (fun y:Bb=>BT y.1 m.2.2.2.1) d.2.2.2 with ⟨h1,h2⟩ | ⟨k,l,h1,h2,h3⟩
 ·rw [h1,h2];rfl
 rw [h1,h3,show decide ((k:Int) < 0)=false from decide_eq_false om];obtain ⟨hlm,hlid,hlf⟩:=Gn h h3
 have hln:=Li hlf.frm
 have hkl:=(List.getElem?_eq_some_iff.1 h2).1
 simp only [BV,h2,Bool.not_false,Bool.false_or,Dn,ob,Bool.not_not]
 cases q1:decide (l.2.1=m.2.2.2.2.1) with
 | false=>rfl
 | true =>
  rw [Bool.not_true,Dn,ob,Bool.false_or,Bool.true_and]
  cases q2:decide (l.2.2.1=1) with
  | false=>rfl
  | true =>
   rw [Bool.not_true,Bool.not_false,Dn,ob,Dn,YF om,ob,Bool.false_or,Bool.true_and]
   cases hany:l.2.2.2.2.2.1.any fun y=>decide (y=m.2.1) with
   | true=>rfl
   | false =>
    have hLF:=Ub hlf hm hlid
    have hin:∃ m',m'∈d.2.2.2∧m'.1=(Dm l m).1:=⟨l,hlm,rfl⟩
    have hF:NodeF (EW d (Dm l m)):=h.putL hLF (.inl hin)
    have hS:=hF.s
    have hidx:=(h.ld k l h2).2
    have hput:DR d.2.2.2 (Dm l m)=d.2.2.2.set k (Dm l m):=JR hidx
    have hk':(EW d (Dm l m)).2.2.2[k]?=some (Dm l m):=by
     show (DR d.2.2.2 (Dm l m))[k]?=_;rw [hput,List.getElem?_set_self hkl]
    have hf':=(hF.ld k _ hk').2
    rw [cond_false,Bool.not_false,if_pos rfl,Cp (by simp;omega),ob];simp only [Int.toNat_natCast,List.getElem?_set_self hkl,ob,List.set_set,cH hlf.frm hfr hany,Sy hlf.deps hm.deps]
    have e0:(d.1,d.2.1,d.2.2.1,d.2.2.2.set k (Dm l m))=EW d (Dm l m):=by unfold EW;rw [hput]
    have hbm:l.2.1=m.2.2.2.2.1:=of_decide_eq_true q1
    unfold UU
    have e1:((!decide (l.2.1=m.2.2.2.1.1))||(!(l.2.2.2.2.2.2&&m.2.2.2.2.2.2.2.2.2.2)))=((!decide (m.2.2.2.2.1=m.2.2.2.1.1))||(!(Dm l m).2.2.2.2.2.2)):=by rw [hbm];rfl
    have e2:decide (2≤((MN l.2.2.2.2.2.1 m.2.1).length:Int))=decide (2≤((Dm l m).2.2.2.2.2.1.length:Int)):=rfl
    rw [e1,e2]
    have e3:d.2.2.2.set k (l.1,l.2.1,l.2.2.1,(if l.2.2.2.1 < m.2.2.2.2.2.2.1 then m.2.2.2.2.2.2.1 else l.2.2.2.1),Gr.join Cy l.2.2.2.2.1 m.2.2.2.2.2.2.2.1,MN l.2.2.2.2.2.1 m.2.1,(l.2.2.2.2.2.2&&m.2.2.2.2.2.2.2.2.2.2))=DR d.2.2.2 (Dm l m):=hput.symm
    rw [e3]
    cases hc:((!decide (m.2.2.2.2.1=m.2.2.2.1.1))||(!(Dm l m).2.2.2.2.2.2)) with
    | true =>
     rw [cond_true,if_pos rfl];exact AN (Rz (d:=EW d (Dm l m)) hS hk' hf' hLF) rfl
    | false =>
     rw [cond_false,if_neg Bool.false_ne_true]
     cases q3:decide (2≤((Dm l m).2.2.2.2.2.1.length:Int)) with
     | true =>
      rw [cond_true,if_pos rfl];exact AN (RG (d:=EW d (Dm l m)) hS hk' hLF) rfl
     | false=>rfl
noncomputable def OT (d:At) (m:Au):Gv:=match d.2.2.2.find? fun y=>BT y.1 m.2.2.2.1 with
 | none=>noG d
 | some l=>if (decide (l.2.1=m.2.2.2.2.1)&&decide (l.2.2.1=2))=true then ((IX d l).1,(IX d l).2,true) else noG d
def Jo (m:Au):AD:=(m.2.2.2.1,m.2.2.2.2.1,m.2.2.2.2.2.2.2.2.2.1,m.2.2.2.2.2.2.2.2.1,m.2.2.2.2.2.1,m.2.2.2.2.2.2.1,m.2.2.2.2.2.2.2.1,m.2.2.2.2.2.2.2.2.2.2)
def LI (m:Au):AD:=(m.2.2.2.1,0,m.2.2.2.2.2.2.2.2.2.1,m.2.2.2.2.2.2.2.2.1,m.2.2.2.2.2.1,m.2.2.2.2.2.2.1,m.2.2.2.2.2.2.2.1,m.2.2.2.2.2.2.2.2.2.2)
def LJ (x y:AD):Bool:=(((((((decide (x.2.2.2.1=1))&&(decide (y.2.2.2.1=1)))&&(decide (x.2.2.1=x.1.1)))&&(decide (y.2.2.1=x.1.1)))&&x.2.2.2.2.2.2.2)&&y.2.2.2.2.2.2.2)&&(decide (x.2.2.2.2.2.1=y.2.2.2.2.2.1)))&&decide (x.2.2.2.2.2.2.1=y.2.2.2.2.2.2.1)
def Tc (id:AU):AD:=(id,0,0,0,Ih,0,([]:List AU),false)
def HV (x y:AD):AD×Int :=
 if decide (x.2.2.2.1=3)=true then (x,3) else if decide (y.2.2.2.1=3)=true then (y,3)
 else if (decide (x.2.2.2.1=2)&&((!decide (y.2.2.2.1=2))||decide (y.2.2.1≤x.2.2.1)))=true then (x,2)
 else if decide (y.2.2.2.1=2)=true then (y,2) else if LJ x y=true then (x,2)
 else if decide (x.2.2.2.1=1)=true then (x,1) else if decide (y.2.2.2.1=1)=true then (y,1) else (Tc x.1,2)
theorem Zu {x y:AD} (hx:x.2.2.2.2.2.2.1.length≤1048576):OG x y=some (HV x y):=by
 unfold OG HV
 cases decide (x.2.2.2.1=3) with
 | true=>rfl
 | false =>
  rw [cond_false,if_neg Bool.false_ne_true]
  cases a0:decide (y.2.2.2.1=3) with
  | true=>rfl
  | false =>
   rw [cond_false,if_neg Bool.false_ne_true]
   cases (decide (x.2.2.2.1=2)&&((!decide (y.2.2.2.1=2))||decide (y.2.2.1≤x.2.2.1))) with
   | true=>rfl
   | false =>
    rw [cond_false,if_neg Bool.false_ne_true]
    cases decide (y.2.2.2.1=2) with
    | true=>rfl
    | false =>
     rw [cond_false,if_neg Bool.false_ne_true]
     have hf:MZ x y=some (LJ x y):=by
      unfold MZ LJ;rw [RW om,PY (fun hh=>by rw [hh];rfl)]
     refine AN hf ?_
     cases LJ x y with
     | true=>rfl
     | false =>
      rw [cond_false,if_neg Bool.false_ne_true]
      cases decide (x.2.2.2.1=1) with
      | true=>rfl
      | false=>cases decide (y.2.2.2.1=1)<;>rfl
def NU (x y:AD):AD×Int :=
 if decide (x.2.2.2.1=3)=true then (x,1) else if decide (y.2.2.2.1=3)=true then (y,1)
 else if (decide (x.2.2.2.1=2)&&((!decide (y.2.2.2.1=2))||decide (y.2.2.1≤x.2.2.1)))=true then (x,2)
 else if decide (y.2.2.2.1=2)=true then (y,2) else if LJ x y=true then (x,3)
 else if decide (x.2.2.2.1=1)=true then (x,4) else if decide (y.2.2.2.1=1)=true then (y,4) else (Tc (0,0),5)
theorem cJ {x y:AD} (hid:y.1=x.1):(((((decide (x.2.2.2.1=1))&&(decide (x.2.2.1=x.1.1)))&&x.2.2.2.2.2.2.2)&&(((decide (y.2.2.2.1=1))&&(decide (y.2.2.1=y.1.1)))&&y.2.2.2.2.2.2.2))&&decide (x.2.2.2.2.2.1=y.2.2.2.2.2.1)&&decide (x.2.2.2.2.2.2.1=y.2.2.2.2.2.2.1))=LJ x y:=by
 unfold LJ;rw [hid]
 cases decide (x.2.2.2.1=1)<;>cases decide (y.2.2.2.1=1)<;>cases decide (x.2.2.1=x.1.1)<;>cases decide (y.2.2.1=x.1.1)<;>cases x.2.2.2.2.2.2.2<;>cases y.2.2.2.2.2.2.2<;>rfl
theorem fI {x y:AD} (hx:x.2.2.2.2.2.2.1.length≤1048576) (hid:y.1=x.1):Ss x y=some (NU x y):=by
 unfold Ss NU
 cases decide (x.2.2.2.1=3) with
 | true=>rfl
 | false =>
  rw [cond_false,if_neg Bool.false_ne_true]
  cases a0:decide (y.2.2.2.1=3) with
  | true=>rfl
  | false =>
   rw [cond_false,if_neg Bool.false_ne_true]
   cases (decide (x.2.2.2.1=2)&&((!decide (y.2.2.2.1=2))||decide (y.2.2.1≤x.2.2.1))) with
   | true=>rfl
   | false =>
    rw [cond_false,if_neg Bool.false_ne_true]
    cases decide (y.2.2.2.1=2) with
    | true=>rfl
    | false =>
     rw [cond_false,if_neg Bool.false_ne_true]
     have ht:(cond (decide (x.2.2.2.1=1)) (some (x,4)) (cond (decide (y.2.2.2.1=1)) (some (y,4)) (some (Tc (0,0),5))):Option (AD×Int))=some (if decide (x.2.2.2.1=1)=true then (x,4) else if decide (y.2.2.2.1=1)=true then (y,4) else (Tc (0,0),5)):=by
      cases decide (x.2.2.2.1=1) with
      | true=>rfl
      | false=>cases decide (y.2.2.2.1=1)<;>rfl
     have hfs:=cJ hid
     rw [← hfs];show Option.bind (some (((decide (x.2.2.2.1=1))&&(decide (x.2.2.1=x.1.1)))&&x.2.2.2.2.2.2.2)) (fun y5=>gb y5 (some (((decide (y.2.2.2.1=1))&&(decide (y.2.2.1=y.1.1)))&&y.2.2.2.2.2.2.2)) (fun y6=>gb ((y5&&y6)&&(decide (x.2.2.2.2.2.1=y.2.2.2.2.2.1))) (EG x.2.2.2.2.2.2.1 y.2.2.2.2.2.2.1) (fun y7=>cond (((y5&&y6)&&(decide (x.2.2.2.2.2.1=y.2.2.2.2.2.1)))&&y7) (some (x,3)) (cond (decide (x.2.2.2.1=1)) (some (x,4)) (cond (decide (y.2.2.2.1=1)) (some (y,4)) (some (Tc (0,0),5)))))))=_;rw [ht,VL om];generalize (if decide (x.2.2.2.1=1)=true then (x,4) else if decide (y.2.2.2.1=1)=true then (y,4) else (Tc (0,0),5):AD×Int)=T;generalize (((decide (x.2.2.2.1=1))&&(decide (x.2.2.1=x.1.1)))&&x.2.2.2.2.2.2.2)=A;generalize (((decide (y.2.2.2.1=1))&&(decide (y.2.2.1=y.1.1)))&&y.2.2.2.2.2.2.2)=B;generalize decide (x.2.2.2.2.2.1=y.2.2.2.2.2.1)=E;generalize decide (x.2.2.2.2.2.2.1=y.2.2.2.2.2.2.1)=D;cases A
     ·rfl
     cases B
     ·rfl
     cases E
     ·rfl
     cases D<;>rfl
theorem SC (x:AD) (m:Au):((NU x (LI m)).1.2.2.2.2.1=(HV x (Jo m)).1.2.2.2.2.1∧(NU x (LI m)).1.2.2.2.2.2.1=(HV x (Jo m)).1.2.2.2.2.2.1∧(NU x (LI m)).1.2.2.2.2.2.2.1=(HV x (Jo m)).1.2.2.2.2.2.2.1)∧decide ((NU x (LI m)).2=4)=decide ((HV x (Jo m)).2=1)∧decide ((NU x (LI m)).2=1)=decide ((HV x (Jo m)).2=3)∧((HV x (Jo m)).2=1∨(HV x (Jo m)).2=2∨(HV x (Jo m)).2=3):=by
 unfold NU HV
 have hs:(LI m).2.2.2.1=(Jo m).2.2.2.1:=rfl
 have hv:(LI m).2.2.1=(Jo m).2.2.1:=rfl
 have hf:LJ x (LI m)=LJ x (Jo m):=rfl
 rw [hs,hv,hf]
 split
 ·exact ⟨⟨rfl,rfl,rfl⟩,rfl,rfl,by first | exact .inl rfl | exact .inr (.inl rfl) | exact .inr (.inr rfl)⟩
 split
 ·exact ⟨⟨rfl,rfl,rfl⟩,rfl,rfl,by first | exact .inl rfl | exact .inr (.inl rfl) | exact .inr (.inr rfl)⟩
 split
 ·exact ⟨⟨rfl,rfl,rfl⟩,rfl,rfl,by first | exact .inl rfl | exact .inr (.inl rfl) | exact .inr (.inr rfl)⟩
 split
 ·exact ⟨⟨rfl,rfl,rfl⟩,rfl,rfl,by first | exact .inl rfl | exact .inr (.inl rfl) | exact .inr (.inr rfl)⟩
 split
 ·exact ⟨⟨rfl,rfl,rfl⟩,rfl,rfl,by first | exact .inl rfl | exact .inr (.inl rfl) | exact .inr (.inr rfl)⟩
 split
 ·exact ⟨⟨rfl,rfl,rfl⟩,rfl,rfl,by first | exact .inl rfl | exact .inr (.inl rfl) | exact .inr (.inr rfl)⟩
 split
 ·exact ⟨⟨rfl,rfl,rfl⟩,rfl,rfl,by first | exact .inl rfl | exact .inr (.inl rfl) | exact .inr (.inr rfl)⟩
 exact ⟨⟨rfl,rfl,rfl⟩,rfl,rfl,by first | exact .inl rfl | exact .inr (.inl rfl) | exact .inr (.inr rfl)⟩
structure ValF (id:AU) (p:AD):Prop where
 cmd:DN p.2.2.2.2.1=true
 seq:0≤p.2.2.2.2.2.1∧p.2.2.2.2.2.1≤60
 deps:Dl p.2.2.2.2.2.2.1=true
 self:(p.2.2.2.2.2.2.1.any fun y=>BT y id)=false
theorem Qw {d:At} (h:NodeF d) (id:AU):ValF id (atI d.2.2.1 id):=by
 rcases Nj d.2.2.1 id with q | q
 ·have:=h.insF q
  exact ⟨this.cmd,this.seq,this.deps,by have h2:=this.self;rw [HU] at h2;exact h2⟩
 rw [q];exact ⟨Mz,⟨by show (0:Int)≤0;omega,by show (0:Int)≤60;omega⟩,rfl,rfl⟩
theorem YG {m:Au} (hm:MsgF m):ValF m.2.2.2.1 (Jo m):=⟨hm.cmd,hm.seq,hm.deps,hm.self⟩
theorem YH {id:AU} {x y:AD} (hx:ValF id x) (hy:ValF id y):ValF id (HV x y).1:=by
 unfold HV
 repeat' split
 all_goals first | exact hx | exact hy | exact ⟨Mz,⟨by show (0:Int)≤0;omega,by show (0:Int)≤60;omega⟩,rfl,rfl⟩
noncomputable def BR (d:At) (l:Bb) (m:Au) (p:AD×Int):AD :=
 if decide (p.2=1)=true then (m.2.2.2.1,l.2.1,l.2.1,1,p.1.2.2.2.2.1,(CR d.2.2.1 m.2.2.2.1 p.1.2.2.2.2.1).1,(CR d.2.2.1 m.2.2.2.1 p.1.2.2.2.2.1).2,true)
 else (m.2.2.2.1,l.2.1,l.2.1,1,p.1.2.2.2.2.1,p.1.2.2.2.2.2.1,p.1.2.2.2.2.2.2.1,false)
def DA (l:Bb) (ph:Int) (y:AD) (s:Bool):Bb:=(l.1,l.2.1,ph,y.2.2.2.2.2.1,y.2.2.2.2.2.2.1,([]:List Int),s)
noncomputable def Td (d:At) (l:Bb) (m:Au) (p:AD×Int):Gv :=
 if Da (BR d l m p)=true then
  if decide (p.2=3)=true then ((IX (putN d (BR d l m p)) (DA l l.2.2.1 (BR d l m p) (decide (p.2=1)))).1,(IX (putN d (BR d l m p)) (DA l l.2.2.1 (BR d l m p) (decide (p.2=1)))).2,true)
  else if decide (p.2=2)=true then ((HI (putN d (BR d l m p)) (DA l l.2.2.1 (BR d l m p) (decide (p.2=1)))).1,(HI (putN d (BR d l m p)) (DA l l.2.2.1 (BR d l m p) (decide (p.2=1)))).2,true)
  else (EW (putN d (BR d l m p)) (DA l 1 (BR d l m p) (decide (p.2=1))),GR d.1 (1,0,0,m.2.2.2.1,l.2.1,(BR d l m p).2.2.2.2.1,(BR d l m p).2.2.2.2.2.1,(BR d l m p).2.2.2.2.2.2.1,0,(-1),false),true)
 else noG d
noncomputable def IB (d:At) (m:Au):Gv:=match d.2.2.2.find? fun y=>BT y.1 m.2.2.2.1 with
 | none=>noG d
 | some l=>if ((decide (l.2.1=m.2.2.2.2.1)&&decide (l.2.2.1=3))&&decide ((atI d.2.2.1 m.2.2.2.1).2.1=m.2.2.2.2.1))=true then Td d l m (HV (atI d.2.2.1 m.2.2.2.1) (Jo m)) else noG d
theorem Tx {d:At} (h:NodeF d) {l:Bb} (hl:LeadF l) {m:Au} (hm:MsgF m) {p:AD×Int} (hp:ValF m.2.2.2.1 p.1):Ok.ok (BR d l m p):=by
 have hb:=hl.bal
 have z1:inR 1:=by unfold inR;omega
 have zb:inR l.2.1:=by unfold inR;omega
 unfold BR
 split
 ·have ha:=FV h.is m.2.2.2.1 p.1.2.2.2.2.1
  have:=ha.seq
  have zs:inR (CR d.2.2.1 m.2.2.2.1 p.1.2.2.2.2.1).1:=by unfold inR;omega
  exact ⟨PB hm.id,zb,zb,z1,JT hp.cmd,zs,Nk ha.deps,trivial⟩
 have:=hp.seq
 have zs:inR p.1.2.2.2.2.2.1:=by unfold inR;omega
 exact ⟨PB hm.id,zb,zb,z1,JT hp.cmd,zs,Nk hp.deps,trivial⟩
theorem Nl {l:Bb} (hl:LeadF l) {y:AD} (hy:InstF y) (he:y.1=l.1) {ph:Int} (hp:1≤ph∧ph≤3) (s:Bool):LeadF (DA l ph y s) :=
 ⟨hl.id,hl.bal,hp,hy.seq,hy.deps,by have:=hy.self;rw [he] at this;exact this,rfl⟩
theorem RH (d:At) (l:Bb) (m:Au) (p:AD×Int):(BR d l m p).1=m.2.2.2.1:=by unfold BR;split<;>rfl
theorem WV {d:At} {m:Au} (h:NodeF d) (hm:MsgF m) (hu:unk d m.2.2.2.1=false):Lv d m=some (IB d m):=by
 have hs:=h.s
 have hll:=h.ll
 have hln:=Dh h.is
 unfold Lv IB;refine AN (JM (d:=d) (x:=m.2.2.2.1) om) ?_;refine AN (Hp om hs.sm m.2.2.2.1) ?_
 have hv:=Qw h m.2.2.2.1
 have hsx:=FU hs.sm m.2.2.2.1
 generalize atI d.2.2.1 m.2.2.2.1=x at hv hsx;rcases FJ (fun y:Bb=>BT y.1 m.2.2.2.1) d.2.2.2 with ⟨h1,h2⟩ | ⟨k,l,h1,h2,h3⟩
 ·rw [h1,h2];rfl
 ·rw [h1,h3,show decide ((k:Int) < 0)=false from decide_eq_false om];obtain ⟨hlm,hlid,hlf⟩:=Gn h h3;simp only [BV,h2,Bool.not_false,Bool.false_or,Dn,ob,Bool.not_not]
  cases q1:decide (l.2.1=m.2.2.2.2.1) with
  | false=>rfl
  | true =>
   rw [Bool.not_true,Dn,ob,Bool.false_or,Bool.true_and]
   cases q2:decide (l.2.2.1=3) with
   | false=>rfl
   | true =>
    rw [Bool.not_true,Bool.false_or,Bool.true_and]
    cases q3:decide (x.2.1=m.2.2.2.2.1) with
    | false=>rfl
    | true =>
     rw [Bool.not_true,cond_false,if_pos rfl]
     have ht:OF m=some (Jo m):=by
      unfold OF;refine AN (GD (c:=m.2.2.2.2.2.1) hm.small.1) ?_
      have:=hm.small.2
      rw [ob,Cp (by simp;omega),ob,List.nil_append];rfl
     refine AN ht ?_;refine AN (Zu (y:=Jo m) hsx.2) ?_
     have hpv:=YH hv (YG hm)
     obtain ⟨_,_,_,h123⟩:=SC x m;generalize HV x (Jo m)=p at hpv h123
     have hoy:=Tx h hlf hm (p:=p) hpv
     have hyid:=RH d l m p
     unfold Td
     have key:∀ y:AD,y=BR d l m p→∀ b:Bool,b=decide (p.2=1) →
       Option.bind (Gs y) (fun a6=>cond (!a6) (Option.bind (some ([]:List Au)) (fun a7=>some (d,a7,false))) (Option.bind (Gg d.2.2.1 y) (fun a0=>Option.bind (some ([]:List AU)) (fun a8=>Option.bind (CO a8 y.2.2.2.2.2.2.1) (fun a1=>Option.bind (some ([]:List Int)) (fun a2=>cond (decide (p.2=3)) (Option.bind (Hf (d.1,d.2.1,a0,d.2.2.2) (l.1,l.2.1,l.2.2.1,y.2.2.2.2.2.1,a1,a2,b)) (fun a3=>some (a3.1,a3.2,true))) (cond (decide (p.2=2)) (Option.bind (He (d.1,d.2.1,a0,d.2.2.2) (l.1,l.2.1,l.2.2.1,y.2.2.2.2.2.1,a1,a2,b)) (fun a4=>some (a4.1,a4.2,true))) (Option.bind (It (d.1,d.2.1,a0,d.2.2.2) (l.1,l.2.1,1,y.2.2.2.2.2.1,a1,a2,b)) (fun a5=>Option.bind (Jh a5 1 y l.2.1) (fun a9=>some (a5,a9,true)))))))))))
      =some (if Da (BR d l m p)=true then
  if decide (p.2=3)=true then ((IX (putN d (BR d l m p)) (DA l l.2.2.1 (BR d l m p) (decide (p.2=1)))).1,(IX (putN d (BR d l m p)) (DA l l.2.2.1 (BR d l m p) (decide (p.2=1)))).2,true)
  else if decide (p.2=2)=true then ((HI (putN d (BR d l m p)) (DA l l.2.2.1 (BR d l m p) (decide (p.2=1)))).1,(HI (putN d (BR d l m p)) (DA l l.2.2.1 (BR d l m p) (decide (p.2=1)))).2,true)
  else (EW (putN d (BR d l m p)) (DA l 1 (BR d l m p) (decide (p.2=1))),GR d.1 (1,0,0,m.2.2.2.1,l.2.1,(BR d l m p).2.2.2.2.1,(BR d l m p).2.2.2.2.2.1,(BR d l m p).2.2.2.2.2.2.1,0,(-1),false),true)
 else noG d):=by
      rintro y rfl b rfl;generalize BR d l m p=y at hoy hyid;refine AN (Kz hoy) ?_
      cases hi:Da y with
      | false=>rfl
      | true =>
       have hyF:=CY.1 hi
       have hyd:=Ex hyF.deps
       have hLF:=fun s=>Nl hlf hyF (hyid.trans hlid.symm) (ph:=l.2.2.1) hlf.ph s
       have hNF:NodeF (putN d y):=h.putN hyF (by rw [hyid];exact hu)
       have hNS:=hNF.s
       rw [Bool.not_true,cond_false,if_pos rfl];refine AN (Hi h.is y) ?_;rw [ob,Cp (by simp;omega),ob,List.nil_append,ob]
       cases hh3:decide (p.2=3) with
       | true =>
        rw [cond_true,if_pos rfl];exact AN (Nz (d:=putN d y) (l:=DA l l.2.2.1 y (decide (p.2=1))) hNS.is hNS.sm (hLF _).small hNS.ls) rfl
       | false =>
        rw [cond_false,if_neg Bool.false_ne_true]
        cases hh2:decide (p.2=2) with
        | true =>
         rw [cond_true,if_pos rfl];exact AN (Ny (d:=putN d y) (l:=DA l l.2.2.1 y (decide (p.2=1))) hNS.is hNS.sm (hLF _).small hNS.ls) rfl
        | false =>
         rw [cond_false,if_neg Bool.false_ne_true];refine AN (LC (d:=putN d y) (by show d.2.2.2.length≤_;omega) (DA l 1 y (decide (p.2=1)))) ?_;refine AN (NQ (EW (putN d y) (DA l 1 y (decide (p.2=1)))) hyF.small 1 l.2.1) ?_;rw [hyid];rfl
     cases hh1:decide (p.2=1) with
     | true =>
      rw [cond_true]
      have ha:=FV h.is m.2.2.2.1 p.1.2.2.2.2.1
      refine AN (OP (c:=p.1.2.2.2.2.1) h.is hs.ok.2.2.1 (JT hpv.cmd) m.2.2.2.1) ?_
      have k1:=key (m.2.2.2.1,l.2.1,l.2.1,1,p.1.2.2.2.2.1,(CR d.2.2.1 m.2.2.2.1 p.1.2.2.2.2.1).1,(CR d.2.2.1 m.2.2.2.1 p.1.2.2.2.2.1).2,true) (by unfold BR;rw [if_pos hh1]) true hh1.symm
      rw [hh1] at k1;exact k1
     | false =>
      rw [cond_false]
      have k1:=key (m.2.2.2.1,l.2.1,l.2.1,1,p.1.2.2.2.2.1,p.1.2.2.2.2.2.1,p.1.2.2.2.2.2.2.1,false) (by unfold BR;rw [if_neg (by rw [hh1];exact Bool.false_ne_true)]) false hh1.symm
      rw [hh1] at k1;exact k1
theorem Zv {ls:List Bb} {k:Nat} {l l':Bb} (hidx:(ls.findIdx? fun y=>BT y.1 l.1)=some k) (he:l'.1=l.1):DR (DR ls l) l'=DR ls l':=by
 have h1:(ls.findIdx? fun y=>BT y.1 l'.1)=some k:=by rw [he];exact hidx
 have h2:((ls.set k l).findIdx? fun y=>BT y.1 l'.1)=some k:=by rw [he];exact hP hidx rfl
 rw [JR hidx,JR h2,JR h1,List.set_set]
theorem Ww {ls:List Bb} {k:Nat} {l:Bb} (hidx:(ls.findIdx? fun y=>BT y.1 l.1)=some k):GS (DR ls l) l.1=GS ls l.1:=by
 rw [JR hidx];obtain ⟨h1,h2,_⟩:=List.findIdx?_eq_some_iff_getElem.1 hidx;rw [EP] at h2
 have he:=of_decide_eq_true h2
 have:=fB (ls:=ls) (k:=k) (l:=ls[k]) (m:=l) (List.getElem?_eq_getElem h1) he.symm
 rw [he] at this;exact this
theorem iH {d:At} {k:Nat} {l:Bb} (hidx:(d.2.2.2.findIdx? fun y=>BT y.1 l.1)=some k):IX (EW d l) l=IX d l:=by
 unfold IX EW;dsimp only;rw [Ww hidx]
theorem iI {d:At} {k:Nat} {l:Bb} (hidx:(d.2.2.2.findIdx? fun y=>BT y.1 l.1)=some k):HI (EW d l) l=HI d l:=by
 unfold HI EW;dsimp only;rw [Ww hidx,Zv (l':=(l.1,l.2.1,2,l.2.2.2.1,l.2.2.2.2.1,[],l.2.2.2.2.2.2)) hidx rfl]
theorem Zw {d:At} {m:Au} (h:NodeF d) (hm:MsgF m) (hu:unk d m.2.2.2.1=false) (h3:VN d):Ix d m=some ((IB d m).2.1,(IB d m).2.2,(IB d m).1):=by
 have hs:=h.s
 have hll:=h.ll
 have hln:=Dh h.is
 unfold Ix IB;refine AN (Ld (d:=d) (x:=m.2.2.2.1) om) ?_;refine AN (Hq om hs.sm m.2.2.2.1) ?_
 have hv:=Qw h m.2.2.2.1
 have hsx:=FU hs.sm m.2.2.2.1
 have hxid:=HU d.2.2.1 m.2.2.2.1
 generalize atI d.2.2.1 m.2.2.2.1=x at hv hsx hxid;rcases FJ (fun y:Bb=>BT y.1 m.2.2.2.1) d.2.2.2 with ⟨h1,h2⟩ | ⟨k,l,h1,h2,hf⟩
 ·rw [h1,h2];rfl
 rw [h1,hf,show decide ((k:Int) < 0)=false from decide_eq_false om];obtain ⟨hlm,hlid,hlf⟩:=Gn h hf
 have hkl:=(List.getElem?_eq_some_iff.1 h2).1
 have hidx:=(h.ld k l h2).2
 simp only [BV,h2,Bool.not_false,Bool.false_or,Dn,ob,Bool.not_not]
 cases a0:decide (l.2.1=m.2.2.2.2.1) with
 | false=>rfl
 | true =>
  rw [Bool.not_true,Dn,ob,Bool.false_or,Bool.true_and]
  cases a1:decide (l.2.2.1=3) with
  | false=>rfl
  | true =>
   rw [Bool.not_true,Bool.false_or,Bool.true_and]
   cases a2:decide (x.2.1=m.2.2.2.2.1) with
   | false=>rfl
   | true =>
    rw [Bool.not_true,cond_false,if_pos rfl]
    have hsame:l.2.2.2.2.2.2=false:=h3 l hlm (of_decide_eq_true a1)
    have hxb:x.2.1=l.2.1:=(of_decide_eq_true a2).trans (of_decide_eq_true a0).symm
    have hmb:m.2.2.2.2.1=l.2.1:=(of_decide_eq_true a0).symm
    refine AN (show Ro m=some (LI m) from rfl) ?_;refine AN (fI (y:=LI m) hsx.2 hxid.symm) ?_
    have hpv:=YH hv (YG hm)
    obtain ⟨⟨q1,q2,q3⟩,q4,q5,h123⟩:=SC x m;generalize NU x (LI m)=r at q1 q2 q3 q4 q5;generalize HV x (Jo m)=p at hpv h123 q1 q2 q3 q4 q5;rw [q4,q5,q1,q2,q3,hxb,hmb]
    have hoy:=Tx h hlf hm (p:=p) hpv
    have hyid:=RH d l m p
    unfold Td
    have key:∀ y:AD,y=BR d l m p→∀ ph:Int, ∀ b:Bool,LeadF (DA l l.2.2.1 y false)→y.1=m.2.2.2.1→True:=fun _ _ _ _ _ _=>trivial
    clear key
    cases hh1:decide (p.2=1) with
    | true =>
     rw [cond_true]
     have hp3:decide (p.2=3)=false:=by have:=of_decide_eq_true hh1;exact decide_eq_false om
     have hp2:decide (p.2=2)=false:=by have:=of_decide_eq_true hh1;exact decide_eq_false om
     rw [hp3,hp2]
     have ha:=FV h.is m.2.2.2.1 p.1.2.2.2.2.1
     refine AN (OQ (c:=p.1.2.2.2.2.1) h.is hs.ok.2.2.1 (JT hpv.cmd) m.2.2.2.1) ?_
     have hy:BR d l m p=(m.2.2.2.1,l.2.1,l.2.1,1,p.1.2.2.2.2.1,(CR d.2.2.1 m.2.2.2.1 p.1.2.2.2.2.1).1,(CR d.2.2.1 m.2.2.2.1 p.1.2.2.2.2.1).2,true):=by unfold BR;rw [if_pos hh1]
     have hdl:=Ex ha.deps
     have hsy:Gc (BR d l m p):=by rw [hy];exact ⟨by have:=IF hpv.cmd;show p.1.2.2.2.2.1.2.2.2.2.2.2.2.length≤_;omega,by show (CR _ _ _).2.length≤_;omega⟩
     have hp:=Ie (d:=d) (x:=BR d l m p) hs.ok.2.2.1 hoy h.is hs.sm hsy
     rw [hy] at hp ⊢;refine AN hp ?_;rw [← hy]
     cases hi:Da (BR d l m p) with
     | false=>rfl
     | true =>
      rw [if_pos rfl,if_pos rfl,Bool.not_true,cond_false,if_neg Bool.false_ne_true,if_neg Bool.false_ne_true];simp only [h2,ob,Int.toNat_natCast,GL (show (CR d.2.2.1 m.2.2.2.1 p.1.2.2.2.2.1).2.length≤4294967296 by omega),List.getElem?_set_self hkl,List.set_set,cond_false,cond_true];refine AN (Lf _ (m:=(1,0,0,m.2.2.2.1,l.2.1,p.1.2.2.2.2.1,(CR d.2.2.1 m.2.2.2.1 p.1.2.2.2.2.1).1,(CR d.2.2.1 m.2.2.2.1 p.1.2.2.2.2.1).2,0,(-1),false)) ⟨hsy.1 |> fun t=>by rw [hy] at t;exact t,by show (CR _ _ _).2.length≤_;omega⟩ rfl) ?_
      have hput:DR d.2.2.2 (DA l 1 (BR d l m p) true)=d.2.2.2.set k (DA l 1 (BR d l m p) true):=JR (l:=DA l 1 (BR d l m p) true) hidx
      unfold EW;rw [show (putN d (BR d l m p)).2.2.2=d.2.2.2 from rfl,hput,hy];rfl
    | false =>
     rw [cond_false]
     have hy:BR d l m p=(m.2.2.2.1,l.2.1,l.2.1,1,p.1.2.2.2.2.1,p.1.2.2.2.2.2.1,p.1.2.2.2.2.2.2.1,false):=by unfold BR;rw [if_neg (by rw [hh1];exact Bool.false_ne_true)]
     have hdl:=Ex hpv.deps
     have hsy:Gc (BR d l m p):=by rw [hy];exact ⟨by have:=IF hpv.cmd;show p.1.2.2.2.2.1.2.2.2.2.2.2.2.length≤_;omega,by show p.1.2.2.2.2.2.2.1.length≤_;omega⟩
     have hp:=Ie (d:=d) (x:=BR d l m p) hs.ok.2.2.1 hoy h.is hs.sm hsy
     rw [hy] at hp ⊢;refine AN hp ?_;rw [← hy]
     cases hi:Da (BR d l m p) with
     | false=>rfl
     | true =>
      have hyF:=CY.1 hi
      have hLF:LeadF (DA l l.2.2.1 (BR d l m p) false):=Nl hlf hyF (hyid.trans hlid.symm) hlf.ph false
      have hNF:NodeF (putN d (BR d l m p)):=h.putN hyF (by rw [hyid];exact hu)
      have hNF2:NodeF (EW (putN d (BR d l m p)) (DA l l.2.2.1 (BR d l m p) false)):=hNF.putL hLF (.inl ⟨l,hlm,rfl⟩)
      have hput:DR d.2.2.2 (DA l l.2.2.1 (BR d l m p) false)=d.2.2.2.set k (DA l l.2.2.1 (BR d l m p) false):=JR (l:=DA l l.2.2.1 (BR d l m p) false) hidx
      have hk':(EW (putN d (BR d l m p)) (DA l l.2.2.1 (BR d l m p) false)).2.2.2[k]?=some (DA l l.2.2.1 (BR d l m p) false):=by
       show (DR d.2.2.2 _)[k]?=_;rw [hput,List.getElem?_set_self hkl]
      have hf':=(hNF2.ld k _ hk').2
      rw [if_pos rfl,if_pos rfl,Bool.not_true,cond_false];simp only [h2,ob,Int.toNat_natCast,GL (show p.1.2.2.2.2.2.2.1.length≤4294967296 by omega),List.getElem?_set_self hkl,List.set_set,cond_false]
      have e1:d.2.2.2.set k (l.1,l.2.1,l.2.2.1,p.1.2.2.2.2.2.1,p.1.2.2.2.2.2.2.1,([]:List Int),l.2.2.2.2.2.2)=DR d.2.2.2 (DA l l.2.2.1 (BR d l m p) false):=by
       rw [hput,hsame,hy];rfl
      rw [e1]
      cases hh3:decide (p.2=3) with
      | true =>
       rw [cond_true,if_pos rfl];refine AN (RG (d:=EW (putN d (BR d l m p)) (DA l l.2.2.1 (BR d l m p) false)) hNF2.s hk' hLF) ?_;rw [iH (d:=putN d (BR d l m p)) (l:=DA l l.2.2.1 (BR d l m p) false) hidx]
      | false =>
       have hh2:decide (p.2=2)=true:=by
        have h1:=of_decide_eq_false hh1
        have h3:=of_decide_eq_false hh3
        exact decide_eq_true om
       rw [cond_false,hh2,if_neg Bool.false_ne_true,if_pos rfl];refine AN (Rz (d:=EW (putN d (BR d l m p)) (DA l l.2.2.1 (BR d l m p) false)) hNF2.s hk' hf' hLF) ?_;rw [iI (d:=putN d (BR d l m p)) (l:=DA l l.2.2.1 (BR d l m p) false) hidx]
noncomputable def HJ (d:At) (m:Au):Gv :=
 if decide (m.1=1)=true then RC d m else if decide (m.1=2)=true then JU d m else if decide (m.1=3)=true then RE d m
 else if decide (m.1=4)=true then OT d m else if decide (m.1=5)=true then RF d m else if decide (m.1=6)=true then NT d m else IB d m
noncomputable def getD (d:At) (m:Au):Gv:=if Ft d then (if ((!LH m)||(!decide (m.2.2.1=d.1)))||unk d m.2.2.2.1 then noG d else HJ d m) else (Ta,[],false)
theorem cK {d:At} {m:Au} (h:NodeF d) (hm:MsgF m) (hu:unk d m.2.2.2.1=false):Qk d m=some (HJ d m):=by
 have hs:=h.s
 have hll:=h.ll
 unfold Qk HJ
 cases decide (m.1=1) with
 | true=>exact AN (cD h hm hu) rfl
 | false =>
  rw [cond_false,if_neg Bool.false_ne_true]
  cases decide (m.1=2) with
  | true=>exact AN (YE h hm) rfl
  | false =>
   rw [cond_false,if_neg Bool.false_ne_true]
   cases decide (m.1=3) with
   | true=>exact AN (cE h hm hu) rfl
   | false =>
    rw [cond_false,if_neg Bool.false_ne_true]
    cases decide (m.1=4) with
    | true =>
     rw [cond_true,if_pos rfl];unfold OT;refine AN (JM (d:=d) (x:=m.2.2.2.1) om) ?_;rcases FJ (fun y:Bb=>BT y.1 m.2.2.2.1) d.2.2.2 with ⟨h1,h2⟩ | ⟨k,l,h1,h2,h3⟩
     ·rw [h1,h2];rfl
     ·rw [h1,h3,show decide ((k:Int) < 0)=false from decide_eq_false om];obtain ⟨hlm,hlid,hlf⟩:=Gn h h3;simp only [BV,h2,Bool.not_false,Bool.false_or,Dn,ob,Bool.not_not]
      cases a0:decide (l.2.1=m.2.2.2.2.1) with
      | false=>rfl
      | true =>
       rw [Bool.not_true,Dn,ob,Bool.false_or,Bool.true_and]
       cases a1:decide (l.2.2.1=2) with
       | false=>rfl
       | true =>
        rw [Bool.not_true,cond_false,if_pos rfl];exact AN (Nz (d:=d) (l:=l) hs.is hs.sm hlf.small hs.ls) rfl
    | false =>
     rw [cond_false,if_neg Bool.false_ne_true]
     cases decide (m.1=5) with
     | true=>exact AN (cF h hm hu) rfl
     | false =>
      rw [cond_false,if_neg Bool.false_ne_true]
      cases decide (m.1=6) with
      | true=>exact AN (Zt h hm hu) rfl
      | false=>exact AN (WV h hm hu) rfl
theorem iJ {d:At} {m:Au} (h:NodeF d) (hm:MsgF m) (hu:unk d m.2.2.2.1=false) (h3:VN d):Ky d m=some ((HJ d m).2.1,(HJ d m).2.2,(HJ d m).1):=by
 have hs:=h.s
 have hll:=h.ll
 unfold Ky HJ
 cases decide (m.1=1) with
 | true=>exact AN (iB h hm) rfl
 | false =>
  rw [cond_false,if_neg Bool.false_ne_true]
  cases decide (m.1=2) with
  | true=>exact AN (cI h hm) rfl
  | false =>
   rw [cond_false,if_neg Bool.false_ne_true]
   cases decide (m.1=3) with
   | true=>exact AN (iC h hm) rfl
   | false =>
    rw [cond_false,if_neg Bool.false_ne_true]
    cases decide (m.1=4) with
    | true =>
     rw [cond_true,if_pos rfl];unfold OT;refine AN (Ld (d:=d) (x:=m.2.2.2.1) om) ?_;rcases FJ (fun y:Bb=>BT y.1 m.2.2.2.1) d.2.2.2 with ⟨h1,h2⟩ | ⟨k,l,h1,h2,h3⟩
     ·rw [h1,h2];rfl
     ·rw [h1,h3,show decide ((k:Int) < 0)=false from decide_eq_false om];obtain ⟨hlm,hlid,hlf⟩:=Gn h h3;simp only [BV,h2,Bool.not_false,Bool.false_or,Dn,ob,Bool.not_not]
      cases a0:decide (l.2.1=m.2.2.2.2.1) with
      | false=>rfl
      | true =>
       rw [Bool.not_true,Dn,ob,Bool.false_or,Bool.true_and]
       cases a1:decide (l.2.2.1=2) with
       | false=>rfl
       | true =>
        rw [Bool.not_true,cond_false,if_pos rfl];exact AN (RG (d:=d) hs h2 hlf) rfl
    | false =>
     rw [cond_false,if_neg Bool.false_ne_true]
     cases decide (m.1=5) with
     | true=>exact AN (iD h hm) rfl
     | false =>
      rw [cond_false,if_neg Bool.false_ne_true]
      cases decide (m.1=6) with
      | true=>exact AN (fE h hm) rfl
      | false=>exact AN (Zw h hm hu h3) rfl
structure GN (d:At):Prop where
 f:NodeF d
 kn:mJ d
 th:VN d
structure GRes (d:At) (r:Gv):Prop where
 g:GN r.1
 me:r.1.1=d.1
 out:∀ m,m∈r.2.1→MsgF m∧m.2.1=d.1
 len:r.2.1.length≤2
theorem GN.no {d:At} (h:GN d):GRes d (noG d):=⟨h,rfl,fun _ hm=>(by cases hm),Nat.zero_le _⟩
theorem MC {d e:At} (h1:e.1=d.1) (h2:e.2.1=d.2.1) (id:AU):unk e id=unk d id:=by unfold unk;rw [h1,h2]
theorem GN.putN {d:At} (h:GN d) {x:AD} (hx:InstF x) (hu:unk d x.1=false):GN (putN d x) :=
 ⟨h.f.putN hx hu,fun l hl=>by rw [MC rfl rfl];exact h.kn l hl,h.th⟩
theorem GN.putL {d:At} (h:GN d) {l:Bb} (hl:LeadF l) (hr:(∃ m,m∈d.2.2.2∧m.1=l.1)∨d.2.2.2.length < 8) (hu:unk d l.1=false) (h3:l.2.2.1=3→l.2.2.2.2.2.2=false):GN (EW d l):=by
 refine ⟨h.f.putL hl hr,fun y hy=>?_,fun y hy=>?_⟩
 ·rw [MC rfl rfl];rcases Lg hy with q | q
  ·exact h.kn y q
  rw [q];exact hu
 rcases Lg hy with q | q
 ·exact h.th y q
 rw [q];exact h3
theorem GN.drp {d:At} (h:GN d) (id:AU):GN (jQ d id) :=
 ⟨h.f.drp id,fun y hy=>h.kn y (List.mem_filter.1 hy).1,fun y hy=>h.th y (List.mem_filter.1 hy).1⟩
theorem fJ {me:Int} {m x:Au} (h:x∈GR me m):∃ t:Int,(0≤t∧t < 3)∧t≠me∧x=Xs me t m:=by
 unfold GR MM at h;obtain ⟨t,ht,rfl⟩:=List.mem_map.1 h;obtain ⟨h1,h2⟩:=List.mem_filter.1 ht
 have:=List.mem_range.1 h1
 simp only [Bool.not_eq_true',decide_eq_false_iff_not] at h2;exact ⟨(t:Int),by omega,h2,rfl⟩
theorem Nm {me:Int} (h:0≤me∧me < 3) (m:Au):(GR me m).length=2:=by
 have:me=0∨me=1∨me=2:=by omega
 rcases this with rfl | rfl | rfl<;>rfl
structure BodyF (m:Au):Prop where
 kind:1≤m.1∧m.1≤7
 id:Ed m.2.2.2.1=true
 bal:0≤m.2.2.2.2.1∧m.2.2.2.2.1≤600
 cmd:DN m.2.2.2.2.2.1=true
 seq:0≤m.2.2.2.2.2.2.1∧m.2.2.2.2.2.2.1≤60
 deps:Dl m.2.2.2.2.2.2.2.1=true
 self:(m.2.2.2.2.2.2.2.1.any fun y=>BT y m.2.2.2.1)=false
 st:0≤m.2.2.2.2.2.2.2.2.1∧m.2.2.2.2.2.2.2.2.1≤3
theorem SD {me:Int} (hme:0≤me∧me < 3) {m:Au} (h:BodyF m):∀ x,x∈GR me m→MsgF x∧x.2.1=me:=fun x hx=>by
 obtain ⟨t,ht,hne,rfl⟩:=fJ hx;exact ⟨⟨h.kind,hme,ht,fun e=>hne e.symm,h.id,h.bal,h.cmd,h.seq,h.deps,h.self,h.st,by show (-1:Int)≤-1;omega,by show (-1:Int)≤600;omega⟩,rfl⟩
theorem YI {d:At} (h:GN d) {l:Bb} (hl:LeadF l) (hin:∃ m,m∈d.2.2.2∧m.1=l.1) (hu:unk d l.1=false):GRes d ((HI d l).1,(HI d l).2,true):=by
 unfold HI
 split
 ·rename_i hb
  have hx:InstF (OO (atI d.2.2.1 l.1) l):=CY.1 (aA h.f.is hl hb)
  have hxid:(OO (atI d.2.2.1 l.1) l).1=l.1:=HU _ _
  have h1:=h.putN hx (by rw [hxid];exact hu)
  refine ⟨h1.putL (l:=(l.1,l.2.1,2,l.2.2.2.1,l.2.2.2.2.1,[],l.2.2.2.2.2.2)) ⟨hl.id,hl.bal,⟨by show (1:Int)≤2;omega,by show (2:Int)≤3;omega⟩,hl.seq,hl.deps,hl.self,rfl⟩ (.inl hin) hu (fun e=>by exact absurd (show (2:Int)=3 from e) de),rfl,?_,by show (GR _ _).length≤2;rw [Nm h.f.me];omega⟩;exact SD h.f.me ⟨⟨by show (1:Int)≤3;omega,by show (3:Int)≤7;omega⟩,hl.id,hl.bal,(Qw h.f l.1).cmd,hl.seq,hl.deps,hl.self,⟨by show (0:Int)≤0;omega,by show (0:Int)≤3;omega⟩⟩
 exact ⟨h.drp l.1,rfl,fun _ hm=>(by cases hm),Nat.zero_le _⟩
theorem YJ {d:At} (h:GN d) {l:Bb} (hl:LeadF l) (hu:unk d l.1=false):GRes d ((IX d l).1,(IX d l).2,true):=by
 unfold IX
 split
 ·rename_i hb
  have hx:InstF (Ry (atI d.2.2.1 l.1) l):=CY.1 (aB h.f.is hl hb)
  have hxid:(Ry (atI d.2.2.1 l.1) l).1=l.1:=HU _ _
  refine ⟨(h.putN hx (by rw [hxid];exact hu)).drp l.1,rfl,?_,by show (GR _ _).length≤2;rw [Nm h.f.me];omega⟩;exact SD h.f.me ⟨⟨by show (1:Int)≤5;omega,by show (5:Int)≤7;omega⟩,hl.id,⟨by show (0:Int)≤0;omega,by show (0:Int)≤600;omega⟩,(Qw h.f l.1).cmd,hl.seq,hl.deps,hl.self,⟨by show (0:Int)≤0;omega,by show (0:Int)≤3;omega⟩⟩
 exact ⟨h.drp l.1,rfl,fun _ hm=>(by cases hm),Nat.zero_le _⟩
theorem GRes.of {d e:At} {r:Gv} (h:GRes e r) (he:e.1=d.1):GRes d r:=⟨h.g,h.me.trans he,fun m hm=>by rw [← he];exact h.out m hm,h.len⟩
theorem Te {d:At} {m x:Au} (h:MsgF m∧m.2.1=d.1) (hx:x∈[m]):MsgF x∧x.2.1=d.1:=by
 rw [List.mem_singleton] at hx;rw [hx];exact h
theorem YK {d:At} (h:NodeF d) {m:Au} (hm:MsgF m) (ht:m.2.2.1=d.1) {x:AD} (hx:ValF m.2.2.2.1 x):MsgF (Sz d.1 m x)∧(Sz d.1 m x).2.1=d.1 :=
 ⟨⟨⟨by show (1:Int)≤2;omega,by show (2:Int)≤7;omega⟩,h.me,hm.frm,fun e=>hm.ne (e.symm.trans ht.symm),hm.id,hm.bal,Mz,hx.seq,hx.deps,hx.self,⟨by show (0:Int)≤0;omega,by show (0:Int)≤3;omega⟩,⟨by show (-1:Int)≤-1;omega,by show (-1:Int)≤600;omega⟩⟩,rfl⟩
theorem iK {d:At} (h:NodeF d) {m:Au} (hm:MsgF m) (ht:m.2.2.1=d.1):MsgF (UT d.1 m)∧(UT d.1 m).2.1=d.1 :=
 ⟨⟨⟨by show (1:Int)≤4;omega,by show (4:Int)≤7;omega⟩,h.me,hm.frm,fun e=>hm.ne (e.symm.trans ht.symm),hm.id,hm.bal,Mz,⟨by show (0:Int)≤0;omega,by show (0:Int)≤60;omega⟩,rfl,rfl,⟨by show (0:Int)≤0;omega,by show (0:Int)≤3;omega⟩,⟨by show (-1:Int)≤-1;omega,by show (-1:Int)≤600;omega⟩⟩,rfl⟩
theorem fK {d:At} (h:NodeF d) {m:Au} (hm:MsgF m) (ht:m.2.2.1=d.1):MsgF (Tb d.1 m (atI d.2.2.1 m.2.2.2.1))∧(Tb d.1 m (atI d.2.2.1 m.2.2.2.1)).2.1=d.1:=by
 have hx:=Qw h m.2.2.2.1
 have hb:=SB h m.2.2.2.1
 exact ⟨⟨⟨by show (1:Int)≤7;omega,by show (7:Int)≤7;omega⟩,h.me,hm.frm,fun e=>hm.ne (e.symm.trans ht.symm),hm.id,hm.bal,hx.cmd,hx.seq,hx.deps,hx.self,hb.2.2,hb.2.1⟩,rfl⟩
theorem InstF.val {x:AD} (h:InstF x) {id:AU} (he:x.1=id):ValF id x:=⟨h.cmd,h.seq,h.deps,by rw [← he];exact h.self⟩
theorem oQ {d:At} (h:GN d) {m:Au} (hm:MsgF m) (ht:m.2.2.1=d.1) (hu:unk d m.2.2.2.1=false):GRes d (RC d m):=by
 unfold RC
 split
 ·exact h.no
 split
 ·exact ⟨h,rfl,fun x hx=>Te (YK h.f hm ht (Qw h.f _)) hx,by show (1:Nat)≤2;omega⟩
 split
 ·rename_i hi
  have hiF:=CY.1 hi
  exact ⟨h.putN hiF hu,rfl,fun x hx=>Te (YK h.f hm ht (hiF.val rfl)) hx,by show (1:Nat)≤2;omega⟩
 exact h.no
theorem oR {d:At} (h:GN d) {m:Au} (hm:MsgF m) (ht:m.2.2.1=d.1) (hu:unk d m.2.2.2.1=false):GRes d (RE d m):=by
 unfold RE
 split
 ·exact h.no
 split
 ·rename_i hi
  exact ⟨h.putN (CY.1 hi) hu,rfl,fun x hx=>Te (iK h.f hm ht) hx,by show (1:Nat)≤2;omega⟩
 exact h.no
theorem oS {d:At} (h:GN d) {m:Au} (hu:unk d m.2.2.2.1=false):GRes d (RF d m):=by
 unfold RF
 split
 ·exact h.no
 split
 ·rename_i hi
  exact ⟨(h.putN (CY.1 hi) hu).drp m.2.2.2.1,rfl,fun _ hx=>(by cases hx),Nat.zero_le _⟩
 exact h.no
theorem mK {d:At} (h:GN d) {m:Au} (hm:MsgF m) (ht:m.2.2.1=d.1) (hu:unk d m.2.2.2.1=false):GRes d (NT d m):=by
 unfold NT
 split
 ·exact h.no
 rename_i hq
 have hmb:=hm.bal
 have hq':¬ m.2.2.2.2.1≤(atI d.2.2.1 m.2.2.2.1).2.1:=fun e=>hq (decide_eq_true e)
 have hi:=Qu h.f.is (id:=m.2.2.2.1) hm.id (b:=m.2.2.2.2.1) om hmb.1 hmb.2
 have hid:(JS (atI d.2.2.1 m.2.2.2.1) m.2.2.2.2.1).1=m.2.2.2.1:=HU _ _
 exact ⟨h.putN (CY.1 hi) (by rw [hid];exact hu),rfl,fun x hx=>Te (fK h.f hm ht) hx,by show (1:Nat)≤2;omega⟩
theorem iL {d:At} (h:GN d) {m:Au} (hm:MsgF m):GRes d (JU d m):=by
 unfold JU
 split
 ·exact h.no
 rename_i l hf
 obtain ⟨hlm,hlid,hlf⟩:=Gn h.f hf
 split
 ·rename_i hc
  simp only [Bool.and_eq_true,decide_eq_true_eq] at hc
  have hLF:=Ub hlf hm hlid
  have hul:unk d (Dm l m).1=false:=h.kn l hlm
  have hG:GN (EW d (Dm l m)):=h.putL hLF (.inl ⟨l,hlm,rfl⟩) hul (fun e=>by have:(Dm l m).2.2.1=1:=hc.1.2;omega)
  have hin:∃ m',m'∈(EW d (Dm l m)).2.2.2∧m'.1=(Dm l m).1:=by
   refine ⟨Dm l m,?_,rfl⟩;show Dm l m∈DR d.2.2.2 (Dm l m);rcases Tw d.2.2.2 (Dm l m) with ⟨k,y,hk,_,hp⟩ | ⟨_,hp⟩
   ·rw [hp];exact List.mem_set (List.getElem?_eq_some_iff.1 hk).1 _
   ·rw [hp];simp
  unfold UU
  split
  ·exact (YI hG hLF hin (by rw [MC rfl rfl];exact hul)).of rfl
  split
  ·exact (YJ hG hLF (by rw [MC rfl rfl];exact hul)).of rfl
  exact ⟨hG,rfl,fun _ hx=>(by cases hx),Nat.zero_le _⟩
 exact h.no
theorem iM {d:At} (h:GN d) {m:Au}:GRes d (OT d m):=by
 unfold OT
 split
 ·exact h.no
 rename_i l hf
 obtain ⟨hlm,hlid,hlf⟩:=Gn h.f hf
 split
 ·exact YJ h hlf (h.kn l hlm)
 exact h.no
theorem fL {d:At} (h:GN d) {m:Au} (hu:unk d m.2.2.2.1=false):GRes d (IB d m):=by
 unfold IB
 split
 ·exact h.no
 rename_i l hf
 obtain ⟨hlm,hlid,hlf⟩:=Gn h.f hf
 split
 ·rename_i hc
  simp only [Bool.and_eq_true,decide_eq_true_eq] at hc;obtain ⟨_,_,_,h123⟩:=SC (atI d.2.2.1 m.2.2.2.1) m;generalize HV (atI d.2.2.1 m.2.2.2.1) (Jo m)=p at h123;unfold Td
  split
  ·rename_i hi
   have hyF:=CY.1 hi
   have hyid:=RH d l m p
   have hG:=h.putN hyF (by rw [hyid];exact hu)
   have hul:unk (putN d (BR d l m p)) l.1=false:=by rw [MC rfl rfl];exact h.kn l hlm
   have hin:∃ m',m'∈(putN d (BR d l m p)).2.2.2∧m'.1=l.1:=⟨l,hlm,rfl⟩
   split
   ·exact (YJ hG (Nl hlf hyF (hyid.trans hlid.symm) hlf.ph _) hul).of rfl
   split
   ·exact (YI hG (Nl hlf hyF (hyid.trans hlid.symm) hlf.ph _) hin hul).of rfl
   refine ⟨hG.putL (Nl hlf hyF (hyid.trans hlid.symm) om _) (.inl hin) hul (fun e=>by exact absurd (show (1:Int)=3 from e) de),rfl,?_,by show (GR _ _).length≤2;rw [Nm h.f.me];omega⟩;exact SD h.f.me ⟨⟨by show (1:Int)≤1;omega,by show (1:Int)≤7;omega⟩,by show Ed m.2.2.2.1=true;rw [← hyid];exact hyF.id,hlf.bal,hyF.cmd,hyF.seq,hyF.deps,by show (((BR d l m p).2.2.2.2.2.2.1).any fun y=>BT y m.2.2.2.1)=false;have:=hyF.self;rw [hyid] at this;exact this,⟨by show (0:Int)≤0;omega,by show (0:Int)≤3;omega⟩⟩
  exact h.no
 exact h.no
theorem fM {d:At} (h:GN d) {m:Au} (hm:MsgF m) (ht:m.2.2.1=d.1) (hu:unk d m.2.2.2.1=false):GRes d (HJ d m):=by
 unfold HJ
 split
 ·exact oQ h hm ht hu
 split
 ·exact iL h hm
 split
 ·exact oR h hm ht hu
 split
 ·exact iM h
 split
 ·exact oS h hu
 split
 ·exact mK h hm ht hu
 exact fL h hu
theorem oT {d:At} (h:GN d) (m:Au):GRes d (getD d m):=by
 unfold getD;rw [if_pos (nodeF.ok h.f)]
 split
 ·exact h.no
 rename_i hc
 simp only [Bool.or_eq_true,Bool.not_eq_true',decide_eq_false_iff_not,not_or,Bool.not_eq_false,Classical.not_not,Bool.not_eq_true] at hc;exact fM h (TZ.1 hc.1.1) hc.1.2 hc.2
theorem mL {d:At} (h:GN d) (id:AU):GRes d (Pz d id):=by
 unfold Pz;rw [if_pos (nodeF.ok h.f)];unfold Xt
 split
 ·exact h.no
 rename_i l hf
 obtain ⟨hlm,hlid,hlf⟩:=Gn h.f hf
 split
 ·exact YI h hlf ⟨l,hlm,rfl⟩ (h.kn l hlm)
 exact h.no
theorem oU {d:At} (h:GN d) (id:AU):GRes d (Sw d id):=by
 unfold Sw;rw [if_pos (nodeF.ok h.f)];unfold bY
 split
 ·exact h.no
 rename_i hc
 unfold Xv at hc;simp only [Bool.or_eq_true,Bool.not_eq_true',not_or,Bool.not_eq_false,Bool.not_eq_true] at hc;obtain ⟨hid,hst,h600,h8,hu⟩:=hc
 have h600:¬ 600 < IY d.1 (atI d.2.2.1 id).2.1:=of_decide_eq_false h600
 have hge:=VJ d.1 (atI d.2.2.1 id).2.1
 have hi:=Qu h.f.is hid (b:=IY d.1 (atI d.2.2.1 id).2.1) hge.1 om om
 have hxid:(JS (atI d.2.2.1 id) (IY d.1 (atI d.2.2.1 id).2.1)).1=id:=HU _ _
 have hG:=h.putN (CY.1 hi) (by rw [hxid];exact hu)
 refine ⟨hG.putL (l:=RA id (IY d.1 (atI d.2.2.1 id).2.1)) ⟨hid,by show 0≤IY _ _∧IY _ _≤600;omega,⟨by show (1:Int)≤3;omega,by show (3:Int)≤3;omega⟩,⟨by show (0:Int)≤0;omega,by show (0:Int)≤60;omega⟩,rfl,rfl,rfl⟩ ?_ (by rw [MC rfl rfl];exact hu) (fun _=>rfl),rfl,?_,by show (GR _ _).length≤2;rw [Nm h.f.me];omega⟩
 ·rw [Bool.and_eq_false_iff] at h8;rcases h8 with q | q
  ·right
   have:=of_decide_eq_false q
   have:=h.f.ll
   show d.2.2.2.length < 8;omega
  left
  cases hf:d.2.2.2.find? fun y=>BT y.1 id with
  | none=>rw [hf] at q;cases q
  | some l=>exact ⟨l,(Gn h.f hf).1,(Gn h.f hf).2.1⟩
 exact SD h.f.me ⟨⟨by show (1:Int)≤6;omega,by show (6:Int)≤7;omega⟩,hid,by show 0≤IY _ _∧IY _ _≤600;omega,Mz,⟨by show (0:Int)≤0;omega,by show (0:Int)≤60;omega⟩,rfl,rfl,⟨by show (0:Int)≤0;omega,by show (0:Int)≤3;omega⟩⟩
theorem fN {d:At} (h:GN d):(d.2.2.2.findIdx? fun y=>BT y.1 (d.1,d.2.1))=none:=by
 rw [List.findIdx?_eq_none_iff];intro l hl
 have:=h.kn l hl
 unfold unk at this;rw [EP,decide_eq_false_iff_not];intro e;rw [e] at this;simp at this
theorem oV {d:At} (h:GN d) (c:CH):GRes d (Sx d c):=by
 unfold Sx;rw [if_pos (nodeF.ok h.f)];unfold bZ
 cases hno:LG d c with
 | true=>exact h.no
 | false =>
  rw [if_neg Bool.false_ne_true]
  have hi:=CY.1 (RB h.f hno)
  have hnx:=h.f.nx
  have hme:=h.f.me
  have hno2:=hno
  unfold LG at hno2;simp only [Bool.or_eq_false_iff,Bool.not_eq_false',decide_eq_false_iff_not] at hno2;obtain ⟨⟨⟨⟨h1,h2⟩,h3⟩,h4⟩,h5⟩:=hno2
  have hlf:LeadF (Jn d c):=⟨hi.id,by show 0≤d.1∧d.1≤600;omega,⟨by show (1:Int)≤1;omega,by show (1:Int)≤3;omega⟩,hi.seq,hi.deps,hi.self,rfl⟩
  refine ⟨⟨NodeF.mk' hme (by show 1≤d.2.1+1∧d.2.1+1≤7;omega) (VG h.f.is (CY.2 hi)) ?_ (fun x hx he=>?_) (fun l hl=>?_) ?_,fun l hl=>?_,fun l hl h3'=>?_⟩,rfl,?_,by show (GR _ _).length≤2;rw [Nm h.f.me];omega⟩
  ·show (d.2.2.2++[Jn d c]).length≤8;rw [List.length_append,List.length_singleton];omega
  ·show x.1.2 < d.2.1+1;rcases My.1 hx with q | ⟨q,_⟩
   ·rw [q];show d.2.1 < d.2.1+1;omega
   ·have:=h.f.own x q he;omega
  ·rcases List.mem_append.1 hl with q | q
   ·exact h.f.ldF q
   ·rw [List.mem_singleton.1 q];exact hlf
  ·show ((d.2.2.2++[Jn d c]).map (·.1)).Nodup;rw [List.map_append,List.nodup_append];refine ⟨h.f.nd,by simp,fun a ha b hb=>?_⟩;simp only [List.map_cons,List.map_nil,List.mem_singleton] at hb;subst hb;obtain ⟨m,hm,rfl⟩:=List.mem_map.1 ha
   have:=List.findIdx?_eq_none_iff.1 (fN h) m hm
   rw [EP,decide_eq_false_iff_not] at this;exact this
  ·show (decide (l.1.1=d.1)&&decide (d.2.1+1≤l.1.2))=false;rcases List.mem_append.1 hl with q | q
   ·have:=h.kn l q
    unfold unk at this;simp only [Bool.and_eq_false_iff,decide_eq_false_iff_not] at this ⊢;omega
   ·rw [List.mem_singleton.1 q];simp only [Bool.and_eq_false_iff,decide_eq_false_iff_not]
    right;show ¬ d.2.1+1≤d.2.1;omega
  ·rcases List.mem_append.1 hl with q | q
   ·exact h.th l q h3'
   ·rw [List.mem_singleton.1 q] at h3';exact absurd (show (1:Int)=3 from h3') de
  ·exact SD hme ⟨⟨by show (1:Int)≤1;omega,by show (1:Int)≤7;omega⟩,hi.id,by show 0≤d.1∧d.1≤600;omega,hi.cmd,hi.seq,hi.deps,hi.self,⟨by show (0:Int)≤0;omega,by show (0:Int)≤3;omega⟩⟩
theorem WW {d:At} {m:Au} (h:GN d) (hm:Ok.ok m):Lw d m=some (getD d m):=by
 have hf:=h.f
 have hk:=nodeF.ok hf
 unfold Lw getD;refine AN (JN hf.okk) ?_;rw [hk,Bool.not_true,cond_false,if_pos rfl];refine AN (Zr hm) ?_;rw [show (decide (m.2.2.2.1.1=d.1)&&decide (d.2.1≤m.2.2.2.1.2))=unk d m.2.2.2.1 from rfl]
 cases hc:((!LH m)||(!decide (m.2.2.1=d.1)))||unk d m.2.2.2.1 with
 | true =>
  rw [cond_true,if_pos rfl];exact AN (FG hf.small) rfl
 | false =>
  rw [cond_false,if_neg Bool.false_ne_true];simp only [Bool.or_eq_false_iff,Bool.not_eq_false',decide_eq_true_eq] at hc
  have hmf:=TZ.1 hc.1.1
  refine AN (FG hf.small) ?_;refine AN (cK hf hmf hc.2) ?_;exact AN (FG (fM h hmf hc.1.2 hc.2).g.f.small) rfl
def NoOr (d:At) (r:Gv):Prop:=r=noG d∨r.2.2=true
theorem NoOr.ite {d:At} {c:Prop} [Decidable c] {a b:Gv} (h1:NoOr d a) (h2:NoOr d b):NoOr d (if c then a else b):=by
 by_cases h:c
 ·rw [if_pos h];exact h1
 rw [if_neg h];exact h2
theorem NoOr.no (d:At):NoOr d (noG d):=.inl rfl
theorem NoOr.yes {d e:At} {ms:List Au}:NoOr d (e,ms,true):=.inr rfl
theorem fO (d:At) (m:Au):NoOr d (JU d m):=by
 unfold JU
 split
 ·exact .no d
 exact .ite (.ite .yes (.ite .yes .yes)) (.no d)
theorem fP (d:At) (m:Au):NoOr d (OT d m):=by
 unfold OT
 split
 ·exact .no d
 exact .ite .yes (.no d)
theorem cL (d:At) (m:Au):NoOr d (IB d m):=by
 unfold IB
 split
 ·exact .no d
 exact .ite (.ite (.ite .yes (.ite .yes .yes)) (.no d)) (.no d)
theorem mM (d:At) (m:Au):NoOr d (HJ d m):=by
 unfold HJ;exact .ite (.ite (.no d) (.ite .yes (.ite .yes (.no d)))) (.ite (fO d m) (.ite (.ite (.no d) (.ite .yes (.no d))) (.ite (fP d m) (.ite (.ite (.no d) (.ite .yes (.no d))) (.ite (.ite (.no d) .yes) (cL d m))))))
theorem mN {d:At} {m:Au} (h:(HJ d m).2.2=false):HJ d m=noG d:=by
 rcases mM d m with q | q
 ·exact q
 rw [h] at q;cases q
theorem WX {d:At} {m:Au} (h:GN d) (hm:Ok.ok m):JZ d m=some (getD d m):=by
 have hf:=h.f
 have hk:=nodeF.ok hf
 unfold JZ getD;refine AN (JO hf.okk) ?_;rw [hk,Bool.not_true,cond_false,if_pos rfl];refine AN (Zs hm) ?_;rw [show FA _ _=some (unk d m.2.2.2.1) from rfl]
 cases q1:((!LH m)||(!decide (m.2.2.1=d.1))) with
 | true =>
  rw [Bool.true_or,if_pos rfl];exact AN (Fu hf.small) rfl
 | false =>
  rw [Bool.not_false,Dn,ob,Bool.false_or]
  cases q2:unk d m.2.2.2.1 with
  | true =>
   rw [cond_true,if_pos rfl];exact AN (Fu hf.small) rfl
  | false =>
   rw [cond_false,if_neg Bool.false_ne_true];simp only [Bool.or_eq_false_iff,Bool.not_eq_false',decide_eq_true_eq] at q1
   have hmf:=TZ.1 q1.1
   refine AN (Fu hf.small) ?_;refine AN (iJ hf hmf q2 h.th) ?_
   by_cases hr:(HJ d m).2.2=true
   ·show (cond (!(HJ d m).2.2) _ _:Option Gv)=some (HJ d m);rw [hr,Bool.not_true,cond_false]
    have e:HJ d m=((HJ d m).1,(HJ d m).2.1,true):=by rw [← hr]
    exact congrArg some e.symm
   ·have hr:(HJ d m).2.2=false:=by simpa using hr
    show (cond (!(HJ d m).2.2) _ _:Option Gv)=some (HJ d m);rw [hr,Bool.not_false,cond_true,mN hr];exact AN (Fu hf.small) rfl
end Go.Proofs.SL
