/- The texts of the proof, part 13. -/
import Derived.Test.YthlbpedehajlgaaGreatT12
import Derived.Test.YthlbpedehajlgaaGreatT3
import Derived.Test.YthlbpedehajlgaaGreatT4
set_option linter.all false
namespace Go.Proofs.SL
open Go
theorem Mt (x a b:Int):ER x a b=some (decide (a≤x∧x≤b)):=by
 unfold ER;rw [Bool.decide_and]
theorem HT (x a b:Int):Dz x a b=some (decide (a≤x∧x≤b)):=by
 unfold Dz;rw [Bool.decide_and]
theorem ML {α:Type} {p:α→Bool} {xs:List α} {k:Nat} (h:xs.findIdx? p=some k):DE p xs=(k:Int):=by unfold DE;rw [h]
theorem PL {α:Type} {p:α→Bool} {xs:List α} (h:xs.findIdx? p=none):DE p xs=-1:=by unfold DE;rw [h]
theorem gbs {α β:Type} [Inhabited α] (g:Bool) (a:α) (k:α→Option β):gb g (some a) k=if g then k a else k default:=by cases g<;>rfl
theorem Ng {δ:Type} {l:List δ} {k:Nat} (hk:k < l.length) (hl:l.length≤9223372036854775807) (h0:0 < k):∃ r,l[k - 1]?=some r∧idx l (IntKind.wrap .i64 ((k:Int) - 1))=some r:=by
 refine ⟨l[k - 1],List.getElem?_eq_getElem om,?_⟩;rw [CE iR,show ((k:Int) - 1)=((k - 1:Nat):Int) by omega,BV];exact List.getElem?_eq_getElem om
theorem Mu {α β:Type} [Inhabited α] (g:Bool) (o:Option α) (k:α→Option β) (h:g=false):gb g o k=k default:=by subst h;rfl
theorem mC {s:ByteArray} {k:Nat} (h:k < s.size):∃ n,Ou s (k:Int)=some n∧0≤n∧n < 256:=by
 refine ⟨((s[k]'h).toNat:Int),?_,by omega,by have:=(s[k]'h).toNat_lt;omega⟩;unfold Ou;rw [dif_pos ⟨by omega,by simpa using h⟩];simp
theorem Pt {β γ:Type} {l:List γ} {p:γ→Bool} {no yes:Option β} {f:Int→Option (Int ⊕ β)} (hl:l.length≤9223372036854775807)
  (hf:∀ (k:Nat) (x:γ),l[k]?=some x→f (k:Int)=if p x then some (.inl (IntKind.wrap .i64 ((k:Int)+1))) else no.map .inr) (hn:f (l.length:Int)=yes.map .inr) :
  BH f 0=if l.all p then yes else no:=by
 rw [Gz (n:=l.length) (fun k=>(l[k]?).all p) no yes ?_ hn,Wz];intro k hk;rw [hf k l[k] (List.getElem?_eq_getElem hk),List.getElem?_eq_getElem hk,Dc om];rfl
theorem mD (xs:List Int):bds Int xs=0:=by
 induction xs with
 | nil=>rfl
 | cons x xs ih=>simp only [bds,ih];rfl
end Go.Proofs.SL
namespace Go.Proofs.SL
open Go
theorem IV {α:Type} {R:α→α→Prop} (tr:∀ a b c,R a b→R b c→R a c):∀ (l:List α),(∀ k (h:k+1 < l.length),R l[k] l[k+1])→l.Pairwise R
 | [],_=>List.Pairwise.nil
 | [a],_=>List.pairwise_singleton _ _
 | a::b::l,h=>by
  have ih:=IV tr (b::l) (fun k hk=>h (k+1) (by simp at hk ⊢;omega))
  refine List.pairwise_cons.2 ⟨fun x hx=>?_,ih⟩
  have h0:R a b:=h 0 (by simp)
  rcases List.mem_cons.1 hx with rfl | hx
  ·exact h0
  ·exact tr _ _ _ h0 (List.rel_of_pairwise_cons ih hx)
end Go.Proofs.SL
namespace Go.Proofs.SL
open Go
theorem OK (x:Int):Ii x=some (decide (0≤x∧x < 3)):=by
 unfold Ii;rw [HT,show decide (0≤x∧x≤2)=decide (0≤x∧x < 3) by rw [Bool.eq_iff_iff];simp;omega];rfl
theorem Pv (x:Int):HZ x=some (decide (0≤x∧x < 3)):=by unfold HZ;rw [Bool.decide_and]
def Qq (ns:List Int) (k:Nat):Bool:=match ns[k]? with
 | none=>false
 | some n=>decide (0≤n∧n < 3)&&(decide (k=0)||(ns[k - 1]?).all fun r=>decide (r < n))
def Hw (ns:List Int):Bool:=(List.range ns.length).all (Qq ns)
theorem UL {α:Type} (p:α→Bool) (l:List α):decide (0≤DE p l)=l.any p:=by
 rcases Zh p l with ⟨h1,h2⟩ | ⟨k,x,h1,h2,h3,_⟩
 ·rw [h1]
  cases h:l.any p with
  | false=>rfl
  | true =>
   obtain ⟨x,hx,hp⟩:=List.any_eq_true.1 h;exact absurd hp (List.find?_eq_none.1 h2 x hx)
 rw [h1,show decide (0≤(k:Int))=true by simp]
 symm
 exact List.any_eq_true.2 ⟨x,List.mem_of_getElem? h2,List.find?_some h3⟩
theorem Nu {β:Type} (p:β→Bool):∀ (xs acc:List β),xs.foldl (fun t x=>if p x then t++[x] else t) acc=acc++xs.filter p
 | [],acc=>by simp
 | x::xs,acc=>by
  rw [List.foldl_cons]
  cases hp:p x with
  | true=>simp only [if_true];rw [Nu p xs];simp [hp]
  | false=>simp only [Bool.false_eq_true,if_false];rw [Nu p xs];simp [hp]
theorem Ja {ns:List Int} (h:Hw ns=true):(∀ n,n∈ns→0≤n∧n < 3)∧ns.Pairwise (· < ·):=by
 unfold Hw at h;simp only [List.all_eq_true,List.mem_range] at h
 have h1:∀ n,n∈ns→0≤n∧n < 3:=fun n hn=>by
  obtain ⟨k,hk⟩:=List.getElem?_of_mem hn
  have:=h k (List.getElem?_eq_some_iff.1 hk).1
  unfold Qq at this;rw [hk] at this;simp only [Bool.and_eq_true,decide_eq_true_eq] at this;exact this.1
 refine ⟨h1,IV (R:=(· < ·)) (fun a b c=>Int.lt_trans) ns fun k hk=>?_⟩
 have:=h (k+1) hk
 unfold Qq at this;rw [List.getElem?_eq_getElem hk] at this;simp only [Bool.and_eq_true,decide_eq_true_eq,Bool.or_eq_true,Nat.add_sub_cancel,List.getElem?_eq_getElem (show k < ns.length by omega),Option.all_some] at this;rcases this.2 with h2 | h2
 ·omega
 exact h2
theorem Wn:∀ {l:List Int} {a b:Int},l.Pairwise (· < ·)→(∀ n,n∈l→a≤n∧n < b)→(l.length:Int)≤max 0 (b - a)
 | [],a,b,_,_=>by simp;omega
 | x::l,a,b,h1,h2=>by
  obtain ⟨h3,h4⟩:=List.pairwise_cons.1 h1
  have hx:=h2 x (List.mem_cons_self ..)
  have:=Wn (a:=x+1) (b:=b) h4 (fun n hn=>⟨by have:=h3 n hn;omega,(h2 n (List.mem_cons_of_mem _ hn)).2⟩)
  simp only [List.length_cons];omega
theorem Yk {l:List Int} (h1:∀ n,n∈l→0≤n∧n < 3) (h2:l.Pairwise (· < ·)):l.length≤3:=by
 have:=Wn h2 h1
 omega
end Go.Proofs.SL
namespace Go.Proofs.SL
open Go
def Qr (s:ByteArray) (k:Nat):Bool:=match Ou s (k:Int) with
 | some n=>!(decide (n < 97)||decide (122 < n))
 | none=>false
def Oj (s:ByteArray):Bool:=decide (1≤(s.size:Int)∧(s.size:Int)≤8)&&(List.range s.size).all (Qr s)
theorem Wo {β:Type} {s:ByteArray} {no yes:Option β} {f:Int→Option (Int ⊕ β)} (hl:s.size≤9223372036854775807)
  (hf:∀ (k:Nat) (n:Int),k < s.size→Ou s (k:Int)=some n→f (k:Int)=if !(decide (n < 97)||decide (122 < n)) then some (.inl (IntKind.wrap .i64 ((k:Int)+1))) else no.map .inr) (hn:f (s.size:Int)=yes.map .inr) :
  BH f 0=if (List.range s.size).all (Qr s) then yes else no:=by
 refine Gz (Qr s) no yes (fun k hk=>?_) hn;obtain ⟨n,hs,_,_⟩:=mC hk;rw [hf k n hk hs,Dc om];unfold Qr;rw [hs]
theorem Zm {s:ByteArray} (hl:s.size≤9223372036854775807):Ow s=some (Oj s):=by
 unfold Ow Oj;rw [Mt]
 cases h:decide (1≤(s.size:Int)∧(s.size:Int)≤8) with
 | false=>rfl
 | true =>
  simp only [ob,Bool.not_true,cond_false,Bool.true_and];rw [Wo (no:=some false) (yes:=some true) hl]
  ·cases (List.range s.size).all (Qr s)<;>rfl
  ·intro k n hk hs;simp only [En hk,cond_true,hs,ob];rw [show ∀ (g:Bool) (q:Int→Option (Int ⊕ Bool)),gb g (some n) q=if g then q n else q default from fun g q=>by cases g<;>rfl]
   cases decide (n < 97)<;>cases decide (122 < n)<;>rfl
  ·simp only [Eo];rfl
theorem Zn {s:ByteArray} (hl:s.size≤9223372036854775807):Oy s=some (Oj s):=by
 unfold Oy Oj;simp only [HT,ob];rw [Wo (no:=some false) (yes:=some (decide (1≤(s.size:Int)∧(s.size:Int)≤8))) hl]
 ·cases (List.range s.size).all (Qr s)<;>simp
 ·intro k n hk hs;simp only [En hk,cond_true,hs,ob];rw [show ∀ (g:Bool) (q:Int→Option (Int ⊕ Bool)),gb g (some n) q=if g then q n else q default from fun g q=>by cases g<;>rfl]
  cases decide (n < 97)<;>cases decide (122 < n)<;>rfl
 simp only [Eo];rfl
def Gu (s:ByteArray) (is:Bool):Bool:=if is then Oj s else decide (s=ByteArray.empty)
theorem Ru {s:ByteArray} {b:Bool} (hl:s.size≤9223372036854775807):LT s b=some (Gu s b):=by
 unfold LT Gu;rw [Zm hl]
 cases b<;>rfl
theorem PM {s:ByteArray} {b:Bool} (hl:s.size≤9223372036854775807):KG s b=some (Gu s b):=by
 unfold KG Gu;rw [Zn hl]
 cases b<;>rfl
def NN (l:List ByteArray):Bool:=l.all fun c=>decide ((c.size:Int)=8)
theorem VC {l:List ByteArray} (hl:l.length≤9223372036854775807):Ki l=some (NN l):=by
 unfold Ki NN;rw [Pt (p:=fun c=>decide ((c.size:Int)=8)) (no:=some false) (yes:=some true) hl]
 ·cases l.all _<;>rfl
 ·intro k x hx;simp only [En (List.getElem?_eq_some_iff.1 hx).1,cond_true,BV,hx,ob]
  cases decide ((x.size:Int)=8)<;>rfl
 simp only [Eo];rfl
theorem Ym {a b:List ByteArray} (hl:a.length≤9223372036854775807):MS a b=some (decide (a=b)):=by
 unfold MS
 by_cases h:a.length=b.length
 ·rw [show decide ((a.length:Int)=(b.length:Int))=true by simp;omega];simp only [Bool.not_true,cond_false];rw [Gz (n:=a.length) (fun k=>decide (a[k]?=b[k]?)) (some false) (some true)]
  ·by_cases e:a=b
   ·subst e;simp
   rw [decide_eq_false e]
   have:(List.range a.length).all (fun k=>decide (a[k]?=b[k]?))=false:=by
    rw [Bool.eq_false_iff];intro hh;refine e (List.ext_getElem? fun i=>?_)
    by_cases hi:i < a.length
    ·simpa using List.all_eq_true.1 hh i (List.mem_range.2 hi)
    ·rw [List.getElem?_eq_none om,List.getElem?_eq_none om]
   rw [this];rfl
  ·intro k hk
   have h1:a[k]?=some a[k]:=List.getElem?_eq_getElem hk
   have h2:b[k]?=some (b[k]'om):=List.getElem?_eq_getElem om
   simp only [En hk,cond_true,BV,h1,h2,ob,Dc (show k < 9223372036854775807 by omega),Option.some.injEq]
   cases decide (a[k]=b[k]'om)<;>rfl
  simp only [Eo];rfl
 rw [show decide ((a.length:Int)=(b.length:Int))=false by simp;omega,decide_eq_false (fun e=>h (by rw [e]))];rfl
theorem OL {a b:CH} (ho:Ok.ok a):KU a b=some (pB (a=b)):=by
 obtain ⟨a1,a2,a3,a4,a5,a6,a7,a8⟩:=a;obtain ⟨b1,b2,b3,b4,b5,b6,b7,b8⟩:=b
 have hl:a8.length≤9223372036854775807:=ho.2.2.2.2.2.2.2.1
 unfold KU;rw [Ym hl,PY (fun h=>by rw [h];simp)]
 congr 1
 rw [Bool.eq_iff_iff,dJ];simp [and_assoc]
theorem St {a b:CH} (ho:Ok.ok a):MT a b=some (pB (a=b)):=OL ho
def Ih:CH:=(0,0,0,ByteArray.empty,ByteArray.empty,ByteArray.empty,0,[])
instance vG:DecidableEq (Int×List ByteArray):=fun a b=>instDecidableEqProd a b
instance vH:DecidableEq (ByteArray×Int×List ByteArray):=fun a b=>instDecidableEqProd a b
instance vI:DecidableEq (ByteArray×ByteArray×Int×List ByteArray):=fun a b=>instDecidableEqProd a b
instance vJ:DecidableEq (ByteArray×ByteArray×ByteArray×Int×List ByteArray):=fun a b=>instDecidableEqProd a b
instance vK:DecidableEq (Int×ByteArray×ByteArray×ByteArray×Int×List ByteArray):=fun a b=>instDecidableEqProd a b
instance vL:DecidableEq (Int×Int×ByteArray×ByteArray×ByteArray×Int×List ByteArray):=fun a b=>instDecidableEqProd a b
instance vM:DecidableEq (Int×Int×Int×ByteArray×ByteArray×ByteArray×Int×List ByteArray):=fun a b=>instDecidableEqProd a b
theorem Yn (p:Prop) [Decidable p]:pB p=decide p:=by
 rw [Bool.eq_iff_iff,dJ,decide_eq_true_iff]
def DN (c:CH):Bool :=
 if c.1=0 then decide (c=Ih) else
  decide (1≤c.1∧c.1≤7)&&decide (1≤c.2.1∧c.2.1≤9)&&decide (1≤c.2.2.1∧c.2.2.1≤1000)&&Gu c.2.2.2.1 (!decide (c.1=7))&&Gu c.2.2.2.2.1 (decide (c.1=3)||decide (c.1=4))&&Gu c.2.2.2.2.2.1 (decide (c.1=4)) &&
  (decide (c.2.2.2.2.2.2.1=0)||(decide (c.1=5)&&decide (0≤c.2.2.2.2.2.2.1∧c.2.2.2.2.2.2.1≤9)))&&(if c.1=3 then decide (1≤(c.2.2.2.2.2.2.2.length:Int)∧(c.2.2.2.2.2.2.2.length:Int)≤4)&&NN c.2.2.2.2.2.2.2 else decide ((c.2.2.2.2.2.2.2.length:Int)=0))
set_option maxHeartbeats 1000000 in
theorem Lz {c:CH} (ho:Ok.ok c):Il c=some (DN c):=by
 have hl:c.2.2.2.2.2.2.2.length≤9223372036854775807:=ho.2.2.2.2.2.2.2.1
 have h4:c.2.2.2.1.size≤9223372036854775807:=ho.2.2.2.1
 have h5:c.2.2.2.2.1.size≤9223372036854775807:=ho.2.2.2.2.1
 have h6:c.2.2.2.2.2.1.size≤9223372036854775807:=ho.2.2.2.2.2.1
 unfold Il DN;simp only [St ho,HT,PM h4,PM h5,PM h6,VC hl,ob,gbs]
 by_cases h0:c.1=0
 ·rw [if_pos h0,show decide (c=Ih)=pB (c=Ih) from (Yn _).symm,decide_eq_true h0];rfl
 rw [if_neg h0,decide_eq_false h0];generalize Gu c.2.2.2.1 _=W1;generalize Gu c.2.2.2.2.1 _=W2;generalize Gu c.2.2.2.2.2.1 _=W3;generalize NN c.2.2.2.2.2.2.2=W4
 by_cases h5:c.1=5
 ·simp only [h5]
  cases decide (1≤c.2.1∧c.2.1≤9)<;>cases decide (1≤c.2.2.1∧c.2.2.1≤1000)<;>cases W1<;>cases W2<;>cases W3<;>cases decide (c.2.2.2.2.2.2.1=0)<;>cases decide (0≤c.2.2.2.2.2.2.1∧c.2.2.2.2.2.2.1≤9)<;>simp
 by_cases h3:c.1=3
 ·simp only [h3]
  cases decide (1≤c.2.1∧c.2.1≤9)<;>cases decide (1≤c.2.2.1∧c.2.2.1≤1000)<;>cases W1<;>cases W2<;>cases W3<;>cases decide (c.2.2.2.2.2.2.1=0)<;>cases decide (1≤(c.2.2.2.2.2.2.2.length:Int)∧(c.2.2.2.2.2.2.2.length:Int)≤4)<;>simp
 rw [decide_eq_false h5,decide_eq_false h3,if_neg h3]
 cases decide (1≤c.1∧c.1≤7)<;>cases decide (1≤c.2.1∧c.2.1≤9)<;>cases decide (1≤c.2.2.1∧c.2.2.1≤1000)<;>cases W1<;>cases W2<;>cases W3<;>cases decide (c.2.2.2.2.2.2.1=0)<;>simp
set_option maxHeartbeats 1000000 in
theorem LA {c:CH} (ho:Ok.ok c):Ij c=some (DN c):=by
 have hl:c.2.2.2.2.2.2.2.length≤9223372036854775807:=ho.2.2.2.2.2.2.2.1
 have h4:c.2.2.2.1.size≤9223372036854775807:=ho.2.2.2.1
 have h5:c.2.2.2.2.1.size≤9223372036854775807:=ho.2.2.2.2.1
 have h6:c.2.2.2.2.2.1.size≤9223372036854775807:=ho.2.2.2.2.2.1
 unfold Ij DN;simp only [OL ho,Mt,Ru h4,Ru h5,Ru h6,ob,gbs];rw [Pt (p:=fun c=>decide ((c.size:Int)=8)) (no:=some false) (yes:=some true) hl]
 rotate_left
 ·intro k x hx;simp only [En (List.getElem?_eq_some_iff.1 hx).1,cond_true,BV,hx,ob]
  cases decide ((x.size:Int)=8)<;>rfl
 ·simp only [Eo];rfl
 by_cases h0:c.1=0
 ·rw [if_pos h0,show decide (c=Ih)=pB (c=Ih) from (Yn _).symm,decide_eq_true h0,decide_eq_true (show 0≤c.1∧c.1≤7 by omega)];rfl
 rw [if_neg h0,decide_eq_false h0]
 have e7:decide (0≤c.1∧c.1≤7)=decide (1≤c.1∧c.1≤7):=by rw [Bool.eq_iff_iff];simp;omega
 rw [e7];show _=some (_&&(if c.1=3 then _&&c.2.2.2.2.2.2.2.all (fun c=>decide ((c.size:Int)=8)) else _));generalize Gu c.2.2.2.1 _=W1;generalize Gu c.2.2.2.2.1 _=W2;generalize Gu c.2.2.2.2.2.1 _=W3;generalize c.2.2.2.2.2.2.2.all _=W4
 by_cases h5:c.1=5
 ·simp only [h5]
  cases decide (1≤c.2.1∧c.2.1≤9)<;>cases decide (1≤c.2.2.1∧c.2.2.1≤1000)<;>cases W1<;>cases W2<;>cases W3<;>cases decide (c.2.2.2.2.2.2.1=0)<;>cases decide (0≤c.2.2.2.2.2.2.1∧c.2.2.2.2.2.2.1≤9)<;>simp
 by_cases h3:c.1=3
 ·simp only [h3]
  cases decide (1≤c.2.1∧c.2.1≤9)<;>cases decide (1≤c.2.2.1∧c.2.2.1≤1000)<;>cases W1<;>cases W2<;>cases W3<;>cases decide (c.2.2.2.2.2.2.1=0)<;>cases decide (1≤(c.2.2.2.2.2.2.2.length:Int)∧(c.2.2.2.2.2.2.2.length:Int)≤4)<;>cases W4<;>simp
 rw [decide_eq_false h5,decide_eq_false h3,if_neg h3]
 cases decide (1≤c.1∧c.1≤7)<;>cases decide (1≤c.2.1∧c.2.1≤9)<;>cases decide (1≤c.2.2.1∧c.2.2.1≤1000)<;>cases W1<;>cases W2<;>cases W3<;>cases decide (c.2.2.2.2.2.2.1=0)<;>simp
end Go.Proofs.SL
namespace Go.Proofs.SL
open Go
noncomputable section
def Ed (x:AU):Bool:=decide (0≤x.1∧x.1≤2)&&decide (1≤x.2∧x.2≤6)
theorem Nh (x:AU):Kj x=some (Ed x):=by
 unfold Kj Ed;simp only [Mt,ob,gbs]
 cases decide (0≤x.1∧x.1≤2)<;>cases decide (1≤x.2∧x.2≤6)<;>rfl
theorem Ni (x:AU):Kl x=some (Ed x):=by
 unfold Kl Ed;simp only [HT,ob,gbs]
 cases decide (0≤x.1∧x.1≤2)<;>cases decide (1≤x.2∧x.2≤6)<;>rfl
def Cy (a b:AU):Bool:=decide (a.1 < b.1)||(decide (a.1=b.1)&&decide (a.2 < b.2))
theorem Tq (a b:AU):IK a b=some (Cy a b):=rfl
theorem Nv (a b:AU):∃ c,ES a b=some c∧decide (0≤c)=!Cy a b:=by
 unfold ES Cy
 cases h:decide (a.1 < b.1)||(decide (a.1=b.1)&&decide (a.2 < b.2)) with
 | true=>exact ⟨-1,rfl,rfl⟩
 | false =>
  cases h2:decide (a.1=b.1)&&(decide (a.2=b.2)&&true) with
  | true=>exact ⟨0,rfl,rfl⟩
  | false=>exact ⟨1,rfl,rfl⟩
def BT (a b:AU):Bool:=decide (a.1=b.1)&&(decide (a.2=b.2)&&true)
theorem Wp (a b:AU):BT a b=BT b a:=by unfold BT;rw [Bool.eq_iff_iff];simp only [Bool.and_eq_true,decide_eq_true_eq,and_true];constructor<;>(rintro ⟨h1,h2⟩;exact ⟨h1.symm,h2.symm⟩)
def PN (l:List AU) (k:Nat):Bool:=match l[k]? with
 | none=>false
 | some x=>Ed x&&(decide (k=0)||(l[k - 1]?).all fun r=>Cy r x)
def Dl (l:List AU):Bool:=(List.range l.length).all (PN l)
theorem Rv {l:List AU} (hl:l.length≤9223372036854775807):LU l=some (Dl l):=by
 unfold LU Dl;rw [Gz (n:=l.length) (PN l) (some false) (some true)]
 ·cases (List.range l.length).all (PN l)<;>rfl
 ·intro k hk
  have hx:l[k]?=some l[k]:=List.getElem?_eq_getElem hk
  generalize l[k]=x at hx;simp only [En hk,cond_true,BV,hx,ob,Prod.eta,Nh,Tq,Dc (show k < 9223372036854775807 by omega)];unfold PN;simp only [hx];rcases Nat.eq_zero_or_pos k with h0 | h0
  ·subst h0;rw [Mu _ _ _ (by simp)]
   cases Ed x<;>simp [gb]
  obtain ⟨r,hr1,hr2⟩:=Ng hk hl h0
  have h5:decide (0 < (k:Int))=true:=by simp;omega
  have h6:decide (k=0)=false:=by simp;omega
  rw [hr1,hr2,h5,h6,gbs];simp only [Option.all_some]
  by_cases h7:Cy r x=true<;>cases Ed x<;>simp [gb,h7]
 simp only [Eo];rfl
theorem NO {l:List AU} (hl:l.length≤9223372036854775807):KV l=some (Dl l):=by
 unfold KV Dl;rw [Gz (n:=l.length) (PN l) (some false) (some true)]
 ·cases (List.range l.length).all (PN l)<;>rfl
 ·intro k hk
  have hx:l[k]?=some l[k]:=List.getElem?_eq_getElem hk
  generalize l[k]=x at hx;simp only [En hk,cond_true,BV,hx,ob,Prod.eta,Ni,Dc (show k < 9223372036854775807 by omega)];unfold PN;simp only [hx];rcases Nat.eq_zero_or_pos k with h0 | h0
  ·subst h0;rw [Mu _ _ _ (by simp),Mu _ _ _ (by simp)]
   cases Ed x<;>simp
  obtain ⟨r,hr1,hr2⟩:=Ng hk hl h0
  have h5:decide (0 < (k:Int))=true:=by simp;omega
  have h6:decide (k=0)=false:=by simp;omega
  obtain ⟨c,q1,q2⟩:=Nv r x;rw [hr1,hr2,h5,h6,gbs];simp only [Option.all_some,q1]
  by_cases h7:Cy r x=true<;>cases Ed x<;>simp [gb,h7,q2]
 simp only [Eo];rfl
theorem Rx {l:List AU} {x:AU} (h:l.length≤9223372036854775807):LV l x=some (l.any fun y=>BT y x):=by
 unfold LV;rw [Jf (fun y=>BT y x) (fun i=>some (decide (0≤i))) h,UL]
 ·intro k y hy;simp only [En (List.getElem?_eq_some_iff.1 hy).1,cond_true,BV,hy,ob];show cond (BT y x) _ _=_
  cases BT y x<;>simp
 simp only [Eo];rfl
theorem RU {l:List AU} {x:AU} (h:l.length≤9223372036854775807):EE l x=some (l.any fun y=>BT y x):=by
 unfold EE GO;rw [Jf (fun y=>BT y x) some h]
 ·rw [ob,UL]
 ·intro k y hy;simp only [En (List.getElem?_eq_some_iff.1 hy).1,cond_true,BV,hy,ob];show cond (BT x y) _ _=_;rw [Wp]
  cases BT y x<;>rfl
 simp only [Eo];rfl
def Da (x:AD):Bool:=Ed x.1&&decide (-1≤x.2.1∧x.2.1≤600)&&decide (-1≤x.2.2.1∧x.2.2.1≤x.2.1)&&decide (0≤x.2.2.2.1∧x.2.2.2.1≤3)&&DN x.2.2.2.2.1&&decide (0≤x.2.2.2.2.2.1∧x.2.2.2.2.2.1≤60)&&Dl x.2.2.2.2.2.2.1&&!(x.2.2.2.2.2.2.1.any fun y=>BT y x.1) &&
 ((!decide (x.2.2.2.1=0))||(((((decide (x.2.2.1=(-1)))&&(decide (x.2.2.2.2.1.1=0)))&&(decide (x.2.2.2.2.2.1=0)))&&(decide ((x.2.2.2.2.2.2.1.length:Int)=0)))&&(!x.2.2.2.2.2.2.2)))
theorem Kz {x:AD} (ho:Ok.ok x):Gs x=some (Da x):=by
 have hc:Ok.ok x.2.2.2.2.1:=ho.2.2.2.2.1
 have hd:x.2.2.2.2.2.2.1.length≤9223372036854775807:=ho.2.2.2.2.2.2.1.1
 unfold Gs Da;simp only [Prod.eta,Nh,Mt,LA hc,Rv hd,Rx hd,ob];generalize ((!decide (x.2.2.2.1=0))||(((((decide (x.2.2.1=(-1)))&&(decide (x.2.2.2.2.1.1=0)))&&(decide (x.2.2.2.2.2.1=0)))&&(decide ((x.2.2.2.2.2.2.1.length:Int)=0)))&&(!x.2.2.2.2.2.2.2)))=b9;generalize (x.2.2.2.2.2.2.1.any fun y=>BT y x.1)=b8;generalize Dl x.2.2.2.2.2.2.1=b7;generalize decide (0≤x.2.2.2.2.2.1∧x.2.2.2.2.2.1≤60)=b6;generalize DN x.2.2.2.2.1=b5;generalize decide (0≤x.2.2.2.1∧x.2.2.2.1≤3)=b4;generalize decide (-1≤x.2.2.1∧x.2.2.1≤x.2.1)=b3;generalize decide (-1≤x.2.1∧x.2.1≤600)=b2;generalize Ed x.1=b1;cases b1
 ·rfl
 cases b2
 ·rfl
 cases b3
 ·rfl
 cases b4
 ·rfl
 cases b5
 ·rfl
 cases b6
 ·rfl
 cases b7
 ·rfl
 cases b8<;>rfl
theorem Tr {x:AD} (ho:Ok.ok x):KH x=some (Da x):=by
 have hc:Ok.ok x.2.2.2.2.1:=ho.2.2.2.2.1
 have hd:x.2.2.2.2.2.2.1.length≤9223372036854775807:=ho.2.2.2.2.2.2.1.1
 unfold KH Da;simp only [Prod.eta,Ni,HT,Lz hc,NO hd,RU hd,ob];generalize ((!decide (x.2.2.2.1=0))||(((((decide (x.2.2.1=(-1)))&&(decide (x.2.2.2.2.1.1=0)))&&(decide (x.2.2.2.2.2.1=0)))&&(decide ((x.2.2.2.2.2.2.1.length:Int)=0)))&&(!x.2.2.2.2.2.2.2)))=b9;generalize (x.2.2.2.2.2.2.1.any fun y=>BT y x.1)=b8;generalize Dl x.2.2.2.2.2.2.1=b7;generalize decide (0≤x.2.2.2.2.2.1∧x.2.2.2.2.2.1≤60)=b6;generalize DN x.2.2.2.2.1=b5;generalize decide (0≤x.2.2.2.1∧x.2.2.2.1≤3)=b4;generalize decide (-1≤x.2.2.1∧x.2.2.1≤x.2.1)=b3;generalize decide (-1≤x.2.1∧x.2.1≤600)=b2;generalize Ed x.1=b1;cases b1
 ·rfl
 cases b2
 ·rfl
 cases b3
 ·rfl
 cases b4
 ·rfl
 cases b5
 ·rfl
 cases b6
 ·rfl
 cases b7
 ·rfl
 cases b8<;>rfl
def KA (l:List AD) (k:Nat):Bool:=match l[k]? with
 | none=>false
 | some x=>Da x&&(decide (k=0)||(l[k - 1]?).all fun r=>Cy r.1 x.1)
def Dk (l:List AD):Bool:=(List.range l.length).all (KA l)
theorem Yo {l:List AD} (ho:Ok.ok l):MU l=some (Dk l):=by
 have hl:l.length≤9223372036854775807:=ho.1
 unfold MU Dk;rw [Gz (n:=l.length) (KA l) (some false) (some true)]
 ·cases (List.range l.length).all (KA l)<;>rfl
 ·intro k hk
  have hx:l[k]?=some l[k]:=List.getElem?_eq_getElem hk
  generalize l[k]=x at hx
  have hox:Ok.ok x:=ho.2 x (List.mem_of_getElem? hx)
  simp only [En hk,cond_true,BV,hx,ob,Prod.eta,Kz hox,Tq,Dc (show k < 9223372036854775807 by omega)];unfold KA;simp only [hx];rcases Nat.eq_zero_or_pos k with h0 | h0
  ·subst h0;rw [Mu _ _ _ (by simp)]
   cases Da x<;>simp [gb]
  obtain ⟨r,hr1,hr2⟩:=Ng hk hl h0
  have h5:decide (0 < (k:Int))=true:=by simp;omega
  have h6:decide (k=0)=false:=by simp;omega
  rw [hr1,hr2,h5,h6,gbs];simp only [Option.all_some]
  by_cases h7:Cy r.1 x.1=true<;>cases Da x<;>simp [gb,h7]
 simp only [Eo];rfl
theorem LB {l:List AD} (ho:Ok.ok l):Hm l=some (Dk l):=by
 have hl:l.length≤9223372036854775807:=ho.1
 unfold Hm Dk;rw [Gz (n:=l.length) (KA l) (some false) (some true)]
 ·cases (List.range l.length).all (KA l)<;>rfl
 ·intro k hk
  have hx:l[k]?=some l[k]:=List.getElem?_eq_getElem hk
  generalize l[k]=x at hx
  have hox:Ok.ok x:=ho.2 x (List.mem_of_getElem? hx)
  simp only [En hk,cond_true,BV,hx,ob,Prod.eta,Tr hox,Dc (show k < 9223372036854775807 by omega)];unfold KA;simp only [hx];rcases Nat.eq_zero_or_pos k with h0 | h0
  ·subst h0;rw [Mu _ _ _ (by simp),Mu _ _ _ (by simp)]
   cases Da x<;>simp
  obtain ⟨r,hr1,hr2⟩:=Ng hk hl h0
  have h5:decide (0 < (k:Int))=true:=by simp;omega
  have h6:decide (k=0)=false:=by simp;omega
  obtain ⟨c,q1,q2⟩:=Nv r.1 x.1;rw [hr1,hr2,h5,h6,gbs];simp only [Option.all_some,q1]
  by_cases h7:Cy r.1 x.1=true<;>cases Da x<;>simp [gb,h7,q2]
 simp only [Eo];rfl
end
end Go.Proofs.SL
namespace Go.Proofs.SL
open Go
noncomputable section
def Iy (x:Bb):Bool:=Ed x.1&&decide (0≤x.2.1∧x.2.1≤600)&&decide (1≤x.2.2.1∧x.2.2.1≤3)&&decide (0≤x.2.2.2.1∧x.2.2.2.1≤60)&&Dl x.2.2.2.2.1&&!(x.2.2.2.2.1.any fun y=>BT y x.1)&&Hw x.2.2.2.2.2.1
theorem UM {α:Type} {l:List Int} {f:Int→Option (Int ⊕ α)} (no yes:Option α) (hl:l.length≤9223372036854775807)
  (hf:∀ (k:Nat) (y:Int),l[k]?=some y→f (k:Int)=gb ((!(!decide (0≤y∧y < 3)))&&(decide (0 < (k:Int)))) (idx l (IntKind.wrap .i64 ((k:Int) - 1))) (fun r=>cond ((!decide (0≤y∧y < 3))||((decide (0 < (k:Int)))&&(decide (y≤r)))) (no.map .inr) (some (.inl (IntKind.wrap .i64 ((k:Int)+1))))))
  (he:f (l.length:Int)=yes.map .inr):BH f 0=if Hw l then yes else no:=by
 refine Gz (n:=l.length) (Qq l) no yes (fun k hk=>?_) he
 have hy:l[k]?=some l[k]:=List.getElem?_eq_getElem hk
 generalize l[k]=y at hy;rw [hf k y hy];simp only [Dc (show k < 9223372036854775807 by omega)];unfold Qq;simp only [hy];rcases Nat.eq_zero_or_pos k with h0 | h0
 ·subst h0;rw [Mu _ _ _ (by simp)]
  cases decide (0≤y∧y < 3)<;>simp
 ·obtain ⟨r,hr1,hr2⟩:=Ng hk hl h0
  have h5:decide (0 < (k:Int))=true:=by simp;omega
  have h6:decide (k=0)=false:=by simp;omega
  rw [hr1,hr2,h5,h6,gbs];simp only [Option.all_some]
  by_cases h7:r < y
  ·have h8:decide (y≤r)=false:=by simp;omega
   cases decide (0≤y∧y < 3)<;>simp [h7,h8]
  ·have h8:decide (y≤r)=true:=by simp;omega
   cases decide (0≤y∧y < 3)<;>simp [h7,h8]
theorem Zo {x:Bb} (ho:Ok.ok x):LX x=some (Iy x):=by
 have hd:x.2.2.2.2.1.length≤9223372036854775807:=ho.2.2.2.2.1.1
 have hf:x.2.2.2.2.2.1.length≤9223372036854775807:=ho.2.2.2.2.2.1.1
 unfold LX Iy;rw [UM (l:=x.2.2.2.2.2.1) (some false) (some true) hf]
 ·simp only [Prod.eta,Nh,Mt,Rv hd,Rx hd,ob]
  have h3:Hw x.2.2.2.2.2.1=true→decide (3 < (x.2.2.2.2.2.1.length:Int))=false:=fun h=>by
   obtain ⟨h1,h2⟩:=Ja h
   have:=Yk h1 h2
   simp;omega
  generalize decide (3 < (x.2.2.2.2.2.1.length:Int))=b8 at *;generalize Hw x.2.2.2.2.2.1=b7 at *;generalize (x.2.2.2.2.1.any fun y=>BT y x.1)=b6;generalize Dl x.2.2.2.2.1=b5;generalize decide (0≤x.2.2.2.1∧x.2.2.2.1≤60)=b4;generalize decide (1≤x.2.2.1∧x.2.2.1≤3)=b3;generalize decide (0≤x.2.1∧x.2.1≤600)=b2;generalize Ed x.1=b1;cases b1
  ·rfl
  cases b2
  ·rfl
  cases b3
  ·rfl
  cases b4
  ·rfl
  cases b5
  ·rfl
  cases b6
  ·cases b7
   ·cases b8<;>rfl
   rw [h3 rfl];rfl
  rfl
 ·intro k y hy;simp only [En (List.getElem?_eq_some_iff.1 hy).1,cond_true,BV,hy,ob,Pv]
  congr 1
  funext r
  cases h:((!(!decide (0≤y∧y < 3)))&&decide (0 < (k:Int))) with
  | true=>rfl
  | false =>
   simp only [gb];simp only [Bool.and_eq_false_imp,Bool.not_not] at h
   cases h1:decide (0≤y∧y < 3) with
   | false=>rfl
   | true=>rw [h h1];rfl
 simp only [Eo];rfl
theorem Su {l:List AU} {x:AU} (h:l.length≤9223372036854775807):KW l x=some (Dl l&&!(l.any fun y=>BT y x)):=by
 unfold KW;simp only [Prod.eta,NO h,RU h,ob,gbs]
 cases Dl l<;>rfl
theorem Zp {x:Bb} (ho:Ok.ok x):LY x=some (Iy x):=by
 have hd:x.2.2.2.2.1.length≤9223372036854775807:=ho.2.2.2.2.1.1
 have hf:x.2.2.2.2.2.1.length≤9223372036854775807:=ho.2.2.2.2.2.1.1
 unfold LY Iy;rw [UM (l:=x.2.2.2.2.2.1) (some false) (some (Ed x.1&&decide (0≤x.2.1∧x.2.1≤600)&&decide (1≤x.2.2.1∧x.2.2.1≤3)&&decide (0≤x.2.2.2.1∧x.2.2.2.1≤60)&&(Dl x.2.2.2.2.1&&!(x.2.2.2.2.1.any fun y=>BT y x.1)))) hf]
 ·cases Hw x.2.2.2.2.2.1 with
  | true=>simp only [if_true,Bool.and_true,Bool.and_assoc]
  | false=>simp
 ·intro k y hy;simp only [En (List.getElem?_eq_some_iff.1 hy).1,cond_true,BV,hy,ob,OK]
 simp only [Eo,cond_false,Prod.eta,Ni,HT,Su hd,ob,gbs];generalize (Dl x.2.2.2.2.1&&!(x.2.2.2.2.1.any fun y=>BT y x.1))=b5;generalize decide (0≤x.2.2.2.1∧x.2.2.2.1≤60)=b4;generalize decide (1≤x.2.2.1∧x.2.2.1≤3)=b3;generalize decide (0≤x.2.1∧x.2.1≤600)=b2;generalize Ed x.1=b1
 cases b1<;>cases b2<;>cases b3<;>cases b4<;>cases b5<;>rfl
theorem JM {d:At} {x:AU} (h:d.2.2.2.length≤9223372036854775807):HF d x=some (DE (fun y:Bb=>BT y.1 x) d.2.2.2):=by
 unfold HF;rw [Jf (fun y:Bb=>BT y.1 x) some h]
 ·intro k y hy;simp only [En (List.getElem?_eq_some_iff.1 hy).1,cond_true,BV,hy,ob];show cond (BT y.1 x) _ _=_
  cases BT y.1 x<;>rfl
 simp only [Eo];rfl
theorem Ld {d:At} {x:AU} (h:d.2.2.2.length≤9223372036854775807):EF d x=some (DE (fun y:Bb=>BT y.1 x) d.2.2.2):=by
 unfold EF Dv HR;rw [Jf (fun y:Bb=>BT y.1 x) some h]
 ·rfl
 ·intro k y hy;simp only [En (List.getElem?_eq_some_iff.1 hy).1,cond_true,BV,hy,ob];show cond (BT y.1 x) _ _=_
  cases BT y.1 x<;>rfl
 simp only [Eo];rfl
def Iz (l:List Bb) (k:Nat):Bool:=match l[k]? with
 | none=>false
 | some x=>Iy x&&decide (DE (fun y:Bb=>BT y.1 x.1) l=(k:Int))
def Ft (d:At):Bool:=decide (0≤d.1∧d.1 < 3)&&decide (1≤d.2.1∧d.2.1≤7)&&Dk d.2.2.1&&decide (d.2.2.2.length≤8)&&(d.2.2.1.all fun x=>!(decide (x.1.1=d.1)&&decide (d.2.1≤x.1.2)))&&(List.range d.2.2.2.length).all (Iz d.2.2.2)
theorem JN {d:At} (ho:Ok.ok d):Gk d=some (Ft d):=by
 have hi:Ok.ok d.2.2.1:=ho.2.2.1
 have hil:d.2.2.1.length≤9223372036854775807:=ho.2.2.1.1
 have hll:d.2.2.2.length≤9223372036854775807:=ho.2.2.2.1
 have hin:(BH (fun s12:Int=>cond (decide (s12 < (d.2.2.2.length:Int))) ((idx d.2.2.2 s12).bind fun a1=>Option.bind (LX a1) (fun a0=>gb (!(!a0)) (idx d.2.2.2 s12) (fun a2=>gb (!(!a0)) (HF d a2.1) (fun a3=>cond ((!a0)||(!decide (a3=s12))) (Option.map .inr (some false)) (some (.inl (IntKind.wrap .i64 (s12+1)))))))) (Option.map .inr (some true))) 0:Option Bool)=if (List.range d.2.2.2.length).all (Iz d.2.2.2) then some true else some false:=by
  refine Gz (n:=d.2.2.2.length) (Iz d.2.2.2) (some false) (some true) ?_ ?_
  ·intro k hk
   have hx:d.2.2.2[k]?=some d.2.2.2[k]:=List.getElem?_eq_getElem hk
   generalize d.2.2.2[k]=x at hx
   have hox:Ok.ok x:=ho.2.2.2.2 x (List.mem_of_getElem? hx)
   simp only [En hk,cond_true,BV,hx,ob,Zo hox,JM hll,Dc (show k < 9223372036854775807 by omega)];unfold Iz;simp only [hx]
   cases Iy x with
   | false=>rfl
   | true =>
    simp only [Bool.not_true,Bool.not_false,gb,ob,Bool.true_and,Bool.false_or]
    cases decide (DE (fun y:Bb=>BT y.1 x.1) d.2.2.2=(k:Int))<;>rfl
  ·simp only [Eo];rfl
 unfold Gk Ft;try simp only [Prod.eta]
 rw [hin,Pt (l:=d.2.2.1) (p:=fun x=>!(decide (x.1.1=d.1)&&decide (d.2.1≤x.1.2))) (no:=some false) (yes:=if (List.range d.2.2.2.length).all (Iz d.2.2.2) then some true else some false) hil]
 ·have h8:decide (8 < (d.2.2.2.length:Int))=!decide (d.2.2.2.length≤8):=by rw [Bool.eq_iff_iff];simp;omega
  simp only [Pv,Mt,Yo hi,ob,h8];generalize (List.range d.2.2.2.length).all (Iz d.2.2.2)=b6;generalize (d.2.2.1.all fun x=>!(decide (x.1.1=d.1)&&decide (d.2.1≤x.1.2)))=b5;generalize decide (d.2.2.2.length≤8)=b4;generalize Dk d.2.2.1=b3;generalize decide (1≤d.2.1∧d.2.1≤7)=b2;generalize decide (0≤d.1∧d.1 < 3)=b1;cases b1
  ·rfl
  cases b2
  ·rfl
  cases b3
  ·rfl
  cases b4
  ·rfl
  cases b5
  ·rfl
  cases b6<;>rfl
 ·intro k x hx;simp only [En (List.getElem?_eq_some_iff.1 hx).1,cond_true,BV,hx,ob]
  cases h1:decide (x.1.1=d.1)<;>cases h2:decide (d.2.1≤x.1.2)<;>simp [gb,h2]
 simp only [Eo];rfl
theorem JO {d:At} (ho:Ok.ok d):Gl d=some (Ft d):=by
 have hi:Ok.ok d.2.2.1:=ho.2.2.1
 have hil:d.2.2.1.length≤9223372036854775807:=ho.2.2.1.1
 have hll:d.2.2.2.length≤9223372036854775807:=ho.2.2.2.1
 have hin:(BH (fun s12:Int=>cond (decide (s12 < (d.2.2.2.length:Int))) ((idx d.2.2.2 s12).bind fun a0=>Option.bind (LY a0) (fun a1=>gb (!(!a1)) (EF d a0.1) (fun a2=>cond ((!a1)||(!decide (a2=s12))) (Option.map .inr (some false)) (some (.inl (IntKind.wrap .i64 (s12+1))))))) (Option.map .inr (some true))) 0:Option Bool)=if (List.range d.2.2.2.length).all (Iz d.2.2.2) then some true else some false:=by
  refine Gz (n:=d.2.2.2.length) (Iz d.2.2.2) (some false) (some true) ?_ ?_
  ·intro k hk
   have hx:d.2.2.2[k]?=some d.2.2.2[k]:=List.getElem?_eq_getElem hk
   generalize d.2.2.2[k]=x at hx
   have hox:Ok.ok x:=ho.2.2.2.2 x (List.mem_of_getElem? hx)
   simp only [En hk,cond_true,BV,hx,ob,Zp hox,Ld hll,Dc (show k < 9223372036854775807 by omega)];unfold Iz;simp only [hx]
   cases Iy x with
   | false=>rfl
   | true =>
    simp only [Bool.not_true,Bool.not_false,gb,ob,Bool.true_and,Bool.false_or]
    cases decide (DE (fun y:Bb=>BT y.1 x.1) d.2.2.2=(k:Int))<;>rfl
  ·simp only [Eo];rfl
 unfold Gl Ft;try simp only [Prod.eta]
 rw [hin,Pt (l:=d.2.2.1) (p:=fun x=>!(decide (x.1.1=d.1)&&decide (d.2.1≤x.1.2))) (no:=some false) (yes:=if (List.range d.2.2.2.length).all (Iz d.2.2.2) then some true else some false) hil]
 ·have h8:decide (8 < (d.2.2.2.length:Int))=!decide (d.2.2.2.length≤8):=by rw [Bool.eq_iff_iff];simp;omega
  simp only [OK,HT,LB hi,ob,h8];generalize (List.range d.2.2.2.length).all (Iz d.2.2.2)=b6;generalize (d.2.2.1.all fun x=>!(decide (x.1.1=d.1)&&decide (d.2.1≤x.1.2)))=b5;generalize decide (d.2.2.2.length≤8)=b4;generalize Dk d.2.2.1=b3;generalize decide (1≤d.2.1∧d.2.1≤7)=b2;generalize decide (0≤d.1∧d.1 < 3)=b1;cases b1
  ·rfl
  cases b2
  ·rfl
  cases b3
  ·rfl
  cases b4
  ·rfl
  cases b5
  ·rfl
  cases b6<;>rfl
 ·intro k x hx;simp only [En (List.getElem?_eq_some_iff.1 hx).1,cond_true,BV,hx,ob,FA]
  cases h1:decide (x.1.1=d.1)<;>cases h2:decide (d.2.1≤x.1.2)<;>simp
 simp only [Eo];rfl
def Gc (x:AD):Prop:=x.2.2.2.2.1.2.2.2.2.2.2.2.length≤1048576∧x.2.2.2.2.2.2.1.length≤1048576
def Mw (x:Bb):Prop:=x.2.2.2.2.1.length≤1048576∧x.2.2.2.2.2.1.length≤1048576
def IA (d:At):Prop:=d.2.2.1.length≤1048576∧(∀ x,x∈d.2.2.1→Gc x)∧d.2.2.2.length≤1048576∧∀ x,x∈d.2.2.2→Mw x
theorem GD {c:CH} (h:c.2.2.2.2.2.2.2.length≤1048576):FL c=some c:=by
 unfold FL;simp only [ob];rw [Cp (by simp;omega)];rfl
theorem Ts {x:AD} (h:Gc x):KI x=some x:=by
 unfold KI;simp only [Prod.eta,GD h.1,ob]
 have:=h.2
 rw [Cp (by simp;omega)];rfl
theorem Yp {l:List ByteArray} (h:l.length≤4294967296):Kn l=some l:=by
 unfold Kn;rw [Cp (by simpa using h)];rfl
theorem OM {c:CH} (h:c.2.2.2.2.2.2.2.length≤1048576):IE c=some c:=by
 unfold IE;rw [Yp om];rfl
theorem GL {l:List AU} (h:l.length≤4294967296):GH l=some l:=by
 unfold GH;rw [Cp (by simpa using h)];rfl
theorem Nw {x:AD} (h:Gc x):GB x=some x:=by
 unfold GB
 have:=h.2
 simp only [Prod.eta,OM h.1,ob,GL (show x.2.2.2.2.2.2.1.length≤4294967296 by omega)]
theorem VD {l:List AD} (h1:l.length≤1048576) (h2:∀ x,x∈l→Gc x):Kr l=some l:=by
 unfold Kr;simp only [ob];rw [IJ (l:=l) (fun k (t:List AD)=>(t,(k:Int))) (fun t x=>.inl (t++[x])) (fun t=>some t) (fun k t=>t.length=k) [] (s0:=([],0)) rfl rfl,SJ]
 ·rfl
 ·intro k t x hx ht
  have hlt:=(List.getElem?_eq_some_iff.1 hx).1
  refine .inl ⟨t++[x],rfl,?_,by simp [ht]⟩;simp only [En hlt,cond_true,BV,hx,ob,Prod.eta,Ts (h2 x (List.mem_of_getElem? hx)),Dc (show k < 9223372036854775807 by omega)];rw [Cp (by simp;omega)];rfl
 intro t ht;simp only [Eo];rfl
theorem Qs {l:List AD} (h1:l.length≤1048576) (h2:∀ x,x∈l→Gc x):Ho l=some l:=by
 unfold Ho;rw [IJ (l:=l) (fun k (t:List AD)=>(t,(k:Int))) (fun t x=>.inl (t++[x])) (fun t=>some t) (fun k t=>t.length=k) [] (s0:=([],0)) rfl rfl,SJ]
 ·rfl
 ·intro k t x hx ht
  have hlt:=(List.getElem?_eq_some_iff.1 hx).1
  refine .inl ⟨t++[x],rfl,?_,by simp [ht]⟩;simp only [En hlt,cond_true,BV,hx,ob,Prod.eta,Nw (h2 x (List.mem_of_getElem? hx)),Dc (show k < 9223372036854775807 by omega)];rw [Cp (by simp;omega)];rfl
 intro t ht;simp only [Eo];rfl
theorem FG {d:At} (h:IA d):EN d=some d:=by
 obtain ⟨me,nx,is,ls⟩:=d;obtain ⟨h1,h2,h3,h4⟩:=h;dsimp only at h1 h2 h3 h4;unfold EN;simp only [VD h1 h2,ob];rw [IJ (l:=ls) (fun k (t:List Bb)=>((k:Int),t)) (fun t x=>.inl (t++[x])) (fun t=>some (me,nx,is,t)) (fun k t=>t.length=k) [] (s0:=(0,[])) rfl rfl,SJ]
 ·rfl
 ·intro k t x hx ht
  have hlt:=(List.getElem?_eq_some_iff.1 hx).1
  obtain ⟨h5,h6⟩:=h4 x (List.mem_of_getElem? hx);refine .inl ⟨t++[x],rfl,?_,by simp [ht]⟩;simp only [En hlt,cond_true,BV,hx,ob,Prod.eta,Dc (show k < 9223372036854775807 by omega),Cp (a:=([]:List AU)) (b:=x.2.2.2.2.1) (by simp;omega),Cp (a:=([]:List Int)) (b:=x.2.2.2.2.2.1) (by simp;omega),List.nil_append];rw [Cp (by simp;omega)];rfl
 intro t ht;simp only [Eo];rfl
theorem Fu {d:At} (h:IA d):Ef d=some d:=by
 obtain ⟨me,nx,is,ls⟩:=d;obtain ⟨h1,h2,h3,h4⟩:=h;dsimp only at h1 h2 h3 h4;unfold Ef;simp only [Qs h1 h2,ob];rw [IJ (l:=ls) (fun k (t:List Bb)=>((k:Int),t)) (fun t x=>.inl (t++[x])) (fun t=>some (me,nx,is,t)) (fun k t=>t.length=k) [] (s0:=(0,[])) rfl rfl,SJ]
 ·rfl
 ·intro k t x hx ht
  have hlt:=(List.getElem?_eq_some_iff.1 hx).1
  obtain ⟨h5,h6⟩:=h4 x (List.mem_of_getElem? hx);refine .inl ⟨t++[x],rfl,?_,by simp [ht]⟩;simp only [En hlt,cond_true,BV,hx,ob,Prod.eta,Dc (show k < 9223372036854775807 by omega),GL (show x.2.2.2.2.1.length≤4294967296 by omega),Cp (a:=([]:List Int)) (b:=x.2.2.2.2.2.1) (by simp;omega),List.nil_append];rw [Cp (by simp;omega)];rfl
 intro t ht;simp only [Eo];rfl
end
end Go.Proofs.SL
namespace Go.Proofs.SL
open Go
theorem Dx {σ α:Type} {f:σ→Option (σ ⊕ α)} {r:α} {s:σ} (I:σ→Prop) (μ:σ→Nat) (h:∀ s,I s→(∃ s',f s=some (.inl s')∧I s'∧μ s' < μ s)∨f s=some (.inr r)) (hs:I s):BH f s=some r:=by
 obtain ⟨a,ha,rfl⟩:=Kg I μ (·=r) (fun s hs=>(h s hs).imp id fun h=>⟨r,h,rfl⟩) s hs;exact ha
end Go.Proofs.SL
namespace Go.Proofs.SL
open Go
theorem bS {σ σ' α:Type} {f:σ→Option (σ ⊕ (σ' ⊕ α))} (I:σ→Prop) (μ:σ→Nat) (P:σ'→Prop)
  (h:∀ s,I s→(∃ s',f s=some (.inl s')∧I s'∧μ s' < μ s)∨∃ s',f s=some (.inr (.inl s'))∧P s') (s:σ) (hs:I s):∃ s',BH f s=some (.inl s')∧P s':=by
 obtain ⟨r,h1,s',h2,h3⟩:=Kg I μ (fun r:σ' ⊕ α=>∃ s',r=.inl s'∧P s') (fun s hi=>by
  rcases h s hi with h | ⟨s',h1,h2⟩
  ·exact .inl h
  ·exact .inr ⟨_,h1,_,rfl,h2⟩) s hs
 exact ⟨s',by rw [h1,h2],h3⟩
end Go.Proofs.SL
namespace Go.Proofs.SL
open Go
structure MB (m:CH):Prop where
 k:inR m.1
 cl:inR m.2.1
 no:inR m.2.2.1
 s1:m.2.2.2.1.size≤9
 s2:m.2.2.2.2.1.size≤9
 s3:m.2.2.2.2.2.1.size≤9
 n:inR m.2.2.2.2.2.2.1
 len:m.2.2.2.2.2.2.2.length≤5
 ch:∀ x,x∈m.2.2.2.2.2.2.2→x.size≤9
theorem MB.ok {m:CH} (h:MB m):Ok.ok m :=
 ⟨h.k,h.cl,h.no,by have:=h.s1;show _≤_;omega,by have:=h.s2;show _≤_;omega,by have:=h.s3;show _≤_;omega,h.n,by have:=h.len;omega,fun x hx=>by have:=h.ch x hx;show x.size≤_;omega⟩
end Go.Proofs.SL
namespace Go.Proofs.SL
open Go
end Go.Proofs.SL
namespace Go.Proofs.SL
open Go
namespace Gr
variable {ι:Type}
inductive Rch (dp:ι→List ι):ι→ι→Prop
 | one {x y:ι}:y∈dp x→Rch dp x y
 | cons {x y z:ι}:y∈dp x→Rch dp y z→Rch dp x z
theorem Rch.trans {dp:ι→List ι} {x y z:ι} (h:Rch dp x y) (k:Rch dp y z):Rch dp x z:=by
 induction h with
 | one h=>exact .cons h k
 | cons h _ ih=>exact .cons h (ih k)
section
variable [DecidableEq ι]
structure PartOk (rdy:ι→Bool) (part:ι→List ι) (ids:List ι):Prop where
 self:∀ x,x∈ids→rdy x=true→x∈part x
 mem:∀ x,x∈ids→rdy x=true→∀ y,y∈part x→y∈ids∧rdy y=true∧part y=part x
end
end Gr
end Go.Proofs.SL
namespace Go.Proofs.SL
open Go
namespace Gr
variable {ι:Type}
structure STO (lt:ι→ι→Bool):Prop where
 irr:∀ a,lt a a=false
 tr:∀ a b c,lt a b=true→lt b c=true→lt a c=true
 tot:∀ a b,lt a b=true∨lt b a=true∨a=b
theorem STO.asy {lt:ι→ι→Bool} (h:STO lt) {a b:ι} (h1:lt a b=true):lt b a=false:=by
 cases h2:lt b a with
 | false=>rfl
 | true=>have:=h.tr _ _ _ h1 h2;rw [h.irr] at this;cases this
theorem STO.ne {lt:ι→ι→Bool} (h:STO lt) {a b:ι} (h1:lt a b=true):a≠b:=fun e=>by rw [e,h.irr] at h1;cases h1
abbrev Up (lt:ι→ι→Bool) (l:List ι):Prop:=l.Pairwise fun a b=>lt a b=true
theorem up_ext {lt:ι→ι→Bool} (h:STO lt):∀ {l m:List ι},Up lt l→Up lt m→(∀ x,x∈l↔x∈m)→l=m
 | [],[],_,_,_=>rfl
 | [],b::m,_,_,e=>by have:=(e b).2 (List.mem_cons_self ..);cases this
 | a::l,[],_,_,e=>by have:=(e a).1 (List.mem_cons_self ..);cases this
 | a::l,b::m,hl,hm,e=>by
  obtain ⟨l1,l2⟩:=List.pairwise_cons.1 hl;obtain ⟨m1,m2⟩:=List.pairwise_cons.1 hm
  have eab:a=b:=by
   rcases List.mem_cons.1 ((e a).1 (List.mem_cons_self ..)) with q | q
   ·exact q
   ·rcases List.mem_cons.1 ((e b).2 (List.mem_cons_self ..)) with r | r
    ·exact r.symm
    ·have:=h.asy (m1 a q);rw [l1 b r] at this;cases this
  subst eab
  congr 1
  refine up_ext h l2 m2 fun x=>⟨fun hx=>?_,fun hx=>?_⟩
  ·rcases List.mem_cons.1 ((e x).1 (List.mem_cons_of_mem _ hx)) with q | q
   ·have:=h.ne (l1 x hx);exact (this q.symm).elim
   ·exact q
  ·rcases List.mem_cons.1 ((e x).2 (List.mem_cons_of_mem _ hx)) with q | q
   ·have:=h.ne (m1 x hx);exact (this q.symm).elim
   ·exact q
theorem up_nodup {lt:ι→ι→Bool} (h:STO lt) {l:List ι} (hl:Up lt l):l.Nodup:=hl.imp fun {_ _} hab=>h.ne hab
theorem Sv {lt:ι→ι→Bool} {y:ι}:∀ {a:List ι} {x:ι},x∈a.takeWhile (fun x=>lt x y)→lt x y=true
 | z::a,x,hx=>by
  rw [List.takeWhile_cons] at hx
  split at hx
  ·rename_i hz
   rcases List.mem_cons.1 hx with rfl | hx
   ·exact hz
   ·exact Sv hx
  ·cases hx
structure BI (dp:ι→List ι) (ok:ι→Prop) (id:ι) (out q:List ι):Prop where
 nd:out.Nodup
 val:∀ x,x∈out→ok x
 rch:∀ x,x∈out→Rch dp id x
 que:∀ x,x∈q→x=id∨x∈out
 clo:∀ x,x=id∨x∈out→¬ x∈q→∀ y,y∈dp x→y∈out
section
variable [DecidableEq ι]
def join (lt:ι→ι→Bool):List ι→List ι→List ι
 | a,[]=>a
 | a,y::ys=>a.takeWhile (fun x=>lt x y)++y::join lt (match a.dropWhile (fun x=>lt x y) with | []=>[] | z::zs=>if z=y then zs else z::zs) ys
def past (lt:ι→ι→Bool) (a:List ι) (y:ι):List ι:=match a.dropWhile (fun x=>lt x y) with | []=>[] | z::zs=>if z=y then zs else z::zs
theorem UN {lt:ι→ι→Bool} (h:STO lt) {y:ι}:∀ {a:List ι},Up lt a→Up lt (past lt a y)∧(∀ x,x∈past lt a y→lt y x=true∧x∈a)∧∀ x,x∈a→x∈a.takeWhile (fun x=>lt x y)∨x=y∨x∈past lt a y
 | [],_=>⟨List.Pairwise.nil,fun x hx=>(by cases hx),fun x hx=>by cases hx⟩
 | z::a,ha=>by
  obtain ⟨a1,a2⟩:=List.pairwise_cons.1 ha
  cases hz:lt z y with
  | true =>
   obtain ⟨i1,i2,i3⟩:=UN h (y:=y) a2
   have e:past lt (z::a) y=past lt a y:=by unfold past;rw [List.dropWhile_cons,if_pos hz]
   rw [e,List.takeWhile_cons,if_pos hz];refine ⟨i1,fun x hx=>⟨(i2 x hx).1,List.mem_cons_of_mem _ (i2 x hx).2⟩,fun x hx=>?_⟩;rcases List.mem_cons.1 hx with rfl | hx
   ·exact .inl (List.mem_cons_self ..)
   ·rcases i3 x hx with q | q
    ·exact .inl (List.mem_cons_of_mem _ q)
    ·exact .inr q
  | false =>
   have e:past lt (z::a) y=if z=y then a else z::a:=by unfold past;rw [List.dropWhile_cons,if_neg (by simp [hz])]
   rw [List.takeWhile_cons,if_neg (by simp [hz]),e]
   by_cases hzy:z=y
   ·subst hzy;rw [if_pos rfl];refine ⟨a2,fun x hx=>⟨a1 x hx,List.mem_cons_of_mem _ hx⟩,fun x hx=>?_⟩;rcases List.mem_cons.1 hx with rfl | hx
    ·exact .inr (.inl rfl)
    ·exact .inr (.inr hx)
   ·rw [if_neg hzy]
    have hyz:lt y z=true:=by
     rcases h.tot y z with q | q | q
     ·exact q
     ·rw [hz] at q;cases q
     ·exact (hzy q.symm).elim
    refine ⟨ha,fun x hx=>⟨?_,hx⟩,fun x hx=>.inr (.inr hx)⟩;rcases List.mem_cons.1 hx with rfl | hx
    ·exact hyz
    ·exact h.tr _ _ _ hyz (a1 x hx)
theorem join_cons (lt:ι→ι→Bool) (a:List ι) (y:ι) (ys:List ι):join lt a (y::ys)=a.takeWhile (fun x=>lt x y)++y::join lt (past lt a y) ys:=rfl
theorem join_facts {lt:ι→ι→Bool} (h:STO lt):∀ {b a:List ι},Up lt a→Up lt b→Up lt (join lt a b)∧∀ x,x∈join lt a b↔x∈a∨x∈b
 | [],a,ha,_=>⟨ha,fun x=>by unfold join;simp⟩
 | y::ys,a,ha,hb=>by
  obtain ⟨b1,b2⟩:=List.pairwise_cons.1 hb;obtain ⟨p1,p2,p3⟩:=UN h (y:=y) ha;obtain ⟨j1,j2⟩:=join_facts h p1 b2
  have hgt:∀ x,x∈join lt (past lt a y) ys→lt y x=true:=fun x hx=>by
   rcases (j2 x).1 hx with q | q
   ·exact (p2 x q).1
   ·exact b1 x q
  rw [join_cons];refine ⟨List.pairwise_append.2 ⟨ha.sublist (List.takeWhile_sublist _),List.pairwise_cons.2 ⟨hgt,j1⟩,fun x hx z hz=>?_⟩,fun x=>?_⟩
  ·have hxy:=Sv hx
   rcases List.mem_cons.1 hz with rfl | hz
   ·exact hxy
   ·exact h.tr _ _ _ hxy (hgt z hz)
  ·rw [List.mem_append,List.mem_cons,List.mem_cons,j2]
   constructor
   ·rintro (q | q | q | q)
    ·exact .inl ((List.takeWhile_sublist _).subset q)
    ·exact .inr (.inl q)
    ·exact .inl (p2 x q).2
    ·exact .inr (.inr q)
   ·rintro (q | q | q)
    ·rcases p3 x q with r | r | r
     ·exact .inl r
     ·exact .inr (.inl r)
     ·exact .inr (.inr (.inl r))
    ·exact .inr (.inl q)
    ·exact .inr (.inr (.inr q))
structure ROk (lt:ι→ι→Bool) (dp:ι→List ι) (ok:ι→Prop) (N:Nat):Prop where
 sto:STO lt
 up:∀ x,Up lt (dp x)
 val:∀ x y,y∈dp x→ok y
 len:∀ l:List ι,l.Nodup→(∀ x,x∈l→ok x)→l.length≤N
end
end Gr
end Go.Proofs.SL
namespace Go.Proofs.SL
open Go
namespace Gr
variable {ι:Type}
def OutOk (rdy:ι→Bool) (part:ι→List ι) (ids:List ι) (out:List (List ι)):Prop:=∀ p,p∈out→∃ z,z∈ids∧rdy z=true∧p=part z
theorem OutOk.nil (rdy:ι→Bool) (part:ι→List ι) (ids:List ι):OutOk rdy part ids []:=fun p hp=>by cases hp
section
variable [DecidableEq ι]
theorem findIdx_find {α:Type} (f:α→Bool) (l:List α):(l.findIdx? f=none∧l.find? f=none)∨∃ k p,l.findIdx? f=some k∧l[k]?=some p∧l.find? f=some p:=by
 cases h:l.findIdx? f with
 | none =>
  refine .inl ⟨rfl,List.find?_eq_none.2 fun x hx=>?_⟩
  have:=List.findIdx?_eq_none_iff.1 h x hx
  simp [this]
 | some k =>
  right;obtain ⟨h1,h2,h3⟩:=List.findIdx?_eq_some_iff_getElem.1 h;refine ⟨k,l[k],rfl,List.getElem?_eq_getElem h1,?_⟩;rw [List.find?_eq_some_iff_getElem];exact ⟨h2,k,h1,rfl,fun j hj=>by have:=h3 j hj;simpa using this⟩
end
end Gr
end Go.Proofs.SL
namespace Go.Proofs.SL
open Go
theorem EP (a b:AU):BT a b=decide (a=b):=by
 unfold BT;rw [Bool.eq_iff_iff];simp only [Bool.and_eq_true,decide_eq_true_eq,and_true]
 constructor
 ·rintro ⟨h1,h2⟩;exact Prod.ext h1 h2
 rintro rfl;exact ⟨rfl,rfl⟩
theorem JP {a b:AU}:Cy a b=true↔a.1 < b.1∨(a.1=b.1∧a.2 < b.2):=by unfold Cy;simp
theorem Ea:Gr.STO Cy where
 irr a:=by
  cases h:Cy a a with
  | false=>rfl
  | true=>have:=JP.1 h;omega
 tr a b c h1 h2:=by
  have:=JP.1 h1;have:=JP.1 h2
  exact JP.2 om
 tot a b:=by
  by_cases h1:a.1 < b.1
  ·exact .inl (JP.2 (.inl h1))
  by_cases h2:b.1 < a.1
  ·exact .inr (.inl (JP.2 (.inl h2)))
  have h3:a.1=b.1:=by omega
  by_cases h4:a.2 < b.2
  ·exact .inl (JP.2 (.inr ⟨h3,h4⟩))
  by_cases h5:b.2 < a.2
  ·exact .inr (.inl (JP.2 (.inr ⟨h3.symm,h5⟩)))
  ·exact .inr (.inr (Prod.ext h3 om))
theorem EZ {l:List AU} (h:Dl l=true):(∀ x,x∈l→Ed x=true)∧Gr.Up Cy l:=by
 unfold Dl at h;simp only [List.all_eq_true,List.mem_range] at h;refine ⟨fun x hx=>?_,IV (R:=fun a b:AU=>Cy a b=true) (fun a b c=>Ea.tr a b c) l fun k hk=>?_⟩
 ·obtain ⟨k,hk⟩:=List.getElem?_of_mem hx
  have:=h k (List.getElem?_eq_some_iff.1 hk).1
  unfold PN at this;rw [hk] at this;simp only [Bool.and_eq_true] at this;exact this.1
 have:=h (k+1) hk
 unfold PN at this;rw [List.getElem?_eq_getElem hk] at this;simp only [Bool.and_eq_true,decide_eq_true_eq,Bool.or_eq_true,Nat.add_sub_cancel,List.getElem?_eq_getElem (show k < l.length by omega),Option.all_some] at this;rcases this.2 with h2 | h2
 ·omega
 exact h2
theorem Em {l:List AD} (h:Dk l=true):(∀ x,x∈l→Da x=true)∧l.Pairwise (fun a b=>Cy a.1 b.1=true):=by
 unfold Dk at h;simp only [List.all_eq_true,List.mem_range] at h;refine ⟨fun x hx=>?_,IV (R:=fun a b:AD=>Cy a.1 b.1=true) (fun a b c=>Ea.tr a.1 b.1 c.1) l fun k hk=>?_⟩
 ·obtain ⟨k,hk⟩:=List.getElem?_of_mem hx
  have:=h k (List.getElem?_eq_some_iff.1 hk).1
  unfold KA at this;rw [hk] at this;simp only [Bool.and_eq_true] at this;exact this.1
 have:=h (k+1) hk
 unfold KA at this;rw [List.getElem?_eq_getElem hk] at this;simp only [Bool.and_eq_true,decide_eq_true_eq,Bool.or_eq_true,Nat.add_sub_cancel,List.getElem?_eq_getElem (show k < l.length by omega),Option.all_some] at this;rcases this.2 with h2 | h2
 ·omega
 exact h2
theorem Yq {x:AD} (h:Da x=true):Ed x.1=true∧DN x.2.2.2.2.1=true∧(0≤x.2.2.2.2.2.1∧x.2.2.2.2.2.1≤60)∧Dl x.2.2.2.2.2.2.1=true:=by
 unfold Da at h;simp only [Bool.and_eq_true,decide_eq_true_eq] at h;exact ⟨h.1.1.1.1.1.1.1.1,h.1.1.1.1.2,h.1.1.1.2,h.1.1.2⟩
def idN (x:AU):Int:=6*x.1+x.2
theorem JQ {x:AU} (h:Ed x=true):(0≤x.1∧x.1≤2)∧(1≤x.2∧x.2≤6):=by
 unfold Ed at h;simpa using h
theorem Wq {l:List AU} (h:l.Nodup) (hk:∀ x,x∈l→Ed x=true):l.length≤18:=by
 have h1:(l.map fun x=>(idN x).toNat).Nodup:=by
  rw [List.nodup_iff_pairwise_ne,List.pairwise_map];refine List.Pairwise.imp_of_mem ?_ h;intro a b ha hb hab e
  have:=JQ (hk a ha);have:=JQ (hk b hb)
  unfold idN at e;exact hab (Prod.ext om om)
 have h2:∀ n,n∈(l.map fun x=>(idN x).toNat)→n∈List.range 19:=fun n hn=>by
  obtain ⟨x,hx,rfl⟩:=List.mem_map.1 hn
  have:=JQ (hk x hx)
  unfold idN;rw [List.mem_range];omega
 have h3:∀ n,n∈(l.map fun x=>(idN x).toNat)→n≠0:=fun n hn=>by
  obtain ⟨x,hx,rfl⟩:=List.mem_map.1 hn
  have:=JQ (hk x hx)
  unfold idN;omega
 have h4:=List.Nodup.length_le_of_subset (l₂:=(List.range 19).erase 0) h1 (fun n hn=>(List.mem_erase_of_ne (h3 n hn)).2 (h2 n hn))
 rw [List.length_map] at h4
 simpa using h4
theorem Dh {l:List AD} (h:Dk l=true):l.length≤18:=by
 obtain ⟨h1,h2⟩:=Em h
 have:=Wq (l:=l.map (·.1)) (Gr.up_nodup Ea (List.pairwise_map.2 h2)) fun x hx=>by
  obtain ⟨y,hy,rfl⟩:=List.mem_map.1 hx;exact (Yq (h1 y hy)).1
 simpa using this
theorem Ex {l:List AU} (h:Dl l=true):l.length≤18:=by
 obtain ⟨h1,h2⟩:=EZ h;exact Wq (Gr.up_nodup Ea h2) h1
def VE (l:List AD) (id:AU):Option AD:=l.find? fun x=>BT x.1 id
noncomputable def atI (l:List AD) (id:AU):AD:=match VE l id with | some x=>x | none=>(id,(-1),(-1),0,(0,0,0,ByteArray.empty,ByteArray.empty,ByteArray.empty,0,([]:List ByteArray)),0,([]:List AU),false)
theorem Wr {l:List AD} {id:AU} {x:AD} (h:VE l id=some x):x∈l∧x.1=id:=by
 have h1:=List.mem_of_find?_eq_some h
 have h2:=List.find?_some h
 rw [EP] at h2;exact ⟨h1,of_decide_eq_true h2⟩
theorem FJ {α:Type} (p:α→Bool) (l:List α):(DE p l=-1∧l.find? p=none)∨∃ (k:Nat) (x:α),DE p l=(k:Int)∧l[k]?=some x∧l.find? p=some x:=by
 rcases Gr.findIdx_find p l with ⟨h1,h2⟩ | ⟨k,x,h1,h2,h3⟩
 ·exact .inl ⟨PL h1,h2⟩
 exact .inr ⟨k,x,ML h1,h2,h3⟩
end Go.Proofs.SL
namespace Go.Proofs.SL
open Go
theorem mE {σ σ' α:Type} {f:σ→Option (σ ⊕ (σ' ⊕ α))} {s:σ} {C:σ'→Prop} (I:σ→Prop) (μ:σ→Nat) (P:σ'→Prop) (hg:∀ s',P s'→C s') (hs:I s)
  (h:∀ s,I s→(∃ s',f s=some (.inl s')∧I s'∧μ s' < μ s)∨∃ s',f s=some (.inr (.inl s'))∧P s'):∃ s',BH f s=some (.inl s')∧C s':=by
 obtain ⟨s',h1,h2⟩:=bS I μ P h s hs;exact ⟨s',h1,hg _ h2⟩
theorem ON {α:Type} {l:List α} {a b:Int} (h:0≤a∧a≤b∧b≤l.length):HG l a b=some ((l.drop a.toNat).take (b.toNat - a.toNat)):=if_pos h
theorem Pw {α:Type} {l:List α} {k:Nat} {x:α} (h:l[k]?=some x):l.drop k=x::l.drop (k+1):=by
 obtain ⟨h1,h2⟩:=List.getElem?_eq_some_iff.1 h;rw [List.drop_eq_getElem_cons h1,h2]
theorem Tt {a b:List AU} (ha:a.length≤1000) (hb:b.length≤1000):Ml a b=some (Gr.join Cy a b):=by
 unfold Ml;rw [ob];refine Dx (s:=(([]:List AU),(0:Int),(0:Int))) (fun s:List AU×Int×Int=>∃ i k:Nat,s.2.1=(i:Int)∧s.2.2=(k:Int)∧i≤a.length∧k≤b.length∧s.1.length≤i+k∧s.1++Gr.join Cy (a.drop i) (b.drop k)=Gr.join Cy a b) (fun s=>(b.length - s.2.2).toNat) ?_ ⟨0,0,rfl,rfl,Nat.zero_le _,Nat.zero_le _,Nat.le_refl _,by simp⟩;rintro ⟨o,i',k'⟩ ⟨i,k,h1,h2,hi,hk,hl,he⟩;dsimp only at h1 h2 hl he ⊢;subst h1;subst h2
 by_cases hkb:k < b.length
 ·left
  have hy:b[k]?=some b[k]:=List.getElem?_eq_getElem hkb
  generalize b[k]=y at hy
  have hd:=Pw hy
  rw [show decide ((k:Int) < (b.length:Int))=true from decide_eq_true om,cond_true];rw [hd,Gr.join_cons] at he;refine mE (fun s:List AU×Int=>∃ j:Nat,s.2=(j:Int)∧i≤j∧j≤a.length∧s.1.length≤j+k∧s.1++(a.drop j).takeWhile (fun x=>Cy x y)=o++(a.drop i).takeWhile (fun x=>Cy x y)∧(a.drop j).dropWhile (fun x=>Cy x y)=(a.drop i).dropWhile (fun x=>Cy x y))
   (fun s=>(a.length - s.2).toNat)
   (fun s:List AU×Int×Int=>∃ j:Nat,s.2.1=(j:Int)∧s.2.2=((k+1:Nat):Int)∧j≤a.length∧s.1.length≤j+(k+1)∧s.1=(o++(a.drop i).takeWhile (fun x=>Cy x y))++[y]∧a.drop j=Gr.past Cy (a.drop i) y)
   ?_ ⟨i,rfl,Nat.le_refl _,hi,hl,rfl,rfl⟩ ?_
  ·rintro s' ⟨j,e2,e3,e4,e5,e6,e7⟩;refine ⟨⟨j,k+1,e2,e3,e4,hkb,e5,?_⟩,?_⟩
   ·rw [e6,e7,← he];simp
   rw [e3];omega
  rintro ⟨t,j'⟩ ⟨j,h1,hij,hj,htl,ht1,ht2⟩;dsimp only at h1 htl ht1 ht2 ⊢;subst h1
  have w1:IntKind.wrap .i64 ((k:Int)+1)=((k+1:Nat):Int):=Dc om
  by_cases hja:j < a.length
  ·have hx:a[j]?=some a[j]:=List.getElem?_eq_getElem hja
   generalize a[j]=x at hx
   have hdj:=Pw hx
   rw [show decide ((j:Int) < (a.length:Int))=true from decide_eq_true om,Dn,BV,hx,ob,Dn,BV,hy,ob,Dn,show IK x y=some (Cy x y) from rfl,ob];rw [hdj] at ht1 ht2
   cases hc:Cy x y with
   | true =>
    left;rw [List.takeWhile_cons,if_pos hc] at ht1;rw [List.dropWhile_cons,if_pos hc] at ht2;simp only [Bool.and_self,cond_true,ob];rw [Cp (by simp;omega),ob,Dc (show j < 9223372036854775807 by omega)];refine ⟨_,rfl,⟨j+1,rfl,by omega,by omega,by simp;omega,?_,ht2⟩,by dsimp only;omega⟩;rw [← ht1];simp
   | false =>
    right;rw [List.takeWhile_cons,if_neg (by simp [hc]),List.append_nil] at ht1;rw [List.dropWhile_cons,if_neg (by simp [hc])] at ht2;simp only [Bool.and_false,cond_false,Bool.true_and,Dn,ob]
    have hq:(decide (x.1=y.1)&&(decide (x.2=y.2)&&true))=decide (x=y):=EP x y
    rw [hq,Cp (by simp;omega),ob,ob,w1,Dc (show j < 9223372036854775807 by omega)]
    by_cases hxy:x=y
    ·rw [decide_eq_true hxy,cond_true];refine ⟨_,rfl,j+1,rfl,rfl,by omega,by simp;omega,by rw [← ht1],?_⟩;unfold Gr.past;rw [← ht2];dsimp only;rw [if_pos hxy]
    ·rw [decide_eq_false hxy,cond_false];refine ⟨_,rfl,j,rfl,rfl,by omega,by simp;omega,by rw [← ht1],?_⟩;unfold Gr.past;rw [← ht2];dsimp only;rw [if_neg hxy,hdj]
  right
  have hdn:a.drop j=[]:=List.drop_of_length_le om
  rw [hdn] at ht1 ht2;simp only [List.takeWhile_nil,List.dropWhile_nil,List.append_nil] at ht1 ht2;rw [show decide ((j:Int) < (a.length:Int))=false from decide_eq_false om];simp only [QX,Bool.false_and,cond_false];rw [BV,hy,ob,Cp (by simp;omega),ob,w1];refine ⟨_,rfl,j,rfl,rfl,by omega,by simp;omega,by rw [← ht1],?_⟩;unfold Gr.past;rw [← ht2,hdn]
 right
 have hkk:k=b.length:=by omega
 subst hkk;rw [show decide ((b.length:Int) < (b.length:Int))=false from decide_eq_false om,cond_false];rw [List.drop_of_length_le (Nat.le_refl _)] at he;rw [ON om,ob]
 have h3:((a.drop ((i:Int).toNat)).take ((a.length:Int).toNat - (i:Int).toNat))=a.drop i:=by
  rw [Int.toNat_natCast,Int.toNat_natCast,List.take_of_length_le (by simp)]
 rw [h3,Cp (by simp;omega),ob,Option.map_some]
 have he':o++a.drop i=Gr.join Cy a b:=he
 rw [he']
end Go.Proofs.SL
namespace Go.Proofs.SL
open Go
def KB (l:List AD):Prop:=∀ x,x∈l→Gc x
theorem Hp {l:List AD} (hl:l.length≤1048576) (hs:KB l) (id:AU):FM l id=some (atI l id):=by
 unfold FM;refine Dx (fun s:Int=>∃ k:Nat,s=(k:Int)∧k≤l.length∧(l.drop k).find? (fun x=>BT x.1 id)=VE l id) (fun s=>(l.length - s).toNat) ?_ ⟨0,rfl,Nat.zero_le _,rfl⟩;rintro _ ⟨k,rfl,hk,he⟩
 by_cases hkl:k < l.length
 ·have hx:l[k]?=some l[k]:=List.getElem?_eq_getElem hkl
  have hm:l[k]∈l:=List.getElem_mem _
  generalize l[k]=x at hx hm;rw [Pw hx] at he;rw [show decide ((k:Int) < (l.length:Int))=true from decide_eq_true om,cond_true,BV,hx,ob]
  have hq:(decide (x.1.1=id.1)&&(decide (x.1.2=id.2)&&true))=BT x.1 id:=rfl
  rw [hq]
  cases hc:BT x.1 id with
  | true =>
   right;rw [List.find?_cons_of_pos (by simp [hc])] at he;rw [cond_true,ob,show KI _=some x from Ts (x:=x) (hs x hm),ob];unfold atI;rw [← he];rfl
  | false =>
   left;rw [List.find?_cons_of_neg (by simp [hc])] at he;rw [cond_false,Dc om];exact ⟨_,rfl,⟨k+1,rfl,hkl,he⟩,by omega⟩
 right;rw [show decide ((k:Int) < (l.length:Int))=false from decide_eq_false om,cond_false];rw [List.drop_of_length_le om] at he;unfold atI;rw [← he];rfl
theorem Tu {l:List AD} (hl:l.length≤1048576) (id:AU):JE l id=some (DE (fun x:AD=>BT x.1 id) l):=by
 unfold JE Ff Ko;rw [Jf (l:=l) (fun x:AD=>BT x.1 id) some om]
 ·rfl
 ·intro k x hx;simp only [En (List.getElem?_eq_some_iff.1 hx).1,cond_true,BV,hx,ob];show cond (BT x.1 id) _ _=_
  cases BT x.1 id<;>rfl
 simp only [Eo];rfl
theorem Hq {l:List AD} (hl:l.length≤1048576) (hs:KB l) (id:AU):Ga l id=some (atI l id):=by
 unfold Ga;rw [show JE l id=_ from Tu hl id,ob];unfold atI VE;rcases FJ (fun x:AD=>BT x.1 id) l with ⟨h1,h2⟩ | ⟨k,x,h1,h2,h3⟩
 ·rw [h1,h2];rfl
 rw [h1,h3,show decide (0≤(k:Int))=true from decide_eq_true om,cond_true,BV,h2,ob,show GB _=some x from Nw (x:=x) (hs x (List.mem_of_getElem? h2))];rfl
end Go.Proofs.SL
namespace Go.Proofs.SL
open Go
theorem Yr {lt:AU→AU→Bool} (h:Gr.STO lt):SW0 lt where
 irrefl:=h.irr
 trans:=h.tr
 ntrans x y z h1 h2:=by
  cases h3:lt x z with
  | false=>rfl
  | true =>
   rcases h.tot y z with q | q | q
   ·rw [h2] at q;cases q
   ·have:=h.tr _ _ _ h3 q;rw [h1] at this;cases this
   ·rw [q,h3] at h1;cases h1
theorem eZ {lt:AU→AU→Bool} (h:Gr.STO lt) {f:AU→AU→Option Int} (hf:∀ x y,∃ v,f x y=some v∧decide (v < 0)=lt x y) {l:List AU} (hl:l.length≤1000):HQ l f=some (Pk lt l):=by
 have e:(fun x y=>decide ((f x y).getD 0 < 0))=lt:=by
  funext x y
  obtain ⟨v,h1,h2⟩:=hf x y;rw [h1];exact h2
 unfold HQ;rw [e,if_pos ⟨fun x y=>(hf x y).imp fun v hv=>hv.1,Yr h⟩];exact XK om fun a b _ _=>h.tot a b
theorem RV (a b:AU):∃ c,ES a b=some c∧decide (c < 0)=Cy a b:=by
 obtain ⟨c,h1,h2⟩:=Nv a b;refine ⟨c,h1,?_⟩
 by_cases h:c < 0
 ·rw [decide_eq_false (show ¬ 0≤c by omega)] at h2;rw [decide_eq_true h]
  cases hh:Cy a b with
  | true=>rfl
  | false=>rw [hh] at h2;cases h2
 rw [decide_eq_true (show 0≤c by omega)] at h2;rw [decide_eq_false h]
 cases hh:Cy a b with
 | false=>rfl
 | true=>rw [hh] at h2;cases h2
end Go.Proofs.SL
namespace Go.Proofs.SL
open Go
noncomputable def Jb (c d:CH):Bool:=bif (((!DN c)||(!DN d))||decide (c.1=0))||decide (d.1=0) then false else (decide (c.1=7)||decide (d.1=7))||decide (c.2.2.2.1=d.2.2.2.1)
theorem bT (c d:CH):Jb c d=Jb d c:=by
 unfold Jb;rw [show decide (d.2.2.2.1=c.2.2.2.1)=decide (c.2.2.2.1=d.2.2.2.1) by rw [Bool.eq_iff_iff];simp only [decide_eq_true_eq];exact eq_comm]
 cases DN c<;>cases DN d<;>cases decide (c.1=0)<;>cases decide (d.1=0)<;>cases decide (c.1=7)<;>cases decide (d.1=7)<;>rfl
theorem bU {c d:CH} (hc:Ok.ok c) (hd:Ok.ok d):Of c d=some (Jb c d):=by
 unfold Of Jb;rw [show Ij _=_ from LA (c:=c) hc,show Ij _=_ from LA (c:=d) hd,ob,gbs]
 cases DN c<;>cases DN d<;>cases decide (c.1=0)<;>cases decide (d.1=0)<;>rfl
theorem bV {c d:CH} (hc:Ok.ok c) (hd:Ok.ok d):Og c d=some (Jb c d):=by
 unfold Og Jb;rw [show Il _=_ from Lz (c:=c) hc,show Il _=_ from Lz (c:=d) hd,ob,gbs]
 cases DN c<;>cases DN d<;>cases decide (c.1=0)<;>cases decide (d.1=0)<;>rfl
end Go.Proofs.SL
namespace Go.Proofs.SL
open Go
abbrev UpI (l:List AD):Prop:=l.Pairwise fun a b=>Cy a.1 b.1=true
theorem bW {l:List AD} (h1:∀ x,x∈l→Da x=true) (h2:UpI l):Dk l=true:=by
 unfold Dk;rw [List.all_eq_true];intro k hk;rw [List.mem_range] at hk
 have hx:l[k]?=some l[k]:=List.getElem?_eq_getElem hk
 unfold KA;rw [hx];simp only [Bool.and_eq_true,Bool.or_eq_true,decide_eq_true_eq];refine ⟨h1 _ (List.getElem_mem hk),?_⟩;rcases Nat.eq_zero_or_pos k with h0 | h0
 ·exact .inl h0
 right;rw [List.getElem?_eq_getElem (show k - 1 < l.length by omega)];exact List.pairwise_iff_getElem.1 h2 (k - 1) k om hk om
theorem IW (a:AU):Cy a a=false:=Ea.irr a
theorem Px {a b:AU} (h:Cy a b=true):Cy b a=false:=by
 cases hh:Cy b a with
 | false=>rfl
 | true=>have:=Ea.tr _ _ _ h hh;rw [IW] at this;cases this
theorem ZY {a b:AU} (h:Cy a b=true):BT a b=false:=by
 rw [EP,decide_eq_false_iff_not];rintro rfl;rw [IW] at h;cases h
theorem mF {a b:AU} (h:Cy a b=false):Cy b a=!BT a b:=by
 rw [EP];rcases Ea.tot a b with q | q | q
 ·rw [h] at q;cases q
 ·have:=ZY q;rw [Wp,EP] at this;rw [q,this];rfl
 rw [q,IW];simp
def PO (l:List AD) (x:AD):List AD:=l.takeWhile (fun y=>Cy y.1 x.1)++x::(l.dropWhile fun y=>Cy y.1 x.1).filter fun y=>!BT y.1 x.1
def EH (l:List AD) (x:AD):List AD:=l.filter (fun y=>Cy y.1 x.1)++x::l.filter fun y=>Cy x.1 y.1
theorem ZZ (x:AD):∀ {l:List AD},UpI l→PO l x=EH l x
 | [],_=>rfl
 | y::r,h=>by
  obtain ⟨h1,h2⟩:=List.pairwise_cons.1 h
  have ih:=ZZ x h2
  unfold PO EH at ih ⊢
  cases hc:Cy y.1 x.1 with
  | true =>
   rw [List.takeWhile_cons,if_pos hc,List.dropWhile_cons,if_pos hc,List.filter_cons,if_pos hc,List.filter_cons,if_neg (by rw [Px hc];exact Bool.false_ne_true),List.cons_append,List.cons_append,ih]
  | false =>
   have h3:∀ z,z∈y::r→Cy z.1 x.1=false:=fun z hz=>by
    rcases List.mem_cons.1 hz with rfl | hz
    ·exact hc
    ·cases hh:Cy z.1 x.1 with
     | false=>rfl
     | true=>rw [Ea.tr _ _ _ (h1 z hz) hh] at hc;cases hc
   have e1:(y::r).filter (fun z=>Cy z.1 x.1)=[]:=List.filter_eq_nil_iff.2 fun z hz=>by rw [h3 z hz];exact Bool.false_ne_true
   have e2:(y::r).filter (fun z=>!BT z.1 x.1)=(y::r).filter fun z=>Cy x.1 z.1:=List.filter_congr fun z hz=>(mF (h3 z hz)).symm
   rw [List.takeWhile_cons,if_neg (by rw [hc];exact Bool.false_ne_true),List.dropWhile_cons,if_neg (by rw [hc];exact Bool.false_ne_true),e1,e2]
theorem My {l:List AD} {x y:AD}:y∈EH l x↔y=x∨(y∈l∧y.1≠x.1):=by
 unfold EH;simp only [List.mem_append,List.mem_filter,List.mem_cons]
 constructor
 ·rintro (⟨h1,h2⟩ | h | ⟨h1,h2⟩)
  ·exact .inr ⟨h1,fun e=>by rw [e,IW] at h2;cases h2⟩
  ·exact .inl h
  exact .inr ⟨h1,fun e=>by rw [e,IW] at h2;cases h2⟩
 rintro (h | ⟨h1,h2⟩)
 ·exact .inr (.inl h)
 rcases Ea.tot y.1 x.1 with q | q | q
 ·exact .inl ⟨h1,q⟩
 ·exact .inr (.inr ⟨h1,q⟩)
 exact absurd q h2
theorem VF {l:List AD} (h:UpI l) (x:AD):UpI (EH l x):=by
 unfold EH;refine List.pairwise_append.2 ⟨h.filter _,List.pairwise_cons.2 ⟨fun z hz=>(List.mem_filter.1 hz).2,h.filter _⟩,fun a ha b hb=>?_⟩
 have h1:=(List.mem_filter.1 ha).2
 rcases List.mem_cons.1 hb with rfl | hb
 ·exact h1
 exact Ea.tr _ _ _ h1 (List.mem_filter.1 hb).2
theorem VG {l:List AD} (h:Dk l=true) {x:AD} (hx:Da x=true):Dk (EH l x)=true:=by
 obtain ⟨h1,h2⟩:=Em h;refine bW (fun y hy=>?_) (VF h2 x);rcases My.1 hy with rfl | ⟨hy,_⟩
 ·exact hx
 exact h1 y hy
theorem Zq {l:List AD} (hl:l.length≤1000) (x:AD):Gg l x=some (PO l x):=by
 unfold Gg;rw [ob];refine Dx (s:=(([]:List AD),false,(0:Int))) (fun s:List AD×Bool×Int=>∃ k:Nat,s.2.2=(k:Int)∧k≤l.length∧s.1.length≤k+1∧(s.2.1=false→s.1.length≤k)∧(if s.2.1 then s.1++(l.drop k).filter (fun y=>!BT y.1 x.1) else s.1++PO (l.drop k) x)=PO l x) (fun s=>(l.length - s.2.2).toNat) ?_ ⟨0,rfl,Nat.zero_le _,Nat.zero_le _,fun _=>Nat.le_refl _,by simp⟩;rintro ⟨o,p,k'⟩ ⟨k,h1,hk,hol,hop,he⟩;dsimp only at h1 hol hop he ⊢;subst h1
 by_cases hkl:k < l.length
 ·left
  have hy:l[k]?=some l[k]:=List.getElem?_eq_getElem hkl
  generalize l[k]=y at hy;rw [Pw hy] at he
  have w1:=Dc (show k < 9223372036854775807 by omega)
  have hd:∀ z:AD,z=z:=fun z=>rfl
  rw [show decide ((k:Int) < (l.length:Int))=true from decide_eq_true om,cond_true,w1];simp only [BV,hy,ob,hd];rw [show (decide (y.1.1=x.1.1)&&(decide (y.1.2=x.1.2)&&true))=BT y.1 x.1 from rfl]
  have hle:IK y.1 x.1=some (Cy y.1 x.1):=rfl
  cases p with
  | true =>
   rw [if_pos rfl,List.filter_cons] at he;simp only [Bool.not_true,QX,Bool.false_and,cond_false]
   cases hc:BT y.1 x.1 with
   | true =>
    rw [if_neg (by simp [hc])] at he;exact ⟨_,rfl,⟨k+1,rfl,hkl,by simpa using Nat.le_trans hol (Nat.le_succ _),fun h=>by simp at h,by rw [if_pos rfl];exact he⟩,by dsimp only;omega⟩
   | false =>
    rw [if_pos (by simp [hc])] at he;rw [Bool.not_false,cond_true,Cp (by simp;omega),ob];refine ⟨_,rfl,⟨k+1,rfl,hkl,by simp;omega,fun h=>by simp at h,by rw [if_pos rfl,← he];simp⟩,by dsimp only;omega⟩
  | false =>
   rw [if_neg Bool.false_ne_true] at he
   have hop:=hop rfl
   simp only [Bool.not_false,Dn,Bool.true_and,ob,hle]
   cases hc:Cy y.1 x.1 with
   | true =>
    have h3:PO (y::l.drop (k+1)) x=y::PO (l.drop (k+1)) x:=by
     unfold PO;rw [List.takeWhile_cons,if_pos hc,List.dropWhile_cons,if_pos hc,List.cons_append]
    rw [h3] at he;rw [ZY hc,Bool.not_true,cond_false,Bool.not_false,cond_true,Cp (by simp;omega),ob];refine ⟨_,rfl,⟨k+1,rfl,hkl,by simp;omega,fun _=>by simp;omega,by rw [if_neg Bool.false_ne_true,← he];simp⟩,by dsimp only;omega⟩
   | false =>
    have h3:PO (y::l.drop (k+1)) x=x::(y::l.drop (k+1)).filter fun z=>!BT z.1 x.1:=by
     unfold PO;rw [List.takeWhile_cons,if_neg (by simp [hc]),List.dropWhile_cons,if_neg (by simp [hc]),List.nil_append]
    rw [h3,List.filter_cons] at he;rw [Bool.not_false,cond_true,Cp (by simp;omega),ob]
    cases hq:BT y.1 x.1 with
    | true =>
     rw [if_neg (by simp [hq])] at he;exact ⟨_,rfl,⟨k+1,rfl,hkl,by simp;omega,fun h=>by simp at h,by rw [if_pos rfl,← he];simp⟩,by dsimp only;omega⟩
    | false =>
     rw [if_pos (by simp [hq])] at he;rw [Bool.not_false,cond_true,Cp (by simp;omega),ob];exact ⟨_,rfl,⟨k+1,rfl,hkl,by simp;omega,fun h=>by simp at h,by rw [if_pos rfl,← he];simp⟩,by dsimp only;omega⟩
 right;rw [show decide ((k:Int) < (l.length:Int))=false from decide_eq_false om,cond_false];rw [List.drop_of_length_le om] at he
 cases p with
 | true=>rw [if_pos rfl] at he;simp at he;rw [← he];rfl
 | false =>
  rw [if_neg Bool.false_ne_true] at he;rw [Bool.not_false,cond_true,Cp (by simp;omega),← he];rfl
theorem Hi {l:List AD} (h:Dk l=true) (x:AD):Gg l x=some (EH l x):=by
 have:=Dh h
 rw [Zq om,ZZ x (Em h).2]
theorem UpI.nodup {l:List AD} (h:UpI l):l.Nodup:=by
 rw [List.nodup_iff_pairwise_ne];exact h.imp fun {a b} hab e=>by rw [e,IW] at hab;cases hab
theorem UpI.sorted {l:List AD} (h:UpI l):l.Pairwise fun a b=>Cy b.1 a.1=false:=h.imp fun {a b} hab=>Px hab
theorem UpI.tot {l:List AD} (h:UpI l) {a b:AD} (ha:a∈l) (hb:b∈l):Cy a.1 b.1=true∨Cy b.1 a.1=true∨a=b:=by
 obtain ⟨i,hi,rfl⟩:=List.mem_iff_getElem.1 ha;obtain ⟨j,hj,rfl⟩:=List.mem_iff_getElem.1 hb;rcases Nat.lt_trichotomy i j with q | q | q
 ·exact .inl (List.pairwise_iff_getElem.1 h i j hi hj q)
 ·subst q;exact .inr (.inr rfl)
 exact .inr (.inl (List.pairwise_iff_getElem.1 h j i hj hi q))
theorem oN:SW0 fun a b:AD=>Cy a.1 b.1 where
 irrefl x:=IW _
 trans x y z:=Ea.tr _ _ _
 ntrans x y z:=(Yr Ea).ntrans _ _ _
theorem Ys {m r:List AD} (hr:UpI r) (hp:m.Perm r) (hl:m.length≤1000):HQ m (fun z0 z1=>EU z0 z1)=some r:=by
 have hf:∀ x y:AD,∃ v,EU x y=some v∧decide (v < 0)=Cy x.1 y.1:=fun x y=>by
  obtain ⟨c,h1,h2⟩:=RV x.1 y.1;refine ⟨c,?_,h2⟩;unfold EU;rw [show ES x.1 y.1=some c from h1];rfl
 have e:(fun x y:AD=>decide ((EU x y).getD 0 < 0))=fun x y=>Cy x.1 y.1:=by
  funext x y
  obtain ⟨v,h1,h2⟩:=hf x y;rw [h1];exact h2
 unfold HQ;rw [e,if_pos ⟨fun x y=>(hf x y).imp fun v hv=>hv.1,oN⟩]
 have ht:∀ a b,a∈m→b∈m→Cy a.1 b.1=true∨Cy b.1 a.1=true∨a=b:=fun a b ha hb=>hr.tot (hp.mem_iff.1 ha) (hp.mem_iff.1 hb)
 rw [XK om ht];refine congrArg some (NI ((JX _ m).trans hp) (Ls oN m) hr.sorted fun a b ha hb=>?_);exact ht a b ((JX _ m).mem_iff.1 ha) ((JX _ m).mem_iff.1 hb)
theorem mG {l:List AD} (h:UpI l) {k:Nat} {y x:AD} (hk:l[k]?=some y) (he:y.1=x.1):l.set k x=EH l x:=by
 obtain ⟨h1,h2⟩:=List.getElem?_eq_some_iff.1 hk
 have hs:l=l.take k++y::l.drop (k+1):=by
  rw [← h2,← List.drop_eq_getElem_cons h1,List.take_append_drop]
 rw [List.set_eq_take_append_cons_drop,if_pos h1];rw [hs] at h;obtain ⟨p1,p2,p3⟩:=List.pairwise_append.1 h;obtain ⟨p4,p5⟩:=List.pairwise_cons.1 p2;unfold EH
 conv=>rhs;rw [hs]
 have f1:∀ a,a∈l.take k→Cy a.1 x.1=true:=fun a ha=>by rw [← he];exact p3 a ha y (List.mem_cons_self ..)
 have f2:∀ a,a∈l.drop (k+1)→Cy x.1 a.1=true:=fun a ha=>by rw [← he];exact p4 a ha
 have f3:Cy y.1 x.1=false:=by rw [he,IW]
 have f4:Cy x.1 y.1=false:=by rw [he,IW]
 rw [List.filter_append,List.filter_append,List.filter_cons,List.filter_cons,if_neg (by simp [f3]),if_neg (by simp [f4]),List.filter_eq_self.2 f1,List.filter_eq_self.2 f2,
  List.filter_eq_nil_iff.2 (fun a ha=>by simp [Px (f2 a ha)]),List.filter_eq_nil_iff.2 (fun a ha=>by simp [Px (f1 a ha)])]
 simp
theorem hN {l:List AD} (h:UpI l) {x:AD} (hn:∀ y,y∈l→y.1≠x.1):(l++[x]).Perm (EH l x):=by
 have h1:(l++[x]).Nodup:=List.nodup_append.2 ⟨h.nodup,by simp,fun a ha b hb=>by
  rw [List.mem_singleton] at hb;subst hb;exact fun e=>hn a ha (by rw [e])⟩
 refine (List.perm_ext_iff_of_nodup h1 (VF h x).nodup).2 fun a=>?_;rw [My,List.mem_append,List.mem_singleton]
 constructor
 ·rintro (q | q)
  ·exact .inr ⟨q,hn a q⟩
  exact .inl q
 rintro (q | ⟨q,_⟩)
 ·exact .inr q
 exact .inl q
theorem oO {l:List AD} {x:AD} (h:Ok.ok l) (hx:Ok.ok x) (hl:l.length≤1000):Ok.ok (EH l x):=by
 refine ⟨?_,fun y hy=>?_⟩
 ·unfold EH
  have h1:=List.length_filter_le (fun y:AD=>Cy y.1 x.1) l
  have h2:=List.length_filter_le (fun y:AD=>Cy x.1 y.1) l
  simp only [List.length_append,List.length_cons];omega
 rcases My.1 hy with rfl | ⟨hy,_⟩
 ·exact hx
 exact h.2 y hy
theorem Ws {l:List AD} {x:AD} (h:KB l) (hx:Gc x):KB (EH l x):=fun y hy=>by
 rcases My.1 hy with rfl | ⟨hy,_⟩
 ·exact hx
 ·exact h y hy
theorem Yt {l:List AD} {x:AD} (ho:Ok.ok l) (hx:Ok.ok x) (h:Dk l=true) (hxo:Da x=true) (hs:KB l) (hsx:Gc x):KY l x=some (EH l x):=by
 have hl:=Dh h
 have hr:UpI (EH l x):=VF (Em h).2 x
 have hk:Hm (EH l x)=some true:=by rw [LB (oO ho hx om),VG h hxo]
 unfold KY;rw [LB ho,h,ob,Bool.not_true,cond_false,Qs om hs,ob,show JE l x.1=_ from Tu om x.1,ob,show GB _=some x from Nw hsx];rcases FJ (fun y:AD=>BT y.1 x.1) l with ⟨h1,h2⟩ | ⟨k,y,h1,h2,h3⟩
 ·rw [h1,show decide ((0:Int)≤-1)=false from rfl,cond_false,ob]
  have hn:∀ y,y∈l→y.1≠x.1:=fun y hy e=>by
   have:=List.find?_eq_none.1 h2 y hy
   rw [EP,e] at this;simp at this
  rw [Cp (by simp;omega),ob]
  have:=Ys hr (hN (Em h).2 hn) (by simp;omega)
  rw [show HQ (l++[x]) (fun z0 z1=>EU z0 z1)=some (EH l x) from this,ob,hk,ob,Bool.not_true,cond_false]
 rw [h1,show decide ((0:Int)≤(k:Int))=true from decide_eq_true om,cond_true,ob,BV,h2,ob,ob]
 have he:y.1=x.1:=by
  have:=List.find?_some h3
  rw [EP] at this;exact of_decide_eq_true this
 have hset:=mG (Em h).2 h2 he
 have:=Ys (m:=l.set k x) hr (by rw [hset]) (by simp;omega)
 rw [Int.toNat_natCast,show HQ (l.set k x) (fun z0 z1=>EU z0 z1)=some (EH l x) from this,ob,hk,ob,Bool.not_true,cond_false]
theorem Ie {d:At} {x:AD} (ho:Ok.ok d.2.2.1) (hx:Ok.ok x) (h:Dk d.2.2.1=true) (hs:KB d.2.2.1) (hsx:Gc x) :
  EJ d x=some (if Da x then (true,(d.1,d.2.1,EH d.2.2.1 x,d.2.2.2)) else (false,d)):=by
 unfold EJ;rw [show KH _=_ from Tr (x:=x) hx,ob]
 cases hxo:Da x with
 | true=>rw [Bool.not_true,cond_false,if_pos rfl,show KY d.2.2.1 _=_ from Yt (x:=x) ho hx h hxo hs hsx];rfl
 | false=>rw [Bool.not_false,cond_true,if_neg Bool.false_ne_true]
def Xs (me to:Int) (m:Au):Au:=(m.1,me,to,m.2.2.2.1,m.2.2.2.2.1,m.2.2.2.2.2.1,m.2.2.2.2.2.2.1,m.2.2.2.2.2.2.2.1,m.2.2.2.2.2.2.2.2.1,(-1),m.2.2.2.2.2.2.2.2.2.2)
def MM (me:Int) (m:Au) (k:Nat):List Au:=((List.range k).filter fun t:Nat=>!decide ((t:Int)=me)).map fun t:Nat=>Xs me (t:Int) m
def GR (me:Int) (m:Au):List Au:=MM me m 3
theorem NP (me:Int) (m:Au) (k:Nat):MM me m (k+1)=if (k:Int)=me then MM me m k else MM me m k++[Xs me (k:Int) m]:=by
 unfold MM;rw [List.range_succ,List.filter_append,List.map_append]
 by_cases h:(k:Int)=me
 ·rw [if_pos h,List.filter_cons,if_neg (by simp [h])];simp
 rw [if_neg h,List.filter_cons,if_pos (by simp [h])];rfl
theorem Wt (me:Int) (m:Au) (k:Nat):(MM me m k).length≤k:=by
 unfold MM;rw [List.length_map];exact Nat.le_trans (List.length_filter_le _ _) (by simp)
def Qt (m:Au):Prop:=m.2.2.2.2.2.1.2.2.2.2.2.2.2.length≤1048576∧m.2.2.2.2.2.2.2.1.length≤1048576
theorem Tv (d:At) {m:Au} (h:Qt m):Mn d m=some (GR d.1 m):=by
 unfold Mn;rw [ob];refine Dx (fun s:List Au×Int=>∃ k:Nat,k≤3∧s=(MM d.1 m k,(k:Int))) (fun s=>(3 - s.2).toNat) ?_ ⟨0,by omega,rfl⟩;rintro _ ⟨k,hk,rfl⟩;dsimp only
 by_cases h3:k < 3
 ·left;rw [show decide ((k:Int) < 3)=true from decide_eq_true om,cond_true,Dc om]
  have hb:=Wt d.1 m k
  by_cases hm:(k:Int)=d.1
  ·rw [decide_eq_true hm,cond_true];exact ⟨_,rfl,⟨k+1,h3,by rw [NP,if_pos hm]⟩,by omega⟩
  rw [decide_eq_false hm,cond_false,show FL _=some m.2.2.2.2.2.1 from GD h.1,ob,ob,Cp (by have:=h.2;simp;omega),ob,Cp (by simp;omega),ob];refine ⟨_,rfl,⟨k+1,h3,by rw [NP,if_neg hm];rfl⟩,by dsimp only;omega⟩
 right
 have:k=3:=by omega
 subst this;rfl
theorem Nx {m:Au} (h:Qt m):Hg m=some m:=by
 unfold Hg
 have:=h.2
 rw [show IE _=some m.2.2.2.2.2.1 from OM h.1,ob,GL om];rfl
theorem Lf (d:At) {m:Au} (h:Qt m) (hv:m.2.2.2.2.2.2.2.2.2.1=-1):Fm d m=some (GR d.1 m):=by
 unfold Fm;rw [ob];refine Dx (fun s:List Au×Int=>∃ k:Nat,k≤3∧s=(MM d.1 m k,(k:Int))) (fun s=>(3 - s.2).toNat) ?_ ⟨0,by omega,rfl⟩;rintro _ ⟨k,hk,rfl⟩;dsimp only
 by_cases h3:k < 3
 ·left;rw [show decide ((k:Int) < 3)=true from decide_eq_true om,cond_true,Dc om]
  have hb:=Wt d.1 m k
  by_cases hm:(k:Int)=d.1
  ·rw [decide_eq_true hm,Bool.not_true,cond_false];exact ⟨_,rfl,⟨k+1,h3,by rw [NP,if_pos hm]⟩,by omega⟩
  rw [decide_eq_false hm,Bool.not_false,cond_true,show Hg _=some m from Nx h,ob,Cp (by simp;omega),ob];refine ⟨_,rfl,⟨k+1,h3,?_⟩,by dsimp only;omega⟩;rw [NP,if_neg hm];unfold Xs
  first | rw [hv] | rw [← hv]
 right
 have:k=3:=by omega
 subst this;rfl
def GS (ls:List Bb) (id:AU):List Bb:=ls.filter fun y=>!BT y.1 id
theorem PP {d:At} (h:d.2.2.2.length≤1048576) (id:AU):IT d id=some (d.1,d.2.1,d.2.2.1,GS d.2.2.2 id):=by
 unfold IT;rw [ob,IJ (l:=d.2.2.2) (fun k (t:List Bb)=>(t,(k:Int))) (fun t x=>.inl (if !BT x.1 id then t++[x] else t)) (fun t=>some (d.1,d.2.1,d.2.2.1,t)) (fun k t=>t.length≤k) [] (s0:=([],0)) rfl (Nat.le_refl _),QY,Nu]
 ·rfl
 ·intro k t x hx ht
  have hlt:=(List.getElem?_eq_some_iff.1 hx).1
  refine .inl ⟨_,rfl,?_,by (split<;>(try rw [List.length_append,List.length_singleton]))<;>omega⟩;simp only [En hlt,cond_true,BV,hx,ob,Dc (show k < 9223372036854775807 by omega)];show cond (!BT x.1 id) _ _=_
  cases BT x.1 id with
  | true=>rfl
  | false =>
   rw [Bool.not_false,cond_true,Cp (by simp;omega)];rfl
 intro t ht;simp only [Eo];rfl
theorem Py {d:At} (h:d.2.2.2.length≤1048576) (id:AU):Gb d id=some (d.1,d.2.1,d.2.2.1,GS d.2.2.2 id):=by
 unfold Gb;rw [show LQ (decide (d.2.2.2.length≤4294967296))=some () by rw [decide_eq_true om];rfl];rfl
def DR (ls:List Bb) (l:Bb):List Bb:=match ls.findIdx? fun y=>BT y.1 l.1 with | some k=>ls.set k l | none=>ls++[l]
theorem LC {d:At} (h:d.2.2.2.length≤1048576) (l:Bb):It d l=some (d.1,d.2.1,d.2.2.1,DR d.2.2.2 l):=by
 unfold It;rw [show HF _ _=_ from JM (d:=d) (x:=l.1) om,ob];unfold DR
 cases hf:d.2.2.2.findIdx? fun y=>BT y.1 l.1 with
 | none =>
  rw [PL hf,show decide ((-1:Int) < 0)=true from rfl,cond_true,ob,Cp (by simp;omega),ob,Cp (by simp;omega)];rfl
 | some k =>
  rw [ML hf,show decide ((k:Int) < 0)=false from decide_eq_false om,cond_false,BV];obtain ⟨h1,_⟩:=List.findIdx?_eq_some_iff_getElem.1 hf;rw [List.getElem?_eq_getElem h1,ob,ob,Int.toNat_natCast]
theorem HU (l:List AD) (id:AU):(atI l id).1=id:=by
 unfold atI
 cases h:VE l id with
 | none=>rfl
 | some x=>exact (Wr h).2
theorem Nj (l:List AD) (id:AU):atI l id∈l∨atI l id=(id,(-1),(-1),0,(0,0,0,ByteArray.empty,ByteArray.empty,ByteArray.empty,0,([]:List ByteArray)),0,([]:List AU),false):=by
 unfold atI
 cases h:VE l id with
 | none=>exact .inr rfl
 | some x=>exact .inl (Wr h).1
theorem FU {l:List AD} (h:KB l) (id:AU):Gc (atI l id):=by
 rcases Nj l id with q | q
 ·exact h _ q
 rw [q];exact ⟨Nat.zero_le _,Nat.zero_le _⟩
structure LeadF (l:Bb):Prop where
 id:Ed l.1=true
 bal:0≤l.2.1∧l.2.1≤600
 ph:1≤l.2.2.1∧l.2.2.1≤3
 seq:0≤l.2.2.2.1∧l.2.2.2.1≤60
 deps:Dl l.2.2.2.2.1=true
 self:(l.2.2.2.2.1.any fun y=>BT y l.1)=false
 frm:Hw l.2.2.2.2.2.1=true
theorem leadF {l:Bb} (h:Iy l=true):LeadF l:=by
 unfold Iy at h;simp only [Bool.and_eq_true,decide_eq_true_eq,Bool.not_eq_true'] at h;obtain ⟨⟨⟨⟨⟨⟨h1,h2⟩,h3⟩,h4⟩,h5⟩,h6⟩,h7⟩:=h;exact ⟨h1,h2,h3,h4,h5,h6,h7⟩
theorem leadF.ok {l:Bb} (h:LeadF l):Iy l=true:=by
 unfold Iy;simp only [Bool.and_eq_true,decide_eq_true_eq,Bool.not_eq_true'];exact ⟨⟨⟨⟨⟨⟨h.id,h.bal⟩,h.ph⟩,h.seq⟩,h.deps⟩,h.self⟩,h.frm⟩
structure InstF (x:AD):Prop where
 id:Ed x.1=true
 bal:-1≤x.2.1∧x.2.1≤600
 vbal:-1≤x.2.2.1∧x.2.2.1≤x.2.1
 st:0≤x.2.2.2.1∧x.2.2.2.1≤3
 cmd:DN x.2.2.2.2.1=true
 seq:0≤x.2.2.2.2.2.1∧x.2.2.2.2.2.1≤60
 deps:Dl x.2.2.2.2.2.2.1=true
 self:(x.2.2.2.2.2.2.1.any fun y=>BT y x.1)=false
 none:x.2.2.2.1=0→x.2.2.1=-1∧x.2.2.2.2.1.1=0∧x.2.2.2.2.2.1=0∧x.2.2.2.2.2.2.1=[]∧x.2.2.2.2.2.2.2=false
theorem CY {x:AD}:Da x=true↔InstF x:=by
 unfold Da;simp only [Bool.and_eq_true,decide_eq_true_eq,Bool.not_eq_true',Bool.or_eq_true,decide_eq_false_iff_not]
 constructor
 ·rintro ⟨⟨⟨⟨⟨⟨⟨⟨h1,h2⟩,h3⟩,h4⟩,h5⟩,h6⟩,h7⟩,h8⟩,h9⟩;refine ⟨h1,h2,h3,h4,h5,h6,h7,h8,fun h0=>?_⟩;rcases h9 with h9 | ⟨⟨⟨⟨k1,k2⟩,k3⟩,k4⟩,k5⟩
  ·exact absurd h0 h9
  exact ⟨k1,k2,k3,List.eq_nil_of_length_eq_zero om,k5⟩
 intro h;refine ⟨⟨⟨⟨⟨⟨⟨⟨h.id,h.bal⟩,h.vbal⟩,h.st⟩,h.cmd⟩,h.seq⟩,h.deps⟩,h.self⟩,?_⟩
 by_cases h0:x.2.2.2.1=0
 ·obtain ⟨k1,k2,k3,k4,k5⟩:=h.none h0;exact .inr ⟨⟨⟨⟨k1,k2⟩,k3⟩,by rw [k4];rfl⟩,k5⟩
 exact .inl h0
def OO (x:AD) (l:Bb):AD:=(x.1,x.2.1,l.2.1,2,x.2.2.2.2.1,l.2.2.2.1,l.2.2.2.2.1,false)
def Ry (x:AD) (l:Bb):AD:=(x.1,x.2.1,x.2.2.1,3,x.2.2.2.2.1,l.2.2.2.1,l.2.2.2.2.1,false)
theorem fA {is:List AD} (h:Dk is=true) {l:Bb} (hl:LeadF l) (hb:(atI is l.1).2.1=l.2.1):InstF (atI is l.1):=by
 rcases Nj is l.1 with q | q
 ·exact CY.1 ((Em h).1 _ q)
 rw [q] at hb
 have:=hl.bal
 dsimp only at hb;omega
theorem aA {is:List AD} (h:Dk is=true) {l:Bb} (hl:LeadF l) (hb:(atI is l.1).2.1=l.2.1):Da (OO (atI is l.1) l)=true:=by
 have hx:=fA h hl hb
 have he:=HU is l.1
 refine CY.2 ⟨hx.id,hx.bal,⟨by have:=hl.bal;show -1≤l.2.1;omega,by show l.2.1≤(atI is l.1).2.1;omega⟩,⟨by show (0:Int)≤2;omega,by show (2:Int)≤3;omega⟩,hx.cmd,hl.seq,hl.deps,?_,fun h0=>by cases h0⟩;show (l.2.2.2.2.1.any fun y=>BT y (atI is l.1).1)=false;rw [he];exact hl.self
theorem aB {is:List AD} (h:Dk is=true) {l:Bb} (hl:LeadF l) (hb:(atI is l.1).2.1=l.2.1):Da (Ry (atI is l.1) l)=true:=by
 have hx:=fA h hl hb
 have he:=HU is l.1
 refine CY.2 ⟨hx.id,hx.bal,hx.vbal,⟨by show (0:Int)≤3;omega,by show (3:Int)≤3;omega⟩,hx.cmd,hl.seq,hl.deps,?_,fun h0=>by cases h0⟩;show (l.2.2.2.2.1.any fun y=>BT y (atI is l.1).1)=false;rw [he];exact hl.self
noncomputable def HI (d:At) (l:Bb):At×List Au :=
 if (atI d.2.2.1 l.1).2.1=l.2.1 then ((d.1,d.2.1,EH d.2.2.1 (OO (atI d.2.2.1 l.1) l),DR d.2.2.2 (l.1,l.2.1,2,l.2.2.2.1,l.2.2.2.2.1,[],l.2.2.2.2.2.2)),GR d.1 (3,0,0,l.1,l.2.1,(atI d.2.2.1 l.1).2.2.2.2.1,l.2.2.2.1,l.2.2.2.2.1,0,(-1),false))
 else ((d.1,d.2.1,d.2.2.1,GS d.2.2.2 l.1),[])
noncomputable def IX (d:At) (l:Bb):At×List Au :=
 if (atI d.2.2.1 l.1).2.1=l.2.1 then ((d.1,d.2.1,EH d.2.2.1 (Ry (atI d.2.2.1 l.1) l),GS d.2.2.2 l.1),GR d.1 (5,0,0,l.1,0,(atI d.2.2.1 l.1).2.2.2.2.1,l.2.2.2.1,l.2.2.2.2.1,0,(-1),false))
 else ((d.1,d.2.1,d.2.2.1,GS d.2.2.2 l.1),[])
theorem AN {α β:Type} {o:Option α} {a:α} {k:α→Option β} {r:Option β} (h:o=some a) (hk:k a=r):Option.bind o k=r:=by rw [h];exact hk
theorem NQ (d:At) {x:AD} (h:Gc x) (k b:Int):Jh d k x b=some (GR d.1 (k,0,0,x.1,b,x.2.2.2.2.1,x.2.2.2.2.2.1,x.2.2.2.2.2.2.1,0,(-1),false)):=by
 unfold Jh;exact AN (Tv d (m:=(k,0,0,x.1,b,x.2.2.2.2.1,x.2.2.2.2.2.1,x.2.2.2.2.2.2.1,0,0,false)) h) rfl
theorem Ny {d:At} {l:Bb} (hi:Dk d.2.2.1=true) (hs:KB d.2.2.1) (hl:Mw l) (h:d.2.2.2.length≤1000):He d l=some (HI d l):=by
 have hln:=Dh hi
 unfold He HI;rw [show FM d.2.2.1 l.1=_ from Hp om hs l.1,ob]
 have he:=HU d.2.2.1 l.1
 have hsx:=FU hs l.1
 generalize atI d.2.2.1 l.1=x at he hsx
 by_cases hb:x.2.1=l.2.1
 ·rw [decide_eq_true hb,Bool.not_true,cond_false,if_pos hb,ob,Cp (by have:=hl.1;simp;omega),ob,List.nil_append];refine AN (Hi hi (OO x l)) ?_;rw [ob];refine AN (LC (d:=(d.1,d.2.1,EH d.2.2.1 (OO x l),d.2.2.2)) (by show d.2.2.2.length≤_;omega) (l.1,l.2.1,2,l.2.2.2.1,l.2.2.2.2.1,[],l.2.2.2.2.2.2)) ?_;refine AN (NQ _ (x:=OO x l) ⟨hsx.1,hl.1⟩ 3 l.2.1) ?_;show some (_,GR d.1 (3,0,0,x.1,l.2.1,x.2.2.2.2.1,l.2.2.2.1,l.2.2.2.2.1,0,(-1),false))=_;rw [he]
 rw [decide_eq_false hb,Bool.not_false,cond_true,if_neg hb,show IT _ _=_ from PP (d:=d) om l.1];rfl
theorem Nz {d:At} {l:Bb} (hi:Dk d.2.2.1=true) (hs:KB d.2.2.1) (hl:Mw l) (h:d.2.2.2.length≤1000):Hf d l=some (IX d l):=by
 have hln:=Dh hi
 unfold Hf IX;rw [show FM d.2.2.1 l.1=_ from Hp om hs l.1,ob,show IT _ _=_ from PP (d:=d) om l.1,ob]
 have he:=HU d.2.2.1 l.1
 have hsx:=FU hs l.1
 generalize atI d.2.2.1 l.1=x at he hsx
 by_cases hb:x.2.1=l.2.1
 ·rw [decide_eq_true hb,Bool.not_true,cond_false,if_pos hb,ob,Cp (by have:=hl.1;simp;omega),ob,List.nil_append];refine AN (Hi hi (Ry x l)) ?_;refine AN (NQ _ (x:=Ry x l) ⟨hsx.1,hl.1⟩ 5 0) ?_;show some (_,GR d.1 (5,0,0,x.1,0,x.2.2.2.2.1,l.2.2.2.1,l.2.2.2.2.1,0,(-1),false))=_;rw [he]
 rw [decide_eq_false hb,Bool.not_false,cond_true,if_neg hb];rfl
theorem hP {ls:List Bb} {k:Nat} {id:AU} (hf:(ls.findIdx? fun y=>BT y.1 id)=some k) {l:Bb} (he:l.1=id):((ls.set k l).findIdx? fun y=>BT y.1 id)=some k:=by
 obtain ⟨h1,h2,h3⟩:=List.findIdx?_eq_some_iff_getElem.1 hf;refine List.findIdx?_eq_some_iff_getElem.2 ⟨by simpa using h1,?_,fun j hj=>?_⟩
 ·rw [List.getElem_set_self,he,EP];simp
 rw [List.getElem_set_ne om];exact h3 j hj
theorem JR {ls:List Bb} {k:Nat} {l:Bb} (hf:(ls.findIdx? fun y=>BT y.1 l.1)=some k):DR ls l=ls.set k l:=by
 unfold DR;rw [hf]
theorem fB {ls:List Bb} {k:Nat} {l m:Bb} (hk:ls[k]?=some l) (he:m.1=l.1):GS (ls.set k m) l.1=GS ls l.1:=by
 obtain ⟨h1,h2⟩:=List.getElem?_eq_some_iff.1 hk
 have hs:ls=ls.take k++l::ls.drop (k+1):=by
  rw [← h2,← List.drop_eq_getElem_cons h1,List.take_append_drop]
 unfold GS;rw [List.set_eq_take_append_cons_drop,if_pos h1]
 conv=>rhs;rw [hs]
 rw [List.filter_append,List.filter_append,List.filter_cons,List.filter_cons,if_neg (by rw [he,EP];simp),if_neg (by rw [EP];simp)]
structure NodeS (d:At):Prop where
 ok:Ok.ok d
 is:Dk d.2.2.1=true
 sm:KB d.2.2.1
 ls:d.2.2.2.length≤1000
 lsm:∀ l,l∈d.2.2.2→Mw l
theorem Rz {d:At} (hd:NodeS d) {k:Nat} {l:Bb} (hk:d.2.2.2[k]?=some l) (hf:(d.2.2.2.findIdx? fun y=>BT y.1 l.1)=some k) (hlf:LeadF l):DL d (k:Int) 2=some ((HI d l).2,(HI d l).1):=by
 have hln:=Dh hd.is
 have hl:=hd.lsm l (List.mem_of_getElem? hk)
 have hol:Ok.ok l:=hd.ok.2.2.2.2 l (List.mem_of_getElem? hk)
 have hlt:=(List.getElem?_eq_some_iff.1 hk).1
 unfold DL HI;rw [BV,hk,ob,show Ga d.2.2.1 l.1=_ from Hq om hd.sm l.1,ob]
 have he:=HU d.2.2.1 l.1
 have hsx:=FU hd.sm l.1
 have hok:=aA hd.is hlf
 have hor:=Nj d.2.2.1 l.1
 generalize atI d.2.2.1 l.1=x at he hsx hok hor
 by_cases hb:x.2.1=l.2.1
 ·have hox:Ok.ok x:=by
   rcases hor with q | q
   ·exact hd.ok.2.2.1.2 _ q
   ·rw [q] at hb
    have:=hlf.bal
    dsimp only at hb;omega
  have hoa:Ok.ok (OO x l):=⟨hox.1,hox.2.1,hol.2.1,by show inR 2;unfold inR;omega,hox.2.2.2.2.1,hol.2.2.2.1,hol.2.2.2.2.1,trivial⟩
  rw [decide_eq_true hb,Bool.not_true,cond_false,if_pos hb,GL (by have:=hl.1;omega),ob,show decide ((2:Int)=2)=true from rfl,cond_true,ob,ob,Int.toNat_natCast,BV,List.getElem?_set_self hlt,ob,ob,List.set_set]
  have hp:=Ie (d:=(d.1,d.2.1,d.2.2.1,d.2.2.2.set k (l.1,l.2.1,2,l.2.2.2.1,l.2.2.2.2.1,[],l.2.2.2.2.2.2))) (x:=OO x l) hd.ok.2.2.1 hoa hd.is hd.sm ⟨hsx.1,hl.1⟩
  rw [hok hb,if_pos rfl] at hp;refine AN hp ?_;refine AN (Lf (d.1,d.2.1,EH d.2.2.1 (OO x l),d.2.2.2.set k (l.1,l.2.1,2,l.2.2.2.1,l.2.2.2.2.1,[],l.2.2.2.2.2.2)) (m:=(3,0,0,l.1,l.2.1,x.2.2.2.2.1,l.2.2.2.1,l.2.2.2.2.1,0,(-1),false)) ⟨hsx.1,hl.1⟩ rfl) ?_;rw [JR (l:=(l.1,l.2.1,2,l.2.2.2.1,l.2.2.2.2.1,[],l.2.2.2.2.2.2)) hf]
 rw [decide_eq_false hb,Bool.not_false,cond_true,if_neg hb,show Gb _ _=_ from Py (d:=d) (by have:=hd.ls;omega) l.1];rfl
structure NodeF (d:At):Prop where
 me:0≤d.1∧d.1 < 3
 nx:1≤d.2.1∧d.2.1≤7
 is:Dk d.2.2.1=true
 ll:d.2.2.2.length≤8
 own:∀ x,x∈d.2.2.1→x.1.1=d.1→x.1.2 < d.2.1
 ld:∀ (k:Nat) (l:Bb),d.2.2.2[k]?=some l→LeadF l∧(d.2.2.2.findIdx? fun y=>BT y.1 l.1)=some k
theorem nodeF {d:At} (h:Ft d=true):NodeF d:=by
 unfold Ft at h;simp only [Bool.and_eq_true,decide_eq_true_eq,List.all_eq_true,Bool.not_eq_true',Bool.and_eq_false_iff,decide_eq_false_iff_not,List.mem_range] at h;obtain ⟨⟨⟨⟨⟨h1,h2⟩,h3⟩,h4⟩,h5⟩,h6⟩:=h;refine ⟨h1,h2,h3,h4,fun x hx he=>?_,fun k l hk=>?_⟩
 ·rcases h5 x hx with q | q
  ·exact absurd he q
  omega
 have:=h6 k (List.getElem?_eq_some_iff.1 hk).1
 unfold Iz at this;rw [hk] at this;simp only [Bool.and_eq_true,decide_eq_true_eq] at this;refine ⟨leadF this.1,?_⟩
 have h7:=this.2
 unfold DE at h7
 cases hf:d.2.2.2.findIdx? fun y=>BT y.1 l.1 with
 | none=>rw [hf] at h7;simp only at h7;omega
 | some j=>rw [hf] at h7;simp only at h7;exact congrArg some om
theorem nodeF.s {d:At} (h:NodeF d) (ho:Ok.ok d) (hn:IA d):NodeS d:=⟨ho,h.is,hn.2.1,by have:=h.ll;omega,hn.2.2.2⟩
def Ta:At:=(0,0,([]:List AD),([]:List Bb))
noncomputable def Xt (d:At) (id:AU):At×(List Au)×Bool:=match d.2.2.2.find? fun y=>BT y.1 id with
 | none=>(d,[],false)
 | some l=>if decide (l.2.2.1=1)&&!decide ((l.2.2.2.2.2.1.length:Int)=0) then ((HI d l).1,(HI d l).2,true) else (d,[],false)
noncomputable def Pz (d:At) (id:AU):At×(List Au)×Bool:=if Ft d then Xt d id else (Ta,[],false)
theorem Lg {ls:List Bb} {l x:Bb} (h:x∈DR ls l):x∈ls∨x=l:=by
 unfold DR at h
 split at h
 ·exact List.mem_or_eq_of_mem_set h
 rcases List.mem_append.1 h with q | q
 ·exact .inl q
 exact .inr (List.mem_singleton.1 q)
theorem Wu (ls:List Bb) (l:Bb):(DR ls l).length≤ls.length+1:=by
 unfold DR
 split<;>simp
theorem Yu (l:List AD) (x:AD):(EH l x).length≤2*l.length+1:=by
 unfold EH
 have h1:=List.length_filter_le (fun y:AD=>Cy y.1 x.1) l
 have h2:=List.length_filter_le (fun y:AD=>Cy x.1 y.1) l
 simp only [List.length_append,List.length_cons];omega
theorem bX {d:At} (hd:NodeS d) {l:Bb} (hl:Mw l):IA (HI d l).1:=by
 have h1:=Dh hd.is
 have h2:=hd.ls
 unfold HI
 split
 ·refine ⟨?_,Ws hd.sm ⟨(FU hd.sm l.1).1,hl.1⟩,?_,fun x hx=>?_⟩
  ·have:=Yu d.2.2.1 (OO (atI d.2.2.1 l.1) l)
   show (EH _ _).length≤_;omega
  ·have:=Wu d.2.2.2 (l.1,l.2.1,2,l.2.2.2.1,l.2.2.2.2.1,[],l.2.2.2.2.2.2)
   show (DR _ _).length≤_;omega
  rcases Lg hx with q | q
  ·exact hd.lsm x q
  subst q;exact ⟨hl.1,Nat.zero_le _⟩
 refine ⟨by show d.2.2.1.length≤_;omega,hd.sm,?_,fun x hx=>hd.lsm x (List.mem_filter.1 hx).1⟩
 have:=List.length_filter_le (fun y:Bb=>!BT y.1 l.1) d.2.2.2
 show (GS _ _).length≤_;unfold GS;omega
theorem mH {ls:List Bb} {id:AU} {k:Nat} {l:Bb} (h3:ls.find? (fun y=>BT y.1 id)=some l):l.1=id:=by
 have:=List.find?_some h3
 rw [EP] at this;exact of_decide_eq_true this
theorem VH {d:At} (id:AU) (ho:Ok.ok d) (hn:IA d):Kt d id=some (Pz d id):=by
 unfold Kt Pz;rw [show Gk _=_ from JN (d:=d) ho,ob]
 cases hk:Ft d with
 | false=>rfl
 | true =>
  have hf:=nodeF hk
  have hs:=nodeF.s hf ho hn
  have hll:=hf.ll
  rw [Bool.not_true,cond_false,if_pos rfl,show EN _=some d from FG hn,ob,show HF _ _=_ from JM (d:=d) (x:=id) om,ob];unfold Xt;rcases FJ (fun y:Bb=>BT y.1 id) d.2.2.2 with ⟨h1,h2⟩ | ⟨k,l,h1,h2,h3⟩
  ·rw [h1,h2];rfl
  ·have hm:=List.mem_of_getElem? h2
   rw [h1,h3,show decide ((k:Int) < 0)=false from decide_eq_false om];simp only [BV,h2,Bool.not_false,Bool.false_or,Dn,ob]
   by_cases hp:l.2.2.1=1
   ·simp only [decide_eq_true hp,Bool.not_true,Bool.not_false,Dn,ob,Bool.false_or,Bool.true_and]
    cases hz:decide ((l.2.2.2.2.2.1.length:Int)=0) with
    | true=>rfl
    | false =>
     rw [cond_false,Bool.not_false,if_pos rfl];refine AN (Ny (d:=d) (l:=l) hs.is hs.sm (hs.lsm l hm) hs.ls) ?_;exact AN (FG (d:=(HI d l).1) (bX hs (hs.lsm l hm))) rfl
   ·simp only [decide_eq_false hp,Bool.not_true,Bool.not_false,QX,Bool.true_or,cond_true,Bool.false_and,Bool.false_eq_true,if_false]
theorem VI {d:At} (id:AU) (ho:Ok.ok d) (hn:IA d):Ji d id=some (Pz d id):=by
 unfold Ji Pz;rw [show Gl _=_ from JO (d:=d) ho,ob]
 cases hk:Ft d with
 | false=>rfl
 | true =>
  have hf:=nodeF hk
  have hs:=nodeF.s hf ho hn
  have hll:=hf.ll
  rw [Bool.not_true,cond_false,if_pos rfl,show Ef _=some d from Fu hn,ob,show EF _ _=_ from Ld (d:=d) (x:=id) om,ob];unfold Xt;rcases FJ (fun y:Bb=>BT y.1 id) d.2.2.2 with ⟨h1,h2⟩ | ⟨k,l,h1,h2,h3⟩
  ·rw [h1,h2];rfl
  ·have hm:=List.mem_of_getElem? h2
   rw [h1,h3,show decide ((k:Int) < 0)=false from decide_eq_false om];simp only [BV,h2,Bool.not_false,Bool.false_or,Dn,ob]
   by_cases hp:l.2.2.1=1
   ·simp only [decide_eq_true hp,Bool.not_true,Bool.not_false,Dn,ob,Bool.false_or,Bool.true_and]
    cases hz:decide ((l.2.2.2.2.2.1.length:Int)=0) with
    | true=>rfl
    | false =>
     rw [cond_false,Bool.not_false,if_pos rfl];exact AN (Rz hs h2 (hf.ld k l h2).2 (hf.ld k l h2).1) rfl
   ·simp only [decide_eq_false hp,Bool.not_true,Bool.not_false,QX,Bool.true_or,cond_true,Bool.false_and,Bool.false_eq_true,if_false]
def nb (me s:Int):Int:=s+(me - s) % 3
theorem Yv {α:Type} {me:Int} (hm:0≤me∧me < 3) {K:Int→Option α} {s:Int} (hs:0≤s∧s≤1000) {r:α} (hr:K (nb me s)=some r):BH (fun t:Int=>cond (!decide (t.tmod 3=me)) (some (.inl (IntKind.wrap .i64 (t+1)))) (Option.map .inr (K t))) s=some r:=by
 refine Dx (fun t:Int=>0≤t∧t≤nb me s∧nb me t=nb me s) (fun t=>(nb me s - t).toNat) ?_ ⟨hs.1,by unfold nb;omega,rfl⟩;rintro t ⟨h1,h2,h3⟩
 have hn:nb me s≤1003:=by unfold nb;omega
 by_cases h:t.tmod 3=me
 ·right;rw [decide_eq_true h,Bool.not_true,cond_false]
  have:nb me t=t:=by
   rw [Int.tmod_eq_emod_of_nonneg h1] at h;unfold nb;omega
  rw [← this,h3,hr];rfl
 left;rw [decide_eq_false h,Bool.not_false,cond_true];rw [Int.tmod_eq_emod_of_nonneg h1] at h
 have hw:IntKind.wrap .i64 (t+1)=t+1:=CE iR
 rw [hw];unfold nb at h2 h3 ⊢;exact ⟨_,rfl,⟨by omega,by omega,by omega⟩,by omega⟩
def LE (b:Int):Int:=if 3≤b then b+1 else 3
def IY (me b:Int):Int:=nb me (LE b)
def JS (x:AD) (b:Int):AD:=(x.1,b,x.2.2)
def RA (id:AU) (b:Int):Bb:=(id,b,3,0,([]:List AU),([]:List Int),false)
def Xu (id:AU) (b:Int):Au:=(6,0,0,id,b,Ih,0,([]:List AU),0,(-1),false)
noncomputable def Xv (d:At) (id:AU):Bool:=!Ed id||(decide ((atI d.2.2.1 id).2.2.2.1=3)||(decide (600 < IY d.1 (atI d.2.2.1 id).2.1)||((decide (d.2.2.2.length=8)&&(d.2.2.2.find? fun y=>BT y.1 id).isNone)||(decide (id.1=d.1)&&decide (d.2.1≤id.2)))))
noncomputable def bY (d:At) (id:AU):At×(List Au)×Bool:=if Xv d id then (d,[],false) else
 ((d.1,d.2.1,EH d.2.2.1 (JS (atI d.2.2.1 id) (IY d.1 (atI d.2.2.1 id).2.1)),DR d.2.2.2 (RA id (IY d.1 (atI d.2.2.1 id).2.1))),GR d.1 (Xu id (IY d.1 (atI d.2.2.1 id).2.1)),true)
noncomputable def Sw (d:At) (id:AU):At×(List Au)×Bool:=if Ft d then bY d id else (Ta,[],false)
theorem Mz:DN Ih=true:=by
 decide
theorem Yw {is:List AD} (h:Dk is=true) (id:AU):-1≤(atI is id).2.1∧(atI is id).2.1≤600:=by
 rcases Nj is id with q | q
 ·exact (CY.1 ((Em h).1 _ q)).bal
 rw [q];exact ⟨by show (-1:Int)≤-1;omega,by show (-1:Int)≤600;omega⟩
theorem Qu {is:List AD} (h:Dk is=true) {id:AU} (hi:Ed id=true) {b:Int} (hb:(atI is id).2.1≤b) (h0:0≤b) (h6:b≤600):Da (JS (atI is id) b)=true:=by
 rcases Nj is id with q | q
 ·have hx:=CY.1 ((Em h).1 _ q)
  exact CY.2 ⟨hx.id,⟨by show -1≤b;omega,h6⟩,⟨hx.vbal.1,by have:=hx.vbal.2;show (atI is id).2.2.1≤b;omega⟩,hx.st,hx.cmd,hx.seq,hx.deps,hx.self,hx.none⟩
 rw [q];exact CY.2 ⟨hi,⟨by show -1≤b;omega,h6⟩,⟨by show (-1:Int)≤-1;omega,by show -1≤b;omega⟩,⟨by show (0:Int)≤0;omega,by show (0:Int)≤3;omega⟩,Mz,⟨by show (0:Int)≤0;omega,by show (0:Int)≤60;omega⟩,rfl,rfl,fun _=>⟨rfl,rfl,rfl,rfl,rfl⟩⟩
theorem VJ (me b:Int):b≤IY me b∧3≤IY me b:=by
 unfold IY nb LE
 split<;>omega
theorem UO {d:At} (hd:NodeS d) (x:AD) (hx:Gc x) (l:Bb) (hl:Mw l):IA (d.1,d.2.1,EH d.2.2.1 x,DR d.2.2.2 l):=by
 have h1:=Dh hd.is
 have h2:=hd.ls
 refine ⟨?_,Ws hd.sm hx,?_,fun y hy=>?_⟩
 ·have:=Yu d.2.2.1 x
  show (EH _ _).length≤_;omega
 ·have:=Wu d.2.2.2 l
  show (DR _ _).length≤_;omega
 rcases Lg hy with q | q
 ·exact hd.lsm y q
 subst q;exact hl
theorem Ti {d:At} (id:AU) (ho:Ok.ok d) (hn:IA d):Iv d id=some (Sw d id):=by
 unfold Iv Sw;rw [show Gk _=_ from JN (d:=d) ho,ob]
 cases hk:Ft d with
 | false=>rfl
 | true =>
  have hf:=nodeF hk
  have hs:=nodeF.s hf ho hn
  have hll:=hf.ll
  have hln:=Dh hf.is
  rw [Bool.not_true,cond_false,if_pos rfl,show EN _=some d from FG hn,ob,show Kj _=_ from Nh id,ob];unfold bY Xv
  cases hi:Ed id with
  | false=>rfl
  | true =>
   rw [Bool.not_true,cond_false,Bool.false_or,show FM d.2.2.1 id=_ from Hp om hs.sm id,ob]
   have hb:=Yw hf.is id
   have hok:=fun b=>Qu hf.is hi (b:=b)
   have hsx:=FU hs.sm id
   generalize atI d.2.2.1 id=x at hb hok hsx
   have hS:0≤LE x.2.1∧LE x.2.1≤1000:=by unfold LE;split<;>omega
   have hw:3≤x.2.1→IntKind.wrap .i64 (x.2.1+1)=x.2.1+1:=fun _=>CE iR
   rw [show (cond (decide (3≤x.2.1)) (some (.inl (IntKind.wrap .i64 (x.2.1+1)))) (some (.inl (3))):Option (Int ⊕ (At×List Au×Bool)))=some (.inl (LE x.2.1)) by
    unfold LE
    by_cases h3:3≤x.2.1
    ·rw [decide_eq_true h3,cond_true,if_pos h3,hw h3]
    ·rw [decide_eq_false h3,cond_false,if_neg h3]]
   refine Yv hf.me hS ?_;rw [show nb d.1 (LE x.2.1)=IY d.1 x.2.1 from rfl]
   have hge:=VJ d.1 x.2.1
   generalize IY d.1 x.2.1=b at hge
   cases q3:decide (x.2.2.2.1=3) with
   | true=>rfl
   | false =>
    cases q6:decide (600 < b) with
    | true=>rfl
    | false =>
     have h6:b≤600:=by have:=of_decide_eq_false q6;omega
     rw [Bool.or_false,Bool.not_false,Dn,show HF _ _=_ from JM (d:=d) (x:=id) om,ob,Bool.false_or,Bool.false_or,Bool.false_or]
     have h8:decide (8≤(d.2.2.2.length:Int))=decide (d.2.2.2.length=8):=by rw [Bool.eq_iff_iff];simp only [decide_eq_true_eq];omega
     have hat:decide (DE (fun y:Bb=>BT y.1 id) d.2.2.2 < 0)=(d.2.2.2.find? fun y=>BT y.1 id).isNone:=by
      rcases FJ (fun y:Bb=>BT y.1 id) d.2.2.2 with ⟨h1,h2⟩ | ⟨k,l,h1,h2,h3⟩
      ·rw [h1,h2];rfl
      ·rw [h1,h3];exact decide_eq_false om
     rw [h8,hat,Bool.and_comm];generalize ((decide (d.2.2.2.length=8)&&(d.2.2.2.find? fun y=>BT y.1 id).isNone)||(decide (id.1=d.1)&&decide (d.2.1≤id.2)))=c
     cases c with
     | true=>rfl
     | false =>
      rw [cond_false,if_neg Bool.false_ne_true];refine AN (Hi hf.is (JS x b)) ?_;refine AN (LC (d:=(d.1,d.2.1,EH d.2.2.1 (JS x b),d.2.2.2)) (by show d.2.2.2.length≤_;omega) (RA id b)) ?_;refine AN (FG (d:=(d.1,d.2.1,EH d.2.2.1 (JS x b),DR d.2.2.2 (RA id b))) (UO hs (JS x b) hsx (RA id b) ⟨Nat.zero_le _,Nat.zero_le _⟩)) ?_;exact AN (Tv (d.1,d.2.1,EH d.2.2.1 (JS x b),DR d.2.2.2 (RA id b)) (m:=(6,0,0,id,b,Ih,0,([]:List AU),0,0,false)) ⟨Nat.zero_le _,Nat.zero_le _⟩) rfl
theorem Tj {d:At} (id:AU) (ho:Ok.ok d) (hn:IA d):Hv d id=some (Sw d id):=by
 unfold Hv Sw;rw [show Gl _=_ from JO (d:=d) ho,ob]
 cases hk:Ft d with
 | false=>rfl
 | true =>
  have hf:=nodeF hk
  have hs:=nodeF.s hf ho hn
  have hll:=hf.ll
  have hln:=Dh hf.is
  rw [Bool.not_true,cond_false,if_pos rfl,show Ef _=some d from Fu hn,ob,show Ga d.2.2.1 id=_ from Hq om hs.sm id,ob];unfold bY Xv
  have hb:=Yw hf.is id
  have hok:=fun hi b=>Qu hf.is (id:=id) hi (b:=b)
  have hsx:=FU hs.sm id
  have hor:=Nj d.2.2.1 id
  generalize atI d.2.2.1 id=x at hb hok hsx hor
  have hS:0≤LE x.2.1∧LE x.2.1≤1000:=by unfold LE;split<;>omega
  rw [show IntKind.wrap .i64 ((if 2 > x.2.1 then 2 else x.2.1)+1)=LE x.2.1 by
   unfold LE
   split<;>split<;>rw [CE iR]<;>omega]
  refine Yv hf.me hS ?_;rw [show nb d.1 (LE x.2.1)=IY d.1 x.2.1 from rfl]
  have hge:=VJ d.1 x.2.1
  generalize IY d.1 x.2.1=b at hge;rw [show EF _ _=_ from Ld (d:=d) (x:=id) om,ob,show Kl _=_ from Ni id,ob]
  cases hi:Ed id with
  | false=>rfl
  | true =>
   rw [Bool.not_true,Bool.false_or,Bool.false_or]
   cases q3:decide (x.2.2.2.1=3) with
   | true=>rfl
   | false =>
    rw [Bool.not_false,Dn,show FA _ _=some (decide (id.1=d.1)&&decide (d.2.1≤id.2)) from rfl,ob,Bool.false_or,Bool.false_or]
    have h8:decide ((d.2.2.2.length:Int)=8)=decide (d.2.2.2.length=8):=by rw [Bool.eq_iff_iff];simp only [decide_eq_true_eq];omega
    have hat:decide (DE (fun y:Bb=>BT y.1 id) d.2.2.2 < 0)=(d.2.2.2.find? fun y=>BT y.1 id).isNone:=by
     rcases FJ (fun y:Bb=>BT y.1 id) d.2.2.2 with ⟨h1,h2⟩ | ⟨k,l,h1,h2,h3⟩
     ·rw [h1,h2];rfl
     ·rw [h1,h3];exact decide_eq_false om
    rw [h8,hat,Bool.and_comm ((d.2.2.2.find? fun y=>BT y.1 id).isNone)]
    cases q6:decide (600 < b) with
    | true=>cases (decide (id.1=d.1)&&decide (d.2.1≤id.2))<;>rfl
    | false =>
     have h6:b≤600:=by have:=of_decide_eq_false q6;omega
     rw [Bool.or_false,Bool.false_or,Bool.or_comm];generalize ((decide (d.2.2.2.length=8)&&(d.2.2.2.find? fun y=>BT y.1 id).isNone)||(decide (id.1=d.1)&&decide (d.2.1≤id.2)))=c
     cases c with
     | true=>rfl
     | false =>
      have hii:=JQ hi
      have hox:Ok.ok (JS x b):=by
       rcases hor with q | q
       ·have:=hs.ok.2.2.1.2 _ q
        exact ⟨this.1,by show inR b;unfold inR;omega,this.2.2.1,this.2.2.2.1,this.2.2.2.2.1,this.2.2.2.2.2.1,this.2.2.2.2.2.2.1,trivial⟩
       ·rw [q]
        have z0:inR 0:=by unfold inR;omega
        have z1:inR (-1):=by unfold inR;omega
        exact ⟨⟨by show inR id.1;unfold inR;omega,by show inR id.2;unfold inR;omega⟩,by show inR b;unfold inR;omega,z1,z0,⟨z0,z0,z0,Nat.zero_le _,Nat.zero_le _,Nat.zero_le _,z0,Nat.zero_le _,fun x hx=>by cases hx⟩,z0,⟨Nat.zero_le _,fun x hx=>by cases hx⟩,trivial⟩
      have hp:=Ie (d:=d) (x:=JS x b) hs.ok.2.2.1 hox hs.is hs.sm hsx
      rw [hok hi b om om h6,if_pos rfl] at hp;rw [cond_false,if_neg Bool.false_ne_true];refine AN hp ?_;dsimp only
      have hM:Qt (Xu id b):=⟨Nat.zero_le _,Nat.zero_le _⟩
      unfold DR
      cases hff:d.2.2.2.findIdx? fun y=>BT y.1 (RA id b).1 with
      | none =>
       rw [show DE (fun y:Bb=>BT y.1 id) d.2.2.2=-1 from PL hff,show decide ((0:Int)≤-1)=false from rfl,cond_false,Cp (by simp;omega),ob];exact AN (Lf _ (m:=Xu id b) hM rfl) rfl
      | some k =>
       obtain ⟨h1,_⟩:=List.findIdx?_eq_some_iff_getElem.1 hff;rw [show DE (fun y:Bb=>BT y.1 id) d.2.2.2=(k:Int) from ML hff,show decide ((0:Int)≤(k:Int))=true from decide_eq_true om,cond_true,BV,List.getElem?_eq_getElem h1,ob,ob,Int.toNat_natCast];exact AN (Lf _ (m:=Xu id b) hM rfl) rfl
noncomputable def NR (x:AU) (c:CH) (y:AD):Bool:=(!BT y.1 x&&!decide (y.2.2.2.1=0))&&Jb c y.2.2.2.2.1
noncomputable def LF (x:AU) (c:CH) (t:Int×List AU) (y:AD):Int×List AU:=if NR x c y then (if t.1 < y.2.2.2.2.2.1+1 then y.2.2.2.2.2.1+1 else t.1,t.2++[y.1]) else t
noncomputable def CR (l:List AD) (x:AU) (c:CH):Int×List AU:=l.foldl (LF x c) (1,[])
theorem VK {x:AU} {c:CH} {t:Int×List AU} {y:AD} (hy:InstF y) (ht:1≤t.1∧t.1≤61):1≤(LF x c t y).1∧(LF x c t y).1≤61:=by
 have:=hy.seq
 unfold LF
 split
 ·dsimp only;split<;>omega
 exact ht
theorem Yx (x:AU) (c:CH) (t:Int×List AU) (y:AD):(LF x c t y).2.length≤t.2.length+1:=by
 unfold LF
 split
 ·simp
 omega
theorem OP {l:List AD} {c:CH} (h:Dk l=true) (ho:Ok.ok l) (hc:Ok.ok c) (x:AU):JH l x c=some (CR l x c):=by
 have hl:=Dh h
 unfold JH CR;rw [ob,IJ (l:=l) (fun k (t:Int×List AU)=>(t.1,t.2,(k:Int))) (fun t y=>.inl (LF x c t y)) (fun t=>some t) (fun k t=>t.2.length≤k∧1≤t.1∧t.1≤61) (1,[]) (s0:=(1,[],0)) rfl ⟨Nat.le_refl _,by omega,by omega⟩,QY]
 ·intro k t y hy ⟨ht1,ht2⟩
  have hm:=List.mem_of_getElem? hy
  have hlt:=(List.getElem?_eq_some_iff.1 hy).1
  have hyf:=CY.1 ((Em h).1 y hm)
  have hyo:=ho.2 y hm
  have:=Yx x c t y
  refine .inl ⟨_,rfl,?_,by omega,VK hyf ht2⟩
  have hs:=hyf.seq
  have w1:IntKind.wrap .i64 (y.2.2.2.2.2.1+1)=y.2.2.2.2.2.1+1:=CE iR
  simp only [En hlt,cond_true,BV,hy,ob,Dc (show k < 9223372036854775807 by omega)];rw [show (decide (y.1.1=x.1)&&(decide (y.1.2=x.2)&&true))=BT y.1 x from rfl];unfold LF NR
  cases BT y.1 x with
  | true=>rfl
  | false =>
   simp only [Bool.not_false,Dn,ob,Bool.false_or,Bool.true_and]
   cases decide (y.2.2.2.1=0) with
   | true=>rfl
   | false =>
    simp only [Bool.not_false,Dn,ob,Bool.false_or,Bool.true_and];rw [show Of _ _=some (Jb c y.2.2.2.2.1) from bU hc hyo.2.2.2.2.1,ob]
    cases Jb c y.2.2.2.2.1 with
    | false=>rfl
    | true =>
     rw [Bool.not_true,cond_false,Cp (by simp;omega),ob,if_pos rfl,w1]
     by_cases hq:t.1 < y.2.2.2.2.2.1+1
     ·rw [decide_eq_true hq,cond_true,if_pos hq]
     ·rw [decide_eq_false hq,cond_false,if_neg hq]
 intro t ht;simp only [Eo];rfl
theorem OQ {l:List AD} {c:CH} (h:Dk l=true) (ho:Ok.ok l) (hc:Ok.ok c) (x:AU):JK l x c=some (CR l x c):=by
 have hl:=Dh h
 unfold JK CR;rw [LB ho,h,ob,Bool.not_true,cond_false,ob,IJ (l:=l) (fun k (t:Int×List AU)=>(t.1 - 1,t.2,(k:Int))) (fun t y=>.inl (LF x c t y)) (fun t=>some t) (fun k t=>t.2.length≤k∧1≤t.1∧t.1≤61) (1,[]) (s0:=(0,[],0)) rfl ⟨Nat.le_refl _,by omega,by omega⟩,QY]
 ·intro k t y hy ⟨ht1,ht2⟩
  have hm:=List.mem_of_getElem? hy
  have hlt:=(List.getElem?_eq_some_iff.1 hy).1
  have hyf:=CY.1 ((Em h).1 y hm)
  have hyo:=ho.2 y hm
  have:=Yx x c t y
  refine .inl ⟨_,rfl,?_,by omega,VK hyf ht2⟩
  have hs:=hyf.seq
  simp only [En hlt,cond_true,BV,hy,ob,Dc (show k < 9223372036854775807 by omega)];rw [show (decide (y.1.1=x.1)&&(decide (y.1.2=x.2)&&true))=BT y.1 x from rfl];unfold LF NR
  cases BT y.1 x with
  | true=>rfl
  | false =>
   cases decide (y.2.2.2.1=0) with
   | true=>rfl
   | false =>
    simp only [Bool.not_false,Dn,ob,Bool.true_and];rw [show Og _ _=some (Jb y.2.2.2.2.1 c) from bV hyo.2.2.2.2.1 hc,ob,bT]
    cases Jb c y.2.2.2.2.1 with
    | false=>rfl
    | true =>
     rw [cond_true,Cp (by simp;omega),ob,if_pos rfl]
     by_cases hq:t.1 < y.2.2.2.2.2.1+1
     ·rw [if_pos (show y.2.2.2.2.2.1 > t.1 - 1 by omega),if_pos hq];dsimp only;rw [show y.2.2.2.2.2.1+1 - 1=y.2.2.2.2.2.1 by omega]
     ·rw [if_neg (show ¬ y.2.2.2.2.2.1 > t.1 - 1 by omega),if_neg hq]
 intro t ht;simp only [Eo];rw [cond_false,CE iR,show t.1 - 1+1=t.1 by omega]
theorem aD (x:AU) (c:CH):∀ (l:List AD) (t:Int×List AU),(l.foldl (LF x c) t).2=t.2++(l.filter (NR x c)).map (·.1)
 | [],t=>by simp
 | y::l,t=>by
  rw [List.foldl_cons,aD x c l,List.filter_cons];unfold LF
  cases NR x c y<;>simp
theorem aE {x:AU} {c:CH}:∀ {l:List AD} {t:Int×List AU},(∀ y,y∈l→InstF y)→1≤t.1∧t.1≤61→1≤(l.foldl (LF x c) t).1∧(l.foldl (LF x c) t).1≤61
 | [],_,_,ht=>ht
 | y::l,t,h,ht=>aE (l:=l) (fun z hz=>h z (List.mem_cons_of_mem _ hz)) (VK (h y (List.mem_cons_self ..)) ht)
theorem Yy {l:List AU} (h1:∀ x,x∈l→Ed x=true) (h2:Gr.Up Cy l):Dl l=true:=by
 unfold Dl;rw [List.all_eq_true];intro k hk;rw [List.mem_range] at hk
 have hx:l[k]?=some l[k]:=List.getElem?_eq_getElem hk
 unfold PN;rw [hx];simp only [Bool.and_eq_true,Bool.or_eq_true,decide_eq_true_eq];refine ⟨h1 _ (List.getElem_mem hk),?_⟩;rcases Nat.eq_zero_or_pos k with h0 | h0
 ·exact .inl h0
 right;rw [List.getElem?_eq_getElem (show k - 1 < l.length by omega)];exact List.pairwise_iff_getElem.1 h2 (k - 1) k om hk om
structure AttF (l:List AD) (x:AU) (c:CH):Prop where
 seq:1≤(CR l x c).1∧(CR l x c).1≤61
 deps:Dl (CR l x c).2=true
 self:((CR l x c).2.any fun y=>BT y x)=false
 mem:∀ y,y∈(CR l x c).2↔∃ z,z∈l∧z.1=y∧NR x c z=true
theorem FV {l:List AD} (h:Dk l=true) (x:AU) (c:CH):AttF l x c:=by
 obtain ⟨h1,h2⟩:=Em h
 have hm:(CR l x c).2=(l.filter (NR x c)).map (·.1):=by unfold CR;rw [aD];simp
 have hmem:∀ y,y∈(CR l x c).2↔∃ z,z∈l∧z.1=y∧NR x c z=true:=fun y=>by
  rw [hm,List.mem_map]
  constructor
  ·rintro ⟨z,hz,e⟩;exact ⟨z,(List.mem_filter.1 hz).1,e,(List.mem_filter.1 hz).2⟩
  ·rintro ⟨z,hz,e,hc⟩;exact ⟨z,List.mem_filter.2 ⟨hz,hc⟩,e⟩
 refine ⟨aE (fun y hy=>CY.1 (h1 y hy)) ⟨by show (1:Int)≤1;omega,by show (1:Int)≤61;omega⟩,Yy (fun y hy=>?_) ?_,?_,hmem⟩
 ·obtain ⟨z,hz,rfl,_⟩:=(hmem y).1 hy;exact (CY.1 (h1 z hz)).id
 ·rw [hm];exact List.pairwise_map.2 (h2.filter _)
 rw [List.any_eq_false];intro y hy;obtain ⟨z,hz,rfl,hcl⟩:=(hmem y).1 hy;unfold NR at hcl;simp only [Bool.and_eq_true,Bool.not_eq_true'] at hcl;rw [hcl.1.1];exact Bool.false_ne_true
noncomputable def Jm (d:At) (c:CH):AD:=((d.1,d.2.1),d.1,d.1,1,c,(CR d.2.2.1 (d.1,d.2.1) c).1,(CR d.2.2.1 (d.1,d.2.1) c).2,true)
noncomputable def Jn (d:At) (c:CH):Bb:=((d.1,d.2.1),d.1,1,(CR d.2.2.1 (d.1,d.2.1) c).1,(CR d.2.2.1 (d.1,d.2.1) c).2,([]:List Int),true)
noncomputable def fC (d:At) (c:CH):Au:=(1,0,0,(d.1,d.2.1),d.1,c,(CR d.2.2.1 (d.1,d.2.1) c).1,(CR d.2.2.1 (d.1,d.2.1) c).2,0,(-1),false)
noncomputable def LG (d:At) (c:CH):Bool:=(((!DN c||decide (c.1=0))||decide (6 < d.2.1))||decide (8≤d.2.2.2.length))||decide (60 < (CR d.2.2.1 (d.1,d.2.1) c).1)
noncomputable def bZ (d:At) (c:CH):At×(List Au)×Bool:=if LG d c then (d,[],false) else
 ((d.1,d.2.1+1,EH d.2.2.1 (Jm d c),d.2.2.2++[Jn d c]),GR d.1 (fC d c),true)
noncomputable def Sx (d:At) (c:CH):At×(List Au)×Bool:=if Ft d then bZ d c else (Ta,[],false)
theorem RB {d:At} (hf:NodeF d) {c:CH} (h:LG d c=false):Da (Jm d c)=true:=by
 unfold LG at h;simp only [Bool.or_eq_false_iff,Bool.not_eq_false',decide_eq_false_iff_not] at h;obtain ⟨⟨⟨⟨h1,h2⟩,h3⟩,h4⟩,h5⟩:=h
 have ha:=FV hf.is (d.1,d.2.1) c
 have hs:=ha.seq
 have hm:=hf.me
 have hx:=hf.nx
 refine CY.2 ⟨?_,⟨by show -1≤d.1;omega,by show d.1≤600;omega⟩,⟨by show -1≤d.1;omega,by show d.1≤d.1;omega⟩,⟨by show (0:Int)≤1;omega,by show (1:Int)≤3;omega⟩,h1,⟨by show 0≤(CR d.2.2.1 (d.1,d.2.1) c).1;omega,by show (CR d.2.2.1 (d.1,d.2.1) c).1≤60;omega⟩,ha.deps,ha.self,fun h0=>by cases h0⟩;show Ed (d.1,d.2.1)=true;unfold Ed;simp only [Bool.and_eq_true,decide_eq_true_eq];omega
theorem IF {c:CH} (h:DN c=true):c.2.2.2.2.2.2.2.length≤4:=by
 unfold DN at h
 by_cases h0:c.1=0
 ·rw [if_pos h0] at h
  have:c=Ih:=by
   exact of_decide_eq_true h
  rw [this];exact Nat.zero_le _
 rw [if_neg h0] at h;simp only [Bool.and_eq_true] at h
 have:=h.2
 by_cases h3:c.1=3
 ·rw [if_pos h3] at this;simp only [Bool.and_eq_true,decide_eq_true_eq] at this;omega
 rw [if_neg h3] at this
 have:=of_decide_eq_true this
 omega
theorem UP {d:At} {c:CH} (ho:Ok.ok d) (hn:IA d) (hc:Ok.ok c) (hno:(d.2.2.2.findIdx? fun y=>BT y.1 (d.1,d.2.1))=none):JJ d c=some (Sx d c):=by
 unfold JJ Sx;rw [show Gk _=_ from JN (d:=d) ho,ob]
 cases hk:Ft d with
 | false=>rfl
 | true =>
  have hf:=nodeF hk
  have hs:=nodeF.s hf ho hn
  have hll:=hf.ll
  have hln:=Dh hf.is
  have hnx:=hf.nx
  rw [Bool.not_true,cond_false,if_pos rfl,show EN _=some d from FG hn,ob];refine AN (OP (c:=c) hf.is ho.2.2.1 hc (d.1,d.2.1)) ?_;refine AN (LA hc) ?_
  have h8:decide (8≤(d.2.2.2.length:Int))=decide (8≤d.2.2.2.length):=by rw [Bool.eq_iff_iff];simp only [decide_eq_true_eq];omega
  rw [h8];unfold bZ
  have hoi:=RB (c:=c) hf
  have ha:=FV hf.is (d.1,d.2.1) c
  cases hno':LG d c with
  | true =>
   unfold LG at hno';rw [hno'];rfl
  | false =>
   have hno2:=hno'
   unfold LG at hno2;rw [hno2,cond_false,if_neg Bool.false_ne_true]
   have hco:DN c=true:=(CY.1 (hoi hno')).cmd
   have hcs:=IF hco
   have hdl:=Ex ha.deps
   refine AN (GD (c:=c) om) ?_;refine AN (Hi hf.is (Jm d c)) ?_;rw [ob,Cp (by simp;omega),ob,List.nil_append,CE iR]
   have hpl:DR d.2.2.2 (Jn d c)=d.2.2.2++[Jn d c]:=by unfold DR;rw [show (d.2.2.2.findIdx? fun y=>BT y.1 (Jn d c).1)=none from hno]
   refine AN (LC (d:=(d.1,d.2.1+1,EH d.2.2.1 (Jm d c),d.2.2.2)) (by show d.2.2.2.length≤_;omega) (Jn d c)) ?_
   have hsm:IA (d.1,d.2.1+1,EH d.2.2.1 (Jm d c),DR d.2.2.2 (Jn d c)):=UO hs (Jm d c) ⟨by show c.2.2.2.2.2.2.2.length≤_;omega,by show (CR _ _ _).2.length≤_;omega⟩ (Jn d c) ⟨by show (CR _ _ _).2.length≤_;omega,Nat.zero_le _⟩
   refine AN (FG hsm) ?_;refine AN (NQ _ (x:=Jm d c) ⟨by show c.2.2.2.2.2.2.2.length≤_;omega,by show (CR _ _ _).2.length≤_;omega⟩ 1 d.1) ?_;rw [hpl];rfl
theorem UQ {d:At} {c:CH} (ho:Ok.ok d) (hn:IA d) (hc:Ok.ok c):Iw d c=some (Sx d c):=by
 unfold Iw Sx;rw [show Gl _=_ from JO (d:=d) ho,ob]
 cases hk:Ft d with
 | false=>rfl
 | true =>
  have hf:=nodeF hk
  have hs:=nodeF.s hf ho hn
  have hll:=hf.ll
  have hln:=Dh hf.is
  have hnx:=hf.nx
  rw [Bool.not_true,cond_false,if_pos rfl,show Ef _=some d from Fu hn,ob];refine AN (OQ (c:=c) hf.is ho.2.2.1 hc (d.1,d.2.1)) ?_;refine AN (Lz hc) ?_
  have h8:decide ((d.2.2.2.length:Int)=8)=decide (8≤d.2.2.2.length):=by rw [Bool.eq_iff_iff];simp only [decide_eq_true_eq];omega
  rw [h8];unfold bZ
  have hoi:=RB (c:=c) hf
  have ha:=FV hf.is (d.1,d.2.1) c
  cases hno':LG d c with
  | true =>
   unfold LG at hno';rw [hno'];rfl
  | false =>
   have hno2:=hno'
   unfold LG at hno2;rw [hno2,cond_false,if_neg Bool.false_ne_true]
   have hco:DN c=true:=(CY.1 (hoi hno')).cmd
   have hcs:=IF hco
   have hdl:=Ex ha.deps
   have hsq:=ha.seq
   rw [CE iR]
   have hox:Ok.ok (Jm d c):=by
    refine ⟨⟨ho.1,ho.2.1⟩,ho.1,ho.1,by show inR 1;unfold inR;omega,hc,by show inR (CR _ _ _).1;unfold inR;omega,⟨by show (CR _ _ _).2.length≤_;omega,fun y hy=>?_⟩,trivial⟩
    have:=JQ ((EZ ha.deps).1 y hy)
    exact ⟨by show inR y.1;unfold inR;omega,by show inR y.2;unfold inR;omega⟩
   have hsx:Gc (Jm d c):=⟨by show c.2.2.2.2.2.2.2.length≤_;omega,by show (CR _ _ _).2.length≤_;omega⟩
   have hp:=Ie (d:=(d.1,d.2.1+1,d.2.2)) (x:=Jm d c) ho.2.2.1 hox hs.is hs.sm hsx
   rw [hoi hno',if_pos rfl] at hp;refine AN hp ?_;refine AN (GL om) ?_;refine AN (Cp (by simp;omega)) ?_;exact AN (Lf _ (m:=fC d c) hsx rfl) rfl
end Go.Proofs.SL
