/- The texts of the proof, part 12. -/
import Derived.Test.YthlbpedehajlgaaGreatT11
import Derived.Test.YthlbpedehajlgaaGreatT3
import Derived.Test.YthlbpedehajlgaaGreatT4
set_option linter.all false
namespace Go.Proofs.SL
open Go
theorem MM (x a b:Int):Ez x a b=some (decide (a≤x∧x≤b)):=by
 unfold Ez;rw [aG8]
theorem HQ (x a b:Int):Dl x a b=some (decide (a≤x∧x≤b)):=by
 unfold Dl;rw [aG8]
theorem Nm {α:Type} {p:α→Bool} {xs:List α} {k:Nat} (h:xs.findIdx? p=some k):Db p xs=(k:Int):=by unfold Db;rw [h]
theorem Qy {α:Type} {p:α→Bool} {xs:List α} (h:xs.findIdx? p=none):Db p xs=-1:=by unfold Db;rw [h]
theorem gbs {α β:Type} [Inhabited α] (g:Bool) (a:α) (k:α→Option β):gb g (some a) k=if g then k a else k default:=by cases g<;>rfl
theorem NH {δ:Type} {l:List δ} {k:Nat} (hk:k < l.length) (hl:l.length≤9223372036854775807) (h0:0 < k):∃ r,l[k - 1]?=some r∧idx l (IntKind.wrap .i64 ((k:Int) - 1))=some r:=by
 refine ⟨l[k - 1],aA1 om,?_⟩;rw [BT iR,show ((k:Int) - 1)=((k - 1:Nat):Int) by omega,By];exact aA1 om
theorem Ls {α β:Type} [Inhabited α] (g:Bool) (o:Option α) (k:α→Option β) (h:g=false):gb g o k=k default:=by subst h;rfl
theorem sI {s:ByteArray} {k:Nat} (h:k < s.size):∃ n,Jy s (k:Int)=some n∧0≤n∧n < 256:=by
 refine ⟨((s[k]'h).toNat:Int),?_,by omega,by have:=(s[k]'h).toNat_lt;omega⟩;unfold Jy;rw [dif_pos ⟨by omega,by simpa using h⟩];simp
theorem JO {β γ:Type} {l:List γ} {p:γ→Bool} {no yes:Option β} {f:Int→Option (Int ⊕ β)} (hl:l.length≤9223372036854775807)
  (hf:∀ (k:Nat) (x:γ),l[k]?=some x→f (k:Int)=if p x then some (.inl (IntKind.wrap .i64 ((k:Int)+1))) else no.map .inr) (hn:f (l.length:Int)=yes.map .inr) :
  Bn f 0=if l.all p then yes else no:=by
 rw [Gy (n:=l.length) (fun k=>(l[k]?).all p) no yes ?_ hn,Yh];intro k hk;rw [hf k l[k] (aA1 hk),aA1 hk,BX om];rfl
theorem IR {α:Type} {R:α→α→Prop} (tr:∀ a b c,R a b→R b c→R a c):∀ (l:List α),(∀ k (h:k+1 < l.length),R l[k] l[k+1])→l.Pairwise R
 | [],_=>List.Pairwise.nil
 | [a],_=>List.pairwise_singleton _ _
 | a::b::l,h=>by
  have ih:=IR tr (b::l) (fun k hk=>h (k+1) (by simp at hk ⊢;omega));refine aBt.2 ⟨fun x hx=>?_,ih⟩;have h0:R a b:=h 0 (by simp);rcases aAf.1 hx with rfl | hx
  ·exact h0
  ·exact tr _ _ _ h0 (List.rel_of_pairwise_cons ih hx)
theorem Px (x:Int):Jg x=some (decide (0≤x∧x < 3)):=by
 unfold Jg;rw [HQ,show decide (0≤x∧x≤2)=decide (0≤x∧x < 3) by rw [aBn];simp;omega];rfl
theorem Qh (x:Int):HV x=some (decide (0≤x∧x < 3)):=by unfold HV;rw [aG8]
def Rx (ns:List Int) (k:Nat):Bool:=match ns[k]? with
 | none=>false
 | some n=>decide (0≤n∧n < 3)&&(decide (k=0)||(ns[k - 1]?).all fun r=>decide (r < n))
def Ho (ns:List Int):Bool:=(List.range ns.length).all (Rx ns)
theorem Sq {α:Type} (p:α→Bool) (l:List α):decide (0≤Db p l)=l.any p:=by
 rcases cI p l with ⟨h1,h2⟩ | ⟨k,x,h1,h2,h3,_⟩
 ·rw [h1]
  cases h:l.any p with
  | false=>rfl
  | true =>
   obtain ⟨x,hx,hp⟩:=aBs.1 h;exact absurd hp (aCs.1 h2 x hx)
 rw [h1,show decide (0≤(k:Int))=true by simp]
 symm
 exact aBs.2 ⟨x,aAj h2,aC9 h3⟩
theorem KP {β:Type} (p:β→Bool):∀ (xs acc:List β),xs.foldl (fun t x=>if p x then t++[x] else t) acc=acc++xs.filter p
 | [],acc=>by simp
 | x::xs,acc=>by
  rw [aCq];cases hp:p x with
  | true=>simp only [if_true];rw [KP p xs];simp [hp]
  | false=>simp only [aBr,if_false];rw [KP p xs];simp [hp]
theorem IZ {ns:List Int} (h:Ho ns=true):(∀ n,n∈ns→0≤n∧n < 3)∧ns.Pairwise (· < ·):=by
 unfold Ho at h;simp only [aAw,aAv] at h;have h1:∀ n,n∈ns→0≤n∧n < 3:=fun n hn=>by
  obtain ⟨k,hk⟩:=aBe hn;have:=h k (aA2.1 hk).1;unfold Rx at this;rw [hk] at this;simp only [aAg,aAd] at this;exact this.1
 refine ⟨h1,IR (R:=(· < ·)) (fun a b c=>Int.lt_trans) ns fun k hk=>?_⟩;have:=h (k+1) hk;unfold Rx at this;rw [aA1 hk] at this;simp only [aAg,aAd,aBg,aEv,aA1 (show k < ns.length by omega),aDf] at this;rcases this.2 with h2 | h2
 ·omega
 exact h2
theorem XW:∀ {l:List Int} {a b:Int},l.Pairwise (· < ·)→(∀ n,n∈l→a≤n∧n < b)→(l.length:Int)≤max 0 (b - a)
 | [],a,b,_,_=>by simp;omega
 | x::l,a,b,h1,h2=>by
  obtain ⟨h3,h4⟩:=aBt.1 h1;have hx:=h2 x (aA9 ..);have:=XW (a:=x+1) (b:=b) h4 (fun n hn=>⟨by have:=h3 n hn;omega,(h2 n (aA4 _ hn)).2⟩);simp only [aB5];omega
theorem ZX {l:List Int} (h1:∀ n,n∈l→0≤n∧n < 3) (h2:l.Pairwise (· < ·)):l.length≤3:=by
 have:=XW h2 h1;omega
def Ry (s:ByteArray) (k:Nat):Bool:=match Jy s (k:Int) with
 | some n=>!(decide (n < 97)||decide (122 < n))
 | none=>false
def OU (s:ByteArray):Bool:=decide (1≤(s.size:Int)∧(s.size:Int)≤8)&&(List.range s.size).all (Ry s)
theorem XX {β:Type} {s:ByteArray} {no yes:Option β} {f:Int→Option (Int ⊕ β)} (hl:s.size≤9223372036854775807)
  (hf:∀ (k:Nat) (n:Int),k < s.size→Jy s (k:Int)=some n→f (k:Int)=if !(decide (n < 97)||decide (122 < n)) then some (.inl (IntKind.wrap .i64 ((k:Int)+1))) else no.map .inr) (hn:f (s.size:Int)=yes.map .inr) :
  Bn f 0=if (List.range s.size).all (Ry s) then yes else no:=by
 refine Gy (Ry s) no yes (fun k hk=>?_) hn;obtain ⟨n,hs,_,_⟩:=sI hk;rw [hf k n hk hs,BX om];unfold Ry;rw [hs]
theorem cO {s:ByteArray} (hl:s.size≤9223372036854775807):Pf s=some (OU s):=by
 unfold Pf OU;rw [MM]
 cases h:decide (1≤(s.size:Int)∧(s.size:Int)≤8) with
 | false=>rfl
 | true =>
  simp only [ob,aAe,aA3,aBc];rw [XX (no:=some false) (yes:=some true) hl]
  ·cases (List.range s.size).all (Ry s)<;>rfl
  ·intro k n hk hs;simp only [Dr hk,aA8,hs,ob];rw [show ∀ (g:Bool) (q:Int→Option (Int ⊕ Bool)),gb g (some n) q=if g then q n else q default from fun g q=>by cases g<;>rfl]
   cases decide (n < 97)<;>cases decide (122 < n)<;>rfl
  ·simp only [Ds];rfl
theorem cP {s:ByteArray} (hl:s.size≤9223372036854775807):Ph s=some (OU s):=by
 unfold Ph OU;simp only [HQ,ob];rw [XX (no:=some false) (yes:=some (decide (1≤(s.size:Int)∧(s.size:Int)≤8))) hl]
 ·cases (List.range s.size).all (Ry s)<;>simp
 ·intro k n hk hs;simp only [Dr hk,aA8,hs,ob];rw [show ∀ (g:Bool) (q:Int→Option (Int ⊕ Bool)),gb g (some n) q=if g then q n else q default from fun g q=>by cases g<;>rfl]
  cases decide (n < 97)<;>cases decide (122 < n)<;>rfl
 simp only [Ds];rfl
def Gq (s:ByteArray) (is:Bool):Bool:=if is then OU s else decide (s=aA0)
theorem Sr {s:ByteArray} {b:Bool} (hl:s.size≤9223372036854775807):Mn s b=some (Gq s b):=by
 unfold Mn Gq;rw [cO hl]
 cases b<;>rfl
theorem Qz {s:ByteArray} {b:Bool} (hl:s.size≤9223372036854775807):KW s b=some (Gq s b):=by
 unfold KW Gq;rw [cP hl]
 cases b<;>rfl
def OD (l:List ByteArray):Bool:=l.all fun c=>decide ((c.size:Int)=8)
theorem Xu {l:List ByteArray} (hl:l.length≤9223372036854775807):Kr l=some (OD l):=by
 unfold Kr OD;rw [JO (p:=fun c=>decide ((c.size:Int)=8)) (no:=some false) (yes:=some true) hl]
 ·cases l.all _<;>rfl
 ·intro k x hx;simp only [Dr (aA2.1 hx).1,aA8,By,hx,ob]
  cases decide ((x.size:Int)=8)<;>rfl
 simp only [Ds];rfl
theorem ZY {a b:List ByteArray} (hl:a.length≤9223372036854775807):Nv a b=some (decide (a=b)):=by
 unfold Nv;by_cases h:a.length=b.length
 ·rw [show decide ((a.length:Int)=(b.length:Int))=true by simp;omega];simp only [aAe,aA3];rw [Gy (n:=a.length) (fun k=>decide (a[k]?=b[k]?)) (some false) (some true)]
  ·by_cases e:a=b
   ·subst e;simp
   rw [aA5 e];have:(List.range a.length).all (fun k=>decide (a[k]?=b[k]?))=false:=by
    rw [aCe];intro hh;refine e (aDq fun i=>?_);by_cases hi:i < a.length
    ·simpa using aAw.1 hh i (aAv.2 hi)
    ·rw [aCd om,aCd om]
   rw [this];rfl
  ·intro k hk;have h1:a[k]?=some a[k]:=aA1 hk;have h2:b[k]?=some (b[k]'om):=aA1 om;simp only [Dr hk,aA8,By,h1,h2,ob,BX (show k < 9223372036854775807 by omega),Option.some.injEq]
   cases decide (a[k]=b[k]'om)<;>rfl
  simp only [Ds];rfl
 rw [show decide ((a.length:Int)=(b.length:Int))=false by simp;omega,aA5 (fun e=>h (by rw [e]))];rfl
theorem Py {a b:BN} (ho:Ok.ok a):Ll a b=some (pB (a=b)):=by
 obtain ⟨a1,a2,a3,a4,a5,a6,a7,a8⟩:=a;obtain ⟨b1,b2,b3,b4,b5,b6,b7,b8⟩:=b;have hl:a8.length≤9223372036854775807:=ho.2.2.2.2.2.2.2.1;unfold Ll;rw [ZY hl,QW (fun h=>by rw [h];simp)];congr 1;rw [aBn,jK];simp [and_assoc]
theorem TC {a b:BN} (ho:Ok.ok a):Nw a b=some (pB (a=b)):=Py ho
def ER:BN:=(0,0,0,aA0,aA0,aA0,0,[])
instance Ac5:DecidableEq (Int×List ByteArray):=fun a b=>aBl a b
instance Ac6:DecidableEq (ByteArray×Int×List ByteArray):=fun a b=>aBl a b
instance Ac7:DecidableEq (ByteArray×ByteArray×Int×List ByteArray):=fun a b=>aBl a b
instance Ac8:DecidableEq (ByteArray×ByteArray×ByteArray×Int×List ByteArray):=fun a b=>aBl a b
instance Ac9:DecidableEq (Int×ByteArray×ByteArray×ByteArray×Int×List ByteArray):=fun a b=>aBl a b
instance Aca:DecidableEq (Int×Int×ByteArray×ByteArray×ByteArray×Int×List ByteArray):=fun a b=>aBl a b
instance Acb:DecidableEq (Int×Int×Int×ByteArray×ByteArray×ByteArray×Int×List ByteArray):=fun a b=>aBl a b
theorem ZZ (p:Prop) [Decidable p]:pB p=decide p:=by
 rw [aBn,jK,decide_eq_true_iff]
def DK (c:BN):Bool :=
 if c.1=0 then decide (c=ER) else
  decide (1≤c.1∧c.1≤7)&&decide (1≤c.2.1∧c.2.1≤9)&&decide (1≤c.2.2.1∧c.2.2.1≤1000)&&Gq c.2.2.2.1 (!decide (c.1=7))&&Gq c.2.2.2.2.1 (decide (c.1=3)||decide (c.1=4))&&Gq c.2.2.2.2.2.1 (decide (c.1=4)) &&
  (decide (c.2.2.2.2.2.2.1=0)||(decide (c.1=5)&&decide (0≤c.2.2.2.2.2.2.1∧c.2.2.2.2.2.2.1≤9)))&&(if c.1=3 then decide (1≤(c.2.2.2.2.2.2.2.length:Int)∧(c.2.2.2.2.2.2.2.length:Int)≤4)&&OD c.2.2.2.2.2.2.2 else decide ((c.2.2.2.2.2.2.2.length:Int)=0))
set_option maxHeartbeats 1000000 in
theorem LQ {c:BN} (ho:Ok.ok c):Ii c=some (DK c):=by
 have hl:c.2.2.2.2.2.2.2.length≤9223372036854775807:=ho.2.2.2.2.2.2.2.1;have h4:c.2.2.2.1.size≤9223372036854775807:=ho.2.2.2.1;have h5:c.2.2.2.2.1.size≤9223372036854775807:=ho.2.2.2.2.1;have h6:c.2.2.2.2.2.1.size≤9223372036854775807:=ho.2.2.2.2.2.1;unfold Ii DK;simp only [TC ho,HQ,Qz h4,Qz h5,Qz h6,Xu hl,ob,gbs];by_cases h0:c.1=0
 ·rw [if_pos h0,show decide (c=ER)=pB (c=ER) from (ZZ _).symm,aA6 h0];rfl
 rw [if_neg h0,aA5 h0];generalize Gq c.2.2.2.1 _=W1;generalize Gq c.2.2.2.2.1 _=W2;generalize Gq c.2.2.2.2.2.1 _=W3;generalize OD c.2.2.2.2.2.2.2=W4;by_cases h5:c.1=5
 ·simp only [h5]
  cases decide (1≤c.2.1∧c.2.1≤9)<;>cases decide (1≤c.2.2.1∧c.2.2.1≤1000)<;>cases W1<;>cases W2<;>cases W3<;>cases decide (c.2.2.2.2.2.2.1=0)<;>cases decide (0≤c.2.2.2.2.2.2.1∧c.2.2.2.2.2.2.1≤9)<;>simp
 by_cases h3:c.1=3
 ·simp only [h3]
  cases decide (1≤c.2.1∧c.2.1≤9)<;>cases decide (1≤c.2.2.1∧c.2.2.1≤1000)<;>cases W1<;>cases W2<;>cases W3<;>cases decide (c.2.2.2.2.2.2.1=0)<;>cases decide (1≤(c.2.2.2.2.2.2.2.length:Int)∧(c.2.2.2.2.2.2.2.length:Int)≤4)<;>simp
 rw [aA5 h5,aA5 h3,if_neg h3]
 cases decide (1≤c.1∧c.1≤7)<;>cases decide (1≤c.2.1∧c.2.1≤9)<;>cases decide (1≤c.2.2.1∧c.2.2.1≤1000)<;>cases W1<;>cases W2<;>cases W3<;>cases decide (c.2.2.2.2.2.2.1=0)<;>simp
set_option maxHeartbeats 1000000 in
theorem LR {c:BN} (ho:Ok.ok c):Ig c=some (DK c):=by
 have hl:c.2.2.2.2.2.2.2.length≤9223372036854775807:=ho.2.2.2.2.2.2.2.1;have h4:c.2.2.2.1.size≤9223372036854775807:=ho.2.2.2.1;have h5:c.2.2.2.2.1.size≤9223372036854775807:=ho.2.2.2.2.1;have h6:c.2.2.2.2.2.1.size≤9223372036854775807:=ho.2.2.2.2.2.1;unfold Ig DK;simp only [Py ho,MM,Sr h4,Sr h5,Sr h6,ob,gbs];rw [JO (p:=fun c=>decide ((c.size:Int)=8)) (no:=some false) (yes:=some true) hl]
 rotate_left
 ·intro k x hx;simp only [Dr (aA2.1 hx).1,aA8,By,hx,ob]
  cases decide ((x.size:Int)=8)<;>rfl
 ·simp only [Ds];rfl
 by_cases h0:c.1=0
 ·rw [if_pos h0,show decide (c=ER)=pB (c=ER) from (ZZ _).symm,aA6 h0,aA6 (show 0≤c.1∧c.1≤7 by omega)];rfl
 rw [if_neg h0,aA5 h0];have e7:decide (0≤c.1∧c.1≤7)=decide (1≤c.1∧c.1≤7):=by rw [aBn];simp;omega
 rw [e7];show _=some (_&&(if c.1=3 then _&&c.2.2.2.2.2.2.2.all (fun c=>decide ((c.size:Int)=8)) else _));generalize Gq c.2.2.2.1 _=W1;generalize Gq c.2.2.2.2.1 _=W2;generalize Gq c.2.2.2.2.2.1 _=W3;generalize c.2.2.2.2.2.2.2.all _=W4;by_cases h5:c.1=5
 ·simp only [h5]
  cases decide (1≤c.2.1∧c.2.1≤9)<;>cases decide (1≤c.2.2.1∧c.2.2.1≤1000)<;>cases W1<;>cases W2<;>cases W3<;>cases decide (c.2.2.2.2.2.2.1=0)<;>cases decide (0≤c.2.2.2.2.2.2.1∧c.2.2.2.2.2.2.1≤9)<;>simp
 by_cases h3:c.1=3
 ·simp only [h3]
  cases decide (1≤c.2.1∧c.2.1≤9)<;>cases decide (1≤c.2.2.1∧c.2.2.1≤1000)<;>cases W1<;>cases W2<;>cases W3<;>cases decide (c.2.2.2.2.2.2.1=0)<;>cases decide (1≤(c.2.2.2.2.2.2.2.length:Int)∧(c.2.2.2.2.2.2.2.length:Int)≤4)<;>cases W4<;>simp
 rw [aA5 h5,aA5 h3,if_neg h3]
 cases decide (1≤c.1∧c.1≤7)<;>cases decide (1≤c.2.1∧c.2.1≤9)<;>cases decide (1≤c.2.2.1∧c.2.2.1≤1000)<;>cases W1<;>cases W2<;>cases W3<;>cases decide (c.2.2.2.2.2.2.1=0)<;>simp
noncomputable section
def Dx (x:Am):Bool:=decide (0≤x.1∧x.1≤2)&&decide (1≤x.2∧x.2≤6)
theorem NL (x:Am):Kt x=some (Dx x):=by
 unfold Kt Dx;simp only [MM,ob,gbs]
 cases decide (0≤x.1∧x.1≤2)<;>cases decide (1≤x.2∧x.2≤6)<;>rfl
theorem NM (x:Am):Kv x=some (Dx x):=by
 unfold Kv Dx;simp only [HQ,ob,gbs]
 cases decide (0≤x.1∧x.1≤2)<;>cases decide (1≤x.2∧x.2≤6)<;>rfl
def BY (a b:Am):Bool:=decide (a.1 < b.1)||(decide (a.1=b.1)&&decide (a.2 < b.2))
theorem UJ (a b:Am):IG a b=some (BY a b):=rfl
theorem Ob (a b:Am):∃ c,Du a b=some c∧decide (0≤c)=!BY a b:=by
 unfold Du BY
 cases h:decide (a.1 < b.1)||(decide (a.1=b.1)&&decide (a.2 < b.2)) with
 | true=>exact ⟨-1,rfl,rfl⟩
 | false =>
  cases h2:decide (a.1=b.1)&&(decide (a.2=b.2)&&true) with
  | true=>exact ⟨0,rfl,rfl⟩
  | false=>exact ⟨1,rfl,rfl⟩
def Bx (a b:Am):Bool:=decide (a.1=b.1)&&(decide (a.2=b.2)&&true)
theorem TD (a b:Am):Bx a b=Bx b a:=by unfold Bx;rw [aBn];simp only [aAg,aAd,and_true];constructor<;>(rintro ⟨h1,h2⟩;exact ⟨h1.symm,h2.symm⟩)
def QF (l:List Am) (k:Nat):Bool:=match l[k]? with
 | none=>false
 | some x=>Dx x&&(decide (k=0)||(l[k - 1]?).all fun r=>BY r x)
def CO (l:List Am):Bool:=(List.range l.length).all (QF l)
theorem Ss {l:List Am} (hl:l.length≤9223372036854775807):Mo l=some (CO l):=by
 unfold Mo CO;rw [Gy (n:=l.length) (QF l) (some false) (some true)]
 ·cases (List.range l.length).all (QF l)<;>rfl
 ·intro k hk;have hx:l[k]?=some l[k]:=aA1 hk;generalize l[k]=x at hx;simp only [Dr hk,aA8,By,hx,ob,Prod.eta,NL,UJ,BX (show k < 9223372036854775807 by omega)];unfold QF;simp only [hx];rcases aD1 k with h0 | h0
  ·subst h0;rw [Ls _ _ _ (by simp)]
   cases Dx x<;>simp [gb]
  obtain ⟨r,hr1,hr2⟩:=NH hk hl h0;have h5:decide (0 < (k:Int))=true:=by simp;omega
  have h6:decide (k=0)=false:=by simp;omega
  rw [hr1,hr2,h5,h6,gbs];simp only [aDf];by_cases h7:BY r x=true<;>cases Dx x<;>simp [gb,h7]
 simp only [Ds];rfl
theorem OE {l:List Am} (hl:l.length≤9223372036854775807):Lm l=some (CO l):=by
 unfold Lm CO;rw [Gy (n:=l.length) (QF l) (some false) (some true)]
 ·cases (List.range l.length).all (QF l)<;>rfl
 ·intro k hk;have hx:l[k]?=some l[k]:=aA1 hk;generalize l[k]=x at hx;simp only [Dr hk,aA8,By,hx,ob,Prod.eta,NM,BX (show k < 9223372036854775807 by omega)];unfold QF;simp only [hx];rcases aD1 k with h0 | h0
  ·subst h0;rw [Ls _ _ _ (by simp),Ls _ _ _ (by simp)]
   cases Dx x<;>simp
  obtain ⟨r,hr1,hr2⟩:=NH hk hl h0;have h5:decide (0 < (k:Int))=true:=by simp;omega
  have h6:decide (k=0)=false:=by simp;omega
  obtain ⟨c,q1,q2⟩:=Ob r x;rw [hr1,hr2,h5,h6,gbs];simp only [aDf,q1];by_cases h7:BY r x=true<;>cases Dx x<;>simp [gb,h7,q2]
 simp only [Ds];rfl
theorem Su {l:List Am} {x:Am} (h:l.length≤9223372036854775807):Mp l x=some (l.any fun y=>Bx y x):=by
 unfold Mp;rw [Hi (fun y=>Bx y x) (fun i=>some (decide (0≤i))) h,Sq]
 ·intro k y hy;simp only [Dr (aA2.1 hy).1,aA8,By,hy,ob];show cond (Bx y x) _ _=_
  cases Bx y x<;>simp
 simp only [Ds];rfl
theorem Oc {l:List Am} {x:Am} (h:l.length≤9223372036854775807):Ci l x=some (l.any fun y=>Bx y x):=by
 unfold Ci DN;rw [Hi (fun y=>Bx y x) some h]
 ·rw [ob,Sq]
 ·intro k y hy;simp only [Dr (aA2.1 hy).1,aA8,By,hy,ob];show cond (Bx x y) _ _=_;rw [TD]
  cases Bx y x<;>rfl
 simp only [Ds];rfl
def CK (x:Ar):Bool:=Dx x.1&&decide (-1≤x.2.1∧x.2.1≤600)&&decide (-1≤x.2.2.1∧x.2.2.1≤x.2.1)&&decide (0≤x.2.2.2.1∧x.2.2.2.1≤3)&&DK x.2.2.2.2.1&&decide (0≤x.2.2.2.2.2.1∧x.2.2.2.2.2.1≤60)&&CO x.2.2.2.2.2.2.1&&!(x.2.2.2.2.2.2.1.any fun y=>Bx y x.1) &&
 ((!decide (x.2.2.2.1=0))||(((((decide (x.2.2.1=(-1)))&&(decide (x.2.2.2.2.1.1=0)))&&(decide (x.2.2.2.2.2.1=0)))&&(decide ((x.2.2.2.2.2.2.1.length:Int)=0)))&&(!x.2.2.2.2.2.2.2)))
theorem KJ {x:Ar} (ho:Ok.ok x):Gm x=some (CK x):=by
 have hc:Ok.ok x.2.2.2.2.1:=ho.2.2.2.2.1;have hd:x.2.2.2.2.2.2.1.length≤9223372036854775807:=ho.2.2.2.2.2.2.1.1;unfold Gm CK;simp only [Prod.eta,NL,MM,LR hc,Ss hd,Su hd,ob];generalize ((!decide (x.2.2.2.1=0))||(((((decide (x.2.2.1=(-1)))&&(decide (x.2.2.2.2.1.1=0)))&&(decide (x.2.2.2.2.2.1=0)))&&(decide ((x.2.2.2.2.2.2.1.length:Int)=0)))&&(!x.2.2.2.2.2.2.2)))=b9;generalize (x.2.2.2.2.2.2.1.any fun y=>Bx y x.1)=b8;generalize CO x.2.2.2.2.2.2.1=b7;generalize decide (0≤x.2.2.2.2.2.1∧x.2.2.2.2.2.1≤60)=b6;generalize DK x.2.2.2.2.1=b5;generalize decide (0≤x.2.2.2.1∧x.2.2.2.1≤3)=b4;generalize decide (-1≤x.2.2.1∧x.2.2.1≤x.2.1)=b3;generalize decide (-1≤x.2.1∧x.2.1≤600)=b2;generalize Dx x.1=b1;cases b1
 ·rfl
 cases b2
 ·rfl
 cases b3
 ·rfl
 cases b4
 ·rfl
 cases b5
 ·rfl
 cases b6
 ·rfl
 cases b7
 ·rfl
 cases b8<;>rfl
theorem UK {x:Ar} (ho:Ok.ok x):KX x=some (CK x):=by
 have hc:Ok.ok x.2.2.2.2.1:=ho.2.2.2.2.1;have hd:x.2.2.2.2.2.2.1.length≤9223372036854775807:=ho.2.2.2.2.2.2.1.1;unfold KX CK;simp only [Prod.eta,NM,HQ,LQ hc,OE hd,Oc hd,ob];generalize ((!decide (x.2.2.2.1=0))||(((((decide (x.2.2.1=(-1)))&&(decide (x.2.2.2.2.1.1=0)))&&(decide (x.2.2.2.2.2.1=0)))&&(decide ((x.2.2.2.2.2.2.1.length:Int)=0)))&&(!x.2.2.2.2.2.2.2)))=b9;generalize (x.2.2.2.2.2.2.1.any fun y=>Bx y x.1)=b8;generalize CO x.2.2.2.2.2.2.1=b7;generalize decide (0≤x.2.2.2.2.2.1∧x.2.2.2.2.2.1≤60)=b6;generalize DK x.2.2.2.2.1=b5;generalize decide (0≤x.2.2.2.1∧x.2.2.2.1≤3)=b4;generalize decide (-1≤x.2.2.1∧x.2.2.1≤x.2.1)=b3;generalize decide (-1≤x.2.1∧x.2.1≤600)=b2;generalize Dx x.1=b1;cases b1
 ·rfl
 cases b2
 ·rfl
 cases b3
 ·rfl
 cases b4
 ·rfl
 cases b5
 ·rfl
 cases b6
 ·rfl
 cases b7
 ·rfl
 cases b8<;>rfl
def KK (l:List Ar) (k:Nat):Bool:=match l[k]? with
 | none=>false
 | some x=>CK x&&(decide (k=0)||(l[k - 1]?).all fun r=>BY r.1 x.1)
def BF (l:List Ar):Bool:=(List.range l.length).all (KK l)
theorem aA {l:List Ar} (ho:Ok.ok l):Nx l=some (BF l):=by
 have hl:l.length≤9223372036854775807:=ho.1;unfold Nx BF;rw [Gy (n:=l.length) (KK l) (some false) (some true)]
 ·cases (List.range l.length).all (KK l)<;>rfl
 ·intro k hk;have hx:l[k]?=some l[k]:=aA1 hk;generalize l[k]=x at hx;have hox:Ok.ok x:=ho.2 x (aAj hx);simp only [Dr hk,aA8,By,hx,ob,Prod.eta,KJ hox,UJ,BX (show k < 9223372036854775807 by omega)];unfold KK;simp only [hx];rcases aD1 k with h0 | h0
  ·subst h0;rw [Ls _ _ _ (by simp)]
   cases CK x<;>simp [gb]
  obtain ⟨r,hr1,hr2⟩:=NH hk hl h0;have h5:decide (0 < (k:Int))=true:=by simp;omega
  have h6:decide (k=0)=false:=by simp;omega
  rw [hr1,hr2,h5,h6,gbs];simp only [aDf];by_cases h7:BY r.1 x.1=true<;>cases CK x<;>simp [gb,h7]
 simp only [Ds];rfl
theorem Hu {l:List Ar} (ho:Ok.ok l):FD l=some (BF l):=by
 have hl:l.length≤9223372036854775807:=ho.1;unfold FD BF;rw [Gy (n:=l.length) (KK l) (some false) (some true)]
 ·cases (List.range l.length).all (KK l)<;>rfl
 ·intro k hk;have hx:l[k]?=some l[k]:=aA1 hk;generalize l[k]=x at hx;have hox:Ok.ok x:=ho.2 x (aAj hx);simp only [Dr hk,aA8,By,hx,ob,Prod.eta,UK hox,BX (show k < 9223372036854775807 by omega)];unfold KK;simp only [hx];rcases aD1 k with h0 | h0
  ·subst h0;rw [Ls _ _ _ (by simp),Ls _ _ _ (by simp)]
   cases CK x<;>simp
  obtain ⟨r,hr1,hr2⟩:=NH hk hl h0;have h5:decide (0 < (k:Int))=true:=by simp;omega
  have h6:decide (k=0)=false:=by simp;omega
  obtain ⟨c,q1,q2⟩:=Ob r.1 x.1;rw [hr1,hr2,h5,h6,gbs];simp only [aDf,q1];by_cases h7:BY r.1 x.1=true<;>cases CK x<;>simp [gb,h7,q2]
 simp only [Ds];rfl
end
noncomputable section
def Ir (x:AM):Bool:=Dx x.1&&decide (0≤x.2.1∧x.2.1≤600)&&decide (1≤x.2.2.1∧x.2.2.1≤3)&&decide (0≤x.2.2.2.1∧x.2.2.2.1≤60)&&CO x.2.2.2.2.1&&!(x.2.2.2.2.1.any fun y=>Bx y x.1)&&Ho x.2.2.2.2.2.1
theorem Wg {α:Type} {l:List Int} {f:Int→Option (Int ⊕ α)} (no yes:Option α) (hl:l.length≤9223372036854775807)
  (hf:∀ (k:Nat) (y:Int),l[k]?=some y→f (k:Int)=gb ((!(!decide (0≤y∧y < 3)))&&(decide (0 < (k:Int)))) (idx l (IntKind.wrap .i64 ((k:Int) - 1))) (fun r=>cond ((!decide (0≤y∧y < 3))||((decide (0 < (k:Int)))&&(decide (y≤r)))) (no.map .inr) (some (.inl (IntKind.wrap .i64 ((k:Int)+1))))))
  (he:f (l.length:Int)=yes.map .inr):Bn f 0=if Ho l then yes else no:=by
 refine Gy (n:=l.length) (Rx l) no yes (fun k hk=>?_) he;have hy:l[k]?=some l[k]:=aA1 hk;generalize l[k]=y at hy;rw [hf k y hy];simp only [BX (show k < 9223372036854775807 by omega)];unfold Rx;simp only [hy];rcases aD1 k with h0 | h0
 ·subst h0;rw [Ls _ _ _ (by simp)]
  cases decide (0≤y∧y < 3)<;>simp
 ·obtain ⟨r,hr1,hr2⟩:=NH hk hl h0;have h5:decide (0 < (k:Int))=true:=by simp;omega
  have h6:decide (k=0)=false:=by simp;omega
  rw [hr1,hr2,h5,h6,gbs];simp only [aDf];by_cases h7:r < y
  ·have h8:decide (y≤r)=false:=by simp;omega
   cases decide (0≤y∧y < 3)<;>simp [h7,h8]
  ·have h8:decide (y≤r)=true:=by simp;omega
   cases decide (0≤y∧y < 3)<;>simp [h7,h8]
theorem cQ {x:AM} (ho:Ok.ok x):Mt x=some (Ir x):=by
 have hd:x.2.2.2.2.1.length≤9223372036854775807:=ho.2.2.2.2.1.1;have hf:x.2.2.2.2.2.1.length≤9223372036854775807:=ho.2.2.2.2.2.1.1;unfold Mt Ir;rw [Wg (l:=x.2.2.2.2.2.1) (some false) (some true) hf]
 ·simp only [Prod.eta,NL,MM,Ss hd,Su hd,ob];have h3:Ho x.2.2.2.2.2.1=true→decide (3 < (x.2.2.2.2.2.1.length:Int))=false:=fun h=>by
   obtain ⟨h1,h2⟩:=IZ h;have:=ZX h1 h2;simp;omega
  generalize decide (3 < (x.2.2.2.2.2.1.length:Int))=b8 at *;generalize Ho x.2.2.2.2.2.1=b7 at *;generalize (x.2.2.2.2.1.any fun y=>Bx y x.1)=b6;generalize CO x.2.2.2.2.1=b5;generalize decide (0≤x.2.2.2.1∧x.2.2.2.1≤60)=b4;generalize decide (1≤x.2.2.1∧x.2.2.1≤3)=b3;generalize decide (0≤x.2.1∧x.2.1≤600)=b2;generalize Dx x.1=b1;cases b1
  ·rfl
  cases b2
  ·rfl
  cases b3
  ·rfl
  cases b4
  ·rfl
  cases b5
  ·rfl
  cases b6
  ·cases b7
   ·cases b8<;>rfl
   rw [h3 rfl];rfl
  rfl
 ·intro k y hy;simp only [Dr (aA2.1 hy).1,aA8,By,hy,ob,Qh];congr 1;funext r
  cases h:((!(!decide (0≤y∧y < 3)))&&decide (0 < (k:Int))) with
  | true=>rfl
  | false =>
   simp only [gb];simp only [Bool.and_eq_false_imp,aEa] at h
   cases h1:decide (0≤y∧y < 3) with
   | false=>rfl
   | true=>rw [h h1];rfl
 simp only [Ds];rfl
theorem TE {l:List Am} {x:Am} (h:l.length≤9223372036854775807):Ln l x=some (CO l&&!(l.any fun y=>Bx y x)):=by
 unfold Ln;simp only [Prod.eta,OE h,Oc h,ob,gbs]
 cases CO l<;>rfl
theorem cR {x:AM} (ho:Ok.ok x):Mu x=some (Ir x):=by
 have hd:x.2.2.2.2.1.length≤9223372036854775807:=ho.2.2.2.2.1.1;have hf:x.2.2.2.2.2.1.length≤9223372036854775807:=ho.2.2.2.2.2.1.1;unfold Mu Ir;rw [Wg (l:=x.2.2.2.2.2.1) (some false) (some (Dx x.1&&decide (0≤x.2.1∧x.2.1≤600)&&decide (1≤x.2.2.1∧x.2.2.1≤3)&&decide (0≤x.2.2.2.1∧x.2.2.2.1≤60)&&(CO x.2.2.2.2.1&&!(x.2.2.2.2.1.any fun y=>Bx y x.1)))) hf]
 ·cases Ho x.2.2.2.2.2.1 with
  | true=>simp only [if_true,aGb,Bool.and_assoc]
  | false=>simp
 ·intro k y hy;simp only [Dr (aA2.1 hy).1,aA8,By,hy,ob,Px]
 simp only [Ds,aA3,Prod.eta,NM,HQ,TE hd,ob,gbs];generalize (CO x.2.2.2.2.1&&!(x.2.2.2.2.1.any fun y=>Bx y x.1))=b5;generalize decide (0≤x.2.2.2.1∧x.2.2.2.1≤60)=b4;generalize decide (1≤x.2.2.1∧x.2.2.1≤3)=b3;generalize decide (0≤x.2.1∧x.2.1≤600)=b2;generalize Dx x.1=b1
 cases b1<;>cases b2<;>cases b3<;>cases b4<;>cases b5<;>rfl
theorem JP {d:Ap} {x:Am} (h:d.2.2.2.length≤9223372036854775807):Ht d x=some (Db (fun y:AM=>Bx y.1 x) d.2.2.2):=by
 unfold Ht;rw [Hi (fun y:AM=>Bx y.1 x) some h]
 ·intro k y hy;simp only [Dr (aA2.1 hy).1,aA8,By,hy,ob];show cond (Bx y.1 x) _ _=_
  cases Bx y.1 x<;>rfl
 simp only [Ds];rfl
theorem Lu {d:Ap} {x:Am} (h:d.2.2.2.length≤9223372036854775807):Eh d x=some (Db (fun y:AM=>Bx y.1 x) d.2.2.2):=by
 unfold Eh Dh HM;rw [Hi (fun y:AM=>Bx y.1 x) some h]
 ·rfl
 ·intro k y hy;simp only [Dr (aA2.1 hy).1,aA8,By,hy,ob];show cond (Bx y.1 x) _ _=_
  cases Bx y.1 x<;>rfl
 simp only [Ds];rfl
def Is (l:List AM) (k:Nat):Bool:=match l[k]? with
 | none=>false
 | some x=>Ir x&&decide (Db (fun y:AM=>Bx y.1 x.1) l=(k:Int))
def Et (d:Ap):Bool:=decide (0≤d.1∧d.1 < 3)&&decide (1≤d.2.1∧d.2.1≤7)&&BF d.2.2.1&&decide (d.2.2.2.length≤8)&&(d.2.2.1.all fun x=>!(decide (x.1.1=d.1)&&decide (d.2.1≤x.1.2)))&&(List.range d.2.2.2.length).all (Is d.2.2.2)
theorem JQ {d:Ap} (ho:Ok.ok d):Gc d=some (Et d):=by
 have hi:Ok.ok d.2.2.1:=ho.2.2.1;have hil:d.2.2.1.length≤9223372036854775807:=ho.2.2.1.1;have hll:d.2.2.2.length≤9223372036854775807:=ho.2.2.2.1;have hin:(Bn (fun s12:Int=>cond (decide (s12 < (d.2.2.2.length:Int))) ((idx d.2.2.2 s12).bind fun a1=>(Mt a1).bind fun a0=>gb (!(!a0)) (idx d.2.2.2 s12) (fun a2=>gb (!(!a0)) (Ht d a2.1) (fun a3=>cond ((!a0)||(!decide (a3=s12))) (Option.map .inr (some false)) (some (.inl (IntKind.wrap .i64 (s12+1))))))) (Option.map .inr (some true))) 0:Option Bool)=if (List.range d.2.2.2.length).all (Is d.2.2.2) then some true else some false:=by
  refine Gy (n:=d.2.2.2.length) (Is d.2.2.2) (some false) (some true) ?_ ?_
  ·intro k hk;have hx:d.2.2.2[k]?=some d.2.2.2[k]:=aA1 hk;generalize d.2.2.2[k]=x at hx;have hox:Ok.ok x:=ho.2.2.2.2 x (aAj hx);simp only [Dr hk,aA8,By,hx,ob,cQ hox,JP hll,BX (show k < 9223372036854775807 by omega)];unfold Is;simp only [hx]
   cases Ir x with
   | false=>rfl
   | true =>
    simp only [aAe,aAi,gb,ob,aBc,aAz]
    cases decide (Db (fun y:AM=>Bx y.1 x.1) d.2.2.2=(k:Int))<;>rfl
  ·simp only [Ds];rfl
 unfold Gc Et;try simp only [Prod.eta]
 rw [hin,JO (l:=d.2.2.1) (p:=fun x=>!(decide (x.1.1=d.1)&&decide (d.2.1≤x.1.2))) (no:=some false) (yes:=if (List.range d.2.2.2.length).all (Is d.2.2.2) then some true else some false) hil]
 ·have h8:decide (8 < (d.2.2.2.length:Int))=!decide (d.2.2.2.length≤8):=by rw [aBn];simp;omega
  simp only [Qh,MM,aA hi,ob,h8];generalize (List.range d.2.2.2.length).all (Is d.2.2.2)=b6;generalize (d.2.2.1.all fun x=>!(decide (x.1.1=d.1)&&decide (d.2.1≤x.1.2)))=b5;generalize decide (d.2.2.2.length≤8)=b4;generalize BF d.2.2.1=b3;generalize decide (1≤d.2.1∧d.2.1≤7)=b2;generalize decide (0≤d.1∧d.1 < 3)=b1;cases b1
  ·rfl
  cases b2
  ·rfl
  cases b3
  ·rfl
  cases b4
  ·rfl
  cases b5
  ·rfl
  cases b6<;>rfl
 ·intro k x hx;simp only [Dr (aA2.1 hx).1,aA8,By,hx,ob]
  cases h1:decide (x.1.1=d.1)<;>cases h2:decide (d.2.1≤x.1.2)<;>simp [gb,h2]
 simp only [Ds];rfl
theorem It {d:Ap} (ho:Ok.ok d):Fo d=some (Et d):=by
 have hi:Ok.ok d.2.2.1:=ho.2.2.1;have hil:d.2.2.1.length≤9223372036854775807:=ho.2.2.1.1;have hll:d.2.2.2.length≤9223372036854775807:=ho.2.2.2.1;have hin:(Bn (fun s12:Int=>cond (decide (s12 < (d.2.2.2.length:Int))) ((idx d.2.2.2 s12).bind fun a0=>(Mu a0).bind fun a1=>gb (!(!a1)) (Eh d a0.1) (fun a2=>cond ((!a1)||(!decide (a2=s12))) (Option.map .inr (some false)) (some (.inl (IntKind.wrap .i64 (s12+1)))))) (Option.map .inr (some true))) 0:Option Bool)=if (List.range d.2.2.2.length).all (Is d.2.2.2) then some true else some false:=by
  refine Gy (n:=d.2.2.2.length) (Is d.2.2.2) (some false) (some true) ?_ ?_
  ·intro k hk;have hx:d.2.2.2[k]?=some d.2.2.2[k]:=aA1 hk;generalize d.2.2.2[k]=x at hx;have hox:Ok.ok x:=ho.2.2.2.2 x (aAj hx);simp only [Dr hk,aA8,By,hx,ob,cR hox,Lu hll,BX (show k < 9223372036854775807 by omega)];unfold Is;simp only [hx]
   cases Ir x with
   | false=>rfl
   | true =>
    simp only [aAe,aAi,gb,ob,aBc,aAz]
    cases decide (Db (fun y:AM=>Bx y.1 x.1) d.2.2.2=(k:Int))<;>rfl
  ·simp only [Ds];rfl
 unfold Fo Et;try simp only [Prod.eta]
 rw [hin,JO (l:=d.2.2.1) (p:=fun x=>!(decide (x.1.1=d.1)&&decide (d.2.1≤x.1.2))) (no:=some false) (yes:=if (List.range d.2.2.2.length).all (Is d.2.2.2) then some true else some false) hil]
 ·have h8:decide (8 < (d.2.2.2.length:Int))=!decide (d.2.2.2.length≤8):=by rw [aBn];simp;omega
  simp only [Px,HQ,Hu hi,ob,h8];generalize (List.range d.2.2.2.length).all (Is d.2.2.2)=b6;generalize (d.2.2.1.all fun x=>!(decide (x.1.1=d.1)&&decide (d.2.1≤x.1.2)))=b5;generalize decide (d.2.2.2.length≤8)=b4;generalize BF d.2.2.1=b3;generalize decide (1≤d.2.1∧d.2.1≤7)=b2;generalize decide (0≤d.1∧d.1 < 3)=b1;cases b1
  ·rfl
  cases b2
  ·rfl
  cases b3
  ·rfl
  cases b4
  ·rfl
  cases b5
  ·rfl
  cases b6<;>rfl
 ·intro k x hx;simp only [Dr (aA2.1 hx).1,aA8,By,hx,ob,Fm]
  cases h1:decide (x.1.1=d.1)<;>cases h2:decide (d.2.1≤x.1.2)<;>simp
 simp only [Ds];rfl
def FT (x:Ar):Prop:=x.2.2.2.2.1.2.2.2.2.2.2.2.length≤1048576∧x.2.2.2.2.2.2.1.length≤1048576
def MN (x:AM):Prop:=x.2.2.2.2.1.length≤1048576∧x.2.2.2.2.2.1.length≤1048576
def Iu (d:Ap):Prop:=d.2.2.1.length≤1048576∧(∀ x,x∈d.2.2.1→FT x)∧d.2.2.2.length≤1048576∧∀ x,x∈d.2.2.2→MN x
theorem Hl {c:BN} (h:c.2.2.2.2.2.2.2.length≤1048576):Gn c=some c:=by
 unfold Gn;simp only [ob];rw [BO (by simp;omega)];rfl
theorem UL {x:Ar} (h:FT x):KY x=some x:=by
 unfold KY;simp only [Prod.eta,Hl h.1,ob];have:=h.2;rw [BO (by simp;omega)];rfl
theorem aB {l:List ByteArray} (h:l.length≤4294967296):Kx l=some l:=by
 unfold Kx;rw [BO (by simpa using h)];rfl
theorem Pz {c:BN} (h:c.2.2.2.2.2.2.2.length≤1048576):Iz c=some c:=by
 unfold Iz;rw [aB om];rfl
theorem GH {l:List Am} (h:l.length≤4294967296):GD l=some l:=by
 unfold GD;rw [BO (by simpa using h)];rfl
theorem Od {x:Ar} (h:FT x):Gz x=some x:=by
 unfold Gz;have:=h.2;simp only [Prod.eta,Pz h.1,ob,GH (show x.2.2.2.2.2.2.1.length≤4294967296 by omega)]
theorem Xv {l:List Ar} (h1:l.length≤1048576) (h2:∀ x,x∈l→FT x):Kz l=some l:=by
 unfold Kz;simp only [ob];rw [HL (l:=l) (fun k (t:List Ar)=>(t,(k:Int))) (fun t x=>.inl (t++[x])) (fun t=>some t) (fun k t=>t.length=k) [] (s0:=([],0)) rfl rfl,Ud]
 ·rfl
 ·intro k t x hx ht;have hlt:=(aA2.1 hx).1;refine .inl ⟨t++[x],rfl,?_,by simp [ht]⟩;simp only [Dr hlt,aA8,By,hx,ob,Prod.eta,UL (h2 x (aAj hx)),BX (show k < 9223372036854775807 by omega)];rw [BO (by simp;omega)];rfl
 intro t ht;simp only [Ds];rfl
theorem Rz {l:List Ar} (h1:l.length≤1048576) (h2:∀ x,x∈l→FT x):Hk l=some l:=by
 unfold Hk;rw [HL (l:=l) (fun k (t:List Ar)=>(t,(k:Int))) (fun t x=>.inl (t++[x])) (fun t=>some t) (fun k t=>t.length=k) [] (s0:=([],0)) rfl rfl,Ud]
 ·rfl
 ·intro k t x hx ht;have hlt:=(aA2.1 hx).1;refine .inl ⟨t++[x],rfl,?_,by simp [ht]⟩;simp only [Dr hlt,aA8,By,hx,ob,Prod.eta,Od (h2 x (aAj hx)),BX (show k < 9223372036854775807 by omega)];rw [BO (by simp;omega)];rfl
 intro t ht;simp only [Ds];rfl
theorem FL {d:Ap} (h:Iu d):EU d=some d:=by
 obtain ⟨me,nx,is,ls⟩:=d;obtain ⟨h1,h2,h3,h4⟩:=h;dsimp only at h1 h2 h3 h4;unfold EU;simp only [Xv h1 h2,ob];rw [HL (l:=ls) (fun k (t:List AM)=>((k:Int),t)) (fun t x=>.inl (t++[x])) (fun t=>some (me,nx,is,t)) (fun k t=>t.length=k) [] (s0:=(0,[])) rfl rfl,Ud]
 ·rfl
 ·intro k t x hx ht;have hlt:=(aA2.1 hx).1;obtain ⟨h5,h6⟩:=h4 x (aAj hx);refine .inl ⟨t++[x],rfl,?_,by simp [ht]⟩;simp only [Dr hlt,aA8,By,hx,ob,Prod.eta,BX (show k < 9223372036854775807 by omega),BO (a:=([]:List Am)) (b:=x.2.2.2.2.1) (by simp;omega),BO (a:=([]:List Int)) (b:=x.2.2.2.2.2.1) (by simp;omega),aAa];rw [BO (by simp;omega)];rfl
 intro t ht;simp only [Ds];rfl
theorem Ff {d:Ap} (h:Iu d):DO d=some d:=by
 obtain ⟨me,nx,is,ls⟩:=d;obtain ⟨h1,h2,h3,h4⟩:=h;dsimp only at h1 h2 h3 h4;unfold DO;simp only [Rz h1 h2,ob];rw [HL (l:=ls) (fun k (t:List AM)=>((k:Int),t)) (fun t x=>.inl (t++[x])) (fun t=>some (me,nx,is,t)) (fun k t=>t.length=k) [] (s0:=(0,[])) rfl rfl,Ud]
 ·rfl
 ·intro k t x hx ht;have hlt:=(aA2.1 hx).1;obtain ⟨h5,h6⟩:=h4 x (aAj hx);refine .inl ⟨t++[x],rfl,?_,by simp [ht]⟩;simp only [Dr hlt,aA8,By,hx,ob,Prod.eta,BX (show k < 9223372036854775807 by omega),GH (show x.2.2.2.2.1.length≤4294967296 by omega),BO (a:=([]:List Int)) (b:=x.2.2.2.2.2.1) (by simp;omega),aAa];rw [BO (by simp;omega)];rfl
 intro t ht;simp only [Ds];rfl
end
theorem CN {σ α:Type} {f:σ→Option (σ ⊕ α)} {r:α} {s:σ} (I:σ→Prop) (μ:σ→Nat) (h:∀ s,I s→(∃ s',f s=some (.inl s')∧I s'∧μ s' < μ s)∨f s=some (.inr r)) (hs:I s):Bn f s=some r:=by
 obtain ⟨a,ha,rfl⟩:=FK I μ (·=r) (fun s hs=>(h s hs).imp id fun h=>⟨r,h,rfl⟩) s hs;exact ha
theorem gT {σ σ' α:Type} {f:σ→Option (σ ⊕ (σ' ⊕ α))} (I:σ→Prop) (μ:σ→Nat) (P:σ'→Prop)
  (h:∀ s,I s→(∃ s',f s=some (.inl s')∧I s'∧μ s' < μ s)∨∃ s',f s=some (.inr (.inl s'))∧P s') (s:σ) (hs:I s):∃ s',Bn f s=some (.inl s')∧P s':=by
 obtain ⟨r,h1,s',h2,h3⟩:=FK I μ (fun r:σ' ⊕ α=>∃ s',r=.inl s'∧P s') (fun s hi=>by
  rcases h s hi with h | ⟨s',h1,h2⟩
  ·exact .inl h
  ·exact .inr ⟨_,h1,_,rfl,h2⟩) s hs
 exact ⟨s',by rw [h1,h2],h3⟩
theorem HR {σ α:Type} {o:Option (σ ⊕ α)} {k:σ→Option α} {Q:Option α→Prop} (P:σ→Prop) (h:∃ s,o=some (.inl s)∧P s) (hk:∀ s,P s→Q (k s)):Q (FI o k):=by
 obtain ⟨s,rfl,hs⟩:=h;exact hk s hs
structure MB (m:BN):Prop where
 k:inR m.1
 cl:inR m.2.1
 no:inR m.2.2.1
 s1:m.2.2.2.1.size≤9
 s2:m.2.2.2.2.1.size≤9
 s3:m.2.2.2.2.2.1.size≤9
 n:inR m.2.2.2.2.2.2.1
 len:m.2.2.2.2.2.2.2.length≤5
 ch:∀ x,x∈m.2.2.2.2.2.2.2→x.size≤9
theorem MB.ok {m:BN} (h:MB m):Ok.ok m :=
 ⟨h.k,h.cl,h.no,by have:=h.s1;show _≤_;omega,by have:=h.s2;show _≤_;omega,by have:=h.s3;show _≤_;omega,h.n,by have:=h.len;omega,fun x hx=>by have:=h.ch x hx;show x.size≤_;omega⟩
namespace Gr
variable {ι:Type}
inductive Rch (dp:ι→List ι):ι→ι→Prop
 | one {x y:ι}:y∈dp x→Rch dp x y
 | cons {x y z:ι}:y∈dp x→Rch dp y z→Rch dp x z
theorem Rch.trans {dp:ι→List ι} {x y z:ι} (h:Rch dp x y) (k:Rch dp y z):Rch dp x z:=by
 induction h with
 | one h=>exact .cons h k
 | cons h _ ih=>exact .cons h (ih k)
section
variable [DecidableEq ι]
structure PartOk (rdy:ι→Bool) (part:ι→List ι) (ids:List ι):Prop where
 self:∀ x,x∈ids→rdy x=true→x∈part x
 mem:∀ x,x∈ids→rdy x=true→∀ y,y∈part x→y∈ids∧rdy y=true∧part y=part x
end
end Gr
namespace Gr
variable {ι:Type}
structure STO (lt:ι→ι→Bool):Prop where
 irr:∀ a,lt a a=false
 tr:∀ a b c,lt a b=true→lt b c=true→lt a c=true
 tot:∀ a b,lt a b=true∨lt b a=true∨a=b
theorem STO.asy {lt:ι→ι→Bool} (h:STO lt) {a b:ι} (h1:lt a b=true):lt b a=false:=by
 cases h2:lt b a with
 | false=>rfl
 | true=>have:=h.tr _ _ _ h1 h2;rw [h.irr] at this;cases this
theorem STO.ne {lt:ι→ι→Bool} (h:STO lt) {a b:ι} (h1:lt a b=true):a≠b:=fun e=>by rw [e,h.irr] at h1;cases h1
abbrev Up (lt:ι→ι→Bool) (l:List ι):Prop:=l.Pairwise fun a b=>lt a b=true
theorem up_ext {lt:ι→ι→Bool} (h:STO lt):∀ {l m:List ι},Up lt l→Up lt m→(∀ x,x∈l↔x∈m)→l=m
 | [],[],_,_,_=>rfl
 | [],b::m,_,_,e=>by have:=(e b).2 (aA9 ..);cases this
 | a::l,[],_,_,e=>by have:=(e a).1 (aA9 ..);cases this
 | a::l,b::m,hl,hm,e=>by
  obtain ⟨l1,l2⟩:=aBt.1 hl;obtain ⟨m1,m2⟩:=aBt.1 hm;have eab:a=b:=by
   rcases aAf.1 ((e a).1 (aA9 ..)) with q | q
   ·exact q
   ·rcases aAf.1 ((e b).2 (aA9 ..)) with r | r
    ·exact r.symm
    ·have:=h.asy (m1 a q);rw [l1 b r] at this;cases this
  subst eab;congr 1;refine up_ext h l2 m2 fun x=>⟨fun hx=>?_,fun hx=>?_⟩
  ·rcases aAf.1 ((e x).1 (aA4 _ hx)) with q | q
   ·have:=h.ne (l1 x hx);exact (this q.symm).elim
   ·exact q
  ·rcases aAf.1 ((e x).2 (aA4 _ hx)) with q | q
   ·have:=h.ne (m1 x hx);exact (this q.symm).elim
   ·exact q
theorem up_nodup {lt:ι→ι→Bool} (h:STO lt) {l:List ι} (hl:Up lt l):l.Nodup:=hl.imp fun {_ _} hab=>h.ne hab
theorem TF {lt:ι→ι→Bool} {y:ι}:∀ {a:List ι} {x:ι},x∈a.takeWhile (fun x=>lt x y)→lt x y=true
 | z::a,x,hx=>by
  rw [aCl] at hx;split at hx
  ·rename_i hz;rcases aAf.1 hx with rfl | hx
   ·exact hz
   ·exact TF hx
  ·cases hx
structure BI (dp:ι→List ι) (ok:ι→Prop) (id:ι) (out q:List ι):Prop where
 nd:out.Nodup
 val:∀ x,x∈out→ok x
 rch:∀ x,x∈out→Rch dp id x
 que:∀ x,x∈q→x=id∨x∈out
 clo:∀ x,x=id∨x∈out→¬ x∈q→∀ y,y∈dp x→y∈out
section
variable [DecidableEq ι]
def join (lt:ι→ι→Bool):List ι→List ι→List ι
 | a,[]=>a
 | a,y::ys=>a.takeWhile (fun x=>lt x y)++y::join lt (match a.dropWhile (fun x=>lt x y) with | []=>[] | z::zs=>if z=y then zs else z::zs) ys
def past (lt:ι→ι→Bool) (a:List ι) (y:ι):List ι:=match a.dropWhile (fun x=>lt x y) with | []=>[] | z::zs=>if z=y then zs else z::zs
theorem Wh {lt:ι→ι→Bool} (h:STO lt) {y:ι}:∀ {a:List ι},Up lt a→Up lt (past lt a y)∧(∀ x,x∈past lt a y→lt y x=true∧x∈a)∧∀ x,x∈a→x∈a.takeWhile (fun x=>lt x y)∨x=y∨x∈past lt a y
 | [],_=>⟨List.Pairwise.nil,fun x hx=>(by cases hx),fun x hx=>by cases hx⟩
 | z::a,ha=>by
  obtain ⟨a1,a2⟩:=aBt.1 ha
  cases hz:lt z y with
  | true =>
   obtain ⟨i1,i2,i3⟩:=Wh h (y:=y) a2;have e:past lt (z::a) y=past lt a y:=by unfold past;rw [aCx,if_pos hz]
   rw [e,aCl,if_pos hz];refine ⟨i1,fun x hx=>⟨(i2 x hx).1,aA4 _ (i2 x hx).2⟩,fun x hx=>?_⟩;rcases aAf.1 hx with rfl | hx
   ·exact .inl (aA9 ..)
   ·rcases i3 x hx with q | q
    ·exact .inl (aA4 _ q)
    ·exact .inr q
  | false =>
   have e:past lt (z::a) y=if z=y then a else z::a:=by unfold past;rw [aCx,if_neg (by simp [hz])]
   rw [aCl,if_neg (by simp [hz]),e];by_cases hzy:z=y
   ·subst hzy;rw [if_pos rfl];refine ⟨a2,fun x hx=>⟨a1 x hx,aA4 _ hx⟩,fun x hx=>?_⟩;rcases aAf.1 hx with rfl | hx
    ·exact .inr (.inl rfl)
    ·exact .inr (.inr hx)
   ·rw [if_neg hzy];have hyz:lt y z=true:=by
     rcases h.tot y z with q | q | q
     ·exact q
     ·rw [hz] at q;cases q
     ·exact (hzy q.symm).elim
    refine ⟨ha,fun x hx=>⟨?_,hx⟩,fun x hx=>.inr (.inr hx)⟩;rcases aAf.1 hx with rfl | hx
    ·exact hyz
    ·exact h.tr _ _ _ hyz (a1 x hx)
theorem join_cons (lt:ι→ι→Bool) (a:List ι) (y:ι) (ys:List ι):join lt a (y::ys)=a.takeWhile (fun x=>lt x y)++y::join lt (past lt a y) ys:=rfl
theorem join_facts {lt:ι→ι→Bool} (h:STO lt):∀ {b a:List ι},Up lt a→Up lt b→Up lt (join lt a b)∧∀ x,x∈join lt a b↔x∈a∨x∈b
 | [],a,ha,_=>⟨ha,fun x=>by unfold join;simp⟩
 | y::ys,a,ha,hb=>by
  obtain ⟨b1,b2⟩:=aBt.1 hb;obtain ⟨p1,p2,p3⟩:=Wh h (y:=y) ha;obtain ⟨j1,j2⟩:=join_facts h p1 b2;have hgt:∀ x,x∈join lt (past lt a y) ys→lt y x=true:=fun x hx=>by
   rcases (j2 x).1 hx with q | q
   ·exact (p2 x q).1
   ·exact b1 x q
  rw [join_cons];refine ⟨aDg.2 ⟨ha.sublist (List.takeWhile_sublist _),aBt.2 ⟨hgt,j1⟩,fun x hx z hz=>?_⟩,fun x=>?_⟩
  ·have hxy:=TF hx;rcases aAf.1 hz with rfl | hz
   ·exact hxy
   ·exact h.tr _ _ _ hxy (hgt z hz)
  ·rw [aB0,aAf,aAf,j2];constructor
   ·rintro (q | q | q | q)
    ·exact .inl ((List.takeWhile_sublist _).subset q)
    ·exact .inr (.inl q)
    ·exact .inl (p2 x q).2
    ·exact .inr (.inr q)
   ·rintro (q | q | q)
    ·rcases p3 x q with r | r | r
     ·exact .inl r
     ·exact .inr (.inl r)
     ·exact .inr (.inr (.inl r))
    ·exact .inr (.inl q)
    ·exact .inr (.inr (.inr q))
structure ROk (lt:ι→ι→Bool) (dp:ι→List ι) (ok:ι→Prop) (N:Nat):Prop where
 sto:STO lt
 up:∀ x,Up lt (dp x)
 val:∀ x y,y∈dp x→ok y
 len:∀ l:List ι,l.Nodup→(∀ x,x∈l→ok x)→l.length≤N
end
end Gr
namespace Gr
variable {ι:Type}
def OutOk (rdy:ι→Bool) (part:ι→List ι) (ids:List ι) (out:List (List ι)):Prop:=∀ p,p∈out→∃ z,z∈ids∧rdy z=true∧p=part z
theorem OutOk.nil (rdy:ι→Bool) (part:ι→List ι) (ids:List ι):OutOk rdy part ids []:=fun p hp=>by cases hp
section
variable [DecidableEq ι]
theorem findIdx_find {α:Type} (f:α→Bool) (l:List α):(l.findIdx? f=none∧l.find? f=none)∨∃ k p,l.findIdx? f=some k∧l[k]?=some p∧l.find? f=some p:=by
 cases h:l.findIdx? f with
 | none =>
  refine .inl ⟨rfl,aCs.2 fun x hx=>?_⟩;have:=aCj.1 h x hx;simp [this]
 | some k =>
  right;obtain ⟨h1,h2,h3⟩:=aBd.1 h;refine ⟨k,l[k],rfl,aA1 h1,?_⟩;rw [aF6];exact ⟨h2,k,h1,rfl,fun j hj=>by have:=h3 j hj;simpa using this⟩
end
end Gr
theorem DD (a b:Am):Bx a b=decide (a=b):=by
 unfold Bx;rw [aBn];simp only [aAg,aAd,and_true];constructor
 ·rintro ⟨h1,h2⟩;exact Prod.ext h1 h2
 rintro rfl;exact ⟨rfl,rfl⟩
theorem JR {a b:Am}:BY a b=true↔a.1 < b.1∨(a.1=b.1∧a.2 < b.2):=by unfold BY;simp
theorem Cw:Gr.STO BY where
 irr a:=by
  cases h:BY a a with
  | false=>rfl
  | true=>have:=JR.1 h;omega
 tr a b c h1 h2:=by
  have:=JR.1 h1;have:=JR.1 h2;exact JR.2 om
 tot a b:=by
  by_cases h1:a.1 < b.1
  ·exact .inl (JR.2 (.inl h1))
  by_cases h2:b.1 < a.1
  ·exact .inr (.inl (JR.2 (.inl h2)))
  have h3:a.1=b.1:=by omega
  by_cases h4:a.2 < b.2
  ·exact .inl (JR.2 (.inr ⟨h3,h4⟩))
  by_cases h5:b.2 < a.2
  ·exact .inr (.inl (JR.2 (.inr ⟨h3.symm,h5⟩)))
  ·exact .inr (.inr (Prod.ext h3 om))
theorem CV {l:List Am} (h:CO l=true):(∀ x,x∈l→Dx x=true)∧Gr.Up BY l:=by
 unfold CO at h;simp only [aAw,aAv] at h;refine ⟨fun x hx=>?_,IR (R:=fun a b:Am=>BY a b=true) (fun a b c=>Cw.tr a b c) l fun k hk=>?_⟩
 ·obtain ⟨k,hk⟩:=aBe hx;have:=h k (aA2.1 hk).1;unfold QF at this;rw [hk] at this;simp only [aAg] at this;exact this.1
 have:=h (k+1) hk;unfold QF at this;rw [aA1 hk] at this;simp only [aAg,aAd,aBg,aEv,aA1 (show k < l.length by omega),aDf] at this;rcases this.2 with h2 | h2
 ·omega
 exact h2
theorem CI {l:List Ar} (h:BF l=true):(∀ x,x∈l→CK x=true)∧l.Pairwise (fun a b=>BY a.1 b.1=true):=by
 unfold BF at h;simp only [aAw,aAv] at h;refine ⟨fun x hx=>?_,IR (R:=fun a b:Ar=>BY a.1 b.1=true) (fun a b c=>Cw.tr a.1 b.1 c.1) l fun k hk=>?_⟩
 ·obtain ⟨k,hk⟩:=aBe hx;have:=h k (aA2.1 hk).1;unfold KK at this;rw [hk] at this;simp only [aAg] at this;exact this.1
 have:=h (k+1) hk;unfold KK at this;rw [aA1 hk] at this;simp only [aAg,aAd,aBg,aEv,aA1 (show k < l.length by omega),aDf] at this;rcases this.2 with h2 | h2
 ·omega
 exact h2
theorem LT {x:Ar} (h:CK x=true):Dx x.1=true∧DK x.2.2.2.2.1=true∧(0≤x.2.2.2.2.2.1∧x.2.2.2.2.2.1≤60)∧CO x.2.2.2.2.2.2.1=true:=by
 unfold CK at h;simp only [aAg,aAd] at h;exact ⟨h.1.1.1.1.1.1.1.1,h.1.1.1.1.2,h.1.1.1.2,h.1.1.2⟩
def idN (x:Am):Int:=6*x.1+x.2
theorem IS {x:Am} (h:Dx x=true):(0≤x.1∧x.1≤2)∧(1≤x.2∧x.2≤6):=by
 unfold Dx at h;simpa using h
theorem JS {l:List Am} (h:l.Nodup) (hk:∀ x,x∈l→Dx x=true):l.length≤18:=by
 have h1:(l.map fun x=>(idN x).toNat).Nodup:=by
  rw [aDa,aDr];refine List.Pairwise.imp_of_mem ?_ h;intro a b ha hb hab e;have:=IS (hk a ha);have:=IS (hk b hb);unfold idN at e;exact hab (Prod.ext om om)
 have h2:∀ n,n∈(l.map fun x=>(idN x).toNat)→n∈List.range 19:=fun n hn=>by
  obtain ⟨x,hx,rfl⟩:=aBz.1 hn;have:=IS (hk x hx);unfold idN;rw [aAv];omega
 have h3:∀ n,n∈(l.map fun x=>(idN x).toNat)→n≠0:=fun n hn=>by
  obtain ⟨x,hx,rfl⟩:=aBz.1 hn;have:=IS (hk x hx);unfold idN;omega
 have h4:=List.Nodup.length_le_of_subset (l₂:=(List.range 19).erase 0) h1 (fun n hn=>(aF8 (h3 n hn)).2 (h2 n hn));rw [aB1] at h4;simpa using h4
theorem CB {l:List Ar} (h:BF l=true):l.length≤18:=by
 obtain ⟨h1,h2⟩:=CI h;have:=JS (l:=l.map (·.1)) (Gr.up_nodup Cw (aDr.2 h2)) fun x hx=>by
  obtain ⟨y,hy,rfl⟩:=aBz.1 hx;exact (LT (h1 y hy)).1
 simpa using this
theorem Ea {l:List Am} (h:CO l=true):l.length≤18:=by
 obtain ⟨h1,h2⟩:=CV h;exact JS (Gr.up_nodup Cw h2) h1
def Hv (l:List Ar) (id:Am):Option Ar:=l.find? fun x=>Bx x.1 id
noncomputable def atI (l:List Ar) (id:Am):Ar:=match Hv l id with | some x=>x | none=>(id,(-1),(-1),0,(0,0,0,aA0,aA0,aA0,0,([]:List ByteArray)),0,([]:List Am),false)
theorem Lv {l:List Ar} {id:Am} {x:Ar} (h:Hv l id=some x):x∈l∧x.1=id:=by
 have h1:=aCi h;have h2:=aC9 h;rw [DD] at h2;exact ⟨h1,aAr h2⟩
theorem nW {l:List Ar} (h:BF l=true) {x:Ar} (hx:x∈l):Hv l x.1=some x:=by
 obtain ⟨_,h2⟩:=CI h
 cases hf:Hv l x.1 with
 | none=>have:=aCs.1 hf x hx;rw [DD] at this;simp at this
 | some y =>
  obtain ⟨m,e⟩:=Lv hf;obtain ⟨i,hi⟩:=aBe m;obtain ⟨j,hj⟩:=aBe hx;obtain ⟨i1,i2⟩:=aA2.1 hi;obtain ⟨j1,j2⟩:=aA2.1 hj;have hij:i=j:=by
   rcases Nat.lt_trichotomy i j with q | q | q
   ·have:=aBv.1 h2 i j i1 j1 q;rw [i2,j2,e,Cw.irr] at this;cases this
   ·exact q
   ·have:=aBv.1 h2 j i j1 i1 q;rw [i2,j2,e,Cw.irr] at this;cases this
  subst hij;rw [← i2,← j2]
theorem Fg {α:Type} (p:α→Bool) (l:List α):(Db p l=-1∧l.find? p=none)∨∃ (k:Nat) (x:α),Db p l=(k:Int)∧l[k]?=some x∧l.find? p=some x:=by
 rcases Gr.findIdx_find p l with ⟨h1,h2⟩ | ⟨k,x,h1,h2,h3⟩
 ·exact .inl ⟨Qy h1,h2⟩
 exact .inr ⟨k,x,Nm h1,h2,h3⟩
theorem RA {σ σ' α:Type} {f:σ→Option (σ ⊕ (σ' ⊕ α))} {s:σ} {C:σ'→Prop} (I:σ→Prop) (μ:σ→Nat) (P:σ'→Prop) (hg:∀ s',P s'→C s') (hs:I s)
  (h:∀ s,I s→(∃ s',f s=some (.inl s')∧I s'∧μ s' < μ s)∨∃ s',f s=some (.inr (.inl s'))∧P s'):∃ s',Bn f s=some (.inl s')∧C s':=by
 obtain ⟨s',h1,h2⟩:=gT I μ P h s hs;exact ⟨s',h1,hg _ h2⟩
theorem Ld {α:Type} {l:List α} {a b:Int} (h:0≤a∧a≤b∧b≤l.length):Gf l a b=some ((l.drop a.toNat).take (b.toNat - a.toNat)):=if_pos h
theorem NN {α:Type} {l:List α} {k:Nat} {x:α} (h:l[k]?=some x):l.drop k=x::l.drop (k+1):=by
 obtain ⟨h1,h2⟩:=aA2.1 h;rw [aC8 h1,h2]
theorem UM {a b:List Am} (ha:a.length≤1000) (hb:b.length≤1000):MF a b=some (Gr.join BY a b):=by
 unfold MF;rw [ob];refine CN (s:=(([]:List Am),(0:Int),(0:Int))) (fun s:List Am×Int×Int=>∃ i k:Nat,s.2.1=(i:Int)∧s.2.2=(k:Int)∧i≤a.length∧k≤b.length∧s.1.length≤i+k∧s.1++Gr.join BY (a.drop i) (b.drop k)=Gr.join BY a b) (fun s=>(b.length - s.2.2).toNat) ?_ ⟨0,0,rfl,rfl,aAn _,aAn _,aAu _,by simp⟩;rintro ⟨o,i',k'⟩ ⟨i,k,h1,h2,hi,hk,hl,he⟩;dsimp only at h1 h2 hl he ⊢;subst h1;subst h2;by_cases hkb:k < b.length
 ·left;have hy:b[k]?=some b[k]:=aA1 hkb;generalize b[k]=y at hy;have hd:=NN hy;rw [show decide ((k:Int) < (b.length:Int))=true from aA6 om,aA8];rw [hd,Gr.join_cons] at he;refine RA (fun s:List Am×Int=>∃ j:Nat,s.2=(j:Int)∧i≤j∧j≤a.length∧s.1.length≤j+k∧s.1++(a.drop j).takeWhile (fun x=>BY x y)=o++(a.drop i).takeWhile (fun x=>BY x y)∧(a.drop j).dropWhile (fun x=>BY x y)=(a.drop i).dropWhile (fun x=>BY x y))
   (fun s=>(a.length - s.2).toNat)
   (fun s:List Am×Int×Int=>∃ j:Nat,s.2.1=(j:Int)∧s.2.2=((k+1:Nat):Int)∧j≤a.length∧s.1.length≤j+(k+1)∧s.1=(o++(a.drop i).takeWhile (fun x=>BY x y))++[y]∧a.drop j=Gr.past BY (a.drop i) y)
   ?_ ⟨i,rfl,aAu _,hi,hl,rfl,rfl⟩ ?_
  ·rintro s' ⟨j,e2,e3,e4,e5,e6,e7⟩;refine ⟨⟨j,k+1,e2,e3,e4,hkb,e5,?_⟩,?_⟩
   ·rw [e6,e7,← he];simp
   rw [e3];omega
  rintro ⟨t,j'⟩ ⟨j,h1,hij,hj,htl,ht1,ht2⟩;dsimp only at h1 htl ht1 ht2 ⊢;subst h1;have w1:IntKind.wrap .i64 ((k:Int)+1)=((k+1:Nat):Int):=BX om;by_cases hja:j < a.length
  ·have hx:a[j]?=some a[j]:=aA1 hja;generalize a[j]=x at hx;have hdj:=NN hx;rw [show decide ((j:Int) < (a.length:Int))=true from aA6 om,CE,By,hx,ob,CE,By,hy,ob,CE,show IG x y=some (BY x y) from rfl,ob];rw [hdj] at ht1 ht2
   cases hc:BY x y with
   | true =>
    left;rw [aCl,if_pos hc] at ht1;rw [aCx,if_pos hc] at ht2;simp only [Bool.and_self,aA8,ob];rw [BO (by simp;omega),ob,BX (show j < 9223372036854775807 by omega)];refine ⟨_,rfl,⟨j+1,rfl,by omega,by omega,by simp;omega,?_,ht2⟩,by dsimp only;omega⟩;rw [← ht1];simp
   | false =>
    right;rw [aCl,if_neg (by simp [hc]),aBx] at ht1;rw [aCx,if_neg (by simp [hc])] at ht2;simp only [Bool.and_false,aA3,aBc,CE,ob];have hq:(decide (x.1=y.1)&&(decide (x.2=y.2)&&true))=decide (x=y):=DD x y;rw [hq,BO (by simp;omega),ob,ob,w1,BX (show j < 9223372036854775807 by omega)];by_cases hxy:x=y
    ·rw [aA6 hxy,aA8];refine ⟨_,rfl,j+1,rfl,rfl,by omega,by simp;omega,by rw [← ht1],?_⟩;unfold Gr.past;rw [← ht2];dsimp only;rw [if_pos hxy]
    ·rw [aA5 hxy,aA3];refine ⟨_,rfl,j,rfl,rfl,by omega,by simp;omega,by rw [← ht1],?_⟩;unfold Gr.past;rw [← ht2];dsimp only;rw [if_neg hxy,hdj]
  right;have hdn:a.drop j=[]:=aBj om;rw [hdn] at ht1 ht2;simp only [List.takeWhile_nil,List.dropWhile_nil,aBx] at ht1 ht2;rw [show decide ((j:Int) < (a.length:Int))=false from aA5 om];simp only [RZ,aDm,aA3];rw [By,hy,ob,BO (by simp;omega),ob,w1];refine ⟨_,rfl,j,rfl,rfl,by omega,by simp;omega,by rw [← ht1],?_⟩;unfold Gr.past;rw [← ht2,hdn]
 right;have hkk:k=b.length:=by omega
 subst hkk;rw [show decide ((b.length:Int) < (b.length:Int))=false from aA5 om,aA3];rw [aBj (aAu _)] at he;rw [Ld om,ob];have h3:((a.drop ((i:Int).toNat)).take ((a.length:Int).toNat - (i:Int).toNat))=a.drop i:=by
  rw [aB8,aB8,aBi (by simp)]
 rw [h3,BO (by simp;omega),ob,aE3];have he':o++a.drop i=Gr.join BY a b:=he;rw [he']
def FU (l:List Ar):Prop:=∀ x,x∈l→FT x
theorem FM {l:List Ar} (hl:l.length≤1048576) (hs:FU l) (id:Am):EI l id=some (atI l id):=by
 unfold EI;refine CN (fun s:Int=>∃ k:Nat,s=(k:Int)∧k≤l.length∧(l.drop k).find? (fun x=>Bx x.1 id)=Hv l id) (fun s=>(l.length - s).toNat) ?_ ⟨0,rfl,aAn _,rfl⟩;rintro _ ⟨k,rfl,hk,he⟩;by_cases hkl:k < l.length
 ·have hx:l[k]?=some l[k]:=aA1 hkl;have hm:l[k]∈l:=aBw _;generalize l[k]=x at hx hm;rw [NN hx] at he;rw [show decide ((k:Int) < (l.length:Int))=true from aA6 om,aA8,By,hx,ob];have hq:(decide (x.1.1=id.1)&&(decide (x.1.2=id.2)&&true))=Bx x.1 id:=rfl;rw [hq]
  cases hc:Bx x.1 id with
  | true =>
   right;rw [aE5 (by simp [hc])] at he;rw [aA8,ob,show KY _=some x from UL (x:=x) (hs x hm),ob];unfold atI;rw [← he];rfl
  | false =>
   left;rw [aCw (by simp [hc])] at he;rw [aA3,BX om];exact ⟨_,rfl,⟨k+1,rfl,hkl,he⟩,by omega⟩
 right;rw [show decide ((k:Int) < (l.length:Int))=false from aA5 om,aA3];rw [aBj om] at he;unfold atI;rw [← he];rfl
theorem UN {l:List Ar} (hl:l.length≤1048576) (id:Am):JE l id=some (Db (fun x:Ar=>Bx x.1 id) l):=by
 unfold JE EP Ky;rw [Hi (l:=l) (fun x:Ar=>Bx x.1 id) some om]
 ·rfl
 ·intro k x hx;simp only [Dr (aA2.1 hx).1,aA8,By,hx,ob];show cond (Bx x.1 id) _ _=_
  cases Bx x.1 id<;>rfl
 simp only [Ds];rfl
theorem ED {l:List Ar} (hl:l.length≤1048576) (hs:FU l) (id:Am):DC l id=some (atI l id):=by
 unfold DC;rw [show JE l id=_ from UN hl id,ob];unfold atI Hv;rcases Fg (fun x:Ar=>Bx x.1 id) l with ⟨h1,h2⟩ | ⟨k,x,h1,h2,h3⟩
 ·rw [h1,h2];rfl
 rw [h1,h3,show decide (0≤(k:Int))=true from aA6 om,aA8,By,h2,ob,show Gz _=some x from Od (x:=x) (hs x (aAj h2))];rfl
theorem Wi {lt:Am→Am→Bool} (h:Gr.STO lt):SW0 lt where
 irrefl:=h.irr
 trans:=h.tr
 ntrans x y z h1 h2:=by
  cases h3:lt x z with
  | false=>rfl
  | true =>
   rcases h.tot y z with q | q | q
   ·rw [h2] at q;cases q
   ·have:=h.tr _ _ _ h3 q;rw [h1] at this;cases this
   ·rw [q,h3] at h1;cases h1
theorem aD {lt:Am→Am→Bool} (h:Gr.STO lt) {l:List Am} (hn:l.Nodup):Gr.Up lt (IE lt l)∧∀ x,x∈IE lt l↔x∈l:=by
 have hp:=IF lt l;refine ⟨?_,fun x=>hp.mem_iff⟩;have h1:=JB (Wi h) l;have h2:(IE lt l).Nodup:=hp.nodup_iff.2 hn;refine (h1.and h2).imp fun {a b} hab=>?_;rcases h.tot a b with q | q | q
 ·exact q
 ·rw [hab.1] at q;cases q
 exact (hab.2 q).elim
theorem TG {lt:Am→Am→Bool} (h:Gr.STO lt) {f:Am→Am→Option Int} (hf:∀ x y,∃ v,f x y=some v∧decide (v < 0)=lt x y) {l:List Am} (hl:l.length≤1000):FQ l f=some (IE lt l):=by
 have e:(fun x y=>decide ((f x y).getD 0 < 0))=lt:=by
  funext x y;obtain ⟨v,h1,h2⟩:=hf x y;rw [h1];exact h2
 unfold FQ;rw [e,if_pos ⟨fun x y=>(hf x y).imp fun v hv=>hv.1,Wi h⟩];exact Zw om fun a b _ _=>h.tot a b
theorem KQ (a b:Am):∃ c,Du a b=some c∧decide (c < 0)=BY a b:=by
 obtain ⟨c,h1,h2⟩:=Ob a b;refine ⟨c,h1,?_⟩;by_cases h:c < 0
 ·rw [aA5 (show ¬ 0≤c by omega)] at h2;rw [aA6 h]
  cases hh:BY a b with
  | true=>rfl
  | false=>rw [hh] at h2;cases h2
 rw [aA6 (show 0≤c by omega)] at h2;rw [aA5 h]
 cases hh:BY a b with
 | false=>rfl
 | true=>rw [hh] at h2;cases h2
noncomputable def FF (c d:BN):Bool:=bif (((!DK c)||(!DK d))||decide (c.1=0))||decide (d.1=0) then false else (decide (c.1=7)||decide (d.1=7))||decide (c.2.2.2.1=d.2.2.2.1)
theorem Sv (c d:BN):FF c d=FF d c:=by
 unfold FF;rw [show decide (d.2.2.2.1=c.2.2.2.1)=decide (c.2.2.2.1=d.2.2.2.1) by rw [aBn];simp only [aAd];exact eq_comm]
 cases DK c<;>cases DK d<;>cases decide (c.1=0)<;>cases decide (d.1=0)<;>cases decide (c.1=7)<;>cases decide (d.1=7)<;>rfl
theorem Wj {c d:BN} (hc:Ok.ok c) (hd:Ok.ok d):ME c d=some (FF c d):=by
 unfold ME FF;rw [show Ig _=_ from LR (c:=c) hc,show Ig _=_ from LR (c:=d) hd,ob,gbs]
 cases DK c<;>cases DK d<;>cases decide (c.1=0)<;>cases decide (d.1=0)<;>rfl
theorem gU {c d:BN} (hc:Ok.ok c) (hd:Ok.ok d):OR c d=some (FF c d):=by
 unfold OR FF;rw [show Ii _=_ from LQ (c:=c) hc,show Ii _=_ from LQ (c:=d) hd,ob,gbs]
 cases DK c<;>cases DK d<;>cases decide (c.1=0)<;>cases decide (d.1=0)<;>rfl
abbrev UpI (l:List Ar):Prop:=l.Pairwise fun a b=>BY a.1 b.1=true
theorem gV {l:List Ar} (h1:∀ x,x∈l→CK x=true) (h2:UpI l):BF l=true:=by
 unfold BF;rw [aAw];intro k hk;rw [aAv] at hk;have hx:l[k]?=some l[k]:=aA1 hk;unfold KK;rw [hx];simp only [aAg,aBg,aAd];refine ⟨h1 _ (aBw hk),?_⟩;rcases aD1 k with h0 | h0
 ·exact .inl h0
 right;rw [aA1 (show k - 1 < l.length by omega)];exact aBv.1 h2 (k - 1) k om hk om
theorem HZ (a:Am):BY a a=false:=Cw.irr a
theorem NO {a b:Am} (h:BY a b=true):BY b a=false:=by
 cases hh:BY b a with
 | false=>rfl
 | true=>have:=Cw.tr _ _ _ h hh;rw [HZ] at this;cases this
theorem eF {a b:Am} (h:BY a b=true):Bx a b=false:=by
 rw [DD,aAm];rintro rfl;rw [HZ] at h;cases h
theorem eG {a b:Am} (h:BY a b=false):BY b a=!Bx a b:=by
 rw [DD];rcases Cw.tot a b with q | q | q
 ·rw [h] at q;cases q
 ·have:=eF q;rw [TD,DD] at this;rw [q,this];rfl
 rw [q,HZ];simp
def QP (l:List Ar) (x:Ar):List Ar:=l.takeWhile (fun y=>BY y.1 x.1)++x::(l.dropWhile fun y=>BY y.1 x.1).filter fun y=>!Bx y.1 x.1
def DL (l:List Ar) (x:Ar):List Ar:=l.filter (fun y=>BY y.1 x.1)++x::l.filter fun y=>BY x.1 y.1
theorem eH (x:Ar):∀ {l:List Ar},UpI l→QP l x=DL l x
 | [],_=>rfl
 | y::r,h=>by
  obtain ⟨h1,h2⟩:=aBt.1 h;have ih:=eH x h2;unfold QP DL at ih ⊢
  cases hc:BY y.1 x.1 with
  | true =>
   rw [aCl,if_pos hc,aCx,if_pos hc,aBp,if_pos hc,aBp,if_neg (by rw [NO hc];exact aAb),aAk,aAk,ih]
  | false =>
   have h3:∀ z,z∈y::r→BY z.1 x.1=false:=fun z hz=>by
    rcases aAf.1 hz with rfl | hz
    ·exact hc
    ·cases hh:BY z.1 x.1 with
     | false=>rfl
     | true=>rw [Cw.tr _ _ _ (h1 z hz) hh] at hc;cases hc
   have e1:(y::r).filter (fun z=>BY z.1 x.1)=[]:=aE6.2 fun z hz=>by rw [h3 z hz];exact aAb
   have e2:(y::r).filter (fun z=>!Bx z.1 x.1)=(y::r).filter fun z=>BY x.1 z.1:=aFn fun z hz=>(eG (h3 z hz)).symm;rw [aCl,if_neg (by rw [hc];exact aAb),aCx,if_neg (by rw [hc];exact aAb),e1,e2]
theorem MO {l:List Ar} {x y:Ar}:y∈DL l x↔y=x∨(y∈l∧y.1≠x.1):=by
 unfold DL;simp only [aB0,aAs,aAf];constructor
 ·rintro (⟨h1,h2⟩ | h | ⟨h1,h2⟩)
  ·exact .inr ⟨h1,fun e=>by rw [e,HZ] at h2;cases h2⟩
  ·exact .inl h
  exact .inr ⟨h1,fun e=>by rw [e,HZ] at h2;cases h2⟩
 rintro (h | ⟨h1,h2⟩)
 ·exact .inr (.inl h)
 rcases Cw.tot y.1 x.1 with q | q | q
 ·exact .inl ⟨h1,q⟩
 ·exact .inr (.inr ⟨h1,q⟩)
 exact absurd q h2
theorem Xw {l:List Ar} (h:UpI l) (x:Ar):UpI (DL l x):=by
 unfold DL;refine aDg.2 ⟨h.filter _,aBt.2 ⟨fun z hz=>(aAs.1 hz).2,h.filter _⟩,fun a ha b hb=>?_⟩;have h1:=(aAs.1 ha).2;rcases aAf.1 hb with rfl | hb
 ·exact h1
 exact Cw.tr _ _ _ h1 (aAs.1 hb).2
theorem Xx {l:List Ar} (h:BF l=true) {x:Ar} (hx:CK x=true):BF (DL l x)=true:=by
 obtain ⟨h1,h2⟩:=CI h;refine gV (fun y hy=>?_) (Xw h2 x);rcases MO.1 hy with rfl | ⟨hy,_⟩
 ·exact hx
 exact h1 y hy
theorem cS {l:List Ar} (hl:l.length≤1000) (x:Ar):FZ l x=some (QP l x):=by
 unfold FZ;rw [ob];refine CN (s:=(([]:List Ar),false,(0:Int))) (fun s:List Ar×Bool×Int=>∃ k:Nat,s.2.2=(k:Int)∧k≤l.length∧s.1.length≤k+1∧(s.2.1=false→s.1.length≤k)∧(if s.2.1 then s.1++(l.drop k).filter (fun y=>!Bx y.1 x.1) else s.1++QP (l.drop k) x)=QP l x) (fun s=>(l.length - s.2.2).toNat) ?_ ⟨0,rfl,aAn _,aAn _,fun _=>aAu _,by simp⟩;rintro ⟨o,p,k'⟩ ⟨k,h1,hk,hol,hop,he⟩;dsimp only at h1 hol hop he ⊢;subst h1;by_cases hkl:k < l.length
 ·left;have hy:l[k]?=some l[k]:=aA1 hkl;generalize l[k]=y at hy;rw [NN hy] at he;have w1:=BX (show k < 9223372036854775807 by omega);have hd:∀ z:Ar,z=z:=fun z=>rfl;rw [show decide ((k:Int) < (l.length:Int))=true from aA6 om,aA8,w1];simp only [By,hy,ob,hd];rw [show (decide (y.1.1=x.1.1)&&(decide (y.1.2=x.1.2)&&true))=Bx y.1 x.1 from rfl];have hle:IG y.1 x.1=some (BY y.1 x.1):=rfl
  cases p with
  | true =>
   rw [if_pos rfl,aBp] at he;simp only [aAe,RZ,aDm,aA3]
   cases hc:Bx y.1 x.1 with
   | true =>
    rw [if_neg (by simp [hc])] at he;exact ⟨_,rfl,⟨k+1,rfl,hkl,by simpa using aCy hol (Nat.le_succ _),fun h=>by simp at h,by rw [if_pos rfl];exact he⟩,by dsimp only;omega⟩
   | false =>
    rw [if_pos (by simp [hc])] at he;rw [aAi,aA8,BO (by simp;omega),ob];refine ⟨_,rfl,⟨k+1,rfl,hkl,by simp;omega,fun h=>by simp at h,by rw [if_pos rfl,← he];simp⟩,by dsimp only;omega⟩
  | false =>
   rw [if_neg aAb] at he;have hop:=hop rfl;simp only [aAi,CE,aBc,ob,hle]
   cases hc:BY y.1 x.1 with
   | true =>
    have h3:QP (y::l.drop (k+1)) x=y::QP (l.drop (k+1)) x:=by
     unfold QP;rw [aCl,if_pos hc,aCx,if_pos hc,aAk]
    rw [h3] at he;rw [eF hc,aAe,aA3,aAi,aA8,BO (by simp;omega),ob];refine ⟨_,rfl,⟨k+1,rfl,hkl,by simp;omega,fun _=>by simp;omega,by rw [if_neg aAb,← he];simp⟩,by dsimp only;omega⟩
   | false =>
    have h3:QP (y::l.drop (k+1)) x=x::(y::l.drop (k+1)).filter fun z=>!Bx z.1 x.1:=by
     unfold QP;rw [aCl,if_neg (by simp [hc]),aCx,if_neg (by simp [hc]),aAa]
    rw [h3,aBp] at he;rw [aAi,aA8,BO (by simp;omega),ob]
    cases hq:Bx y.1 x.1 with
    | true =>
     rw [if_neg (by simp [hq])] at he;exact ⟨_,rfl,⟨k+1,rfl,hkl,by simp;omega,fun h=>by simp at h,by rw [if_pos rfl,← he];simp⟩,by dsimp only;omega⟩
    | false =>
     rw [if_pos (by simp [hq])] at he;rw [aAi,aA8,BO (by simp;omega),ob];exact ⟨_,rfl,⟨k+1,rfl,hkl,by simp;omega,fun h=>by simp at h,by rw [if_pos rfl,← he];simp⟩,by dsimp only;omega⟩
 right;rw [show decide ((k:Int) < (l.length:Int))=false from aA5 om,aA3];rw [aBj om] at he
 cases p with
 | true=>rw [if_pos rfl] at he;simp at he;rw [← he];rfl
 | false =>
  rw [if_neg aAb] at he;rw [aAi,aA8,BO (by simp;omega),← he];rfl
theorem Hf {l:List Ar} (h:BF l=true) (x:Ar):FZ l x=some (DL l x):=by
 have:=CB h;rw [cS om,eH x (CI h).2]
theorem UpI.nodup {l:List Ar} (h:UpI l):l.Nodup:=by
 rw [aDa];exact h.imp fun {a b} hab e=>by rw [e,HZ] at hab;cases hab
theorem UpI.sorted {l:List Ar} (h:UpI l):l.Pairwise fun a b=>BY b.1 a.1=false:=h.imp fun {a b} hab=>NO hab
theorem UpI.tot {l:List Ar} (h:UpI l) {a b:Ar} (ha:a∈l) (hb:b∈l):BY a.1 b.1=true∨BY b.1 a.1=true∨a=b:=by
 obtain ⟨i,hi,rfl⟩:=aDs.1 ha;obtain ⟨j,hj,rfl⟩:=aDs.1 hb;rcases Nat.lt_trichotomy i j with q | q | q
 ·exact .inl (aBv.1 h i j hi hj q)
 ·subst q;exact .inr (.inr rfl)
 exact .inr (.inl (aBv.1 h j i hj hi q))
theorem vJ:SW0 fun a b:Ar=>BY a.1 b.1 where
 irrefl x:=HZ _
 trans x y z:=Cw.tr _ _ _
 ntrans x y z:=(Wi Cw).ntrans _ _ _
theorem aE {m r:List Ar} (hr:UpI r) (hp:m.Perm r) (hl:m.length≤1000):FQ m (fun z0 z1=>EA z0 z1)=some r:=by
 have hf:∀ x y:Ar,∃ v,EA x y=some v∧decide (v < 0)=BY x.1 y.1:=fun x y=>by
  obtain ⟨c,h1,h2⟩:=KQ x.1 y.1;refine ⟨c,?_,h2⟩;unfold EA;rw [show Du x.1 y.1=some c from h1];rfl
 have e:(fun x y:Ar=>decide ((EA x y).getD 0 < 0))=fun x y=>BY x.1 y.1:=by
  funext x y;obtain ⟨v,h1,h2⟩:=hf x y;rw [h1];exact h2
 unfold FQ;rw [e,if_pos ⟨fun x y=>(hf x y).imp fun v hv=>hv.1,vJ⟩];have ht:∀ a b,a∈m→b∈m→BY a.1 b.1=true∨BY b.1 a.1=true∨a=b:=fun a b ha hb=>hr.tot (hp.mem_iff.1 ha) (hp.mem_iff.1 hb);rw [Zw om ht];refine aC5 some (OB ((IF _ m).trans hp) (JB vJ m) hr.sorted fun a b ha hb=>?_);exact ht a b ((IF _ m).mem_iff.1 ha) ((IF _ m).mem_iff.1 hb)
theorem sJ {l:List Ar} (h:UpI l) {k:Nat} {y x:Ar} (hk:l[k]?=some y) (he:y.1=x.1):l.set k x=DL l x:=by
 obtain ⟨h1,h2⟩:=aA2.1 hk;have hs:l=l.take k++y::l.drop (k+1):=by
  rw [← h2,← aC8 h1,aBf]
 rw [aCo,if_pos h1];rw [hs] at h;obtain ⟨p1,p2,p3⟩:=aDg.1 h;obtain ⟨p4,p5⟩:=aBt.1 p2;unfold DL
 conv=>rhs;rw [hs]
 have f1:∀ a,a∈l.take k→BY a.1 x.1=true:=fun a ha=>by rw [← he];exact p3 a ha y (aA9 ..)
 have f2:∀ a,a∈l.drop (k+1)→BY x.1 a.1=true:=fun a ha=>by rw [← he];exact p4 a ha
 have f3:BY y.1 x.1=false:=by rw [he,HZ]
 have f4:BY x.1 y.1=false:=by rw [he,HZ]
 rw [aCt,aCt,aBp,aBp,if_neg (by simp [f3]),if_neg (by simp [f4]),aD6.2 f1,aD6.2 f2,
  aE6.2 (fun a ha=>by simp [NO (f2 a ha)]),aE6.2 (fun a ha=>by simp [NO (f1 a ha)])]
 simp
theorem nX {l:List Ar} (h:UpI l) {x:Ar} (hn:∀ y,y∈l→y.1≠x.1):(l++[x]).Perm (DL l x):=by
 have h1:(l++[x]).Nodup:=aBo.2 ⟨h.nodup,by simp,fun a ha b hb=>by
  rw [aAl] at hb;subst hb;exact fun e=>hn a ha (by rw [e])⟩
 refine (aFm h1 (Xw h x).nodup).2 fun a=>?_;rw [MO,aB0,aAl];constructor
 ·rintro (q | q)
  ·exact .inr ⟨q,hn a q⟩
  exact .inl q
 rintro (q | ⟨q,_⟩)
 ·exact .inr q
 exact .inl q
theorem vK {l:List Ar} {x:Ar} (h:Ok.ok l) (hx:Ok.ok x) (hl:l.length≤1000):Ok.ok (DL l x):=by
 refine ⟨?_,fun y hy=>?_⟩
 ·unfold DL;have h1:=aC4 (fun y:Ar=>BY y.1 x.1) l;have h2:=aC4 (fun y:Ar=>BY x.1 y.1) l;simp only [aAq,aB5];omega
 rcases MO.1 hy with rfl | ⟨hy,_⟩
 ·exact hx
 exact h.2 y hy
theorem XY {l:List Ar} {x:Ar} (h:FU l) (hx:FT x):FU (DL l x):=fun y hy=>by
 rcases MO.1 hy with rfl | ⟨hy,_⟩
 ·exact hx
 ·exact h y hy
theorem aF {l:List Ar} {x:Ar} (ho:Ok.ok l) (hx:Ok.ok x) (h:BF l=true) (hxo:CK x=true) (hs:FU l) (hsx:FT x):Lp l x=some (DL l x):=by
 have hl:=CB h;have hr:UpI (DL l x):=Xw (CI h).2 x;have hk:FD (DL l x)=some true:=by rw [Hu (vK ho hx om),Xx h hxo]
 unfold Lp;rw [Hu ho,h,ob,aAe,aA3,Rz om hs,ob,show JE l x.1=_ from UN om x.1,ob,show Gz _=some x from Od hsx];rcases Fg (fun y:Ar=>Bx y.1 x.1) l with ⟨h1,h2⟩ | ⟨k,y,h1,h2,h3⟩
 ·rw [h1,show decide ((0:Int)≤-1)=false from rfl,aA3,ob];have hn:∀ y,y∈l→y.1≠x.1:=fun y hy e=>by
   have:=aCs.1 h2 y hy;rw [DD,e] at this;simp at this
  rw [BO (by simp;omega),ob];have:=aE hr (nX (CI h).2 hn) (by simp;omega);rw [show FQ (l++[x]) (fun z0 z1=>EA z0 z1)=some (DL l x) from this,ob,hk,ob,aAe,aA3]
 rw [h1,show decide ((0:Int)≤(k:Int))=true from aA6 om,aA8,ob,By,h2,ob,ob];have he:y.1=x.1:=by
  have:=aC9 h3;rw [DD] at this;exact aAr this
 have hset:=sJ (CI h).2 h2 he;have:=aE (m:=l.set k x) hr (by rw [hset]) (by simp;omega);rw [aB8,show FQ (l.set k x) (fun z0 z1=>EA z0 z1)=some (DL l x) from this,ob,hk,ob,aAe,aA3]
theorem Ia {d:Ap} {x:Ar} (ho:Ok.ok d.2.2.1) (hx:Ok.ok x) (h:BF d.2.2.1=true) (hs:FU d.2.2.1) (hsx:FT x) :
  Em d x=some (if CK x then (true,(d.1,d.2.1,DL d.2.2.1 x,d.2.2.2)) else (false,d)):=by
 unfold Em;rw [show KX _=_ from UK (x:=x) hx,ob]
 cases hxo:CK x with
 | true=>rw [aAe,aA3,if_pos rfl,show Lp d.2.2.1 _=_ from aF (x:=x) ho hx h hxo hs hsx];rfl
 | false=>rw [aAi,aA8,if_neg aAb]
def LU (me to:Int) (m:Ao):Ao:=(m.1,me,to,m.2.2.2.1,m.2.2.2.2.1,m.2.2.2.2.2.1,m.2.2.2.2.2.2.1,m.2.2.2.2.2.2.2.1,m.2.2.2.2.2.2.2.2.1,(-1),m.2.2.2.2.2.2.2.2.2.2)
def Nn (me:Int) (m:Ao) (k:Nat):List Ao:=((List.range k).filter fun t:Nat=>!decide ((t:Int)=me)).map fun t:Nat=>LU me (t:Int) m
def EB (me:Int) (m:Ao):List Ao:=Nn me m 3
theorem OF (me:Int) (m:Ao) (k:Nat):Nn me m (k+1)=if (k:Int)=me then Nn me m k else Nn me m k++[LU me (k:Int) m]:=by
 unfold Nn;rw [List.range_succ,aCt,aCb];by_cases h:(k:Int)=me
 ·rw [if_pos h,aBp,if_neg (by simp [h])];simp
 rw [if_neg h,aBp,if_pos (by simp [h])];rfl
theorem XZ (me:Int) (m:Ao) (k:Nat):(Nn me m k).length≤k:=by
 unfold Nn;rw [aB1];exact aCy (aC4 _ _) (by simp)
def RB (m:Ao):Prop:=m.2.2.2.2.2.1.2.2.2.2.2.2.2.length≤1048576∧m.2.2.2.2.2.2.2.1.length≤1048576
theorem UO (d:Ap) {m:Ao} (h:RB m):MH d m=some (EB d.1 m):=by
 unfold MH;rw [ob];refine CN (fun s:List Ao×Int=>∃ k:Nat,k≤3∧s=(Nn d.1 m k,(k:Int))) (fun s=>(3 - s.2).toNat) ?_ ⟨0,by omega,rfl⟩;rintro _ ⟨k,hk,rfl⟩;dsimp only;by_cases h3:k < 3
 ·left;rw [show decide ((k:Int) < 3)=true from aA6 om,aA8,BX om];have hb:=XZ d.1 m k;by_cases hm:(k:Int)=d.1
  ·rw [aA6 hm,aA8];exact ⟨_,rfl,⟨k+1,h3,by rw [OF,if_pos hm]⟩,by omega⟩
  rw [aA5 hm,aA3,show Gn _=some m.2.2.2.2.2.1 from Hl h.1,ob,ob,BO (by have:=h.2;simp;omega),ob,BO (by simp;omega),ob];refine ⟨_,rfl,⟨k+1,h3,by rw [OF,if_neg hm];rfl⟩,by dsimp only;omega⟩
 right;have:k=3:=by omega
 subst this;rfl
theorem Oe {m:Ao} (h:RB m):He m=some m:=by
 unfold He;have:=h.2;rw [show Iz _=some m.2.2.2.2.2.1 from Pz h.1,ob,GH om];rfl
theorem Lw (d:Ap) {m:Ao} (h:RB m) (hv:m.2.2.2.2.2.2.2.2.2.1=-1):EW d m=some (EB d.1 m):=by
 unfold EW;rw [ob];refine CN (fun s:List Ao×Int=>∃ k:Nat,k≤3∧s=(Nn d.1 m k,(k:Int))) (fun s=>(3 - s.2).toNat) ?_ ⟨0,by omega,rfl⟩;rintro _ ⟨k,hk,rfl⟩;dsimp only;by_cases h3:k < 3
 ·left;rw [show decide ((k:Int) < 3)=true from aA6 om,aA8,BX om];have hb:=XZ d.1 m k;by_cases hm:(k:Int)=d.1
  ·rw [aA6 hm,aAe,aA3];exact ⟨_,rfl,⟨k+1,h3,by rw [OF,if_pos hm]⟩,by omega⟩
  rw [aA5 hm,aAi,aA8,show He _=some m from Oe h,ob,BO (by simp;omega),ob];refine ⟨_,rfl,⟨k+1,h3,?_⟩,by dsimp only;omega⟩;rw [OF,if_neg hm];unfold LU
  first | rw [hv] | rw [← hv]
 right;have:k=3:=by omega
 subst this;rfl
def ES (ls:List AM) (id:Am):List AM:=ls.filter fun y=>!Bx y.1 id
theorem QQ {d:Ap} (h:d.2.2.2.length≤1048576) (id:Am):IO d id=some (d.1,d.2.1,d.2.2.1,ES d.2.2.2 id):=by
 unfold IO;rw [ob,HL (l:=d.2.2.2) (fun k (t:List AM)=>(t,(k:Int))) (fun t x=>.inl (if !Bx x.1 id then t++[x] else t)) (fun t=>some (d.1,d.2.1,d.2.2.1,t)) (fun k t=>t.length≤k) [] (s0:=([],0)) rfl (aAu _),Pe,KP]
 ·rfl
 ·intro k t x hx ht;have hlt:=(aA2.1 hx).1;refine .inl ⟨_,rfl,?_,by (split<;>(try rw [aAq,aEb]))<;>omega⟩;simp only [Dr hlt,aA8,By,hx,ob,BX (show k < 9223372036854775807 by omega)];show cond (!Bx x.1 id) _ _=_
  cases Bx x.1 id with
  | true=>rfl
  | false =>
   rw [aAi,aA8,BO (by simp;omega)];rfl
 intro t ht;simp only [Ds];rfl
theorem Qi {d:Ap} (h:d.2.2.2.length≤1048576) (id:Am):FR d id=some (d.1,d.2.1,d.2.2.1,ES d.2.2.2 id):=by
 unfold FR;rw [show Mj (decide (d.2.2.2.length≤4294967296))=some () by rw [aA6 om];rfl];rfl
def Da (ls:List AM) (l:AM):List AM:=match ls.findIdx? fun y=>Bx y.1 l.1 with | some k=>ls.set k l | none=>ls++[l]
theorem LV {d:Ap} (h:d.2.2.2.length≤1048576) (l:AM):Il d l=some (d.1,d.2.1,d.2.2.1,Da d.2.2.2 l):=by
 unfold Il;rw [show Ht _ _=_ from JP (d:=d) (x:=l.1) om,ob];unfold Da
 cases hf:d.2.2.2.findIdx? fun y=>Bx y.1 l.1 with
 | none =>
  rw [Qy hf,show decide ((-1:Int) < 0)=true from rfl,aA8,ob,BO (by simp;omega),ob,BO (by simp;omega)];rfl
 | some k =>
  rw [Nm hf,show decide ((k:Int) < 0)=false from aA5 om,aA3,By];obtain ⟨h1,_⟩:=aBd.1 hf;rw [aA1 h1,ob,ob,aB8]
theorem EX (l:List Ar) (id:Am):(atI l id).1=id:=by
 unfold atI
 cases h:Hv l id with
 | none=>rfl
 | some x=>exact (Lv h).2
theorem KL (l:List Ar) (id:Am):atI l id∈l∨atI l id=(id,(-1),(-1),0,(0,0,0,aA0,aA0,aA0,0,([]:List ByteArray)),0,([]:List Am),false):=by
 unfold atI
 cases h:Hv l id with
 | none=>exact .inr rfl
 | some x=>exact .inl (Lv h).1
theorem FG {l:List Ar} (h:FU l) (id:Am):FT (atI l id):=by
 rcases KL l id with q | q
 ·exact h _ q
 rw [q];exact ⟨aAn _,aAn _⟩
structure LeadF (l:AM):Prop where
 id:Dx l.1=true
 bal:0≤l.2.1∧l.2.1≤600
 ph:1≤l.2.2.1∧l.2.2.1≤3
 seq:0≤l.2.2.2.1∧l.2.2.2.1≤60
 deps:CO l.2.2.2.2.1=true
 self:(l.2.2.2.2.1.any fun y=>Bx y l.1)=false
 frm:Ho l.2.2.2.2.2.1=true
theorem leadF {l:AM} (h:Ir l=true):LeadF l:=by
 unfold Ir at h;simp only [aAg,aAd,aB4] at h;obtain ⟨⟨⟨⟨⟨⟨h1,h2⟩,h3⟩,h4⟩,h5⟩,h6⟩,h7⟩:=h;exact ⟨h1,h2,h3,h4,h5,h6,h7⟩
theorem leadF.ok {l:AM} (h:LeadF l):Ir l=true:=by
 unfold Ir;simp only [aAg,aAd,aB4];exact ⟨⟨⟨⟨⟨⟨h.id,h.bal⟩,h.ph⟩,h.seq⟩,h.deps⟩,h.self⟩,h.frm⟩
structure InstF (x:Ar):Prop where
 id:Dx x.1=true
 bal:-1≤x.2.1∧x.2.1≤600
 vbal:-1≤x.2.2.1∧x.2.2.1≤x.2.1
 st:0≤x.2.2.2.1∧x.2.2.2.1≤3
 cmd:DK x.2.2.2.2.1=true
 seq:0≤x.2.2.2.2.2.1∧x.2.2.2.2.2.1≤60
 deps:CO x.2.2.2.2.2.2.1=true
 self:(x.2.2.2.2.2.2.1.any fun y=>Bx y x.1)=false
 none:x.2.2.2.1=0→x.2.2.1=-1∧x.2.2.2.2.1.1=0∧x.2.2.2.2.2.1=0∧x.2.2.2.2.2.2.1=[]∧x.2.2.2.2.2.2.2=false
theorem CC {x:Ar}:CK x=true↔InstF x:=by
 unfold CK;simp only [aAg,aAd,aB4,aBg,aAm];constructor
 ·rintro ⟨⟨⟨⟨⟨⟨⟨⟨h1,h2⟩,h3⟩,h4⟩,h5⟩,h6⟩,h7⟩,h8⟩,h9⟩;refine ⟨h1,h2,h3,h4,h5,h6,h7,h8,fun h0=>?_⟩;rcases h9 with h9 | ⟨⟨⟨⟨k1,k2⟩,k3⟩,k4⟩,k5⟩
  ·exact absurd h0 h9
  exact ⟨k1,k2,k3,aC0 om,k5⟩
 intro h;refine ⟨⟨⟨⟨⟨⟨⟨⟨h.id,h.bal⟩,h.vbal⟩,h.st⟩,h.cmd⟩,h.seq⟩,h.deps⟩,h.self⟩,?_⟩;by_cases h0:x.2.2.2.1=0
 ·obtain ⟨k1,k2,k3,k4,k5⟩:=h.none h0;exact .inr ⟨⟨⟨⟨k1,k2⟩,k3⟩,by rw [k4];rfl⟩,k5⟩
 exact .inl h0
def MP (x:Ar) (l:AM):Ar:=(x.1,x.2.1,l.2.1,2,x.2.2.2.2.1,l.2.2.2.1,l.2.2.2.2.1,false)
def Of (x:Ar) (l:AM):Ar:=(x.1,x.2.1,x.2.2.1,3,x.2.2.2.2.1,l.2.2.2.1,l.2.2.2.2.1,false)
theorem kY {is:List Ar} (h:BF is=true) {l:AM} (hl:LeadF l) (hb:(atI is l.1).2.1=l.2.1):InstF (atI is l.1):=by
 rcases KL is l.1 with q | q
 ·exact CC.1 ((CI h).1 _ q)
 rw [q] at hb;have:=hl.bal;dsimp only at hb;omega
theorem eI {is:List Ar} (h:BF is=true) {l:AM} (hl:LeadF l) (hb:(atI is l.1).2.1=l.2.1):CK (MP (atI is l.1) l)=true:=by
 have hx:=kY h hl hb;have he:=EX is l.1;refine CC.2 ⟨hx.id,hx.bal,⟨by have:=hl.bal;show -1≤l.2.1;omega,by show l.2.1≤(atI is l.1).2.1;omega⟩,⟨by show (0:Int)≤2;omega,by show (2:Int)≤3;omega⟩,hx.cmd,hl.seq,hl.deps,?_,fun h0=>by cases h0⟩;show (l.2.2.2.2.1.any fun y=>Bx y (atI is l.1).1)=false;rw [he];exact hl.self
theorem eJ {is:List Ar} (h:BF is=true) {l:AM} (hl:LeadF l) (hb:(atI is l.1).2.1=l.2.1):CK (Of (atI is l.1) l)=true:=by
 have hx:=kY h hl hb;have he:=EX is l.1;refine CC.2 ⟨hx.id,hx.bal,hx.vbal,⟨by show (0:Int)≤3;omega,by show (3:Int)≤3;omega⟩,hx.cmd,hl.seq,hl.deps,?_,fun h0=>by cases h0⟩;show (l.2.2.2.2.1.any fun y=>Bx y (atI is l.1).1)=false;rw [he];exact hl.self
noncomputable def GI (d:Ap) (l:AM):Ap×List Ao :=
 if (atI d.2.2.1 l.1).2.1=l.2.1 then ((d.1,d.2.1,DL d.2.2.1 (MP (atI d.2.2.1 l.1) l),Da d.2.2.2 (l.1,l.2.1,2,l.2.2.2.1,l.2.2.2.2.1,[],l.2.2.2.2.2.2)),EB d.1 (3,0,0,l.1,l.2.1,(atI d.2.2.1 l.1).2.2.2.2.1,l.2.2.2.1,l.2.2.2.2.1,0,(-1),false))
 else ((d.1,d.2.1,d.2.2.1,ES d.2.2.2 l.1),[])
noncomputable def HB (d:Ap) (l:AM):Ap×List Ao :=
 if (atI d.2.2.1 l.1).2.1=l.2.1 then ((d.1,d.2.1,DL d.2.2.1 (Of (atI d.2.2.1 l.1) l),ES d.2.2.2 l.1),EB d.1 (5,0,0,l.1,0,(atI d.2.2.1 l.1).2.2.2.2.1,l.2.2.2.1,l.2.2.2.2.1,0,(-1),false))
 else ((d.1,d.2.1,d.2.2.1,ES d.2.2.2 l.1),[])
theorem AK {α β:Type} {o:Option α} {a:α} {k:α→Option β} {r:Option β} (h:o=some a) (hk:k a=r):Option.bind o k=r:=by rw [h];exact hk
theorem OG (d:Ap) {x:Ar} (h:FT x) (k b:Int):Ji d k x b=some (EB d.1 (k,0,0,x.1,b,x.2.2.2.2.1,x.2.2.2.2.2.1,x.2.2.2.2.2.2.1,0,(-1),false)):=by
 unfold Ji;exact AK (UO d (m:=(k,0,0,x.1,b,x.2.2.2.2.1,x.2.2.2.2.2.1,x.2.2.2.2.2.2.1,0,0,false)) h) rfl
theorem Og {d:Ap} {l:AM} (hi:BF d.2.2.1=true) (hs:FU d.2.2.1) (hl:MN l) (h:d.2.2.2.length≤1000):Hc d l=some (GI d l):=by
 have hln:=CB hi;unfold Hc GI;rw [show EI d.2.2.1 l.1=_ from FM om hs l.1,ob];have he:=EX d.2.2.1 l.1;have hsx:=FG hs l.1;generalize atI d.2.2.1 l.1=x at he hsx;by_cases hb:x.2.1=l.2.1
 ·rw [aA6 hb,aAe,aA3,if_pos hb,ob,BO (by have:=hl.1;simp;omega),ob,aAa];refine AK (Hf hi (MP x l)) ?_;rw [ob];refine AK (LV (d:=(d.1,d.2.1,DL d.2.2.1 (MP x l),d.2.2.2)) (by show d.2.2.2.length≤_;omega) (l.1,l.2.1,2,l.2.2.2.1,l.2.2.2.2.1,[],l.2.2.2.2.2.2)) ?_;refine AK (OG _ (x:=MP x l) ⟨hsx.1,hl.1⟩ 3 l.2.1) ?_;show some (_,EB d.1 (3,0,0,x.1,l.2.1,x.2.2.2.2.1,l.2.2.2.1,l.2.2.2.2.1,0,(-1),false))=_;rw [he]
 rw [aA5 hb,aAi,aA8,if_neg hb,show IO _ _=_ from QQ (d:=d) om l.1];rfl
theorem Oh {d:Ap} {l:AM} (hi:BF d.2.2.1=true) (hs:FU d.2.2.1) (hl:MN l) (h:d.2.2.2.length≤1000):Hd d l=some (HB d l):=by
 have hln:=CB hi;unfold Hd HB;rw [show EI d.2.2.1 l.1=_ from FM om hs l.1,ob,show IO _ _=_ from QQ (d:=d) om l.1,ob];have he:=EX d.2.2.1 l.1;have hsx:=FG hs l.1;generalize atI d.2.2.1 l.1=x at he hsx;by_cases hb:x.2.1=l.2.1
 ·rw [aA6 hb,aAe,aA3,if_pos hb,ob,BO (by have:=hl.1;simp;omega),ob,aAa];refine AK (Hf hi (Of x l)) ?_;refine AK (OG _ (x:=Of x l) ⟨hsx.1,hl.1⟩ 5 0) ?_;show some (_,EB d.1 (5,0,0,x.1,0,x.2.2.2.2.1,l.2.2.2.1,l.2.2.2.2.1,0,(-1),false))=_;rw [he]
 rw [aA5 hb,aAi,aA8,if_neg hb];rfl
theorem nY {ls:List AM} {k:Nat} {id:Am} (hf:(ls.findIdx? fun y=>Bx y.1 id)=some k) {l:AM} (he:l.1=id):((ls.set k l).findIdx? fun y=>Bx y.1 id)=some k:=by
 obtain ⟨h1,h2,h3⟩:=aBd.1 hf;refine aBd.2 ⟨by simpa using h1,?_,fun j hj=>?_⟩
 ·rw [List.getElem_set_self,he,DD];simp
 rw [List.getElem_set_ne om];exact h3 j hj
theorem JT {ls:List AM} {k:Nat} {l:AM} (hf:(ls.findIdx? fun y=>Bx y.1 l.1)=some k):Da ls l=ls.set k l:=by
 unfold Da;rw [hf]
theorem kZ {ls:List AM} {k:Nat} {l m:AM} (hk:ls[k]?=some l) (he:m.1=l.1):ES (ls.set k m) l.1=ES ls l.1:=by
 obtain ⟨h1,h2⟩:=aA2.1 hk;have hs:ls=ls.take k++l::ls.drop (k+1):=by
  rw [← h2,← aC8 h1,aBf]
 unfold ES;rw [aCo,if_pos h1]
 conv=>rhs;rw [hs]
 rw [aCt,aCt,aBp,aBp,if_neg (by rw [he,DD];simp),if_neg (by rw [DD];simp)]
structure NodeS (d:Ap):Prop where
 ok:Ok.ok d
 is:BF d.2.2.1=true
 sm:FU d.2.2.1
 ls:d.2.2.2.length≤1000
 lsm:∀ l,l∈d.2.2.2→MN l
theorem Sw {d:Ap} (hd:NodeS d) {k:Nat} {l:AM} (hk:d.2.2.2[k]?=some l) (hf:(d.2.2.2.findIdx? fun y=>Bx y.1 l.1)=some k) (hlf:LeadF l):Dw d (k:Int) 2=some ((GI d l).2,(GI d l).1):=by
 have hln:=CB hd.is;have hl:=hd.lsm l (aAj hk);have hol:Ok.ok l:=hd.ok.2.2.2.2 l (aAj hk);have hlt:=(aA2.1 hk).1;unfold Dw GI;rw [By,hk,ob,show DC d.2.2.1 l.1=_ from ED om hd.sm l.1,ob];have he:=EX d.2.2.1 l.1;have hsx:=FG hd.sm l.1;have hok:=eI hd.is hlf;have hor:=KL d.2.2.1 l.1;generalize atI d.2.2.1 l.1=x at he hsx hok hor;by_cases hb:x.2.1=l.2.1
 ·have hox:Ok.ok x:=by
   rcases hor with q | q
   ·exact hd.ok.2.2.1.2 _ q
   ·rw [q] at hb;have:=hlf.bal;dsimp only at hb;omega
  have hoa:Ok.ok (MP x l):=⟨hox.1,hox.2.1,hol.2.1,by show inR 2;unfold inR;omega,hox.2.2.2.2.1,hol.2.2.2.1,hol.2.2.2.2.1,trivial⟩;rw [aA6 hb,aAe,aA3,if_pos hb,GH (by have:=hl.1;omega),ob,show decide ((2:Int)=2)=true from rfl,aA8,ob,ob,aB8,By,aBu hlt,ob,ob,aF9];have hp:=Ia (d:=(d.1,d.2.1,d.2.2.1,d.2.2.2.set k (l.1,l.2.1,2,l.2.2.2.1,l.2.2.2.2.1,[],l.2.2.2.2.2.2))) (x:=MP x l) hd.ok.2.2.1 hoa hd.is hd.sm ⟨hsx.1,hl.1⟩;rw [hok hb,if_pos rfl] at hp;refine AK hp ?_;refine AK (Lw (d.1,d.2.1,DL d.2.2.1 (MP x l),d.2.2.2.set k (l.1,l.2.1,2,l.2.2.2.1,l.2.2.2.2.1,[],l.2.2.2.2.2.2)) (m:=(3,0,0,l.1,l.2.1,x.2.2.2.2.1,l.2.2.2.1,l.2.2.2.2.1,0,(-1),false)) ⟨hsx.1,hl.1⟩ rfl) ?_;rw [JT (l:=(l.1,l.2.1,2,l.2.2.2.1,l.2.2.2.2.1,[],l.2.2.2.2.2.2)) hf]
 rw [aA5 hb,aAi,aA8,if_neg hb,show FR _ _=_ from Qi (d:=d) (by have:=hd.ls;omega) l.1];rfl
structure NodeF (d:Ap):Prop where
 me:0≤d.1∧d.1 < 3
 nx:1≤d.2.1∧d.2.1≤7
 is:BF d.2.2.1=true
 ll:d.2.2.2.length≤8
 own:∀ x,x∈d.2.2.1→x.1.1=d.1→x.1.2 < d.2.1
 ld:∀ (k:Nat) (l:AM),d.2.2.2[k]?=some l→LeadF l∧(d.2.2.2.findIdx? fun y=>Bx y.1 l.1)=some k
theorem nodeF {d:Ap} (h:Et d=true):NodeF d:=by
 unfold Et at h;simp only [aAg,aAd,aAw,aB4,aDd,aAm,aAv] at h;obtain ⟨⟨⟨⟨⟨h1,h2⟩,h3⟩,h4⟩,h5⟩,h6⟩:=h;refine ⟨h1,h2,h3,h4,fun x hx he=>?_,fun k l hk=>?_⟩
 ·rcases h5 x hx with q | q
  ·exact absurd he q
  omega
 have:=h6 k (aA2.1 hk).1;unfold Is at this;rw [hk] at this;simp only [aAg,aAd] at this;refine ⟨leadF this.1,?_⟩;have h7:=this.2;unfold Db at h7
 cases hf:d.2.2.2.findIdx? fun y=>Bx y.1 l.1 with
 | none=>rw [hf] at h7;simp only at h7;omega
 | some j=>rw [hf] at h7;simp only at h7;exact aC5 some om
theorem nodeF.s {d:Ap} (h:NodeF d) (ho:Ok.ok d) (hn:Iu d):NodeS d:=⟨ho,h.is,hn.2.1,by have:=h.ll;omega,hn.2.2.2⟩
def Sx:Ap:=(0,0,([]:List Ar),([]:List AM))
noncomputable def Wk (d:Ap) (id:Am):Ap×(List Ao)×Bool:=match d.2.2.2.find? fun y=>Bx y.1 id with
 | none=>(d,[],false)
 | some l=>if decide (l.2.2.1=1)&&!decide ((l.2.2.2.2.2.1.length:Int)=0) then ((GI d l).1,(GI d l).2,true) else (d,[],false)
noncomputable def KR (d:Ap) (id:Am):Ap×(List Ao)×Bool:=if Et d then Wk d id else (Sx,[],false)
theorem Ly {ls:List AM} {l x:AM} (h:x∈Da ls l):x∈ls∨x=l:=by
 unfold Da at h;split at h
 ·exact aFs h
 rcases aB0.1 h with q | q
 ·exact .inl q
 exact .inr (aAl.1 q)
theorem Ya (ls:List AM) (l:AM):(Da ls l).length≤ls.length+1:=by
 unfold Da;split<;>simp
theorem aG (l:List Ar) (x:Ar):(DL l x).length≤2*l.length+1:=by
 unfold DL;have h1:=aC4 (fun y:Ar=>BY y.1 x.1) l;have h2:=aC4 (fun y:Ar=>BY x.1 y.1) l;simp only [aAq,aB5];omega
theorem gW {d:Ap} (hd:NodeS d) {l:AM} (hl:MN l):Iu (GI d l).1:=by
 have h1:=CB hd.is;have h2:=hd.ls;unfold GI;split
 ·refine ⟨?_,XY hd.sm ⟨(FG hd.sm l.1).1,hl.1⟩,?_,fun x hx=>?_⟩
  ·have:=aG d.2.2.1 (MP (atI d.2.2.1 l.1) l);show (DL _ _).length≤_;omega
  ·have:=Ya d.2.2.2 (l.1,l.2.1,2,l.2.2.2.1,l.2.2.2.2.1,[],l.2.2.2.2.2.2);show (Da _ _).length≤_;omega
  rcases Ly hx with q | q
  ·exact hd.lsm x q
  subst q;exact ⟨hl.1,aAn _⟩
 refine ⟨by show d.2.2.1.length≤_;omega,hd.sm,?_,fun x hx=>hd.lsm x (aAs.1 hx).1⟩;have:=aC4 (fun y:AM=>!Bx y.1 l.1) d.2.2.2;show (ES _ _).length≤_;unfold ES;omega
theorem sK {ls:List AM} {id:Am} {k:Nat} {l:AM} (h3:ls.find? (fun y=>Bx y.1 id)=some l):l.1=id:=by
 have:=aC9 h3;rw [DD] at this;exact aAr this
theorem Xy {d:Ap} (id:Am) (ho:Ok.ok d) (hn:Iu d):KA d id=some (KR d id):=by
 unfold KA KR;rw [show Gc _=_ from JQ (d:=d) ho,ob]
 cases hk:Et d with
 | false=>rfl
 | true =>
  have hf:=nodeF hk;have hs:=nodeF.s hf ho hn;have hll:=hf.ll;rw [aAe,aA3,if_pos rfl,show EU _=some d from FL hn,ob,show Ht _ _=_ from JP (d:=d) (x:=id) om,ob];unfold Wk;rcases Fg (fun y:AM=>Bx y.1 id) d.2.2.2 with ⟨h1,h2⟩ | ⟨k,l,h1,h2,h3⟩
  ·rw [h1,h2];rfl
  ·have hm:=aAj h2;rw [h1,h3,show decide ((k:Int) < 0)=false from aA5 om];simp only [By,h2,aAi,aAz,CE,ob];by_cases hp:l.2.2.1=1
   ·simp only [aA6 hp,aAe,aAi,CE,ob,aAz,aBc]
    cases hz:decide ((l.2.2.2.2.2.1.length:Int)=0) with
    | true=>rfl
    | false =>
     rw [aA3,aAi,if_pos rfl];refine AK (Og (d:=d) (l:=l) hs.is hs.sm (hs.lsm l hm) hs.ls) ?_;exact AK (FL (d:=(GI d l).1) (gW hs (hs.lsm l hm))) rfl
   ·simp only [aA5 hp,aAe,aAi,RZ,Bool.true_or,aA8,aDm,aBr,if_false]
theorem Xz {d:Ap} (id:Am) (ho:Ok.ok d) (hn:Iu d):KC d id=some (KR d id):=by
 unfold KC KR;rw [show Fo _=_ from It (d:=d) ho,ob]
 cases hk:Et d with
 | false=>rfl
 | true =>
  have hf:=nodeF hk;have hs:=nodeF.s hf ho hn;have hll:=hf.ll;rw [aAe,aA3,if_pos rfl,show DO _=some d from Ff hn,ob,show Eh _ _=_ from Lu (d:=d) (x:=id) om,ob];unfold Wk;rcases Fg (fun y:AM=>Bx y.1 id) d.2.2.2 with ⟨h1,h2⟩ | ⟨k,l,h1,h2,h3⟩
  ·rw [h1,h2];rfl
  ·have hm:=aAj h2;rw [h1,h3,show decide ((k:Int) < 0)=false from aA5 om];simp only [By,h2,aAi,aAz,CE,ob];by_cases hp:l.2.2.1=1
   ·simp only [aA6 hp,aAe,aAi,CE,ob,aAz,aBc]
    cases hz:decide ((l.2.2.2.2.2.1.length:Int)=0) with
    | true=>rfl
    | false =>
     rw [aA3,aAi,if_pos rfl];exact AK (Sw hs h2 (hf.ld k l h2).2 (hf.ld k l h2).1) rfl
   ·simp only [aA5 hp,aAe,aAi,RZ,Bool.true_or,aA8,aDm,aBr,if_false]
def nb (me s:Int):Int:=s+(me - s) % 3
theorem aH {α:Type} {me:Int} (hm:0≤me∧me < 3) {K:Int→Option α} {s:Int} (hs:0≤s∧s≤1000) {r:α} (hr:K (nb me s)=some r):Bn (fun t:Int=>cond (!decide (t.tmod 3=me)) (some (.inl (IntKind.wrap .i64 (t+1)))) (Option.map .inr (K t))) s=some r:=by
 refine CN (fun t:Int=>0≤t∧t≤nb me s∧nb me t=nb me s) (fun t=>(nb me s - t).toNat) ?_ ⟨hs.1,by unfold nb;omega,rfl⟩;rintro t ⟨h1,h2,h3⟩;have hn:nb me s≤1003:=by unfold nb;omega
 by_cases h:t.tmod 3=me
 ·right;rw [aA6 h,aAe,aA3];have:nb me t=t:=by
   rw [aDo h1] at h;unfold nb;omega
  rw [← this,h3,hr];rfl
 left;rw [aA5 h,aAi,aA8];rw [aDo h1] at h;have hw:IntKind.wrap .i64 (t+1)=t+1:=BT iR;rw [hw];unfold nb at h2 h3 ⊢;exact ⟨_,rfl,⟨by omega,by omega,by omega⟩,by omega⟩
def Lf (b:Int):Int:=if 3≤b then b+1 else 3
def GJ (me b:Int):Int:=nb me (Lf b)
def IT (x:Ar) (b:Int):Ar:=(x.1,b,x.2.2)
def Sy (id:Am) (b:Int):AM:=(id,b,3,0,([]:List Am),([]:List Int),false)
def Wl (id:Am) (b:Int):Ao:=(6,0,0,id,b,ER,0,([]:List Am),0,(-1),false)
noncomputable def Ur (d:Ap) (id:Am):Bool:=!Dx id||(decide ((atI d.2.2.1 id).2.2.2.1=3)||(decide (600 < GJ d.1 (atI d.2.2.1 id).2.1)||((decide (d.2.2.2.length=8)&&(d.2.2.2.find? fun y=>Bx y.1 id).isNone)||(decide (id.1=d.1)&&decide (d.2.1≤id.2)))))
noncomputable def aI (d:Ap) (id:Am):Ap×(List Ao)×Bool:=if Ur d id then (d,[],false) else
 ((d.1,d.2.1,DL d.2.2.1 (IT (atI d.2.2.1 id) (GJ d.1 (atI d.2.2.1 id).2.1)),Da d.2.2.2 (Sy id (GJ d.1 (atI d.2.2.1 id).2.1))),EB d.1 (Wl id (GJ d.1 (atI d.2.2.1 id).2.1)),true)
noncomputable def Oi (d:Ap) (id:Am):Ap×(List Ao)×Bool:=if Et d then aI d id else (Sx,[],false)
theorem MQ:DK ER=true:=by
 decide
theorem aJ {is:List Ar} (h:BF is=true) (id:Am):-1≤(atI is id).2.1∧(atI is id).2.1≤600:=by
 rcases KL is id with q | q
 ·exact (CC.1 ((CI h).1 _ q)).bal
 rw [q];exact ⟨by show (-1:Int)≤-1;omega,by show (-1:Int)≤600;omega⟩
theorem RC {is:List Ar} (h:BF is=true) {id:Am} (hi:Dx id=true) {b:Int} (hb:(atI is id).2.1≤b) (h0:0≤b) (h6:b≤600):CK (IT (atI is id) b)=true:=by
 rcases KL is id with q | q
 ·have hx:=CC.1 ((CI h).1 _ q);exact CC.2 ⟨hx.id,⟨by show -1≤b;omega,h6⟩,⟨hx.vbal.1,by have:=hx.vbal.2;show (atI is id).2.2.1≤b;omega⟩,hx.st,hx.cmd,hx.seq,hx.deps,hx.self,hx.none⟩
 rw [q];exact CC.2 ⟨hi,⟨by show -1≤b;omega,h6⟩,⟨by show (-1:Int)≤-1;omega,by show -1≤b;omega⟩,⟨by show (0:Int)≤0;omega,by show (0:Int)≤3;omega⟩,MQ,⟨by show (0:Int)≤0;omega,by show (0:Int)≤60;omega⟩,rfl,rfl,fun _=>⟨rfl,rfl,rfl,rfl,rfl⟩⟩
theorem XA (me b:Int):b≤GJ me b∧3≤GJ me b:=by
 unfold GJ nb Lf;split<;>omega
theorem Wm {d:Ap} (hd:NodeS d) (x:Ar) (hx:FT x) (l:AM) (hl:MN l):Iu (d.1,d.2.1,DL d.2.2.1 x,Da d.2.2.2 l):=by
 have h1:=CB hd.is;have h2:=hd.ls;refine ⟨?_,XY hd.sm hx,?_,fun y hy=>?_⟩
 ·have:=aG d.2.2.1 x;show (DL _ _).length≤_;omega
 ·have:=Ya d.2.2.2 l;show (Da _ _).length≤_;omega
 rcases Ly hy with q | q
 ·exact hd.lsm y q
 subst q;exact hl
theorem UD {d:Ap} (id:Am) (ho:Ok.ok d) (hn:Iu d):Io d id=some (Oi d id):=by
 unfold Io Oi;rw [show Gc _=_ from JQ (d:=d) ho,ob]
 cases hk:Et d with
 | false=>rfl
 | true =>
  have hf:=nodeF hk;have hs:=nodeF.s hf ho hn;have hll:=hf.ll;have hln:=CB hf.is;rw [aAe,aA3,if_pos rfl,show EU _=some d from FL hn,ob,show Kt _=_ from NL id,ob];unfold aI Ur
  cases hi:Dx id with
  | false=>rfl
  | true =>
   rw [aAe,aA3,aAz,show EI d.2.2.1 id=_ from FM om hs.sm id,ob];have hb:=aJ hf.is id;have hok:=fun b=>RC hf.is hi (b:=b);have hsx:=FG hs.sm id;generalize atI d.2.2.1 id=x at hb hok hsx;have hS:0≤Lf x.2.1∧Lf x.2.1≤1000:=by unfold Lf;split<;>omega
   have hw:3≤x.2.1→IntKind.wrap .i64 (x.2.1+1)=x.2.1+1:=fun _=>BT iR;rw [show (cond (decide (3≤x.2.1)) (some (.inl (IntKind.wrap .i64 (x.2.1+1)))) (some (.inl (3))):Option (Int ⊕ (Ap×List Ao×Bool)))=some (.inl (Lf x.2.1)) by
    unfold Lf;by_cases h3:3≤x.2.1
    ·rw [aA6 h3,aA8,if_pos h3,hw h3]
    ·rw [aA5 h3,aA3,if_neg h3]]
   refine aH hf.me hS ?_;rw [show nb d.1 (Lf x.2.1)=GJ d.1 x.2.1 from rfl];have hge:=XA d.1 x.2.1;generalize GJ d.1 x.2.1=b at hge
   cases q3:decide (x.2.2.2.1=3) with
   | true=>rfl
   | false =>
    cases q6:decide (600 < b) with
    | true=>rfl
    | false =>
     have h6:b≤600:=by have:=aDc q6;omega
     rw [aCm,aAi,CE,show Ht _ _=_ from JP (d:=d) (x:=id) om,ob,aAz,aAz,aAz];have h8:decide (8≤(d.2.2.2.length:Int))=decide (d.2.2.2.length=8):=by rw [aBn];simp only [aAd];omega
     have hat:decide (Db (fun y:AM=>Bx y.1 id) d.2.2.2 < 0)=(d.2.2.2.find? fun y=>Bx y.1 id).isNone:=by
      rcases Fg (fun y:AM=>Bx y.1 id) d.2.2.2 with ⟨h1,h2⟩ | ⟨k,l,h1,h2,h3⟩
      ·rw [h1,h2];rfl
      ·rw [h1,h3];exact aA5 om
     rw [h8,hat,Bool.and_comm];generalize ((decide (d.2.2.2.length=8)&&(d.2.2.2.find? fun y=>Bx y.1 id).isNone)||(decide (id.1=d.1)&&decide (d.2.1≤id.2)))=c
     cases c with
     | true=>rfl
     | false =>
      rw [aA3,if_neg aAb];refine AK (Hf hf.is (IT x b)) ?_;refine AK (LV (d:=(d.1,d.2.1,DL d.2.2.1 (IT x b),d.2.2.2)) (by show d.2.2.2.length≤_;omega) (Sy id b)) ?_;refine AK (FL (d:=(d.1,d.2.1,DL d.2.2.1 (IT x b),Da d.2.2.2 (Sy id b))) (Wm hs (IT x b) hsx (Sy id b) ⟨aAn _,aAn _⟩)) ?_;exact AK (UO (d.1,d.2.1,DL d.2.2.1 (IT x b),Da d.2.2.2 (Sy id b)) (m:=(6,0,0,id,b,ER,0,([]:List Am),0,0,false)) ⟨aAn _,aAn _⟩) rfl
theorem UE {d:Ap} (id:Am) (ho:Ok.ok d) (hn:Iu d):Ip d id=some (Oi d id):=by
 unfold Ip Oi;rw [show Fo _=_ from It (d:=d) ho,ob]
 cases hk:Et d with
 | false=>rfl
 | true =>
  have hf:=nodeF hk;have hs:=nodeF.s hf ho hn;have hll:=hf.ll;have hln:=CB hf.is;rw [aAe,aA3,if_pos rfl,show DO _=some d from Ff hn,ob,show DC d.2.2.1 id=_ from ED om hs.sm id,ob];unfold aI Ur;have hb:=aJ hf.is id;have hok:=fun hi b=>RC hf.is (id:=id) hi (b:=b);have hsx:=FG hs.sm id;have hor:=KL d.2.2.1 id;generalize atI d.2.2.1 id=x at hb hok hsx hor;have hS:0≤Lf x.2.1∧Lf x.2.1≤1000:=by unfold Lf;split<;>omega
  rw [show IntKind.wrap .i64 ((if 2 > x.2.1 then 2 else x.2.1)+1)=Lf x.2.1 by
   unfold Lf;split<;>split<;>rw [BT iR]<;>omega]
  refine aH hf.me hS ?_;rw [show nb d.1 (Lf x.2.1)=GJ d.1 x.2.1 from rfl];have hge:=XA d.1 x.2.1;generalize GJ d.1 x.2.1=b at hge;rw [show Eh _ _=_ from Lu (d:=d) (x:=id) om,ob,show Kv _=_ from NM id,ob]
  cases hi:Dx id with
  | false=>rfl
  | true =>
   rw [aAe,aAz,aAz]
   cases q3:decide (x.2.2.2.1=3) with
   | true=>rfl
   | false =>
    rw [aAi,CE,show Fm _ _=some (decide (id.1=d.1)&&decide (d.2.1≤id.2)) from rfl,ob,aAz,aAz];have h8:decide ((d.2.2.2.length:Int)=8)=decide (d.2.2.2.length=8):=by rw [aBn];simp only [aAd];omega
    have hat:decide (Db (fun y:AM=>Bx y.1 id) d.2.2.2 < 0)=(d.2.2.2.find? fun y=>Bx y.1 id).isNone:=by
     rcases Fg (fun y:AM=>Bx y.1 id) d.2.2.2 with ⟨h1,h2⟩ | ⟨k,l,h1,h2,h3⟩
     ·rw [h1,h2];rfl
     ·rw [h1,h3];exact aA5 om
    rw [h8,hat,Bool.and_comm ((d.2.2.2.find? fun y=>Bx y.1 id).isNone)]
    cases q6:decide (600 < b) with
    | true=>cases (decide (id.1=d.1)&&decide (d.2.1≤id.2))<;>rfl
    | false =>
     have h6:b≤600:=by have:=aDc q6;omega
     rw [aCm,aAz,Bool.or_comm];generalize ((decide (d.2.2.2.length=8)&&(d.2.2.2.find? fun y=>Bx y.1 id).isNone)||(decide (id.1=d.1)&&decide (d.2.1≤id.2)))=c
     cases c with
     | true=>rfl
     | false =>
      have hii:=IS hi;have hox:Ok.ok (IT x b):=by
       rcases hor with q | q
       ·have:=hs.ok.2.2.1.2 _ q;exact ⟨this.1,by show inR b;unfold inR;omega,this.2.2.1,this.2.2.2.1,this.2.2.2.2.1,this.2.2.2.2.2.1,this.2.2.2.2.2.2.1,trivial⟩
       ·rw [q];have z0:inR 0:=by unfold inR;omega
        have z1:inR (-1):=by unfold inR;omega
        exact ⟨⟨by show inR id.1;unfold inR;omega,by show inR id.2;unfold inR;omega⟩,by show inR b;unfold inR;omega,z1,z0,⟨z0,z0,z0,aAn _,aAn _,aAn _,z0,aAn _,fun x hx=>by cases hx⟩,z0,⟨aAn _,fun x hx=>by cases hx⟩,trivial⟩
      have hp:=Ia (d:=d) (x:=IT x b) hs.ok.2.2.1 hox hs.is hs.sm hsx;rw [hok hi b om om h6,if_pos rfl] at hp;rw [aA3,if_neg aAb];refine AK hp ?_;dsimp only;have hM:RB (Wl id b):=⟨aAn _,aAn _⟩;unfold Da
      cases hff:d.2.2.2.findIdx? fun y=>Bx y.1 (Sy id b).1 with
      | none =>
       rw [show Db (fun y:AM=>Bx y.1 id) d.2.2.2=-1 from Qy hff,show decide ((0:Int)≤-1)=false from rfl,aA3,BO (by simp;omega),ob];exact AK (Lw _ (m:=Wl id b) hM rfl) rfl
      | some k =>
       obtain ⟨h1,_⟩:=aBd.1 hff;rw [show Db (fun y:AM=>Bx y.1 id) d.2.2.2=(k:Int) from Nm hff,show decide ((0:Int)≤(k:Int))=true from aA6 om,aA8,By,aA1 h1,ob,ob,aB8];exact AK (Lw _ (m:=Wl id b) hM rfl) rfl
noncomputable def LW (x:Am) (c:BN) (y:Ar):Bool:=(!Bx y.1 x&&!decide (y.2.2.2.1=0))&&FF c y.2.2.2.2.1
noncomputable def LX (x:Am) (c:BN) (t:Int×List Am) (y:Ar):Int×List Am:=if LW x c y then (if t.1 < y.2.2.2.2.2.1+1 then y.2.2.2.2.2.1+1 else t.1,t.2++[y.1]) else t
noncomputable def Ch (l:List Ar) (x:Am) (c:BN):Int×List Am:=l.foldl (LX x c) (1,[])
theorem XB {x:Am} {c:BN} {t:Int×List Am} {y:Ar} (hy:InstF y) (ht:1≤t.1∧t.1≤61):1≤(LX x c t y).1∧(LX x c t y).1≤61:=by
 have:=hy.seq;unfold LX;split
 ·dsimp only;split<;>omega
 exact ht
theorem aK (x:Am) (c:BN) (t:Int×List Am) (y:Ar):(LX x c t y).2.length≤t.2.length+1:=by
 unfold LX;split
 ·simp
 omega
theorem PA {l:List Ar} {c:BN} (h:BF l=true) (ho:Ok.ok l) (hc:Ok.ok c) (x:Am):JG l x c=some (Ch l x c):=by
 have hl:=CB h;unfold JG Ch;rw [ob,HL (l:=l) (fun k (t:Int×List Am)=>(t.1,t.2,(k:Int))) (fun t y=>.inl (LX x c t y)) (fun t=>some t) (fun k t=>t.2.length≤k∧1≤t.1∧t.1≤61) (1,[]) (s0:=(1,[],0)) rfl ⟨aAu _,by omega,by omega⟩,Pe]
 ·intro k t y hy ⟨ht1,ht2⟩;have hm:=aAj hy;have hlt:=(aA2.1 hy).1;have hyf:=CC.1 ((CI h).1 y hm);have hyo:=ho.2 y hm;have:=aK x c t y;refine .inl ⟨_,rfl,?_,by omega,XB hyf ht2⟩;have hs:=hyf.seq;have w1:IntKind.wrap .i64 (y.2.2.2.2.2.1+1)=y.2.2.2.2.2.1+1:=BT iR;simp only [Dr hlt,aA8,By,hy,ob,BX (show k < 9223372036854775807 by omega)];rw [show (decide (y.1.1=x.1)&&(decide (y.1.2=x.2)&&true))=Bx y.1 x from rfl];unfold LX LW
  cases Bx y.1 x with
  | true=>rfl
  | false =>
   simp only [aAi,CE,ob,aAz,aBc]
   cases decide (y.2.2.2.1=0) with
   | true=>rfl
   | false =>
    simp only [aAi,CE,ob,aAz,aBc];rw [show ME _ _=some (FF c y.2.2.2.2.1) from Wj hc hyo.2.2.2.2.1,ob]
    cases FF c y.2.2.2.2.1 with
    | false=>rfl
    | true =>
     rw [aAe,aA3,BO (by simp;omega),ob,if_pos rfl,w1];by_cases hq:t.1 < y.2.2.2.2.2.1+1
     ·rw [aA6 hq,aA8,if_pos hq]
     ·rw [aA5 hq,aA3,if_neg hq]
 intro t ht;simp only [Ds];rfl
theorem PB {l:List Ar} {c:BN} (h:BF l=true) (ho:Ok.ok l) (hc:Ok.ok c) (x:Am):JK l x c=some (Ch l x c):=by
 have hl:=CB h;unfold JK Ch;rw [Hu ho,h,ob,aAe,aA3,ob,HL (l:=l) (fun k (t:Int×List Am)=>(t.1 - 1,t.2,(k:Int))) (fun t y=>.inl (LX x c t y)) (fun t=>some t) (fun k t=>t.2.length≤k∧1≤t.1∧t.1≤61) (1,[]) (s0:=(0,[],0)) rfl ⟨aAu _,by omega,by omega⟩,Pe]
 ·intro k t y hy ⟨ht1,ht2⟩;have hm:=aAj hy;have hlt:=(aA2.1 hy).1;have hyf:=CC.1 ((CI h).1 y hm);have hyo:=ho.2 y hm;have:=aK x c t y;refine .inl ⟨_,rfl,?_,by omega,XB hyf ht2⟩;have hs:=hyf.seq;simp only [Dr hlt,aA8,By,hy,ob,BX (show k < 9223372036854775807 by omega)];rw [show (decide (y.1.1=x.1)&&(decide (y.1.2=x.2)&&true))=Bx y.1 x from rfl];unfold LX LW
  cases Bx y.1 x with
  | true=>rfl
  | false =>
   cases decide (y.2.2.2.1=0) with
   | true=>rfl
   | false =>
    simp only [aAi,CE,ob,aBc];rw [show OR _ _=some (FF y.2.2.2.2.1 c) from gU hyo.2.2.2.2.1 hc,ob,Sv]
    cases FF c y.2.2.2.2.1 with
    | false=>rfl
    | true =>
     rw [aA8,BO (by simp;omega),ob,if_pos rfl];by_cases hq:t.1 < y.2.2.2.2.2.1+1
     ·rw [if_pos (show y.2.2.2.2.2.1 > t.1 - 1 by omega),if_pos hq];dsimp only;rw [show y.2.2.2.2.2.1+1 - 1=y.2.2.2.2.2.1 by omega]
     ·rw [if_neg (show ¬ y.2.2.2.2.2.1 > t.1 - 1 by omega),if_neg hq]
 intro t ht;simp only [Ds];rw [aA3,BT iR,show t.1 - 1+1=t.1 by omega]
theorem eL (x:Am) (c:BN):∀ (l:List Ar) (t:Int×List Am),(l.foldl (LX x c) t).2=t.2++(l.filter (LW x c)).map (·.1)
 | [],t=>by simp
 | y::l,t=>by
  rw [aCq,eL x c l,aBp];unfold LX
  cases LW x c y<;>simp
theorem eM {x:Am} {c:BN}:∀ {l:List Ar} {t:Int×List Am},(∀ y,y∈l→InstF y)→1≤t.1∧t.1≤61→1≤(l.foldl (LX x c) t).1∧(l.foldl (LX x c) t).1≤61
 | [],_,_,ht=>ht
 | y::l,t,h,ht=>eM (l:=l) (fun z hz=>h z (aA4 _ hz)) (XB (h y (aA9 ..)) ht)
theorem aL {l:List Am} (h1:∀ x,x∈l→Dx x=true) (h2:Gr.Up BY l):CO l=true:=by
 unfold CO;rw [aAw];intro k hk;rw [aAv] at hk;have hx:l[k]?=some l[k]:=aA1 hk;unfold QF;rw [hx];simp only [aAg,aBg,aAd];refine ⟨h1 _ (aBw hk),?_⟩;rcases aD1 k with h0 | h0
 ·exact .inl h0
 right;rw [aA1 (show k - 1 < l.length by omega)];exact aBv.1 h2 (k - 1) k om hk om
structure AttF (l:List Ar) (x:Am) (c:BN):Prop where
 seq:1≤(Ch l x c).1∧(Ch l x c).1≤61
 deps:CO (Ch l x c).2=true
 self:((Ch l x c).2.any fun y=>Bx y x)=false
 mem:∀ y,y∈(Ch l x c).2↔∃ z,z∈l∧z.1=y∧LW x c z=true
theorem EE {l:List Ar} (h:BF l=true) (x:Am) (c:BN):AttF l x c:=by
 obtain ⟨h1,h2⟩:=CI h;have hm:(Ch l x c).2=(l.filter (LW x c)).map (·.1):=by unfold Ch;rw [eL];simp
 have hmem:∀ y,y∈(Ch l x c).2↔∃ z,z∈l∧z.1=y∧LW x c z=true:=fun y=>by
  rw [hm,aBz];constructor
  ·rintro ⟨z,hz,e⟩;exact ⟨z,(aAs.1 hz).1,e,(aAs.1 hz).2⟩
  ·rintro ⟨z,hz,e,hc⟩;exact ⟨z,aAs.2 ⟨hz,hc⟩,e⟩
 refine ⟨eM (fun y hy=>CC.1 (h1 y hy)) ⟨by show (1:Int)≤1;omega,by show (1:Int)≤61;omega⟩,aL (fun y hy=>?_) ?_,?_,hmem⟩
 ·obtain ⟨z,hz,rfl,_⟩:=(hmem y).1 hy;exact (CC.1 (h1 z hz)).id
 ·rw [hm];exact aDr.2 (h2.filter _)
 rw [aD5];intro y hy;obtain ⟨z,hz,rfl,hcl⟩:=(hmem y).1 hy;unfold LW at hcl;simp only [aAg,aB4] at hcl;rw [hcl.1.1];exact aAb
noncomputable def Hp (d:Ap) (c:BN):Ar:=((d.1,d.2.1),d.1,d.1,1,c,(Ch d.2.2.1 (d.1,d.2.1) c).1,(Ch d.2.2.1 (d.1,d.2.1) c).2,true)
noncomputable def GP (d:Ap) (c:BN):AM:=((d.1,d.2.1),d.1,1,(Ch d.2.2.1 (d.1,d.2.1) c).1,(Ch d.2.2.1 (d.1,d.2.1) c).2,([]:List Int),true)
noncomputable def RD (d:Ap) (c:BN):Ao:=(1,0,0,(d.1,d.2.1),d.1,c,(Ch d.2.2.1 (d.1,d.2.1) c).1,(Ch d.2.2.1 (d.1,d.2.1) c).2,0,(-1),false)
noncomputable def Kc (d:Ap) (c:BN):Bool:=(((!DK c||decide (c.1=0))||decide (6 < d.2.1))||decide (8≤d.2.2.2.length))||decide (60 < (Ch d.2.2.1 (d.1,d.2.1) c).1)
noncomputable def XC (d:Ap) (c:BN):Ap×(List Ao)×Bool:=if Kc d c then (d,[],false) else
 ((d.1,d.2.1+1,DL d.2.2.1 (Hp d c),d.2.2.2++[GP d c]),EB d.1 (RD d c),true)
noncomputable def MR (d:Ap) (c:BN):Ap×(List Ao)×Bool:=if Et d then XC d c else (Sx,[],false)
theorem Sz {d:Ap} (hf:NodeF d) {c:BN} (h:Kc d c=false):CK (Hp d c)=true:=by
 unfold Kc at h;simp only [aDt,aEw,aAm] at h;obtain ⟨⟨⟨⟨h1,h2⟩,h3⟩,h4⟩,h5⟩:=h;have ha:=EE hf.is (d.1,d.2.1) c;have hs:=ha.seq;have hm:=hf.me;have hx:=hf.nx;refine CC.2 ⟨?_,⟨by show -1≤d.1;omega,by show d.1≤600;omega⟩,⟨by show -1≤d.1;omega,by show d.1≤d.1;omega⟩,⟨by show (0:Int)≤1;omega,by show (1:Int)≤3;omega⟩,h1,⟨by show 0≤(Ch d.2.2.1 (d.1,d.2.1) c).1;omega,by show (Ch d.2.2.1 (d.1,d.2.1) c).1≤60;omega⟩,ha.deps,ha.self,fun h0=>by cases h0⟩;show Dx (d.1,d.2.1)=true;unfold Dx;simp only [aAg,aAd];omega
theorem JU {c:BN} (h:DK c=true):c.2.2.2.2.2.2.2.length≤4:=by
 unfold DK at h;by_cases h0:c.1=0
 ·rw [if_pos h0] at h;have:c=ER:=by
   exact aAr h
  rw [this];exact aAn _
 rw [if_neg h0] at h;simp only [aAg] at h;have:=h.2;by_cases h3:c.1=3
 ·rw [if_pos h3] at this;simp only [aAg,aAd] at this;omega
 rw [if_neg h3] at this;have:=aAr this;omega
theorem Wn {d:Ap} {c:BN} (ho:Ok.ok d) (hn:Iu d) (hc:Ok.ok c) (hno:(d.2.2.2.findIdx? fun y=>Bx y.1 (d.1,d.2.1))=none):JJ d c=some (MR d c):=by
 unfold JJ MR;rw [show Gc _=_ from JQ (d:=d) ho,ob]
 cases hk:Et d with
 | false=>rfl
 | true =>
  have hf:=nodeF hk;have hs:=nodeF.s hf ho hn;have hll:=hf.ll;have hln:=CB hf.is;have hnx:=hf.nx;rw [aAe,aA3,if_pos rfl,show EU _=some d from FL hn,ob];refine AK (PA (c:=c) hf.is ho.2.2.1 hc (d.1,d.2.1)) ?_;refine AK (LR hc) ?_;have h8:decide (8≤(d.2.2.2.length:Int))=decide (8≤d.2.2.2.length):=by rw [aBn];simp only [aAd];omega
  rw [h8];unfold XC;have hoi:=Sz (c:=c) hf;have ha:=EE hf.is (d.1,d.2.1) c
  cases hno':Kc d c with
  | true =>
   unfold Kc at hno';rw [hno'];rfl
  | false =>
   have hno2:=hno';unfold Kc at hno2;rw [hno2,aA3,if_neg aAb];have hco:DK c=true:=(CC.1 (hoi hno')).cmd;have hcs:=JU hco;have hdl:=Ea ha.deps;refine AK (Hl (c:=c) om) ?_;refine AK (Hf hf.is (Hp d c)) ?_;rw [ob,BO (by simp;omega),ob,aAa,BT iR];have hpl:Da d.2.2.2 (GP d c)=d.2.2.2++[GP d c]:=by unfold Da;rw [show (d.2.2.2.findIdx? fun y=>Bx y.1 (GP d c).1)=none from hno]
   refine AK (LV (d:=(d.1,d.2.1+1,DL d.2.2.1 (Hp d c),d.2.2.2)) (by show d.2.2.2.length≤_;omega) (GP d c)) ?_;have hsm:Iu (d.1,d.2.1+1,DL d.2.2.1 (Hp d c),Da d.2.2.2 (GP d c)):=Wm hs (Hp d c) ⟨by show c.2.2.2.2.2.2.2.length≤_;omega,by show (Ch _ _ _).2.length≤_;omega⟩ (GP d c) ⟨by show (Ch _ _ _).2.length≤_;omega,aAn _⟩;refine AK (FL hsm) ?_;refine AK (OG _ (x:=Hp d c) ⟨by show c.2.2.2.2.2.2.2.length≤_;omega,by show (Ch _ _ _).2.length≤_;omega⟩ 1 d.1) ?_;rw [hpl];rfl
theorem Wo {d:Ap} {c:BN} (ho:Ok.ok d) (hn:Iu d) (hc:Ok.ok c):JL d c=some (MR d c):=by
 unfold JL MR;rw [show Fo _=_ from It (d:=d) ho,ob]
 cases hk:Et d with
 | false=>rfl
 | true =>
  have hf:=nodeF hk;have hs:=nodeF.s hf ho hn;have hll:=hf.ll;have hln:=CB hf.is;have hnx:=hf.nx;rw [aAe,aA3,if_pos rfl,show DO _=some d from Ff hn,ob];refine AK (PB (c:=c) hf.is ho.2.2.1 hc (d.1,d.2.1)) ?_;refine AK (LQ hc) ?_;have h8:decide ((d.2.2.2.length:Int)=8)=decide (8≤d.2.2.2.length):=by rw [aBn];simp only [aAd];omega
  rw [h8];unfold XC;have hoi:=Sz (c:=c) hf;have ha:=EE hf.is (d.1,d.2.1) c
  cases hno':Kc d c with
  | true =>
   unfold Kc at hno';rw [hno'];rfl
  | false =>
   have hno2:=hno';unfold Kc at hno2;rw [hno2,aA3,if_neg aAb];have hco:DK c=true:=(CC.1 (hoi hno')).cmd;have hcs:=JU hco;have hdl:=Ea ha.deps;have hsq:=ha.seq;rw [BT iR];have hox:Ok.ok (Hp d c):=by
    refine ⟨⟨ho.1,ho.2.1⟩,ho.1,ho.1,by show inR 1;unfold inR;omega,hc,by show inR (Ch _ _ _).1;unfold inR;omega,⟨by show (Ch _ _ _).2.length≤_;omega,fun y hy=>?_⟩,trivial⟩;have:=IS ((CV ha.deps).1 y hy);exact ⟨by show inR y.1;unfold inR;omega,by show inR y.2;unfold inR;omega⟩
   have hsx:FT (Hp d c):=⟨by show c.2.2.2.2.2.2.2.length≤_;omega,by show (Ch _ _ _).2.length≤_;omega⟩;have hp:=Ia (d:=(d.1,d.2.1+1,d.2.2)) (x:=Hp d c) ho.2.2.1 hox hs.is hs.sm hsx;rw [hoi hno',if_pos rfl] at hp;refine AK hp ?_;refine AK (GH om) ?_;refine AK (BO (by simp;omega)) ?_;exact AK (Lw _ (m:=RD d c) hsx rfl) rfl
namespace Gr
variable {ι:Type} [DecidableEq ι]
theorem Wp {lt:ι→ι→Bool} (h:STO lt) {l m:List ι} (hl:Up lt l) (hs:∀ x,x∈l→x∈m):l.length≤m.length:=by
 have hn:=up_nodup h hl;clear hl
 induction l generalizing m with
 | nil=>simp
 | cons a l ih =>
  obtain ⟨n1,n2⟩:=aCp.1 hn;have ha:a∈m:=hs a (aA9 ..);have:=ih (m:=m.erase a) (fun x hx=>(aF8 (fun e=>n1 (by rw [← e];exact hx))).2 (hs x (aA4 _ hx))) n2;rw [aEt ha] at this;have hp:=List.length_pos_of_mem ha;simp only [aB5];omega
theorem up_same {lt:ι→ι→Bool} (h:STO lt) {l m:List ι} (hl:Up lt l) (hm:Up lt m) (hs:∀ x,x∈l→x∈m) (hlen:m.length≤l.length):∀ x,x∈m→x∈l:=by
 intro x hx;refine Classical.byContradiction fun hn=>?_;have:=Wp h hl (m:=m.erase x) fun y hy=>(aF8 (fun e=>hn (by rw [← e];exact hy))).2 (hs y hy);rw [aEt hx] at this;have hp:=List.length_pos_of_mem hx;omega
end Gr
def ddS (acc:List Am) (x:Am):List Am:=if acc.getLast?=some x then acc else acc++[x]
def ddF (l:List Am):List Am:=l.foldl ddS []
theorem MS (l:List Am) (x:Am):ddF (l++[x])=ddS (ddF l) x:=by unfold ddF;rw [aFp];rfl
theorem nZ (acc:List Am) (x:Am):(ddS acc x).getLast?=some x:=by
 unfold ddS;split
 ·assumption
 simp
theorem TH {α:Type} {P:List α→Prop} (h0:P []) (h1:∀ l x,P l→P (l++[x])):∀ l,P l:=fun l=>by
 have:∀ n (l:List α),l.length=n→P l:=fun n=>by
  induction n with
  | zero=>intro l hl;rw [aC0 hl];exact h0
  | succ n ih =>
   intro l hl;have hne:l≠[]:=fun e=>by rw [e] at hl;cases hl
   rw [← aEc hne];exact h1 _ _ (ih _ (by rw [List.length_dropLast,hl];rfl))
 exact this _ l rfl
theorem PD (l:List Am):(ddF l).getLast?=l.getLast?:=by
 refine TH (P:=fun l=>(ddF l).getLast?=l.getLast?) rfl (fun l x _=>?_) l;rw [MS,nZ];simp
theorem eN (l:List Am) (y:Am):y∈ddF l↔y∈l:=by
 refine TH (P:=fun l=>y∈ddF l↔y∈l) (by simp [ddF]) (fun l x ih=>?_) l;rw [MS];unfold ddS;split
 ·rename_i h;rw [ih,aB0,aAl];constructor
  ·exact .inl
  rintro (q | q)
  ·exact q
  subst q;rw [PD] at h;exact List.mem_of_getLast? h
 rw [aB0,aB0,ih]
theorem vL {l:List Am} (h:l.Pairwise fun a b=>BY b a=false):Gr.Up BY (ddF l):=by
 refine TH (P:=fun l=>(l.Pairwise fun a b=>BY b a=false)→Gr.Up BY (ddF l)) (fun _=>by simp [ddF]) (fun l x ih h=>?_) l h;obtain ⟨h1,_,h3⟩:=aDg.1 h;rw [MS];unfold ddS;split
 ·exact ih h1
 rename_i hn;refine aDg.2 ⟨ih h1,by simp,fun a ha b hb=>?_⟩;rw [aAl] at hb;subst hb;have ha':=(eN l a).1 ha;have hax:=h3 a ha' b (by simp);rcases Cw.tot a b with q | q | q
 ·exact q
 ·rw [hax] at q;cases q
 subst q;exfalso;apply hn;rw [PD];have hne:l≠[]:=fun e=>by rw [e] at ha';cases ha'
 rw [List.getLast?_eq_some_getLast hne];refine aC5 some ?_;have hl:BY a (l.getLast hne)=false:=h3 _ (List.getLast_mem hne) a (by simp);have hl':a=l.getLast hne∨BY (l.getLast hne) a=false:=by
  rw [← aEc hne,aB0,aAl] at ha';rcases ha' with q | q
  ·rw [← aEc hne] at h1;exact .inr ((aDg.1 h1).2.2 a q _ (by simp))
  ·exact .inl q
 rcases hl' with q | q
 ·exact q.symm
 rcases Cw.tot a (l.getLast hne) with r | r | r
 ·rw [hl] at r;cases r
 ·rw [q] at r;cases r
 exact r.symm
theorem FH {α:Type} {l:List α} {k:Nat} {x:α} (h:l[k]?=some x):l.take (k+1)=l.take k++[x]:=by
 rw [aE7,h];rfl
theorem Yb {α:Type} {l:List α} {k:Nat} {x:α} (h:l[k]?=some x):(l.take (k+1)).getLast?=some x:=by
 rw [FH h];simp
theorem idq (a b:Am):(decide (a.1=b.1)&&(decide (a.2=b.2)&&true))=decide (a=b):=DD a b
theorem gX {α:Type} (l:List α) {i:Int} {k:Nat} (h:i=(k:Int)):idx l i=l[k]?:=by rw [h,By]
theorem gY {l:List Am} (hl:l.length≤1000):Fh l=some (ddF l):=by
 unfold Fh;by_cases h2:l.length < 2
 ·rw [aA6 (show (l.length:Int) < 2 by omega),aA8]
  match l,h2 with
  | [],_=>rfl
  | [x],_=>rfl
 rw [aA5 (show ¬ (l.length:Int) < 2 by omega),aA3];refine CN (fun s:Int=>∃ k:Nat,s=(k:Int)∧1≤k∧k≤l.length∧ddF (l.take k)=l.take k) (fun s=>(l.length - s).toNat) ?_ ⟨1,rfl,aAu _,by omega,?_⟩
 ·rintro _ ⟨k,rfl,hk1,hk,hd⟩;by_cases hlt:k < l.length
  ·have hx:l[k]?=some l[k]:=aA1 hlt;have hy:l[k - 1]?=some l[k - 1]:=aA1 om;generalize l[k]=x at hx;generalize l[k - 1]=y at hy;have hlast:(l.take k).getLast?=some y:=by
    have:=Yb hy
    rwa [show k - 1+1=k by omega] at this
   rw [aA6 (show (k:Int) < (l.length:Int) by omega),aA8,By,hx,ob,BT iR,gX l (k:=k - 1) om,hy,ob,idq];by_cases hxy:x=y
   ·right;subst hxy;rw [aA6 rfl,aA8,Ld om,ob];have a0:ddF (l.take (k+1))=l.take k:=by
     rw [FH hx,MS];unfold ddS;rw [if_pos (by rw [PD];exact hlast),hd]
    refine CN (s:=(l,(k:Int),(1:Int))) (fun s:List Am×Int×Int=>∃ i j:Nat,s.2.1=(i:Int)∧s.2.2=(j:Int)∧1≤j∧k+j≤l.length∧1≤i∧i≤k+j - 1∧s.1.length=l.length∧s.1.drop (k+j - 1)=l.drop (k+j - 1)∧s.1.take i=ddF (l.take (k+j))) (fun s=>(l.length - s.2.2).toNat) ?_ ⟨k,1,rfl,rfl,aAu _,by omega,hk1,by omega,rfl,rfl,a0.symm⟩;rintro ⟨m,i',j'⟩ ⟨i,j,h1,h3,hj1,hj,hi1,hi,hm,hdr,htk⟩;dsimp only at h1 h3 hm hdr htk ⊢;subst h1 h3;rw [hm,Ld om,ob];have hsub:((m.drop ((k:Int)).toNat).take ((l.length:Int).toNat - ((k:Int)).toNat))=m.drop k:=by
     rw [aB8,aB8,aBi (by rw [aC1,hm];exact aAu _)]
    rw [hsub];have hlen:((m.drop k).length:Int)=(l.length:Int) - (k:Int):=by rw [aC1,hm];omega
    by_cases hjl:k+j < l.length
    ·left;have hu:l[k+j]?=some l[k+j]:=aA1 hjl;have hv:l[k+j - 1]?=some l[k+j - 1]:=aA1 om;generalize l[k+j]=u at hu;generalize l[k+j - 1]=v at hv;have hu':(m.drop k)[j]?=some u:=by
      rw [aC2,← hu,show k+j=(k+j - 1)+1 by omega,← aC2,← aC2,hdr]
     have hv':(m.drop k)[j - 1]?=some v:=by
      rw [aC2,← hv,show k+(j - 1)=(k+j - 1)+0 by omega,← aC2,hdr,aC2,aEp]
     rw [aA6 (show (j:Int) < ((m.drop k).length:Int) by omega),aA8,By,hu',ob,BT iR,gX _ (k:=j - 1) om,hv',ob,idq,BT iR];have hlast':(l.take (k+j)).getLast?=some v:=by
      have:=Yb hv
      rwa [show k+j - 1+1=k+j by omega] at this
     have hnext:ddF (l.take (k+(j+1)))=ddS (ddF (l.take (k+j))) u:=by
      rw [show k+(j+1)=k+j+1 by omega,FH hu,MS]
     by_cases huv:u=v
     ·subst huv;rw [aA6 rfl,aAe,aA3,BT iR];refine ⟨_,rfl,⟨i,j+1,rfl,by simp,by omega,by omega,hi1,by omega,hm,?_,?_⟩,by dsimp only;omega⟩
      ·dsimp only;have:=aC5 (List.drop 1) hdr;rw [aDl,aDl] at this
       rwa [show k+(j+1) - 1=k+j - 1+1 by omega]
      dsimp only;rw [hnext,htk];unfold ddS;rw [if_pos (by rw [PD];exact hlast')]
     rw [aA5 huv,aAi,aA8,ob];have hmi:m[i]?=some m[i]:=aA1 om;rw [By,hmi,ob,ob,aB8,BT iR];refine ⟨_,rfl,⟨i+1,j+1,by simp,by simp,by omega,by omega,by omega,by omega,by simpa using hm,?_,?_⟩,by dsimp only;omega⟩
     ·dsimp only;rw [aEl om];have:=aC5 (List.drop 1) hdr;rw [aDl,aDl] at this
      rwa [show k+(j+1) - 1=k+j - 1+1 by omega]
     dsimp only;rw [hnext,← htk];unfold ddS;rw [if_neg,aE7,aBu om,aEk om]
     ·rfl
     rw [htk,PD,hlast'];intro e;exact huv (Option.some.inj e).symm
    right;have hje:k+j=l.length:=by omega
    rw [aA5 (show ¬ (j:Int) < ((m.drop k).length:Int) by omega),aA3,Ld om,ob,aA6 (show (i:Int) < (l.length:Int) by omega)];rw [show (Mj true:Option Unit)=some () from rfl,ob,ob];have hcl:(NV m (i:Int) (l.length:Int) ((0,0):Am)).take i=m.take i:=by
     unfold NV;rw [aB8,aCk (by rw [aB3];omega),List.take_take,Nat.min_self]
    have hcln:(NV m (i:Int) (l.length:Int) ((0,0):Am)).length=l.length:=by
     unfold NV;simp only [aB8,aAq,aB3,aE8,aC1];omega
    rw [Ld (by rw [hcln];omega),ob];rw [show ((0:Int)).toNat=0 from rfl,List.drop_zero,aB8,aG1,hcl,htk,hje,aDb];rfl
   left;rw [aA5 hxy,aA3,BT iR];refine ⟨_,rfl,⟨k+1,by simp,by omega,by omega,?_⟩,by omega⟩;rw [FH hx,MS,hd];unfold ddS;rw [if_neg (by rw [hlast];exact fun e=>hxy (Option.some.inj e).symm)]
  right;have:k=l.length:=by omega
  subst this;rw [aA5 (show ¬ (l.length:Int) < (l.length:Int) by omega),aA3];rw [aDb] at hd;rw [hd];rfl
 match l,h2 with
 | [],h=>exact absurd (by simp) h
 | x::r,_=>rfl
theorem Wq {a b:List Am} (ha:CO a=true) (hb:CO b=true):CO (Gr.join BY a b)=true:=by
 obtain ⟨h1,h2⟩:=CV ha;obtain ⟨h3,h4⟩:=CV hb;obtain ⟨h5,h6⟩:=Gr.join_facts Cw h2 h4;refine aL (fun x hx=>?_) h5;rcases (h6 x).1 hx with q | q
 ·exact h1 x q
 exact h3 x q
theorem aM {a b:List Am} (ha:CO a=true) (hb:CO b=true) (x:Am):x∈Gr.join BY a b↔x∈a∨x∈b :=
 (Gr.join_facts Cw (CV ha).2 (CV hb).2).2 x
theorem TI {a b:List Am} (ha:CO a=true) (hb:CO b=true):Lq a b=some (Gr.join BY a b):=by
 have hla:=Ea ha;have hlb:=Ea hb;unfold Lq;rw [OE om,ha,ob,OE om,hb];rw [aAe,aAi,CE,ob,aAe,aCm,aA3,ob,BO (by simp;omega),ob,aAa,BO om,ob];rw [show FQ (a++b) (fun z0 z1=>Du z0 z1)=some (IE BY (a++b)) from TG Cw KQ (by simp;omega),ob];have hp:=IF BY (a++b);have hs:=JB (Wi Cw) (a++b);rw [gY (by rw [hp.length_eq];simp;omega),ob];refine aC5 some (Gr.up_ext Cw (vL hs) (Gr.join_facts Cw (CV ha).2 (CV hb).2).1 fun x=>?_);rw [eN,hp.mem_iff,aB0,aM ha hb]
theorem Wr {a b:List Am} (ha:a.length≤9223372036854775807) {f:List Am→List Am→Option Bool} (hf:f a b=(cond (!decide ((a.length:Int)=(b.length:Int))) (some false) (Bn (fun s2:Int=>cond (decide (s2 < (a.length:Int))) (Option.bind (idx a s2) (fun y4=>Option.bind (idx b s2) (fun y5=>cond (!(decide (y4.1=y5.1)&&(decide (y4.2=y5.2)&&true))) (Option.map .inr (some false)) (some (.inl (IntKind.wrap .i64 (s2+1))))))) (Option.map .inr (some true))) 0))):f a b=some (decide (a=b)):=by
 rw [hf];by_cases hl:a.length=b.length
 ·rw [aA6 (show (a.length:Int)=(b.length:Int) by omega),aAe,aA3];refine CN (fun s:Int=>∃ k:Nat,s=(k:Int)∧k≤a.length∧a.take k=b.take k) (fun s=>(a.length - s).toNat) ?_ ⟨0,rfl,aAn _,rfl⟩;rintro _ ⟨k,rfl,hk,he⟩;by_cases hlt:k < a.length
  ·have hx:a[k]?=some a[k]:=aA1 hlt;have hy:b[k]?=some b[k]:=aA1 om;generalize a[k]=x at hx;generalize b[k]=y at hy;rw [aA6 (show (k:Int) < (a.length:Int) by omega),aA8,By,hx,ob,By,hy,ob,idq];by_cases hxy:x=y
   ·left;rw [aA6 hxy,aAe,aA3,BT iR];refine ⟨_,rfl,⟨k+1,by simp,by omega,by rw [FH hx,FH hy,he,hxy]⟩,by omega⟩
   right;rw [aA5 hxy,aAi,aA8,aA5]
   ·rfl
   intro e;subst e;rw [hx] at hy;exact hxy (Option.some.inj hy)
  right;rw [aA5 (show ¬ (k:Int) < (a.length:Int) by omega),aA3,aBi om,aBi om] at *;rw [aA6 he];rfl
 rw [aA5 (show ¬ (a.length:Int)=(b.length:Int) by omega),aAi,aA8,aA5];intro e;exact hl (by rw [e])
theorem SY {a b:List Am} (ha:a.length≤9223372036854775807):Nz a b=some (decide (a=b)):=Wr ha rfl
theorem XD {a b:List Am} (ha:a.length≤9223372036854775807):Ei a b=some (decide (a=b)):=Wr ha rfl
theorem lA {a b:List Am} (ha:CO a=true) (hb:CO b=true):decide ((Gr.join BY a b).length=a.length)=decide (Gr.join BY a b=a):=by
 rw [aBn,aAd,aAd];constructor
 ·intro h;obtain ⟨h5,h6⟩:=Gr.join_facts Cw (CV ha).2 (CV hb).2;refine Gr.up_ext Cw h5 (CV ha).2 fun x=>⟨fun hx=>?_,fun hx=>(h6 x).2 (.inl hx)⟩;exact Gr.up_same Cw (CV ha).2 h5 (fun y hy=>(h6 y).2 (.inl hy)) om x hx
 intro h;rw [h]
end Go.Proofs.SL
