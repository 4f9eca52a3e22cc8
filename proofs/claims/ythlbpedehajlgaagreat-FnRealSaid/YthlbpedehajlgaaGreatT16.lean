/- The texts of the proof, part 16. -/
import Derived.Test.YthlbpedehajlgaaGreatT15
set_option linter.all false
namespace Go.Proofs.SL
open Rl
theorem Yf {x:Bq} (h:NetF x) {i:Int} (hi:Nd i) (n:Ap) (P:List Ao) (j:Int):AV (x.1.set i.toNat n,P) j=if j=i then n else AV x j:=by
 have hl:=h.len;unfold Nd at hi;unfold AV Eo;by_cases hj:0≤j∧j < 3
 ·rw [if_pos hj,if_pos hj];by_cases e:j=i
  ·subst e;rw [if_pos rfl,aBu om];rfl
  ·rw [if_neg e,aFa om]
 ·rw [if_neg hj,if_neg hj,if_neg om]
noncomputable def nx (x:Bq) (i:Int) (n:Ap) (out:List Ao):Bq:=(x.1.set i.toNat n,FJ x.2 out)
theorem WE {x:Bq} (h:NetF x) {i:Int} (hi:Nd i) (n:Ap) (out:List Ao) (q:Am):vw (nx x i n out) q =
    ⟨DX (vw x q).I i (aiD (atI n.2.2.1 q)),DX (vw x q).L i ((fL n.2.2.2 q).map alD),
     fun b c d=>(vw x q).pre b c d∨rl out q 1 fun m=>Ek m=b∧JY m=c∧mSd m=d,
     fun b i d s=>(vw x q).preOk b i d s∨rl out q 2 fun m=>Ek m=b∧m.2.1=i∧mSd m=d∧Qn m=s,
     fun b c d=>(vw x q).acc b c d∨rl out q 3 fun m=>Ek m=b∧JY m=c∧mSd m=d,
     fun b i=>(vw x q).accOk b i∨rl out q 4 fun m=>Ek m=b∧m.2.1=i,
     fun c d=>(vw x q).com c d∨rl out q 5 fun m=>JY m=c∧mSd m=d,
     fun b i t=>(vw x q).prepOk b i t∨rl out q 7 fun m=>Ek m=b∧m.2.1=i∧aiM m=t⟩:=by
  unfold vw nx;simp only [lU,Yf h hi];congr 1
  · funext j;unfold DX;split<;>rfl
  · funext j;unfold DX;split<;>rfl
theorem XJ {me:Int} {m:Ao} {q:Am} {k:Int} {f:Ao→Prop} (h:m.1≠k):rl (EB me m) q k f↔False:=by
 unfold rl;refine ⟨?_,False.elim⟩;rintro ⟨x,hx,h1,_⟩;obtain ⟨t,_,_,rfl⟩:=HS hx;exact h h1
theorem sZ {x:Bq} (h:NetF x) {i:Int} (hi:Nd i) (n:Ap) (m:Ao) (h2:m.1≠2) (h4:m.1≠4) (h7:m.1≠7):vw (nx x i n (EB i m)) (mId m) =
  { vw x (mId m) with I:=DX (vw x (mId m)).I i (aiD (atI n.2.2.1 (mId m))),L:=DX (vw x (mId m)).L i ((fL n.2.2.2 (mId m)).map alD),pre:=fun b c d=>(vw x (mId m)).pre b c d∨(m.1=1∧b=Ek m∧c=JY m∧d=mSd m),acc:=fun b c d=>(vw x (mId m)).acc b c d∨(m.1=3∧b=Ek m∧c=JY m∧d=mSd m),com:=fun c d=>(vw x (mId m)).com c d∨(m.1=5∧c=JY m∧d=mSd m) }:=by
 rw [WE h hi];simp only [XJ h2,XJ h4,XJ h7,or_false];congr 1
 ·funext b c d;rw [Ux hi _ _ _ _ (fun _ _=>aB6)];apply propext;simp only [LU,eq_comm (a:=b),eq_comm (a:=c),eq_comm (a:=d)];simp
 ·funext b c d;rw [Ux hi _ _ _ _ (fun _ _=>aB6)];apply propext;simp only [LU,eq_comm (a:=b),eq_comm (a:=c),eq_comm (a:=d)];simp
 ·funext c d;rw [Ux hi _ _ _ _ (fun _ _=>aB6)];apply propext;simp only [LU,eq_comm (a:=c),eq_comm (a:=d)];simp
theorem TX {x:Bq} (h:NetF x) {i:Int} (hi:Nd i) {n:Ap} {k b z1 z2 st vb sq:Int} {c:BN} {ds:List Am} {sm:Bool} {q:Am} {y:Ar} {lo:Option AM} (hy:atI n.2.2.1 q=y) (hlo:fL n.2.2.2 q=lo) (h2:k≠2) (h4:k≠4) (h7:k≠7) :
  vw (nx x i n (EB i (k,z1,z2,q,b,c,sq,ds,st,vb,sm))) q={ vw x q with I:=DX (vw x q).I i (aiD y),L:=DX (vw x q).L i (lo.map alD),pre:=fun b' c' d'=>(vw x q).pre b' c' d'∨(k=1∧b'=b∧c'=c∧d'=(sq,ds)),acc:=fun b' c' d'=>(vw x q).acc b' c' d'∨(k=3∧b'=b∧c'=c∧d'=(sq,ds)),com:=fun c' d'=>(vw x q).com c' d'∨(k=5∧c'=c∧d'=(sq,ds)) }:=by
 subst hy hlo;exact sZ h hi n (k,z1,z2,q,b,c,sq,ds,st,vb,sm) h2 h4 h7
theorem wH {x:Bq} (h:NetF x) {i:Int} (hi:Nd i) (n:Ap) (m:Ao):vw (nx x i n [m]) (mId m) =
    ⟨DX (vw x (mId m)).I i (aiD (atI n.2.2.1 (mId m))),DX (vw x (mId m)).L i ((fL n.2.2.2 (mId m)).map alD),
     fun b c d=>(vw x (mId m)).pre b c d∨(m.1=1∧b=Ek m∧c=JY m∧d=mSd m),
     fun b i d s=>(vw x (mId m)).preOk b i d s∨(m.1=2∧b=Ek m∧i=m.2.1∧d=mSd m∧s=Qn m),
     fun b c d=>(vw x (mId m)).acc b c d∨(m.1=3∧b=Ek m∧c=JY m∧d=mSd m),
     fun b i=>(vw x (mId m)).accOk b i∨(m.1=4∧b=Ek m∧i=m.2.1),
     fun c d=>(vw x (mId m)).com c d∨(m.1=5∧c=JY m∧d=mSd m),
     fun b i t=>(vw x (mId m)).prepOk b i t∨(m.1=7∧b=Ek m∧i=m.2.1∧t=aiM m)⟩:=by
  rw [WE h hi];simp only [wG,true_and];congr 1<;>(funext;apply propext)<;>grind
theorem WF {x:Bq} (h:NetF x) {i:Int} (hi:Nd i) (n:Ap) (q:Am):vw (nx x i n []) q =
  { vw x q with I:=DX (vw x q).I i (aiD (atI n.2.2.1 q)),L:=DX (vw x q).L i ((fL n.2.2.2 q).map alD) }:=by
 rw [WE h hi];simp only [wF,or_false]
theorem iT {x:Bq} (h:NetF x) {i:Int} (hi:Nd i) {n:Ap} {k f b to st vb sq:Int} {c:BN} {ds:List Am} {sm:Bool} {q:Am} {y:Ar} {lo:Option AM} (hy:atI n.2.2.1 q=y) (hlo:fL n.2.2.2 q=lo) (h1:k≠1) (h3:k≠3) (h5:k≠5) :
  vw (nx x i n [(k,f,to,q,b,c,sq,ds,st,vb,sm)]) q={ vw x q with I:=DX (vw x q).I i (aiD y),L:=DX (vw x q).L i (lo.map alD),preOk:=fun b' i' d' s'=>(vw x q).preOk b' i' d' s'∨(k=2∧b'=b∧i'=f∧d'=(sq,ds)∧s'=sm),accOk:=fun b' i'=>(vw x q).accOk b' i'∨(k=4∧b'=b∧i'=f),prepOk:=fun b' i' t=>(vw x q).prepOk b' i' t∨(k=7∧b'=b∧i'=f∧t=⟨b,vb,st,c,(sq,ds),sm⟩) }:=by
 subst hy hlo;refine (wH h hi n (k,f,to,q,b,c,sq,ds,st,vb,sm)).trans ?_;simp only [h1,h3,h5,false_and,or_false];rfl
theorem wI {x:Bq} (h:NetF x) {i:Int} (hi:Nd i) {n:Ap} {out:List Ao} {q:Am} (ho:∀ m,m∈out→mId m≠q) (h1:atI n.2.2.1 q=atI (AV x i).2.2.1 q) (h2:fL n.2.2.2 q=fL (AV x i).2.2.2 q):vw (nx x i n out) q=vw x q:=by
 have e:∀ k f,rl out q k f↔False:=fun k f=>⟨fun ⟨m,a,_,b,_⟩=>ho m a b,False.elim⟩;rw [WE h hi];simp only [e,or_false];unfold vw;simp only [];congr 1
 ·funext j;unfold DX;split
  ·rename_i q;rw [q,h1]
  ·rfl
 ·funext j;unfold DX;split
  ·rename_i q;rw [q,h2]
  ·rfl
abbrev E0 (q:Am) (hq:Nd q.1):En0 BN:=⟨q.1,hq,ER⟩
noncomputable def En (x:Bq) (q:Am) (hq:Nd q.1) (e f:Am):EnvR BN SDt :=
 ⟨E0 q hq,(0,[]),fun d=>e∈d.2,fun i c=>e∈(Ch (AV x i).2.2.1 q c).2,fun d=>¬ f∈d.2,fun i c=>¬ f∈(Ch (AV x i).2.2.1 q c).2⟩
structure Stp (x:Bq) (i:Int) (n:Ap) (out:List Ao):Prop where
 tr:∀ q (hq:Nd q.1) e f,vw (nx x i n out) q=vw x q∨Tr (En x q hq e f) (vw x q) (vw (nx x i n out) q)
 sn:∀ m,m∈out→(m.1=1∨m.1=3∨m.1=6→m.2.1=i∧i=ldr (mId m).1 (Ek m))∧(m.1=6→3≤Ek m∧Ek m≤(atI n.2.2.1 (mId m)).2.1)
structure NI (x:Bq):Prop where
 f:NetF x
 inv:∀ q (hq:Nd q.1),Inv (E0 q hq) (vw x q)
 sn:∀ m,m∈x.2→(m.1=1∨m.1=3∨m.1=6→m.2.1=ldr (mId m).1 (Ek m))∧(m.1=6→3≤Ek m∧Ek m≤(atI (AV x m.2.1).2.2.1 (mId m)).2.1)
theorem Gv {x:Bq} {i:Int} (hi:Nd i):AV x i=Eo x i:=if_pos hi
theorem XK {q:Am} (h:Dx q=true):Nd q.1:=by have:=IS h;unfold Nd;omega
theorem Hy {x:Bq} (h:NetF x) {i:Int} (hi:Nd i) {n:Ap} {out:List Ao} {q:Am} (ho:∀ m,m∈out→mId m=q) (h1:∀ p,p≠q→atI n.2.2.1 p=atI (AV x i).2.2.1 p) (h2:∀ p,p≠q→fL n.2.2.2 p=fL (AV x i).2.2.2 p)
  (ht:∀ (hq:Nd q.1) e f,Tr (En x q hq e f) (vw x q) (vw (nx x i n out) q)) (hs:∀ m,m∈out→(m.1=1∨m.1=3∨m.1=6→m.2.1=i∧i=ldr (mId m).1 (Ek m))∧(m.1=6→3≤Ek m∧Ek m≤(atI n.2.2.1 (mId m)).2.1)):Stp x i n out where
 tr p hp e f:=by
  by_cases hpq:p=q
  ·subst hpq;exact .inr (ht hp e f)
  ·exact .inl (wI h hi (fun m hm e=>hpq (e.symm.trans (ho m hm))) (h1 p hpq) (h2 p hpq))
 sn:=hs
theorem Rl.Tr.of {E:EnvR BN SDt} {s s1 s2:St BN SDt} (t:Tr E s s1) (e:s2=s1):Tr E s s2:=e ▸ t
theorem Nc {i:Int} {m0:Ao}:∀ m,m∈EB i m0→mId m=mId m0:=by
 intro m hm;obtain ⟨t,_,_,rfl⟩:=HS hm;rfl
theorem Ha {s t:St BN SDt} (hI:s.I=t.I) (hL:s.L=t.L) (h1:∀ b c d,s.pre b c d↔t.pre b c d) (h2:∀ b i d m,s.preOk b i d m↔t.preOk b i d m) (h3:∀ b c d,s.acc b c d↔t.acc b c d) (h4:∀ b i,s.accOk b i↔t.accOk b i) (h5:∀ c d,s.com c d↔t.com c d) (h6:∀ b i a,s.prepOk b i a↔t.prepOk b i a):s=t:=by
 obtain ⟨_,_,_,_,_,_,_,_⟩:=s;obtain ⟨_,_,_,_,_,_,_,_⟩:=t
 cases hI;cases hL
 congr 1
 ·funext b c d;exact propext (h1 b c d)
 ·funext b i d m;exact propext (h2 b i d m)
 ·funext b c d;exact propext (h3 b c d)
 ·funext b i;exact propext (h4 b i)
 ·funext c d;exact propext (h5 c d)
 ·funext b i a;exact propext (h6 b i a)
theorem PS {α:Type} {f:Int→α} {i:Int} {a b:α} (h:a=b):DX f i a=DX f i b:=by rw [h]
theorem LB {α:Type} {f:Int→α} {i:Int} {a:α} (h:a=f i):DX f i a=f:=by
 funext j;unfold DX;split
 ·rename_i e;rw [e,h]
 ·rfl
theorem Vu {x:Bq} (h:NetF x) {i:Int} (hi:Nd i) (id:Am):Stp x i (Ws (AV x i) id) [] :=
 Hy h hi (q:=id) (fun _ hm=>(by cases hm)) (fun _ _=>rfl) (fun p hp=>by unfold Ws;rw [Uy,if_neg (fun e=>hp e.symm)]) (fun hq e f=>by
  refine (Tr.drop i).of ?_;rw [WF h hi];exact Ha (LB rfl) (PS (by unfold Ws;rw [Uy,if_pos rfl];rfl)) (fun _ _ _=>aB6) (fun _ _ _ _=>aB6) (fun _ _ _=>aB6) (fun _ _=>aB6) (fun _ _=>aB6) (fun _ _ _=>aB6)) (fun _ hm=>by cases hm)
theorem oZ {x:Bq} (h:NetF x) {i:Int} (hi:Nd i):Stp x i ((AV x i).1,(AV x i).2.1,(AV x i).2.2.1,[]) [] where
 tr q hq e f:=by
  right;refine (Tr.drop i).of ?_;rw [WF h hi];exact Ha (LB rfl) (PS rfl) (fun _ _ _=>aB6) (fun _ _ _ _=>aB6) (fun _ _ _=>aB6) (fun _ _=>aB6) (fun _ _=>aB6) (fun _ _ _=>aB6)
 sn _ hm:=by cases hm
theorem Gw (l:List Ar) {x:Ar} {q:Am} (h:x.1=q):atI (DL l x) q=x:=by rw [lV,if_pos h]
theorem GQ (l:List Ar) {x:Ar} {q p:Am} (h:x.1=q) (hp:p≠q):atI (DL l x) p=atI l p:=by rw [lV,if_neg (fun e=>hp (e.symm.trans h))]
theorem RO (ls:List AM) {l:AM} {q:Am} (h:l.1=q):fL (Da ls l) q=some l:=by rw [lW,if_pos h]
theorem RP (ls:List AM) {l:AM} {q p:Am} (h:l.1=q) (hp:p≠q):fL (Da ls l) p=fL ls p:=by rw [lW,if_neg (fun e=>hp (e.symm.trans h))]
theorem SK (ls:List AM) (q:Am):fL (ES ls q) q=none:=by rw [Uy,if_pos rfl]
theorem SM (ls:List AM) {q p:Am} (hp:p≠q):fL (ES ls q) p=fL ls p:=by rw [Uy,if_neg (fun e=>hp e.symm)]
theorem KS {x:Bq} (h:NetF x) {i:Int} (hi:Nd i):(AV x i).1=i:=by rw [Gv hi];exact (h.at hi).2.2
theorem SN {x:Bq} {i:Int} {q:Am} {l:AM} (h:fL (AV x i).2.2.2 q=some l):(vw x q).L i=some (alD l):=by
 show (fL _ _).map alD=_;rw [h];rfl
theorem iU {x:Bq} {i:Int} {n:Ap} {k b z1 z2 st vb sq:Int} {c:BN} {ds:List Am} {sm:Bool} {q:Am} (h:i=ldr q.1 b) (h6:k≠6):∀ m,m∈EB i (k,z1,z2,q,b,c,sq,ds,st,vb,sm)→(m.1=1∨m.1=3∨m.1=6→m.2.1=i∧i=ldr (mId m).1 (Ek m))∧(m.1=6→3≤Ek m∧Ek m≤(atI n.2.2.1 (mId m)).2.1):=by
 intro m hm;obtain ⟨t,_,_,rfl⟩:=HS hm;exact ⟨fun _=>⟨rfl,h⟩,fun e=>absurd e h6⟩
theorem cB {x:Bq} (h:NI x) {i:Int} (hi:Nd i) {l0 l:AM} (hl:fL (AV x i).2.2.2 l.1=some l0) (hq:Nd l.1.1) (hb:l.2.1=l0.2.1) (hp:l0.2.2.1=1)
  (hk:((alD l0).frm≠[]∧(alD l).sd=(alD l0).sd)∨∃ k d sm,Nd k∧k≠i∧(vw x l.1).preOk l0.2.1 k d sm∧∀ e:Am,(e∈d.2→e∈(alD l).sd.2)∧(e∈(alD l0).sd.2→e∈(alD l).sd.2)∧(¬ e∈d.2→¬ e∈(alD l0).sd.2→¬ e∈(alD l).sd.2)) :
  Stp x i (GI (AV x i) l).1 (GI (AV x i) l).2:=by
 unfold GI;by_cases e:(atI (AV x i).2.2.1 l.1).2.1=l.2.1
 ·rw [if_pos e,KS h.f hi];have hid:(MP (atI (AV x i).2.2.1 l.1) l).1=l.1:=EX _ _;have hld:=((h.inv l.1 hq).ld i (alD l0) hi (SN hl)).1;refine Hy h.f hi (q:=l.1) Nc (fun p hp=>GQ _ hid hp) (fun p hp=>RP _ rfl hp) (fun hq e1 f1=>?_) (iU (x:=x) (hld.trans (by rw [show (alD l0).bal=l.2.1 from hb.symm])) om);refine (Tr.take i (alD l0) (alD l).sd l.2.2.2.2.2.2 hi (SN hl) hp (e.trans hb) ?_).of ?_
  ·rcases hk with hk | ⟨k,d,sm,k1,k2,k3,k4⟩
   ·exact .inl hk
   ·exact .inr ⟨k,d,sm,k1,k2,k3,(k4 e1).1,(k4 e1).2.1,(k4 f1).2.2⟩
  ·rw [TX h.f hi (Gw _ hid) (RO _ rfl) om om om];rw [show (alD l0).bal=l.2.1 from hb.symm];exact Ha rfl rfl (fun _ _ _=>by simp) (fun _ _ _ _=>aB6) (fun _ _ _=>by simp;rfl) (fun _ _=>aB6) (fun _ _=>by simp) (fun _ _ _=>aB6)
 ·rw [if_neg e];exact Vu h.f hi l.1
theorem pA {x:Bq} (h:NI x) {i:Int} (hi:Nd i) (id:Am) (hr:(KR (AV x i) id).2.2=true):Stp x i (KR (AV x i) id).1 (KR (AV x i) id).2.1:=by
 unfold KR at hr ⊢;by_cases hn:Et (AV x i)=true
 ·rw [if_pos hn] at hr ⊢;unfold Wk at hr ⊢
  cases hf:(AV x i).2.2.2.find? fun y=>Bx y.1 id with
  | none=>rw [hf] at hr;cases hr
  | some l =>
   rw [hf] at hr;simp only [] at hr ⊢;by_cases hc:(decide (l.2.2.1=1)&&!decide ((l.2.2.2.2.2.1.length:Int)=0))=true
   ·rw [if_pos hc];simp only [aAg,aB4,aAd,aAm] at hc;have hl:fL (AV x i).2.2.2 id=some l:=hf;obtain ⟨hm,hid⟩:=Uz hl;have hN:=nodeF hn;obtain ⟨k,hk⟩:=aBe hm;have hlf:=(hN.ld k l hk).1;subst hid;exact cB h hi hl (XK hlf.id) rfl hc.1 (.inl ⟨fun e=>hc.2 (by rw [show l.2.2.2.2.2.1=[] from e];rfl),rfl⟩)
   ·rw [if_neg hc] at hr;cases hr
 ·rw [if_neg hn] at hr;cases hr
theorem iV {me b:Int} (hm:Nd me):b < GJ me b∧3≤GJ me b∧GJ me b % 3=me:=by
 unfold GJ nb Lf Nd at *;split<;>omega
theorem tA {x:Bq} (h:NI x) {i:Int} (hi:Nd i) (id:Am) (hr:(Oi (AV x i) id).2.2=true):Stp x i (Oi (AV x i) id).1 (Oi (AV x i) id).2.1:=by
 unfold Oi at hr ⊢;by_cases hn:Et (AV x i)=true
 ·rw [if_pos hn] at hr ⊢;unfold aI at hr ⊢;by_cases hc:Ur (AV x i) id=true
  ·rw [if_pos hc] at hr;cases hr
  ·rw [if_neg hc,KS h.f hi];have hid:(IT (atI (AV x i).2.2.1 id) (GJ i (atI (AV x i).2.2.1 id).2.1)).1=id:=EX _ _;have hb:=iV (b:=(atI (AV x i).2.2.1 id).2.1) hi;have hst:(atI (AV x i).2.2.1 id).2.2.2.1≠3:=fun e=>hc (by unfold Ur;simp [e]);refine Hy h.f hi (q:=id) Nc (fun p hp=>GQ _ hid hp) (fun p hp=>RP _ rfl hp) (fun hq e1 f1=>?_) ?_
   ·refine (Tr.rcv i _ hi hb.1 hb.2.1 hb.2.2 hst).of ?_;unfold Wl;rw [TX h.f hi (Gw _ hid) (RO _ rfl) om om om];exact Ha rfl rfl (fun _ _ _=>by simp) (fun _ _ _ _=>aB6) (fun _ _ _=>by simp) (fun _ _=>aB6) (fun _ _=>by simp) (fun _ _ _=>aB6)
   ·intro m hm;obtain ⟨t,_,_,rfl⟩:=HS hm;refine ⟨fun _=>⟨rfl,?_⟩,fun _=>⟨hb.2.1,?_⟩⟩
    ·show i=ldr id.1 (GJ i _);unfold ldr;rw [if_neg om];exact hb.2.2.symm
    ·show GJ i _≤(atI (DL _ _) id).2.1;rw [Gw _ hid];exact aFi _
 ·rw [if_neg hn] at hr;cases hr
theorem tB {x:Bq} (h:NI x) {i:Int} (hi:Nd i) (c:BN) (hr:(MR (AV x i) c).2.2=true):Stp x i (MR (AV x i) c).1 (MR (AV x i) c).2.1:=by
 unfold MR at hr ⊢;by_cases hn:Et (AV x i)=true
 ·rw [if_pos hn] at hr ⊢;unfold XC at hr ⊢;by_cases hc:Kc (AV x i) c=true
  ·rw [if_pos hc] at hr;cases hr
  ·rw [if_neg hc,KS h.f hi];have hG:GN (AV x i):=by rw [Gv hi];exact (h.f.at hi).2.1
   have hme:=KS h.f hi;have hid:(Hp (AV x i) c).1=(i,(AV x i).2.1):=by unfold Hp;rw [hme]
   have hidl:(GP (AV x i) c).1=(i,(AV x i).2.1):=by unfold GP;rw [hme]
   have q0:c≠ER:=fun e=>hc (by unfold Kc;rw [e];simp [ER]);have hno:∀ y,y∈(AV x i).2.2.1→y.1≠(i,(AV x i).2.1):=fun y hy e=>by
    have:=hG.f.own y hy (by rw [e,hme]);rw [e] at this;exact Int.lt_irrefl _ this
   have hat:atI (AV x i).2.2.1 (i,(AV x i).2.1)=((i,(AV x i).2.1),(-1),(-1),0,(0,0,0,aA0,aA0,aA0,0,([]:List ByteArray)),0,([]:List Am),false):=by
    unfold atI Hv;rw [RN hno]
   have hfl:fL (AV x i).2.2.2 (i,(AV x i).2.1)=none:=by
    unfold fL;rw [aCs];intro l hl e;have:=hG.kn l hl;rw [EJ.1 e] at this;unfold unk at this;rw [hme] at this;simp at this
   refine Hy h.f hi (q:=(i,(AV x i).2.1)) ?_ (fun p hp=>GQ _ hid hp) (fun p hp=>?_) (fun hq e1 f1=>?_) ?_
   ·intro m hm;obtain ⟨t,_,_,rfl⟩:=HS hm;show ((AV x i).1,(AV x i).2.1)=_;rw [hme]
   ·rw [lX,hidl,if_neg (fun e=>hp e.symm)]
    cases fL (AV x i).2.2.2 p<;>rfl
   ·have hI:((vw x (i,(AV x i).2.1)).I i)=aiD ((i,(AV x i).2.1),(-1),(-1),0,(0,0,0,aA0,aA0,aA0,0,([]:List ByteArray)),0,([]:List Am),false):=by
     show aiD (atI _ _)=_;rw [hat]
    refine (Tr.offer c ((Ch (AV x i).2.2.1 (i,(AV x i).2.1) c).1,(Ch (AV x i).2.2.1 (i,(AV x i).2.1) c).2) ?_ ?_ (fun q=>q) (fun q=>q) q0).of ?_
    ·show ((vw x (i,(AV x i).2.1)).I i).bal < 0;rw [hI];show (-1:Int) < 0;omega
    ·show ((vw x (i,(AV x i).2.1)).I i).st=0;rw [hI];rfl
    ·unfold RD;rw [hme,TX h.f hi (Gw _ hid) (show _=some (GP (AV x i) c) by rw [lX,hfl,hidl,if_pos rfl];rfl) om om om];unfold Hp GP;rw [hme];exact Ha rfl rfl (fun _ _ _=>by simp;rfl) (fun _ _ _ _=>aB6) (fun _ _ _=>by simp) (fun _ _=>aB6) (fun _ _=>by simp) (fun _ _ _=>aB6)
   ·unfold RD;rw [hme];exact iU (x:=x) (by unfold ldr Nd at *;rw [if_pos om]) om
 ·rw [if_neg hn] at hr;cases hr
structure Gt (x:Bq) (i:Int) (m:Ao):Prop where
 h:NI x
 hi:Nd i
 mem:m∈x.2
 to:m.2.2.1=i
theorem Gt.F {x:Bq} {i:Int} {m:Ao} (g:Gt x i m):MsgF m:=g.h.f.pool m g.mem
theorem Gt.N {x:Bq} {i:Int} {m:Ao} (g:Gt x i m):GN (AV x i):=by rw [Gv g.hi];exact (g.h.f.at g.hi).2.1
theorem Gt.ne {x:Bq} {i:Int} {m:Ao} (g:Gt x i m) (hk:m.1=1∨m.1=3∨m.1=6):i≠ldr (mId m).1 (Ek m):=fun e=>by
 have:=(g.h.sn m g.mem).1 hk;exact g.F.ne (by rw [this,← e,g.to])
theorem iW {x:Bq} {i:Int} {n:Ap} {m0:Ao} (h1:m0.1≠1) (h3:m0.1≠3) (h6:m0.1≠6):∀ m,m∈[m0]→(m.1=1∨m.1=3∨m.1=6→m.2.1=i∧i=ldr (mId m).1 (Ek m))∧(m.1=6→3≤Ek m∧Ek m≤(atI n.2.2.1 (mId m)).2.1):=by
 intro m hm;rw [aAl] at hm;subst hm;exact ⟨fun q=>by omega,fun q=>absurd q h6⟩
theorem WL {m0:Ao} {q:Am} (h:mId m0=q):∀ m,m∈[m0]→mId m=q:=by
 intro m hm;rw [aAl] at hm;rw [hm,h]
theorem lY {a b:List Am} (ha:CO a=true) (hb:CO b=true) (hl:(Gr.join BY a b).length=a.length):Gr.join BY a b=a:=by
 have hu:=(CV ha).2;have hj:=Gr.join_facts Cw hu (CV hb).2;have:=Gr.up_same Cw hu hj.1 (fun x q=>(hj.2 x).2 (.inl q)) om;exact Gr.up_ext Cw hj.1 hu fun x=>⟨this x,fun q=>(hj.2 x).2 (.inl q)⟩
theorem tC {x:Bq} {i:Int} {m:Ao} (g:Gt x i m) (hk:m.1=1) (hr:(MT (AV x i) m).2.2=true):Stp x i (MT (AV x i) m).1 (MT (AV x i) m).2.1:=by
 have hme:=KS g.h.f g.hi;have hp:(vw x (mId m)).pre (Ek m) (JY m) (mSd m):=⟨m,g.mem,hk,rfl,rfl,rfl,rfl⟩;unfold MT at hr ⊢;split at hr
 ·cases hr
 ·rename_i hc;rw [if_neg hc];simp only [aBg,aAd,not_or,Int.not_lt] at hc;split at hr
  ·rename_i h5;rw [if_pos h5];simp only [aAg,aAd] at h5;refine Hy g.h.f g.hi (q:=mId m) (WL rfl) (fun _ _=>rfl) (fun _ _=>rfl) (fun hq e1 f1=>?_) (iW (x:=x) (by show (2:Int)≠1;omega) (by show (2:Int)≠3;omega) (by show (2:Int)≠6;omega));refine (Tr.pre5a i _ _ _ g.hi (g.ne (.inl hk)) hp hc.1 h5.1 h5.2).of ?_;unfold PE;rw [iT g.h.f g.hi rfl rfl om om om,hme];refine Ha (LB rfl) (LB rfl) (fun _ _ _=>aB6) (fun _ _ _ _=>?_) (fun _ _ _=>aB6) (fun _ _=>by simp) (fun _ _=>aB6) (fun _ _ _=>by simp);simp;rfl
  ·rename_i h5;rw [if_neg h5];split at hr
   ·rename_i h6;rw [if_pos h6];have hid:(Jo (AV x i) m).1=mId m:=rfl;have ha:=EE g.N.f.is (mId m) (JY m);have hu:=(CV g.F.deps).2;have hj:=Gr.join_facts Cw hu (CV ha.deps).2;refine Hy g.h.f g.hi (q:=mId m) (WL rfl) (fun p hp=>GQ _ hid hp) (fun _ _=>rfl) (fun hq e1 f1=>?_) (iW (x:=x) (by show (2:Int)≠1;omega) (by show (2:Int)≠3;omega) (by show (2:Int)≠6;omega));refine (Tr.pre5b i _ _ _ (Oj (AV x i) m,QR (AV x i) m) (Jo (AV x i) m).2.2.2.2.2.2.2 g.hi (g.ne (.inl hk)) hp hc.1 hc.2 ?_ ?_ ?_ ?_).of ?_
    ·intro q;apply h5;simp only [aAg,aAd];exact q
    ·intro q;unfold Jo at q;simp only [aAg,aAd] at q;have:=lY g.F.deps ha.deps (by have:=q.2;unfold QR at this;exact Int.ofNat.inj this);show (Oj _ m,QR _ m)=(_,_);rw [q.1];exact aC5 _ this
    ·intro q;exact (hj.2 e1).2 q
    ·intro q1 q2 q3;exact ((hj.2 f1).1 q3).elim q1 q2
    ·unfold PE putN;rw [iT g.h.f g.hi (Gw _ hid) rfl om om om,hme];refine Ha rfl (LB rfl) (fun _ _ _=>aB6) (fun _ _ _ _=>?_) (fun _ _ _=>aB6) (fun _ _=>by simp) (fun _ _=>aB6) (fun _ _ _=>by simp);simp;rfl
   ·cases hr
theorem tD {x:Bq} {i:Int} {m:Ao} (g:Gt x i m) (hk:m.1=3) (hr:(MU (AV x i) m).2.2=true):Stp x i (MU (AV x i) m).1 (MU (AV x i) m).2.1:=by
 have hme:=KS g.h.f g.hi;have hp:(vw x (mId m)).acc (Ek m) (JY m) (mSd m):=⟨m,g.mem,hk,rfl,rfl,rfl,rfl⟩;unfold MU at hr ⊢;split at hr
 ·cases hr
 ·rename_i hc;rw [if_neg hc];simp only [aBg,aAd,not_or,Int.not_lt] at hc;split at hr
  ·rename_i h6;rw [if_pos h6];have hid:(Ol m).1=mId m:=rfl;refine Hy g.h.f g.hi (q:=mId m) (WL rfl) (fun p hp=>GQ _ hid hp) (fun _ _=>rfl) (fun hq e1 f1=>?_) (iW (x:=x) (by show (4:Int)≠1;omega) (by show (4:Int)≠3;omega) (by show (4:Int)≠6;omega));refine (Tr.accept i _ _ _ g.hi (g.ne (.inr (.inl hk))) hp hc.1 hc.2).of ?_;unfold TK putN;rw [iT g.h.f g.hi (Gw _ hid) rfl om om om,hme];exact Ha rfl (LB rfl) (fun _ _ _=>aB6) (fun _ _ _ _=>by simp) (fun _ _ _=>aB6) (fun _ _=>by simp) (fun _ _=>aB6) (fun _ _ _=>by simp)
  ·cases hr
theorem tE {x:Bq} {i:Int} {m:Ao} (g:Gt x i m) (hk:m.1=5) (hr:(MV (AV x i) m).2.2=true):Stp x i (MV (AV x i) m).1 (MV (AV x i) m).2.1:=by
 have hp:(vw x (mId m)).com (JY m) (mSd m):=⟨m,g.mem,hk,rfl,rfl,rfl⟩;unfold MV at hr ⊢;split at hr
 ·cases hr
 ·rename_i hc;rw [if_neg hc];simp only [aAd] at hc;split at hr
  ·rename_i h6;rw [if_pos h6];have hid:(PF (atI (AV x i).2.2.1 (mId m)) m).1=mId m:=rfl;refine Hy g.h.f g.hi (q:=mId m) (fun _ q=>(by cases q)) (fun p hp=>GQ _ hid hp) (fun p hp=>SM _ hp) (fun hq e1 f1=>?_) (fun _ q=>by cases q);refine (Tr.learn i _ _ g.hi hp hc).of ?_;rw [WF g.h.f g.hi];exact Ha (PS (by rw [Gw _ hid];rfl)) (PS (by rw [SK];rfl)) (fun _ _ _=>aB6) (fun _ _ _ _=>aB6) (fun _ _ _=>aB6) (fun _ _=>aB6) (fun _ _=>aB6) (fun _ _ _=>aB6)
  ·cases hr
theorem pC {x:Bq} {i:Int} {m:Ao} (g:Gt x i m) (hk:m.1=6) (hr:(Kd (AV x i) m).2.2=true):Stp x i (Kd (AV x i) m).1 (Kd (AV x i) m).2.1:=by
 have hme:=KS g.h.f g.hi;have hs:=g.h.sn m g.mem;unfold Kd at hr ⊢;split at hr
 ·cases hr
 ·rename_i hc;rw [if_neg hc];simp only [aAd,Int.not_le] at hc;have hid:(IT (atI (AV x i).2.2.1 (mId m)) (Ek m)).1=mId m:=EX _ _;refine Hy g.h.f g.hi (q:=mId m) (WL rfl) (fun p hp=>GQ _ hid hp) (fun _ _=>rfl) (fun hq e1 f1=>?_) (iW (x:=x) (by show (7:Int)≠1;omega) (by show (7:Int)≠3;omega) (by show (7:Int)≠6;omega));refine (Tr.prep i (Ek m) g.hi (hs.2 hk).1 (g.ne (.inr (.inr hk))) ?_ hc).of ?_
  ·have:=(hs.2 hk).2;rw [hs.1 (.inr (.inr hk))] at this;exact this
  ·unfold RE putN;rw [iT g.h.f g.hi (Gw _ hid) rfl om om om,hme];refine Ha rfl (LB rfl) (fun _ _ _=>aB6) (fun _ _ _ _=>by simp) (fun _ _ _=>aB6) (fun _ _=>by simp) (fun _ _=>aB6) (fun _ _ _=>?_);simp;rfl
theorem pD {x:Bq} {i:Int} {n:Ap} {k b z1 z2 st vb sq:Int} {c:BN} {ds:List Am} {sm:Bool} {q:Am} (h1:k≠1) (h3:k≠3) (h6:k≠6):∀ m,m∈EB i (k,z1,z2,q,b,c,sq,ds,st,vb,sm)→(m.1=1∨m.1=3∨m.1=6→m.2.1=i∧i=ldr (mId m).1 (Ek m))∧(m.1=6→3≤Ek m∧Ek m≤(atI n.2.2.1 (mId m)).2.1):=by
 intro m hm;obtain ⟨t,_,_,rfl⟩:=HS hm;exact ⟨fun q=>absurd q (by show ¬ (k=1∨k=3∨k=6);omega),fun q=>absurd q h6⟩
theorem cC (d:Ap) (l:AM) (m:Ao) {p:Ar×Int} (h:p.2≠1):BC d l m p=(mId m,l.2.1,l.2.1,1,p.1.2.2.2.2.1,p.1.2.2.2.2.2.1,p.1.2.2.2.2.2.2.1,false):=by
 unfold BC;rw [if_neg (by simpa using h)]
theorem tF (d:Ap) (l:AM) (m:Ao) {p:Ar×Int} (h:p.2=1):BC d l m p=(mId m,l.2.1,l.2.1,1,p.1.2.2.2.2.1,(Ch d.2.2.1 (mId m) p.1.2.2.2.2.1).1,(Ch d.2.2.1 (mId m) p.1.2.2.2.2.1).2,true):=by
 unfold BC;rw [if_pos (by simpa using h)]
theorem lZ {x:Bq} {i:Int} {m:Ao} (g:Gt x i m) (hk:m.1=4) (hr:(JV (AV x i) m).2.2=true):Stp x i (JV (AV x i) m).1 (JV (AV x i) m).2.1:=by
 have hme:=KS g.h.f g.hi;unfold JV at hr ⊢
 cases hf:(AV x i).2.2.2.find? fun y=>Bx y.1 m.2.2.2.1 with
 | none=>rw [hf] at hr;cases hr
 | some l =>
  rw [hf] at hr;simp only [] at hr ⊢;split at hr
  ·rename_i hc;rw [if_pos hc];simp only [aAg,aAd] at hc;have hl:fL (AV x i).2.2.2 (mId m)=some l:=hf;have hid:=(Uz hl).2;have hp:(vw x (mId m)).accOk l.2.1 m.2.1:=⟨m,g.mem,hk,rfl,hc.1.symm,rfl⟩;unfold HB;by_cases e:(atI (AV x i).2.2.1 l.1).2.1=l.2.1
   ·rw [if_pos e,hme];rw [hid] at e ⊢;have hj:(Of (atI (AV x i).2.2.1 (mId m)) l).1=mId m:=EX _ _;refine Hy g.h.f g.hi (q:=mId m) Nc (fun p hp=>GQ _ hj hp) (fun p hp=>SM _ hp) (fun hq e1 f1=>?_) ?_
    ·refine (Tr.slow i (alD l) m.2.1 g.hi (SN hl) hc.2 e hp).of ?_;rw [TX g.h.f g.hi (Gw _ hj) (SK _ _) om om om];exact Ha rfl rfl (fun _ _ _=>by simp) (fun _ _ _ _=>aB6) (fun _ _ _=>by simp) (fun _ _=>aB6) (fun _ _=>by simp;rfl) (fun _ _ _=>aB6)
    ·exact pD (x:=x) om om om
   ·rw [if_neg e,hid];exact Vu g.h.f g.hi _
  ·cases hr
theorem iX (a t:Ar) (ha:0≤a.2.2.2.1∧a.2.2.2.1≤3) (ht:0≤t.2.2.2.1∧t.2.2.2.1≤3) :
  ((EC a t).2=3∧((a.2.2.2.1=3∧(EC a t).1=a)∨(t.2.2.2.1=3∧(EC a t).1=t∧a.2.2.2.1≠3))) ∨
  ((EC a t).2=2∧a.2.2.2.1≠3∧t.2.2.2.1≠3∧((a.2.2.2.1=2∧(t.2.2.2.1≠2∨t.2.2.1≤a.2.2.1)∧(EC a t).1=a)∨(t.2.2.2.1=2∧(a.2.2.2.1≠2∨a.2.2.1 < t.2.2.1)∧(EC a t).1=t)∨(Iv a t=true∧(EC a t).1=a)∨(a.2.2.2.1≤0∧t.2.2.2.1≤0∧(EC a t).1=SD a.1))) ∨
  ((EC a t).2=1∧a.2.2.2.1≤1∧t.2.2.2.1≤1∧Iv a t=false∧((a.2.2.2.1=1∧(EC a t).1=a)∨(t.2.2.2.1=1∧(EC a t).1=t))):=by
 unfold EC
 grind
theorem UT (a t:Ar):Iv a t=true↔(a.2.2.2.1=1∧t.2.2.2.1=1∧a.2.2.1=a.1.1∧t.2.2.1=a.1.1∧a.2.2.2.2.2.2.2=true∧t.2.2.2.2.2.2.2=true∧(t.2.2.2.2.2.1,t.2.2.2.2.2.2.1)=(a.2.2.2.2.2.1,a.2.2.2.2.2.2.1)):=by
 unfold Iv
 grind
theorem Ab1 {x:Bq} {i:Int} {m:Ao} (g:Gt x i m):0≤(atI (AV x i).2.2.1 (mId m)).2.2.2.1∧(atI (AV x i).2.2.1 (mId m)).2.2.2.1≤3:=by
 rcases KL (AV x i).2.2.1 (mId m) with q | q
 ·exact (g.N.f.insF q).st
 ·rw [q];exact ⟨by show (0:Int)≤0;omega,by show (0:Int)≤3;omega⟩
theorem iY {x:Bq} {i:Int} {m:Ao} (g:Gt x i m) (hk:m.1=7) (hr:(Gu (AV x i) m).2.2=true):Stp x i (Gu (AV x i) m).1 (Gu (AV x i) m).2.1:=by
 have hme:=KS g.h.f g.hi;unfold Gu at hr ⊢
 cases hf:(AV x i).2.2.2.find? fun y=>Bx y.1 m.2.2.2.1 with
 | none=>rw [hf] at hr;cases hr
 | some l =>
  rw [hf] at hr;simp only [] at hr ⊢;split at hr
  ·rename_i hc;rw [if_pos hc];simp only [aAg,aAd] at hc;obtain ⟨⟨hb,h3⟩,hbb⟩:=hc;have hl:fL (AV x i).2.2.2 (mId m)=some l:=hf;have hid:=(Uz hl).2;have hp:(vw x (mId m)).prepOk l.2.1 m.2.1 (aiM m):=⟨m,g.mem,hk,rfl,hb.symm,rfl,rfl⟩;have hq:=XK g.F.id;have hld:=((g.h.inv (mId m) hq).ld i (alD l) g.hi (SN hl)).1;have pf:=iX (atI (AV x i).2.2.1 (mId m)) (Fk m) (Ab1 g) g.F.st;unfold RF at hr ⊢;split at hr
   ·rename_i hok;rw [if_pos hok];generalize EC (atI (AV x i).2.2.1 (mId m)) (Fk m)=p at pf hok ⊢;have hyid:=OL (AV x i) l m p;rcases pf with ⟨p2,pf⟩ | ⟨p2,s1,s2,pf⟩ | ⟨p2,s1,s2,pn,pf⟩
    ·have hy:=cC (AV x i) l m (p:=p) om;rw [if_pos (by simpa using p2)];generalize BC (AV x i) l m p=y at hy hyid;unfold HB putN CT;simp only [hid];rw [Gw _ hyid,if_pos (by rw [hy]),hme];have hj:(Of y (mId m,l.2.1,l.2.2.1,y.2.2.2.2.2.1,y.2.2.2.2.2.2.1,[],decide (p.2=1))).1=mId m:=hyid;refine Hy g.h.f g.hi (q:=mId m) Nc (fun q hp=>by rw [GQ _ hj hp,GQ _ hyid hp]) (fun p hp=>SM _ hp) (fun hq e1 f1=>?_) (pD (x:=x) om om om);refine (Tr.pick3 i (alD l) m.2.1 (aiM m) (aiD p.1) g.hi (SN hl) h3 (hbb.trans hb.symm) hp ?_).of ?_
     ·rcases pf with ⟨a1,a2⟩ | ⟨a1,a2,a3⟩
      ·exact .inl ⟨a1,by rw [a2];rfl⟩
      ·exact .inr ⟨a1,by rw [a2];rfl,a3⟩
     ·rw [TX g.h.f g.hi (Gw _ hj) (SK _ _) om om om];subst hy;exact Ha rfl rfl (fun _ _ _=>by simp) (fun _ _ _ _=>aB6) (fun _ _ _=>by simp) (fun _ _=>aB6) (fun _ _=>by simp;rfl) (fun _ _ _=>aB6)
    ·have hy:=cC (AV x i) l m (p:=p) om;rw [if_neg (by simpa using (show p.2≠3 by omega)),if_pos (by simpa using p2)];generalize BC (AV x i) l m p=y at hy hyid;unfold GI putN CT;simp only [hid];rw [Gw _ hyid,if_pos (by rw [hy]),hme];have hj:(MP y (mId m,l.2.1,l.2.2.1,y.2.2.2.2.2.1,y.2.2.2.2.2.2.1,[],decide (p.2=1))).1=mId m:=hyid;refine Hy g.h.f g.hi (q:=mId m) Nc (fun q hp=>by rw [GQ _ hj hp,GQ _ hyid hp]) (fun p hp=>RP _ rfl hp) (fun hq e1 f1=>?_) (iU (x:=x) hld om);refine (Tr.pick2 i (alD l) m.2.1 (aiM m) p.1.2.2.2.2.1 (p.1.2.2.2.2.2.1,p.1.2.2.2.2.2.2.1) g.hi (SN hl) h3 (hbb.trans hb.symm) hp s1 s2 ?_).of ?_
     ·rcases pf with ⟨a1,a2,a3⟩ | ⟨a1,a2,a3⟩ | ⟨a1,a2⟩ | ⟨a1,a2,a3⟩
      ·exact .inl ⟨a1,a2,by rw [a3];rfl,by rw [a3];rfl⟩
      ·exact .inr (.inl ⟨a1,a2,by rw [a3];rfl,by rw [a3];rfl⟩)
      ·obtain ⟨b1,b2,b3,b4,b5,b6,b7⟩:=(UT _ _).1 a1;rw [EX] at b3 b4;exact .inr (.inr (.inl ⟨b1,b2,b3,b4,b7,by rw [a2];rfl,by rw [a2];rfl⟩))
      ·exact .inr (.inr (.inr ⟨a1,a2,by rw [a3];rfl,by rw [a3];exact fun q=>by cases q⟩))
     ·rw [TX g.h.f g.hi (Gw _ hj) (RO _ rfl) om om om];subst hy;rw [show decide (p.2=1)=false by simp;omega];exact Ha rfl rfl (fun _ _ _=>by simp) (fun _ _ _ _=>aB6) (fun _ _ _=>by simp;rfl) (fun _ _=>aB6) (fun _ _=>by simp) (fun _ _ _=>aB6)
    ·have hy:=tF (AV x i) l m p2;rw [if_neg (by simpa using (show p.2≠3 by omega)),if_neg (by simpa using (show p.2≠2 by omega))];generalize BC (AV x i) l m p=y at hy hyid;unfold Ex putN CT;simp only [hid];rw [hme];refine Hy g.h.f g.hi (q:=mId m) Nc (fun q hp=>GQ _ hyid hp) (fun p hp=>RP _ rfl hp) (fun hq e1 f1=>?_) (iU (x:=x) hld om);refine (Tr.pick1 i (alD l) m.2.1 (aiM m) p.1.2.2.2.2.1 ((Ch (AV x i).2.2.1 (mId m) p.1.2.2.2.2.1).1,(Ch (AV x i).2.2.1 (mId m) p.1.2.2.2.2.1).2) g.hi (SN hl) h3 (hbb.trans hb.symm) hp s1 s2 ?_ ?_ (fun q=>q) (fun q=>q)).of ?_
     ·intro q;have:=(UT (atI (AV x i).2.2.1 (mId m)) (Fk m)).2 (by rw [EX];exact q);rw [pn] at this;cases this
     ·rcases pf with ⟨a1,a2⟩ | ⟨a1,a2⟩
      ·exact .inl ⟨a1,by rw [a2];rfl⟩
      ·exact .inr ⟨a1,by rw [a2];rfl⟩
     ·rw [TX g.h.f g.hi (Gw _ hyid) (RO _ rfl) om om om];subst hy;rw [show decide (p.2=1)=true by simpa using p2];exact Ha rfl rfl (fun _ _ _=>by simp;rfl) (fun _ _ _ _=>aB6) (fun _ _ _=>by simp) (fun _ _=>aB6) (fun _ _=>by simp) (fun _ _ _=>aB6)
   ·cases hr
  ·cases hr
theorem wJ {l:List Int} {r:Int} (hr:Nd r) (hn:∀ x,x∈l→Nd x∧x≠r) (hp:l.Pairwise (· < ·)) (h2:2≤(l.length:Int)) {x:Int} (hx:Nd x) (hxr:x≠r):x∈l:=by
 match l,hp,h2,hn with
 | a::b::t,hp,_,hn =>
  have h1:=hn a (.head _);have h3:=hn b (.tail _ (.head _));have h4:=(aBt.1 hp).1 b (.head _);unfold Nd at *;have:x=a∨x=b:=by omega
  rcases this with e | e<;>simp [e]
 | [a],_,h,_=>exact absurd h (by simp)
 | [],_,h,_=>exact absurd h (by simp)
theorem mA {x:Bq} {i:Int} {m:Ao} (g:Gt x i m) (hk:m.1=2) (hr:(Hw (AV x i) m).2.2=true):Stp x i (Hw (AV x i) m).1 (Hw (AV x i) m).2.1:=by
 have hme:=KS g.h.f g.hi;unfold Hw at hr ⊢
 cases hf:(AV x i).2.2.2.find? fun y=>Bx y.1 m.2.2.2.1 with
 | none=>rw [hf] at hr;cases hr
 | some l =>
  rw [hf] at hr;simp only [] at hr ⊢;split at hr
  ·rename_i hc;rw [if_pos hc];simp only [aAg,aAd] at hc;obtain ⟨⟨hb,h1⟩,h0⟩:=hc;have hl:fL (AV x i).2.2.2 (mId m)=some l:=hf;obtain ⟨hmem,hid⟩:=Uz hl;obtain ⟨k,hidx,hkk⟩:=oI hf;have hlf:=(g.N.f.ld k l hkk).1;have hp:(vw x (mId m)).preOk l.2.1 m.2.1 (mSd m) (Qn m):=⟨m,g.mem,hk,rfl,hb.symm,rfl,rfl,rfl⟩;have hq:=XK g.F.id;have hld:=((g.h.inv (mId m) hq).ld i (alD l) g.hi (SN hl)).1;have hki:m.2.1≠i:=by rw [← g.to];exact g.F.ne
   have hul:=(CV hlf.deps).2;have hum:=(CV g.F.deps).2;have hj:=Gr.join_facts Cw hul hum;have hsd:mSd m=(alD l).sd→(alD (Cq l m)).sd=(alD l).sd:=fun e=>by
    have e1:m.2.2.2.2.2.2.1=l.2.2.2.1:=aC5 (·.1) e;have e2:m.2.2.2.2.2.2.2.1=l.2.2.2.2.1:=aC5 (·.2) e;show ((if l.2.2.2.1 < m.2.2.2.2.2.2.1 then m.2.2.2.2.2.2.1 else l.2.2.2.1),Gr.join BY l.2.2.2.2.1 m.2.2.2.2.2.2.2.1)=(l.2.2.2.1,l.2.2.2.2.1);rw [e2] at hj ⊢;rw [if_neg om,Gr.up_ext Cw hj.1 hul fun y=>(hj.2 y).trans ⟨fun q=>q.elim id id,.inl⟩]
   have hfr:=Jk l.2.2.2.2.2.1 m.2.1;unfold TO;by_cases hA:((!decide (m.2.2.2.2.1=m.2.2.2.1.1))||(!(Cq l m).2.2.2.2.2.2))=true
   ·rw [if_pos hA];rw [aW (k:=k) (by show (_:List AM).findIdx? (fun y=>Bx y.1 l.1)=_;rw [hid];exact hidx)];refine cB g.h g.hi (l0:=l) (l:=Cq l m) (by show fL _ l.1=_;rw [hid];exact hl) (by show Nd l.1.1;rw [hid];exact hq) rfl h1 (.inr ⟨m.2.1,mSd m,Qn m,g.F.frm,hki,by show (vw x l.1).preOk _ _ _ _;rw [hid];exact hp,fun e=>⟨fun q=>(hj.2 e).2 (.inr q),fun q=>(hj.2 e).2 (.inl q),fun q1 q2 q3=>((hj.2 e).1 q3).elim q2 q1⟩⟩)
   ·rw [if_neg hA];simp only [aBg,aB4,aAm,not_or,aFq,aFr] at hA;obtain ⟨hA1,hA2⟩:=hA;have hA2':(l.2.2.2.2.2.2&&Qn m)=true:=hA2;rw [aAg] at hA2';have hbr:l.2.1=(mId m).1:=hb.trans hA1;have hir:i=(mId m).1:=by rw [hld];show ldr _ l.2.1=_;rw [hbr];unfold ldr Nd at *;rw [if_pos om]
    have hL:=SN hl;by_cases hC:decide (2≤((Cq l m).2.2.2.2.2.1.length:Int))=true
    ·rw [if_pos hC];rw [aAd] at hC;rw [aV (k:=k) (by show (_:List AM).findIdx? (fun y=>Bx y.1 l.1)=_;rw [hid];exact hidx)];unfold HB;rw [show (Cq l m).1=mId m from hid];by_cases e:(atI (AV x i).2.2.1 (mId m)).2.1=(Cq l m).2.1
     ·rw [if_pos e,hme];have hj2:(Of (atI (AV x i).2.2.1 (mId m)) (Cq l m)).1=mId m:=EX _ _;refine Hy g.h.f g.hi (q:=mId m) Nc (fun p hp=>GQ _ hj2 hp) (fun p hp=>SM _ hp) (fun hq e1 f1=>?_) (pD (x:=x) om om om);have hlr:=(g.h.inv (mId m) hq).lr (alD l) (by show (vw x (mId m)).L (mId m).1=_;rw [← hir];exact hL) h1 hbr hA2'.1;have hv1:=(g.h.inv (mId m) hq).v1;have hT:=Tr.fast (E:=En x (mId m) hq e1 f1) (s:=vw x (mId m)) (alD l) m.2.1 (mSd m) (alD (Cq l m)).sd (alD (Cq l m)).frm (by show (vw x (mId m)).L (mId m).1=_;rw [← hir];exact hL) h1 hbr (by show ((vw x (mId m)).I (mId m).1).bal=(mId m).1;rw [← hir];exact (e.trans hbr).trans hir.symm) g.F.frm (by show m.2.1≠(mId m).1;rw [← hir];exact hki) (by have h5:=hp;rw [hA2'.2] at h5;exact h5) (fun y hy=>((hfr.1 y).1 hy).2) ?_ hA2'.1 hsd (fun q=>(hj.2 e1).2 q.symm) (fun q1 q2 q3=>((hj.2 f1).1 q3).elim q2 q1)
      ·refine hT.of ?_;rw [TX g.h.f g.hi (Gw _ hj2) (SK _ _) om om om];simp only [En,← hir];exact Ha rfl rfl (fun _ _ _=>by simp) (fun _ _ _ _=>aB6) (fun _ _ _=>by simp) (fun _ _=>aB6) (fun _ _=>by simp;rfl) (fun _ _ _=>aB6)
      ·intro y hy hyr;refine wJ hq (fun z hz=>?_) hfr.2 hC hy hyr;have:=(hfr.1 z).1 hz;refine ⟨this.1,?_⟩;rcases this.2 with e3 | e3
       ·rw [e3,← hir];exact hki
       ·have:=(hv1 _ _ _ _ (hlr.2 z e3)).2.1;unfold ldr Nd at *;rw [if_pos (by show (mId m).1 < 3;omega)] at this;exact this
     ·rw [if_neg e];exact Vu g.h.f g.hi _
    ·rw [if_neg hC];refine Hy g.h.f g.hi (q:=mId m) (fun _ q=>by cases q) (fun _ _=>rfl) (fun p hp=>RP _ hid hp) (fun hq e1 f1=>?_) (fun _ q=>by cases q);have hT:=Tr.merge (E:=En x (mId m) hq e1 f1) (s:=vw x (mId m)) (alD l) m.2.1 (mSd m) (alD (Cq l m)).sd (alD (Cq l m)).frm (Qn m) (by show (vw x (mId m)).L (mId m).1=_;rw [← hir];exact hL) h1 hbr g.F.frm (by show m.2.1≠(mId m).1;rw [← hir];exact hki) hp (fun y hy=>((hfr.1 y).1 hy).2) hsd (fun q=>(hj.2 e1).2 q.symm) (fun q1 q2 q3=>((hj.2 f1).1 q3).elim q2 q1);refine hT.of ?_;rw [WF g.h.f g.hi];simp only [En,← hir];refine Ha (LB rfl) (PS ?_) (fun _ _ _=>aB6) (fun _ _ _ _=>aB6) (fun _ _ _=>aB6) (fun _ _=>aB6) (fun _ _=>aB6) (fun _ _ _=>aB6);show (fL (Da _ (Cq l m)) (mId m)).map alD=_;rw [RO _ (show (Cq l m).1=mId m from hid)];show some (alD (Cq l m))=some ⟨l.2.1,1,_,_,_⟩;rw [← h1];rfl
  ·cases hr
theorem pE {x:Bq} {i:Int} {m:Ao} (g:Gt x i m) (hr:(GK (AV x i) m).2.2=true):Stp x i (GK (AV x i) m).1 (GK (AV x i) m).2.1:=by
 have hk:=g.F.kind;unfold GK at hr ⊢;by_cases h1:m.1=1
 ·rw [if_pos (by simpa using h1)] at hr ⊢;exact tC g h1 hr
 rw [if_neg (by simpa using h1)] at hr ⊢;by_cases h2:m.1=2
 ·rw [if_pos (by simpa using h2)] at hr ⊢;exact mA g h2 hr
 rw [if_neg (by simpa using h2)] at hr ⊢;by_cases h3:m.1=3
 ·rw [if_pos (by simpa using h3)] at hr ⊢;exact tD g h3 hr
 rw [if_neg (by simpa using h3)] at hr ⊢;by_cases h4:m.1=4
 ·rw [if_pos (by simpa using h4)] at hr ⊢;exact lZ g h4 hr
 rw [if_neg (by simpa using h4)] at hr ⊢;by_cases h5:m.1=5
 ·rw [if_pos (by simpa using h5)] at hr ⊢;exact tE g h5 hr
 rw [if_neg (by simpa using h5)] at hr ⊢;by_cases h6:m.1=6
 ·rw [if_pos (by simpa using h6)] at hr ⊢;exact pC g h6 hr
 rw [if_neg (by simpa using h6)] at hr ⊢;exact iY g om hr
theorem pF {x:Bq} (h:NI x) {i:Int} {m:Ao} (hm:m∈x.2) (hi:Nd i) (hr:(getD (AV x i) m).2.2=true):Stp x i (getD (AV x i) m).1 (getD (AV x i) m).2.1:=by
 unfold getD at hr ⊢;split at hr
 ·rename_i hn;rw [if_pos hn];split at hr
  ·cases hr
  ·rename_i hc;rw [if_neg hc];simp only [aBg,aB4,aAm,not_or,aFr] at hc;exact pE ⟨h,hi,hm,by rw [hc.1.2,KS h.f hi]⟩ hr
 ·cases hr
theorem tG {x:Bq} (h:NI x) (a:CQ) (hr:(Ep x a).2.2.2=true):Nd (Ep x a).1∧Stp x (Ep x a).1 (Ep x a).2.1 (Ep x a).2.2.1:=by
 have hi:=((TS h.f a) hr).1;refine ⟨hi,?_⟩;unfold Ep at hr hi ⊢;split at hr
 ·rename_i h2;rw [if_pos h2] at hi ⊢
  cases hm:idx x.2 a.2.2.1 with
  | none=>rw [hm] at hr;cases hr
  | some m =>
   rw [hm] at hr hi;simp only [] at hr hi ⊢;rw [← Gv hi] at hr ⊢;exact pF h (Ut hm).2.2.1 hi hr
 ·rename_i h2;rw [if_neg h2] at hi ⊢;split at hr
  ·rename_i h3;rw [if_pos h3] at hi ⊢;split at hr
   ·rename_i h4;rw [if_pos h4] at hi ⊢;simp only [] at hr hi ⊢;rw [← Gv hi] at hr ⊢;unfold On at hr ⊢;split at hr
    ·rename_i h5;rw [if_pos h5];exact tB h hi _ hr
    ·rename_i h5;rw [if_neg h5];split at hr
     ·rename_i h6;rw [if_pos h6];exact pA h hi _ hr
     ·rename_i h6;rw [if_neg h6];split at hr
      ·rename_i h7;rw [if_pos h7];exact tA h hi _ hr
      ·rename_i h7;rw [if_neg h7];split at hr
       ·rename_i h8;rw [if_pos h8];unfold Ju at hr ⊢;split at hr
        ·rename_i h9;rw [if_pos h9];exact oZ h.f hi
        ·cases hr
       ·cases hr
   ·cases hr
  ·cases hr
structure Done (x y:Bq) (i:Int):Prop where
 h:NI x
 hi:Nd i
 s:∃ n out,y=nx x i n out∧Stp x i n out
theorem XL {x:Bq} (h:NI x) (a:CQ):((Gh x a).2=false∧(Gh x a).1=x)∨((Gh x a).2=true∧Done x (Gh x a).1 (Ep x a).1):=by
 unfold Gh TR;split
 ·rename_i hr;split
  ·exact .inl ⟨rfl,rfl⟩
  ·obtain ⟨h1,h2⟩:=tG h a hr;exact .inr ⟨rfl,h,h1,_,_,rfl,h2⟩
 ·exact .inl ⟨rfl,rfl⟩
theorem Done.vw {x y:Bq} {i:Int} (d:Done x y i) (q:Am) (hq:Nd q.1) (e f:Am):vw y q=vw x q∨Tr (En x q hq e f) (vw x q) (vw y q):=by
 obtain ⟨n,out,rfl,hs⟩:=d.s;exact hs.tr q hq e f
theorem Done.bal {x y:Bq} {i:Int} (d:Done x y i) (q:Am) (hq:Nd q.1) (j:Int):((Go.Proofs.SL.vw x q).I j).bal≤((Go.Proofs.SL.vw y q).I j).bal:=by
 rcases d.vw q hq q q with e | t
 ·rw [e];exact aFi _
 ·exact bm t j
theorem Done.NI {x y:Bq} {i:Int} (d:Done x y i) (hy:NetF y):NI y where
 f:=hy
 inv q hq:=by
  rcases d.vw q hq q q with e | t
  ·rw [e];exact d.h.inv q hq
  ·exact pr (E:=En x q hq q q) (d.h.inv q hq) t
 sn m hm:=by
  have hb:=d.bal (mId m) (XK (hy.pool m hm).id) m.2.1;obtain ⟨n,out,rfl,hs⟩:=d.s;rcases (Lg _ _ _).1 hm with h | h
  ·have:=d.h.sn m h;exact ⟨this.1,fun q=>⟨(this.2 q).1,aG3 (this.2 q).2 hb⟩⟩
  ·have:=hs.sn m h;refine ⟨fun q=>(this.1 q).1.trans (this.1 q).2,fun q=>⟨(this.2 q).1,?_⟩⟩;rw [(this.1 (.inr (.inr q))).1,nx,Yf d.h.f d.hi,if_pos rfl];exact (this.2 q).2
theorem NI.step {x:Bq} (h:NI x) (a:CQ):Go.Proofs.SL.NI (Gh x a).1:=by
 rcases XL h a with ⟨_,e⟩ | ⟨_,d⟩
 ·rw [e];exact h
 ·exact d.NI (bE h.f a)
theorem NI.new:NI Fv where
 f:=bI
 inv q hq:=by
  have hn:∀ i,Nd i→(AV Fv i).2.2.1=[]∧(AV Fv i).2.2.2=[]:=fun i hi=>by
   rw [Gv hi];unfold Nd at hi;have:i=0∨i=1∨i=2:=by omega
   rcases this with rfl | rfl | rfl<;>exact ⟨rfl,rfl⟩
  have hp:∀ k f,¬ rl Fv.2 q k f:=fun k f ⟨m,hm,_⟩=>by cases hm
  refine ini (fun i hi=>?_) (fun i hi=>?_) (fun _ _ _=>hp _ _) (fun _ _ _ _=>hp _ _) (fun _ _ _=>hp _ _) (fun _ _=>hp _ _) (fun _ _=>hp _ _) (fun _ _ _=>hp _ _)
  ·show (aiD (atI (AV Fv i).2.2.1 q)).bal=-1∧(aiD (atI (AV Fv i).2.2.1 q)).vb=-1∧(aiD (atI (AV Fv i).2.2.1 q)).st=0;rw [(hn i hi).1];exact ⟨rfl,rfl,rfl⟩
  ·show (fL (AV Fv i).2.2.2 q).map alD=none;rw [(hn i hi).2];rfl
 sn m hm:=by cases hm
end Go.Proofs.SL
namespace Go.Proofs.SL
def Qo (l:List Ar) (out:List (List Am)):Prop:=∀ (k:Nat) (p:List Am),out[k]?=some p→(∃ z,Fz l z=true∧p=DH l z)∧∀ x,x∈p→∀ y,y∈dpI l x→y∈p∨y∈(out.take k).flatten
theorem Qo.step {l:List Ar} {out:List (List Am)} (h:Qo l out) {x:Am} (hx:YV l out=some x):Qo l (out++[DH l x]):=by
 unfold YV Gr.nextX at hx;have hp:=aC9 hx;simp only [aAg,aB4,aAm] at hp;obtain ⟨⟨h1,h2⟩,h3⟩:=hp;intro k p hk;by_cases hlt:k < out.length
 ·rw [aAp hlt] at hk;rw [aCk om];exact h k p hk
 ·have hk2:k=out.length:=by
   have:=(aA2.1 hk).1;rw [aAq] at this;have:[DH l x].length=1:=rfl;omega
  subst hk2;rw [aBb (aAu _),aEu] at hk
  cases Option.some.inj hk
  refine ⟨⟨x,h2,rfl⟩,fun u hu y hy=>?_⟩;unfold Kg at h3;have:=aAw.1 (aAw.1 h3 u hu) y hy;rw [aBg,aAd,aAd] at this;rw [aCk (aAu _),aDb];exact this
theorem Qo.all {l:List Ar}:∀ (n:Nat) {out:List (List Am)},Qo l out→Qo l (Gr.orderS (Kg l) (Fz l) (DH l) (Ic l) n out)
 | 0,_,h=>h
 | n+1,out,h=>by
  unfold Gr.orderS
  cases hx:Gr.nextX (Kg l) (Fz l) (DH l) (Ic l) out with
  | none=>exact h
  | some x=>exact Qo.all n (h.step hx)
theorem cD (l:List Ar):Qo l (Jf l):=Qo.all _ (fun k p hk=>by cases hk)
theorem eQ {l:List Ar} {x:Am} (hx:x∈GX l):BF l=true∧∃ (k:Nat) (p:List Am),(Jf l)[k]?=some p∧x∈p:=by
 unfold GX at hx;split at hx
 ·rename_i h;obtain ⟨p,hp,hxp⟩:=aDk.1 hx;obtain ⟨k,hk⟩:=aBe hp;exact ⟨h,k,p,hk,hxp⟩
 ·cases hx
theorem RQ {l:List Ar} {x:Am} (hx:x∈GX l):EY l x=true∧∀ y,Gr.Rch (dpI l) x y→EY l y=true:=by
 obtain ⟨h,k,p,hk,hxp⟩:=eQ hx;obtain ⟨⟨z,hz,rfl⟩,_⟩:=cD l k p hk;have hi:=((Li h z).2 x).1 hxp;refine ⟨InPart.id_of h hz hi,fun y hy=>?_⟩;have hr:=(XI h z).1 hz;rcases hi with rfl | ⟨h1,_⟩
 ·exact hr.2 y hy
 ·exact hr.2 y (h1.trans hy)
theorem iZ {l:List Ar} {x y:Am} (hx:x∈GX l) (hy:y∈dpI l x) (hn:¬ Gr.Rch (dpI l) y x):∃ u v,GX l=u++v∧y∈u∧x∈v:=by
 obtain ⟨h,k,p,hk,hxp⟩:=eQ hx;obtain ⟨⟨z,hz,rfl⟩,hd⟩:=cD l k p hk;refine ⟨((Jf l).take k).flatten,((Jf l).drop k).flatten,?_,?_,?_⟩
 ·unfold GX;rw [if_pos h,← aEm,aBf]
 ·rcases hd x hxp y hy with q | q
  ·have h1:=((Li h z).2 x).1 hxp;have h2:=((Li h z).2 y).1 q;rcases h2.symm.trans h1 with e | e
   ·exact absurd (by rw [e] at hy ⊢;exact .one hy) hn
   ·exact absurd e.1 hn
  ·exact q
 ·refine aDk.2 ⟨_,?_,hxp⟩;rw [List.mem_iff_getElem?];exact ⟨0,by rw [aC2];exact hk⟩
end Go.Proofs.SL
namespace Go.Proofs.SL.Rl
variable {C D:Type}
structure OKs (E:EnvR C D) (s:St C D):Prop where
 i:∀ i,Nd i→E.ok (s.I i).sd
 l:∀ i l,Nd i→s.L i=some l→l.ph≠3→E.ok l.sd
 a:∀ b c d,s.pre b c d→E.ok d
 b:∀ b i d sm,s.preOk b i d sm→E.ok d
 c:∀ b c d,s.acc b c d→E.ok d
 d:∀ c d,s.com c d→E.ok d
 e:∀ b i t,s.prepOk b i t→E.ok t.sd
theorem zH {E:EnvR C D} {s s':St C D} (h:OKs E s) (t:Tr E s s') (hK:∀ i c d,Nd i→s'.pre E.r c d→E.KO i c) (h2:∀ b c d,s'.pre b c d→∃ d0,s'.pre E.r c d0) (hI:Inv E s):OKs E s':=by
 have hr:=E.hr;obtain ⟨a1,a2,a3,a4,a5,a6,a7⟩:=h;have hl3:=hI.ld;have hp:=fun i hi=>(hI.g i hi).p3;have ht:=fun b i t q=>(hI.po b i t q).2.2.2.2.2.2.p3;clear hI;cases t
 case offer c d q1 q2 q3 q4 q5 =>
  have k1:=q4 (hK _ _ _ hr (.inr ⟨rfl,rfl,rfl⟩));clear hK h2;constructor<;>grind
 case pick1 i l z t c d q1 q2 q3 q4 q5 q6 q7 q8 q9 a8 a0 =>
  obtain ⟨d0,k0⟩:=h2 _ _ _ (.inr ⟨rfl,rfl,rfl⟩);have k1:=a0 (hK _ _ _ q1 k0);clear hK h2;constructor<;>grind
 all_goals constructor<;>grind [Pk]
structure JI (E:EnvR C D) (S:Int→Prop) (s:St C D):Prop where
 a:∀ i,Nd i→S i→(s.I i).st=1→E.has (s.I i).sd
 c:∀ b c d,s.acc b c d→c≠E.noop→E.has d
 d:∀ c d,s.com c d→c≠E.noop→E.has d
 e:∀ b i d sm,s.preOk b i d sm→S i→E.has d
 f:∀ b i t,s.prepOk b i t→S i→t.st=1→E.has t.sd
 g:∀ i l,Nd i→s.L i=some l→l.ph=1→S i∨l.frm≠[]→E.has l.sd
theorem ji0 {E:EnvR C D} {s:St C D} {S:Int→Prop} (h:Inv E s) (hn:∀ b c d,¬ s.pre b c d):JI E S s:=by
 have hc:∀ c d,Iy E s c d→∃ b,s.acc b c d:=fun c d q=>by
  rcases q with ⟨b,x,q,_⟩ | ⟨q,_⟩
  ·exact ⟨b,q⟩
  ·exact absurd q (hn _ _ _)
 have hp:=fun i hi=>(h.g i hi).p3;have ht:=fun b i t q=>(h.po b i t q).2.2.2.2.2.2.p3;have h3:=h.v3;have h1:=h.v1;have hm:=h.cm;have hl:=h.l1;clear h;constructor<;>grind
theorem qH {E:EnvR C D} {s s':St C D} {S:Int→Prop} (h:Inv E s) (j:JI E S s) (t:Tr E s s') (hS:∀ i k,Nd i→Nd k→i≠k→S i∨S k) (hK:∀ i c d,Nd i→S i→s'.pre E.r c d→E.K i c) (h2:∀ b c d,s'.pre b c d→∃ d0,s'.pre E.r c d0):JI E S s':=by
 have hr:=E.hr;obtain ⟨a1,a2,a3,a4,a5,a6⟩:=j;have hld:=h.ld;have hl2:=h.l2;have hv1:=h.v1;have hpo:=fun b i t q=>(h.po b i t q).2.1;have hpn:=fun b i t q=>(h.po b i t q).2.2.1;have hp:=fun i hi=>(h.g i hi).p3;have ht:=fun b i t q=>(h.po b i t q).2.2.2.2.2.2.p3;have hp4:=fun i hi=>(h.g i hi).p4;have ht4:=fun b i t q=>(h.po b i t q).2.2.2.2.2.2.p4;have hp5:=fun i hi=>(h.g i hi).p5;have ht5:=fun b i t q=>(h.po b i t q).2.2.2.2.2.2.p5;clear h;cases t
 case offer c d q1 q2 q3 q4 q5 =>
  have k1:=fun q=>q3 (hK _ _ _ hr q (.inr ⟨rfl,rfl,rfl⟩));clear hK h2;constructor<;>grind
 case pick1 i l z t c d q1 q2 q3 q4 q5 q6 q7 q8 q9 a0 a7 =>
  obtain ⟨d0,k0⟩:=h2 _ _ _ (.inr ⟨rfl,rfl,rfl⟩);have k1:=fun q=>a0 (hK _ _ _ q1 q k0);clear hK h2;constructor<;>grind
 all_goals constructor<;>first | grind [Pk] | skip
end Go.Proofs.SL.Rl
namespace Go.Proofs.SL.Rl
variable {C D:Type}
def Two (S:Int→Prop):Prop:=∀ i k,Nd i→Nd k→i≠k→S i∨S k
def Ev (E:En0 C) (s:St C D) (S:Int→Prop) (c:C) (d:D):Prop :=
 (∃ b x,s.acc b c d∧s.accOk b x∧∀ i,S i→i=ldr E.r b∨i=x)∨Fst E s c d
theorem Ev.ch {E:En0 C} {s:St C D} {S:Int→Prop} {c:C} {d:D} (he:Ev E s S c d):Iy E s c d:=by
 rcases he with ⟨b,x,h1,h2,_⟩ | h
 ·exact .inl ⟨b,x,h1,h2⟩
 ·exact .inr h
theorem zI {E:En0 C} {s:St C D} (h:Inv E s) {c:C} {d:D} (hc:Iy E s c d):∃ S,Two S∧Ev E s S c d:=by
 rcases hc with ⟨b,x,h1,h2⟩ | h1
 ·refine ⟨fun i=>i=ldr E.r b∨i=x,?_,.inl ⟨b,x,h1,h2,fun i q=>q⟩⟩;have:=h.v4 _ _ h2;have hr:=E.hr;intro i k
  grind [Nd,ldr]
 ·exact ⟨fun _=>True,fun _ _ _ _ _=>.inl trivial,.inr h1⟩
theorem eS {E:EnvR C D} {s s':St C D} (h:Inv E s) (t:Tr E s s') {S:Int→Prop} {c:C} {d:D} (he:Ev E s S c d):Ev E s' S c d:=by
 rcases he with ⟨b,x,h1,h2,h3⟩ | h1
 ·exact .inl ⟨b,x,(ch1 t).1 _ _ _ h1,(ch1 t).2 _ _ h2,h3⟩
 ·exact .inr (ch2 h t h1)
theorem pm {E:EnvR C D} {s s':St C D} (t:Tr E s s'):∀ b c d,s.pre b c d→s'.pre b c d:=by
 cases t<;>grind
theorem holds {E:En0 C} {s:St C D} (h:Inv E s) {S:Int→Prop} {c:C} {d:D} (he:Ev E s S c d) {i:Int} (hi:Nd i) (hs:S i):1≤(s.I i).st∧(s.I i).cmd=c:=by
 have hr:=E.hr;have g:=gw (b:=1000) h hi;have g0:=h.g i hi;have st3:(s.I i).st=3→(s.I i).cmd=c:=fun q=>(qG h he.ch (h.cm _ _ (g0.p5 q))).1;have p6:=g0.p6;rcases he with ⟨b,x,h1,h2,h3⟩ | ⟨h1,h2,h3,h4⟩
 ·have v4:=h.v4 _ _ h2;have v3:=h.v3 _ _ _ h1;have q:2≤(s.I i).st∧b≤(s.I i).vb:=by
   rcases h3 i hs with e | e
   ·have:=v3.2.1;rw [← e] at this;exact g0.q3 _ _ _ om h1 e
   ·subst e;exact g0.q4 _ (by have:=v4.2.2.1;omega) h2
  refine ⟨by omega,?_⟩;have:(s.I i).st=2∨(s.I i).st=3:=by omega
  rcases this with q2 | q2
  ·have a:=g0.p4 q2;have:=fun c' d'=>h.u2 b c d c' d' h1;by_cases e:(s.I i).vb=b
   ·rw [e] at a;exact (this _ _ a).1.symm
   ·have dB:=h.dB _ _ _ _ _ _ a h1 om;by_cases e2:c=(s.I i).cmd∧d=(s.I i).sd
    ·exact e2.1.symm
    ·exact absurd h2 (dB e2 x v4.1 v4.2.1).2
  ·exact st3 q2
 ·have e:ldr E.r E.r=E.r:=if_pos hr.2;have q:1≤(s.I i).st:=by
   by_cases q:i=E.r
   ·have:=(h.v2 _ _ _ h1).2.1;rw [e,← q] at this;exact (g0.q2 _ _ _ om h1 (by rw [e];exact q)).1
   ·have:=(h.v1 _ _ _ _ (h2 i hi q)).2.2.1;exact (g0.q1 _ _ _ om (h2 i hi q)).1
  refine ⟨q,?_⟩;have:(s.I i).st=1∨(s.I i).st=2∨(s.I i).st=3:=by omega
  rcases this with q2 | q2 | q2
  ·obtain ⟨d0,p⟩:=g0.p3 q2;obtain ⟨d1,p1⟩:=(h.v2 _ _ _ p).2.2.2;exact (h.u1 _ _ _ _ _ p1 h1).1
  ·have a:=g0.p4 q2;have hy:∃ y,Nd y∧y≠E.r:=by
    by_cases q:E.r=0
    ·exact ⟨1,by unfold Nd;omega,by omega⟩
    ·exact ⟨0,by unfold Nd;omega,by omega⟩
   obtain ⟨y,y1,y2⟩:=hy;have w:Wv E s c d:=⟨h1,h3,⟨y,y1,y2,h2 y y1 y2⟩,fun x x1 x2=>.inr (h2 x x1 x2)⟩;rcases (h.v3 _ _ _ a).1 with b1 | b1
   ·rw [b1] at a;exact absurd a (h3 _ _)
   ·exact ((h.dA _ _ w).1 _ _ _ b1 a).1
  ·exact st3 q2
end Go.Proofs.SL.Rl
namespace Go.Proofs.SL
open Rl
def Un (x:Bq) (f:Am):Prop:=∀ b c d,¬ (vw x f).pre b c d
theorem qI {x:Bq} (h:NI x) {f:Am} (hf:Nd f.1) (hu:Un x f) {i:Int} (hi:Nd i):((vw x f).I i).st=0∨((vw x f).I i).st < 0∨((vw x f).I i).cmd=ER:=by
 have I:=h.inv f hf;have g:=I.g i hi;have hc:∀ b c d,(vw x f).acc b c d→c=ER:=fun b c d q=>by
  by_cases e:c=ER
  ·exact e
  ·obtain ⟨d0,q2⟩:=(I.v3 _ _ _ q).2.2 e;exact absurd q2 (hu _ _ _)
 have hcc:∀ c d,Iy (E0 f hf) (vw x f) c d→c=ER:=fun c d q=>by
  rcases q with ⟨b,_,q,_⟩ | q
  ·exact hc _ _ _ q
  ·exact absurd q.1 (hu _ _ _)
 have p6:=g.p6;by_cases e1:((vw x f).I i).st=1
 ·obtain ⟨d,q⟩:=g.p3 e1;exact absurd q (hu _ _ _)
 by_cases e2:((vw x f).I i).st=2
 ·exact .inr (.inr (hc _ _ _ (g.p4 e2)))
 by_cases e3:((vw x f).I i).st=3
 ·exact .inr (.inr (hcc _ _ (I.cm _ _ (g.p5 e3))))
 omega
theorem Nf {x:Bq} (h:NI x) {i:Int} (hi:Nd i):BF (AV x i).2.2.1=true:=by
 rw [Gv hi];exact (h.f.at hi).2.1.f.is
theorem wK {l:List Ar} {z:Ar} (h:BF l=true) (hz:z∈l):atI l z.1=z:=by
 unfold atI;rw [nW h hz]
theorem WO (c:BN):FF c ER=false:=by unfold FF ER;simp
theorem pG {x:Bq} (h:NI x) {f:Am} (hf:Nd f.1) (hu:Un x f) {i:Int} (hi:Nd i) (q:Am) (c:BN):¬ f∈(Ch (AV x i).2.2.1 q c).2:=fun hm=>by
 obtain ⟨z,hz,rfl,hc⟩:=((EE (Nf h hi) q c).mem f).1 hm;unfold LW at hc;simp only [aAg,aB4,aAm] at hc;have hz0:0≤z.2.2.2.1:=(CC.1 ((CI (Nf h hi)).1 z hz)).st.1;have e:(vw x z.1).I i=aiD z:=by show aiD (atI _ _)=_;rw [wK (Nf h hi) hz]
 have:=qI h hf hu hi;rw [e] at this;rcases this with q1 | q1 | q1
 ·exact hc.1.2 q1
 ·have:z.2.2.2.1 < 0:=q1;omega
 ·have:z.2.2.2.2.1=ER:=q1;rw [this,WO] at hc
  cases hc.2
def OKf (x:Bq) (f:Am):Prop:=∀ q (hq:Nd q.1),OKs (En x q hq f f) (vw x q)
theorem Done.un {x y:Bq} {i:Int} (d:Done x y i) {f:Am} (hf:Nd f.1) (hu:Un y f):Un x f:=fun b c e hp=>by
 rcases d.vw f hf f f with q | t
 ·rw [← q] at hp;exact hu _ _ _ hp
 ·exact hu _ _ _ (pm t _ _ _ hp)
theorem OKf.step {x y:Bq} {i:Int} (d:Done x y i) (hy:NI y) {f:Am} (hf:Nd f.1) (hu:Un y f) (h:OKf x f):OKf y f:=fun q hq=>by
 have j:=h q hq;rcases d.vw q hq f f with e | t
 ·rw [e];exact ⟨j.i,j.l,j.a,j.b,j.c,j.d,j.e⟩
 ·have k:=zH j t (fun i c d' hi _=>pG d.h hf (d.un hf hu) hi q c) (fun b c d' hp=>((hy.inv q hq).v2 b c d' hp).2.2.2) (d.h.inv q hq);exact ⟨k.i,k.l,k.a,k.b,k.c,k.d,k.e⟩
theorem OKf.new (f:Am):OKf Fv f:=fun q hq=>by
 have hn:∀ i,Nd i→(AV Fv i).2.2.1=[]∧(AV Fv i).2.2.2=[]:=fun i hi=>by
  rw [Gv hi];unfold Nd at hi;have:i=0∨i=1∨i=2:=by omega
  rcases this with rfl | rfl | rfl<;>exact ⟨rfl,rfl⟩
 have hp:∀ k g,¬ rl Fv.2 q k g:=fun k g ⟨m,hm,_⟩=>by cases hm
 refine ⟨fun i hi=>?_,fun i l hi hl=>?_,fun _ _ _ q=>absurd q (hp _ _),fun _ _ _ _ q=>absurd q (hp _ _),fun _ _ _ q=>absurd q (hp _ _),fun _ _ q=>absurd q (hp _ _),fun _ _ _ q=>absurd q (hp _ _)⟩
 ·show ¬ f∈(aiD (atI (AV Fv i).2.2.1 q)).sd.2;rw [(hn i hi).1];exact fun q=>by cases q
 ·have:(fL (AV Fv i).2.2.2 q).map alD=some l:=hl;rw [(hn i hi).2] at this;cases this
structure RelR (x:Bq) (a b:Am) (ha:Nd a.1) (hb:Nd b.1) (S:Int→Prop) (ca c0:BN) (da:SDt) (R:Am→Prop):Prop where
 ne:a≠b
 two:Two S
 ev:Ev (E0 a ha) (vw x a) S ca da
 cl:FF c0 ca=true
 pre:∃ d,(vw x b).pre b.1 c0 d
 ji:JI (En x b hb a a) S (vw x b)
 ra:R a
 rb:¬ R b
 rc:∀ y,R y→∃ hy:Nd y.1,∃ c d,Iy (E0 y hy) (vw x y) c d∧∀ z,z∈d.2→R z
theorem eT {x:Bq} (h:NI x) {a b:Am} (ha:Nd a.1) (hne:a≠b) {S:Int→Prop} {ca c0:BN} {da:SDt} (ev:Ev (E0 a ha) (vw x a) S ca da) (cl:FF c0 ca=true) {i:Int} (hi:Nd i) (hs:S i):a∈(Ch (AV x i).2.2.1 b c0).2:=by
 have hh:=holds (h.inv a ha) ev hi hs;have h1:1≤(atI (AV x i).2.2.1 a).2.2.2.1:=hh.1;have h2:(atI (AV x i).2.2.1 a).2.2.2.2.1=ca:=hh.2;rcases KL (AV x i).2.2.1 a with q | q
 ·refine ((EE (Nf h hi) b c0).mem a).2 ⟨_,q,EX _ _,?_⟩;unfold LW;rw [EX,h2,cl];simp only [aAg,aB4,aAm,and_true];refine ⟨?_,by omega⟩;rw [aCe];exact fun e=>hne (EJ.1 e)
 ·rw [q] at h1;exact absurd h1 (by show ¬ (1:Int)≤0;omega)
theorem RelR.step {x y:Bq} {i:Int} (dn:Done x y i) (hy:NI y) {a b:Am} {ha:Nd a.1} {hb:Nd b.1} {S:Int→Prop} {ca c0:BN} {da:SDt} {R:Am→Prop} (r:RelR x a b ha hb S ca c0 da R):RelR y a b ha hb S ca c0 da R where
 ne:=r.ne
 two:=r.two
 ev:=by
  rcases dn.vw a ha a a with e | t
  ·rw [e];exact r.ev
  ·exact eS (E:=En x a ha a a) (dn.h.inv a ha) t r.ev
 cl:=r.cl
 pre:=by
  obtain ⟨d,hp⟩:=r.pre;rcases dn.vw b hb a a with e | t
  ·rw [e];exact ⟨d,hp⟩
  ·exact ⟨d,pm t _ _ _ hp⟩
 ji:=by
  have j:=r.ji;rcases dn.vw b hb a a with e | t
  ·rw [e];exact ⟨j.a,j.c,j.d,j.e,j.f,j.g⟩
  ·have k:=qH (E:=En x b hb a a) (dn.h.inv b hb) j t r.two (fun i c d hi hs hp=>by
    obtain ⟨d1,hp1⟩:=r.pre;rw [((hy.inv b hb).u1 _ _ _ _ _ hp (pm t _ _ _ hp1)).1];exact eT dn.h ha r.ne r.ev r.cl hi hs) (fun b' c d hp=>((hy.inv b hb).v2 _ _ _ hp).2.2.2)
   exact ⟨k.a,k.c,k.d,k.e,k.f,k.g⟩
 ra:=r.ra
 rb:=r.rb
 rc z hz:=by
  obtain ⟨hn,c,d,h1,h2⟩:=r.rc z hz;refine ⟨hn,c,d,?_,h2⟩;rcases dn.vw z hn a a with e | t
  ·rw [e];exact h1
  ·exact ch (E:=En x z hn a a) (dn.h.inv z hn) t _ _ h1
theorem RelR.last {x:Bq} (h:NI x) {a b:Am} {ha:Nd a.1} {hb:Nd b.1} {S:Int→Prop} {ca c0:BN} {da:SDt} {R:Am→Prop} (r:RelR x a b ha hb S ca c0 da R) {i:Int} (hi:Nd i) (h1:b∈GX (AV x i).2.2.1) (h2:a∈GX (AV x i).2.2.1) (hc:(atI (AV x i).2.2.1 b).2.2.2.2.1≠ER) :
  ∃ u v,GX (AV x i).2.2.1=u++v∧a∈u∧b∈v:=by
 have st:∀ y,EY (AV x i).2.2.1 y=true→((vw x y).I i).st=3:=fun y q=>by
  have:=WC (l:=(AV x i).2.2.1) y;rw [q,aAd] at this;exact this
 have hab:a∈dpI (AV x i).2.2.1 b:=by
  have q:=RQ h1;have:=r.ji.d _ _ (((h.inv b hb).g i hi).p5 (st b q.1)) hc;rw [← OW q.1];exact this
 refine iZ h1 hab fun hr=>r.rb ?_;have hcl:∀ y,R y→EY (AV x i).2.2.1 y=true→∀ z,z∈dpI (AV x i).2.2.1 y→R z:=fun y hy q z hz=>by
  obtain ⟨hn,c,d,e1,e2⟩:=r.rc y hy;have I:=h.inv y hn;have:=qG I e1 (I.cm _ _ ((I.g i hi).p5 (st y q)));refine e2 z ?_;rw [← this.2];rw [← OW q] at hz;exact hz
 have key:∀ u v,Gr.Rch (dpI (AV x i).2.2.1) u v→R u→EY (AV x i).2.2.1 u=true→(∀ y,Gr.Rch (dpI (AV x i).2.2.1) u y→EY (AV x i).2.2.1 y=true)→R v:=fun u v hr=>by
  induction hr with
  | one q=>exact fun hu hq _=>hcl _ hu hq _ q
  | cons q _ ih=>exact fun hu hq ha=>ih (hcl _ hu hq _ q) (ha _ (.one q)) fun y hy=>ha y (.cons q hy)
 exact key a b hr r.ra (RQ h2).1 (RQ h2).2
theorem RelR.start {x y:Bq} {i:Int} (dn:Done x y i) (hy:NI y) {a b:Am} (ha:Nd a.1) (hb:Nd b.1) {c0:BN} (hu:Un x b) (ho:OKf x b) (hp:∃ d,(vw y b).pre b.1 c0 d) {j:Int} (hj:Nd j) (hao:a∈GX (AV x j).2.2.1) (hcl:FF (atI (AV x j).2.2.1 a).2.2.2.2.1 c0=true) :
  ∃ S ca da R,RelR y a b ha hb S ca c0 da R:=by
 have st:∀ y,EY (AV x j).2.2.1 y=true→((vw x y).I j).st=3:=fun y q=>by
  have:=WC (l:=(AV x j).2.2.1) y;rw [q,aAd] at this;exact this
 have ch:∀ y (hy:Nd y.1),EY (AV x j).2.2.1 y=true→Iy (E0 y hy) (vw x y) ((vw x y).I j).cmd ((vw x y).I j).sd:=fun y hn q=>by
  have I:=dn.h.inv y hn;exact I.cm _ _ ((I.g j hj).p5 (st y q))
 have hca:=RQ hao;obtain ⟨S,two,ev⟩:=zI (dn.h.inv a ha) (ch a ha hca.1);have hne:a≠b:=fun e=>by
  subst e;have:=qI dn.h ha hu hj;rw [st a hca.1] at this;rcases this with q | q | q
  ·cases q
  ·omega
  ·have:(atI (AV x j).2.2.1 a).2.2.2.2.1=ER:=q;rw [this,Sv,WO] at hcl;cases hcl
 have hcl':FF c0 ((vw x a).I j).cmd=true:=by rw [Sv];exact hcl
 have hok:=Nf dn.h hj;have hidn:∀ y,EY (AV x j).2.2.1 y=true→Nd y.1:=fun y q=>by
  obtain ⟨z,hz,e⟩:=aBz.1 (Uv q);have:=(CC.1 ((CI hok).1 z hz)).id;rw [e] at this;exact XK this
 have r0:JI (En x b hb a a) S (vw x b):=ji0 (dn.h.inv b hb) hu;refine ⟨S,((vw x a).I j).cmd,((vw x a).I j).sd,fun y=>y=a∨Gr.Rch (dpI (AV x j).2.2.1) a y,⟨hne,two,?_,hcl',hp,?_,.inl rfl,?_,?_⟩⟩
 ·rcases dn.vw a ha a a with e | t
  ·rw [e];exact ev
  ·exact eS (E:=En x a ha a a) (dn.h.inv a ha) t ev
 ·rcases dn.vw b hb a a with e | t
  ·rw [e];exact ⟨r0.a,r0.c,r0.d,r0.e,r0.f,r0.g⟩
  ·have k:=qH (E:=En x b hb a a) (dn.h.inv b hb) r0 t two (fun i c d hi hs hp2=>by
    obtain ⟨d1,hp1⟩:=hp;rw [((hy.inv b hb).u1 _ _ _ _ _ hp2 hp1).1];exact eT dn.h ha hne ev hcl' hi hs) (fun b' c d hp=>((hy.inv b hb).v2 _ _ _ hp).2.2.2)
   exact ⟨k.a,k.c,k.d,k.e,k.f,k.g⟩
 ·rintro (e | e)
  ·exact hne e.symm
  ·have key:∀ u v,Gr.Rch (dpI (AV x j).2.2.1) u v→EY (AV x j).2.2.1 u=true→(∀ y,Gr.Rch (dpI (AV x j).2.2.1) u y→EY (AV x j).2.2.1 y=true)→v≠b:=fun u v hr=>by
    induction hr with
    | one q =>
     rename_i u v;intro hu1 _ e;subst e;have:=(ho u (hidn u hu1)).i j hj;rw [← OW hu1] at q;exact this q
    | cons q _ ih=>exact fun _ hc=>ih (hc _ (.one q)) fun y hy=>hc y (.cons q hy)
   exact key a b e hca.1 hca.2 rfl
 ·intro z hz;have hcz:EY (AV x j).2.2.1 z=true:=by
   rcases hz with rfl | e
   ·exact hca.1
   ·exact hca.2 z e
  refine ⟨hidn z hcz,((vw x z).I j).cmd,((vw x z).I j).sd,?_,?_⟩
  ·rcases dn.vw z (hidn z hcz) a a with e | t
   ·rw [e];exact ch z (hidn z hcz) hcz
   ·exact Rl.ch (E:=En x z (hidn z hcz) a a) (dn.h.inv z (hidn z hcz)) t _ _ (ch z (hidn z hcz) hcz)
  ·intro v hv;have hv:v∈(atI (AV x j).2.2.1 z).2.2.2.2.2.2.1:=hv;rw [OW hcz] at hv;rcases hz with rfl | e
   ·exact .inr (.one hv)
   ·exact .inr (e.snoc hv)
theorem pH {x:Bq} (h:NI x) {a:CQ} (ha:a.1=1) (hr:(Gh x a).2=true):Nd a.2.1∧Un x (a.2.1,(AV x a.2.1).2.1)∧(∃ d,(vw (Gh x a).1 (a.2.1,(AV x a.2.1).2.1)).pre a.2.1 a.2.2.2.2 d):=by
 have e2:decide (a.1=2)=false:=by rw [ha];rfl
 have e1:decide (a.1=1)=true:=by rw [ha];rfl
 unfold Gh TR at hr ⊢;split at hr
 ·rename_i h1;rw [if_pos h1];split at hr
  ·cases hr
  ·rename_i h2;rw [if_neg h2];unfold Ep at h1 ⊢;rw [e2,if_neg aAb] at h1 ⊢;split at h1
   ·rename_i h3;have hi:Nd a.2.1:=aAr (p:=0≤a.2.1∧a.2.1 < 3) h3;rw [if_pos h3,if_pos (by rw [e1];rfl)];rw [if_pos (by rw [e1];rfl)] at h1;simp only [] at h1 ⊢;unfold On at h1 ⊢;rw [if_pos e1] at h1 ⊢;rw [← Gv hi] at h1 ⊢;have hme:=KS h.f hi;refine ⟨hi,fun b c d hp=>?_,?_⟩
    ·obtain ⟨d0,q⟩:=((h.inv _ hi).v2 _ _ _ hp).2.2.2;have:=((h.inv _ hi).v2 _ _ _ q).2.1;have e:ldr (E0 (a.2.1,(AV x a.2.1).2.1) hi).r (E0 (a.2.1,(AV x a.2.1).2.1) hi).r=a.2.1:=if_pos hi.2;rw [e] at this;have hG:GN (AV x a.2.1):=by rw [Gv hi];exact (h.f.at hi).2.1
     have hno:∀ y,y∈(AV x a.2.1).2.2.1→y.1≠(a.2.1,(AV x a.2.1).2.1):=fun y hy e=>by
      have:=hG.f.own y hy (by rw [e,hme]);rw [e] at this;exact Int.lt_irrefl _ this
     have hat:(atI (AV x a.2.1).2.2.1 (a.2.1,(AV x a.2.1).2.1)).2.1=-1:=by
      unfold atI Hv;rw [RN hno]
     have h7:a.2.1≤(atI (AV x a.2.1).2.2.1 (a.2.1,(AV x a.2.1).2.1)).2.1:=this;rw [hat] at h7;have:=hi.1;omega
    ·unfold MR at h1 ⊢;split at h1
     ·rename_i h4;rw [if_pos h4];unfold XC at h1 ⊢;split at h1
      ·cases h1
      ·rename_i h5;rw [if_neg h5];rw [hme];refine ⟨((Ch (AV x a.2.1).2.2.1 (a.2.1,(AV x a.2.1).2.1) a.2.2.2.2).1,(Ch (AV x a.2.1).2.2.1 (a.2.1,(AV x a.2.1).2.1) a.2.2.2.2).2),?_⟩
       ·show rl (FJ x.2 (EB a.2.1 (RD (AV x a.2.1) a.2.2.2.2))) _ 1 _;rw [lU,Ux hi _ _ _ _ (fun _ _=>aB6)];right;unfold RD;rw [hme];exact ⟨rfl,rfl,rfl,rfl,rfl⟩
     ·cases h1
   ·cases h1
 ·cases hr
end Go.Proofs.SL
namespace Go.Proofs.SL
open Go Rl
theorem condF {α:Type} {b:Bool} {x y r:α} (h:b=false) (k:y=r):cond b x y=r:=by rw [h];exact k
def RelP (x:Bq) (a b:Am):Prop:=∃ ha hb S ca c0 da R,RelR x a b ha hb S ca c0 da R
theorem RelP.step {x y:Bq} {i:Int} (dn:Done x y i) (hy:NI y) {a b:Am} (h:RelP x a b):RelP y a b:=by
 obtain ⟨ha,hb,S,ca,c0,da,R,r⟩:=h;exact ⟨ha,hb,S,ca,c0,da,R,r.step dn hy⟩
theorem cE {o:List Am} {x:Am} (h:0≤PP o x):∃ k:Nat,PP o x=(k:Int)∧o[k]?=some x:=by
 rcases Fg (fun y=>Bx y x) o with ⟨e,_⟩ | ⟨k,y,e,hk,hy⟩
 ·unfold PP at h;rw [e] at h;omega
 ·have:=aC9 hy;rw [EJ.1 this] at hk;exact ⟨k,e,hk⟩
theorem mB {o u v:List Am} {a b:Am} (hn:o.Nodup) (ho:o=u++v) (ha:a∈u) (hb:b∈v) {i j:Nat} (hi:o[i]?=some b) (hj:o[j]?=some a):j < i:=by
 obtain ⟨p,hp⟩:=aBe ha;obtain ⟨q,hq⟩:=aBe hb;have hpl:=(aA2.1 hp).1;have h1:o[p]?=some a:=by rw [ho,aAp hpl];exact hp
 have h2:o[u.length+q]?=some b:=by rw [ho,aBb om];rw [show u.length+q - u.length=q by omega];exact hq
 have e1:=(List.getElem?_inj (aA2.1 h1).1 hn).1 (h1.trans hj.symm);have e2:=(List.getElem?_inj (aA2.1 h2).1 hn).1 (h2.trans hi.symm);omega
theorem mC {x:Bq} (h:NI x) {i:Int} (hi:Nd i) {a b:Am} (hr:RelP x a b):((decide (0≤PP (GX (Eo x i).2.2.1) b)&&decide (PP (GX (Eo x i).2.2.1) b < PP (GX (Eo x i).2.2.1) a))&&!decide ((atI (Eo x i).2.2.1 b).2.2.2.2.1.1=0))=false:=by
 rw [← Gv hi,aCe];intro hc;simp only [aAg,aAd,aB4,aAm] at hc;obtain ⟨⟨h1,h2⟩,h3⟩:=hc;obtain ⟨j,e1,g1⟩:=cE h1;obtain ⟨k,e2,g2⟩:=cE (x:=a) (o:=GX (AV x i).2.2.1) om;obtain ⟨ha,hb,S,ca,c0,da,R,r⟩:=hr;obtain ⟨u,v,e,hu,hv⟩:=r.last h hi (aAj g1) (aAj g2) (fun e=>h3 (by rw [e];rfl));have:=mB (TV _).1 e hu hv g1 g2;omega
theorem dG {l:List Ar} (ho:Ok.ok l) (hs:FU l) (a b:Am):MY l a b=some (decide (0≤PP (GX l) a)&&decide (PP (GX l) a < PP (GX l) b)):=by
 have hl:=(TV l).2;unfold MY;refine AK (RL ho hs) ?_;refine AK (bY om a) ?_;exact AK (bY om b) rfl
structure NdF (x:Bq) (i:Int):Prop where
 ix:idx x.1 i=some (Eo x i)
 ok:Ok.ok (Eo x i).2.2.1
 sm:FU (Eo x i).2.2.1
 len:(Eo x i).2.2.1.length≤1048576
 vl:∀ q,Ok.ok (atI (Eo x i).2.2.1 q).2.2.2.2.1
theorem NI.nd {x:Bq} (h:NI x) {i:Int} (hi:Nd i):NdF x i:=by
 obtain ⟨h1,h2,_⟩:=h.f.at hi;have hs:=h2.f.s;have hl:=CB h2.f.is;exact ⟨h1,hs.ok.2.2.1,hs.sm,by omega,fun q=>Ja (PG h2.f q).cmd⟩
structure LI (x:Bq) (az bs:List Am) (n:Nat):Prop where
 ni:NI x
 ok:∀ f,Nd f.1→Un x f→OKf x f
 len:az.length=bs.length
 sz:az.length≤n
 rel:∀ (j:Nat) (a b:Am),az[j]?=some a→bs[j]?=some b→RelP x a b
structure MI (y:Bq) (az bs:List Am) (n:Nat):Prop where
 len:az.length=bs.length
 sz:az.length≤n
 rel:∀ (j:Nat) (a b:Am),az[j]?=some a→bs[j]?=some b→RelP y a b
theorem MI.mono {y:Bq} {az bs:List Am} {n m:Nat} (h:MI y az bs n) (hm:n≤m):MI y az bs m:=⟨h.len,by have:=h.sz;omega,h.rel⟩
theorem MI.add {y:Bq} {az bs:List Am} {n:Nat} (h:MI y az bs n) {a b:Am} (hr:RelP y a b):MI y (az++[a]) (bs++[b]) (n+1):=by
 refine ⟨by simp [h.len],by have:=h.sz;simp;omega,fun j a' b' h1 h2=>?_⟩;have hl:=h.len;by_cases hj:j < az.length
 ·rw [aAp hj] at h1;rw [aAp om] at h2;exact h.rel j a' b' h1 h2
 ·have e:j=az.length:=by
   have:=(aA2.1 h1).1;rw [aAq] at this;have:[a].length=1:=rfl;omega
  subst e;rw [aBb (aAu _),aEu] at h1;rw [hl,aBb (aAu _),aEu] at h2
  cases Option.some.inj h1;cases Option.some.inj h2
  exact hr
theorem LI.next {x:Bq} {az bs:List Am} {n:Nat} (h:LI x az bs n) (a:CQ):NI (Gh x a).1∧(∀ f,Nd f.1→Un (Gh x a).1 f→OKf (Gh x a).1 f)∧MI (Gh x a).1 az bs n:=by
 rcases XL h.ni a with ⟨_,e⟩ | ⟨_,d⟩
 ·rw [e];exact ⟨h.ni,h.ok,h.len,h.sz,h.rel⟩
 ·have hy:=d.NI (bE h.ni.f a);exact ⟨hy,fun f hf hu=>OKf.step d hy hf hu (h.ok f hf (d.un hf hu)),h.len,h.sz,fun j a b h1 h2=>(h.rel j a b h1 h2).step d hy⟩
theorem MI.li {y:Bq} {az bs:List Am} {n:Nat} (h:MI y az bs n) (hy:NI y) (ho:∀ f,Nd f.1→Un y f→OKf y f):LI y az bs n:=⟨hy,ho,h.len,h.sz,h.rel⟩
theorem wL {x:Bq} {az bs:List Am} {n:Nat} (h:LI x az bs n) (hn:n≤1000000):Bn (fun a1:Int=>cond (decide (a1 < (x.1.length:Int))) (Bn (fun a0:Int=>cond (decide (a0 < (az.length:Int))) (Option.bind (idx x.1 a1) (fun a2=>Option.bind (idx bs a0) (fun a3=>Option.bind (EI a2.2.2.1 a3) (fun a4=>Option.bind (idx x.1 a1) (fun a5=>Option.bind (idx bs a0) (fun a6=>Option.bind (idx az a0) (fun a7=>Option.bind (MY a5.2.2.1 a6 a7) (fun a8=>cond (a8&&(!decide (a4.2.2.2.2.1.1=0))) (Option.map .inr (Option.map .inr (some false))) (some (.inl (IntKind.wrap .i64 (a0+1)))))))))))) (Option.map .inr (some (.inl (IntKind.wrap .i64 (a1+1)))))) 0) (Option.map .inr (some (decide ((x.1.length:Int)=3))))) 0=some true:=by
 have hl:=h.ni.f.len;refine CN (fun s:Int=>0≤s∧s≤3) (fun s=>(3 - s).toNat) ?_ ⟨by omega,by omega⟩;rintro i ⟨h0,h3⟩;by_cases hi:i < 3
 ·left;have nd:=h.ni.nd (i:=i) ⟨h0,hi⟩;rw [aA6 (show i < (x.1.length:Int) by omega),aA8];refine RA (C:=fun s'=>(0≤s'∧s'≤3)∧(3 - s').toNat < (3 - i).toNat) (fun s:Int=>∃ k:Nat,k≤az.length∧s=(k:Int)) (fun s=>(az.length - s).toNat) (fun s=>s=i+1) (fun s e=>by subst e;omega) ⟨0,aAn _,rfl⟩ ?_;rintro _ ⟨k,hk,rfl⟩;have hsz:=h.sz;by_cases hlt:k < az.length
  ·left;have ha:az[k]?=some az[k]:=aA1 hlt;have hlb:k < bs.length:=by rw [← h.len];exact hlt
   have hb:bs[k]?=some bs[k]:=aA1 hlb;have hr:=h.rel k _ _ ha hb;generalize az[k]=a at ha hr;generalize bs[k]=b at hb hr;rw [aA6 (show (k:Int) < (az.length:Int) by omega),aA8];refine ⟨_,AK nd.ix (AK (by rw [By];exact hb) (AK (FM nd.len nd.sm b) (AK nd.ix (AK (by rw [By];exact hb) (AK (by rw [By];exact ha) (AK (dG nd.ok nd.sm b a) (condF (mC h.ni ⟨h0,hi⟩ hr) rfl))))))),⟨k+1,hlt,BX om⟩,?_⟩;rw [BX om];omega
  ·right;have:k=az.length:=by omega
   subst this;rw [aA5 (show ¬ (az.length:Int) < (az.length:Int) by omega),aA3];exact ⟨_,rfl,BT (by unfold inR;omega)⟩
 ·right;have:i=3:=by omega
  subst this;rw [hl];rfl
theorem LI.new:LI Fv [] [] 0:=⟨NI.new,fun f _ _=>OKf.new f,rfl,aAu _,fun j a b h=>by cases h⟩
theorem tH (c:List UInt8):SF c=some true:=by
 unfold SF YU;rw [aA7];by_cases hb:1048576 < (c.length:Int)
 ·rw [aA6 hb];rfl
 rw [aA5 hb,aA3];obtain ⟨l,e1,hl⟩:=sY (c:=c) om;rw [e1,aA7];by_cases h3:300 < (l.length:Int)
 ·rw [aA6 h3];rfl
 rw [aA5 h3,aA3,bK,aA7,aA7,aA7]
 (try simp only [Prod.eta])
 refine CN (fun s:(List Am)×(List Am)×Int×(List Ap)×(List Ao)=>∃ k:Nat,k≤l.length∧s.2.2.1=(k:Int)∧LI s.2.2.2 s.1 s.2.1 (972*k)) (fun s=>(l.length - s.2.2.1).toNat) ?_ ⟨0,aAn _,rfl,LI.new⟩;rintro ⟨az,bs,_,x⟩ ⟨k,hk,rfl,hI⟩;dsimp only at hI ⊢;by_cases hlt:k < l.length
 ·left;have hx:l[k]?=some l[k]:=aA1 hlt;have ho:=hl.2 _ (aBw hlt);generalize l[k]=a at hx ho;have hix:idx l (k:Int)=some a:=by rw [By];exact hx
  rw [aA6 (show (k:Int) < (l.length:Int) by omega),aA8,hix,aA7,dE hI.ni.f ho,aA7];obtain ⟨hy,hoy,hM⟩:=hI.next a
  cases hd:(Gh x a).2 with
  | false =>
   rw [Ls _ _ _ rfl];rw [aDm,aA3,BX om];exact ⟨_,rfl,⟨k+1,hlt,rfl,(hM.mono om).li hy hoy⟩,by dsimp only;omega⟩
  | true =>
   rw [CE,aA7,aBc];by_cases h1:a.1=1
   ·rw [aA6 h1,aA8];obtain ⟨hA,hUn,hpre⟩:=pH hI.ni h1 hd;have ndA:=hI.ni.nd hA;have dn:Done x (Gh x a).1 (Ep x a).1:=by
     rcases XL hI.ni a with ⟨e,_⟩ | ⟨_,d⟩
     ·rw [hd] at e;cases e
     ·exact d
    have hoK:=hI.ok (a.2.1,(AV x a.2.1).2.1) hA hUn;rw [aA7,aA7,ndA.ix,aA7];rw [Gv hA] at hUn hpre hoK;generalize hid:(a.2.1,(Eo x a.2.1).2.1)=b at hUn hpre hoK;have hbN:Nd b.1:=by rw [← hid];exact hA
    have hst:∀ {j:Int},Nd j→∀ u,u∈GX (Eo x j).2.2.1→FF (atI (Eo x j).2.2.1 u).2.2.2.2.1 a.2.2.2.2=true→RelP (Gh x a).1 u b:=fun {j} hj u hu hc=>by
     rw [← Gv hj] at hu hc;have hcm:=(RQ hu).1;have hu1:Nd u.1:=by
      obtain ⟨z,hz,e⟩:=aBz.1 (Uv hcm);have:=(CC.1 ((CI (Nf hI.ni hj)).1 z hz)).id;rw [e] at this;exact XK this
     obtain ⟨S,ca,da,R,r⟩:=RelR.start dn hy hu1 hbN hUn hoK (by rw [← hid] at hpre ⊢;exact hpre) hj hu hc;exact ⟨hu1,hbN,S,ca,_,da,R,r⟩
    refine RA (C:=fun s':(List Am)×(List Am)×Int×(List Ap)×(List Ao)=>(∃ k:Nat,k≤l.length∧s'.2.2.1=(k:Int)∧LI s'.2.2.2 s'.1 s'.2.1 (972*k))∧(l.length - s'.2.2.1).toNat < (l.length - (k:Int)).toNat) (fun s:(List Am)×(List Am)×Int=>∃ t:Nat,t≤3∧s.2.2=(t:Int)∧MI (Gh x a).1 s.1 s.2.1 (972*k+324*t)) (fun s=>(3 - s.2.2).toNat) (fun s'=>s'.2.2.1=((k+1:Nat):Int)∧s'.2.2.2=(Gh x a).1∧MI (Gh x a).1 s'.1 s'.2.1 (972*k+972)) (fun s' hs=>?_) ⟨0,by omega,rfl,hM.mono om⟩ ?_
    ·obtain ⟨az',bs',kk,x'⟩:=s';obtain ⟨e1,e2,e3⟩:=hs;dsimp only at e1 e2 e3 ⊢;subst e1 e2;exact ⟨⟨k+1,hlt,rfl,(e3.mono om).li hy hoy⟩,by omega⟩
    rintro ⟨az1,bs1,_⟩ ⟨t,ht,rfl,hM1⟩;dsimp only at hM1 ⊢;by_cases ht3:t < 3
    ·left;have hj:Nd (t:Int):=⟨by omega,by omega⟩;have nd:=hI.ni.nd hj;have hoN:=TV (Eo x (t:Int)).2.2.1;have hst':=@hst (t:Int) hj;rw [aA6 (show (t:Int) < 3 by omega),aA8,nd.ix,aA7,RL nd.ok nd.sm,aA7];generalize hoo:GX (Eo x (t:Int)).2.2.1=o at hoN hst';refine RA (C:=fun s':(List Am)×(List Am)×Int=>(∃ t:Nat,t≤3∧s'.2.2=(t:Int)∧MI (Gh x a).1 s'.1 s'.2.1 (972*k+324*t))∧(3 - s'.2.2).toNat < (3 - (t:Int)).toNat) (fun s:(List Am)×(List Am)×Int=>∃ j:Nat,j≤o.length∧s.2.2=(j:Int)∧MI (Gh x a).1 s.1 s.2.1 (972*k+324*t+j)) (fun s=>(o.length - s.2.2).toNat) (fun s'=>s'.2.2=((t+1:Nat):Int)∧MI (Gh x a).1 s'.1 s'.2.1 (972*k+324*(t+1))) (fun s' hs=>?_) ⟨0,by omega,rfl,hM1⟩ ?_
     ·obtain ⟨az',bs',tt⟩:=s';obtain ⟨e1,e3⟩:=hs;dsimp only at e1 e3 ⊢;subst e1;exact ⟨⟨t+1,by omega,rfl,e3⟩,by omega⟩
     rintro ⟨az2,bs2,_⟩ ⟨j,hjo,rfl,hM2⟩;dsimp only at hM2 ⊢;by_cases hjl:j < o.length
     ·left;have hu:o[j]?=some o[j]:=aA1 hjl;have hum:=aBw hjl;generalize o[j]=u at hu hum;have hiu:idx o (j:Int)=some u:=by rw [By];exact hu
      have s1:=hM2.sz;have s2:=hM2.len;rw [aA6 (show (j:Int) < (o.length:Int) by omega),aA8,aA7,hiu,aA7,FM nd.len nd.sm u,aA7,aA7,Wj (nd.vl u) ho.2.2.2.2,aA7]
      cases hc:FF (atI (Eo x (t:Int)).2.2.1 u).2.2.2.2.1 a.2.2.2.2 with
      | false =>
       rw [aA3,BX om];exact ⟨_,rfl,⟨j+1,hjl,rfl,hM2.mono om⟩,by dsimp only;omega⟩
      | true =>
       rw [aA8,aA7,BO (by simp;omega),aA7,BO (by simp;omega),aA7,BX om];exact ⟨_,rfl,⟨j+1,hjl,rfl,hM2.add (hst' u hum hc)⟩,by dsimp only;omega⟩
     ·right;have:j=o.length:=by omega
      subst this;rw [aA5 (show ¬ (o.length:Int) < (o.length:Int) by omega),aA3,BX om];exact ⟨_,rfl,rfl,hM2.mono om⟩
    ·right;have:t=3:=by omega
     subst this;rw [aA5 (show ¬ ((3:Nat):Int) < 3 by omega),aA3,BX om];exact ⟨_,rfl,rfl,rfl,hM1.mono om⟩
   ·rw [aA5 h1,aA3,BX om];exact ⟨_,rfl,⟨k+1,hlt,rfl,(hM.mono om).li hy hoy⟩,by dsimp only;omega⟩
 ·right;have:k=l.length:=by omega
  subst this;rw [aA5 (show ¬ (l.length:Int) < (l.length:Int) by omega),aA3];exact Jb (wL hI om)
end Go.Proofs.SL
namespace Go.Proofs.SL
open Go
theorem mD (w:World) (t1:TL UInt8) (h1:GT.rd w [] t1) (ho1:Ok.ok (GT.dat t1)):Spec Tryz.prog 3 [t1.hdr].toArray w [] (IsV (.bool true)):=YD w t1 h1 true (tH _)
end Go.Proofs.SL
