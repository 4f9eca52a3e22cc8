/- The texts of the proof, part 17. -/
import Derived.Test.YthlbpedehajlgaaGreatT4
set_option linter.all false
namespace Go.Proofs.SL.Rl
structure AI (C D:Type) where
 bal:Int
 vb:Int
 st:Int
 cmd:C
 sd:D
 same:Bool
structure AL (D:Type) where
 bal:Int
 ph:Int
 sd:D
 frm:List Int
 same:Bool
structure St (C D:Type) where
 I:Int→AI C D
 L:Int→Option (AL D)
 pre:Int→C→D→Prop
 preOk:Int→Int→D→Bool→Prop
 acc:Int→C→D→Prop
 accOk:Int→Int→Prop
 com:C→D→Prop
 prepOk:Int→Int→AI C D→Prop
def DX {α:Type} (f:Int→α) (i:Int) (a:α):Int→α:=fun j=>if j=i then a else f j
@[grind =] theorem updI_apply {α:Type} (f:Int→α) (i j:Int) (a:α):DX f i a j=if j=i then a else f j:=rfl
@[simp,grind =] theorem lT {α:Type} (f:Int→α) (i:Int) (a:α):DX f i a i=a:=(updI_apply f i i a).trans (if_pos rfl)
variable {C D:Type}
def ldr (r b:Int):Int:=if b < 3 then r else b % 3
def Nd (i:Int):Prop:=0≤i∧i < 3
def Bl (r b:Int):Prop:=b=r∨3≤b
structure En0 (C:Type) where
 r:Int
 hr:Nd r
 noop:C
structure EnvR (C D:Type) extends En0 C where
 zero:D
 has:D→Prop
 K:Int→C→Prop
 ok:D→Prop
 KO:Int→C→Prop
def Pk (E:EnvR C D) (x t:AI C D) (c:C) (d:D):Prop:=(x.st=2∧(t.st≠2∨t.vb≤x.vb)∧c=x.cmd∧d=x.sd)∨(t.st=2∧(x.st≠2∨x.vb < t.vb)∧c=t.cmd∧d=t.sd) ∨
       (x.st=1∧t.st=1∧x.vb=E.r∧t.vb=E.r∧t.sd=x.sd∧c=x.cmd∧d=x.sd) ∨
       (x.st≤0∧t.st≤0∧c=E.noop∧E.ok d)
instance:CoeOut (EnvR C D) (En0 C):=⟨EnvR.toEn0⟩
inductive Tr (E:EnvR C D) (s:St C D):St C D→Prop
 | offer (c:C) (d:D):(s.I E.r).bal < 0→(s.I E.r).st=0→(E.K E.r c→E.has d)→(E.KO E.r c→E.ok d)→c≠E.noop →
   Tr E s { s with I:=DX s.I E.r ⟨E.r,E.r,1,c,d,true⟩,L:=DX s.L E.r (some ⟨E.r,1,d,[],true⟩),pre:=fun b c' d'=>s.pre b c' d'∨(b=E.r∧c'=c∧d'=d) }
 | drop (i:Int):Tr E s { s with L:=DX s.L i none }
 | rcv (i b:Int):Nd i→(s.I i).bal < b→3≤b→b % 3=i→(s.I i).st≠3 →
   Tr E s { s with I:=DX s.I i { s.I i with bal:=b },L:=DX s.L i (some ⟨b,3,E.zero,[],false⟩) }
 | take (i:Int) (l:AL D) (d:D) (sm2:Bool):Nd i→s.L i=some l→l.ph=1→(s.I i).bal=l.bal →
   ((l.frm≠[]∧d=l.sd)∨∃ k e sm,Nd k∧k≠i∧s.preOk l.bal k e sm∧(E.has e→E.has d)∧(E.has l.sd→E.has d)∧(E.ok e→E.ok l.sd→E.ok d)) →
   Tr E s { s with I:=DX s.I i { s.I i with vb:=l.bal,st:=2,sd:=d,same:=false },L:=DX s.L i (some ⟨l.bal,2,d,[],sm2⟩),acc:=fun b c' d'=>s.acc b c' d'∨(b=l.bal∧c'=(s.I i).cmd∧d'=d) }
 | merge (l:AL D) (k:Int) (e d:D) (frm:List Int) (sm:Bool):s.L E.r=some l→l.ph=1→l.bal=E.r→Nd k→k≠E.r→s.preOk l.bal k e sm →
   (∀ x,x∈frm→x=k∨x∈l.frm)→(e=l.sd→d=l.sd)→(E.has e∨E.has l.sd→E.has d)→(E.ok e→E.ok l.sd→E.ok d) →
   Tr E s { s with L:=DX s.L E.r (some ⟨l.bal,1,d,frm,l.same&&sm⟩) }
 | fast (l:AL D) (k:Int) (e d:D) (frm:List Int):s.L E.r=some l→l.ph=1→l.bal=E.r→(s.I E.r).bal=E.r→Nd k→k≠E.r→s.preOk l.bal k e true →
   (∀ x,x∈frm→x=k∨x∈l.frm)→(∀ x,Nd x→x≠E.r→x∈frm)→l.same=true→(e=l.sd→d=l.sd)→(E.has e∨E.has l.sd→E.has d)→(E.ok e→E.ok l.sd→E.ok d) →
   Tr E s { s with I:=DX s.I E.r { s.I E.r with st:=3,sd:=d,same:=false },L:=DX s.L E.r none,com:=fun c' d'=>s.com c' d'∨(c'=(s.I E.r).cmd∧d'=d) }
 | slow (i:Int) (l:AL D) (k:Int):Nd i→s.L i=some l→l.ph=2→(s.I i).bal=l.bal→s.accOk l.bal k →
   Tr E s { s with I:=DX s.I i { s.I i with st:=3,sd:=l.sd,same:=false },L:=DX s.L i none,com:=fun c' d'=>s.com c' d'∨(c'=(s.I i).cmd∧d'=l.sd) }
 | pre5a (i b:Int) (c:C) (d:D):Nd i→i≠ldr E.r b→s.pre b c d→(s.I i).bal≤b→(s.I i).st=1→(s.I i).vb=b →
   Tr E s { s with preOk:=fun b' i' d' sm=>s.preOk b' i' d' sm∨(b'=b∧i'=i∧d'=(s.I i).sd∧sm=(s.I i).same) }
 | pre5b (i b:Int) (c:C) (d e:D) (sm:Bool):Nd i→i≠ldr E.r b→s.pre b c d→(s.I i).bal≤b→(s.I i).st≤1→¬ ((s.I i).st=1∧(s.I i).vb=b)→(sm=true→e=d)→(E.has d∨E.K i c→E.has e)→(E.ok d→E.KO i c→E.ok e) →
   Tr E s { s with I:=DX s.I i ⟨b,b,1,c,e,sm⟩,preOk:=fun b' i' d' sm'=>s.preOk b' i' d' sm'∨(b'=b∧i'=i∧d'=e∧sm'=sm) }
 | accept (i b:Int) (c:C) (d:D):Nd i→i≠ldr E.r b→s.acc b c d→(s.I i).bal≤b→(s.I i).st≠3 →
   Tr E s { s with I:=DX s.I i ⟨b,b,2,c,d,false⟩,accOk:=fun b' i'=>s.accOk b' i'∨(b'=b∧i'=i) }
 | learn (i:Int) (c:C) (d:D):Nd i→s.com c d→(s.I i).st≠3 →
   Tr E s { s with I:=DX s.I i { s.I i with st:=3,cmd:=c,sd:=d,same:=false },L:=DX s.L i none }
 | prep (i b:Int):Nd i→3≤b→i≠ldr E.r b→b≤(s.I (ldr E.r b)).bal→(s.I i).bal < b →
   Tr E s { s with I:=DX s.I i { s.I i with bal:=b },prepOk:=fun b' i' t=>s.prepOk b' i' t∨(b'=b∧i'=i∧t={ s.I i with bal:=b }) }
 | pick3 (i:Int) (l:AL D) (z:Int) (t p:AI C D):Nd i→s.L i=some l→l.ph=3→(s.I i).bal=l.bal→s.prepOk l.bal z t →
   (((s.I i).st=3∧p=s.I i)∨(t.st=3∧p=t∧(s.I i).st≠3)) →
   Tr E s { s with I:=DX s.I i ⟨l.bal,l.bal,3,p.cmd,p.sd,false⟩,L:=DX s.L i none,com:=fun c' d'=>s.com c' d'∨(c'=p.cmd∧d'=p.sd) }
 | pick2 (i:Int) (l:AL D) (z:Int) (t:AI C D) (c:C) (d:D):Nd i→s.L i=some l→l.ph=3→(s.I i).bal=l.bal→s.prepOk l.bal z t→(s.I i).st≠3→t.st≠3 →
   Pk E (s.I i) t c d →
   Tr E s { s with I:=DX s.I i ⟨l.bal,l.bal,2,c,d,false⟩,L:=DX s.L i (some ⟨l.bal,2,d,[],false⟩),acc:=fun b c' d'=>s.acc b c' d'∨(b=l.bal∧c'=c∧d'=d) }
 | pick1 (i:Int) (l:AL D) (z:Int) (t:AI C D) (c:C) (d:D):Nd i→s.L i=some l→l.ph=3→(s.I i).bal=l.bal→s.prepOk l.bal z t→(s.I i).st≤1→t.st≤1 →
   ¬ ((s.I i).st=1∧t.st=1∧(s.I i).vb=E.r∧t.vb=E.r∧(s.I i).same=true∧t.same=true∧t.sd=(s.I i).sd) →
   (((s.I i).st=1∧c=(s.I i).cmd)∨(t.st=1∧c=t.cmd))→(E.K i c→E.has d)→(E.KO i c→E.ok d) →
   Tr E s { s with I:=DX s.I i ⟨l.bal,l.bal,1,c,d,true⟩,L:=DX s.L i (some ⟨l.bal,1,d,[],true⟩),pre:=fun b c' d'=>s.pre b c' d'∨(b=l.bal∧c'=c∧d'=d) }
def Fst (E:En0 C) (s:St C D) (c:C) (d:D):Prop:=s.pre E.r c d∧(∀ x,Nd x→x≠E.r→s.preOk E.r x d true)∧(∀ c' d',¬ s.acc E.r c' d')∧∀ l,s.L E.r=some l→l.bal≠E.r
def Iy (E:En0 C) (s:St C D) (c:C) (d:D):Prop :=
 (∃ b x,s.acc b c d∧s.accOk b x)∨Fst E s c d
structure Good (E:En0 C) (s:St C D) (i b:Int) (t:AI C D):Prop where
 p1:t.st=1→i=ldr E.r t.vb→s.pre t.vb t.cmd t.sd∧t.same=true
 p2:t.st=1→i≠ldr E.r t.vb→s.preOk t.vb i t.sd t.same
 p3:t.st=1→∃ d,s.pre t.vb t.cmd d
 p4:t.st=2→s.acc t.vb t.cmd t.sd
 p5:t.st=3→s.com t.cmd t.sd
 p6:t.st≤3
 q1:∀ b' d sm,b' < b→s.preOk b' i d sm→1≤t.st∧b'≤t.vb
 q2:∀ b' c d,b' < b→s.pre b' c d→i=ldr E.r b'→1≤t.st∧b'≤t.vb
 q3:∀ b' c d,b' < b→s.acc b' c d→i=ldr E.r b'→2≤t.st∧b'≤t.vb
 q4:∀ b',b' < b→s.accOk b' i→2≤t.st∧b'≤t.vb
def SJ (E:En0 C) (s:St C D) (b:Int):Prop:=∀ x,Nd x→x≠ldr E.r b→b < (s.I x).bal∧¬ s.accOk b x
structure Wv (E:En0 C) (s:St C D) (c:C) (d:D):Prop where
 p:s.pre E.r c d
 na:∀ c' d',¬ s.acc E.r c' d'
 y:∃ y,Nd y∧y≠E.r∧s.preOk E.r y d true
 x:∀ x,Nd x→x≠E.r→(s.I x).bal≤E.r∨s.preOk E.r x d true
structure Inv (E:En0 C) (s:St C D):Prop where
 g:∀ i,Nd i→Good E s i ((s.I i).bal+1) (s.I i)
 v1:∀ b i d sm,s.preOk b i d sm→Nd i∧i≠ldr E.r b∧b≤(s.I i).bal∧∃ c d,s.pre b c d
 v2:∀ b c d,s.pre b c d→Bl E.r b∧b≤(s.I (ldr E.r b)).bal∧c≠E.noop∧∃ d0,s.pre E.r c d0
 v3:∀ b c d,s.acc b c d→Bl E.r b∧b≤(s.I (ldr E.r b)).bal∧(c≠E.noop→∃ d0,s.pre E.r c d0)
 v4:∀ b i,s.accOk b i→Nd i∧i≠ldr E.r b∧b≤(s.I i).bal∧∃ c d,s.acc b c d
 po:∀ b i t,s.prepOk b i t→3≤b∧Nd i∧i≠ldr E.r b∧t.vb < b∧b≤(s.I i).bal∧b≤(s.I (ldr E.r b)).bal∧Good E s i b t
 vb:∀ i,Nd i→(s.I i).vb≤(s.I i).bal
 u1:∀ b c d c' d',s.pre b c d→s.pre b c' d'→c=c'∧d=d'
 u2:∀ b c d c' d',s.acc b c d→s.acc b c' d'→c=c'∧d=d'
 u3:∀ b i d sm d' sm',s.preOk b i d sm→s.preOk b i d' sm'→d=d'∧sm=sm'
 sm:∀ b i d c d',s.preOk b i d true→s.pre b c d'→d=d'
 ld:∀ i l,Nd i→s.L i=some l→i=ldr E.r l.bal∧Bl E.r l.bal∧l.bal≤(s.I i).bal∧(l.ph=1∨l.ph=2∨l.ph=3)
 l1:∀ i l,Nd i→s.L i=some l→l.ph=1→(∃ c d,s.pre l.bal c d)∧(∀ c d,¬ s.acc l.bal c d)∧((s.I i).bal=l.bal→(s.I i).st=1∧(s.I i).vb=l.bal)
 le:∀ i l,Nd i→s.L i=some l→l.ph=1→3≤l.bal→∀ b c d,b < l.bal→s.acc b c d→SJ E s b
 lr:∀ l,s.L E.r=some l→l.ph=1→l.bal=E.r→l.same=true→(∀ c d,s.pre E.r c d→l.sd=d)∧∀ k,k∈l.frm→s.preOk E.r k l.sd true
 l2:∀ i l,Nd i→s.L i=some l→l.ph=2→(s.I i).bal=l.bal→s.acc l.bal (s.I i).cmd l.sd
 l3:∀ i l,Nd i→s.L i=some l→l.ph=3→3≤l.bal∧(∀ c d,¬ s.acc l.bal c d)∧(∀ c d,¬ s.pre l.bal c d)∧((s.I i).bal=l.bal→(s.I i).vb < l.bal)
 qa:∀ b c d,3≤b→s.acc b c d→∃ z,Nd z∧z≠ldr E.r b∧b≤(s.I z).bal
 qp:∀ b c d,3≤b→s.pre b c d→∃ z,Nd z∧z≠ldr E.r b∧b≤(s.I z).bal
 dB:∀ b c d b' c' d',s.acc b c d→s.acc b' c' d'→b' < b→¬ (c'=c∧d'=d)→SJ E s b'
 dA:∀ c d,Wv E s c d→(∀ b c' d',3≤b→s.acc b c' d'→c'=c∧d'=d)∧∀ b c' d',3≤b→¬ s.pre b c' d'
 cm:∀ c d,s.com c d→Iy E s c d
theorem k1 {E:En0 C} {s:St C D} (h:Inv E s):∀ b i b2 z,Nd i→i=ldr E.r b→(∀ c d,¬ s.acc b c d)→3≤b2→b < b2→b2≤(s.I (ldr E.r b2)).bal→z≠ldr E.r b2→Nd z→b2≤(s.I z).bal→(s.I i).bal=b→SJ E s b:=by
 have h4:=h.v4;have hr:=E.hr;clear h;intro b i b2 z hi hib na h3 hlt hb2 hz hzn hbz hbi x hx hxn
 grind [Nd,ldr]
theorem k0 {E:En0 C} {s:St C D} (h:Inv E s) {b i z:Int} {t:AI C D} (hp:s.prepOk b z t) (hib:i=ldr E.r b) (hi:Nd i) (hbi:(s.I i).bal=b) {b':Int} {c:C} {d:D} (hlt:b' < b) (ha:s.acc b' c d) :
  SJ E s b'∨(2≤(s.I i).st∧b'≤(s.I i).vb)∨(2≤t.st∧b'≤t.vb):=by
 obtain ⟨p1,p2,p3,p4,p5,p6,gz⟩:=h.po b z t hp;have gi:=h.g i hi;have a1:=gi.q3 b' c d om ha;have a2:=gz.q3 b' c d hlt ha;have a3:=gi.q4 b' om;have a4:=gz.q4 b' hlt;have hr:=E.hr;clear gi gz h;unfold SJ
 grind [Nd,ldr]
theorem k2 {E:En0 C} {s:St C D} (h:Inv E s):∀ b i z t,s.prepOk b z t→i=ldr E.r b→Nd i→(s.I i).bal=b→(s.I i).st≤1→t.st≤1→∀ b' c d,b' < b→s.acc b' c d→SJ E s b':=by
 intro b i z t hp hib hi hbi h1 h2 b' c d hlt ha;rcases k0 h hp hib hi hbi hlt ha with q | q | q
 ·exact q
 ·omega
 ·omega
theorem k3 {E:EnvR C D} {s:St C D} (h:Inv E s) {b i z:Int} {t:AI C D} (hp:s.prepOk b z t) (hib:i=ldr E.r b) (hi:Nd i) (hbi:(s.I i).bal=b) {b':Int} {c c':C} {d d':D} (hlt:b' < b) (ha:s.acc b' c' d')
  (h1:(s.I i).st≠3) (h2:t.st≠3) (hk:Pk E (s.I i) t c d) (hn:¬ (c'=c∧d'=d)):SJ E s b':=by
 have q:=k0 h hp hib hi hbi hlt ha;have p1:=(h.g i hi).p4;have p2:=(h.po b z t hp).2.2.2.2.2.2.p4;have p3:=(h.g i hi).p6;have p4:=(h.po b z t hp).2.2.2.2.2.2.p6;have u:=h.u2;have dB:=fun b0 (q:s.acc b0 c d) (q2:b' < b0)=>h.dB b0 c d b' c' d' q ha q2 hn;clear h;unfold Pk at hk
 grind
theorem dm {E:EnvR C D} {s s':St C D} (t:Tr E s s'):∀ b,SJ E s b→SJ E s' b:=by
 intro b hd x hx hxn;have:=hd x hx hxn;have hr:=E.hr;clear hd
 cases t<;>grind [Nd]
theorem ch2 {E:EnvR C D} {s s':St C D} (h:Inv E s) (t:Tr E s s') {c:C} {d:D} (hc:Fst E s c d):Fst E s' c d:=by
 obtain ⟨h1,h2,h3,h4⟩:=hc;have h5:=(h.v2 _ _ _ h1).2.1;have hr:=E.hr;have hl3:=h.l3;have hld:=h.ld;have e:ldr E.r E.r=E.r:=if_pos hr.2;rw [e] at h5;clear h;unfold Fst
 cases t<;>grind [Nd,ldr]
theorem ch1 {E:EnvR C D} {s s':St C D} (t:Tr E s s'):(∀ b c d,s.acc b c d→s'.acc b c d)∧∀ b x,s.accOk b x→s'.accOk b x:=by
 cases t<;>grind
theorem ch {E:EnvR C D} {s s':St C D} (h:Inv E s) (t:Tr E s s'):∀ c d,Iy E s c d→Iy E s' c d:=by
 intro c d hc;rcases hc with ⟨b,x,h1,h2⟩ | h1
 ·exact .inl ⟨b,x,(ch1 t).1 _ _ _ h1,(ch1 t).2 _ _ h2⟩
 ·exact .inr (ch2 h t h1)
set_option maxHeartbeats 1000000
theorem gmR {E:EnvR C D} {s s':St C D} (h:Inv E s) (t:Tr E s s') {i b:Int} {x:AI C D} (hi:Nd i) (hb:b≤(s.I i).bal) (hg:Good E s i b x):Good E s' i b x:=by
 have hr:=E.hr;have hp2:=(h.g i hi).p2;obtain ⟨a1,a2,a3,a4,a5,a6,q1,q2,q3,q4⟩:=hg;have hld:=h.ld;clear h
 cases t<;>constructor<;>grind [Nd,ldr]
theorem gw {E:En0 C} {s:St C D} (h:Inv E s) {i b:Int} (hi:Nd i):Good E s i b (s.I i):=by
 have g:=h.g i hi;exact ⟨g.p1,g.p2,g.p3,g.p4,g.p5,g.p6,fun b' d sm _ q=>g.q1 b' d sm (by have:=(h.v1 _ _ _ _ q).2.2.1;omega) q,fun b' c d _ q e=>g.q2 b' c d (by have:=(h.v2 _ _ _ q).2.1;rw [← e] at this;omega) q e,fun b' c d _ q e=>g.q3 b' c d (by have:=(h.v3 _ _ _ q).2.1;rw [← e] at this;omega) q e,fun b' _ q=>g.q4 b' (by have:=(h.v4 _ _ q).2.2.1;omega) q⟩
theorem bm {E:EnvR C D} {s s':St C D} (t:Tr E s s') (i:Int):(s.I i).bal≤(s'.I i).bal:=by
 have hr:=E.hr
 cases t<;>grind [Nd]
theorem zF {E:EnvR C D} {s s':St C D} (h:Inv E s) (t:Tr E s s'):∀ b i x,s'.prepOk b i x→3≤b∧Nd i∧i≠ldr E.r b∧x.vb < b∧b≤(s'.I i).bal∧b≤(s'.I (ldr E.r b)).bal∧Good E s' i b x:=by
 intro b i x hx;have g1:s.prepOk b i x→3≤b∧Nd i∧i≠ldr E.r b∧x.vb < b∧b≤(s'.I i).bal∧b≤(s'.I (ldr E.r b)).bal∧Good E s' i b x:=fun q=>by
  obtain ⟨a1,a2,a3,a4,a5,a6,a7⟩:=h.po _ _ _ q;exact ⟨a1,a2,a3,a4,aG3 a5 (bm t i),aG3 a6 (bm t _),gmR h t a2 a5 a7⟩
 cases t
 case prep j b0 hj h3 hjl hb hlt =>
  rcases hx with hx | ⟨rfl,rfl,rfl⟩
  ·exact g1 hx
  ·have t':Tr E s _:=.prep _ _ hj h3 hjl hb hlt;have e:=bm t' (ldr E.r b);have g:=gw (b:=b) h hj;refine ⟨h3,hj,hjl,Int.lt_of_le_of_lt (h.vb _ hj) hlt,by simp,aG3 hb e,⟨g.p1,g.p2,g.p3,g.p4,g.p5,g.p6,g.q1,g.q2,g.q3,g.q4⟩⟩
 all_goals exact g1 hx
theorem k5 {E:En0 C} {s:St C D} (h:Inv E s) (hx:∀ x,Nd x→x≠E.r→(s.I x).bal≤E.r):(∀ b c d,3≤b→¬ s.acc b c d)∧∀ b c d,3≤b→¬ s.pre b c d:=by
 have hr:=E.hr;have h1:=h.qa;have h2:=h.qp;have h3:=h.v2;have h4:=h.v3;clear h;constructor<;>intro b c d hb hc
 ·obtain ⟨z,z1,z2,z3⟩:=h1 b c d hb hc;have:=(h4 b c d hc).2.1
  grind [Nd,ldr]
 ·obtain ⟨z,z1,z2,z3⟩:=h2 b c d hb hc;have:=(h3 b c d hc).2.1
  grind [Nd,ldr]
theorem k6 {E:En0 C} {s:St C D} (h:Inv E s) {c:C} {d:D} (w:Wv E s c d) {x b:Int} {t:AI C D} (hx:Nd x) (hb:3≤b) (hbx:b≤(s.I x).bal) (g:Good E s x b t) :
  (t.st=1∧t.cmd=c∧t.sd=d∧t.vb=E.r∧t.same=true)∨(t.st=2∧t.cmd=c∧t.sd=d)∨t.st=3:=by
 have hr:=E.hr;obtain ⟨d1,d2⟩:=h.dA c d w;have e:ldr E.r E.r=E.r:=if_pos hr.2;have s1:1≤t.st∧E.r≤t.vb:=by
  by_cases q:x=E.r
  ·exact g.q2 E.r c d (by have:=hr.2;omega) w.p (by rw [e];exact q)
  ·rcases w.x x hx q with q2 | q2
   ·have:=hr.2;omega
   ·exact g.q1 E.r d true (by have:=hr.2;omega) q2
 have s2:=g.p6;have g1:=g.p1;have g2:=g.p2;have g3:=g.p3;have g4:=g.p4;have hv2:=h.v2;have hv3:=h.v3;have u1:=h.u1;have u3:=h.u3 E.r x;have w1:=w.p;have w2:=w.na;have w3:=w.x x hx;clear h g w;have:t.st=1∨t.st=2∨t.st=3:=by omega
 rcases this with q | q | q
 ·left;obtain ⟨d0,p3⟩:=g3 q;have b1:=(hv2 _ _ _ p3).1;have b2:t.vb=E.r:=by
   rcases b1 with b1 | b1
   ·exact b1
   ·exact absurd p3 (d2 _ _ _ b1)
  rw [b2] at p3 g1 g2;rw [e] at g1 g2;have c1:=(u1 _ _ _ _ _ p3 w1).1;by_cases q3:x=E.r
  ·have:=g1 q q3;exact ⟨q,c1,(u1 _ _ _ _ _ this.1 w1).2,b2,this.2⟩
  ·have:=g2 q q3;rcases w3 q3 with q4 | q4
   ·have:=hr.2;omega
   ·have:=u3 _ _ _ _ this q4;exact ⟨q,c1,this.1,b2,this.2⟩
 ·right;left;have p4:=g4 q;rcases (hv3 _ _ _ p4).1 with b1 | b1
  ·rw [b1] at p4;exact absurd p4 (w2 _ _)
  ·exact ⟨q,d1 _ _ _ b1 p4⟩
 ·exact .inr (.inr q)
theorem wb {E:EnvR C D} {s s':St C D} (h:Inv E s) (t:Tr E s s') {c:C} {d:D} (w:Wv E s' c d):Wv E s c d∨((∀ x,Nd x→x≠E.r→(s.I x).bal≤E.r)∧s'.acc=s.acc∧s'.pre=s.pre):=by
 have hr:=E.hr;have hv1:=h.v1;have hv2:=h.v2;have hp2:=fun i hi=>(h.g i hi).p2;have hm:=bm t;have hl3:=h.l3;have e:ldr E.r E.r=E.r:=if_pos hr.2;clear h;obtain ⟨w1,w2,⟨y,y1,y2,y3⟩,w4⟩:=w;cases t
 case offer =>
  have:=(hv2 _ _ _ (hv1 _ _ _ _ y3).2.2.2.choose_spec.choose_spec).2.1
  grind [Nd]
 case pre5b i b c1 d1 e1 sm hi hil hp hb hs hn hh hh2 hh3 =>
  by_cases q:b=E.r
  ·subst q;by_cases q2:∃ y,Nd y∧y≠E.r∧s.preOk E.r y d true
   ·refine .inl ⟨w1,w2,q2,?_⟩
    grind
   ·refine .inr ⟨fun x x1 x2=>?_,rfl,rfl⟩;have:=hm x
    grind
  ·refine .inl ⟨w1,w2,⟨y,y1,y2,by grind⟩,by grind⟩
 case pre5a=>exact .inl ⟨w1,w2,⟨y,y1,y2,by grind⟩,by grind⟩
 all_goals exact .inl ⟨by grind,by grind,⟨y,y1,y2,y3⟩,by grind⟩
theorem zG {E:EnvR C D} {s s':St C D} (h:Inv E s) (t:Tr E s s'):∀ c d,Wv E s' c d→(∀ b c' d',3≤b→s'.acc b c' d'→c'=c∧d'=d)∧∀ b c' d',3≤b→¬ s'.pre b c' d':=by
 intro c d w';rcases wb h t w' with w | ⟨q,ea,ep⟩
 ·have hd:=h.dA c d w;have hr:=E.hr;have hl3:=h.l3;have hl1:=h.l1;have hpo:=h.po;have kk:=fun i (hi:Nd i) b (hb:3≤b) (hbi:b≤(s.I i).bal)=>k6 h w hi hb hbi (gw h (b:=b) hi);have kt:=fun b z t (q:s.prepOk b z t)=>k6 h w (hpo b z t q).2.1 (hpo b z t q).1 (hpo b z t q).2.2.2.2.1 (hpo b z t q).2.2.2.2.2.2;have na:=w'.na;clear h w;cases t
  case pick2 i l z t c1 d1 hi hL0 hp0 hb0 ht0 a0 a1 hk =>
   have h3:=(hl3 i l hi hL0 hp0).1;have k1:=kk i hi l.bal h3 om;have k2:=kt l.bal z t ht0;refine ⟨fun b c' d' hb ha=>?_,hd.2⟩;rcases ha with ha | ⟨rfl,rfl,rfl⟩
   ·exact hd.1 _ _ _ hb ha
   ·unfold Pk at hk;clear hl1 hpo kk kt hl3 hd
    grind
  case pick1 i l z t c1 d1 hi hL0 hp0 hb0 ht0 a0 a1 hf hk hK hKO =>
   have h3:=(hl3 i l hi hL0 hp0).1;have k1:=kk i hi l.bal h3 om;have k2:=kt l.bal z t ht0;clear hl1 hpo kk kt hl3
   grind
  case take i l d1 sm2 hi hL0 hp0 hb0 hk =>
   obtain ⟨c2,d2,h3⟩:=(hl1 i l hi hL0 hp0).1;clear hl1 hpo kk kt hl3
   grind
  case offer=>grind [Nd]
  all_goals exact hd
 ·rw [ea,ep];exact ⟨fun b c' d' hb ha=>absurd ha ((k5 h q).1 _ _ _ hb),(k5 h q).2⟩
set_option maxHeartbeats 1000000
set_option maxHeartbeats 4000000 in
theorem Ab0 {E:EnvR C D} {s s':St C D} (h:Inv E s) (t:Tr E s s'):∀ i,Nd i→Good E s' i ((s'.I i).bal+1) (s'.I i):=by
 intro i hi;have hr:=E.hr;obtain ⟨a1,a2,a3,a4,a5,a6,q1,q2,q3,q4⟩:=h.g i hi;have w1:=h.v1;have w2:=h.v2;have w3:=h.v3;have w4:=h.v4;have hld:=h.ld i;have hvb:=h.vb i hi
 cases t<;>constructor<;>first | grind [Nd,ldr] | (have hL:=h.ld;grind [Nd,ldr])
set_option maxHeartbeats 40000000 in
theorem pr {E:EnvR C D} {s s':St C D} (h:Inv E s) (t:Tr E s s'):Inv E s' where
 g:=Ab0 h t
 v1:=by
  have hr:=E.hr;have hv1:=h.v1;have hvb:=h.vb;cases t
  all_goals grind (splits:=20) [Nd,ldr]
 v2:=by
  have hr:=E.hr;have hv2:=h.v2;have hgp3:=fun i (hi:Nd i)=>(h.g i hi).p3;have hpop3:=fun b i t (q:s.prepOk b i t)=>(h.po b i t q).2.2.2.2.2.2.p3;have hpo0:=fun b i t (q:s.prepOk b i t)=>(⟨(h.po b i t q).1,(h.po b i t q).2.1,(h.po b i t q).2.2.1,(h.po b i t q).2.2.2.1,(h.po b i t q).2.2.2.2.1,(h.po b i t q).2.2.2.2.2.1⟩:3≤b∧Nd i∧i≠ldr E.r b∧t.vb < b∧b≤(s.I i).bal∧b≤(s.I (ldr E.r b)).bal);cases t
  case offer =>
   grind (splits:=20) [Nd,ldr,Bl]
  all_goals grind (splits:=20) [Nd,ldr,Bl]
 v3:=by
  have hr:=E.hr;have hv3:=h.v3;cases t
  case take =>
   have hld:=h.ld;have hl1:=h.l1;have hgp3:=fun i (hi:Nd i)=>(h.g i hi).p3;have hv2:=h.v2
   grind (splits:=20) [Nd,ldr,Bl]
  case pick2 =>
   have hgp3:=fun i (hi:Nd i)=>(h.g i hi).p3;have hgp4:=fun i (hi:Nd i)=>(h.g i hi).p4;have hpop3:=fun b i t (q:s.prepOk b i t)=>(h.po b i t q).2.2.2.2.2.2.p3;have hpop4:=fun b i t (q:s.prepOk b i t)=>(h.po b i t q).2.2.2.2.2.2.p4;have hv2:=h.v2;have hpo0:=fun b i t (q:s.prepOk b i t)=>(⟨(h.po b i t q).1,(h.po b i t q).2.1,(h.po b i t q).2.2.1,(h.po b i t q).2.2.2.1,(h.po b i t q).2.2.2.2.1,(h.po b i t q).2.2.2.2.2.1⟩:3≤b∧Nd i∧i≠ldr E.r b∧t.vb < b∧b≤(s.I i).bal∧b≤(s.I (ldr E.r b)).bal);have hld:=h.ld
   grind (splits:=20) [Nd,ldr,Bl,Pk]
  all_goals grind (splits:=20) [Nd,ldr,Bl]
 v4:=by
  have hr:=E.hr;have hv4:=h.v4;cases t
  all_goals grind (splits:=20) [Nd,ldr]
 po:=zF h t
 vb:=by
  have hr:=E.hr;have hvb:=h.vb;cases t
  all_goals grind (splits:=20) [Nd]
 u1:=by
  have hr:=E.hr;have hu1:=h.u1;have hv2:=h.v2;have hl3:=h.l3;cases t
  all_goals grind (splits:=20) [Nd,ldr,Bl]
 u2:=by
  have hr:=E.hr;have hu2:=h.u2;have hl1:=h.l1;have hl3:=h.l3;cases t
  all_goals grind (splits:=20) [Nd,ldr,Bl]
 u3:=by
  have hr:=E.hr;have hu3:=h.u3;have hv1:=h.v1;have hgq1:=fun i (hi:Nd i)=>(h.g i hi).q1;have hvb:=h.vb;have hgp2:=fun i (hi:Nd i)=>(h.g i hi).p2;cases t
  all_goals grind (splits:=20) [Nd,ldr]
 sm:=by
  have hr:=E.hr;have hsm:=h.sm;have hv1:=h.v1;have hu1:=h.u1;have hv2:=h.v2;have hl3:=h.l3;cases t
  case pre5a =>
   have hgp2:=fun i (hi:Nd i)=>(h.g i hi).p2
   grind (splits:=20) [Nd,ldr]
  all_goals grind (splits:=20) [Nd,ldr,Bl]
 ld:=by
  have hr:=E.hr;have hld:=h.ld;have hv2:=h.v2;cases t
  all_goals grind (splits:=20) [Nd,ldr,Bl]
 l1:=by
  have hr:=E.hr;have hl1:=h.l1;have hld:=h.ld;cases t
  case offer =>
   have hv3:=h.v3
   grind (splits:=20) [Nd,ldr,Bl]
  case pick2 =>
   have hl3:=h.l3
   grind (splits:=20) [Nd,ldr,Bl]
  case pick1 =>
   have hl3:=h.l3
   grind (splits:=20) [Nd,ldr,Bl]
  all_goals grind (splits:=20) [Nd,ldr,Bl]
 le:=by
  have hr:=E.hr;have hle:=h.le;have hld:=h.ld;have hdm:=dm t;cases t
  case take =>
   have hv2:=h.v2;have hqp:=h.qp;have hl1:=h.l1;have hk1:=k1 h
   grind (splits:=20) [Nd,ldr,Bl]
  case pick2 =>
   have hv2:=h.v2;have hqp:=h.qp;have hl1:=h.l1;have hl3:=h.l3;have hk1:=k1 h
   grind (splits:=20) [Nd,ldr,Bl]
  case pick1 =>
   have hk2:=k2 h;rename_i i l z t c d hi hL0 hp0 hb0 ht0 a0 a1 hf hc hK hKO;intro j l' hj hL hp h3 b c' d' hb ha;by_cases e:j=i
   ·subst e
    cases Option.some.inj ((lT _ _ _).symm.trans hL)
    exact hdm _ (hk2 _ _ _ _ ht0 (hld j l hi hL0).1 hi hb0 a0 a1 _ _ _ hb ha)
   ·exact hdm _ (hle j l' hj ((if_neg e).symm.trans hL) hp h3 _ _ _ hb ha)
  all_goals grind (splits:=20) [Nd,ldr,Bl]
 lr:=by
  have hr:=E.hr;have hlr:=h.lr;have hld:=h.ld;cases t
  case offer =>
   have hv2:=h.v2
   grind (splits:=20) [Nd,ldr]
  case merge =>
   have hsm:=h.sm;have hu1:=h.u1;have hl1:=h.l1
   grind (splits:=20) [Nd,ldr]
  case pick1 =>
   have hl3:=h.l3
   grind (splits:=20) [Nd,ldr]
  all_goals grind (splits:=20) [Nd,ldr]
 l2:=by
  have hr:=E.hr;have hl2:=h.l2;have hld:=h.ld;have hu2:=h.u2;cases t
  all_goals grind (splits:=20) [Nd,ldr]
 l3:=by
  have hr:=E.hr;have hl3:=h.l3;have hld:=h.ld;have hvb:=h.vb;cases t
  case rcv =>
   have hv2:=h.v2;have hv3:=h.v3
   grind (splits:=20) [Nd,ldr]
  all_goals grind (splits:=20) [Nd,ldr]
 qa:=by
  have hr:=E.hr;have hqa:=h.qa;cases t
  case take =>
   have hqp:=h.qp;have hld:=h.ld;have hl1:=h.l1
   grind (splits:=20) [Nd,ldr,Bl]
  case pick2 =>
   have hpo0:=fun b i t (q:s.prepOk b i t)=>(⟨(h.po b i t q).1,(h.po b i t q).2.1,(h.po b i t q).2.2.1,(h.po b i t q).2.2.2.1,(h.po b i t q).2.2.2.2.1,(h.po b i t q).2.2.2.2.2.1⟩:3≤b∧Nd i∧i≠ldr E.r b∧t.vb < b∧b≤(s.I i).bal∧b≤(s.I (ldr E.r b)).bal);have hld:=h.ld
   grind (splits:=20) [Nd,ldr,Bl]
  all_goals grind (splits:=20) [Nd,ldr,Bl]
 qp:=by
  have hr:=E.hr;have hqp:=h.qp;cases t
  case pick1 =>
   have hpo0:=fun b i t (q:s.prepOk b i t)=>(⟨(h.po b i t q).1,(h.po b i t q).2.1,(h.po b i t q).2.2.1,(h.po b i t q).2.2.2.1,(h.po b i t q).2.2.2.2.1,(h.po b i t q).2.2.2.2.2.1⟩:3≤b∧Nd i∧i≠ldr E.r b∧t.vb < b∧b≤(s.I i).bal∧b≤(s.I (ldr E.r b)).bal);have hld:=h.ld
   grind (splits:=20) [Nd,ldr,Bl]
  all_goals grind (splits:=20) [Nd,ldr,Bl]
 dB:=by
  have hr:=E.hr;have hdB:=h.dB;have hdm:=dm t;cases t
  case take =>
   have hv2:=h.v2;have hv3:=h.v3;have hqa:=h.qa;have hld:=h.ld;have hl1:=h.l1;have hle:=h.le;have hk1:=k1 h;have hu2:=h.u2
   grind (splits:=20) [Nd,ldr,Bl]
  case pick2 =>
   have hv3:=h.v3;have hqa:=h.qa;have hld:=h.ld;have hl3:=h.l3;have hk1:=k1 h;rename_i i l z t c d hi hL0 hp0 hb0 ht0 a0 a1 hk;intro b c1 d1 b' c2 d2 h1 h2 hlt hn;apply hdm;rcases h1 with h1 | ⟨rfl,rfl,rfl⟩
   ·rcases h2 with h2 | ⟨rfl,rfl,rfl⟩
    ·exact hdB _ _ _ _ _ _ h1 h2 hlt hn
    ·have:=hld i l hi hL0;have h3:=hl3 i l hi hL0 hp0;obtain ⟨z,z1,z2,z3⟩:=hqa b _ _ om h1;exact hk1 _ i b z hi this.1 h3.2.1 om hlt (hv3 _ _ _ h1).2.1 z2 z1 z3 hb0
   ·rcases h2 with h2 | ⟨rfl,rfl,rfl⟩
    ·exact k3 h ht0 (hld i l hi hL0).1 hi hb0 hlt h2 a0 a1 hk hn
    ·omega
  all_goals grind (splits:=20) [Nd]
 dA:=zG h t
 cm:=by
  have hr:=E.hr;have hcm:=h.cm;have hch:=ch h t;cases t
  case fast =>
   have hlr:=h.lr;have hl1:=h.l1;have hgp1:=fun i (hi:Nd i)=>(h.g i hi).p1;have hsm:=h.sm;have hl3:=h.l3;have hld:=h.ld
   grind (splits:=20) [Nd,ldr,Iy,Fst]
  case slow =>
   have hl2:=h.l2
   grind (splits:=20) [Nd,Iy,Fst]
  case pick3 =>
   have hgp5:=fun i (hi:Nd i)=>(h.g i hi).p5;have hpop5:=fun b i t (q:s.prepOk b i t)=>(h.po b i t q).2.2.2.2.2.2.p5
   grind (splits:=20) [Nd]
  all_goals grind (splits:=20) [Nd]
theorem qG {E:En0 C} {s:St C D} (h:Inv E s) {c c':C} {d d':D} (h1:Iy E s c d) (h2:Iy E s c' d'):c'=c∧d'=d:=by
 have hr:=E.hr;have key:∀ {b x c d c' d'},s.acc b c d→s.accOk b x→s.pre E.r c' d'→(∀ x,Nd x→x≠E.r→s.preOk E.r x d' true)→(∀ c' d',¬ s.acc E.r c' d')→c=c'∧d=d':=fun {b x c d c' d'} a1 a2 b1 b2 b3=>by
  have hy:∃ y,Nd y∧y≠E.r:=by
   by_cases q:E.r=0
   ·exact ⟨1,by unfold Nd;omega,by omega⟩
   ·exact ⟨0,by unfold Nd;omega,by omega⟩
  obtain ⟨y,y1,y2⟩:=hy;have w:Wv E s c' d':=⟨b1,b3,⟨y,y1,y2,b2 y y1 y2⟩,fun x x1 x2=>.inr (b2 x x1 x2)⟩;rcases (h.v3 _ _ _ a1).1 with q | q
  ·rw [q] at a1;exact absurd a1 (b3 _ _)
  ·exact (h.dA _ _ w).1 _ _ _ q a1
 rcases h1 with ⟨b1,x1,a1,a2⟩ | ⟨a1,a2,a3,a4⟩
 ·rcases h2 with ⟨b2,x2,e1,e2⟩ | ⟨e1,e2,e3,e4⟩
  ·by_cases q:c'=c∧d'=d
   ·exact q
   ·have v1:=h.v4 _ _ a2;have v2:=h.v4 _ _ e2;rcases Int.lt_trichotomy b1 b2 with q1 | q1 | q1
    ·exact absurd a2 (h.dB _ _ _ _ _ _ e1 a1 q1 (fun q3=>q ⟨q3.1.symm,q3.2.symm⟩) x1 v1.1 v1.2.1).2
    ·subst q1;have:=h.u2 _ _ _ _ _ a1 e1;exact ⟨this.1.symm,this.2.symm⟩
    ·exact absurd e2 (h.dB _ _ _ _ _ _ a1 e1 q1 q x2 v2.1 v2.2.1).2
  ·have:=key a1 a2 e1 e2 e3;exact ⟨this.1.symm,this.2.symm⟩
 ·rcases h2 with ⟨b2,x2,e1,e2⟩ | ⟨e1,e2,e3,e4⟩
  ·exact key e1 e2 a1 a2 a3
  ·have:=h.u1 _ _ _ _ _ a1 e1;exact ⟨this.1.symm,this.2.symm⟩
theorem ini {E:En0 C} {s:St C D} (hI:∀ i,Nd i→(s.I i).bal=-1∧(s.I i).vb=-1∧(s.I i).st=0) (hL:∀ i,Nd i→s.L i=none) (h1:∀ b c d,¬ s.pre b c d) (h2:∀ b i d sm,¬ s.preOk b i d sm) (h3:∀ b c d,¬ s.acc b c d) (h4:∀ b i,¬ s.accOk b i) (h5:∀ c d,¬ s.com c d) (h6:∀ b i t,¬ s.prepOk b i t):Inv E s:=by
 have hr:=E.hr;constructor
 case g=>intro i hi;constructor<;>grind
 case dA=>intro c d w;exact absurd w.p (h1 _ _ _)
 all_goals grind
end Go.Proofs.SL.Rl
