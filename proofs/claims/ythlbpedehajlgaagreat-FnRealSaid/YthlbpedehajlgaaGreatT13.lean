/- The texts of the proof, part 13. -/
import Derived.Test.YthlbpedehajlgaaGreatT12
import Derived.Test.YthlbpedehajlgaaGreatT4
import Derived.Test.YthlbpedehajlgaaGreatT6
import Derived.Test.YthlbpedehajlgaaGreatT11
set_option linter.all false
namespace Go.Proofs.SL
open Go
theorem TJ {s:ByteArray} {b:Bool} (h:Gq s b=true):s.size≤8:=by
 unfold Gq at h
 cases b with
 | true =>
  rw [if_pos rfl] at h;unfold OU at h;simp only [aAg,aAd] at h;omega
 | false =>
  rw [if_neg aAb] at h;rw [aAr h];exact aAn _
theorem Ja {c:BN} (h:DK c=true):Ok.ok c:=by
 have hs:=JU h;have z0:inR 0:=by unfold inR;omega
 unfold DK at h;by_cases h0:c.1=0
 ·rw [if_pos h0] at h;have:c=ER:=by
   exact aAr h
  rw [this];exact ⟨z0,z0,z0,aAn _,aAn _,aAn _,z0,aAn _,fun x hx=>by cases hx⟩
 rw [if_neg h0] at h;simp only [aAg,aAd,aBg] at h;obtain ⟨⟨⟨⟨⟨⟨⟨h1,h2⟩,h3⟩,h4⟩,h5⟩,h6⟩,h7⟩,h8⟩:=h;have k4:=TJ h4;have k5:=TJ h5;have k6:=TJ h6;refine ⟨by show inR _;unfold inR;omega,by show inR _;unfold inR;omega,by show inR _;unfold inR;omega,by show _≤_;omega,by show _≤_;omega,by show _≤_;omega,?_,by show _≤_;omega,fun x hx=>?_⟩
 ·show inR _;unfold inR;rcases h7 with q | q
  ·omega
  omega
 show x.size≤_;by_cases h3:c.1=3
 ·rw [if_pos h3] at h8;simp only [aAg] at h8;have:=aAw.1 h8.2 x hx;have:=aAr this;omega
 rw [if_neg h3] at h8;have:=aAr h8;have:=aC0 (show c.2.2.2.2.2.2.2.length=0 by omega);rw [this] at hx;cases hx
theorem NP {l:List Am} (h:CO l=true):Ok.ok l:=by
 have:=Ea h;refine ⟨by omega,fun y hy=>?_⟩;have:=IS ((CV h).1 y hy);exact ⟨by show inR y.1;unfold inR;omega,by show inR y.2;unfold inR;omega⟩
theorem Qj {x:Am} (h:Dx x=true):Ok.ok x:=by
 have:=IS h;exact ⟨by show inR x.1;unfold inR;omega,by show inR x.2;unfold inR;omega⟩
theorem InstF.okk {x:Ar} (h:InstF x):Ok.ok x:=by
 have h1:=h.bal;have h2:=h.vbal;have h3:=h.st;have h4:=h.seq;exact ⟨Qj h.id,by show inR _;unfold inR;omega,by show inR _;unfold inR;omega,by show inR _;unfold inR;omega,Ja h.cmd,by show inR _;unfold inR;omega,NP h.deps,trivial⟩
theorem InstF.small {x:Ar} (h:InstF x):FT x:=⟨by have:=JU h.cmd;omega,by have:=Ea h.deps;omega⟩
theorem NQ {l:List Int} (h:Ho l=true):l.length≤3:=ZX (IZ h).1 (IZ h).2
theorem LeadF.okk {x:AM} (h:LeadF x):Ok.ok x:=by
 have h1:=h.bal;have h2:=h.ph;have h3:=h.seq;have h4:=NQ h.frm;refine ⟨Qj h.id,by show inR _;unfold inR;omega,by show inR _;unfold inR;omega,by show inR _;unfold inR;omega,NP h.deps,⟨by omega,fun n hn=>?_⟩,trivial⟩;have:=(IZ h.frm).1 n hn;show inR n;unfold inR;omega
theorem LeadF.small {x:AM} (h:LeadF x):MN x:=⟨by have:=Ea h.deps;omega,by have:=NQ h.frm;omega⟩
theorem NodeF.insF {d:Ap} (h:NodeF d) {x:Ar} (hx:x∈d.2.2.1):InstF x:=CC.1 ((CI h.is).1 x hx)
theorem NodeF.ldF {d:Ap} (h:NodeF d) {l:AM} (hl:l∈d.2.2.2):LeadF l:=by
 obtain ⟨k,hk,rfl⟩:=aDs.1 hl;exact (h.ld k _ (aA1 hk)).1
theorem NodeF.okk {d:Ap} (h:NodeF d):Ok.ok d:=by
 have h1:=h.me;have h2:=h.nx;have h3:=CB h.is;have h4:=h.ll;exact ⟨by show inR _;unfold inR;omega,by show inR _;unfold inR;omega,⟨by omega,fun x hx=>(h.insF hx).okk⟩,⟨by omega,fun x hx=>(h.ldF hx).okk⟩⟩
theorem NodeF.small {d:Ap} (h:NodeF d):Iu d:=by
 have h3:=CB h.is;have h4:=h.ll;exact ⟨by omega,fun x hx=>(h.insF hx).small,by omega,fun x hx=>(h.ldF hx).small⟩
theorem NodeF.s {d:Ap} (h:NodeF d):NodeS d:=nodeF.s h h.okk h.small
noncomputable def LY (m:Ao):Bool:=decide (1≤m.1∧m.1≤7)&&decide (0≤m.2.1∧m.2.1 < 3)&&decide (0≤m.2.2.1∧m.2.2.1 < 3)&&!decide (m.2.1=m.2.2.1)&&Dx m.2.2.2.1&&decide (0≤m.2.2.2.2.1∧m.2.2.2.2.1≤600)&&DK m.2.2.2.2.2.1&&decide (0≤m.2.2.2.2.2.2.1∧m.2.2.2.2.2.2.1≤60)&&(CO m.2.2.2.2.2.2.2.1&&!(m.2.2.2.2.2.2.2.1.any fun y=>Bx y m.2.2.2.1))&&decide (0≤m.2.2.2.2.2.2.2.2.1∧m.2.2.2.2.2.2.2.2.1≤3)&&decide (-1≤m.2.2.2.2.2.2.2.2.2.1∧m.2.2.2.2.2.2.2.2.2.1≤600)
structure MsgF (m:Ao):Prop where
 kind:1≤m.1∧m.1≤7
 frm:0≤m.2.1∧m.2.1 < 3
 to:0≤m.2.2.1∧m.2.2.1 < 3
 ne:m.2.1≠m.2.2.1
 id:Dx m.2.2.2.1=true
 bal:0≤m.2.2.2.2.1∧m.2.2.2.2.1≤600
 cmd:DK m.2.2.2.2.2.1=true
 seq:0≤m.2.2.2.2.2.2.1∧m.2.2.2.2.2.2.1≤60
 deps:CO m.2.2.2.2.2.2.2.1=true
 self:(m.2.2.2.2.2.2.2.1.any fun y=>Bx y m.2.2.2.1)=false
 st:0≤m.2.2.2.2.2.2.2.2.1∧m.2.2.2.2.2.2.2.2.1≤3
 vbal:-1≤m.2.2.2.2.2.2.2.2.2.1∧m.2.2.2.2.2.2.2.2.2.1≤600
theorem SA {m:Ao}:LY m=true↔MsgF m:=by
 unfold LY;simp only [aAg,aAd,aB4,aAm];constructor
 ·rintro ⟨⟨⟨⟨⟨⟨⟨⟨⟨⟨h1,h2⟩,h3⟩,h4⟩,h5⟩,h6⟩,h7⟩,h8⟩,h9,h10⟩,h11⟩,h12⟩;exact ⟨h1,h2,h3,h4,h5,h6,h7,h8,h9,h10,h11,h12⟩
 intro h;exact ⟨⟨⟨⟨⟨⟨⟨⟨⟨⟨h.kind,h.frm⟩,h.to⟩,h.ne⟩,h.id⟩,h.bal⟩,h.cmd⟩,h.seq⟩,h.deps,h.self⟩,h.st⟩,h.vbal⟩
theorem MsgF.okk {m:Ao} (h:MsgF m):Ok.ok m:=by
 have h1:=h.kind;have h2:=h.frm;have h3:=h.to;have h4:=h.bal;have h5:=h.seq;have h6:=h.st;have h7:=h.vbal;exact ⟨by show inR _;unfold inR;omega,by show inR _;unfold inR;omega,by show inR _;unfold inR;omega,Qj h.id,by show inR _;unfold inR;omega,Ja h.cmd,by show inR _;unfold inR;omega,NP h.deps,by show inR _;unfold inR;omega,by show inR _;unfold inR;omega,trivial⟩
theorem MsgF.small {m:Ao} (h:MsgF m):RB m:=⟨by have:=JU h.cmd;omega,by have:=Ea h.deps;omega⟩
theorem cT {m:Ao} (ho:Ok.ok m):Pr m=some (LY m):=by
 have hc:Ok.ok m.2.2.2.2.2.1:=ho.2.2.2.2.2.1;have hd:m.2.2.2.2.2.2.2.1.length≤9223372036854775807:=ho.2.2.2.2.2.2.2.1.1;unfold Pr LY;simp only [Prod.eta,NL,MM,Qh,LR hc,Ss hd,Su hd,ob];generalize decide (-1≤m.2.2.2.2.2.2.2.2.2.1∧m.2.2.2.2.2.2.2.2.2.1≤600)=c1;generalize decide (0≤m.2.2.2.2.2.2.2.2.1∧m.2.2.2.2.2.2.2.2.1≤3)=c2;generalize (m.2.2.2.2.2.2.2.1.any fun y=>Bx y m.2.2.2.1)=c3;generalize CO m.2.2.2.2.2.2.2.1=c4;generalize decide (0≤m.2.2.2.2.2.2.1∧m.2.2.2.2.2.2.1≤60)=c5;generalize DK m.2.2.2.2.2.1=c6;generalize decide (0≤m.2.2.2.2.1∧m.2.2.2.2.1≤600)=c7;generalize Dx m.2.2.2.1=c8;generalize decide (m.2.1=m.2.2.1)=c9;generalize decide (0≤m.2.2.1∧m.2.2.1 < 3)=c10;generalize decide (0≤m.2.1∧m.2.1 < 3)=c11;generalize decide (1≤m.1∧m.1≤7)=c12;cases c12
 ·rfl
 cases c11
 ·rfl
 cases c10
 ·rfl
 cases c9
 ·cases c8
  ·rfl
  cases c7
  ·rfl
  cases c6
  ·rfl
  cases c5
  ·rfl
  cases c4
  ·rfl
  cases c3
  ·cases c2
   ·rfl
   cases c1<;>rfl
  rfl
 rfl
theorem UP {m:Ao} (ho:Ok.ok m):Lb m=some (LY m):=by
 have hc:Ok.ok m.2.2.2.2.2.1:=ho.2.2.2.2.2.1;have hd:m.2.2.2.2.2.2.2.1.length≤9223372036854775807:=ho.2.2.2.2.2.2.2.1.1;unfold Lb LY;simp only [Prod.eta,NM,HQ,Px,LQ hc,TE hd,ob];generalize decide (-1≤m.2.2.2.2.2.2.2.2.2.1∧m.2.2.2.2.2.2.2.2.2.1≤600)=c1;generalize decide (0≤m.2.2.2.2.2.2.2.2.1∧m.2.2.2.2.2.2.2.2.1≤3)=c2;generalize (CO m.2.2.2.2.2.2.2.1&&!(m.2.2.2.2.2.2.2.1.any fun y=>Bx y m.2.2.2.1))=c3;generalize decide (0≤m.2.2.2.2.2.2.1∧m.2.2.2.2.2.2.1≤60)=c5;generalize DK m.2.2.2.2.2.1=c6;generalize decide (0≤m.2.2.2.2.1∧m.2.2.2.2.1≤600)=c7;generalize Dx m.2.2.2.1=c8;generalize decide (m.2.1=m.2.2.1)=c9;generalize decide (0≤m.2.2.1∧m.2.2.1 < 3)=c10;generalize decide (0≤m.2.1∧m.2.1 < 3)=c11;generalize decide (1≤m.1∧m.1≤7)=c12;cases c12
 ·rfl
 cases c11
 ·rfl
 cases c10
 ·rfl
 cases c9
 ·cases c8
  ·rfl
  cases c7
  ·rfl
  cases c6
  ·rfl
  cases c5
  ·rfl
  cases c3
  ·rfl
  cases c2
  ·rfl
  cases c1<;>rfl
 rfl
def PE (me:Int) (m:Ao) (x:Ar):Ao:=(2,me,m.2.1,m.2.2.2.1,m.2.2.2.2.1,ER,x.2.2.2.2.2.1,x.2.2.2.2.2.2.1,0,(-1),x.2.2.2.2.2.2.2)
def TK (me:Int) (m:Ao):Ao:=(4,me,m.2.1,m.2.2.2.1,m.2.2.2.2.1,ER,0,([]:List Am),0,(-1),false)
def RE (me:Int) (m:Ao) (x:Ar):Ao:=(7,me,m.2.1,m.2.2.2.1,m.2.2.2.2.1,x.2.2.2.2.1,x.2.2.2.2.2.1,x.2.2.2.2.2.2.1,x.2.2.2.1,x.2.2.1,x.2.2.2.2.2.2.2)
theorem TM {σ α:Type} (s:σ) (k:σ→Option α):FI (some (.inl s)) k=k s:=rfl
theorem aN (d:Ap) (m:Ao) {x:Ar} (h:FT x):GF d m 2 x false=some [PE d.1 m x]:=by
 unfold GF;rw [show decide ((2:Int)=4)=false from rfl,aAi,aA8,ob,BO (by have:=h.2;simp;omega),ob];rfl
theorem oA (d:Ap) (m:Ao) (x:Ar):GF d m 4 x false=some [TK d.1 m]:=rfl
theorem oB (d:Ap) (m:Ao) {x:Ar} (h:FT x):GF d m 7 x true=some [RE d.1 m x]:=by
 unfold GF;rw [show decide ((7:Int)=4)=false from rfl,aAi,aA8,ob,BO (by have:=h.2;simp;omega),ob,TM,aA8];exact AK (Hl h.1) rfl
theorem OH (d:Ap) (m:Ao) {r:Ao} (h:RB r):Gd d m r=some [(r.1,d.1,m.2.1,m.2.2.2.1,r.2.2.2.2)]:=by
 unfold Gd;exact AK (Oe h) rfl
abbrev Gs:=Ap×List Ao×Bool
def noG (d:Ap):Gs:=(d,[],false)
noncomputable def Oj (d:Ap) (m:Ao):Int:=if (Ch d.2.2.1 m.2.2.2.1 m.2.2.2.2.2.1).1 < m.2.2.2.2.2.2.1 then m.2.2.2.2.2.2.1 else (Ch d.2.2.1 m.2.2.2.1 m.2.2.2.2.2.1).1
noncomputable def QR (d:Ap) (m:Ao):List Am:=Gr.join BY m.2.2.2.2.2.2.2.1 (Ch d.2.2.1 m.2.2.2.1 m.2.2.2.2.2.1).2
noncomputable def Jo (d:Ap) (m:Ao):Ar:=(m.2.2.2.1,m.2.2.2.2.1,m.2.2.2.2.1,1,m.2.2.2.2.2.1,Oj d m,QR d m,decide (Oj d m=m.2.2.2.2.2.2.1)&&decide (((QR d m).length:Int)=(m.2.2.2.2.2.2.2.1.length:Int)))
def putN (d:Ap) (x:Ar):Ap:=(d.1,d.2.1,DL d.2.2.1 x,d.2.2.2)
noncomputable def MT (d:Ap) (m:Ao):Gs :=
 if (decide (m.2.2.2.2.1 < (atI d.2.2.1 m.2.2.2.1).2.1)||decide (1 < (atI d.2.2.1 m.2.2.2.1).2.2.2.1))=true then noG d
 else if (decide ((atI d.2.2.1 m.2.2.2.1).2.2.2.1=1)&&decide ((atI d.2.2.1 m.2.2.2.1).2.2.1=m.2.2.2.2.1))=true then (d,[PE d.1 m (atI d.2.2.1 m.2.2.2.1)],true)
 else if CK (Jo d m)=true then (putN d (Jo d m),[PE d.1 m (Jo d m)],true) else noG d
theorem XE {d:Ap} {m:Ao} (h:NodeF d) (hm:MsgF m):CO (QR d m)=true:=Wq hm.deps (EE h.is _ _).deps
theorem sL {d:Ap} {m:Ao} (h:NodeF d) (hm:MsgF m):1≤Oj d m∧Oj d m≤61:=by
 have:=(EE h.is m.2.2.2.1 m.2.2.2.2.2.1).seq;have:=hm.seq;unfold Oj;split<;>omega
theorem SB {d:Ap} {m:Ao} (h:NodeF d) (hm:MsgF m):FT (Jo d m):=⟨hm.small.1,by have:=Ea (XE h hm);show (QR d m).length≤_;omega⟩
theorem aO {d:Ap} {m:Ao} (h:NodeF d) (hm:MsgF m):Ok.ok (Jo d m):=by
 have h1:=hm.bal;have h2:=sL h hm;have z1:inR 1:=by unfold inR;omega
 have zb:inR m.2.2.2.2.1:=by unfold inR;omega
 exact ⟨Qj hm.id,zb,zb,z1,Ja hm.cmd,by show inR (Oj d m);unfold inR;omega,NP (XE h hm),trivial⟩
def unk (d:Ap) (id:Am):Bool:=decide (id.1=d.1)&&decide (d.2.1≤id.2)
theorem gZ {d:Ap} {m:Ao} (h:NodeF d) (hm:MsgF m) (hu:unk d m.2.2.2.1=false):Rm d m=some (MT d m):=by
 have hs:=h.s;have hln:=CB h.is;unfold Rm MT;refine AK (FM om hs.sm m.2.2.2.1) ?_;have hsx:=FG hs.sm m.2.2.2.1;generalize atI d.2.2.1 m.2.2.2.1=x at hsx;generalize q1:(decide (m.2.2.2.2.1 < x.2.1)||decide (1 < x.2.2.2.1))=c1
 cases c1 with
 | true=>rfl
 | false =>
  rw [aA3,if_neg aAb];generalize q2:(decide (x.2.2.2.1=1)&&decide (x.2.2.1=m.2.2.2.2.1))=c2
  cases c2 with
  | true =>
   rw [aA8,if_pos rfl];exact AK (aN d m hsx) rfl
  | false =>
   rw [aA3,if_neg aAb];refine AK (PA (c:=m.2.2.2.2.2.1) h.is hs.ok.2.2.1 (Ja hm.cmd) m.2.2.2.1) ?_;have ha:=EE h.is m.2.2.2.1 m.2.2.2.2.2.1;have hda:=Ea ha.deps;have hdm:=Ea hm.deps;refine AK (UM om om) ?_;have e1:(cond (decide ((Ch d.2.2.1 m.2.2.2.1 m.2.2.2.2.2.1).1 < m.2.2.2.2.2.2.1)) (some (.inl (m.2.2.2.2.2.2.1))) (some (.inl ((Ch d.2.2.1 m.2.2.2.1 m.2.2.2.2.2.1).1))):Option (Int ⊕ Gs))=some (.inl (Oj d m)):=by
    unfold Oj;by_cases hq:(Ch d.2.2.1 m.2.2.2.1 m.2.2.2.2.2.1).1 < m.2.2.2.2.2.2.1
    ·rw [aA6 hq,aA8,if_pos hq]
    ·rw [aA5 hq,aA3,if_neg hq]
   rw [e1,TM];refine AK (Hl (c:=m.2.2.2.2.2.1) hm.small.1) ?_;refine AK (KJ (x:=Jo d m) (aO h hm)) ?_;rw [show (decide (m.2.2.2.1.1=d.1)&&decide (d.2.1≤m.2.2.2.1.2))=false from hu,aCm]
   cases hi:CK (Jo d m) with
   | false=>rfl
   | true =>
    rw [aAe,aA3,if_pos rfl];refine AK (Hf h.is (Jo d m)) ?_;exact AK (aN (putN d (Jo d m)) m (SB h hm)) rfl
theorem oC {d:Ap} {m:Ao} (h:NodeF d) (hm:MsgF m):KF d m=some ((MT d m).2.1,(MT d m).2.2,(MT d m).1):=by
 have hs:=h.s;have hln:=CB h.is;unfold KF MT;refine AK (ED om hs.sm m.2.2.2.1) ?_;have hsx:=FG hs.sm m.2.2.2.1;have hid:=EX d.2.2.1 m.2.2.2.1;generalize atI d.2.2.1 m.2.2.2.1=x at hsx hid;generalize q1:(decide (m.2.2.2.2.1 < x.2.1)||decide (1 < x.2.2.2.1))=c1
 cases c1 with
 | true=>rfl
 | false =>
  rw [aA3,if_neg aAb,← Bool.not_and];generalize q2:(decide (x.2.2.2.1=1)&&decide (x.2.2.1=m.2.2.2.2.1))=c2
  cases c2 with
  | true =>
   rw [aAe,aA3,if_pos rfl];exact AK (OH d m (r:=(2,0,0,(0,0),m.2.2.2.2.1,ER,x.2.2.2.2.2.1,x.2.2.2.2.2.2.1,0,(-1),x.2.2.2.2.2.2.2)) ⟨aAn _,hsx.2⟩) rfl
  | false =>
   rw [aAi,aA8,if_neg aAb];refine AK (PB (c:=m.2.2.2.2.2.1) h.is hs.ok.2.2.1 (Ja hm.cmd) m.2.2.2.1) ?_;have ha:=EE h.is m.2.2.2.1 m.2.2.2.2.2.1;refine AK (Pz (c:=m.2.2.2.2.2.1) hm.small.1) ?_;refine AK (TI hm.deps ha.deps) ?_;have e1:(if (Ch d.2.2.1 m.2.2.2.1 m.2.2.2.2.2.1).1 > m.2.2.2.2.2.2.1 then (Ch d.2.2.1 m.2.2.2.1 m.2.2.2.2.2.1).1 else m.2.2.2.2.2.2.1)=Oj d m:=by
    unfold Oj;split<;>split<;>omega
   have hdl:=Ea (XE h hm);have e2:decide (Gr.join BY m.2.2.2.2.2.2.2.1 (Ch d.2.2.1 m.2.2.2.1 m.2.2.2.2.2.1).2=m.2.2.2.2.2.2.2.1)=decide (((QR d m).length:Int)=(m.2.2.2.2.2.2.2.1.length:Int)):=by
    rw [← lA hm.deps ha.deps];unfold QR;rw [aBn,aAd,aAd];omega
   rw [e1,XD (show (Gr.join BY m.2.2.2.2.2.2.2.1 (Ch d.2.2.1 m.2.2.2.1 m.2.2.2.2.2.1).2).length≤9223372036854775807 by unfold QR at hdl;omega),e2,QW (fun hh=>by rw [hh];rfl)];rw [hid];have hp:=Ia (d:=d) (x:=Jo d m) hs.ok.2.2.1 (aO h hm) h.is hs.sm (SB h hm);refine AK hp ?_
   cases hi:CK (Jo d m) with
   | false=>rfl
   | true =>
    rw [if_pos rfl,if_pos rfl,aAe,aA3];exact AK (OH (putN d (Jo d m)) m (r:=(2,0,0,(0,0),m.2.2.2.2.1,ER,(Jo d m).2.2.2.2.2.1,(Jo d m).2.2.2.2.2.2.1,0,(-1),(Jo d m).2.2.2.2.2.2.2)) ⟨aAn _,(SB h hm).2⟩) rfl
def Ol (m:Ao):Ar:=(m.2.2.2.1,m.2.2.2.2.1,m.2.2.2.2.1,2,m.2.2.2.2.2.1,m.2.2.2.2.2.2.1,m.2.2.2.2.2.2.2.1,false)
noncomputable def MU (d:Ap) (m:Ao):Gs :=
 if (decide (m.2.2.2.2.1 < (atI d.2.2.1 m.2.2.2.1).2.1)||decide ((atI d.2.2.1 m.2.2.2.1).2.2.2.1=3))=true then noG d
 else if CK (Ol m)=true then (putN d (Ol m),[TK d.1 m],true) else noG d
def PF (x:Ar) (m:Ao):Ar:=(m.2.2.2.1,x.2.1,x.2.2.1,3,m.2.2.2.2.2.1,m.2.2.2.2.2.2.1,m.2.2.2.2.2.2.2.1,false)
noncomputable def MV (d:Ap) (m:Ao):Gs :=
 if decide ((atI d.2.2.1 m.2.2.2.1).2.2.2.1=3)=true then noG d
 else if CK (PF (atI d.2.2.1 m.2.2.2.1) m)=true then ((d.1,d.2.1,DL d.2.2.1 (PF (atI d.2.2.1 m.2.2.2.1) m),ES d.2.2.2 m.2.2.2.1),[],true) else noG d
noncomputable def Kd (d:Ap) (m:Ao):Gs :=
 if decide (m.2.2.2.2.1≤(atI d.2.2.1 m.2.2.2.1).2.1)=true then noG d
 else (putN d (IT (atI d.2.2.1 m.2.2.2.1) m.2.2.2.2.1),[RE d.1 m (atI d.2.2.1 m.2.2.2.1)],true)
theorem aP {m:Ao} (hm:MsgF m):Ok.ok (Ol m):=by
 have h1:=hm.bal;have h2:=hm.seq;have zb:inR m.2.2.2.2.1:=by unfold inR;omega
 have zs:inR m.2.2.2.2.2.2.1:=by unfold inR;omega
 exact ⟨Qj hm.id,zb,zb,by show inR 2;unfold inR;omega,Ja hm.cmd,zs,NP hm.deps,trivial⟩
theorem hE {d:Ap} {m:Ao} (h:NodeF d) (hm:MsgF m) (hu:unk d m.2.2.2.1=false):Rn d m=some (MU d m):=by
 have hs:=h.s;have hln:=CB h.is;have hdm:=Ea hm.deps;unfold Rn MU;refine AK (FM om hs.sm m.2.2.2.1) ?_;refine AK (Hl (c:=m.2.2.2.2.2.1) hm.small.1) ?_;rw [ob,BO (by simp;omega),ob,aAa];generalize atI d.2.2.1 m.2.2.2.1=x;rw [show Gm (m.2.2.2.1,m.2.2.2.2.1,m.2.2.2.2.1,2,_,m.2.2.2.2.2.2.1,m.2.2.2.2.2.2.2.1,false)=_ from KJ (x:=Ol m) (aP hm)];rw [show (decide (m.2.2.2.1.1=d.1)&&decide (d.2.1≤m.2.2.2.1.2))=false from hu];generalize q1:(decide (m.2.2.2.2.1 < x.2.1)||decide (x.2.2.2.1=3))=c1
 cases c1 with
 | true=>rfl
 | false =>
  rw [aAi,CE,ob,aAz,aCm,if_neg aAb]
  cases hi:CK (Ol m) with
  | false=>rfl
  | true =>
   rw [aAe,aA3,if_pos rfl];refine AK (Hf h.is (Ol m)) ?_;exact AK (oA (putN d (Ol m)) m (Ol m)) rfl
theorem oD {d:Ap} {m:Ao} (h:NodeF d) (hm:MsgF m):KG d m=some ((MU d m).2.1,(MU d m).2.2,(MU d m).1):=by
 have hs:=h.s;have hln:=CB h.is;unfold KG MU;refine AK (ED om hs.sm m.2.2.2.1) ?_;generalize atI d.2.2.1 m.2.2.2.1=x;generalize q1:(decide (m.2.2.2.2.1 < x.2.1)||decide (x.2.2.2.1=3))=c1
 cases c1 with
 | true=>rfl
 | false =>
  rw [aA3,if_neg aAb];have hp:=Ia (d:=d) (x:=Ol m) hs.ok.2.2.1 (aP hm) h.is hs.sm hm.small;refine AK hp ?_
  cases hi:CK (Ol m) with
  | false=>rfl
  | true =>
   rw [if_pos rfl,if_pos rfl,aAe,aA3];exact AK (OH (putN d (Ol m)) m (r:=(4,0,0,(0,0),m.2.2.2.2.1,ER,0,([]:List Am),0,(-1),false)) ⟨aAn _,aAn _⟩) rfl
theorem TN {d:Ap} (h:NodeF d) (id:Am):(-1≤(atI d.2.2.1 id).2.1∧(atI d.2.2.1 id).2.1≤600)∧(-1≤(atI d.2.2.1 id).2.2.1∧(atI d.2.2.1 id).2.2.1≤600)∧(0≤(atI d.2.2.1 id).2.2.2.1∧(atI d.2.2.1 id).2.2.2.1≤3):=by
 rcases KL d.2.2.1 id with q | q
 ·have:=h.insF q;have h1:=this.bal;have h2:=this.vbal;have h3:=this.st;omega
 rw [q];refine ⟨⟨?_,?_⟩,⟨?_,?_⟩,⟨?_,?_⟩⟩<;>dsimp only<;>omega
theorem aQ {d:Ap} (h:NodeF d) {m:Ao} (hm:MsgF m):Ok.ok (PF (atI d.2.2.1 m.2.2.2.1) m):=by
 have h1:=TN h m.2.2.2.1;have h2:=hm.seq;have zb:inR (atI d.2.2.1 m.2.2.2.1).2.1:=by unfold inR;omega
 have zv:inR (atI d.2.2.1 m.2.2.2.1).2.2.1:=by unfold inR;omega
 have zs:inR m.2.2.2.2.2.2.1:=by unfold inR;omega
 exact ⟨Qj hm.id,zb,zv,by show inR 3;unfold inR;omega,Ja hm.cmd,zs,NP hm.deps,trivial⟩
theorem hJ {d:Ap} {m:Ao} (h:NodeF d) (hm:MsgF m) (hu:unk d m.2.2.2.1=false):Ro d m=some (MV d m):=by
 have hs:=h.s;have hln:=CB h.is;have hdm:=Ea hm.deps;have hll:=h.ll;unfold Ro MV;refine AK (FM om hs.sm m.2.2.2.1) ?_;refine AK (Hl (c:=m.2.2.2.2.2.1) hm.small.1) ?_;rw [ob,BO (by simp;omega),ob,aAa];have hok:=aQ h hm;generalize atI d.2.2.1 m.2.2.2.1=x at hok;rw [show Gm (m.2.2.2.1,x.2.1,x.2.2.1,3,_,m.2.2.2.2.2.2.1,m.2.2.2.2.2.2.2.1,false)=_ from KJ (x:=PF x m) hok];rw [show (decide (m.2.2.2.1.1=d.1)&&decide (d.2.1≤m.2.2.2.1.2))=false from hu]
 cases decide (x.2.2.2.1=3) with
 | true=>rfl
 | false =>
  rw [aAi,CE,ob,aAz,aCm,if_neg aAb]
  cases hi:CK (PF x m) with
  | false=>rfl
  | true =>
   rw [aAe,aA3,if_pos rfl];refine AK (Hf h.is (PF x m)) ?_;exact AK (QQ (d:=(d.1,d.2.1,DL d.2.2.1 (PF x m),d.2.2.2)) (by show d.2.2.2.length≤_;omega) m.2.2.2.1) rfl
theorem oE {d:Ap} {m:Ao} (h:NodeF d) (hm:MsgF m):KH d m=some ((MV d m).2.1,(MV d m).2.2,(MV d m).1):=by
 have hs:=h.s;have hln:=CB h.is;have hll:=h.ll;unfold KH MV;refine AK (ED om hs.sm m.2.2.2.1) ?_;have hok:=aQ h hm;generalize atI d.2.2.1 m.2.2.2.1=x at hok
 cases decide (x.2.2.2.1=3) with
 | true=>rfl
 | false =>
  rw [aA3,if_neg aAb];have hp:=Ia (d:=d) (x:=PF x m) hs.ok.2.2.1 hok h.is hs.sm hm.small;refine AK hp ?_
  cases hi:CK (PF x m) with
  | false=>rfl
  | true =>
   rw [if_pos rfl,if_pos rfl,aAe,aA3];exact AK (Qi (d:=(d.1,d.2.1,DL d.2.2.1 (PF x m),d.2.2.2)) (by show d.2.2.2.length≤_;omega) m.2.2.2.1) rfl
theorem cU {d:Ap} {m:Ao} (h:NodeF d) (hm:MsgF m) (hu:unk d m.2.2.2.1=false):Ps d m=some (Kd d m):=by
 have hs:=h.s;have hln:=CB h.is;unfold Ps Kd;refine AK (FM om hs.sm m.2.2.2.1) ?_;have hsx:=FG hs.sm m.2.2.2.1;generalize atI d.2.2.1 m.2.2.2.1=x at hsx;rw [show (decide (m.2.2.2.1.1=d.1)&&decide (d.2.1≤m.2.2.2.1.2))=false from hu,aCm]
 cases decide (m.2.2.2.2.1≤x.2.1) with
 | true=>rfl
 | false =>
  rw [aA3,if_neg aAb];refine AK (Hf h.is (IT x m.2.2.2.2.1)) ?_;exact AK (oB (putN d (IT x m.2.2.2.2.1)) m (x:=IT x m.2.2.2.2.1) hsx) rfl
theorem lB {d:Ap} {m:Ao} (h:NodeF d) (hm:MsgF m):JM d m=some ((Kd d m).2.1,(Kd d m).2.2,(Kd d m).1):=by
 have hs:=h.s;have hln:=CB h.is;unfold JM Kd;refine AK (ED om hs.sm m.2.2.2.1) ?_;have hsx:=FG hs.sm m.2.2.2.1;have hid:=EX d.2.2.1 m.2.2.2.1;have hb:=TN h m.2.2.2.1;have hmb:=hm.bal;have hok:=fun hb=>RC h.is (id:=m.2.2.2.1) hm.id (b:=m.2.2.2.2.1) hb hmb.1 hmb.2;generalize atI d.2.2.1 m.2.2.2.1=x at hsx hid hb hok;by_cases hq:m.2.2.2.2.1≤x.2.1
 ·rw [aA6 hq];rfl
 rw [aA5 hq,aA3,if_neg aAb];have hi:=hok om;have hp:=Ia (d:=d) (x:=IT x m.2.2.2.2.1) hs.ok.2.2.1 (CC.1 hi).okk h.is hs.sm hsx;rw [hi,if_pos rfl] at hp;refine AK hp ?_;rw [aAe,aA3];exact AK (OH (putN d (IT x m.2.2.2.2.1)) m (r:=(7,0,0,(0,0),m.2.2.2.2.1,x.2.2.2.2.1,x.2.2.2.2.2.1,x.2.2.2.2.2.2.1,x.2.2.2.1,x.2.2.1,x.2.2.2.2.2.2.2)) hsx) rfl
theorem Jb {α β:Type} {o:Option β} {r:β} (h:o=some r):Option.map (Sum.inr:β→α ⊕ β) o=some (.inr r):=by rw [h];rfl
theorem SC {d:Ap} (hd:NodeS d) {k:Nat} {l:AM} (hk:d.2.2.2[k]?=some l) (hlf:LeadF l):Dw d (k:Int) 3=some ((HB d l).2,(HB d l).1):=by
 have hln:=CB hd.is;have hl:=hd.lsm l (aAj hk);have hol:Ok.ok l:=hlf.okk;unfold Dw HB;rw [By,hk,ob,show DC d.2.2.1 l.1=_ from ED om hd.sm l.1,ob];have he:=EX d.2.2.1 l.1;have hsx:=FG hd.sm l.1;have hok:=eJ hd.is hlf;generalize atI d.2.2.1 l.1=x at he hsx hok;by_cases hb:x.2.1=l.2.1
 ·have hoa:Ok.ok (Of x l):=(CC.1 (hok hb)).okk;rw [aA6 hb,aAe,aA3,if_pos hb,GH (by have:=hl.1;omega),ob,show decide ((3:Int)=2)=false from rfl,aA3];refine AK (Qi (d:=d) (by have:=hd.ls;omega) l.1) ?_;have hp:=Ia (d:=(d.1,d.2.1,d.2.2.1,ES d.2.2.2 l.1)) (x:=Of x l) hd.ok.2.2.1 hoa hd.is hd.sm ⟨hsx.1,hl.1⟩;rw [hok hb,if_pos rfl] at hp;refine AK hp ?_;exact AK (Lw (d.1,d.2.1,DL d.2.2.1 (Of x l),ES d.2.2.2 l.1) (m:=(5,0,0,l.1,0,x.2.2.2.2.1,l.2.2.2.1,l.2.2.2.2.1,0,(-1),false)) ⟨hsx.1,hl.1⟩ rfl) rfl
 rw [aA5 hb,aAi,aA8,if_neg hb,show FR _ _=_ from Qi (d:=d) (by have:=hd.ls;omega) l.1];rfl
theorem oF {l:List Int} (h1:∀ n,n∈l→0≤n∧n < 3) (h2:l.Pairwise (· < ·)):Ho l=true:=by
 unfold Ho;rw [aAw];intro k hk;rw [aAv] at hk;have hx:l[k]?=some l[k]:=aA1 hk;unfold Rx;rw [hx];have hm:=h1 _ (aBw hk);simp only [aAg,aBg,aAd];refine ⟨hm,?_⟩;rcases aD1 k with h0 | h0
 ·exact .inl h0
 right;rw [aA1 (show k - 1 < l.length by omega)];exact aA6 (aBv.1 h2 (k - 1) k om hk om)
theorem lC {ls:List AM} (h:∀ (k:Nat) (l:AM),ls[k]?=some l→(ls.findIdx? fun y=>Bx y.1 l.1)=some k):(ls.map (·.1)).Nodup:=by
 rw [aDa,aDr,aBv];intro i j hi hj hij he;have h1:=h i _ (aA1 hi);have h2:=h j _ (aA1 hj);rw [he,h2] at h1;have:=Option.some.inj h1;omega
theorem lD {ls:List AM} (h:(ls.map (·.1)).Nodup) {k:Nat} {l:AM} (hk:ls[k]?=some l):(ls.findIdx? fun y=>Bx y.1 l.1)=some k:=by
 obtain ⟨h1,h2⟩:=aA2.1 hk;rw [aDa,aDr,aBv] at h;refine aBd.2 ⟨h1,?_,fun j hj=>?_⟩
 ·rw [h2,DD];simp
 rw [DD,aF1,aAm];intro e;exact h j k om h1 hj (by rw [h2];exact e)
theorem NodeF.nd {d:Ap} (h:NodeF d):(d.2.2.2.map (·.1)).Nodup:=lC fun k l hk=>(h.ld k l hk).2
theorem NodeF.mk' {d:Ap} (h1:0≤d.1∧d.1 < 3) (h2:1≤d.2.1∧d.2.1≤7) (h3:BF d.2.2.1=true) (h4:d.2.2.2.length≤8) (h5:∀ x,x∈d.2.2.1→x.1.1=d.1→x.1.2 < d.2.1) (h6:∀ l,l∈d.2.2.2→LeadF l) (h7:(d.2.2.2.map (·.1)).Nodup):NodeF d :=
 ⟨h1,h2,h3,h4,h5,fun _ l hk=>⟨h6 l (aAj hk),lD h7 hk⟩⟩
theorem nodeF.ok {d:Ap} (h:NodeF d):Et d=true:=by
 unfold Et;simp only [aAg,aAd,aAw,aB4,aDd,aAm,aAv];refine ⟨⟨⟨⟨⟨h.me,h.nx⟩,h.is⟩,by have:=h.ll;omega⟩,fun x hx=>?_⟩,fun k hk=>?_⟩
 ·by_cases he:x.1.1=d.1
  ·right;have:=h.own x hx he;omega
  exact .inl he
 have hx:d.2.2.2[k]?=some d.2.2.2[k]:=aA1 hk;obtain ⟨h1,h2⟩:=h.ld k _ hx;unfold Is;rw [hx];simp only [aAg,aAd];exact ⟨leadF.ok h1,Nm h2⟩
theorem NodeF.putN {d:Ap} (h:NodeF d) {x:Ar} (hx:InstF x) (hu:unk d x.1=false):NodeF (putN d x):=by
 refine NodeF.mk' h.me h.nx (Xx h.is (CC.2 hx)) h.ll (fun y hy he=>?_) (fun l hl=>h.ldF hl) h.nd;rcases MO.1 hy with q | ⟨q,_⟩
 ·subst q;unfold unk at hu;simp only [aDd,aAm] at hu;rcases hu with r | r
  ·exact absurd he r
  show y.1.2 < d.2.1;omega
 exact h.own y q he
def Ex (d:Ap) (l:AM):Ap:=(d.1,d.2.1,d.2.2.1,Da d.2.2.2 l)
def Ws (d:Ap) (id:Am):Ap:=(d.1,d.2.1,d.2.2.1,ES d.2.2.2 id)
theorem hU {ls:List AM} {k:Nat} {l m:AM} (hk:ls[k]?=some l) (he:m.1=l.1):(ls.set k m).map (·.1)=ls.map (·.1):=by
 refine aDq fun i=>?_;rw [aD4,aD4];by_cases hi:i=k
 ·subst hi;rw [aBu (aA2.1 hk).1,hk];simp [he]
 rw [aFa (fun e=>hi e.symm)]
theorem UQ (ls:List AM) (l:AM):((∃ k m,ls[k]?=some m∧m.1=l.1∧Da ls l=ls.set k l))∨((∀ m,m∈ls→m.1≠l.1)∧Da ls l=ls++[l]):=by
 unfold Da
 cases hf:ls.findIdx? fun y=>Bx y.1 l.1 with
 | none =>
  refine .inr ⟨fun m hm he=>?_,rfl⟩;have:=aCj.1 hf m hm;rw [DD,aAm] at this;exact this he
 | some k =>
  obtain ⟨h1,h2,_⟩:=aBd.1 hf;rw [DD] at h2;exact .inl ⟨k,_,aA1 h1,aAr h2,rfl⟩
theorem NodeF.putL {d:Ap} (h:NodeF d) {l:AM} (hl:LeadF l) (hr:(∃ m,m∈d.2.2.2∧m.1=l.1)∨d.2.2.2.length < 8):NodeF (Ex d l):=by
 rcases UQ d.2.2.2 l with ⟨k,m,hk,he,hp⟩ | ⟨hn,hp⟩
 ·refine NodeF.mk' h.me h.nx h.is ?_ h.own (fun y hy=>?_) ?_
  ·show (Da d.2.2.2 l).length≤8;rw [hp,aF7];exact h.ll
  ·rcases Ly hy with q | q
   ·exact h.ldF q
   rw [q];exact hl
  show ((Da d.2.2.2 l).map (·.1)).Nodup;rw [hp,hU hk he.symm];exact h.nd
 have h8:d.2.2.2.length < 8:=by
  rcases hr with ⟨m,hm,he⟩ | h8
  ·exact absurd he (hn m hm)
  ·exact h8
 refine NodeF.mk' h.me h.nx h.is ?_ h.own (fun y hy=>?_) ?_
 ·show (Da d.2.2.2 l).length≤8;rw [hp,aAq,aEb];omega
 ·rcases Ly hy with q | q
  ·exact h.ldF q
  rw [q];exact hl
 show ((Da d.2.2.2 l).map (·.1)).Nodup;rw [hp,aCb,aBo];refine ⟨h.nd,by simp,fun a ha b hb=>?_⟩;simp only [aE2,List.map_nil,aAl] at hb;subst hb;obtain ⟨m,hm,rfl⟩:=aBz.1 ha;exact hn m hm
theorem NodeF.drp {d:Ap} (h:NodeF d) (id:Am):NodeF (Ws d id):=by
 refine NodeF.mk' h.me h.nx h.is ?_ h.own (fun y hy=>h.ldF (aAs.1 hy).1) ?_
 ·have:=aC4 (fun y:AM=>!Bx y.1 id) d.2.2.2;have:=h.ll;show (ES _ _).length≤_;unfold ES;omega
 show ((ES d.2.2.2 id).map (·.1)).Nodup;unfold ES;exact List.Nodup.sublist (List.Sublist.map _ List.filter_sublist) h.nd
theorem Ge {d:Ap} (h:NodeF d) {id:Am} {l:AM} (hf:(d.2.2.2.find? fun y=>Bx y.1 id)=some l):l∈d.2.2.2∧l.1=id∧LeadF l:=by
 have hm:=aCi hf;exact ⟨hm,sK (k:=0) hf,h.ldF hm⟩
def sM (d:Ap):Prop:=∀ l,l∈d.2.2.2→unk d l.1=false
def XF (d:Ap):Prop:=∀ l,l∈d.2.2.2→l.2.2.1=3→l.2.2.2.2.2.2=false
def Om (l:List Int) (n:Int) (k:Nat):List Int:=((List.range k).map fun t:Nat=>(t:Int)).filter fun t=>decide (t=n)||l.any fun y=>decide (y=t)
def No (l:List Int) (n:Int):List Int:=Om l n 3
theorem lE (l:List Int) (n:Int) (k:Nat):Om l n (k+1)=if (decide ((k:Int)=n)||l.any fun y=>decide (y=(k:Int)))=true then Om l n k++[(k:Int)] else Om l n k:=by
 unfold Om;rw [List.range_succ,aCb,aCt];by_cases h:(decide ((k:Int)=n)||l.any fun y=>decide (y=(k:Int)))=true
 ·rw [if_pos h];simp [h]
 rw [if_neg h];simp [h]
theorem oG (l:List Int) (n:Int) (k:Nat):(Om l n k).length≤k:=by
 unfold Om;refine aCy (aC4 _ _) ?_;simp
theorem Jk (l:List Int) (n:Int):(∀ x,x∈No l n↔(0≤x∧x < 3)∧(x=n∨x∈l))∧(No l n).Pairwise (· < ·):=by
 constructor
 ·intro x;unfold No Om;rw [aAs,aBz];simp only [aAv,aBg,aAd,aBs];constructor
  ·rintro ⟨⟨a,ha,rfl⟩,q⟩;refine ⟨by omega,q.imp id ?_⟩;rintro ⟨y,hy,rfl⟩;exact hy
  rintro ⟨h,q⟩;exact ⟨⟨x.toNat,by omega,by omega⟩,q.imp id fun q=>⟨x,q,rfl⟩⟩
 unfold No Om;refine List.Pairwise.filter _ ?_
 decide
theorem oH (l:List Int) (n:Int):Ho (No l n)=true:=oF (fun x hx=>(((Jk l n).1 x).1 hx).1) (Jk l n).2
theorem hZ {l:List Int} {n:Int} (hl:Ho l=true) (hn:0≤n∧n < 3) (hx:(l.any fun y=>decide (y=n))=false):QZ (l++[n])=some (No l n):=by
 have h1:=IZ hl;have h2:=NQ hl;have hni:n ∉ l:=fun hm=>by
  have:=aD5.1 hx n hm;simp at this
 unfold QZ;rw [if_pos (by simp;omega)];refine aC5 some ?_;have hp:((l++[n]).mergeSort fun x y=>decide (x≤y)).Perm (No l n):=by
  refine (List.mergeSort_perm _ _).trans ((aFm ?_ ?_).2 fun x=>?_)
  ·rw [aBo];refine ⟨h1.2.imp fun {a b} h e=>by omega,by simp,fun a ha b hb=>?_⟩;rw [aAl] at hb;subst hb;exact fun e=>hni (e ▸ ha)
  ·exact (Jk l n).2.imp fun {a b} h e=>by omega
  ·rw [(Jk l n).1,aB0,aAl];constructor
   ·rintro (q | q)
    ·exact ⟨h1.1 x q,.inr q⟩
    ·exact ⟨by omega,.inl q⟩
   ·rintro ⟨_,q | q⟩
    ·exact .inr q
    ·exact .inl q
 refine OB (lt:=fun a b:Int=>decide (a < b)) hp ?_ ?_ fun a b _ _=>?_
 ·have hs:=List.pairwise_mergeSort (le:=fun x y:Int=>decide (x≤y)) (fun a b c h1 h2=>by simp at h1 h2 ⊢;omega) (fun a b=>by simp;omega) (l++[n]);exact hs.imp fun {a b} h=>by simp at h ⊢;omega
 ·exact (Jk l n).2.imp fun {a b} h=>by simp;omega
 simp only [aAd];omega
def Cq (l:AM) (m:Ao):AM:=(l.1,l.2.1,l.2.2.1,(if l.2.2.2.1 < m.2.2.2.2.2.2.1 then m.2.2.2.2.2.2.1 else l.2.2.2.1),Gr.join BY l.2.2.2.2.1 m.2.2.2.2.2.2.2.1,No l.2.2.2.2.2.1 m.2.1,(l.2.2.2.2.2.2&&m.2.2.2.2.2.2.2.2.2.2))
noncomputable def TO (d:Ap) (l:AM) (m:Ao):Gs :=
 if ((!decide (m.2.2.2.2.1=m.2.2.2.1.1))||(!l.2.2.2.2.2.2))=true then ((GI (Ex d l) l).1,(GI (Ex d l) l).2,true)
 else if decide (2≤(l.2.2.2.2.2.1.length:Int))=true then ((HB (Ex d l) l).1,(HB (Ex d l) l).2,true) else (Ex d l,[],true)
noncomputable def Hw (d:Ap) (m:Ao):Gs:=match d.2.2.2.find? fun y=>Bx y.1 m.2.2.2.1 with
 | none=>noG d
 | some l=>if ((decide (l.2.1=m.2.2.2.2.1)&&decide (l.2.2.1=1))&&!(l.2.2.2.2.2.1.any fun y=>decide (y=m.2.1)))=true then TO d (Cq l m) m else noG d
theorem Vq {l:AM} {m:Ao} (hl:LeadF l) (hm:MsgF m) (he:l.1=m.2.2.2.1):LeadF (Cq l m):=by
 refine ⟨hl.id,hl.bal,hl.ph,?_,Wq hl.deps hm.deps,?_,oH _ _⟩
 ·have:=hl.seq;have:=hm.seq;show 0≤(if l.2.2.2.1 < m.2.2.2.2.2.2.1 then m.2.2.2.2.2.2.1 else l.2.2.2.1)∧(if l.2.2.2.1 < m.2.2.2.2.2.2.1 then m.2.2.2.2.2.2.1 else l.2.2.2.1)≤60;split<;>omega
 show ((Gr.join BY l.2.2.2.2.1 m.2.2.2.2.2.2.2.1).any fun y=>Bx y l.1)=false;rw [aD5];intro y hy;rcases (aM hl.deps hm.deps y).1 hy with q | q
 ·exact aD5.1 hl.self y q
 rw [he];exact aD5.1 hm.self y q
theorem oI {ls:List AM} {id:Am} {l:AM} (h:(ls.find? fun y=>Bx y.1 id)=some l):∃ k,(ls.findIdx? fun y=>Bx y.1 id)=some k∧ls[k]?=some l:=by
 rcases Gr.findIdx_find (fun y:AM=>Bx y.1 id) ls with ⟨_,h2⟩ | ⟨k,x,h1,h2,h3⟩
 ·rw [h] at h2;cases h2
 rw [h] at h3;exact ⟨k,h1,by rw [h2];exact aC5 some (Option.some.inj h3).symm⟩
theorem aR {d:Ap} {m:Ao} (h:NodeF d) (hm:MsgF m):NB d m=some (Hw d m):=by
 have hs:=h.s;have hll:=h.ll;have hfr:=hm.frm;unfold NB Hw;refine AK (JP (d:=d) (x:=m.2.2.2.1) om) ?_;rcases Fg (fun y:AM=>Bx y.1 m.2.2.2.1) d.2.2.2 with ⟨h1,h2⟩ | ⟨k,l,h1,h2,h3⟩
 ·rw [h1,h2];rfl
 rw [h1,h3,show decide ((k:Int) < 0)=false from aA5 om];obtain ⟨hlm,hlid,hlf⟩:=Ge h h3;have hln:=NQ hlf.frm;simp only [By,h2,aAi,aAz,CE,ob,aEa]
 cases q1:decide (l.2.1=m.2.2.2.2.1) with
 | false=>rfl
 | true =>
  rw [aAe,CE,ob,aAz,aBc]
  cases q2:decide (l.2.2.1=1) with
  | false=>rfl
  | true =>
   rw [aAe,aA3,aBc]
   cases hany:l.2.2.2.2.2.1.any fun y=>decide (y=m.2.1) with
   | true =>
    obtain ⟨y,hy,hye⟩:=aBs.1 hany;have hye:=aAr hye;obtain ⟨j0,hj0,hyj⟩:=aDs.1 hy;rw [if_neg de];refine CN (fun s:List Int×Int=>s=([],0)) (fun _=>0) ?_ rfl;rintro _ rfl;right;rw [show decide ((0:Int) < 3)=true from rfl,aA8];refine CN (fun s:Bool×Int=>∃ j:Nat,s.2=(j:Int)∧j≤j0) (fun s=>(j0 - s.2).toNat) ?_ ⟨0,rfl,aAn _⟩;rintro ⟨b,j'⟩ ⟨j,e,hj⟩;dsimp only at e ⊢;subst e;have hx:l.2.2.2.2.2.1[j]?=some l.2.2.2.2.2.1[j]:=aA1 om;rw [aA6 (show (j:Int) < (l.2.2.2.2.2.1.length:Int) by omega),aA8,By,hx,ob];by_cases hq:l.2.2.2.2.2.1[j]=m.2.1
    ·right;rw [aA6 hq];rfl
    ·left;rw [aA5 hq,aA3];have hne:j≠j0:=fun e=>by subst e;exact hq (hyj.trans hye)
     rw [BT iR]
     cases b with
     | true=>exact ⟨_,rfl,⟨j+1,by simp,by omega⟩,by dsimp only;omega⟩
     | false =>
      rw [aAi,CE,ob];exact ⟨_,rfl,⟨j+1,by simp,by omega⟩,by dsimp only;omega⟩
   | false =>
    rw [aAi,if_pos rfl];refine CN (fun s:List Int×Int=>∃ t:Nat,t≤3∧s=(Om l.2.2.2.2.2.1 m.2.1 t,(t:Int))) (fun s=>(3 - s.2).toNat) ?_ ⟨0,by omega,rfl⟩;rintro _ ⟨t,ht,rfl⟩;dsimp only;by_cases h3t:t < 3
    ·left;rw [aA6 (show (t:Int) < 3 by omega),aA8];have hal:=oG l.2.2.2.2.2.1 m.2.1 t;refine ⟨(Om l.2.2.2.2.2.1 m.2.1 (t+1),((t+1:Nat):Int)),?_,⟨t+1,h3t,rfl⟩,by dsimp only;omega⟩;refine CN (fun s:Bool×Int=>∃ j:Nat,s.2=(j:Int)∧j≤l.2.2.2.2.2.1.length∧s.1=(decide ((t:Int)=m.2.1)||(l.2.2.2.2.2.1.take j).any fun y=>decide (y=(t:Int)))) (fun s=>(l.2.2.2.2.2.1.length - s.2).toNat) ?_ ⟨0,rfl,aAn _,by simp⟩;rintro ⟨b,j'⟩ ⟨j,e,hj,hb⟩;dsimp only at e hb ⊢;subst e;by_cases hjl:j < l.2.2.2.2.2.1.length
     ·left;have hx:l.2.2.2.2.2.1[j]?=some l.2.2.2.2.2.1[j]:=aA1 hjl;have hq:¬ l.2.2.2.2.2.1[j]=m.2.1:=fun e=>by
       have:=aD5.1 hany _ (aBw hjl);rw [e] at this;simp at this
      generalize l.2.2.2.2.2.1[j]=y at hx hq;rw [aA6 (show (j:Int) < (l.2.2.2.2.2.1.length:Int) by omega),aA8,By,hx,ob,aA5 hq,aA3,BT iR];have hnx:(l.2.2.2.2.2.1.take (j+1)).any (fun y=>decide (y=(t:Int)))=((l.2.2.2.2.2.1.take j).any (fun y=>decide (y=(t:Int)))||decide (y=(t:Int))):=by
       rw [FH hx,aFb];simp
      cases b with
      | true=>exact ⟨_,rfl,⟨j+1,by simp,hjl,by dsimp only;rw [hnx,← Bool.or_assoc,← hb];rfl⟩,by dsimp only;omega⟩
      | false =>
       rw [aAi,CE,ob];exact ⟨_,rfl,⟨j+1,by simp,hjl,by dsimp only;rw [hnx,← Bool.or_assoc,← hb]⟩,by dsimp only;omega⟩
     ·right;have:j=l.2.2.2.2.2.1.length:=by omega
      subst this;rw [aDb] at hb;rw [aA5 (show ¬ (l.2.2.2.2.2.1.length:Int) < (l.2.2.2.2.2.1.length:Int) by omega),aA3,lE,← hb,BT iR]
      cases b with
      | true=>rw [aA8,BO (by simp;omega),if_pos rfl];rfl
      | false=>rw [aA3,if_neg aAb];rfl
    ·right;have:t=3:=by omega
     subst this;rw [show decide (((3:Nat):Int) < 3)=false from rfl,aA3];have hLF:=Vq hlf hm hlid;have h4:=Ea hlf.deps;have h5:=Ea hm.deps;have e1:(cond (decide (l.2.2.2.1 < m.2.2.2.2.2.2.1)) (some (.inl (m.2.2.2.2.2.2.1))) (some (.inl (l.2.2.2.1))):Option (Int ⊕ Gs))=some (.inl (Cq l m).2.2.2.1):=by
      unfold Cq;by_cases hq:l.2.2.2.1 < m.2.2.2.2.2.2.1
      ·rw [aA6 hq,aA8,if_pos hq]
      ·rw [aA5 hq,aA3,if_neg hq]
     rw [UM om om,ob,e1,TM];have hin:∃ m',m'∈d.2.2.2∧m'.1=(Cq l m).1:=⟨l,hlm,rfl⟩;have hF:NodeF (Ex d (Cq l m)):=h.putL hLF (.inl hin);have hS:=hF.s;refine Jb ?_;refine AK (LV (d:=d) om (Cq l m)) ?_;unfold TO;have hb1:(Om l.2.2.2.2.2.1 m.2.1 3)=(Cq l m).2.2.2.2.2.1:=rfl;have hb2:(l.2.2.2.2.2.2&&m.2.2.2.2.2.2.2.2.2.2)=(Cq l m).2.2.2.2.2.2:=rfl;rw [hb1,hb2]
     cases hc:((!decide (m.2.2.2.2.1=m.2.2.2.1.1))||(!(Cq l m).2.2.2.2.2.2)) with
     | true =>
      rw [aA8,if_pos rfl];exact AK (Og (d:=Ex d (Cq l m)) (l:=Cq l m) hS.is hS.sm hLF.small hS.ls) rfl
     | false =>
      rw [aA3,if_neg aAb]
      cases q3:decide (2≤((Cq l m).2.2.2.2.2.1.length:Int)) with
      | true =>
       rw [aA8,if_pos rfl];exact AK (Oh (d:=Ex d (Cq l m)) (l:=Cq l m) hS.is hS.sm hLF.small hS.ls) rfl
      | false=>rfl
theorem aS {l:List Int} {n:Int} (hl:l.length≤1000):GG l n=some (l.any fun y=>decide (y=n)):=by
 unfold GG Jt;have:∃ r,(Bn (fun s1:Int=>cond (decide (s1 < (l.length:Int))) (Option.bind (idx l s1) (fun y3=>cond (decide (n=y3)) (Option.map .inr (some s1)) (some (.inl (IntKind.wrap .i64 (s1+1)))))) (Option.map .inr (some (-1)))) 0:Option Int)=some r∧decide (0≤r)=l.any fun y=>decide (y=n):=by
  refine FK (fun s:Int=>∃ k:Nat,s=(k:Int)∧k≤l.length∧(l.take k).any (fun y=>decide (y=n))=false) (fun s=>(l.length - s).toNat) (fun r=>decide (0≤r)=l.any fun y=>decide (y=n)) ?_ 0 ⟨0,rfl,aAn _,rfl⟩;rintro _ ⟨k,rfl,hk,hany⟩;by_cases hlt:k < l.length
  ·have hx:l[k]?=some l[k]:=aA1 hlt;have hm:l[k]∈l:=aBw hlt;generalize l[k]=x at hx hm;rw [aA6 (show (k:Int) < (l.length:Int) by omega),aA8,By,hx,ob];by_cases hq:n=x
   ·right;rw [aA6 hq,aA8];refine ⟨_,rfl,?_⟩;rw [aA6 (show (0:Int)≤(k:Int) by omega)];exact (aBs.2 ⟨x,hm,aA6 hq.symm⟩).symm
   ·left;rw [aA5 hq,aA3,BT iR];refine ⟨_,rfl,⟨k+1,by simp,hlt,?_⟩,by omega⟩;rw [FH hx,aFb,hany,aAz];simp only [List.any_cons,List.any_nil,aCm,aAm];exact fun e=>hq e.symm
  ·right;rw [aA5 (show ¬ (k:Int) < (l.length:Int) by omega),aA3];refine ⟨_,rfl,?_⟩;rw [aBi om] at hany;rw [hany];rfl
 obtain ⟨r,h1,h2⟩:=this;rw [h1,ob,h2]
theorem iA {d:Ap} {m:Ao} (h:NodeF d) (hm:MsgF m):IY d m=some ((Hw d m).2.1,(Hw d m).2.2,(Hw d m).1):=by
 have hs:=h.s;have hll:=h.ll;have hfr:=hm.frm;unfold IY Hw;refine AK (Lu (d:=d) (x:=m.2.2.2.1) om) ?_;rcases Fg (fun y:AM=>Bx y.1 m.2.2.2.1) d.2.2.2 with ⟨h1,h2⟩ | ⟨k,l,h1,h2,h3⟩
 ·rw [h1,h2];rfl
 rw [h1,h3,show decide ((k:Int) < 0)=false from aA5 om];obtain ⟨hlm,hlid,hlf⟩:=Ge h h3;have hln:=NQ hlf.frm;have hkl:=(aA2.1 h2).1;simp only [By,h2,aAi,aAz,CE,ob,aEa]
 cases q1:decide (l.2.1=m.2.2.2.2.1) with
 | false=>rfl
 | true =>
  rw [aAe,CE,ob,aAz,aBc]
  cases q2:decide (l.2.2.1=1) with
  | false=>rfl
  | true =>
   rw [aAe,aAi,CE,ob,CE,aS om,ob,aAz,aBc]
   cases hany:l.2.2.2.2.2.1.any fun y=>decide (y=m.2.1) with
   | true=>rfl
   | false =>
    have hLF:=Vq hlf hm hlid;have hin:∃ m',m'∈d.2.2.2∧m'.1=(Cq l m).1:=⟨l,hlm,rfl⟩;have hF:NodeF (Ex d (Cq l m)):=h.putL hLF (.inl hin);have hS:=hF.s;have hidx:=(h.ld k l h2).2;have hput:Da d.2.2.2 (Cq l m)=d.2.2.2.set k (Cq l m):=JT hidx;have hk':(Ex d (Cq l m)).2.2.2[k]?=some (Cq l m):=by
     show (Da d.2.2.2 (Cq l m))[k]?=_;rw [hput,aBu hkl]
    have hf':=(hF.ld k _ hk').2;rw [aA3,aAi,if_pos rfl,BO (by simp;omega),ob];simp only [aB8,aBu hkl,ob,aF9,hZ hlf.frm hfr hany,TI hlf.deps hm.deps];have e0:(d.1,d.2.1,d.2.2.1,d.2.2.2.set k (Cq l m))=Ex d (Cq l m):=by unfold Ex;rw [hput]
    have hbm:l.2.1=m.2.2.2.2.1:=aAr q1;unfold TO;have e1:((!decide (l.2.1=m.2.2.2.1.1))||(!(l.2.2.2.2.2.2&&m.2.2.2.2.2.2.2.2.2.2)))=((!decide (m.2.2.2.2.1=m.2.2.2.1.1))||(!(Cq l m).2.2.2.2.2.2)):=by rw [hbm];rfl
    have e2:decide (2≤((No l.2.2.2.2.2.1 m.2.1).length:Int))=decide (2≤((Cq l m).2.2.2.2.2.1.length:Int)):=rfl;rw [e1,e2];have e3:d.2.2.2.set k (l.1,l.2.1,l.2.2.1,(if l.2.2.2.1 < m.2.2.2.2.2.2.1 then m.2.2.2.2.2.2.1 else l.2.2.2.1),Gr.join BY l.2.2.2.2.1 m.2.2.2.2.2.2.2.1,No l.2.2.2.2.2.1 m.2.1,(l.2.2.2.2.2.2&&m.2.2.2.2.2.2.2.2.2.2))=Da d.2.2.2 (Cq l m):=hput.symm;rw [e3]
    cases hc:((!decide (m.2.2.2.2.1=m.2.2.2.1.1))||(!(Cq l m).2.2.2.2.2.2)) with
    | true =>
     rw [aA8,if_pos rfl];exact AK (Sw (d:=Ex d (Cq l m)) hS hk' hf' hLF) rfl
    | false =>
     rw [aA3,if_neg aAb]
     cases q3:decide (2≤((Cq l m).2.2.2.2.2.1.length:Int)) with
     | true =>
      rw [aA8,if_pos rfl];exact AK (SC (d:=Ex d (Cq l m)) hS hk' hLF) rfl
     | false=>rfl
noncomputable def JV (d:Ap) (m:Ao):Gs:=match d.2.2.2.find? fun y=>Bx y.1 m.2.2.2.1 with
 | none=>noG d
 | some l=>if (decide (l.2.1=m.2.2.2.2.1)&&decide (l.2.2.1=2))=true then ((HB d l).1,(HB d l).2,true) else noG d
def Fk (m:Ao):Ar:=(m.2.2.2.1,m.2.2.2.2.1,m.2.2.2.2.2.2.2.2.2.1,m.2.2.2.2.2.2.2.2.1,m.2.2.2.2.2.1,m.2.2.2.2.2.2.1,m.2.2.2.2.2.2.2.1,m.2.2.2.2.2.2.2.2.2.2)
def LZ (m:Ao):Ar:=(m.2.2.2.1,0,m.2.2.2.2.2.2.2.2.2.1,m.2.2.2.2.2.2.2.2.1,m.2.2.2.2.2.1,m.2.2.2.2.2.2.1,m.2.2.2.2.2.2.2.1,m.2.2.2.2.2.2.2.2.2.2)
def Iv (x y:Ar):Bool:=(((((((decide (x.2.2.2.1=1))&&(decide (y.2.2.2.1=1)))&&(decide (x.2.2.1=x.1.1)))&&(decide (y.2.2.1=x.1.1)))&&x.2.2.2.2.2.2.2)&&y.2.2.2.2.2.2.2)&&(decide (x.2.2.2.2.2.1=y.2.2.2.2.2.1)))&&decide (x.2.2.2.2.2.2.1=y.2.2.2.2.2.2.1)
def SD (id:Am):Ar:=(id,0,0,0,ER,0,([]:List Am),false)
def EC (x y:Ar):Ar×Int :=
 if decide (x.2.2.2.1=3)=true then (x,3) else if decide (y.2.2.2.1=3)=true then (y,3)
 else if (decide (x.2.2.2.1=2)&&((!decide (y.2.2.2.1=2))||decide (y.2.2.1≤x.2.2.1)))=true then (x,2)
 else if decide (y.2.2.2.1=2)=true then (y,2) else if Iv x y=true then (x,2)
 else if decide (x.2.2.2.1=1)=true then (x,1) else if decide (y.2.2.2.1=1)=true then (y,1) else (SD x.1,2)
theorem cV {x y:Ar} (hx:x.2.2.2.2.2.2.1.length≤1048576):Pv x y=some (EC x y):=by
 unfold Pv EC
 cases decide (x.2.2.2.1=3) with
 | true=>rfl
 | false =>
  rw [aA3,if_neg aAb]
  cases a0:decide (y.2.2.2.1=3) with
  | true=>rfl
  | false =>
   rw [aA3,if_neg aAb]
   cases (decide (x.2.2.2.1=2)&&((!decide (y.2.2.2.1=2))||decide (y.2.2.1≤x.2.2.1))) with
   | true=>rfl
   | false =>
    rw [aA3,if_neg aAb]
    cases decide (y.2.2.2.1=2) with
    | true=>rfl
    | false =>
     rw [aA3,if_neg aAb];have hf:NC x y=some (Iv x y):=by
      unfold NC Iv;rw [SY om,QW (fun hh=>by rw [hh];rfl)]
     refine AK hf ?_
     cases Iv x y with
     | true=>rfl
     | false =>
      rw [aA3,if_neg aAb]
      cases decide (x.2.2.2.1=1) with
      | true=>rfl
      | false=>cases decide (y.2.2.2.1=1)<;>rfl
def OK (x y:Ar):Ar×Int :=
 if decide (x.2.2.2.1=3)=true then (x,1) else if decide (y.2.2.2.1=3)=true then (y,1)
 else if (decide (x.2.2.2.1=2)&&((!decide (y.2.2.2.1=2))||decide (y.2.2.1≤x.2.2.1)))=true then (x,2)
 else if decide (y.2.2.2.1=2)=true then (y,2) else if Iv x y=true then (x,3)
 else if decide (x.2.2.2.1=1)=true then (x,4) else if decide (y.2.2.2.1=1)=true then (y,4) else (SD (0,0),5)
theorem iB {x y:Ar} (hid:y.1=x.1):(((((decide (x.2.2.2.1=1))&&(decide (x.2.2.1=x.1.1)))&&x.2.2.2.2.2.2.2)&&(((decide (y.2.2.2.1=1))&&(decide (y.2.2.1=y.1.1)))&&y.2.2.2.2.2.2.2))&&decide (x.2.2.2.2.2.1=y.2.2.2.2.2.1)&&decide (x.2.2.2.2.2.2.1=y.2.2.2.2.2.2.1))=Iv x y:=by
 unfold Iv;rw [hid]
 cases decide (x.2.2.2.1=1)<;>cases decide (y.2.2.2.1=1)<;>cases decide (x.2.2.1=x.1.1)<;>cases decide (y.2.2.1=x.1.1)<;>cases x.2.2.2.2.2.2.2<;>cases y.2.2.2.2.2.2.2<;>rfl
theorem lF {x y:Ar} (hx:x.2.2.2.2.2.2.1.length≤1048576) (hid:y.1=x.1):TB x y=some (OK x y):=by
 unfold TB OK
 cases decide (x.2.2.2.1=3) with
 | true=>rfl
 | false =>
  rw [aA3,if_neg aAb]
  cases a0:decide (y.2.2.2.1=3) with
  | true=>rfl
  | false =>
   rw [aA3,if_neg aAb]
   cases (decide (x.2.2.2.1=2)&&((!decide (y.2.2.2.1=2))||decide (y.2.2.1≤x.2.2.1))) with
   | true=>rfl
   | false =>
    rw [aA3,if_neg aAb]
    cases decide (y.2.2.2.1=2) with
    | true=>rfl
    | false =>
     rw [aA3,if_neg aAb];have ht:(cond (decide (x.2.2.2.1=1)) (some (x,4)) (cond (decide (y.2.2.2.1=1)) (some (y,4)) (some (SD (0,0),5))):Option (Ar×Int))=some (if decide (x.2.2.2.1=1)=true then (x,4) else if decide (y.2.2.2.1=1)=true then (y,4) else (SD (0,0),5)):=by
      cases decide (x.2.2.2.1=1) with
      | true=>rfl
      | false=>cases decide (y.2.2.2.1=1)<;>rfl
     have hfs:=iB hid;rw [← hfs];show Option.bind (some (((decide (x.2.2.2.1=1))&&(decide (x.2.2.1=x.1.1)))&&x.2.2.2.2.2.2.2)) (fun y5=>gb y5 (some (((decide (y.2.2.2.1=1))&&(decide (y.2.2.1=y.1.1)))&&y.2.2.2.2.2.2.2)) (fun y6=>gb ((y5&&y6)&&(decide (x.2.2.2.2.2.1=y.2.2.2.2.2.1))) (Ei x.2.2.2.2.2.2.1 y.2.2.2.2.2.2.1) (fun y7=>cond (((y5&&y6)&&(decide (x.2.2.2.2.2.1=y.2.2.2.2.2.1)))&&y7) (some (x,3)) (cond (decide (x.2.2.2.1=1)) (some (x,4)) (cond (decide (y.2.2.2.1=1)) (some (y,4)) (some (SD (0,0),5)))))))=_;rw [ht,XD om];generalize (if decide (x.2.2.2.1=1)=true then (x,4) else if decide (y.2.2.2.1=1)=true then (y,4) else (SD (0,0),5):Ar×Int)=T;generalize (((decide (x.2.2.2.1=1))&&(decide (x.2.2.1=x.1.1)))&&x.2.2.2.2.2.2.2)=A;generalize (((decide (y.2.2.2.1=1))&&(decide (y.2.2.1=y.1.1)))&&y.2.2.2.2.2.2.2)=B;generalize decide (x.2.2.2.2.2.1=y.2.2.2.2.2.1)=E;generalize decide (x.2.2.2.2.2.2.1=y.2.2.2.2.2.2.1)=D;cases A
     ·rfl
     cases B
     ·rfl
     cases E
     ·rfl
     cases D<;>rfl
theorem TP (x:Ar) (m:Ao):((OK x (LZ m)).1.2.2.2.2.1=(EC x (Fk m)).1.2.2.2.2.1∧(OK x (LZ m)).1.2.2.2.2.2.1=(EC x (Fk m)).1.2.2.2.2.2.1∧(OK x (LZ m)).1.2.2.2.2.2.2.1=(EC x (Fk m)).1.2.2.2.2.2.2.1)∧decide ((OK x (LZ m)).2=4)=decide ((EC x (Fk m)).2=1)∧decide ((OK x (LZ m)).2=1)=decide ((EC x (Fk m)).2=3)∧((EC x (Fk m)).2=1∨(EC x (Fk m)).2=2∨(EC x (Fk m)).2=3):=by
 unfold OK EC;have hs:(LZ m).2.2.2.1=(Fk m).2.2.2.1:=rfl;have hv:(LZ m).2.2.1=(Fk m).2.2.1:=rfl;have hf:Iv x (LZ m)=Iv x (Fk m):=rfl;rw [hs,hv,hf];split
 ·exact ⟨⟨rfl,rfl,rfl⟩,rfl,rfl,by first | exact .inl rfl | exact .inr (.inl rfl) | exact .inr (.inr rfl)⟩
 split
 ·exact ⟨⟨rfl,rfl,rfl⟩,rfl,rfl,by first | exact .inl rfl | exact .inr (.inl rfl) | exact .inr (.inr rfl)⟩
 split
 ·exact ⟨⟨rfl,rfl,rfl⟩,rfl,rfl,by first | exact .inl rfl | exact .inr (.inl rfl) | exact .inr (.inr rfl)⟩
 split
 ·exact ⟨⟨rfl,rfl,rfl⟩,rfl,rfl,by first | exact .inl rfl | exact .inr (.inl rfl) | exact .inr (.inr rfl)⟩
 split
 ·exact ⟨⟨rfl,rfl,rfl⟩,rfl,rfl,by first | exact .inl rfl | exact .inr (.inl rfl) | exact .inr (.inr rfl)⟩
 split
 ·exact ⟨⟨rfl,rfl,rfl⟩,rfl,rfl,by first | exact .inl rfl | exact .inr (.inl rfl) | exact .inr (.inr rfl)⟩
 split
 ·exact ⟨⟨rfl,rfl,rfl⟩,rfl,rfl,by first | exact .inl rfl | exact .inr (.inl rfl) | exact .inr (.inr rfl)⟩
 exact ⟨⟨rfl,rfl,rfl⟩,rfl,rfl,by first | exact .inl rfl | exact .inr (.inl rfl) | exact .inr (.inr rfl)⟩
structure ValF (id:Am) (p:Ar):Prop where
 cmd:DK p.2.2.2.2.1=true
 seq:0≤p.2.2.2.2.2.1∧p.2.2.2.2.2.1≤60
 deps:CO p.2.2.2.2.2.2.1=true
 self:(p.2.2.2.2.2.2.1.any fun y=>Bx y id)=false
theorem PG {d:Ap} (h:NodeF d) (id:Am):ValF id (atI d.2.2.1 id):=by
 rcases KL d.2.2.1 id with q | q
 ·have:=h.insF q;exact ⟨this.cmd,this.seq,this.deps,by have h2:=this.self;rw [EX] at h2;exact h2⟩
 rw [q];exact ⟨MQ,⟨by show (0:Int)≤0;omega,by show (0:Int)≤60;omega⟩,rfl,rfl⟩
theorem aT {m:Ao} (hm:MsgF m):ValF m.2.2.2.1 (Fk m):=⟨hm.cmd,hm.seq,hm.deps,hm.self⟩
theorem aU {id:Am} {x y:Ar} (hx:ValF id x) (hy:ValF id y):ValF id (EC x y).1:=by
 unfold EC
 repeat' split
 all_goals first | exact hx | exact hy | exact ⟨MQ,⟨by show (0:Int)≤0;omega,by show (0:Int)≤60;omega⟩,rfl,rfl⟩
noncomputable def BC (d:Ap) (l:AM) (m:Ao) (p:Ar×Int):Ar :=
 if decide (p.2=1)=true then (m.2.2.2.1,l.2.1,l.2.1,1,p.1.2.2.2.2.1,(Ch d.2.2.1 m.2.2.2.1 p.1.2.2.2.2.1).1,(Ch d.2.2.1 m.2.2.2.1 p.1.2.2.2.2.1).2,true)
 else (m.2.2.2.1,l.2.1,l.2.1,1,p.1.2.2.2.2.1,p.1.2.2.2.2.2.1,p.1.2.2.2.2.2.2.1,false)
def CT (l:AM) (ph:Int) (y:Ar) (s:Bool):AM:=(l.1,l.2.1,ph,y.2.2.2.2.2.1,y.2.2.2.2.2.2.1,([]:List Int),s)
noncomputable def RF (d:Ap) (l:AM) (m:Ao) (p:Ar×Int):Gs :=
 if CK (BC d l m p)=true then
  if decide (p.2=3)=true then ((HB (putN d (BC d l m p)) (CT l l.2.2.1 (BC d l m p) (decide (p.2=1)))).1,(HB (putN d (BC d l m p)) (CT l l.2.2.1 (BC d l m p) (decide (p.2=1)))).2,true)
  else if decide (p.2=2)=true then ((GI (putN d (BC d l m p)) (CT l l.2.2.1 (BC d l m p) (decide (p.2=1)))).1,(GI (putN d (BC d l m p)) (CT l l.2.2.1 (BC d l m p) (decide (p.2=1)))).2,true)
  else (Ex (putN d (BC d l m p)) (CT l 1 (BC d l m p) (decide (p.2=1))),EB d.1 (1,0,0,m.2.2.2.1,l.2.1,(BC d l m p).2.2.2.2.1,(BC d l m p).2.2.2.2.2.1,(BC d l m p).2.2.2.2.2.2.1,0,(-1),false),true)
 else noG d
noncomputable def Gu (d:Ap) (m:Ao):Gs:=match d.2.2.2.find? fun y=>Bx y.1 m.2.2.2.1 with
 | none=>noG d
 | some l=>if ((decide (l.2.1=m.2.2.2.2.1)&&decide (l.2.2.1=3))&&decide ((atI d.2.2.1 m.2.2.2.1).2.1=m.2.2.2.2.1))=true then RF d l m (EC (atI d.2.2.1 m.2.2.2.1) (Fk m)) else noG d
theorem UR {d:Ap} (h:NodeF d) {l:AM} (hl:LeadF l) {m:Ao} (hm:MsgF m) {p:Ar×Int} (hp:ValF m.2.2.2.1 p.1):Ok.ok (BC d l m p):=by
 have hb:=hl.bal;have z1:inR 1:=by unfold inR;omega
 have zb:inR l.2.1:=by unfold inR;omega
 unfold BC;split
 ·have ha:=EE h.is m.2.2.2.1 p.1.2.2.2.2.1;have:=ha.seq;have zs:inR (Ch d.2.2.1 m.2.2.2.1 p.1.2.2.2.2.1).1:=by unfold inR;omega
  exact ⟨Qj hm.id,zb,zb,z1,Ja hp.cmd,zs,NP ha.deps,trivial⟩
 have:=hp.seq;have zs:inR p.1.2.2.2.2.2.1:=by unfold inR;omega
 exact ⟨Qj hm.id,zb,zb,z1,Ja hp.cmd,zs,NP hp.deps,trivial⟩
theorem NR {l:AM} (hl:LeadF l) {y:Ar} (hy:InstF y) (he:y.1=l.1) {ph:Int} (hp:1≤ph∧ph≤3) (s:Bool):LeadF (CT l ph y s) :=
 ⟨hl.id,hl.bal,hp,hy.seq,hy.deps,by have:=hy.self;rw [he] at this;exact this,rfl⟩
theorem OL (d:Ap) (l:AM) (m:Ao) (p:Ar×Int):(BC d l m p).1=m.2.2.2.1:=by unfold BC;split<;>rfl
theorem Yu {d:Ap} {m:Ao} (h:NodeF d) (hm:MsgF m) (hu:unk d m.2.2.2.1=false):LM d m=some (Gu d m):=by
 have hs:=h.s;have hll:=h.ll;have hln:=CB h.is;unfold LM Gu;refine AK (JP (d:=d) (x:=m.2.2.2.1) om) ?_;refine AK (FM om hs.sm m.2.2.2.1) ?_;have hv:=PG h m.2.2.2.1;have hsx:=FG hs.sm m.2.2.2.1;generalize atI d.2.2.1 m.2.2.2.1=x at hv hsx;rcases Fg (fun y:AM=>Bx y.1 m.2.2.2.1) d.2.2.2 with ⟨h1,h2⟩ | ⟨k,l,h1,h2,h3⟩
 ·rw [h1,h2];rfl
 ·rw [h1,h3,show decide ((k:Int) < 0)=false from aA5 om];obtain ⟨hlm,hlid,hlf⟩:=Ge h h3;simp only [By,h2,aAi,aAz,CE,ob,aEa]
  cases q1:decide (l.2.1=m.2.2.2.2.1) with
  | false=>rfl
  | true =>
   rw [aAe,CE,ob,aAz,aBc]
   cases q2:decide (l.2.2.1=3) with
   | false=>rfl
   | true =>
    rw [aAe,aAz,aBc]
    cases q3:decide (x.2.1=m.2.2.2.2.1) with
    | false=>rfl
    | true =>
     rw [aAe,aA3,if_pos rfl];have ht:Pt m=some (Fk m):=by
      unfold Pt;refine AK (Hl (c:=m.2.2.2.2.2.1) hm.small.1) ?_;have:=hm.small.2;rw [ob,BO (by simp;omega),ob,aAa];rfl
     refine AK ht ?_;refine AK (cV (y:=Fk m) hsx.2) ?_;have hpv:=aU hv (aT hm);obtain ⟨_,_,_,h123⟩:=TP x m;generalize EC x (Fk m)=p at hpv h123;have hoy:=UR h hlf hm (p:=p) hpv;have hyid:=OL d l m p;unfold RF;have key:∀ y:Ar,y=BC d l m p→∀ b:Bool,b=decide (p.2=1) →
       Option.bind (Gm y) (fun a6=>cond (!a6) (Option.bind (some ([]:List Ao)) (fun a7=>some (d,a7,false))) (Option.bind (FZ d.2.2.1 y) (fun a0=>Option.bind (some ([]:List Am)) (fun a8=>Option.bind (Cj a8 y.2.2.2.2.2.2.1) (fun a1=>Option.bind (some ([]:List Int)) (fun a2=>cond (decide (p.2=3)) (Option.bind (Hd (d.1,d.2.1,a0,d.2.2.2) (l.1,l.2.1,l.2.2.1,y.2.2.2.2.2.1,a1,a2,b)) (fun a3=>some (a3.1,a3.2,true))) (cond (decide (p.2=2)) (Option.bind (Hc (d.1,d.2.1,a0,d.2.2.2) (l.1,l.2.1,l.2.2.1,y.2.2.2.2.2.1,a1,a2,b)) (fun a4=>some (a4.1,a4.2,true))) (Option.bind (Il (d.1,d.2.1,a0,d.2.2.2) (l.1,l.2.1,1,y.2.2.2.2.2.1,a1,a2,b)) (fun a5=>Option.bind (Ji a5 1 y l.2.1) (fun a9=>some (a5,a9,true)))))))))))
      =some (if CK (BC d l m p)=true then
  if decide (p.2=3)=true then ((HB (putN d (BC d l m p)) (CT l l.2.2.1 (BC d l m p) (decide (p.2=1)))).1,(HB (putN d (BC d l m p)) (CT l l.2.2.1 (BC d l m p) (decide (p.2=1)))).2,true)
  else if decide (p.2=2)=true then ((GI (putN d (BC d l m p)) (CT l l.2.2.1 (BC d l m p) (decide (p.2=1)))).1,(GI (putN d (BC d l m p)) (CT l l.2.2.1 (BC d l m p) (decide (p.2=1)))).2,true)
  else (Ex (putN d (BC d l m p)) (CT l 1 (BC d l m p) (decide (p.2=1))),EB d.1 (1,0,0,m.2.2.2.1,l.2.1,(BC d l m p).2.2.2.2.1,(BC d l m p).2.2.2.2.2.1,(BC d l m p).2.2.2.2.2.2.1,0,(-1),false),true)
 else noG d):=by
      rintro y rfl b rfl;generalize BC d l m p=y at hoy hyid;refine AK (KJ hoy) ?_
      cases hi:CK y with
      | false=>rfl
      | true =>
       have hyF:=CC.1 hi;have hyd:=Ea hyF.deps;have hLF:=fun s=>NR hlf hyF (hyid.trans hlid.symm) (ph:=l.2.2.1) hlf.ph s;have hNF:NodeF (putN d y):=h.putN hyF (by rw [hyid];exact hu);have hNS:=hNF.s;rw [aAe,aA3,if_pos rfl];refine AK (Hf h.is y) ?_;rw [ob,BO (by simp;omega),ob,aAa,ob]
       cases hh3:decide (p.2=3) with
       | true =>
        rw [aA8,if_pos rfl];exact AK (Oh (d:=putN d y) (l:=CT l l.2.2.1 y (decide (p.2=1))) hNS.is hNS.sm (hLF _).small hNS.ls) rfl
       | false =>
        rw [aA3,if_neg aAb]
        cases hh2:decide (p.2=2) with
        | true =>
         rw [aA8,if_pos rfl];exact AK (Og (d:=putN d y) (l:=CT l l.2.2.1 y (decide (p.2=1))) hNS.is hNS.sm (hLF _).small hNS.ls) rfl
        | false =>
         rw [aA3,if_neg aAb];refine AK (LV (d:=putN d y) (by show d.2.2.2.length≤_;omega) (CT l 1 y (decide (p.2=1)))) ?_;refine AK (OG (Ex (putN d y) (CT l 1 y (decide (p.2=1)))) hyF.small 1 l.2.1) ?_;rw [hyid];rfl
     cases hh1:decide (p.2=1) with
     | true =>
      rw [aA8];have ha:=EE h.is m.2.2.2.1 p.1.2.2.2.2.1;refine AK (PA (c:=p.1.2.2.2.2.1) h.is hs.ok.2.2.1 (Ja hpv.cmd) m.2.2.2.1) ?_;have k1:=key (m.2.2.2.1,l.2.1,l.2.1,1,p.1.2.2.2.2.1,(Ch d.2.2.1 m.2.2.2.1 p.1.2.2.2.2.1).1,(Ch d.2.2.1 m.2.2.2.1 p.1.2.2.2.2.1).2,true) (by unfold BC;rw [if_pos hh1]) true hh1.symm;rw [hh1] at k1;exact k1
     | false =>
      rw [aA3];have k1:=key (m.2.2.2.1,l.2.1,l.2.1,1,p.1.2.2.2.2.1,p.1.2.2.2.2.2.1,p.1.2.2.2.2.2.2.1,false) (by unfold BC;rw [if_neg (by rw [hh1];exact aAb)]) false hh1.symm;rw [hh1] at k1;exact k1
theorem cX {ls:List AM} {k:Nat} {l l':AM} (hidx:(ls.findIdx? fun y=>Bx y.1 l.1)=some k) (he:l'.1=l.1):Da (Da ls l) l'=Da ls l':=by
 have h1:(ls.findIdx? fun y=>Bx y.1 l'.1)=some k:=by rw [he];exact hidx
 have h2:((ls.set k l).findIdx? fun y=>Bx y.1 l'.1)=some k:=by rw [he];exact nY hidx rfl
 rw [JT hidx,JT h2,JT h1,aF9]
theorem Yc {ls:List AM} {k:Nat} {l:AM} (hidx:(ls.findIdx? fun y=>Bx y.1 l.1)=some k):ES (Da ls l) l.1=ES ls l.1:=by
 rw [JT hidx];obtain ⟨h1,h2,_⟩:=aBd.1 hidx;rw [DD] at h2;have he:=aAr h2;have:=kZ (ls:=ls) (k:=k) (l:=ls[k]) (m:=l) (aA1 h1) he.symm;rw [he] at this;exact this
theorem aV {d:Ap} {k:Nat} {l:AM} (hidx:(d.2.2.2.findIdx? fun y=>Bx y.1 l.1)=some k):HB (Ex d l) l=HB d l:=by
 unfold HB Ex;dsimp only;rw [Yc hidx]
theorem aW {d:Ap} {k:Nat} {l:AM} (hidx:(d.2.2.2.findIdx? fun y=>Bx y.1 l.1)=some k):GI (Ex d l) l=GI d l:=by
 unfold GI Ex;dsimp only;rw [Yc hidx,cX (l':=(l.1,l.2.1,2,l.2.2.2.1,l.2.2.2.2.1,[],l.2.2.2.2.2.2)) hidx rfl]
theorem cY {d:Ap} {m:Ao} (h:NodeF d) (hm:MsgF m) (hu:unk d m.2.2.2.1=false) (h3:XF d):Iq d m=some ((Gu d m).2.1,(Gu d m).2.2,(Gu d m).1):=by
 have hs:=h.s;have hll:=h.ll;have hln:=CB h.is;unfold Iq Gu;refine AK (Lu (d:=d) (x:=m.2.2.2.1) om) ?_;refine AK (ED om hs.sm m.2.2.2.1) ?_;have hv:=PG h m.2.2.2.1;have hsx:=FG hs.sm m.2.2.2.1;have hxid:=EX d.2.2.1 m.2.2.2.1;generalize atI d.2.2.1 m.2.2.2.1=x at hv hsx hxid;rcases Fg (fun y:AM=>Bx y.1 m.2.2.2.1) d.2.2.2 with ⟨h1,h2⟩ | ⟨k,l,h1,h2,hf⟩
 ·rw [h1,h2];rfl
 rw [h1,hf,show decide ((k:Int) < 0)=false from aA5 om];obtain ⟨hlm,hlid,hlf⟩:=Ge h hf;have hkl:=(aA2.1 h2).1;have hidx:=(h.ld k l h2).2;simp only [By,h2,aAi,aAz,CE,ob,aEa]
 cases a0:decide (l.2.1=m.2.2.2.2.1) with
 | false=>rfl
 | true =>
  rw [aAe,CE,ob,aAz,aBc]
  cases a1:decide (l.2.2.1=3) with
  | false=>rfl
  | true =>
   rw [aAe,aAz,aBc]
   cases a2:decide (x.2.1=m.2.2.2.2.1) with
   | false=>rfl
   | true =>
    rw [aAe,aA3,if_pos rfl];have hsame:l.2.2.2.2.2.2=false:=h3 l hlm (aAr a1);have hxb:x.2.1=l.2.1:=(aAr a2).trans (aAr a0).symm;have hmb:m.2.2.2.2.1=l.2.1:=(aAr a0).symm;refine AK (show Sm m=some (LZ m) from rfl) ?_;refine AK (lF (y:=LZ m) hsx.2 hxid.symm) ?_;have hpv:=aU hv (aT hm);obtain ⟨⟨q1,q2,q3⟩,q4,q5,h123⟩:=TP x m;generalize OK x (LZ m)=r at q1 q2 q3 q4 q5;generalize EC x (Fk m)=p at hpv h123 q1 q2 q3 q4 q5;rw [q4,q5,q1,q2,q3,hxb,hmb];have hoy:=UR h hlf hm (p:=p) hpv;have hyid:=OL d l m p;unfold RF;have key:∀ y:Ar,y=BC d l m p→∀ ph:Int, ∀ b:Bool,LeadF (CT l l.2.2.1 y false)→y.1=m.2.2.2.1→True:=fun _ _ _ _ _ _=>trivial;clear key
    cases hh1:decide (p.2=1) with
    | true =>
     rw [aA8];have hp3:decide (p.2=3)=false:=by have:=aAr hh1;exact aA5 om
     have hp2:decide (p.2=2)=false:=by have:=aAr hh1;exact aA5 om
     rw [hp3,hp2];have ha:=EE h.is m.2.2.2.1 p.1.2.2.2.2.1;refine AK (PB (c:=p.1.2.2.2.2.1) h.is hs.ok.2.2.1 (Ja hpv.cmd) m.2.2.2.1) ?_;have hy:BC d l m p=(m.2.2.2.1,l.2.1,l.2.1,1,p.1.2.2.2.2.1,(Ch d.2.2.1 m.2.2.2.1 p.1.2.2.2.2.1).1,(Ch d.2.2.1 m.2.2.2.1 p.1.2.2.2.2.1).2,true):=by unfold BC;rw [if_pos hh1]
     have hdl:=Ea ha.deps;have hsy:FT (BC d l m p):=by rw [hy];exact ⟨by have:=JU hpv.cmd;show p.1.2.2.2.2.1.2.2.2.2.2.2.2.length≤_;omega,by show (Ch _ _ _).2.length≤_;omega⟩
     have hp:=Ia (d:=d) (x:=BC d l m p) hs.ok.2.2.1 hoy h.is hs.sm hsy;rw [hy] at hp ⊢;refine AK hp ?_;rw [← hy]
     cases hi:CK (BC d l m p) with
     | false=>rfl
     | true =>
      rw [if_pos rfl,if_pos rfl,aAe,aA3,if_neg aAb,if_neg aAb];simp only [h2,ob,aB8,GH (show (Ch d.2.2.1 m.2.2.2.1 p.1.2.2.2.2.1).2.length≤4294967296 by omega),aBu hkl,aF9,aA3,aA8];refine AK (Lw _ (m:=(1,0,0,m.2.2.2.1,l.2.1,p.1.2.2.2.2.1,(Ch d.2.2.1 m.2.2.2.1 p.1.2.2.2.2.1).1,(Ch d.2.2.1 m.2.2.2.1 p.1.2.2.2.2.1).2,0,(-1),false)) ⟨hsy.1 |> fun t=>by rw [hy] at t;exact t,by show (Ch _ _ _).2.length≤_;omega⟩ rfl) ?_;have hput:Da d.2.2.2 (CT l 1 (BC d l m p) true)=d.2.2.2.set k (CT l 1 (BC d l m p) true):=JT (l:=CT l 1 (BC d l m p) true) hidx;unfold Ex;rw [show (putN d (BC d l m p)).2.2.2=d.2.2.2 from rfl,hput,hy];rfl
    | false =>
     rw [aA3];have hy:BC d l m p=(m.2.2.2.1,l.2.1,l.2.1,1,p.1.2.2.2.2.1,p.1.2.2.2.2.2.1,p.1.2.2.2.2.2.2.1,false):=by unfold BC;rw [if_neg (by rw [hh1];exact aAb)]
     have hdl:=Ea hpv.deps;have hsy:FT (BC d l m p):=by rw [hy];exact ⟨by have:=JU hpv.cmd;show p.1.2.2.2.2.1.2.2.2.2.2.2.2.length≤_;omega,by show p.1.2.2.2.2.2.2.1.length≤_;omega⟩
     have hp:=Ia (d:=d) (x:=BC d l m p) hs.ok.2.2.1 hoy h.is hs.sm hsy;rw [hy] at hp ⊢;refine AK hp ?_;rw [← hy]
     cases hi:CK (BC d l m p) with
     | false=>rfl
     | true =>
      have hyF:=CC.1 hi;have hLF:LeadF (CT l l.2.2.1 (BC d l m p) false):=NR hlf hyF (hyid.trans hlid.symm) hlf.ph false;have hNF:NodeF (putN d (BC d l m p)):=h.putN hyF (by rw [hyid];exact hu);have hNF2:NodeF (Ex (putN d (BC d l m p)) (CT l l.2.2.1 (BC d l m p) false)):=hNF.putL hLF (.inl ⟨l,hlm,rfl⟩);have hput:Da d.2.2.2 (CT l l.2.2.1 (BC d l m p) false)=d.2.2.2.set k (CT l l.2.2.1 (BC d l m p) false):=JT (l:=CT l l.2.2.1 (BC d l m p) false) hidx;have hk':(Ex (putN d (BC d l m p)) (CT l l.2.2.1 (BC d l m p) false)).2.2.2[k]?=some (CT l l.2.2.1 (BC d l m p) false):=by
       show (Da d.2.2.2 _)[k]?=_;rw [hput,aBu hkl]
      have hf':=(hNF2.ld k _ hk').2;rw [if_pos rfl,if_pos rfl,aAe,aA3];simp only [h2,ob,aB8,GH (show p.1.2.2.2.2.2.2.1.length≤4294967296 by omega),aBu hkl,aF9,aA3];have e1:d.2.2.2.set k (l.1,l.2.1,l.2.2.1,p.1.2.2.2.2.2.1,p.1.2.2.2.2.2.2.1,([]:List Int),l.2.2.2.2.2.2)=Da d.2.2.2 (CT l l.2.2.1 (BC d l m p) false):=by
       rw [hput,hsame,hy];rfl
      rw [e1]
      cases hh3:decide (p.2=3) with
      | true =>
       rw [aA8,if_pos rfl];refine AK (SC (d:=Ex (putN d (BC d l m p)) (CT l l.2.2.1 (BC d l m p) false)) hNF2.s hk' hLF) ?_;rw [aV (d:=putN d (BC d l m p)) (l:=CT l l.2.2.1 (BC d l m p) false) hidx]
      | false =>
       have hh2:decide (p.2=2)=true:=by
        have h1:=aDc hh1;have h3:=aDc hh3;exact aA6 om
       rw [aA3,hh2,if_neg aAb,if_pos rfl];refine AK (Sw (d:=Ex (putN d (BC d l m p)) (CT l l.2.2.1 (BC d l m p) false)) hNF2.s hk' hf' hLF) ?_;rw [aW (d:=putN d (BC d l m p)) (l:=CT l l.2.2.1 (BC d l m p) false) hidx]
noncomputable def GK (d:Ap) (m:Ao):Gs :=
 if decide (m.1=1)=true then MT d m else if decide (m.1=2)=true then Hw d m else if decide (m.1=3)=true then MU d m
 else if decide (m.1=4)=true then JV d m else if decide (m.1=5)=true then MV d m else if decide (m.1=6)=true then Kd d m else Gu d m
noncomputable def getD (d:Ap) (m:Ao):Gs:=if Et d then (if ((!LY m)||(!decide (m.2.2.1=d.1)))||unk d m.2.2.2.1 then noG d else GK d m) else (Sx,[],false)
theorem iC {d:Ap} {m:Ao} (h:NodeF d) (hm:MsgF m) (hu:unk d m.2.2.2.1=false):Rp d m=some (GK d m):=by
 have hs:=h.s;have hll:=h.ll;unfold Rp GK
 cases decide (m.1=1) with
 | true=>exact AK (gZ h hm hu) rfl
 | false =>
  rw [aA3,if_neg aAb]
  cases decide (m.1=2) with
  | true=>exact AK (aR h hm) rfl
  | false =>
   rw [aA3,if_neg aAb]
   cases decide (m.1=3) with
   | true=>exact AK (hE h hm hu) rfl
   | false =>
    rw [aA3,if_neg aAb]
    cases decide (m.1=4) with
    | true =>
     rw [aA8,if_pos rfl];unfold JV;refine AK (JP (d:=d) (x:=m.2.2.2.1) om) ?_;rcases Fg (fun y:AM=>Bx y.1 m.2.2.2.1) d.2.2.2 with ⟨h1,h2⟩ | ⟨k,l,h1,h2,h3⟩
     ·rw [h1,h2];rfl
     ·rw [h1,h3,show decide ((k:Int) < 0)=false from aA5 om];obtain ⟨hlm,hlid,hlf⟩:=Ge h h3;simp only [By,h2,aAi,aAz,CE,ob,aEa]
      cases a0:decide (l.2.1=m.2.2.2.2.1) with
      | false=>rfl
      | true =>
       rw [aAe,CE,ob,aAz,aBc]
       cases a1:decide (l.2.2.1=2) with
       | false=>rfl
       | true =>
        rw [aAe,aA3,if_pos rfl];exact AK (Oh (d:=d) (l:=l) hs.is hs.sm hlf.small hs.ls) rfl
    | false =>
     rw [aA3,if_neg aAb]
     cases decide (m.1=5) with
     | true=>exact AK (hJ h hm hu) rfl
     | false =>
      rw [aA3,if_neg aAb]
      cases decide (m.1=6) with
      | true=>exact AK (cU h hm hu) rfl
      | false=>exact AK (Yu h hm hu) rfl
theorem oJ {d:Ap} {m:Ao} (h:NodeF d) (hm:MsgF m) (hu:unk d m.2.2.2.1=false) (h3:XF d):KI d m=some ((GK d m).2.1,(GK d m).2.2,(GK d m).1):=by
 have hs:=h.s;have hll:=h.ll;unfold KI GK
 cases decide (m.1=1) with
 | true=>exact AK (oC h hm) rfl
 | false =>
  rw [aA3,if_neg aAb]
  cases decide (m.1=2) with
  | true=>exact AK (iA h hm) rfl
  | false =>
   rw [aA3,if_neg aAb]
   cases decide (m.1=3) with
   | true=>exact AK (oD h hm) rfl
   | false =>
    rw [aA3,if_neg aAb]
    cases decide (m.1=4) with
    | true =>
     rw [aA8,if_pos rfl];unfold JV;refine AK (Lu (d:=d) (x:=m.2.2.2.1) om) ?_;rcases Fg (fun y:AM=>Bx y.1 m.2.2.2.1) d.2.2.2 with ⟨h1,h2⟩ | ⟨k,l,h1,h2,h3⟩
     ·rw [h1,h2];rfl
     ·rw [h1,h3,show decide ((k:Int) < 0)=false from aA5 om];obtain ⟨hlm,hlid,hlf⟩:=Ge h h3;simp only [By,h2,aAi,aAz,CE,ob,aEa]
      cases a0:decide (l.2.1=m.2.2.2.2.1) with
      | false=>rfl
      | true =>
       rw [aAe,CE,ob,aAz,aBc]
       cases a1:decide (l.2.2.1=2) with
       | false=>rfl
       | true =>
        rw [aAe,aA3,if_pos rfl];exact AK (SC (d:=d) hs h2 hlf) rfl
    | false =>
     rw [aA3,if_neg aAb]
     cases decide (m.1=5) with
     | true=>exact AK (oE h hm) rfl
     | false =>
      rw [aA3,if_neg aAb]
      cases decide (m.1=6) with
      | true=>exact AK (lB h hm) rfl
      | false=>exact AK (cY h hm hu h3) rfl
structure GN (d:Ap):Prop where
 f:NodeF d
 kn:sM d
 th:XF d
structure GRes (d:Ap) (r:Gs):Prop where
 g:GN r.1
 me:r.1.1=d.1
 out:∀ m,m∈r.2.1→MsgF m∧m.2.1=d.1
 len:r.2.1.length≤2
theorem GN.no {d:Ap} (h:GN d):GRes d (noG d):=⟨h,rfl,fun _ hm=>(by cases hm),aAn _⟩
theorem MW {d e:Ap} (h1:e.1=d.1) (h2:e.2.1=d.2.1) (id:Am):unk e id=unk d id:=by unfold unk;rw [h1,h2]
theorem GN.putN {d:Ap} (h:GN d) {x:Ar} (hx:InstF x) (hu:unk d x.1=false):GN (putN d x) :=
 ⟨h.f.putN hx hu,fun l hl=>by rw [MW rfl rfl];exact h.kn l hl,h.th⟩
theorem GN.putL {d:Ap} (h:GN d) {l:AM} (hl:LeadF l) (hr:(∃ m,m∈d.2.2.2∧m.1=l.1)∨d.2.2.2.length < 8) (hu:unk d l.1=false) (h3:l.2.2.1=3→l.2.2.2.2.2.2=false):GN (Ex d l):=by
 refine ⟨h.f.putL hl hr,fun y hy=>?_,fun y hy=>?_⟩
 ·rw [MW rfl rfl];rcases Ly hy with q | q
  ·exact h.kn y q
  rw [q];exact hu
 rcases Ly hy with q | q
 ·exact h.th y q
 rw [q];exact h3
theorem GN.drp {d:Ap} (h:GN d) (id:Am):GN (Ws d id) :=
 ⟨h.f.drp id,fun y hy=>h.kn y (aAs.1 hy).1,fun y hy=>h.th y (aAs.1 hy).1⟩
theorem HS {me:Int} {m x:Ao} (h:x∈EB me m):∃ t:Int,(0≤t∧t < 3)∧t≠me∧x=LU me t m:=by
 unfold EB Nn at h;obtain ⟨t,ht,rfl⟩:=aBz.1 h;obtain ⟨h1,h2⟩:=aAs.1 ht;have:=aAv.1 h1;simp only [aB4,aAm] at h2;exact ⟨(t:Int),by omega,h2,rfl⟩
theorem Lz {me:Int} (h:0≤me∧me < 3) (m:Ao):(EB me m).length=2:=by
 have:me=0∨me=1∨me=2:=by omega
 rcases this with rfl | rfl | rfl<;>rfl
structure BodyF (m:Ao):Prop where
 kind:1≤m.1∧m.1≤7
 id:Dx m.2.2.2.1=true
 bal:0≤m.2.2.2.2.1∧m.2.2.2.2.1≤600
 cmd:DK m.2.2.2.2.2.1=true
 seq:0≤m.2.2.2.2.2.2.1∧m.2.2.2.2.2.2.1≤60
 deps:CO m.2.2.2.2.2.2.2.1=true
 self:(m.2.2.2.2.2.2.2.1.any fun y=>Bx y m.2.2.2.1)=false
 st:0≤m.2.2.2.2.2.2.2.2.1∧m.2.2.2.2.2.2.2.2.1≤3
theorem TQ {me:Int} (hme:0≤me∧me < 3) {m:Ao} (h:BodyF m):∀ x,x∈EB me m→MsgF x∧x.2.1=me:=fun x hx=>by
 obtain ⟨t,ht,hne,rfl⟩:=HS hx;exact ⟨⟨h.kind,hme,ht,fun e=>hne e.symm,h.id,h.bal,h.cmd,h.seq,h.deps,h.self,h.st,by show (-1:Int)≤-1;omega,by show (-1:Int)≤600;omega⟩,rfl⟩
theorem aX {d:Ap} (h:GN d) {l:AM} (hl:LeadF l) (hin:∃ m,m∈d.2.2.2∧m.1=l.1) (hu:unk d l.1=false):GRes d ((GI d l).1,(GI d l).2,true):=by
 unfold GI;split
 ·rename_i hb;have hx:InstF (MP (atI d.2.2.1 l.1) l):=CC.1 (eI h.f.is hl hb);have hxid:(MP (atI d.2.2.1 l.1) l).1=l.1:=EX _ _;have h1:=h.putN hx (by rw [hxid];exact hu);refine ⟨h1.putL (l:=(l.1,l.2.1,2,l.2.2.2.1,l.2.2.2.2.1,[],l.2.2.2.2.2.2)) ⟨hl.id,hl.bal,⟨by show (1:Int)≤2;omega,by show (2:Int)≤3;omega⟩,hl.seq,hl.deps,hl.self,rfl⟩ (.inl hin) hu (fun e=>by exact absurd (show (2:Int)=3 from e) de),rfl,?_,by show (EB _ _).length≤2;rw [Lz h.f.me];omega⟩;exact TQ h.f.me ⟨⟨by show (1:Int)≤3;omega,by show (3:Int)≤7;omega⟩,hl.id,hl.bal,(PG h.f l.1).cmd,hl.seq,hl.deps,hl.self,⟨by show (0:Int)≤0;omega,by show (0:Int)≤3;omega⟩⟩
 exact ⟨h.drp l.1,rfl,fun _ hm=>(by cases hm),aAn _⟩
theorem aY {d:Ap} (h:GN d) {l:AM} (hl:LeadF l) (hu:unk d l.1=false):GRes d ((HB d l).1,(HB d l).2,true):=by
 unfold HB;split
 ·rename_i hb;have hx:InstF (Of (atI d.2.2.1 l.1) l):=CC.1 (eJ h.f.is hl hb);have hxid:(Of (atI d.2.2.1 l.1) l).1=l.1:=EX _ _;refine ⟨(h.putN hx (by rw [hxid];exact hu)).drp l.1,rfl,?_,by show (EB _ _).length≤2;rw [Lz h.f.me];omega⟩;exact TQ h.f.me ⟨⟨by show (1:Int)≤5;omega,by show (5:Int)≤7;omega⟩,hl.id,⟨by show (0:Int)≤0;omega,by show (0:Int)≤600;omega⟩,(PG h.f l.1).cmd,hl.seq,hl.deps,hl.self,⟨by show (0:Int)≤0;omega,by show (0:Int)≤3;omega⟩⟩
 exact ⟨h.drp l.1,rfl,fun _ hm=>(by cases hm),aAn _⟩
theorem GRes.of {d e:Ap} {r:Gs} (h:GRes e r) (he:e.1=d.1):GRes d r:=⟨h.g,h.me.trans he,fun m hm=>by rw [← he];exact h.out m hm,h.len⟩
theorem Us {d:Ap} {m x:Ao} (h:MsgF m∧m.2.1=d.1) (hx:x∈[m]):MsgF x∧x.2.1=d.1:=by
 rw [aAl] at hx;rw [hx];exact h
theorem aZ {d:Ap} (h:NodeF d) {m:Ao} (hm:MsgF m) (ht:m.2.2.1=d.1) {x:Ar} (hx:ValF m.2.2.2.1 x):MsgF (PE d.1 m x)∧(PE d.1 m x).2.1=d.1 :=
 ⟨⟨⟨by show (1:Int)≤2;omega,by show (2:Int)≤7;omega⟩,h.me,hm.frm,fun e=>hm.ne (e.symm.trans ht.symm),hm.id,hm.bal,MQ,hx.seq,hx.deps,hx.self,⟨by show (0:Int)≤0;omega,by show (0:Int)≤3;omega⟩,⟨by show (-1:Int)≤-1;omega,by show (-1:Int)≤600;omega⟩⟩,rfl⟩
theorem oK {d:Ap} (h:NodeF d) {m:Ao} (hm:MsgF m) (ht:m.2.2.1=d.1):MsgF (TK d.1 m)∧(TK d.1 m).2.1=d.1 :=
 ⟨⟨⟨by show (1:Int)≤4;omega,by show (4:Int)≤7;omega⟩,h.me,hm.frm,fun e=>hm.ne (e.symm.trans ht.symm),hm.id,hm.bal,MQ,⟨by show (0:Int)≤0;omega,by show (0:Int)≤60;omega⟩,rfl,rfl,⟨by show (0:Int)≤0;omega,by show (0:Int)≤3;omega⟩,⟨by show (-1:Int)≤-1;omega,by show (-1:Int)≤600;omega⟩⟩,rfl⟩
theorem lG {d:Ap} (h:NodeF d) {m:Ao} (hm:MsgF m) (ht:m.2.2.1=d.1):MsgF (RE d.1 m (atI d.2.2.1 m.2.2.2.1))∧(RE d.1 m (atI d.2.2.1 m.2.2.2.1)).2.1=d.1:=by
 have hx:=PG h m.2.2.2.1;have hb:=TN h m.2.2.2.1;exact ⟨⟨⟨by show (1:Int)≤7;omega,by show (7:Int)≤7;omega⟩,h.me,hm.frm,fun e=>hm.ne (e.symm.trans ht.symm),hm.id,hm.bal,hx.cmd,hx.seq,hx.deps,hx.self,hb.2.2,hb.2.1⟩,rfl⟩
theorem InstF.val {x:Ar} (h:InstF x) {id:Am} (he:x.1=id):ValF id x:=⟨h.cmd,h.seq,h.deps,by rw [← he];exact h.self⟩
theorem vM {d:Ap} (h:GN d) {m:Ao} (hm:MsgF m) (ht:m.2.2.1=d.1) (hu:unk d m.2.2.2.1=false):GRes d (MT d m):=by
 unfold MT;split
 ·exact h.no
 split
 ·exact ⟨h,rfl,fun x hx=>Us (aZ h.f hm ht (PG h.f _)) hx,by show (1:Nat)≤2;omega⟩
 split
 ·rename_i hi;have hiF:=CC.1 hi;exact ⟨h.putN hiF hu,rfl,fun x hx=>Us (aZ h.f hm ht (hiF.val rfl)) hx,by show (1:Nat)≤2;omega⟩
 exact h.no
theorem vN {d:Ap} (h:GN d) {m:Ao} (hm:MsgF m) (ht:m.2.2.1=d.1) (hu:unk d m.2.2.2.1=false):GRes d (MU d m):=by
 unfold MU;split
 ·exact h.no
 split
 ·rename_i hi;exact ⟨h.putN (CC.1 hi) hu,rfl,fun x hx=>Us (oK h.f hm ht) hx,by show (1:Nat)≤2;omega⟩
 exact h.no
theorem vO {d:Ap} (h:GN d) {m:Ao} (hu:unk d m.2.2.2.1=false):GRes d (MV d m):=by
 unfold MV;split
 ·exact h.no
 split
 ·rename_i hi;exact ⟨(h.putN (CC.1 hi) hu).drp m.2.2.2.1,rfl,fun _ hx=>(by cases hx),aAn _⟩
 exact h.no
theorem sN {d:Ap} (h:GN d) {m:Ao} (hm:MsgF m) (ht:m.2.2.1=d.1) (hu:unk d m.2.2.2.1=false):GRes d (Kd d m):=by
 unfold Kd;split
 ·exact h.no
 rename_i hq;have hmb:=hm.bal;have hq':¬ m.2.2.2.2.1≤(atI d.2.2.1 m.2.2.2.1).2.1:=fun e=>hq (aA6 e);have hi:=RC h.f.is (id:=m.2.2.2.1) hm.id (b:=m.2.2.2.2.1) om hmb.1 hmb.2;have hid:(IT (atI d.2.2.1 m.2.2.2.1) m.2.2.2.2.1).1=m.2.2.2.1:=EX _ _;exact ⟨h.putN (CC.1 hi) (by rw [hid];exact hu),rfl,fun x hx=>Us (lG h.f hm ht) hx,by show (1:Nat)≤2;omega⟩
theorem oL {d:Ap} (h:GN d) {m:Ao} (hm:MsgF m):GRes d (Hw d m):=by
 unfold Hw;split
 ·exact h.no
 rename_i l hf;obtain ⟨hlm,hlid,hlf⟩:=Ge h.f hf;split
 ·rename_i hc;simp only [aAg,aAd] at hc;have hLF:=Vq hlf hm hlid;have hul:unk d (Cq l m).1=false:=h.kn l hlm;have hG:GN (Ex d (Cq l m)):=h.putL hLF (.inl ⟨l,hlm,rfl⟩) hul (fun e=>by have:(Cq l m).2.2.1=1:=hc.1.2;omega);have hin:∃ m',m'∈(Ex d (Cq l m)).2.2.2∧m'.1=(Cq l m).1:=by
   refine ⟨Cq l m,?_,rfl⟩;show Cq l m∈Da d.2.2.2 (Cq l m);rcases UQ d.2.2.2 (Cq l m) with ⟨k,y,hk,_,hp⟩ | ⟨_,hp⟩
   ·rw [hp];exact List.mem_set (aA2.1 hk).1 _
   ·rw [hp];simp
  unfold TO;split
  ·exact (aX hG hLF hin (by rw [MW rfl rfl];exact hul)).of rfl
  split
  ·exact (aY hG hLF (by rw [MW rfl rfl];exact hul)).of rfl
  exact ⟨hG,rfl,fun _ hx=>(by cases hx),aAn _⟩
 exact h.no
theorem oM {d:Ap} (h:GN d) {m:Ao}:GRes d (JV d m):=by
 unfold JV;split
 ·exact h.no
 rename_i l hf;obtain ⟨hlm,hlid,hlf⟩:=Ge h.f hf;split
 ·exact aY h hlf (h.kn l hlm)
 exact h.no
theorem lH {d:Ap} (h:GN d) {m:Ao} (hu:unk d m.2.2.2.1=false):GRes d (Gu d m):=by
 unfold Gu;split
 ·exact h.no
 rename_i l hf;obtain ⟨hlm,hlid,hlf⟩:=Ge h.f hf;split
 ·rename_i hc;simp only [aAg,aAd] at hc;obtain ⟨_,_,_,h123⟩:=TP (atI d.2.2.1 m.2.2.2.1) m;generalize EC (atI d.2.2.1 m.2.2.2.1) (Fk m)=p at h123;unfold RF;split
  ·rename_i hi;have hyF:=CC.1 hi;have hyid:=OL d l m p;have hG:=h.putN hyF (by rw [hyid];exact hu);have hul:unk (putN d (BC d l m p)) l.1=false:=by rw [MW rfl rfl];exact h.kn l hlm
   have hin:∃ m',m'∈(putN d (BC d l m p)).2.2.2∧m'.1=l.1:=⟨l,hlm,rfl⟩;split
   ·exact (aY hG (NR hlf hyF (hyid.trans hlid.symm) hlf.ph _) hul).of rfl
   split
   ·exact (aX hG (NR hlf hyF (hyid.trans hlid.symm) hlf.ph _) hin hul).of rfl
   refine ⟨hG.putL (NR hlf hyF (hyid.trans hlid.symm) om _) (.inl hin) hul (fun e=>by exact absurd (show (1:Int)=3 from e) de),rfl,?_,by show (EB _ _).length≤2;rw [Lz h.f.me];omega⟩;exact TQ h.f.me ⟨⟨by show (1:Int)≤1;omega,by show (1:Int)≤7;omega⟩,by show Dx m.2.2.2.1=true;rw [← hyid];exact hyF.id,hlf.bal,hyF.cmd,hyF.seq,hyF.deps,by show (((BC d l m p).2.2.2.2.2.2.1).any fun y=>Bx y m.2.2.2.1)=false;have:=hyF.self;rw [hyid] at this;exact this,⟨by show (0:Int)≤0;omega,by show (0:Int)≤3;omega⟩⟩
  exact h.no
 exact h.no
theorem lI {d:Ap} (h:GN d) {m:Ao} (hm:MsgF m) (ht:m.2.2.1=d.1) (hu:unk d m.2.2.2.1=false):GRes d (GK d m):=by
 unfold GK;split
 ·exact vM h hm ht hu
 split
 ·exact oL h hm
 split
 ·exact vN h hm ht hu
 split
 ·exact oM h
 split
 ·exact vO h hu
 split
 ·exact sN h hm ht hu
 exact lH h hu
theorem vP {d:Ap} (h:GN d) (m:Ao):GRes d (getD d m):=by
 unfold getD;rw [if_pos (nodeF.ok h.f)];split
 ·exact h.no
 rename_i hc;simp only [aBg,aB4,aAm,not_or,aFq,aFr,aF1] at hc;exact lI h (SA.1 hc.1.1) hc.1.2 hc.2
theorem sO {d:Ap} (h:GN d) (id:Am):GRes d (KR d id):=by
 unfold KR;rw [if_pos (nodeF.ok h.f)];unfold Wk;split
 ·exact h.no
 rename_i l hf;obtain ⟨hlm,hlid,hlf⟩:=Ge h.f hf;split
 ·exact aX h hlf ⟨l,hlm,rfl⟩ (h.kn l hlm)
 exact h.no
theorem vQ {d:Ap} (h:GN d) (id:Am):GRes d (Oi d id):=by
 unfold Oi;rw [if_pos (nodeF.ok h.f)];unfold aI;split
 ·exact h.no
 rename_i hc;unfold Ur at hc;simp only [aBg,aB4,not_or,aFq,aF1] at hc;obtain ⟨hid,hst,h600,h8,hu⟩:=hc;have h600:¬ 600 < GJ d.1 (atI d.2.2.1 id).2.1:=aDc h600;have hge:=XA d.1 (atI d.2.2.1 id).2.1;have hi:=RC h.f.is hid (b:=GJ d.1 (atI d.2.2.1 id).2.1) hge.1 om om;have hxid:(IT (atI d.2.2.1 id) (GJ d.1 (atI d.2.2.1 id).2.1)).1=id:=EX _ _;have hG:=h.putN (CC.1 hi) (by rw [hxid];exact hu);refine ⟨hG.putL (l:=Sy id (GJ d.1 (atI d.2.2.1 id).2.1)) ⟨hid,by show 0≤GJ _ _∧GJ _ _≤600;omega,⟨by show (1:Int)≤3;omega,by show (3:Int)≤3;omega⟩,⟨by show (0:Int)≤0;omega,by show (0:Int)≤60;omega⟩,rfl,rfl,rfl⟩ ?_ (by rw [MW rfl rfl];exact hu) (fun _=>rfl),rfl,?_,by show (EB _ _).length≤2;rw [Lz h.f.me];omega⟩
 ·rw [aDd] at h8;rcases h8 with q | q
  ·right;have:=aDc q;have:=h.f.ll;show d.2.2.2.length < 8;omega
  left
  cases hf:d.2.2.2.find? fun y=>Bx y.1 id with
  | none=>rw [hf] at q;cases q
  | some l=>exact ⟨l,(Ge h.f hf).1,(Ge h.f hf).2.1⟩
 exact TQ h.f.me ⟨⟨by show (1:Int)≤6;omega,by show (6:Int)≤7;omega⟩,hid,by show 0≤GJ _ _∧GJ _ _≤600;omega,MQ,⟨by show (0:Int)≤0;omega,by show (0:Int)≤60;omega⟩,rfl,rfl,⟨by show (0:Int)≤0;omega,by show (0:Int)≤3;omega⟩⟩
theorem lJ {d:Ap} (h:GN d):(d.2.2.2.findIdx? fun y=>Bx y.1 (d.1,d.2.1))=none:=by
 rw [aCj];intro l hl;have:=h.kn l hl;unfold unk at this;rw [DD,aAm];intro e;rw [e] at this;simp at this
theorem vR {d:Ap} (h:GN d) (c:BN):GRes d (MR d c):=by
 unfold MR;rw [if_pos (nodeF.ok h.f)];unfold XC
 cases hno:Kc d c with
 | true=>exact h.no
 | false =>
  rw [if_neg aAb];have hi:=CC.1 (Sz h.f hno);have hnx:=h.f.nx;have hme:=h.f.me;have hno2:=hno;unfold Kc at hno2;simp only [aDt,aEw,aAm] at hno2;obtain ⟨⟨⟨⟨h1,h2⟩,h3⟩,h4⟩,h5⟩:=hno2;have hlf:LeadF (GP d c):=⟨hi.id,by show 0≤d.1∧d.1≤600;omega,⟨by show (1:Int)≤1;omega,by show (1:Int)≤3;omega⟩,hi.seq,hi.deps,hi.self,rfl⟩;refine ⟨⟨NodeF.mk' hme (by show 1≤d.2.1+1∧d.2.1+1≤7;omega) (Xx h.f.is (CC.2 hi)) ?_ (fun x hx he=>?_) (fun l hl=>?_) ?_,fun l hl=>?_,fun l hl h3'=>?_⟩,rfl,?_,by show (EB _ _).length≤2;rw [Lz h.f.me];omega⟩
  ·show (d.2.2.2++[GP d c]).length≤8;rw [aAq,aEb];omega
  ·show x.1.2 < d.2.1+1;rcases MO.1 hx with q | ⟨q,_⟩
   ·rw [q];show d.2.1 < d.2.1+1;omega
   ·have:=h.f.own x q he;omega
  ·rcases aB0.1 hl with q | q
   ·exact h.f.ldF q
   ·rw [aAl.1 q];exact hlf
  ·show ((d.2.2.2++[GP d c]).map (·.1)).Nodup;rw [aCb,aBo];refine ⟨h.f.nd,by simp,fun a ha b hb=>?_⟩;simp only [aE2,List.map_nil,aAl] at hb;subst hb;obtain ⟨m,hm,rfl⟩:=aBz.1 ha;have:=aCj.1 (lJ h) m hm;rw [DD,aAm] at this;exact this
  ·show (decide (l.1.1=d.1)&&decide (d.2.1+1≤l.1.2))=false;rcases aB0.1 hl with q | q
   ·have:=h.kn l q;unfold unk at this;simp only [aDd,aAm] at this ⊢;omega
   ·rw [aAl.1 q];simp only [aDd,aAm];right;show ¬ d.2.1+1≤d.2.1;omega
  ·rcases aB0.1 hl with q | q
   ·exact h.th l q h3'
   ·rw [aAl.1 q] at h3';exact absurd (show (1:Int)=3 from h3') de
  ·exact TQ hme ⟨⟨by show (1:Int)≤1;omega,by show (1:Int)≤7;omega⟩,hi.id,by show 0≤d.1∧d.1≤600;omega,hi.cmd,hi.seq,hi.deps,hi.self,⟨by show (0:Int)≤0;omega,by show (0:Int)≤3;omega⟩⟩
theorem Yv {d:Ap} {m:Ao} (h:GN d) (hm:Ok.ok m):LN d m=some (getD d m):=by
 have hf:=h.f;have hk:=nodeF.ok hf;unfold LN getD;refine AK (JQ hf.okk) ?_;rw [hk,aAe,aA3,if_pos rfl];refine AK (cT hm) ?_;rw [show (decide (m.2.2.2.1.1=d.1)&&decide (d.2.1≤m.2.2.2.1.2))=unk d m.2.2.2.1 from rfl]
 cases hc:((!LY m)||(!decide (m.2.2.1=d.1)))||unk d m.2.2.2.1 with
 | true =>
  rw [aA8,if_pos rfl];exact AK (FL hf.small) rfl
 | false =>
  rw [aA3,if_neg aAb];simp only [aDt,aEw,aAd] at hc;have hmf:=SA.1 hc.1.1;refine AK (FL hf.small) ?_;refine AK (iC hf hmf hc.2) ?_;exact AK (FL (lI h hmf hc.1.2 hc.2).g.f.small) rfl
def NoOr (d:Ap) (r:Gs):Prop:=r=noG d∨r.2.2=true
theorem NoOr.ite {d:Ap} {c:Prop} [Decidable c] {a b:Gs} (h1:NoOr d a) (h2:NoOr d b):NoOr d (if c then a else b):=by
 by_cases h:c
 ·rw [if_pos h];exact h1
 rw [if_neg h];exact h2
theorem NoOr.no (d:Ap):NoOr d (noG d):=.inl rfl
theorem NoOr.yes {d e:Ap} {ms:List Ao}:NoOr d (e,ms,true):=.inr rfl
theorem lK (d:Ap) (m:Ao):NoOr d (Hw d m):=by
 unfold Hw;split
 ·exact .no d
 exact .ite (.ite .yes (.ite .yes .yes)) (.no d)
theorem lL (d:Ap) (m:Ao):NoOr d (JV d m):=by
 unfold JV;split
 ·exact .no d
 exact .ite .yes (.no d)
theorem iD (d:Ap) (m:Ao):NoOr d (Gu d m):=by
 unfold Gu;split
 ·exact .no d
 exact .ite (.ite (.ite .yes (.ite .yes .yes)) (.no d)) (.no d)
theorem sP (d:Ap) (m:Ao):NoOr d (GK d m):=by
 unfold GK;exact .ite (.ite (.no d) (.ite .yes (.ite .yes (.no d)))) (.ite (lK d m) (.ite (.ite (.no d) (.ite .yes (.no d))) (.ite (lL d m) (.ite (.ite (.no d) (.ite .yes (.no d))) (.ite (.ite (.no d) .yes) (iD d m))))))
theorem sQ {d:Ap} {m:Ao} (h:(GK d m).2.2=false):GK d m=noG d:=by
 rcases sP d m with q | q
 ·exact q
 rw [h] at q;cases q
theorem Yw {d:Ap} {m:Ao} (h:GN d) (hm:Ok.ok m):LP d m=some (getD d m):=by
 have hf:=h.f;have hk:=nodeF.ok hf;unfold LP getD;refine AK (It hf.okk) ?_;rw [hk,aAe,aA3,if_pos rfl];refine AK (UP hm) ?_;rw [show Fm _ _=some (unk d m.2.2.2.1) from rfl]
 cases q1:((!LY m)||(!decide (m.2.2.1=d.1))) with
 | true =>
  rw [Bool.true_or,if_pos rfl];exact AK (Ff hf.small) rfl
 | false =>
  rw [aAi,CE,ob,aAz]
  cases q2:unk d m.2.2.2.1 with
  | true =>
   rw [aA8,if_pos rfl];exact AK (Ff hf.small) rfl
  | false =>
   rw [aA3,if_neg aAb];simp only [aDt,aEw,aAd] at q1;have hmf:=SA.1 q1.1;refine AK (Ff hf.small) ?_;refine AK (oJ hf hmf q2 h.th) ?_;by_cases hr:(GK d m).2.2=true
   ·show (cond (!(GK d m).2.2) _ _:Option Gs)=some (GK d m);rw [hr,aAe,aA3];have e:GK d m=((GK d m).1,(GK d m).2.1,true):=by rw [← hr]
    exact aC5 some e.symm
   ·have hr:(GK d m).2.2=false:=by simpa using hr
    show (cond (!(GK d m).2.2) _ _:Option Gs)=some (GK d m);rw [hr,aAi,aA8,sQ hr];exact AK (Ff hf.small) rfl
instance Acc:DecidableEq (Int×Bool):=fun a b=>aBl a b
instance Acd:DecidableEq (Int×Int×Bool):=fun a b=>aBl a b
instance Ace:DecidableEq (List Am×Int×Int×Bool):=fun a b=>aBl a b
instance Acf:DecidableEq (Int×List Am×Int×Int×Bool):=fun a b=>aBl a b
instance Acg:DecidableEq (BN×Int×List Am×Int×Int×Bool):=fun a b=>aBl a b
instance Ach:DecidableEq (Int×BN×Int×List Am×Int×Int×Bool):=fun a b=>aBl a b
instance Aci:DecidableEq (Am×Int×BN×Int×List Am×Int×Int×Bool):=fun a b=>aBl a b
instance Acj:DecidableEq (Int×Am×Int×BN×Int×List Am×Int×Int×Bool):=fun a b=>aBl a b
instance Ack:DecidableEq (Int×Int×Am×Int×BN×Int×List Am×Int×Int×Bool):=fun a b=>aBl a b
instance Acl:DecidableEq (Int×Int×Int×Am×Int×BN×Int×List Am×Int×Int×Bool):=fun a b=>aBl a b
def OM (a b:Ao):Bool:=decide (a=b)
theorem Yd {a b:Ao} {f g:Option Bool} (hf:f=some (pB (a.2.2.2.2.2.1=b.2.2.2.2.2.1))) (hg:g=some (decide (a.2.2.2.2.2.2.2.1=b.2.2.2.2.2.2.2.1))) :
  gb (((((decide (a.1=b.1))&&(decide (a.2.1=b.2.1)))&&(decide (a.2.2.1=b.2.2.1)))&&(decide (a.2.2.2.1.1=b.2.2.2.1.1)&&(decide (a.2.2.2.1.2=b.2.2.2.1.2)&&true)))&&(decide (a.2.2.2.2.1=b.2.2.2.2.1))) f (fun y1=>gb (((((((decide (a.1=b.1))&&(decide (a.2.1=b.2.1)))&&(decide (a.2.2.1=b.2.2.1)))&&(decide (a.2.2.2.1.1=b.2.2.2.1.1)&&(decide (a.2.2.2.1.2=b.2.2.2.1.2)&&true)))&&(decide (a.2.2.2.2.1=b.2.2.2.2.1)))&&y1)&&(decide (a.2.2.2.2.2.2.1=b.2.2.2.2.2.2.1))) g (fun y2=>some (((((((((((decide (a.1=b.1))&&(decide (a.2.1=b.2.1)))&&(decide (a.2.2.1=b.2.2.1)))&&(decide (a.2.2.2.1.1=b.2.2.2.1.1)&&(decide (a.2.2.2.1.2=b.2.2.2.1.2)&&true)))&&(decide (a.2.2.2.2.1=b.2.2.2.2.1)))&&y1)&&(decide (a.2.2.2.2.2.2.1=b.2.2.2.2.2.2.1)))&&y2)&&(decide (a.2.2.2.2.2.2.2.2.1=b.2.2.2.2.2.2.2.2.1)))&&(decide (a.2.2.2.2.2.2.2.2.2.1=b.2.2.2.2.2.2.2.2.2.1)))&&(a.2.2.2.2.2.2.2.2.2.2 == b.2.2.2.2.2.2.2.2.2.2))))=some (OM a b):=by
 subst hf hg;rw [QW (fun h=>?_)]
 ·rw [QW (fun h=>by rw [h];rfl),ZZ];congr 1;unfold OM;rw [aBn];obtain ⟨a1,a2,a3,⟨a4,a5⟩,a6,a7,a8,a9,a0,aa,ab⟩:=a;obtain ⟨b1,b2,b3,⟨b4,b5⟩,b6,b7,b8,b9,b10,b11,b12⟩:=b;simp [and_assoc]
 ·rw [h];rfl
theorem bA {a b:Ao} (ha:Ok.ok a):Lr a b=some (OM a b):=by
 unfold Lr;exact Yd (Py (a:=a.2.2.2.2.2.1) (b:=b.2.2.2.2.2.1) ha.2.2.2.2.2.1) (SY ha.2.2.2.2.2.2.2.1.1)
theorem bB {a b:Ao} (ha:Ok.ok a):NF a b=some (OM a b):=by
 unfold NF;exact Yd (TC (a:=a.2.2.2.2.2.1) (b:=b.2.2.2.2.2.1) ha.2.2.2.2.2.1) (XD ha.2.2.2.2.2.2.2.1.1)
def Km (l:List Ao) (m:Ao):Bool:=l.any fun x=>OM x m
theorem Vr {l:List Ao} {m:Ao}:Km l m=true↔m∈l:=by
 unfold Km OM;rw [aBs];constructor
 ·rintro ⟨x,hx,h⟩;rw [← aAr h];exact hx
 intro h;exact ⟨m,h,aA6 rfl⟩
theorem cZ {l:List Ao} {m:Ao} (hl:l.length≤1000) (h:∀ x,x∈l→Ok.ok x):ML l m=some (Km l m):=by
 unfold ML;refine CN (fun s:Int=>∃ k:Nat,s=(k:Int)∧k≤l.length∧Km (l.take k) m=false) (fun s=>(l.length - s).toNat) ?_ ⟨0,rfl,aAn _,rfl⟩;rintro _ ⟨k,rfl,hk,hany⟩;by_cases hlt:k < l.length
 ·have hx:l[k]?=some l[k]:=aA1 hlt;have hm:l[k]∈l:=aBw hlt;generalize l[k]=x at hx hm;rw [aA6 (show (k:Int) < (l.length:Int) by omega),aA8,By,hx,ob];rw [show Lr _ _=_ from bA (a:=x) (b:=m) (h x hm),ob]
  cases hq:OM x m with
  | true =>
   right;rw [show Km l m=true from aBs.2 ⟨x,hm,hq⟩];rfl
  | false =>
   left;rw [aA3,BT iR];refine ⟨_,rfl,⟨k+1,by simp,hlt,?_⟩,by omega⟩;unfold Km at hany ⊢;rw [FH hx,aFb,hany];simp [hq]
 right;rw [aA5 (show ¬ (k:Int) < (l.length:Int) by omega),aA3];rw [aBi om] at hany;rw [hany];rfl
theorem US {l:List Ao} {m:Ao} (hl:l.length≤1000) (h:∀ x,x∈l→Ok.ok x):JN l m=some (Km l m):=by
 unfold JN Ew EQ;have key:∃ r,(Bn (fun s1:Int=>cond (decide (s1 < (l.length:Int))) (Option.bind (idx l s1) (fun y3=>Option.bind (Jj y3 m) (fun y4=>cond y4 (Option.map .inr (some s1)) (some (.inl (IntKind.wrap .i64 (s1+1))))))) (Option.map .inr (some (-1)))) 0:Option Int)=some r∧decide (0≤r)=Km l m:=by
  refine FK (fun s:Int=>∃ k:Nat,s=(k:Int)∧k≤l.length∧Km (l.take k) m=false) (fun s=>(l.length - s).toNat) (fun r=>decide (0≤r)=Km l m) ?_ 0 ⟨0,rfl,aAn _,rfl⟩;rintro _ ⟨k,rfl,hk,hany⟩;by_cases hlt:k < l.length
  ·have hx:l[k]?=some l[k]:=aA1 hlt;have hm:l[k]∈l:=aBw hlt;generalize l[k]=x at hx hm;rw [aA6 (show (k:Int) < (l.length:Int) by omega),aA8,By,hx,ob];have e:Jj x m=some (OM x m):=AK (bB (a:=x) (b:=m) (h x hm)) rfl;rw [e,ob]
   cases hq:OM x m with
   | true =>
    right;refine ⟨_,rfl,?_⟩;rw [aA6 (show (0:Int)≤(k:Int) by omega)];exact (aBs.2 ⟨x,hm,hq⟩).symm
   | false =>
    left;rw [aA3,BT iR];refine ⟨_,rfl,⟨k+1,by simp,hlt,?_⟩,by omega⟩;unfold Km at hany ⊢;rw [FH hx,aFb,hany];simp [hq]
  ·right;rw [aA5 (show ¬ (k:Int) < (l.length:Int) by omega),aA3];refine ⟨_,rfl,?_⟩;rw [aBi om] at hany;rw [hany];rfl
 obtain ⟨r,h1,h2⟩:=key;refine AK (AK h1 rfl) ?_;rw [h2]
structure NetF (x:Bq):Prop where
 len:x.1.length=3
 node:∀ (i:Nat) (n:Ap),x.1[i]?=some n→GN n∧n.1=(i:Int)
 pool:∀ m,m∈x.2→MsgF m
 nd:x.2.Nodup
 pl:x.2.length≤160
def FJ (p out:List Ao):List Ao:=out.foldl (fun p m=>if Km p m=true then p else p++[m]) p
theorem bC (p:List Ao):∀ out:List Ao,p.length≤(FJ p out).length∧(FJ p out).length≤p.length+out.length:=fun out=>by
 induction out generalizing p with
 | nil=>exact ⟨aAu _,aAu _⟩
 | cons m out ih =>
  unfold FJ at ih ⊢;rw [aCq];split
  ·have:=ih p;rw [aB5];omega
  ·have:=ih (p++[m]);rw [aAq,aEb] at this;rw [aB5];omega
theorem Lg (p:List Ao):∀ (out:List Ao) (m:Ao),m∈FJ p out↔m∈p∨m∈out:=fun out=>by
 induction out generalizing p with
 | nil=>intro m;simp [FJ]
 | cons m0 out ih =>
  intro m;unfold FJ at ih ⊢;rw [aCq];split
  ·rename_i h;rw [ih p,aAf];constructor
   ·exact fun h=>h.imp id .inr
   ·rintro (q | q | q)
    ·exact .inl q
    ·rw [q];exact .inl (Vr.1 h)
    ·exact .inr q
  ·rw [ih,aB0,aAl,aAf,or_assoc]
theorem sR {p:List Ao} (h:p.Nodup):∀ out:List Ao,(FJ p out).Nodup:=fun out=>by
 induction out generalizing p with
 | nil=>exact h
 | cons m out ih =>
  unfold FJ at ih ⊢;rw [aCq];split
  ·exact ih h
  ·rename_i hq;refine ih (aBo.2 ⟨h,by simp,fun a ha b hb=>?_⟩);rw [aAl] at hb;subst hb;exact fun e=>hq (Vr.2 (e ▸ ha))
def Qk:Gs:=(Sx,[],false)
noncomputable def TR (x:Bq) (at_:Int) (r:Gs):Bq×Bool :=
 if r.2.2=true then (if decide (160 < ((FJ x.2 r.2.1).length:Int))=true then (x,false) else ((x.1.set at_.toNat r.1,FJ x.2 r.2.1),true)) else (x,false)
def Eo (x:Bq) (i:Int):Ap:=(x.1[i.toNat]?).getD Sx
noncomputable def Ju (d:Ap):Gs:=if Et d then ((d.1,d.2.1,d.2.2.1,([]:List AM)),[],true) else Qk
theorem sS {d:Ap} (h:GN d):GRes d (Ju d):=by
 unfold Ju;rw [if_pos (nodeF.ok h.f)];exact ⟨⟨NodeF.mk' h.f.me h.f.nx h.f.is (aAn _) h.f.own (fun _ hl=>by cases hl) (by simp),fun _ hl=>(by cases hl),fun _ hl=>by cases hl⟩,rfl,fun _ hl=>(by cases hl),aAn _⟩
theorem Wt {d:Ap} (h:GN d):KB d=some ((Ju d).1,(Ju d).2.2):=by
 unfold KB Ju;refine AK (JQ h.f.okk) ?_;rw [nodeF.ok h.f,aAe,aA3,if_pos rfl];exact AK (FL h.f.small) rfl
theorem Wu {d:Ap} (h:GN d):KE d=some ((Ju d).1,(Ju d).2.2):=by
 unfold KE Ju;refine AK (It h.f.okk) ?_;rw [nodeF.ok h.f,aAe,aA3,if_pos rfl];exact AK (Ff h.f.small) rfl
noncomputable def On (d:Ap) (a:CQ):Gs :=
 if decide (a.1=1)=true then MR d a.2.2.2.2 else if decide (a.1=3)=true then KR d a.2.2.2.1 else if decide (a.1=4)=true then Oi d a.2.2.2.1
 else if decide (a.1=5)=true then Ju d else Qk
noncomputable def Ep (x:Bq) (a:CQ):Int×Gs :=
 if decide (a.1=2)=true then (match idx x.2 a.2.2.1 with
  | none=>(0,Qk)
  | some m=>(m.2.2.1,getD (Eo x m.2.2.1) m))
 else if decide (0≤a.2.1∧a.2.1 < 3)=true then (if (((decide (a.1=1)||decide (a.1=3))||decide (a.1=4))||decide (a.1=5))=true then (a.2.1,On (Eo x a.2.1) a) else (0,Qk)) else (0,Qk)
noncomputable def Gh (x:Bq) (a:CQ):Bq×Bool:=TR x (Ep x a).1 (Ep x a).2
theorem NetF.at {x:Bq} (h:NetF x) {i:Int} (hi:0≤i∧i < 3):idx x.1 i=some (Eo x i)∧GN (Eo x i)∧(Eo x i).1=i:=by
 have hlt:i.toNat < x.1.length:=by rw [h.len];omega
 have hx:x.1[i.toNat]?=some x.1[i.toNat]:=aA1 hlt;have:=h.node _ _ hx;unfold Eo;rw [hx];refine ⟨?_,this.1,?_⟩
 ·rw [gX x.1 (k:=i.toNat) om];exact hx
 show (x.1[i.toNat]).1=i;rw [this.2];omega
theorem vS {d:Ap} (h:GN d) (a:CQ) (hr:(On d a).2.2=true):GRes d (On d a):=by
 unfold On at hr ⊢;split
 ·exact vR h _
 split
 ·exact sO h _
 split
 ·exact vQ h _
 split
 ·exact sS h
 rename_i h1 h2 h3 h4;rw [if_neg h1,if_neg h2,if_neg h3,if_neg h4] at hr;cases hr
theorem Ut {α:Type} {l:List α} {i:Int} {x:α} (h:idx l i=some x):0≤i∧i < l.length∧x∈l∧l[i.toNat]?=some x:=by
 unfold idx at h;split at h
 ·cases h
 have:=(aA2.1 h).1;exact ⟨by omega,by omega,aAj h,h⟩
theorem bD {α:Type} {l:List α} {i:Int} (h:idx l i=none):i < 0∨(l.length:Int)≤i:=by
 unfold idx at h;split at h
 ·exact .inl (by assumption)
 have:=List.getElem?_eq_none_iff.1 h;right;omega
theorem vT {x:Bq} (h:NetF x) {i:Int} {r:Gs} (hr:r.2.2=true→(0≤i∧i < 3)∧GRes (Eo x i) r):NetF (TR x i r).1:=by
 unfold TR;split
 ·rename_i hk;obtain ⟨hi,hg⟩:=hr hk;split
  ·exact h
  rename_i hq;obtain ⟨h1,h2,h3⟩:=h.at hi;refine ⟨by show (x.1.set _ _).length=3;rw [aF7,h.len],fun j n hn=>?_,fun m hm=>?_,sR h.nd _,?_⟩
  ·by_cases hj:i.toNat=j
   ·subst hj;rw [show (x.1.set i.toNat r.1,FJ x.2 r.2.1).1=x.1.set i.toNat r.1 from rfl,aBu (by rw [h.len];omega)] at hn;rw [← Option.some.inj hn];refine ⟨hg.g,?_⟩;rw [hg.me,h3];omega
   rw [show (x.1.set i.toNat r.1,FJ x.2 r.2.1).1=x.1.set i.toNat r.1 from rfl,aFa hj] at hn;exact h.node j n hn
  ·rcases (Lg _ _ _).1 hm with q | q
   ·exact h.pool m q
   exact (hg.out m q).1
  have hq':¬ 160 < ((FJ x.2 r.2.1).length:Int):=fun e=>hq (aA6 e);show (FJ x.2 r.2.1).length≤160;omega
 exact h
theorem TS {x:Bq} (h:NetF x) (a:CQ):(Ep x a).2.2.2=true→(0≤(Ep x a).1∧(Ep x a).1 < 3)∧GRes (Eo x (Ep x a).1) (Ep x a).2:=by
 unfold Ep;split
 ·split
  ·intro q;cases q
  rename_i m hm;intro _;have hmf:=h.pool m (Ut hm).2.2.1;exact ⟨hmf.to,vP (h.at hmf.to).2.1 m⟩
 split
 ·rename_i hq;have hq:=aAr hq;split
  ·intro q;exact ⟨hq,vS (h.at hq).2.1 a q⟩
  intro q;cases q
 intro q;cases q
theorem bE {x:Bq} (h:NetF x) (a:CQ):NetF (Gh x a).1:=vT h (TS h a)
theorem bF {x:Bq} (h:NetF x) {a:CQ} (ha:Ok.ok a):NE x a=some (Ep x a):=by
 have hc:Ok.ok a.2.2.2.2:=ha.2.2.2.2;unfold NE Ep
 cases hk:decide (a.1=2) with
 | true =>
  rw [aA8,if_pos rfl]
  cases hx:idx x.2 a.2.2.1 with
  | none =>
   have:=bD hx;rw [show (decide (a.2.2.1 < 0)||decide ((x.2.length:Int)≤a.2.2.1))=true by rw [aBg,aAd,aAd];exact this];rfl
  | some m =>
   obtain ⟨h1,h2,h3,_⟩:=Ut hx;rw [show (decide (a.2.2.1 < 0)||decide ((x.2.length:Int)≤a.2.2.1))=false by rw [aDt,aAm,aAm];omega,aA3,ob];have hmf:=h.pool m h3;obtain ⟨e1,e2,_⟩:=h.at hmf.to;rw [e1,ob];exact AK (Yv (m:=m) e2 hmf.okk) rfl
 | false =>
  rw [aA3,if_neg aAb,Qh,ob]
  cases hq:decide (0≤a.2.1∧a.2.1 < 3) with
  | false=>rfl
  | true =>
   rw [aAe,aA3,if_pos rfl];obtain ⟨e1,e2,_⟩:=h.at (aAr hq);rw [e1];simp only [ob];unfold On
   cases decide (a.1=1) with
   | true=>exact AK (Wn (c:=a.2.2.2.2) e2.f.okk e2.f.small hc (lJ e2)) rfl
   | false =>
    rw [aA3,if_neg aAb]
    cases decide (a.1=3) with
    | true=>exact AK (Xy a.2.2.2.1 e2.f.okk e2.f.small) rfl
    | false =>
     rw [aA3,if_neg aAb]
     cases decide (a.1=4) with
     | true=>exact AK (UD a.2.2.2.1 e2.f.okk e2.f.small) rfl
     | false =>
      rw [aA3,if_neg aAb]
      cases decide (a.1=5) with
      | true =>
       refine AK (Wt e2) ?_;unfold Ju;rw [nodeF.ok e2.f];rfl
      | false=>rfl
theorem Ql {p out:List Ao} {k:Nat} {m:Ao} (h:out[k]?=some m):FJ p (out.take (k+1))=if Km (FJ p (out.take k)) m=true then FJ p (out.take k) else FJ p (out.take k)++[m]:=by
 rw [FH h];unfold FJ;rw [aFp];rfl
theorem oN {x:Bq} (h:NetF x) (a:CQ) (hr:(Ep x a).2.2.2=true):(Ep x a).2.2.1.length≤2∧∀ m,m∈(Ep x a).2.2.1→MsgF m:=by
 obtain ⟨_,hg⟩:=TS h a hr;exact ⟨hg.len,fun m hm=>(hg.out m hm).1⟩
theorem iE {x:Bq} (h:NetF x) {a:CQ} (ha:Ok.ok a):OT x a=some (Gh x a):=by
 unfold OT Gh TR;refine AK (bF h ha) ?_
 cases hr:(Ep x a).2.2.2 with
 | false=>rfl
 | true =>
  have hpl:=h.pl;obtain ⟨hi,hg⟩:=TS h a hr;obtain ⟨hl2,hmF⟩:=oN h a hr;rw [aAe,aA3,if_pos rfl,ob,BO (by simp;omega),ob,aAa];generalize Ep x a=r at hi hl2 hmF;refine CN (fun s:List Ao×Int=>∃ k:Nat,k≤r.2.2.1.length∧s=(FJ x.2 (r.2.2.1.take k),(k:Int))) (fun s=>(r.2.2.1.length - s.2).toNat) ?_ ⟨0,aAn _,rfl⟩;rintro _ ⟨k,hk,rfl⟩;dsimp only;by_cases hlt:k < r.2.2.1.length
  ·left;have hx:r.2.2.1[k]?=some r.2.2.1[k]:=aA1 hlt;have hm:=aBw hlt;generalize r.2.2.1[k]=m at hx hm;have hal:=bC x.2 (r.2.2.1.take k);rw [aB3] at hal;rw [aA6 (show (k:Int) < (r.2.2.1.length:Int) by omega),aA8,By,hx,ob];rw [show ML _ _=_ from cZ (l:=FJ x.2 (r.2.2.1.take k)) (m:=m) om (fun y hy=>by
    rcases (Lg _ _ _).1 hy with q | q
    ·exact (h.pool y q).okk
    ·exact (hmF y (aEe q)).okk),ob,BT iR]
   cases hq:Km (FJ x.2 (r.2.2.1.take k)) m with
   | true=>exact ⟨_,rfl,⟨k+1,hlt,by rw [Ql hx,if_pos hq];simp⟩,by dsimp only;omega⟩
   | false =>
    rw [aAi,aA8,ob,BO (by simp;omega),ob];exact ⟨_,rfl,⟨k+1,hlt,by rw [Ql hx,if_neg (by rw [hq];exact aAb)];simp⟩,by dsimp only;omega⟩
  ·right;have:k=r.2.2.1.length:=by omega
   subst this;rw [aA5 (show ¬ (r.2.2.1.length:Int) < (r.2.2.1.length:Int) by omega),aA3,aDb];refine Jb ?_
   cases decide (160 < ((FJ x.2 r.2.2.1).length:Int)) with
   | true=>rfl
   | false =>
    rw [aA3,if_neg aAb,(h.at hi).1,ob,ob]
theorem Jc {x:Bq} (h:NetF x):FS x=some x:=by
 have h3:=h.len;have hpl:=h.pl;unfold FS;refine CN (fun s:Int×List Ap=>∃ k:Nat,k≤3∧s=((k:Int),x.1.take k)) (fun s=>(3 - s.1).toNat) ?_ ⟨0,by omega,rfl⟩;rintro _ ⟨k,hk,rfl⟩;dsimp only;by_cases hlt:k < 3
 ·left;have hx:x.1[k]?=some x.1[k]:=aA1 om;generalize x.1[k]=n at hx;have hg:=(h.node k n hx).1;rw [aA6 (show (k:Int) < (x.1.length:Int) by omega),aA8,By,hx,ob];rw [show DO _=_ from Ff (d:=n) hg.f.small,ob,BO (by simp;omega),ob,BT iR];exact ⟨_,rfl,⟨k+1,hlt,by rw [FH hx];simp⟩,by dsimp only;omega⟩
 right;have:k=3:=by omega
 subst this;rw [aA5 (show ¬ ((3:Nat):Int) < (x.1.length:Int) by omega),aA3,aBi om];refine Jb ?_;refine CN (fun s:Int×List Ao=>∃ k:Nat,k≤x.2.length∧s=((k:Int),x.2.take k)) (fun s=>(x.2.length - s.1).toNat) ?_ ⟨0,aAn _,rfl⟩;rintro _ ⟨j,hj,rfl⟩;dsimp only;by_cases hjl:j < x.2.length
 ·left;have hx:x.2[j]?=some x.2[j]:=aA1 hjl;have hm:=aBw hjl;generalize x.2[j]=m at hx hm;have hmf:=h.pool m hm;rw [aA6 (show (j:Int) < (x.2.length:Int) by omega),aA8,By,hx,ob];rw [show He _=_ from Oe (m:=m) hmf.small,ob,BO (by simp;omega),ob,BT iR];exact ⟨_,rfl,⟨j+1,hjl,by rw [FH hx];simp⟩,by dsimp only;omega⟩
 right;have:j=x.2.length:=by omega
 subst this;rw [aA5 (show ¬ (x.2.length:Int) < (x.2.length:Int) by omega),aA3,aDb];rfl
noncomputable def qF (x:Bq) (at_:Int) (n:Ap) (ms:List Ao) (ok:Bool):Option (Bq×Bool) :=
 Option.bind (FS x) (fun a0=>cond (!ok) (some (a0,false)) (Option.bind (idx a0.1 at_) (fun a6=>Option.bind (some (a0.1.set (at_.toNat) n)) (fun a2=>Bn (fun s17:Int×(List Ao)=>cond (decide (s17.1 < (ms.length:Int))) (Option.bind (idx ms s17.1) (fun a1=>Option.bind (JN s17.2 a1) (fun a3=>cond (!a3) (Option.bind (Cj s17.2 [a1]) (fun a4=>some (.inl ((IntKind.wrap .i64 (s17.1+1),a4))))) (some (.inl ((IntKind.wrap .i64 (s17.1+1),s17.2))))))) (Option.map .inr (cond (decide (160 < (s17.2.length:Int))) (Option.bind (FS x) (fun a5=>some (a5,false))) (some ((a2,s17.2),true))))) (0,a0.2)))))
theorem PH {x:Bq} (h:NetF x) {i:Int} {r:Gs} (hr:r.2.2=true→(0≤i∧i < 3)∧GRes (Eo x i) r):qF x i r.1 r.2.1 r.2.2=some (TR x i r):=by
 unfold qF TR;refine AK (Jc h) ?_
 cases hk:r.2.2 with
 | false=>rfl
 | true =>
  have hpl:=h.pl;obtain ⟨hi,hg⟩:=hr hk;have hl2:=hg.len;rw [aAe,aA3,if_pos rfl,(h.at hi).1,ob,ob];refine CN (fun s:Int×List Ao=>∃ k:Nat,k≤r.2.1.length∧s=((k:Int),FJ x.2 (r.2.1.take k))) (fun s=>(r.2.1.length - s.1).toNat) ?_ ⟨0,aAn _,rfl⟩;rintro _ ⟨k,hk',rfl⟩;dsimp only;by_cases hlt:k < r.2.1.length
  ·left;have hx:r.2.1[k]?=some r.2.1[k]:=aA1 hlt;have hm:=aBw hlt;generalize r.2.1[k]=m at hx hm;have hal:=bC x.2 (r.2.1.take k);rw [aB3] at hal;rw [aA6 (show (k:Int) < (r.2.1.length:Int) by omega),aA8,By,hx,ob];rw [US (l:=FJ x.2 (r.2.1.take k)) (m:=m) om (fun y hy=>by
    rcases (Lg _ _ _).1 hy with q | q
    ·exact (h.pool y q).okk
    ·exact (hg.out y (aEe q)).1.okk),ob,BT iR]
   cases hq:Km (FJ x.2 (r.2.1.take k)) m with
   | true=>exact ⟨_,rfl,⟨k+1,hlt,by rw [Ql hx,if_pos hq];simp⟩,by dsimp only;omega⟩
   | false =>
    rw [aAi,aA8,BO (by simp;omega),ob];exact ⟨_,rfl,⟨k+1,hlt,by rw [Ql hx,if_neg (by rw [hq];exact aAb)];simp⟩,by dsimp only;omega⟩
  ·right;have:k=r.2.1.length:=by omega
   subst this;rw [aA5 (show ¬ (r.2.1.length:Int) < (r.2.1.length:Int) by omega),aA3,aDb];refine Jb ?_
   cases decide (160 < ((FJ x.2 r.2.1).length:Int)) with
   | true=>exact AK (Jc h) rfl
   | false=>rfl
theorem lM {σ α:Type} {o:Option (σ ⊕ α)} {k:σ→Option α} {r:α} (h:o=some (.inr r)):FI o k=some r:=by rw [h];rfl
theorem Ww {σ α:Type} {o:Option (σ ⊕ α)} {s:σ} {k:σ→Option α} {r:Option α} (h:o=some (.inl s)) (hk:k s=r):FI o k=r:=by rw [h];exact hk
theorem lN {σ α:Type} (s:σ) (k:σ→Option α):FI (some (.inl s)) k=k s:=rfl
theorem iF {x:Bq} (h:NetF x) {a:CQ} (ha:Ok.ok a):Rv x a=some (Gh x a):=by
 have hc:Ok.ok a.2.2.2.2:=ha.2.2.2.2;have hpl:=h.pl;unfold Rv Gh;have hG:=TS h a
 cases hk:decide (a.1=2) with
 | true =>
  rw [aA8,HQ,ob,BT iR];have h1:decide (a.1=1)=false:=by have:=aAr hk;exact aA5 om
  cases hx:idx x.2 a.2.2.1 with
  | none =>
   have:=bD hx;have hA:Ep x a=(0,Qk):=by unfold Ep;rw [hk,if_pos rfl,hx]
   rw [aA5 (show ¬ (0≤a.2.2.1∧a.2.2.1≤(x.2.length:Int) - 1) by omega),aAi,aA8,hA];exact lM (AK (Jc h) rfl)
  | some m =>
   obtain ⟨k1,k2,h3,_⟩:=Ut hx;have hA:Ep x a=(m.2.2.1,getD (Eo x m.2.2.1) m):=by unfold Ep;rw [hk,if_pos rfl,hx]
   rw [hA] at hG ⊢;have hmf:=h.pool m h3;obtain ⟨e1,e2,_⟩:=h.at hmf.to;rw [aA6 (show 0≤a.2.2.1∧a.2.2.1≤(x.2.length:Int) - 1 by omega),aAe,aA3,ob,lN,Px,ob,aA6 hmf.to,aAe,aA3,e1,ob,h1,aA3,aA8,ob];exact Ww (AK (Yw (m:=m) e2 hmf.okk) rfl) (PH h hG)
 | false =>
  rw [aA3,lN,Px,ob]
  cases hq:decide (0≤a.2.1∧a.2.1 < 3) with
  | false =>
   have hA:Ep x a=(0,Qk):=by unfold Ep;rw [hk,if_neg aAb,hq,if_neg aAb]
   rw [aAi,aA8,hA];exact AK (Jc h) rfl
  | true =>
   rw [aAe,aA3];obtain ⟨e1,e2,_⟩:=h.at (aAr hq);rw [e1,ob]
   cases h1:decide (a.1=1) with
   | true =>
    have hA:Ep x a=(a.2.1,MR (Eo x a.2.1) a.2.2.2.2):=by unfold Ep On;rw [hk,hq,h1];rfl
    rw [hA] at hG ⊢;exact Ww (AK (Wo (c:=a.2.2.2.2) e2.f.okk e2.f.small hc) rfl) (PH h hG)
   | false =>
    rw [aA3,aA3]
    cases h3:decide (a.1=3) with
    | true =>
     have hA:Ep x a=(a.2.1,KR (Eo x a.2.1) a.2.2.2.1):=by unfold Ep On;rw [hk,hq,h1,h3];rfl
     rw [hA] at hG ⊢;exact Ww (AK (Xz a.2.2.2.1 e2.f.okk e2.f.small) rfl) (PH h hG)
    | false =>
     rw [aA3]
     cases h4:decide (a.1=4) with
     | true =>
      have hA:Ep x a=(a.2.1,Oi (Eo x a.2.1) a.2.2.2.1):=by unfold Ep On;rw [hk,hq,h1,h3,h4];rfl
      rw [hA] at hG ⊢;exact Ww (AK (UE a.2.2.2.1 e2.f.okk e2.f.small) rfl) (PH h hG)
     | false =>
      rw [aA3]
      cases h5:decide (a.1=5) with
      | true =>
       have hA:Ep x a=(a.2.1,Ju (Eo x a.2.1)):=by unfold Ep On;rw [hk,hq,h1,h3,h4,h5];rfl
       rw [hA] at hG ⊢;have hf:=PH h hG;unfold Ju at hf ⊢;rw [nodeF.ok e2.f] at hf ⊢;refine Ww (AK (Wu e2) rfl) ?_;unfold Ju;rw [nodeF.ok e2.f];exact hf
      | false =>
       have hA:Ep x a=(0,Qk):=by unfold Ep On;rw [hk,hq,h1,h3,h4,h5];rfl
       rw [aA3,hA];exact lM (AK (Jc h) rfl)
def bG (i:Int):Ap:=(i,1,([]:List Ar),([]:List AM))
def Fv:Bq:=([bG 0,bG 1,bG 2],[])
theorem bH {i:Int} (hi:0≤i∧i < 3):GN (bG i) :=
 ⟨NodeF.mk' hi ⟨by show (1:Int)≤1;omega,by show (1:Int)≤7;omega⟩ rfl (aAn _) (fun _ hx=>by cases hx) (fun _ hx=>by cases hx) (by simp [bG]),fun _ hx=>(by cases hx),fun _ hx=>by cases hx⟩
theorem bI:NetF Fv:=by
 refine ⟨rfl,fun i n hn=>?_,fun _ hm=>(by cases hm),by simp [Fv],aAn _⟩
 match i,hn with
 | 0,hn=>rw [← Option.some.inj hn];exact ⟨bH om,rfl⟩
 | 1,hn=>rw [← Option.some.inj hn];exact ⟨bH om,rfl⟩
 | 2,hn=>rw [← Option.some.inj hn];exact ⟨bH om,rfl⟩
 | k+3,hn=>cases hn
theorem bJ:ND=some Fv:=by
 unfold ND;refine CN (fun s:Int×List Ap=>∃ k:Nat,k≤3∧s=((k:Int),Fv.1.take k)) (fun s=>(3 - s.1).toNat) ?_ ⟨0,by omega,rfl⟩;rintro _ ⟨k,hk,rfl⟩;have:k=0∨k=1∨k=2∨k=3:=by omega
 rcases this with rfl | rfl | rfl | rfl
 ·exact .inl ⟨_,rfl,⟨1,by omega,rfl⟩,by decide⟩
 ·exact .inl ⟨_,rfl,⟨2,by omega,rfl⟩,by decide⟩
 ·exact .inl ⟨_,rfl,⟨3,by omega,rfl⟩,by decide⟩
 exact .inr rfl
theorem bK:NG=some Fv:=by
 unfold NG;refine CN (fun s:Int×List Ap=>∃ k:Nat,k≤3∧s=((k:Int),Fv.1.take k)) (fun s=>(3 - s.1).toNat) ?_ ⟨0,by omega,rfl⟩;rintro _ ⟨k,hk,rfl⟩;have:k=0∨k=1∨k=2∨k=3:=by omega
 rcases this with rfl | rfl | rfl | rfl
 ·exact .inl ⟨_,rfl,⟨1,by omega,rfl⟩,by decide⟩
 ·exact .inl ⟨_,rfl,⟨2,by omega,rfl⟩,by decide⟩
 ·exact .inl ⟨_,rfl,⟨3,by omega,rfl⟩,by decide⟩
 exact .inr rfl
set_option maxHeartbeats 2000000
instance IU:ElF Tryz.prog 73 31 1 24 [.slice none 0 0]:=⟨kr⟩
theorem MX (w:World) (a0:TL (TL AS)) (u0:(TL AS)) (a1 a2:Int) (hu:a0.els[a1.toNat]?=some u0) (h12:a2=IntKind.wrap .i64 (a1+1)) (r) (hp:Zs (GT.dat a0) a1 a2=some r):Spec Tryz.prog 82 [a0.hdr,.int .i64 a1,.int .i64 a2].toArray w [HK a0 a1.toNat (GT.cells u0)] (fun v M=>∃ (x0:TL (TL AS)),v=x0.hdr∧GT.dat x0=r∧M=[Af x0]):=by
 refine Ay Tryz.func82 rfl Tryz.ntmps82 rfl ?_;unfold Zs at hp;split at hp
 rotate_left
 ·cases hp
 rename_i hb;obtain rfl:=sj hp;obtain ⟨h0,h1,h2⟩:=hb;rw [BQ,aB1] at h2;obtain ⟨i,rfl⟩:=aC7 h0;obtain ⟨j,rfl⟩:=aC7 (show 0≤a2 by omega);simp only [aB8] at hu ⊢;have hij:i < j:=by omega
 have hjl:j≤a0.els.length:=by omega
 refine uY (X:=a0) hu pk (fun fa fl fm ft=>?_);have hj1:j=i+1:=by
  rw [BT (n:=(i:Int)+1) (by unfold inR;unfold maxLen at fm;omega)] at h12;omega
 have hsz:GT.sz (TL AS)=1:=rfl;rw [hsz] at ft;have hcl:(Av a0.els++a0.tail).length=a0.cap*1:=by rw [aAq,BV,hsz];exact ft
 have hone:∀ u,u∈Av a0.els++a0.tail→True:=fun _ _=>trivial;have hh:a0.hdr=.slice (some ⟨a0.g,0,none⟩) a0.els.length a0.cap:=by show Value.slice a0.a _ _=_;rw [fa]
 rw [hh];refine s10 ?_;refine VA rfl rfl IU.h ?_;refine wT rfl rfl rfl rfl rfl IU.h om om om om (fun _=>?_);refine s8 ?_;refine Tg rfl (fun hc=>?_) (fun hc=>?_)
 ·exfalso;simp at hc;omega
 refine s4 ?_;refine VA rfl rfl IU.h ?_;refine s3 ?_;refine Dv (pre:=[_,_,_,_,_,_]) (suf:=[_,_]) [22,25] [] _ pc mix kr kr rfl ?_;refine s2 ?_;refine pO (g:=a0.g) (o:=0) (n:=a0.els.length) (c:=a0.cap) (a:=0) (b:=(i:Int)) Ai (Ag rfl) optD.none (optD.some (Ag rfl)) IU.h om om om ?_;refine s2 ?_;refine pO (g:=a0.g) (o:=0) (n:=a0.els.length) (c:=a0.cap) (a:=(j:Int)) (b:=(a0.els.length:Int)) Ai (Ag rfl) (optD.some (Ag rfl)) optD.none IU.h om om om ?_;refine s8 ?_;simp only [aB8,Int.toNat_zero,sl0,aG1];have hseg:=mV (X:=a0) (j:=j) (sz:=1) rfl hjl fl;have e1:i*1+(a0.els.length - j)*1≤a0.cap*1:=by rw [← aC3];exact aCg _ om
 refine mU (n:=i) (m:=a0.els.length - j) (o:=slA 0 a0.cap j 1) rfl rfl rfl IU.h pk om (by
  rw [hcl];unfold slA;split
  ·have:a0.els.length - j=0:=by omega
   rw [this];omega
  ·rw [aBk,← aC3];exact aCg _ om) (by rw [hcl];exact e1) (by rw [hseg];exact fun u hu=>OX _ u hu) ?_
 rw [hseg];generalize hcs:(Av a0.els++a0.tail).take (i*1)++Av (a0.els.drop j)++(Av a0.els++a0.tail).drop (i*1+(a0.els.length - j)*1)=cs;have hcsl:cs.length=a0.cap*1:=by
  rw [← hcs];simp only [aAq,aB3,aC1,BV,hsz] at hcl ⊢;omega
 refine s6 ?_;refine VA rfl rfl IU.h ?_;refine s1 ?_;refine wS (g:=a0.g) (o:=0) (n:=i+(a0.els.length - j)) (c:=a0.cap) (a:=((i+(a0.els.length - j):Nat):Int)) (b:=(a0.els.length:Int)) rfl rfl rfl rfl IU.h om om om ?_;simp only [aB8];rw [uI (show i+(a0.els.length - j) < a0.cap by omega)];refine Zr rfl IU.h rfl (EM rfl) pk (by rw [hcsl,← aC3];exact aCg _ om) om ?_;rw [jV (sz:=1) (List.flatten _) (show GT.sz (TL AS)=1 from rfl) rfl hij hjl cs hcs.symm];refine s6 ?_;refine AX (fun _=>uX (xs:=a0.els.eraseIdx i) (ys:=a0.els.take i++a0.els.drop j) (by rw [hj1,aCv]) pk) ?_;have hle:(a0.els.take i++a0.els.drop j).length=i+(a0.els.length - j):=by
  rw [aAq,aB3,aC1,aCa om]
 have htl:((List.replicate (a0.els.length - (i+(a0.els.length - j))) ([.slice none 0 0]:List Value)).flatten++a0.tail).length=(a0.els.length - (i+(a0.els.length - j)))*1+a0.tail.length:=by
  simp
 refine AX (fun w h=>XR (τ:=(TL AS)) (g:=a0.g) (e:=a0.e) (cap:=a0.cap) (els:=a0.els.take i++a0.els.drop j) (tail:=(List.replicate (a0.els.length - (i+(a0.els.length - j))) ([.slice none 0 0]:List Value)).flatten++a0.tail) rfl (by rw [hle];omega) fm (by
  rw [hle,htl,hsz];have h3:(i+(a0.els.length - j))*1+(a0.els.length - (i+(a0.els.length - j)))*1=a0.els.length*1:=by rw [← aC3];congr 1;omega
  omega) pk pk h) ?_
 refine s1 ?_;refine Ct rfl (Ah rfl) ⟨⟨some ⟨a0.g,0,none⟩,a0.cap,a0.e,a0.els.take i++a0.els.drop j,(List.replicate (a0.els.length - (i+(a0.els.length - j))) ([.slice none 0 0]:List Value)).flatten++a0.tail⟩,?_,?_,rfl⟩ ms
 ·show Value.slice _ _ _=Value.slice _ _ _;rw [hle]
 ·rw [BQ,BQ];simp [aEh,aEi]
end Go.Proofs.SL
