/- The texts of the proof, part 16. -/
import Derived.Test.YthlbpedehajlgaaGreatRows
import Derived.Test.YthlbpedehajlgaaGreatT15
import Derived.Test.YthlbpedehajlgaaGreatT4
import Derived.Test.YthlbpedehajlgaaGreatT13
set_option linter.all false
namespace Go.Proofs.SL
open Go Tryz Go.Proofs.SL.GT
variable (w:World)
set_option maxHeartbeats 2000000
instance rT:FnF prog 156:=⟨_,func156,kr,rfl⟩
instance rU:FnF prog 223:=⟨_,func223,kr,rfl⟩
instance rV:FnF prog 190:=⟨_,func190,kr,rfl⟩
instance rW:FnF prog 157:=⟨_,func157,kr,rfl⟩
theorem ZB (t1 t2:Az) (h1:rd w [] t1) (h2:rd w [] t2):Sp 190 [.agg (cells t1).toArray,.agg (cells t2).toArray] w [] (IsV (.bool (eqB (dat t1) (dat t2)))):=by
 obtain ⟨⟨a0,a1⟩,a2,a3,a4,a5,a6,a7⟩:=t1;obtain ⟨⟨b11,b12⟩,b2,b3,b4,b5,b6,b7⟩:=t2;change Spec _ _ [Value.agg #[.int .i64 a0,.int .i64 a1,.int .i64 a2,.int .i64 a3,.int .i64 a4,a5.hdr,a6.hdr,.bool a7],Value.agg #[.int .i64 b11,.int .i64 b12,.int .i64 b2,.int .i64 b3,.int .i64 b4,b5.hdr,b6.hdr,.bool b7]].toArray w [] _;refine Spec.intro func190 rfl ntmps190 rfl (s2 ?_);refine bx fun aa=>?_;refine bx fun ab=>?_;refine s6 ?_;refine AW rfl rfl (AT (by exact Ag mm) 0 2 rfl) (by exact Bp.h) (s1 ?_);refine AW rfl rfl (AT (by exact Ag mm) 0 2 rfl) (by exact Bp.h) ?_;refine Bi rfl YW.h rfl (by exact fun w hw=>Nn w (a0,a1) (b11,b12) (BG (h1.1) hw) (BG (h2.1) hw)) (s2 ?_);refine kp [2,3,10] ?_;refine Ai rfl (fun q1=>?_) (fun q1=>?_)
 ·refine s5 ?_;refine AE rfl (Ab rfl) ⟨?_,rfl⟩ ms;clear h1 h2;exact eqx
 refine s5 ?_;refine AY rfl rfl (by exact Ag mm) AM.h rfl (s1 ?_);refine AY rfl rfl (by exact Ag mm) AM.h rfl (s2 ?_);refine kp [2,3,15] ?_;refine Ai rfl (fun q3=>?_) (fun q3=>?_)
 ·refine s5 ?_;refine AE rfl (Ab rfl) ⟨?_,rfl⟩ ms;clear h1 h2;exact eqx
 refine s5 ?_;refine AY rfl rfl (by exact Ag mm) AM.h rfl (s1 ?_);refine AY rfl rfl (by exact Ag mm) AM.h rfl (s2 ?_);refine kp [2,3,20] ?_;refine Ai rfl (fun q5=>?_) (fun q5=>?_)
 ·refine s5 ?_;refine AE rfl (Ab rfl) ⟨?_,rfl⟩ ms;clear h1 h2;exact eqx
 refine s5 ?_;refine AY rfl rfl (by exact Ag mm) AM.h rfl (s1 ?_);refine AY rfl rfl (by exact Ag mm) AM.h rfl (s2 ?_);refine kp [2,3,25] ?_;refine Ai rfl (fun q7=>?_) (fun q7=>?_)
 ·refine s5 ?_;refine AE rfl (Ab rfl) ⟨?_,rfl⟩ ms;clear h1 h2;exact eqx
 refine s5 ?_;refine AY rfl rfl (by exact Ag mm) FZ.h rfl (s1 ?_);refine AY rfl rfl (by exact Ag mm) FZ.h rfl ?_;refine Bi rfl cS.h rfl (by exact fun w hw=>RJ w _ _ (BG (h1.2.2.2.2.1) hw) (BG (h2.2.2.2.2.1) hw)) (s2 ?_);refine kp [2,3,31] ?_;refine Ai rfl (fun q9=>?_) (fun q9=>?_)
 ·refine s5 ?_;refine AE rfl (Ab rfl) ⟨?_,rfl⟩ ms;clear h1 h2;exact eqx
 refine s5 ?_;refine AY rfl rfl (by exact Ag mm) IM.h rfl (s1 ?_);refine AY rfl rfl (by exact Ag mm) IM.h rfl ?_;refine Bi rfl rU.h rfl (by exact fun w hw=>Zz w _ _ (BG (h1.2.2.2.2.2.1) hw) (BG (h2.2.2.2.2.2.1) hw)) (s2 ?_);refine kp [2,3,37] ?_;refine Ai rfl (fun a8=>?_) (fun a8=>?_)
 ·refine s5 ?_;refine AE rfl (Ab rfl) ⟨?_,rfl⟩ ms;clear h1 h2;exact eqx
 refine s5 ?_;refine AY rfl rfl (by exact Ag mm) HH.h rfl (s1 ?_);refine AY rfl rfl (by exact Ag mm) HH.h rfl (s2 ?_);refine kp [42] ?_;refine Ai rfl (fun a9=>?_) (fun a9=>?_)
 ·refine s5 ?_;refine AE rfl (Ab rfl) ⟨?_,rfl⟩ ms;clear h1 h2;exact eqx
 refine s6 ?_;refine AE rfl (Ab rfl) ⟨?_,rfl⟩ ms;clear h1 h2;exact eqx
theorem YY (t1 t2:TL Az) (h1:rd w [] t1) (h2:rd w [] t2):Sp 153 [t1.hdr,t2.hdr] w [] (IsV (.bool (eqB (dat t1) (dat t2)))):=by
 obtain ⟨a1,c1,e1,x1,y1⟩:=t1;obtain ⟨a2,c2,e2,x2,y2⟩:=t2
 have hm1:x1.length≤9223372036854775807:=EQ h1
 have hm2:x2.length≤9223372036854775807:=EQ h2
 dsimp only [TL.hdr];refine Spec.intro func153 rfl ntmps153 rfl (s8 ?_);refine CT rfl rfl Ct.h (s1 ?_);refine CT rfl rfl Ct.h (s2 ?_);refine kp [0,1,10] ?_;refine Ai rfl (fun q1=>?_) (fun q1=>?_)
 ·refine s5 ?_;refine AE rfl (Ab rfl) ⟨?_,rfl⟩ ms;refine congrArg Value.bool (Eq.symm (DT.2 fun e=>?_));simp at q1;exact q1 (by have:=congrArg List.length e;simp [Ln] at this;omega)
 have hl:x1.length=x2.length:=by simp at q1;omega
 refine s7 ?_;refine DO (σ:=Nat) 0 (fun (k:Nat)=>[(5,.int .i64 (k:Int))]) (fun (k:Nat)=>[]) (fun (k:Nat)=>k≤x1.length∧(x1.map dat).take k=(x2.map dat).take k) (fun (k:Nat)=>x1.length - k) [(0,_),(1,_)] [] ?_ sb ms ?_
 ·exact ⟨Nat.zero_le _,rfl⟩
 rintro k ⟨hk,ht⟩;refine kq [0,1,5] ?_;refine s5 ?_;refine CT rfl rfl Ct.h (s2 ?_);refine kp [0,1,5,14] ?_;refine Ai rfl (fun q4=>?_) (fun q4=>?_)
 ·have hk1:k < x1.length:=by simpa using q4
  obtain ⟨g1,o1,rfl⟩:=DP h1 hk1;obtain ⟨g2,o2,rfl⟩:=DP (k:=k) h2 (show k < x2.length by omega);obtain ⟨u1,hu1⟩:=Eb hk1;obtain ⟨u2,hu2⟩:=Eb (show k < x2.length by omega);refine s4 ?_;refine BX [26] mix kr rfl (s2 ?_);refine Db _ Ar (Aj rfl) (Aj rfl) Ct.h (fun hg=>⟨rfl,by (try dsimp only);omega⟩) ?_;refine Bq Ar (Aj rfl) (fun hg=>(by first | exact Ag mm | exact Br (Cells.el h1 rfl hu1) | exact Br (Cells.el h2 rfl hu2))) (by exact FE.h) (s2 ?_);refine Db _ Ar (Aj rfl) (Aj rfl) Ct.h (fun hg=>⟨rfl,by (try dsimp only);omega⟩) ?_;refine Bq Ar (Aj rfl) (fun hg=>(by first | exact Ag mm | exact Br (Cells.el h1 rfl hu1) | exact Br (Cells.el h2 rfl hu2))) (by exact FE.h) ?_;refine AZ Ar rV.h (Ah (Aj rfl) (Ah (Aj rfl) (AF))) (by exact fun hg w F hF hM=>(fun w hw=>ZB w _ _ (BG (h1.2.2.1 _ (List.mem_of_getElem? hu1)) hw) (BG (h2.2.2.1 _ (List.mem_of_getElem? hu2)) hw)) w hF) (s13 ?_);refine kp [0,1,5,26] ?_;refine Ai rfl (fun q6=>?_) (fun q6=>?_)
  ·refine s5 ?_;refine AE rfl (Ab rfl) ⟨?_,rfl⟩ ms;refine congrArg Value.bool (Eq.symm (DT.2 fun e=>?_));simp at q6;replace e:x1.map dat=x2.map dat:=e
   have e2:=congrArg (fun l=>l[k]?) e
   simp only [List.getElem?_map,hu1,hu2,Option.map_some,Option.some.injEq] at e2;exact q6 (by simpa [DU,Ee,DD] using e2)
  refine s3 ?_;refine Be rfl rfl rfl (Bc iR) (s2 ?_);refine ⟨k+1,sb,ms,?_,?_⟩
  ·exact ⟨by omega,GE ht (by rw [List.getElem?_map,hu1];rfl) (by rw [List.getElem?_map,hu2];rfl) (by simpa [DU,Ee,DD] using q6)⟩
  (try dsimp only);omega
 refine BF (s5 ?_);refine AE rfl (Ab rfl) ⟨?_,rfl⟩ ms;refine congrArg Value.bool (Eq.symm (Fj.2 ?_))
 have hk2:x1.length≤k:=by simpa using q4
 have h3:=ht
 rw [List.take_of_length_le (by simp;omega),List.take_of_length_le (by simp;omega)] at h3;exact h3
set_option maxHeartbeats 4000000 in
theorem VW (t1:TL Az) (k0:Nat) (hk0:0 < k0) (hb:k0+Mk.cnt t1 < 9223372036854775807):Sp 102 [t1.hdr,.int .i64 (k0:Int)] w [Af t1] (fun v M=>v=.int .i64 ((k0+Mk.cnt t1:Nat):Int)∧M=[Af (Mk.mkd k0 t1)]):=by
 obtain ⟨a1,c1,e1,x1,y1⟩:=t1;replace hb:k0+CL x1 < 9223372036854775807:=hb;dsimp only [TL.hdr];refine Spec.intro func102 rfl ntmps102 rfl ?_;refine Lp (fun w h=>II (h.prs _ (List.mem_cons_self ..))) fun hF=>?_;replace hF:x1.length≤9223372036854775807∧(0 < x1.length→∃ g,a1=some ⟨g,0,none⟩):=hF;refine s10 ?_;refine AS (M':=[Af (⟨a1,c1,e1,Cr k0 0 x1,y1⟩:TL Az)]) (fun w h=>by rw [IC];exact h) ?_;refine DO (σ:=Nat) 0 (fun (i:Nat)=>[(1,.int .i64 ((k0+CL (x1.take i):Nat):Int)),(5,.int .i64 (i:Int))]) (fun (i:Nat)=>[Af (⟨a1,c1,e1,Cr k0 i x1,y1⟩:TL Az)]) (fun (i:Nat)=>i≤x1.length) (fun (i:Nat)=>x1.length - i) [(0,_)] [] ?_ sb ms ?_
 ·exact Nat.zero_le _
 rintro i hi;refine kq [0,1,5] ?_;refine s5 ?_;refine CT rfl rfl Ct.h (s2 ?_);refine kp [0,1,5,9] ?_;refine Ai rfl (fun q2=>?_) (fun q2=>?_)
 ·have hk1:i < x1.length:=by simpa using q2
  obtain ⟨g,rfl⟩:=hF.2 om;obtain ⟨u,hu⟩:=Eb hk1
  have hs:=Dy hu
  have hle:=DY x1 (i+1)
  have hlh:=Hk k0 i x1
  obtain ⟨⟨b11,b12⟩,b2,b3,b4,b5,b6,b7⟩:=u;simp only [Cw,CI,CJ,Et] at hs;obtain ⟨K,hK⟩:∃ K:Nat,k0+CL (x1.take i)=K:=⟨_,rfl⟩;rw [hK];rw [← MD (CW (k:=k0) hu)];refine s8 ?_;refine AI rfl rfl rfl Ct.h rfl om (s2 ?_);refine BN (fo:=0) (x':=(((((K:Nat):Int),b12),b2,b3,b4,b5,b6,b7):Az)) rfl rfl pk rfl om (fun w h=>by exact ⟨⟨(by exact trivial),h.1.2⟩,h.2.1,h.2.2.1,h.2.2.2.1,h.2.2.2.2.1,h.2.2.2.2.2.1,h.2.2.2.2.2.2⟩) AM.h (s4 ?_);refine Be rfl rfl rfl (Bc iR) (s2 ?_);rw [show ((K:Nat):Int)+1=((K+1:Nat):Int) from rfl];refine s5 ?_;refine AI rfl rfl rfl Ct.h rfl om (s2 ?_);refine BN (fo:=1) (x':=(((((K:Nat):Int),((K+1:Nat):Int)),b2,b3,b4,b5,b6,b7):Az)) rfl rfl pk rfl om (fun w h=>by exact ⟨⟨h.1.1,(by exact trivial)⟩,h.2.1,h.2.2.1,h.2.2.2.1,h.2.2.2.2.1,h.2.2.2.2.2.1,h.2.2.2.2.2.2⟩) AM.h (s4 ?_);refine Be rfl rfl rfl (Bc iR) (s2 ?_);rw [show ((K+1:Nat):Int)+1=((K+2:Nat):Int) from rfl];refine s5 ?_;refine AI rfl rfl rfl Ct.h rfl om (s1 ?_);refine BN (fo:=2) (x':=(((((K:Nat):Int),((K+1:Nat):Int)),((K+2:Nat):Int),b3,b4,b5,b6,b7):Az)) rfl rfl pk rfl om (fun w h=>by exact ⟨⟨h.1.1,h.1.2⟩,(by exact trivial),h.2.2.1,h.2.2.2.1,h.2.2.2.2.1,h.2.2.2.2.2.1,h.2.2.2.2.2.2⟩) AM.h (s4 ?_);refine Be rfl rfl rfl (Bc iR) (s2 ?_);rw [show ((K+2:Nat):Int)+1=((K+3:Nat):Int) from rfl];refine s5 ?_;refine AI rfl rfl rfl Ct.h rfl om (s1 ?_);refine BN (fo:=3) (x':=(((((K:Nat):Int),((K+1:Nat):Int)),((K+2:Nat):Int),((K+3:Nat):Int),b4,b5,b6,b7):Az)) rfl rfl pk rfl om (fun w h=>by exact ⟨⟨h.1.1,h.1.2⟩,h.2.1,(by exact trivial),h.2.2.2.1,h.2.2.2.2.1,h.2.2.2.2.2.1,h.2.2.2.2.2.2⟩) AM.h (s4 ?_);refine Be rfl rfl rfl (Bc iR) (s2 ?_);rw [show ((K+3:Nat):Int)+1=((K+4:Nat):Int) from rfl];refine s5 ?_;refine AI rfl rfl rfl Ct.h rfl om (s1 ?_);refine BN (fo:=4) (x':=(((((K:Nat):Int),((K+1:Nat):Int)),((K+2:Nat):Int),((K+3:Nat):Int),((K+4:Nat):Int),b5,b6,b7):Az)) rfl rfl pk rfl om (fun w h=>by exact ⟨⟨h.1.1,h.1.2⟩,h.2.1,h.2.2.1,(by exact trivial),h.2.2.2.2.1,h.2.2.2.2.2.1,h.2.2.2.2.2.2⟩) AM.h (s4 ?_);refine Be rfl rfl rfl (Bc iR) (s2 ?_);rw [show ((K+4:Nat):Int)+1=((K+5:Nat):Int) from rfl];refine s4 ?_;refine AI rfl rfl rfl Ct.h rfl om (s1 ?_);refine AY rfl rfl (by exact Lj (L:=(⟨some ⟨g,0,none⟩,c1,e1,((Cr k0 i x1).set i (((((K:Nat):Int),((K+1:Nat):Int)),((K+2:Nat):Int),((K+3:Nat):Int),((K+4:Nat):Int),b5,b6,b7):Az)),y1⟩:TL Az)) mm rfl (DW (CW (k:=k0) hu))) FZ.h rfl (s1 ?_);refine AA (fun w h=>Lo (L:=(⟨some ⟨g,0,none⟩,c1,e1,((Cr k0 i x1).set i (((((K:Nat):Int),((K+1:Nat):Int)),((K+2:Nat):Int),((K+3:Nat):Int),((K+4:Nat):Int),b5,b6,b7):Az)),y1⟩:TL Az)) (DW (CW (k:=k0) hu)) (Bt pk h)) ?_;refine AA (fun _=>Bx) ?_;refine AA (fun _=>Bt (Pick.there _ (Pick.here _))) ?_;refine AA (fun _=>Bx) ?_;refine AA (fun _=>Bt (Pick.there _ (Pick.here _))) ?_;refine AA (fun _=>Bx) ?_;refine AA (fun _=>Bt (Pick.there _ (Pick.here _))) ?_;refine AA (fun _=>Bx) ?_;refine AA (fun _=>Bt (Pick.there _ (Pick.here _))) ?_;refine AA (fun _=>Bx) ?_;refine Hr rfl cQ.h rfl (Pick.here _) (by exact fun w hw=>OW w b5 (K+5) om om) ?_;rintro v M1 ⟨hv,rfl⟩;subst hv;simp only [List.cons_append,List.nil_append];refine AA (fun _=>ID (Pick.here _)) ?_;refine AA (fun _=>BS (Pick.here _)) ?_;refine AA (fun _=>BS (Pick.here _)) ?_;refine AA (fun _=>BS (Pick.here _)) ?_;refine AA (fun _=>BS (Pick.here _)) ?_;refine AA (M':=Af (⟨some ⟨g,0,none⟩,c1,e1,(((Cr k0 i x1).set i (((((K:Nat):Int),((K+1:Nat):Int)),((K+2:Nat):Int),((K+3:Nat):Int),((K+4:Nat):Int),b5,b6,b7):Az)).set i (((((K:Nat):Int),((K+1:Nat):Int)),((K+2:Nat):Int),((K+3:Nat):Int),((K+4:Nat):Int),(Mk.mkd (K+5) b5),b6,b7):Az)),y1⟩:TL Az)::_) (fun w h=>NG (L:=(⟨some ⟨g,0,none⟩,c1,e1,((Cr k0 i x1).set i (((((K:Nat):Int),((K+1:Nat):Int)),((K+2:Nat):Int),((K+3:Nat):Int),((K+4:Nat):Int),b5,b6,b7):Az)),y1⟩:TL Az)) (DW (CW (k:=k0) hu)) (by simp only [CA,Gy]) h) ?_;rw [List.set_set];refine s6 ?_;refine AI rfl rfl rfl Ct.h rfl om (s1 ?_);refine AY rfl rfl (by exact Lj (L:=(⟨some ⟨g,0,none⟩,c1,e1,((Cr k0 i x1).set i (((((K:Nat):Int),((K+1:Nat):Int)),((K+2:Nat):Int),((K+3:Nat):Int),((K+4:Nat):Int),(Mk.mkd (K+5) b5),b6,b7):Az)),y1⟩:TL Az)) mm rfl (DW (CW (k:=k0) hu))) IM.h rfl (s1 ?_);refine AA (fun w h=>Lo (L:=(⟨some ⟨g,0,none⟩,c1,e1,((Cr k0 i x1).set i (((((K:Nat):Int),((K+1:Nat):Int)),((K+2:Nat):Int),((K+3:Nat):Int),((K+4:Nat):Int),(Mk.mkd (K+5) b5),b6,b7):Az)),y1⟩:TL Az)) (DW (CW (k:=k0) hu)) (Bt pk h)) ?_;refine AA (fun _=>Bx) ?_;refine AA (fun _=>Bt (Pick.there _ (Pick.here _))) ?_;refine AA (fun _=>Bx) ?_;refine AA (fun _=>Bt (Pick.there _ (Pick.here _))) ?_;refine AA (fun _=>Bx) ?_;refine AA (fun _=>Bt (Pick.there _ (Pick.here _))) ?_;refine AA (fun _=>Bx) ?_;refine AA (fun _=>Bt (Pick.there _ (Pick.here _))) ?_;refine AA (fun _=>Bx) ?_;refine AA (fun _=>Bt (Pick.there _ (Pick.here _))) ?_;refine AA (fun _=>Bx) ?_;refine Hr rfl rT.h rfl (Pick.here _) (by exact fun w hw=>Xa w b6 ((K+5)+Mk.cnt b5) om om) ?_;rintro v M1 ⟨hv,rfl⟩;subst hv;simp only [List.cons_append,List.nil_append];refine AA (fun _=>ID (Pick.here _)) ?_;refine AA (fun _=>BS (Pick.here _)) ?_;refine AA (fun _=>BS (Pick.here _)) ?_;refine AA (fun _=>BS (Pick.here _)) ?_;refine AA (fun _=>BS (Pick.here _)) ?_;refine AA (fun _=>BS (Pick.here _)) ?_;refine AA (M':=Af (⟨some ⟨g,0,none⟩,c1,e1,(((Cr k0 i x1).set i (((((K:Nat):Int),((K+1:Nat):Int)),((K+2:Nat):Int),((K+3:Nat):Int),((K+4:Nat):Int),(Mk.mkd (K+5) b5),b6,b7):Az)).set i (((((K:Nat):Int),((K+1:Nat):Int)),((K+2:Nat):Int),((K+3:Nat):Int),((K+4:Nat):Int),(Mk.mkd (K+5) b5),(Mk.mkd ((K+5)+Mk.cnt b5) b6),b7):Az)),y1⟩:TL Az)::_) (fun w h=>NG (L:=(⟨some ⟨g,0,none⟩,c1,e1,((Cr k0 i x1).set i (((((K:Nat):Int),((K+1:Nat):Int)),((K+2:Nat):Int),((K+3:Nat):Int),((K+4:Nat):Int),(Mk.mkd (K+5) b5),b6,b7):Az)),y1⟩:TL Az)) (DW (CW (k:=k0) hu)) (by simp only [CA,Gy]) h) ?_;rw [List.set_set];refine s7 ?_;refine Be rfl rfl rfl (MO om) (s1 ?_);refine AI rfl rfl rfl Ct.h rfl om (s1 ?_);refine BN (fo:=7) (x':=(((((K:Nat):Int),((K+1:Nat):Int)),((K+2:Nat):Int),((K+3:Nat):Int),((K+4:Nat):Int),(Mk.mkd (K+5) b5),(Mk.mkd ((K+5)+Mk.cnt b5) b6),(decide ((((((K+5)+Mk.cnt b5)+Mk.cnt b6):Nat):Int).tmod 3=0))):Az)) rfl rfl pk rfl om (fun w h=>by exact ⟨⟨h.1.1,h.1.2⟩,h.2.1,h.2.2.1,h.2.2.2.1,h.2.2.2.2.1,h.2.2.2.2.2.1,(by exact trivial)⟩) HH.h (s3 ?_);refine Be rfl rfl rfl (Bc iR) (s2 ?_);rw [show (((((K+5)+Mk.cnt b5)+Mk.cnt b6):Nat):Int)+1=((((((K+5)+Mk.cnt b5)+Mk.cnt b6)+1):Nat):Int) from rfl]
  have hfin:((Cr k0 i x1).set i (((((K:Nat):Int),((K+1:Nat):Int)),((K+2:Nat):Int),((K+3:Nat):Int),((K+4:Nat):Int),(Mk.mkd (K+5) b5),(Mk.mkd ((K+5)+Mk.cnt b5) b6),(decide ((((((K+5)+Mk.cnt b5)+Mk.cnt b6):Nat):Int).tmod 3=0))):Az))=Cr k0 (i+1) x1:=by
   have h9:=Jz (k:=k0) hu
   rw [hK] at h9;try simp only [EX,Cg,Ch,CB,Cw,CI,CJ,Et,← Nat.add_assoc] at h9
   try simp only [List.set_set]
   exact h9
  refine AS (M':=Af (⟨some ⟨g,0,none⟩,c1,e1,(Cr k0 (i+1) x1),y1⟩:TL Az)::_) (fun w h=>by rw [← hfin];exact h) ?_
  have hE:((((K+5)+Mk.cnt b5)+Mk.cnt b6)+1)=k0+CL (x1.take (i+1)):=by rw [hs];(try simp only [Cw,CI,CJ,Et]);omega
  rw [hE];refine s2 ?_;refine Be rfl rfl rfl (Bc iR) (s2 ?_);refine ⟨i+1,sb,ms,?_,?_⟩
  ·show i+1≤x1.length;omega
  show x1.length - (i+1) < x1.length - i;omega
 refine BF (s6 ?_)
 have hk2:x1.length≤i:=by simpa using q2
 rw [Jy k0 hk2];refine AE rfl (Ab rfl) ⟨?_,rfl⟩ ms
 have hk2:x1.length≤i:=by simpa using q2
 rw [List.take_of_length_le hk2];rfl
set_option maxHeartbeats 4000000 in
theorem VX (t1:TL Az) (k0:Nat) (hk0:0 < k0) (hb:k0+Mk.cnt t1 < 9223372036854775807) (h1:rd w [] (Mk.mkd k0 t1)):Sp 105 [(Mk.mkd k0 t1).hdr,.int .i64 (k0:Int)] w [] (IsV (.int .i64 ((k0+Mk.cnt t1:Nat):Int))):=by
 obtain ⟨a1,c1,e1,x1,y1⟩:=t1;replace hb:k0+CL x1 < 9223372036854775807:=hb
 have hml:=DQ x1 k0
 have hm1:(mks k0 x1).length≤9223372036854775807:=EQ h1
 rw [QV] at h1 ⊢;dsimp only [TL.hdr];refine Spec.intro func105 rfl ntmps105 rfl (s10 ?_);refine DO (σ:=Nat) 0 (fun (i:Nat)=>[(1,.int .i64 ((k0+CL (x1.take i):Nat):Int)),(5,.int .i64 (i:Int))]) (fun (i:Nat)=>[]) (fun (i:Nat)=>i≤x1.length) (fun (i:Nat)=>x1.length - i) [(0,_)] [] ?_ sb ms ?_
 ·exact Nat.zero_le _
 rintro i hi;refine kq [0,1,5] ?_;refine s5 ?_;refine CT rfl rfl Ct.h (s2 ?_);refine kp [0,1,5,9] ?_;refine Ai rfl (fun q2=>?_) (fun q2=>?_)
 ·have hk1:i < (mks k0 x1).length:=by simpa using q2
  obtain ⟨g,o1,rfl⟩:=DP h1 hk1;obtain ⟨u,hu⟩:=Eb (show i < x1.length by omega)
  have hs:=Dy hu
  have hle:=DY x1 (i+1)
  have hu2:=KR (k:=k0) hu
  obtain ⟨⟨b11,b12⟩,b2,b3,b4,b5,b6,b7⟩:=u;simp only [EX,Cg,Ch,CB,Cw,CI,CJ,Et,← Nat.add_assoc] at hs hu2;obtain ⟨K,hK⟩:∃ K:Nat,k0+CL (x1.take i)=K:=⟨_,rfl⟩;rw [hK] at hu2 ⊢;refine s8 ?_;refine AI rfl rfl rfl Ct.h rfl om (s2 ?_);refine AY (fo:=0) rfl rfl (by first | exact Ag mm | exact Br (Cells.el h1 rfl hu2)) AM.h rfl (s3 ?_);refine kp [0,1,5,19] ?_;refine Ai rfl (fun q4=>?_) (fun q4=>?_)
  ·refine s5 ?_;refine AE rfl (Ab rfl) ⟨?_,rfl⟩ ms
   exfalso;simp [Cg,Ch,CB] at q4
  refine s4 ?_;refine Be rfl rfl rfl (Bc iR) (s2 ?_);rw [show ((K:Nat):Int)+1=((K+1:Nat):Int) from rfl];refine s5 ?_;refine AI rfl rfl rfl Ct.h rfl om (s2 ?_);refine AY (fo:=1) rfl rfl (by first | exact Ag mm | exact Br (Cells.el h1 rfl hu2)) AM.h rfl (s3 ?_);refine kp [0,1,5,29] ?_;refine Ai rfl (fun q7=>?_) (fun q7=>?_)
  ·refine s5 ?_;refine AE rfl (Ab rfl) ⟨?_,rfl⟩ ms
   exfalso;simp [Cg,Ch,CB] at q7
  refine s4 ?_;refine Be rfl rfl rfl (Bc iR) (s2 ?_);rw [show ((K+1:Nat):Int)+1=(((K+1)+1:Nat):Int) from rfl];refine s5 ?_;refine AI rfl rfl rfl Ct.h rfl om (s1 ?_);refine AY rfl rfl (by first | exact Ag mm | exact Br (Cells.el h1 rfl hu2)) AM.h rfl (s3 ?_);refine kp [0,1,5,38] ?_;refine Ai rfl (fun a0=>?_) (fun a0=>?_)
  ·refine s5 ?_;refine AE rfl (Ab rfl) ⟨?_,rfl⟩ ms
   exfalso;simp [Cg,Ch,CB] at a0
  refine s4 ?_;refine Be rfl rfl rfl (Bc iR) (s2 ?_);rw [show ((((K+1)+1):Nat):Int)+1=((((K+1)+1)+1:Nat):Int) from rfl];refine s5 ?_;refine AI rfl rfl rfl Ct.h rfl om (s1 ?_);refine AY rfl rfl (by first | exact Ag mm | exact Br (Cells.el h1 rfl hu2)) AM.h rfl (s3 ?_);refine kp [0,1,5,47] ?_;refine Ai rfl (fun a2=>?_) (fun a2=>?_)
  ·refine s5 ?_;refine AE rfl (Ab rfl) ⟨?_,rfl⟩ ms
   exfalso;simp [Cg,Ch,CB] at a2
  refine s4 ?_;refine Be rfl rfl rfl (Bc iR) (s2 ?_);rw [show (((((K+1)+1)+1):Nat):Int)+1=(((((K+1)+1)+1)+1:Nat):Int) from rfl];refine s5 ?_;refine AI rfl rfl rfl Ct.h rfl om (s1 ?_);refine AY rfl rfl (by first | exact Ag mm | exact Br (Cells.el h1 rfl hu2)) AM.h rfl (s3 ?_);refine kp [0,1,5,56] ?_;refine Ai rfl (fun a3=>?_) (fun a3=>?_)
  ·refine s5 ?_;refine AE rfl (Ab rfl) ⟨?_,rfl⟩ ms
   exfalso;simp [Cg,Ch,CB] at a3
  refine s4 ?_;refine Be rfl rfl rfl (Bc iR) (s2 ?_);rw [show ((((((K+1)+1)+1)+1):Nat):Int)+1=((((((K+1)+1)+1)+1)+1:Nat):Int) from rfl];refine s4 ?_;refine AI rfl rfl rfl Ct.h rfl om (s1 ?_);refine AY rfl rfl (by first | exact Ag mm | exact Br (Cells.el h1 rfl hu2)) FZ.h rfl (s1 ?_);refine Bi rfl cT.h rfl (by exact fun w hw=>OX w b5 (((((K+1)+1)+1)+1)+1) om om (BG (show rd _ _ (Mk.mkd (((((K+1)+1)+1)+1)+1) b5) from by have h9:=h1.2.2.1 _ (List.mem_of_getElem? hu2);(try simp only [EX,Cg,Ch,CB,Cw,CI,CJ,Et,← Nat.add_assoc] at h9);exact h9.2.2.2.2.1) hw)) (s8 ?_);refine kp [0,1,5,67] ?_;refine Ai rfl (fun a4=>?_) (fun a4=>?_)
  ·refine s5 ?_;refine AE rfl (Ab rfl) ⟨?_,rfl⟩ ms
   exfalso;simp at a4;omega
  refine s5 ?_;refine AI rfl rfl rfl Ct.h rfl om (s1 ?_);refine AY rfl rfl (by first | exact Ag mm | exact Br (Cells.el h1 rfl hu2)) IM.h rfl (s1 ?_);refine Bi rfl rW.h rfl (by exact fun w hw=>Xb w b6 ((((((K+1)+1)+1)+1)+1)+Mk.cnt b5) om om (BG (show rd _ _ (Mk.mkd ((((((K+1)+1)+1)+1)+1)+Mk.cnt b5) b6) from by have h9:=h1.2.2.1 _ (List.mem_of_getElem? hu2);(try simp only [EX,Cg,Ch,CB,Cw,CI,CJ,Et,← Nat.add_assoc] at h9);exact h9.2.2.2.2.2.1) hw)) (s8 ?_);refine kp [0,1,5,76] ?_;refine Ai rfl (fun a5=>?_) (fun a5=>?_)
  ·refine s5 ?_;refine AE rfl (Ab rfl) ⟨?_,rfl⟩ ms
   exfalso;simp at a5;omega
  refine s6 ?_;refine AI rfl rfl rfl Ct.h rfl om (s1 ?_);refine AY rfl rfl (by first | exact Ag mm | exact Br (Cells.el h1 rfl hu2)) HH.h rfl (s1 ?_);refine Be rfl rfl rfl (MO om) (s3 ?_);refine kp [0,1,5,85] ?_;refine Ai rfl (fun a6=>?_) (fun a6=>?_)
  ·refine s5 ?_;refine AE rfl (Ab rfl) ⟨?_,rfl⟩ ms
   exfalso;simp [Cg,Ch,CB] at a6
  refine s3 ?_;refine Be rfl rfl rfl (Bc iR) (s2 ?_);rw [show (((((((((K+1)+1)+1)+1)+1)+Mk.cnt b5)+Mk.cnt b6):Nat):Int)+1=(((((((((K+1)+1)+1)+1)+1)+Mk.cnt b5)+Mk.cnt b6)+1:Nat):Int) from rfl]
  have hE:((((((((K+1)+1)+1)+1)+1)+Mk.cnt b5)+Mk.cnt b6)+1)=k0+CL (x1.take (i+1)):=by rw [hs];(try simp only [Cw,CI,CJ,Et]);omega
  rw [hE];refine s2 ?_;refine Be rfl rfl rfl (Bc iR) (s2 ?_);refine ⟨i+1,sb,ms,?_,?_⟩
  ·show i+1≤x1.length;omega
  show x1.length - (i+1) < x1.length - i;omega
 refine BF (s6 ?_);refine AE rfl (Ab rfl) ⟨?_,rfl⟩ ms
 have hk2:(mks k0 x1).length≤i:=by simpa using q2
 rw [List.take_of_length_le om];rfl
set_option maxHeartbeats 2000000
instance rX:FnF prog 101:=⟨_,func101,kr,rfl⟩
instance rY:FnF prog 102:=⟨_,func102,kr,rfl⟩
instance rZ:FnF prog 152:=⟨_,func152,kr,rfl⟩
instance sA:FnF prog 153:=⟨_,func153,kr,rfl⟩
instance tO:FnF prog 97:=⟨_,func97,kr,rfl⟩
instance sB:FnF prog 104:=⟨_,func104,kr,rfl⟩
instance sC:FnF prog 105:=⟨_,func105,kr,rfl⟩
theorem YZ (t1 t2:Ao) (h1:rd w [] t1) (h2:rd w [] t2):Sp 97 [.agg (cells t1).toArray,.agg (cells t2).toArray] w [] (IsV (.bool (eqB (dat t1) (dat t2)))):=by
 obtain ⟨a1,a2,a3,a4⟩:=t1;obtain ⟨b1,b2,b3,b4⟩:=t2;change Spec _ _ [Value.agg #[.int .i64 a1,.int .i64 a2,a3.hdr,a4.hdr],Value.agg #[.int .i64 b1,.int .i64 b2,b3.hdr,b4.hdr]].toArray w [] _;refine Spec.intro func97 rfl ntmps97 rfl (s2 ?_);refine bx fun a0=>?_;refine bx fun a5=>?_;refine s6 ?_;refine AY rfl rfl (by exact Ag mm) AM.h rfl (s1 ?_);refine AY rfl rfl (by exact Ag mm) AM.h rfl (s2 ?_);refine kp [2,3,9] ?_;refine Ai rfl (fun q1=>?_) (fun q1=>?_)
 ·refine s5 ?_;refine AE rfl (Ab rfl) ⟨?_,rfl⟩ ms;clear h1 h2;exact eqy
 refine s5 ?_;refine AY rfl rfl (by exact Ag mm) AM.h rfl (s1 ?_);refine AY rfl rfl (by exact Ag mm) AM.h rfl (s2 ?_);refine kp [2,3,14] ?_;refine Ai rfl (fun q3=>?_) (fun q3=>?_)
 ·refine s5 ?_;refine AE rfl (Ab rfl) ⟨?_,rfl⟩ ms;clear h1 h2;exact eqy
 refine s5 ?_;refine AY rfl rfl (by exact Ag mm) Rg.h rfl (s1 ?_);refine AY rfl rfl (by exact Ag mm) Rg.h rfl ?_;refine Bi rfl rZ.h rfl (by exact fun w hw=>YX w _ _ (BG (h1.2.2.1) hw) (BG (h2.2.2.1) hw)) (s2 ?_);refine kp [2,3,20] ?_;refine Ai rfl (fun q5=>?_) (fun q5=>?_)
 ·refine s5 ?_;refine AE rfl (Ab rfl) ⟨?_,rfl⟩ ms;clear h1 h2;exact eqy
 refine s5 ?_;refine AY rfl rfl (by exact Ag mm) Pl.h rfl (s1 ?_);refine AY rfl rfl (by exact Ag mm) Pl.h rfl ?_;refine Bi rfl sA.h rfl (by exact fun w hw=>YY w _ _ (BG (h1.2.2.2) hw) (BG (h2.2.2.2) hw)) (s2 ?_);refine kp [26] ?_;refine Ai rfl (fun q7=>?_) (fun q7=>?_)
 ·refine s5 ?_;refine AE rfl (Ab rfl) ⟨?_,rfl⟩ ms;clear h1 h2;exact eqy
 refine s6 ?_;refine AE rfl (Ab rfl) ⟨?_,rfl⟩ ms;clear h1 h2;exact eqy
theorem Xc (t1 t2:TL Ao) (h1:rd w [] t1) (h2:rd w [] t2):Sp 50 [t1.hdr,t2.hdr] w [] (IsV (.bool (eqB (dat t1) (dat t2)))):=by
 obtain ⟨a1,c1,e1,x1,y1⟩:=t1;obtain ⟨a2,c2,e2,x2,y2⟩:=t2
 have hm1:x1.length≤9223372036854775807:=EQ h1
 have hm2:x2.length≤9223372036854775807:=EQ h2
 dsimp only [TL.hdr];refine Spec.intro func50 rfl ntmps50 rfl (s8 ?_);refine CT rfl rfl Er.h (s1 ?_);refine CT rfl rfl Er.h (s2 ?_);refine kp [0,1,10] ?_;refine Ai rfl (fun q1=>?_) (fun q1=>?_)
 ·refine s5 ?_;refine AE rfl (Ab rfl) ⟨?_,rfl⟩ ms;refine congrArg Value.bool (Eq.symm (DT.2 fun e=>?_));simp at q1;exact q1 (by have:=congrArg List.length e;simp [Ln] at this;omega)
 have hl:x1.length=x2.length:=by simp at q1;omega
 refine s7 ?_;refine DO (σ:=Nat) 0 (fun (k:Nat)=>[(5,.int .i64 (k:Int))]) (fun (k:Nat)=>[]) (fun (k:Nat)=>k≤x1.length∧(x1.map dat).take k=(x2.map dat).take k) (fun (k:Nat)=>x1.length - k) [(0,_),(1,_)] [] ?_ sb ms ?_
 ·exact ⟨Nat.zero_le _,rfl⟩
 rintro k ⟨hk,ht⟩;refine kq [0,1,5] ?_;refine s5 ?_;refine CT rfl rfl Er.h (s2 ?_);refine kp [0,1,5,14] ?_;refine Ai rfl (fun q4=>?_) (fun q4=>?_)
 ·have hk1:k < x1.length:=by simpa using q4
  obtain ⟨g1,o1,rfl⟩:=DP h1 hk1;obtain ⟨g2,o2,rfl⟩:=DP (k:=k) h2 (show k < x2.length by omega);obtain ⟨u1,hu1⟩:=Eb hk1;obtain ⟨u2,hu2⟩:=Eb (show k < x2.length by omega);refine s4 ?_;refine BX [26] mix kr rfl (s2 ?_);refine Db _ Ar (Aj rfl) (Aj rfl) Er.h (fun hg=>⟨rfl,by (try dsimp only);omega⟩) ?_;refine Bq Ar (Aj rfl) (fun hg=>(by first | exact Ag mm | exact Br (Cells.el h1 rfl hu1) | exact Br (Cells.el h2 rfl hu2))) (by exact BC.h) (s2 ?_);refine Db _ Ar (Aj rfl) (Aj rfl) Er.h (fun hg=>⟨rfl,by (try dsimp only);omega⟩) ?_;refine Bq Ar (Aj rfl) (fun hg=>(by first | exact Ag mm | exact Br (Cells.el h1 rfl hu1) | exact Br (Cells.el h2 rfl hu2))) (by exact BC.h) ?_;refine AZ Ar tO.h (Ah (Aj rfl) (Ah (Aj rfl) (AF))) (by exact fun hg w F hF hM=>(fun w hw=>YZ w _ _ (BG (h1.2.2.1 _ (List.mem_of_getElem? hu1)) hw) (BG (h2.2.2.1 _ (List.mem_of_getElem? hu2)) hw)) w hF) (s13 ?_);refine kp [0,1,5,26] ?_;refine Ai rfl (fun q6=>?_) (fun q6=>?_)
  ·refine s5 ?_;refine AE rfl (Ab rfl) ⟨?_,rfl⟩ ms;refine congrArg Value.bool (Eq.symm (DT.2 fun e=>?_));simp at q6;replace e:x1.map dat=x2.map dat:=e
   have e2:=congrArg (fun l=>l[k]?) e
   simp only [List.getElem?_map,hu1,hu2,Option.map_some,Option.some.injEq] at e2;exact q6 (by simpa [DU,Ee,DD] using e2)
  refine s3 ?_;refine Be rfl rfl rfl (Bc iR) (s2 ?_);refine ⟨k+1,sb,ms,?_,?_⟩
  ·exact ⟨by omega,GE ht (by rw [List.getElem?_map,hu1];rfl) (by rw [List.getElem?_map,hu2];rfl) (by simpa [DU,Ee,DD] using q6)⟩
  (try dsimp only);omega
 refine BF (s5 ?_);refine AE rfl (Ab rfl) ⟨?_,rfl⟩ ms;refine congrArg Value.bool (Eq.symm (Fj.2 ?_))
 have hk2:x1.length≤k:=by simpa using q4
 have h3:=ht
 rw [List.take_of_length_le (by simp;omega),List.take_of_length_le (by simp;omega)] at h3;exact h3
theorem UY (t1:TL Ao) (k0:Nat) (hk0:0 < k0) (hb:k0+Mk.cnt t1 < 9223372036854775807):Sp 55 [t1.hdr,.int .i64 (k0:Int)] w [Af t1] (fun v M=>v=.int .i64 ((k0+Mk.cnt t1:Nat):Int)∧M=[Af (Mk.mkd k0 t1)]):=by
 obtain ⟨a1,c1,e1,x1,y1⟩:=t1;replace hb:k0+CL x1 < 9223372036854775807:=hb;dsimp only [TL.hdr];refine Spec.intro func55 rfl ntmps55 rfl ?_;refine Lp (fun w h=>II (h.prs _ (List.mem_cons_self ..))) fun hF=>?_;replace hF:x1.length≤9223372036854775807∧(0 < x1.length→∃ g,a1=some ⟨g,0,none⟩):=hF;refine s10 ?_;refine AS (M':=[Af (⟨a1,c1,e1,Cr k0 0 x1,y1⟩:TL Ao)]) (fun w h=>by rw [IC];exact h) ?_;refine DO (σ:=Nat) 0 (fun (i:Nat)=>[(1,.int .i64 ((k0+CL (x1.take i):Nat):Int)),(5,.int .i64 (i:Int))]) (fun (i:Nat)=>[Af (⟨a1,c1,e1,Cr k0 i x1,y1⟩:TL Ao)]) (fun (i:Nat)=>i≤x1.length) (fun (i:Nat)=>x1.length - i) [(0,_)] [] ?_ sb ms ?_
 ·exact Nat.zero_le _
 rintro i hi;refine kq [0,1,5] ?_;refine s5 ?_;refine CT rfl rfl Er.h (s2 ?_);refine kp [0,1,5,9] ?_;refine Ai rfl (fun q2=>?_) (fun q2=>?_)
 ·have hk1:i < x1.length:=by simpa using q2
  obtain ⟨g,rfl⟩:=hF.2 om;obtain ⟨u,hu⟩:=Eb hk1
  have hs:=Dy hu
  have hle:=DY x1 (i+1)
  have hlh:=Hk k0 i x1
  obtain ⟨b1,b2,b3,b4⟩:=u;simp only [Cw,CI,CJ] at hs;obtain ⟨K,hK⟩:∃ K:Nat,k0+CL (x1.take i)=K:=⟨_,rfl⟩;rw [hK];rw [← MD (CW (k:=k0) hu)];refine s8 ?_;refine AI rfl rfl rfl Er.h rfl om (s1 ?_);refine BN (fo:=0) (x':=((((K:Nat):Int),b2,b3,b4):Ao)) rfl rfl pk rfl om (fun w h=>by exact ⟨(by exact trivial),h.2.1,h.2.2.1,h.2.2.2⟩) AM.h (s4 ?_);refine Be rfl rfl rfl (Bc iR) (s2 ?_);rw [show ((K:Nat):Int)+1=((K+1:Nat):Int) from rfl];refine s5 ?_;refine AI rfl rfl rfl Er.h rfl om (s1 ?_);refine BN (fo:=1) (x':=((((K:Nat):Int),((K+1:Nat):Int),b3,b4):Ao)) rfl rfl pk rfl om (fun w h=>by exact ⟨h.1,(by exact trivial),h.2.2.1,h.2.2.2⟩) AM.h (s4 ?_);refine Be rfl rfl rfl (Bc iR) (s2 ?_);rw [show ((K+1:Nat):Int)+1=((K+2:Nat):Int) from rfl];refine s4 ?_;refine AI rfl rfl rfl Er.h rfl om (s1 ?_);refine AY rfl rfl (by exact Lj (L:=(⟨some ⟨g,0,none⟩,c1,e1,((Cr k0 i x1).set i ((((K:Nat):Int),((K+1:Nat):Int),b3,b4):Ao)),y1⟩:TL Ao)) mm rfl (DW (CW (k:=k0) hu))) Rg.h rfl (s1 ?_);refine AA (fun w h=>(Bx (Bt (Pick.there _ (Pick.here _)) (Bx (Bt (Pick.there _ (Pick.here _)) (Bx (Lo (L:=(⟨some ⟨g,0,none⟩,c1,e1,((Cr k0 i x1).set i ((((K:Nat):Int),((K+1:Nat):Int),b3,b4):Ao)),y1⟩:TL Ao)) (DW (CW (k:=k0) hu)) (Bt pk h)))))))) ?_;refine Hr rfl rX.h rfl (Pick.here _) (by exact fun w hw=>VU w b3 (K+2) om om) ?_;rintro v M1 ⟨hv,rfl⟩;subst hv;simp only [List.cons_append,List.nil_append];refine AA (M':=Af (⟨some ⟨g,0,none⟩,c1,e1,(((Cr k0 i x1).set i ((((K:Nat):Int),((K+1:Nat):Int),b3,b4):Ao)).set i ((((K:Nat):Int),((K+1:Nat):Int),(Mk.mkd (K+2) b3),b4):Ao)),y1⟩:TL Ao)::_) (fun w h=>NG (L:=(⟨some ⟨g,0,none⟩,c1,e1,((Cr k0 i x1).set i ((((K:Nat):Int),((K+1:Nat):Int),b3,b4):Ao)),y1⟩:TL Ao)) (DW (CW (k:=k0) hu)) (by simp only [CA,Gy]) (BS (Pick.here _) (BS (Pick.here _) (ID (Pick.here _) h)))) ?_;rw [List.set_set];refine s5 ?_;refine AI rfl rfl rfl Er.h rfl om (s1 ?_);refine AY rfl rfl (by exact Lj (L:=(⟨some ⟨g,0,none⟩,c1,e1,((Cr k0 i x1).set i ((((K:Nat):Int),((K+1:Nat):Int),(Mk.mkd (K+2) b3),b4):Ao)),y1⟩:TL Ao)) mm rfl (DW (CW (k:=k0) hu))) Pl.h rfl (s1 ?_);refine AA (fun w h=>(Bt (Pick.there _ (Pick.here _)) (Bx (Bt (Pick.there _ (Pick.here _)) (Bx (Bt (Pick.there _ (Pick.here _)) (Bx (Lo (L:=(⟨some ⟨g,0,none⟩,c1,e1,((Cr k0 i x1).set i ((((K:Nat):Int),((K+1:Nat):Int),(Mk.mkd (K+2) b3),b4):Ao)),y1⟩:TL Ao)) (DW (CW (k:=k0) hu)) (Bt pk h))))))))) ?_;refine Hr rfl rY.h rfl (Pick.here _) (by exact fun w hw=>VW w b4 ((K+2)+Mk.cnt b3) om om) ?_;rintro v M1 ⟨hv,rfl⟩;subst hv;simp only [List.cons_append,List.nil_append];refine AA (M':=Af (⟨some ⟨g,0,none⟩,c1,e1,(((Cr k0 i x1).set i ((((K:Nat):Int),((K+1:Nat):Int),(Mk.mkd (K+2) b3),b4):Ao)).set i ((((K:Nat):Int),((K+1:Nat):Int),(Mk.mkd (K+2) b3),(Mk.mkd ((K+2)+Mk.cnt b3) b4)):Ao)),y1⟩:TL Ao)::_) (fun w h=>NG (L:=(⟨some ⟨g,0,none⟩,c1,e1,((Cr k0 i x1).set i ((((K:Nat):Int),((K+1:Nat):Int),(Mk.mkd (K+2) b3),b4):Ao)),y1⟩:TL Ao)) (DW (CW (k:=k0) hu)) (by simp only [CA,Gy]) (BS (Pick.here _) (BS (Pick.here _) (BS (Pick.here _) h)))) ?_;rw [List.set_set];refine s2 ?_
  have hfin:((Cr k0 i x1).set i ((((K:Nat):Int),((K+1:Nat):Int),(Mk.mkd (K+2) b3),(Mk.mkd ((K+2)+Mk.cnt b3) b4)):Ao))=Cr k0 (i+1) x1:=by
   have h9:=Jz (k:=k0) hu
   rw [hK] at h9;try simp only [EX,Cg,Ch,Cw,CI,CJ,← Nat.add_assoc] at h9
   try simp only [List.set_set]
   exact h9
  refine AS (M':=Af (⟨some ⟨g,0,none⟩,c1,e1,(Cr k0 (i+1) x1),y1⟩:TL Ao)::_) (fun w h=>by rw [← hfin];exact h) ?_
  have hE:(((K+2)+Mk.cnt b3)+Mk.cnt b4)=k0+CL (x1.take (i+1)):=by rw [hs];(try simp only [Cw,CI,CJ]);omega
  rw [hE];refine s2 ?_;refine Be rfl rfl rfl (Bc iR) (s2 ?_);refine ⟨i+1,sb,ms,?_,?_⟩
  ·show i+1≤x1.length;omega
  show x1.length - (i+1) < x1.length - i;omega
 refine BF (s6 ?_)
 have hk2:x1.length≤i:=by simpa using q2
 rw [Jy k0 hk2];refine AE rfl (Ab rfl) ⟨?_,rfl⟩ ms
 have hk2:x1.length≤i:=by simpa using q2
 rw [List.take_of_length_le hk2];rfl
theorem UZ (t1:TL Ao) (k0:Nat) (hk0:0 < k0) (hb:k0+Mk.cnt t1 < 9223372036854775807) (h1:rd w [] (Mk.mkd k0 t1)):Sp 57 [(Mk.mkd k0 t1).hdr,.int .i64 (k0:Int)] w [] (IsV (.int .i64 ((k0+Mk.cnt t1:Nat):Int))):=by
 obtain ⟨a1,c1,e1,x1,y1⟩:=t1;replace hb:k0+CL x1 < 9223372036854775807:=hb
 have hml:=DQ x1 k0
 have hm1:(mks k0 x1).length≤9223372036854775807:=EQ h1
 rw [QV] at h1 ⊢;dsimp only [TL.hdr];refine Spec.intro func57 rfl ntmps57 rfl (s10 ?_);refine DO (σ:=Nat) 0 (fun (i:Nat)=>[(1,.int .i64 ((k0+CL (x1.take i):Nat):Int)),(5,.int .i64 (i:Int))]) (fun (i:Nat)=>[]) (fun (i:Nat)=>i≤x1.length) (fun (i:Nat)=>x1.length - i) [(0,_)] [] ?_ sb ms ?_
 ·exact Nat.zero_le _
 rintro i hi;refine kq [0,1,5] ?_;refine s5 ?_;refine CT rfl rfl Er.h (s2 ?_);refine kp [0,1,5,9] ?_;refine Ai rfl (fun q2=>?_) (fun q2=>?_)
 ·have hk1:i < (mks k0 x1).length:=by simpa using q2
  obtain ⟨g,o1,rfl⟩:=DP h1 hk1;obtain ⟨u,hu⟩:=Eb (show i < x1.length by omega)
  have hs:=Dy hu
  have hle:=DY x1 (i+1)
  have hu2:=KR (k:=k0) hu
  obtain ⟨b1,b2,b3,b4⟩:=u;simp only [EX,Cg,Ch,Cw,CI,CJ,← Nat.add_assoc] at hs hu2;obtain ⟨K,hK⟩:∃ K:Nat,k0+CL (x1.take i)=K:=⟨_,rfl⟩;rw [hK] at hu2 ⊢;refine s8 ?_;refine AI rfl rfl rfl Er.h rfl om (s1 ?_);refine AY rfl rfl (by first | exact Ag mm | exact Br (Cells.el h1 rfl hu2)) AM.h rfl (s3 ?_);refine kp [0,1,5,18] ?_;refine Ai rfl (fun q4=>?_) (fun q4=>?_)
  ·refine s5 ?_;refine AE rfl (Ab rfl) ⟨?_,rfl⟩ ms
   exfalso;simp [Cg,Ch] at q4
  refine s4 ?_;refine Be rfl rfl rfl (Bc iR) (s2 ?_);rw [show ((K:Nat):Int)+1=((K+1:Nat):Int) from rfl];refine s5 ?_;refine AI rfl rfl rfl Er.h rfl om (s1 ?_);refine AY rfl rfl (by first | exact Ag mm | exact Br (Cells.el h1 rfl hu2)) AM.h rfl (s3 ?_);refine kp [0,1,5,27] ?_;refine Ai rfl (fun q7=>?_) (fun q7=>?_)
  ·refine s5 ?_;refine AE rfl (Ab rfl) ⟨?_,rfl⟩ ms
   exfalso;simp [Cg,Ch] at q7
  refine s4 ?_;refine Be rfl rfl rfl (Bc iR) (s2 ?_);rw [show ((K+1:Nat):Int)+1=(((K+1)+1:Nat):Int) from rfl];refine s4 ?_;refine AI rfl rfl rfl Er.h rfl om (s1 ?_);refine AY rfl rfl (by first | exact Ag mm | exact Br (Cells.el h1 rfl hu2)) Rg.h rfl (s1 ?_);refine Bi rfl sB.h rfl (by exact fun w hw=>VV w b3 ((K+1)+1) om om (BG (show rd _ _ (Mk.mkd ((K+1)+1) b3) from by have h9:=h1.2.2.1 _ (List.mem_of_getElem? hu2);(try simp only [EX,Cg,Ch,Cw,CI,CJ,← Nat.add_assoc] at h9);exact h9.2.2.1) hw)) (s8 ?_);refine kp [0,1,5,38] ?_;refine Ai rfl (fun a0=>?_) (fun a0=>?_)
  ·refine s5 ?_;refine AE rfl (Ab rfl) ⟨?_,rfl⟩ ms
   exfalso;simp at a0;omega
  refine s5 ?_;refine AI rfl rfl rfl Er.h rfl om (s1 ?_);refine AY rfl rfl (by first | exact Ag mm | exact Br (Cells.el h1 rfl hu2)) Pl.h rfl (s1 ?_);refine Bi rfl sC.h rfl (by exact fun w hw=>VX w b4 (((K+1)+1)+Mk.cnt b3) om om (BG (show rd _ _ (Mk.mkd (((K+1)+1)+Mk.cnt b3) b4) from by have h9:=h1.2.2.1 _ (List.mem_of_getElem? hu2);(try simp only [EX,Cg,Ch,Cw,CI,CJ,← Nat.add_assoc] at h9);exact h9.2.2.2) hw)) (s7 ?_);refine kp [0,1,5,47] ?_;refine Ai rfl (fun a2=>?_) (fun a2=>?_)
  ·refine s5 ?_;refine AE rfl (Ab rfl) ⟨?_,rfl⟩ ms
   exfalso;simp at a2;omega
  refine s1 ?_
  have hE:((((K+1)+1)+Mk.cnt b3)+Mk.cnt b4)=k0+CL (x1.take (i+1)):=by rw [hs];(try simp only [Cw,CI,CJ]);omega
  rw [hE];refine s2 ?_;refine Be rfl rfl rfl (Bc iR) (s2 ?_);refine ⟨i+1,sb,ms,?_,?_⟩
  ·show i+1≤x1.length;omega
  show x1.length - (i+1) < x1.length - i;omega
 refine BF (s6 ?_);refine AE rfl (Ab rfl) ⟨?_,rfl⟩ ms
 have hk2:(mks k0 x1).length≤i:=by simpa using q2
 rw [List.take_of_length_le om];rfl
set_option maxHeartbeats 2000000
instance tP:FnF prog 98:=⟨_,func98,kr,rfl⟩
theorem ZC (t1 t2:Ak) (h1:rd w [] t1) (h2:rd w [] t2):Sp 98 [.agg (cells t1).toArray,.agg (cells t2).toArray] w [] (IsV (.bool (eqB (dat t1) (dat t2)))):=by
 obtain ⟨a1,a2,a3,⟨a0,a4⟩,a5,⟨a6,aa,ab,ac,ad,ae,af,ag⟩,a7,a8,a9,ah,ai⟩:=t1;obtain ⟨b1,b2,b3,⟨b41,b42⟩,b5,⟨b61,b62,b63,b64,b65,b66,b67,b68⟩,b7,b8,b9,b10,b11⟩:=t2;change Spec _ _ [Value.agg #[.int .i64 a1,.int .i64 a2,.int .i64 a3,.int .i64 a0,.int .i64 a4,.int .i64 a5,.int .i64 a6,.int .i64 aa,.int .i64 ab,.string ac,.string ad,.string ae,.int .i64 af,ag.hdr,.int .i64 a7,a8.hdr,.int .i64 a9,.int .i64 ah,.bool ai],Value.agg #[.int .i64 b1,.int .i64 b2,.int .i64 b3,.int .i64 b41,.int .i64 b42,.int .i64 b5,.int .i64 b61,.int .i64 b62,.int .i64 b63,.string b64,.string b65,.string b66,.int .i64 b67,b68.hdr,.int .i64 b7,b8.hdr,.int .i64 b9,.int .i64 b10,.bool b11]].toArray w [] _;refine Spec.intro func98 rfl ntmps98 rfl (s2 ?_);refine bx fun aq=>?_;refine bx fun ar=>?_;refine s6 ?_;refine AY rfl rfl (by exact Ag mm) AM.h rfl (s1 ?_);refine AY rfl rfl (by exact Ag mm) AM.h rfl (s2 ?_);refine kp [2,3,9] ?_;refine Ai rfl (fun q1=>?_) (fun q1=>?_)
 ·refine s5 ?_;refine AE rfl (Ab rfl) ⟨?_,rfl⟩ ms;clear h1 h2;exact eqx
 refine s5 ?_;refine AY rfl rfl (by exact Ag mm) AM.h rfl (s1 ?_);refine AY rfl rfl (by exact Ag mm) AM.h rfl (s2 ?_);refine kp [2,3,14] ?_;refine Ai rfl (fun q3=>?_) (fun q3=>?_)
 ·refine s5 ?_;refine AE rfl (Ab rfl) ⟨?_,rfl⟩ ms;clear h1 h2;exact eqx
 refine s5 ?_;refine AY rfl rfl (by exact Ag mm) AM.h rfl (s1 ?_);refine AY rfl rfl (by exact Ag mm) AM.h rfl (s2 ?_);refine kp [2,3,19] ?_;refine Ai rfl (fun q5=>?_) (fun q5=>?_)
 ·refine s5 ?_;refine AE rfl (Ab rfl) ⟨?_,rfl⟩ ms;clear h1 h2;exact eqx
 refine s5 ?_;refine AW rfl rfl (AT (by exact Ag mm) 3 2 rfl) (by exact Bp.h) (s1 ?_);refine AW rfl rfl (AT (by exact Ag mm) 3 2 rfl) (by exact Bp.h) ?_;refine Bi rfl YW.h rfl (by exact fun w hw=>Nn w (a0,a4) (b41,b42) (BG (h1.2.2.2.1) hw) (BG (h2.2.2.2.1) hw)) (s2 ?_);refine kp [2,3,25] ?_;refine Ai rfl (fun q7=>?_) (fun q7=>?_)
 ·refine s5 ?_;refine AE rfl (Ab rfl) ⟨?_,rfl⟩ ms;clear h1 h2;exact eqx
 refine s5 ?_;refine AY rfl rfl (by exact Ag mm) AM.h rfl (s1 ?_);refine AY rfl rfl (by exact Ag mm) AM.h rfl (s2 ?_);refine kp [2,3,30] ?_;refine Ai rfl (fun q9=>?_) (fun q9=>?_)
 ·refine s5 ?_;refine AE rfl (Ab rfl) ⟨?_,rfl⟩ ms;clear h1 h2;exact eqx
 refine s5 ?_;refine AW rfl rfl (AT (by exact Ag mm) 6 8 rfl) (by exact CS.h) (s1 ?_);refine AW rfl rfl (AT (by exact Ag mm) 6 8 rfl) (by exact CS.h) ?_;refine Bi rfl cR.h rfl (by exact fun w hw=>RK w (a6,aa,ab,ac,ad,ae,af,ag) (b61,b62,b63,b64,b65,b66,b67,b68) (BG (h1.2.2.2.2.2.1) hw) (BG (h2.2.2.2.2.2.1) hw)) (s2 ?_);refine kp [2,3,36] ?_;refine Ai rfl (fun aj=>?_) (fun aj=>?_)
 ·refine s5 ?_;refine AE rfl (Ab rfl) ⟨?_,rfl⟩ ms;clear h1 h2;exact eqx
 refine s5 ?_;refine AY rfl rfl (by exact Ag mm) AM.h rfl (s1 ?_);refine AY rfl rfl (by exact Ag mm) AM.h rfl (s2 ?_);refine kp [2,3,41] ?_;refine Ai rfl (fun ak=>?_) (fun ak=>?_)
 ·refine s5 ?_;refine AE rfl (Ab rfl) ⟨?_,rfl⟩ ms;clear h1 h2;exact eqx
 refine s5 ?_;refine AY rfl rfl (by exact Ag mm) FZ.h rfl (s1 ?_);refine AY rfl rfl (by exact Ag mm) FZ.h rfl ?_;refine Bi rfl cS.h rfl (by exact fun w hw=>RJ w _ _ (BG (h1.2.2.2.2.2.2.2.1) hw) (BG (h2.2.2.2.2.2.2.2.1) hw)) (s2 ?_);refine kp [2,3,47] ?_;refine Ai rfl (fun am=>?_) (fun am=>?_)
 ·refine s5 ?_;refine AE rfl (Ab rfl) ⟨?_,rfl⟩ ms;clear h1 h2;exact eqx
 refine s5 ?_;refine AY rfl rfl (by exact Ag mm) AM.h rfl (s1 ?_);refine AY rfl rfl (by exact Ag mm) AM.h rfl (s2 ?_);refine kp [2,3,52] ?_;refine Ai rfl (fun an=>?_) (fun an=>?_)
 ·refine s5 ?_;refine AE rfl (Ab rfl) ⟨?_,rfl⟩ ms;clear h1 h2;exact eqx
 refine s5 ?_;refine AY rfl rfl (by exact Ag mm) AM.h rfl (s1 ?_);refine AY rfl rfl (by exact Ag mm) AM.h rfl (s2 ?_);refine kp [2,3,57] ?_;refine Ai rfl (fun ao=>?_) (fun ao=>?_)
 ·refine s5 ?_;refine AE rfl (Ab rfl) ⟨?_,rfl⟩ ms;clear h1 h2;exact eqx
 refine s5 ?_;refine AY rfl rfl (by exact Ag mm) HH.h rfl (s1 ?_);refine AY rfl rfl (by exact Ag mm) HH.h rfl (s2 ?_);refine kp [62] ?_;refine Ai rfl (fun ap=>?_) (fun ap=>?_)
 ·refine s5 ?_;refine AE rfl (Ab rfl) ⟨?_,rfl⟩ ms;clear h1 h2;exact eqx
 refine s6 ?_;refine AE rfl (Ab rfl) ⟨?_,rfl⟩ ms;clear h1 h2;exact eqx
theorem Za (t1 t2:TL Ak) (h1:rd w [] t1) (h2:rd w [] t2):Sp 51 [t1.hdr,t2.hdr] w [] (IsV (.bool (eqB (dat t1) (dat t2)))):=by
 obtain ⟨a1,c1,e1,x1,y1⟩:=t1;obtain ⟨a2,c2,e2,x2,y2⟩:=t2
 have hm1:x1.length≤9223372036854775807:=EQ h1
 have hm2:x2.length≤9223372036854775807:=EQ h2
 dsimp only [TL.hdr];refine Spec.intro func51 rfl ntmps51 rfl (s8 ?_);refine CT rfl rfl BO.h (s1 ?_);refine CT rfl rfl BO.h (s2 ?_);refine kp [0,1,10] ?_;refine Ai rfl (fun q1=>?_) (fun q1=>?_)
 ·refine s5 ?_;refine AE rfl (Ab rfl) ⟨?_,rfl⟩ ms;refine congrArg Value.bool (Eq.symm (DT.2 fun e=>?_));simp at q1;exact q1 (by have:=congrArg List.length e;simp [Ln] at this;omega)
 have hl:x1.length=x2.length:=by simp at q1;omega
 refine s7 ?_;refine DO (σ:=Nat) 0 (fun (k:Nat)=>[(5,.int .i64 (k:Int))]) (fun (k:Nat)=>[]) (fun (k:Nat)=>k≤x1.length∧(x1.map dat).take k=(x2.map dat).take k) (fun (k:Nat)=>x1.length - k) [(0,_),(1,_)] [] ?_ sb ms ?_
 ·exact ⟨Nat.zero_le _,rfl⟩
 rintro k ⟨hk,ht⟩;refine kq [0,1,5] ?_;refine s5 ?_;refine CT rfl rfl BO.h (s2 ?_);refine kp [0,1,5,14] ?_;refine Ai rfl (fun q4=>?_) (fun q4=>?_)
 ·have hk1:k < x1.length:=by simpa using q4
  obtain ⟨g1,o1,rfl⟩:=DP h1 hk1;obtain ⟨g2,o2,rfl⟩:=DP (k:=k) h2 (show k < x2.length by omega);obtain ⟨u1,hu1⟩:=Eb hk1;obtain ⟨u2,hu2⟩:=Eb (show k < x2.length by omega);refine s4 ?_;refine BX [26] mix kr rfl (s2 ?_);refine Db _ Ar (Aj rfl) (Aj rfl) BO.h (fun hg=>⟨rfl,by (try dsimp only);omega⟩) ?_;refine Bq Ar (Aj rfl) (fun hg=>(by first | exact Ag mm | exact Br (Cells.el h1 rfl hu1) | exact Br (Cells.el h2 rfl hu2))) (by exact Ep.h) (s2 ?_);refine Db _ Ar (Aj rfl) (Aj rfl) BO.h (fun hg=>⟨rfl,by (try dsimp only);omega⟩) ?_;refine Bq Ar (Aj rfl) (fun hg=>(by first | exact Ag mm | exact Br (Cells.el h1 rfl hu1) | exact Br (Cells.el h2 rfl hu2))) (by exact Ep.h) ?_;refine AZ Ar tP.h (Ah (Aj rfl) (Ah (Aj rfl) (AF))) (by exact fun hg w F hF hM=>(fun w hw=>ZC w _ _ (BG (h1.2.2.1 _ (List.mem_of_getElem? hu1)) hw) (BG (h2.2.2.1 _ (List.mem_of_getElem? hu2)) hw)) w hF) (s13 ?_);refine kp [0,1,5,26] ?_;refine Ai rfl (fun q6=>?_) (fun q6=>?_)
  ·refine s5 ?_;refine AE rfl (Ab rfl) ⟨?_,rfl⟩ ms;refine congrArg Value.bool (Eq.symm (DT.2 fun e=>?_));simp at q6;replace e:x1.map dat=x2.map dat:=e
   have e2:=congrArg (fun l=>l[k]?) e
   simp only [List.getElem?_map,hu1,hu2,Option.map_some,Option.some.injEq] at e2;exact q6 (by simpa [DU,Ee,DD] using e2)
  refine s3 ?_;refine Be rfl rfl rfl (Bc iR) (s2 ?_);refine ⟨k+1,sb,ms,?_,?_⟩
  ·exact ⟨by omega,GE ht (by rw [List.getElem?_map,hu1];rfl) (by rw [List.getElem?_map,hu2];rfl) (by simpa [DU,Ee,DD] using q6)⟩
  (try dsimp only);omega
 refine BF (s5 ?_);refine AE rfl (Ab rfl) ⟨?_,rfl⟩ ms;refine congrArg Value.bool (Eq.symm (Fj.2 ?_))
 have hk2:x1.length≤k:=by simpa using q4
 have h3:=ht
 rw [List.take_of_length_le (by simp;omega),List.take_of_length_le (by simp;omega)] at h3;exact h3
set_option maxHeartbeats 4000000 in
theorem VY (t1:TL Ak) (k0:Nat) (hk0:0 < k0) (hb:k0+Mk.cnt t1 < 9223372036854775807):Sp 56 [t1.hdr,.int .i64 (k0:Int)] w [Af t1] (fun v M=>v=.int .i64 ((k0+Mk.cnt t1:Nat):Int)∧M=[Af (Mk.mkd k0 t1)]):=by
 obtain ⟨a1,c1,e1,x1,y1⟩:=t1;replace hb:k0+CL x1 < 9223372036854775807:=hb;dsimp only [TL.hdr];refine Spec.intro func56 rfl ntmps56 rfl ?_;refine Lp (fun w h=>II (h.prs _ (List.mem_cons_self ..))) fun hF=>?_;replace hF:x1.length≤9223372036854775807∧(0 < x1.length→∃ g,a1=some ⟨g,0,none⟩):=hF;refine s10 ?_;refine AS (M':=[Af (⟨a1,c1,e1,Cr k0 0 x1,y1⟩:TL Ak)]) (fun w h=>by rw [IC];exact h) ?_;refine DO (σ:=Nat) 0 (fun (i:Nat)=>[(1,.int .i64 ((k0+CL (x1.take i):Nat):Int)),(5,.int .i64 (i:Int))]) (fun (i:Nat)=>[Af (⟨a1,c1,e1,Cr k0 i x1,y1⟩:TL Ak)]) (fun (i:Nat)=>i≤x1.length) (fun (i:Nat)=>x1.length - i) [(0,_)] [] ?_ sb ms ?_
 ·exact Nat.zero_le _
 rintro i hi;refine kq [0,1,5] ?_;refine s5 ?_;refine CT rfl rfl BO.h (s2 ?_);refine kp [0,1,5,9] ?_;refine Ai rfl (fun q2=>?_) (fun q2=>?_)
 ·have hk1:i < x1.length:=by simpa using q2
  obtain ⟨g,rfl⟩:=hF.2 om;obtain ⟨u,hu⟩:=Eb hk1
  have hs:=Dy hu
  have hle:=DY x1 (i+1)
  have hlh:=Hk k0 i x1
  obtain ⟨b1,b2,b3,⟨b41,b42⟩,b5,⟨b61,b62,b63,b64,b65,b66,b67,b68⟩,b7,b8,b9,b10,b11⟩:=u;simp only [Cw,CI,CJ,Et] at hs;obtain ⟨K,hK⟩:∃ K:Nat,k0+CL (x1.take i)=K:=⟨_,rfl⟩;rw [hK];rw [← MD (CW (k:=k0) hu)];refine s8 ?_;refine AI rfl rfl rfl BO.h rfl om (s1 ?_);refine BN (fo:=0) (x':=((((K:Nat):Int),b2,b3,(b41,b42),b5,(b61,b62,b63,b64,b65,b66,b67,b68),b7,b8,b9,b10,b11):Ak)) rfl rfl pk rfl om (fun w h=>by exact ⟨(by exact trivial),h.2.1,h.2.2.1,⟨h.2.2.2.1.1,h.2.2.2.1.2⟩,h.2.2.2.2.1,⟨h.2.2.2.2.2.1.1,h.2.2.2.2.2.1.2.1,h.2.2.2.2.2.1.2.2.1,h.2.2.2.2.2.1.2.2.2.1,h.2.2.2.2.2.1.2.2.2.2.1,h.2.2.2.2.2.1.2.2.2.2.2.1,h.2.2.2.2.2.1.2.2.2.2.2.2.1,h.2.2.2.2.2.1.2.2.2.2.2.2.2⟩,h.2.2.2.2.2.2.1,h.2.2.2.2.2.2.2.1,h.2.2.2.2.2.2.2.2.1,h.2.2.2.2.2.2.2.2.2.1,h.2.2.2.2.2.2.2.2.2.2⟩) AM.h (s4 ?_);refine Be rfl rfl rfl (Bc iR) (s2 ?_);rw [show ((K:Nat):Int)+1=((K+1:Nat):Int) from rfl];refine s5 ?_;refine AI rfl rfl rfl BO.h rfl om (s1 ?_);refine BN (fo:=1) (x':=((((K:Nat):Int),((K+1:Nat):Int),b3,(b41,b42),b5,(b61,b62,b63,b64,b65,b66,b67,b68),b7,b8,b9,b10,b11):Ak)) rfl rfl pk rfl om (fun w h=>by exact ⟨h.1,(by exact trivial),h.2.2.1,⟨h.2.2.2.1.1,h.2.2.2.1.2⟩,h.2.2.2.2.1,⟨h.2.2.2.2.2.1.1,h.2.2.2.2.2.1.2.1,h.2.2.2.2.2.1.2.2.1,h.2.2.2.2.2.1.2.2.2.1,h.2.2.2.2.2.1.2.2.2.2.1,h.2.2.2.2.2.1.2.2.2.2.2.1,h.2.2.2.2.2.1.2.2.2.2.2.2.1,h.2.2.2.2.2.1.2.2.2.2.2.2.2⟩,h.2.2.2.2.2.2.1,h.2.2.2.2.2.2.2.1,h.2.2.2.2.2.2.2.2.1,h.2.2.2.2.2.2.2.2.2.1,h.2.2.2.2.2.2.2.2.2.2⟩) AM.h (s4 ?_);refine Be rfl rfl rfl (Bc iR) (s2 ?_);rw [show ((K+1:Nat):Int)+1=((K+2:Nat):Int) from rfl];refine s5 ?_;refine AI rfl rfl rfl BO.h rfl om (s1 ?_);refine BN (fo:=2) (x':=((((K:Nat):Int),((K+1:Nat):Int),((K+2:Nat):Int),(b41,b42),b5,(b61,b62,b63,b64,b65,b66,b67,b68),b7,b8,b9,b10,b11):Ak)) rfl rfl pk rfl om (fun w h=>by exact ⟨h.1,h.2.1,(by exact trivial),⟨h.2.2.2.1.1,h.2.2.2.1.2⟩,h.2.2.2.2.1,⟨h.2.2.2.2.2.1.1,h.2.2.2.2.2.1.2.1,h.2.2.2.2.2.1.2.2.1,h.2.2.2.2.2.1.2.2.2.1,h.2.2.2.2.2.1.2.2.2.2.1,h.2.2.2.2.2.1.2.2.2.2.2.1,h.2.2.2.2.2.1.2.2.2.2.2.2.1,h.2.2.2.2.2.1.2.2.2.2.2.2.2⟩,h.2.2.2.2.2.2.1,h.2.2.2.2.2.2.2.1,h.2.2.2.2.2.2.2.2.1,h.2.2.2.2.2.2.2.2.2.1,h.2.2.2.2.2.2.2.2.2.2⟩) AM.h (s4 ?_);refine Be rfl rfl rfl (Bc iR) (s2 ?_);rw [show ((K+2:Nat):Int)+1=((K+3:Nat):Int) from rfl];refine s5 ?_;refine AI rfl rfl rfl BO.h rfl om (s2 ?_);refine BN (fo:=3) (x':=((((K:Nat):Int),((K+1:Nat):Int),((K+2:Nat):Int),(((K+3:Nat):Int),b42),b5,(b61,b62,b63,b64,b65,b66,b67,b68),b7,b8,b9,b10,b11):Ak)) rfl rfl pk rfl om (fun w h=>by exact ⟨h.1,h.2.1,h.2.2.1,⟨(by exact trivial),h.2.2.2.1.2⟩,h.2.2.2.2.1,⟨h.2.2.2.2.2.1.1,h.2.2.2.2.2.1.2.1,h.2.2.2.2.2.1.2.2.1,h.2.2.2.2.2.1.2.2.2.1,h.2.2.2.2.2.1.2.2.2.2.1,h.2.2.2.2.2.1.2.2.2.2.2.1,h.2.2.2.2.2.1.2.2.2.2.2.2.1,h.2.2.2.2.2.1.2.2.2.2.2.2.2⟩,h.2.2.2.2.2.2.1,h.2.2.2.2.2.2.2.1,h.2.2.2.2.2.2.2.2.1,h.2.2.2.2.2.2.2.2.2.1,h.2.2.2.2.2.2.2.2.2.2⟩) AM.h (s4 ?_);refine Be rfl rfl rfl (Bc iR) (s2 ?_);rw [show ((K+3:Nat):Int)+1=((K+4:Nat):Int) from rfl];refine s5 ?_;refine AI rfl rfl rfl BO.h rfl om (s2 ?_);refine BN (fo:=4) (x':=((((K:Nat):Int),((K+1:Nat):Int),((K+2:Nat):Int),(((K+3:Nat):Int),((K+4:Nat):Int)),b5,(b61,b62,b63,b64,b65,b66,b67,b68),b7,b8,b9,b10,b11):Ak)) rfl rfl pk rfl om (fun w h=>by exact ⟨h.1,h.2.1,h.2.2.1,⟨h.2.2.2.1.1,(by exact trivial)⟩,h.2.2.2.2.1,⟨h.2.2.2.2.2.1.1,h.2.2.2.2.2.1.2.1,h.2.2.2.2.2.1.2.2.1,h.2.2.2.2.2.1.2.2.2.1,h.2.2.2.2.2.1.2.2.2.2.1,h.2.2.2.2.2.1.2.2.2.2.2.1,h.2.2.2.2.2.1.2.2.2.2.2.2.1,h.2.2.2.2.2.1.2.2.2.2.2.2.2⟩,h.2.2.2.2.2.2.1,h.2.2.2.2.2.2.2.1,h.2.2.2.2.2.2.2.2.1,h.2.2.2.2.2.2.2.2.2.1,h.2.2.2.2.2.2.2.2.2.2⟩) AM.h (s4 ?_);refine Be rfl rfl rfl (Bc iR) (s2 ?_);rw [show ((K+4:Nat):Int)+1=((K+5:Nat):Int) from rfl];refine s5 ?_;refine AI rfl rfl rfl BO.h rfl om (s1 ?_);refine BN (fo:=5) (x':=((((K:Nat):Int),((K+1:Nat):Int),((K+2:Nat):Int),(((K+3:Nat):Int),((K+4:Nat):Int)),((K+5:Nat):Int),(b61,b62,b63,b64,b65,b66,b67,b68),b7,b8,b9,b10,b11):Ak)) rfl rfl pk rfl om (fun w h=>by exact ⟨h.1,h.2.1,h.2.2.1,⟨h.2.2.2.1.1,h.2.2.2.1.2⟩,(by exact trivial),⟨h.2.2.2.2.2.1.1,h.2.2.2.2.2.1.2.1,h.2.2.2.2.2.1.2.2.1,h.2.2.2.2.2.1.2.2.2.1,h.2.2.2.2.2.1.2.2.2.2.1,h.2.2.2.2.2.1.2.2.2.2.2.1,h.2.2.2.2.2.1.2.2.2.2.2.2.1,h.2.2.2.2.2.1.2.2.2.2.2.2.2⟩,h.2.2.2.2.2.2.1,h.2.2.2.2.2.2.2.1,h.2.2.2.2.2.2.2.2.1,h.2.2.2.2.2.2.2.2.2.1,h.2.2.2.2.2.2.2.2.2.2⟩) AM.h (s4 ?_);refine Be rfl rfl rfl (Bc iR) (s2 ?_);rw [show ((K+5:Nat):Int)+1=((K+6:Nat):Int) from rfl];refine s5 ?_;refine AI rfl rfl rfl BO.h rfl om (s2 ?_);refine BN (fo:=6) (x':=((((K:Nat):Int),((K+1:Nat):Int),((K+2:Nat):Int),(((K+3:Nat):Int),((K+4:Nat):Int)),((K+5:Nat):Int),(((K+6:Nat):Int),b62,b63,b64,b65,b66,b67,b68),b7,b8,b9,b10,b11):Ak)) rfl rfl pk rfl om (fun w h=>by exact ⟨h.1,h.2.1,h.2.2.1,⟨h.2.2.2.1.1,h.2.2.2.1.2⟩,h.2.2.2.2.1,⟨(by exact trivial),h.2.2.2.2.2.1.2.1,h.2.2.2.2.2.1.2.2.1,h.2.2.2.2.2.1.2.2.2.1,h.2.2.2.2.2.1.2.2.2.2.1,h.2.2.2.2.2.1.2.2.2.2.2.1,h.2.2.2.2.2.1.2.2.2.2.2.2.1,h.2.2.2.2.2.1.2.2.2.2.2.2.2⟩,h.2.2.2.2.2.2.1,h.2.2.2.2.2.2.2.1,h.2.2.2.2.2.2.2.2.1,h.2.2.2.2.2.2.2.2.2.1,h.2.2.2.2.2.2.2.2.2.2⟩) AM.h (s4 ?_);refine Be rfl rfl rfl (Bc iR) (s2 ?_);rw [show ((K+6:Nat):Int)+1=((K+7:Nat):Int) from rfl];refine s5 ?_;refine AI rfl rfl rfl BO.h rfl om (s2 ?_);refine BN (fo:=7) (x':=((((K:Nat):Int),((K+1:Nat):Int),((K+2:Nat):Int),(((K+3:Nat):Int),((K+4:Nat):Int)),((K+5:Nat):Int),(((K+6:Nat):Int),((K+7:Nat):Int),b63,b64,b65,b66,b67,b68),b7,b8,b9,b10,b11):Ak)) rfl rfl pk rfl om (fun w h=>by exact ⟨h.1,h.2.1,h.2.2.1,⟨h.2.2.2.1.1,h.2.2.2.1.2⟩,h.2.2.2.2.1,⟨h.2.2.2.2.2.1.1,(by exact trivial),h.2.2.2.2.2.1.2.2.1,h.2.2.2.2.2.1.2.2.2.1,h.2.2.2.2.2.1.2.2.2.2.1,h.2.2.2.2.2.1.2.2.2.2.2.1,h.2.2.2.2.2.1.2.2.2.2.2.2.1,h.2.2.2.2.2.1.2.2.2.2.2.2.2⟩,h.2.2.2.2.2.2.1,h.2.2.2.2.2.2.2.1,h.2.2.2.2.2.2.2.2.1,h.2.2.2.2.2.2.2.2.2.1,h.2.2.2.2.2.2.2.2.2.2⟩) AM.h (s4 ?_);refine Be rfl rfl rfl (Bc iR) (s2 ?_);rw [show ((K+7:Nat):Int)+1=((K+8:Nat):Int) from rfl];refine s5 ?_;refine AI rfl rfl rfl BO.h rfl om (s2 ?_);refine BN (fo:=8) (x':=((((K:Nat):Int),((K+1:Nat):Int),((K+2:Nat):Int),(((K+3:Nat):Int),((K+4:Nat):Int)),((K+5:Nat):Int),(((K+6:Nat):Int),((K+7:Nat):Int),((K+8:Nat):Int),b64,b65,b66,b67,b68),b7,b8,b9,b10,b11):Ak)) rfl rfl pk rfl om (fun w h=>by exact ⟨h.1,h.2.1,h.2.2.1,⟨h.2.2.2.1.1,h.2.2.2.1.2⟩,h.2.2.2.2.1,⟨h.2.2.2.2.2.1.1,h.2.2.2.2.2.1.2.1,(by exact trivial),h.2.2.2.2.2.1.2.2.2.1,h.2.2.2.2.2.1.2.2.2.2.1,h.2.2.2.2.2.1.2.2.2.2.2.1,h.2.2.2.2.2.1.2.2.2.2.2.2.1,h.2.2.2.2.2.1.2.2.2.2.2.2.2⟩,h.2.2.2.2.2.2.1,h.2.2.2.2.2.2.2.1,h.2.2.2.2.2.2.2.2.1,h.2.2.2.2.2.2.2.2.2.1,h.2.2.2.2.2.2.2.2.2.2⟩) AM.h (s4 ?_);refine Be rfl rfl rfl (Bc iR) (s2 ?_);rw [show ((K+8:Nat):Int)+1=((K+9:Nat):Int) from rfl];refine s5 ?_;refine Bi rfl JV.h rfl (by exact fun w hw=>Du w (K+9) om om) ?_;refine AI rfl rfl rfl BO.h rfl om (s2 ?_);refine BN (fo:=9) (x':=((((K:Nat):Int),((K+1:Nat):Int),((K+2:Nat):Int),(((K+3:Nat):Int),((K+4:Nat):Int)),((K+5:Nat):Int),(((K+6:Nat):Int),((K+7:Nat):Int),((K+8:Nat):Int),(mtx (K+9)),b65,b66,b67,b68),b7,b8,b9,b10,b11):Ak)) rfl rfl pk rfl om (fun w h=>by exact ⟨h.1,h.2.1,h.2.2.1,⟨h.2.2.2.1.1,h.2.2.2.1.2⟩,h.2.2.2.2.1,⟨h.2.2.2.2.2.1.1,h.2.2.2.2.2.1.2.1,h.2.2.2.2.2.1.2.2.1,(by exact trivial),h.2.2.2.2.2.1.2.2.2.2.1,h.2.2.2.2.2.1.2.2.2.2.2.1,h.2.2.2.2.2.1.2.2.2.2.2.2.1,h.2.2.2.2.2.1.2.2.2.2.2.2.2⟩,h.2.2.2.2.2.2.1,h.2.2.2.2.2.2.2.1,h.2.2.2.2.2.2.2.2.1,h.2.2.2.2.2.2.2.2.2.1,h.2.2.2.2.2.2.2.2.2.2⟩) ED.h (s4 ?_);refine Be rfl rfl rfl (Bc iR) (s2 ?_);rw [show ((K+9:Nat):Int)+1=((K+10:Nat):Int) from rfl];refine s5 ?_;refine Bi rfl JV.h rfl (by exact fun w hw=>Du w (K+10) om om) ?_;refine AI rfl rfl rfl BO.h rfl om (s2 ?_);refine BN (fo:=10) (x':=((((K:Nat):Int),((K+1:Nat):Int),((K+2:Nat):Int),(((K+3:Nat):Int),((K+4:Nat):Int)),((K+5:Nat):Int),(((K+6:Nat):Int),((K+7:Nat):Int),((K+8:Nat):Int),(mtx (K+9)),(mtx (K+10)),b66,b67,b68),b7,b8,b9,b10,b11):Ak)) rfl rfl pk rfl om (fun w h=>by exact ⟨h.1,h.2.1,h.2.2.1,⟨h.2.2.2.1.1,h.2.2.2.1.2⟩,h.2.2.2.2.1,⟨h.2.2.2.2.2.1.1,h.2.2.2.2.2.1.2.1,h.2.2.2.2.2.1.2.2.1,h.2.2.2.2.2.1.2.2.2.1,(by exact trivial),h.2.2.2.2.2.1.2.2.2.2.2.1,h.2.2.2.2.2.1.2.2.2.2.2.2.1,h.2.2.2.2.2.1.2.2.2.2.2.2.2⟩,h.2.2.2.2.2.2.1,h.2.2.2.2.2.2.2.1,h.2.2.2.2.2.2.2.2.1,h.2.2.2.2.2.2.2.2.2.1,h.2.2.2.2.2.2.2.2.2.2⟩) ED.h (s4 ?_);refine Be rfl rfl rfl (Bc iR) (s2 ?_);rw [show ((K+10:Nat):Int)+1=((K+11:Nat):Int) from rfl];refine s5 ?_;refine Bi rfl JV.h rfl (by exact fun w hw=>Du w (K+11) om om) ?_;refine AI rfl rfl rfl BO.h rfl om (s2 ?_);refine BN (fo:=11) (x':=((((K:Nat):Int),((K+1:Nat):Int),((K+2:Nat):Int),(((K+3:Nat):Int),((K+4:Nat):Int)),((K+5:Nat):Int),(((K+6:Nat):Int),((K+7:Nat):Int),((K+8:Nat):Int),(mtx (K+9)),(mtx (K+10)),(mtx (K+11)),b67,b68),b7,b8,b9,b10,b11):Ak)) rfl rfl pk rfl om (fun w h=>by exact ⟨h.1,h.2.1,h.2.2.1,⟨h.2.2.2.1.1,h.2.2.2.1.2⟩,h.2.2.2.2.1,⟨h.2.2.2.2.2.1.1,h.2.2.2.2.2.1.2.1,h.2.2.2.2.2.1.2.2.1,h.2.2.2.2.2.1.2.2.2.1,h.2.2.2.2.2.1.2.2.2.2.1,(by exact trivial),h.2.2.2.2.2.1.2.2.2.2.2.2.1,h.2.2.2.2.2.1.2.2.2.2.2.2.2⟩,h.2.2.2.2.2.2.1,h.2.2.2.2.2.2.2.1,h.2.2.2.2.2.2.2.2.1,h.2.2.2.2.2.2.2.2.2.1,h.2.2.2.2.2.2.2.2.2.2⟩) ED.h (s4 ?_);refine Be rfl rfl rfl (Bc iR) (s2 ?_);rw [show ((K+11:Nat):Int)+1=((K+12:Nat):Int) from rfl];refine s5 ?_;refine AI rfl rfl rfl BO.h rfl om (s2 ?_);refine BN (fo:=12) (x':=((((K:Nat):Int),((K+1:Nat):Int),((K+2:Nat):Int),(((K+3:Nat):Int),((K+4:Nat):Int)),((K+5:Nat):Int),(((K+6:Nat):Int),((K+7:Nat):Int),((K+8:Nat):Int),(mtx (K+9)),(mtx (K+10)),(mtx (K+11)),((K+12:Nat):Int),b68),b7,b8,b9,b10,b11):Ak)) rfl rfl pk rfl om (fun w h=>by exact ⟨h.1,h.2.1,h.2.2.1,⟨h.2.2.2.1.1,h.2.2.2.1.2⟩,h.2.2.2.2.1,⟨h.2.2.2.2.2.1.1,h.2.2.2.2.2.1.2.1,h.2.2.2.2.2.1.2.2.1,h.2.2.2.2.2.1.2.2.2.1,h.2.2.2.2.2.1.2.2.2.2.1,h.2.2.2.2.2.1.2.2.2.2.2.1,(by exact trivial),h.2.2.2.2.2.1.2.2.2.2.2.2.2⟩,h.2.2.2.2.2.2.1,h.2.2.2.2.2.2.2.1,h.2.2.2.2.2.2.2.2.1,h.2.2.2.2.2.2.2.2.2.1,h.2.2.2.2.2.2.2.2.2.2⟩) AM.h (s4 ?_);refine Be rfl rfl rfl (Bc iR) (s2 ?_);rw [show ((K+12:Nat):Int)+1=((K+13:Nat):Int) from rfl];refine s4 ?_;refine AI rfl rfl rfl BO.h rfl om (s2 ?_);refine AY (fo:=13) rfl rfl (by exact Lj (L:=(⟨some ⟨g,0,none⟩,c1,e1,((Cr k0 i x1).set i ((((K:Nat):Int),((K+1:Nat):Int),((K+2:Nat):Int),(((K+3:Nat):Int),((K+4:Nat):Int)),((K+5:Nat):Int),(((K+6:Nat):Int),((K+7:Nat):Int),((K+8:Nat):Int),(mtx (K+9)),(mtx (K+10)),(mtx (K+11)),((K+12:Nat):Int),b68),b7,b8,b9,b10,b11):Ak)),y1⟩:TL Ak)) mm rfl (DW (CW (k:=k0) hu))) MH.h rfl (s1 ?_);refine AA (fun w h=>Lo (L:=(⟨some ⟨g,0,none⟩,c1,e1,((Cr k0 i x1).set i ((((K:Nat):Int),((K+1:Nat):Int),((K+2:Nat):Int),(((K+3:Nat):Int),((K+4:Nat):Int)),((K+5:Nat):Int),(((K+6:Nat):Int),((K+7:Nat):Int),((K+8:Nat):Int),(mtx (K+9)),(mtx (K+10)),(mtx (K+11)),((K+12:Nat):Int),b68),b7,b8,b9,b10,b11):Ak)),y1⟩:TL Ak)) (DW (CW (k:=k0) hu)) (Bt pk h)) ?_;refine AA (fun _=>Bx) ?_;refine AA (fun _=>Bt (Pick.there _ (Pick.here _))) ?_;refine AA (fun _=>Bx) ?_;refine AA (fun _=>Bt (Pick.there _ (Pick.here _))) ?_;refine AA (fun _=>Bx) ?_;refine AA (fun _=>Bt (Pick.there _ (Pick.here _))) ?_;refine AA (fun _=>Bx) ?_;refine AA (fun _=>Bt (Pick.there _ (Pick.here _))) ?_;refine AA (fun _=>Bx) ?_;refine AA (fun _=>Bt (Pick.there _ (Pick.here _))) ?_;refine AA (fun _=>Bx) ?_;refine AA (fun _=>Bx) ?_;refine AA (fun _=>Bt (Pick.there _ (Pick.here _))) ?_;refine AA (fun _=>Bx) ?_;refine AA (fun _=>Bt (Pick.there _ (Pick.here _))) ?_;refine AA (fun _=>Bx) ?_;refine AA (fun _=>Bt (Pick.there _ (Pick.here _))) ?_;refine AA (fun _=>Bx) ?_;refine AA (fun _=>Bt (Pick.there _ (Pick.here _))) ?_;refine AA (fun _=>Bx) ?_;refine AA (fun _=>Bt (Pick.there _ (Pick.here _))) ?_;refine AA (fun _=>Bx) ?_;refine AA (fun _=>Bt (Pick.there _ (Pick.here _))) ?_;refine AA (fun _=>Bx) ?_;refine AA (fun _=>Bt (Pick.there _ (Pick.here _))) ?_;refine Hr rfl iP.h rfl (Pick.here _) (by exact fun w hw=>KP w b68 (K+13) om om) ?_;rintro v M1 ⟨hv,rfl⟩;subst hv;simp only [List.cons_append,List.nil_append];refine AA (fun _=>BS (Pick.here _)) ?_;refine AA (fun _=>BS (Pick.here _)) ?_;refine AA (fun _=>BS (Pick.here _)) ?_;refine AA (fun _=>BS (Pick.here _)) ?_;refine AA (fun _=>BS (Pick.here _)) ?_;refine AA (fun _=>BS (Pick.here _)) ?_;refine AA (fun _=>BS (Pick.here _)) ?_;refine AA (fun _=>ID (Pick.here _)) ?_;refine AA (fun _=>BS (Pick.here _)) ?_;refine AA (fun _=>BS (Pick.here _)) ?_;refine AA (fun _=>BS (Pick.here _)) ?_;refine AA (fun _=>BS (Pick.here _)) ?_;refine AA (fun _=>BS (Pick.here _)) ?_;refine AA (M':=Af (⟨some ⟨g,0,none⟩,c1,e1,(((Cr k0 i x1).set i ((((K:Nat):Int),((K+1:Nat):Int),((K+2:Nat):Int),(((K+3:Nat):Int),((K+4:Nat):Int)),((K+5:Nat):Int),(((K+6:Nat):Int),((K+7:Nat):Int),((K+8:Nat):Int),(mtx (K+9)),(mtx (K+10)),(mtx (K+11)),((K+12:Nat):Int),b68),b7,b8,b9,b10,b11):Ak)).set i ((((K:Nat):Int),((K+1:Nat):Int),((K+2:Nat):Int),(((K+3:Nat):Int),((K+4:Nat):Int)),((K+5:Nat):Int),(((K+6:Nat):Int),((K+7:Nat):Int),((K+8:Nat):Int),(mtx (K+9)),(mtx (K+10)),(mtx (K+11)),((K+12:Nat):Int),(Mk.mkd (K+13) b68)),b7,b8,b9,b10,b11):Ak)),y1⟩:TL Ak)::_) (fun w h=>NG (L:=(⟨some ⟨g,0,none⟩,c1,e1,((Cr k0 i x1).set i ((((K:Nat):Int),((K+1:Nat):Int),((K+2:Nat):Int),(((K+3:Nat):Int),((K+4:Nat):Int)),((K+5:Nat):Int),(((K+6:Nat):Int),((K+7:Nat):Int),((K+8:Nat):Int),(mtx (K+9)),(mtx (K+10)),(mtx (K+11)),((K+12:Nat):Int),b68),b7,b8,b9,b10,b11):Ak)),y1⟩:TL Ak)) (DW (CW (k:=k0) hu)) (by simp only [CA,Gy]) h) ?_;rw [List.set_set];refine s7 ?_;refine AI rfl rfl rfl BO.h rfl om (s1 ?_);refine BN (fo:=14) (x':=((((K:Nat):Int),((K+1:Nat):Int),((K+2:Nat):Int),(((K+3:Nat):Int),((K+4:Nat):Int)),((K+5:Nat):Int),(((K+6:Nat):Int),((K+7:Nat):Int),((K+8:Nat):Int),(mtx (K+9)),(mtx (K+10)),(mtx (K+11)),((K+12:Nat):Int),(Mk.mkd (K+13) b68)),((((K+13)+Mk.cnt b68):Nat):Int),b8,b9,b10,b11):Ak)) rfl rfl pk rfl om (fun w h=>by exact ⟨h.1,h.2.1,h.2.2.1,⟨h.2.2.2.1.1,h.2.2.2.1.2⟩,h.2.2.2.2.1,⟨h.2.2.2.2.2.1.1,h.2.2.2.2.2.1.2.1,h.2.2.2.2.2.1.2.2.1,h.2.2.2.2.2.1.2.2.2.1,h.2.2.2.2.2.1.2.2.2.2.1,h.2.2.2.2.2.1.2.2.2.2.2.1,h.2.2.2.2.2.1.2.2.2.2.2.2.1,h.2.2.2.2.2.1.2.2.2.2.2.2.2⟩,(by exact trivial),h.2.2.2.2.2.2.2.1,h.2.2.2.2.2.2.2.2.1,h.2.2.2.2.2.2.2.2.2.1,h.2.2.2.2.2.2.2.2.2.2⟩) AM.h (s4 ?_);refine Be rfl rfl rfl (Bc iR) (s2 ?_);rw [show ((((K+13)+Mk.cnt b68):Nat):Int)+1=(((((K+13)+Mk.cnt b68)+1):Nat):Int) from rfl];refine s4 ?_;refine AI rfl rfl rfl BO.h rfl om (s1 ?_);refine AY rfl rfl (by exact Lj (L:=(⟨some ⟨g,0,none⟩,c1,e1,((Cr k0 i x1).set i ((((K:Nat):Int),((K+1:Nat):Int),((K+2:Nat):Int),(((K+3:Nat):Int),((K+4:Nat):Int)),((K+5:Nat):Int),(((K+6:Nat):Int),((K+7:Nat):Int),((K+8:Nat):Int),(mtx (K+9)),(mtx (K+10)),(mtx (K+11)),((K+12:Nat):Int),(Mk.mkd (K+13) b68)),((((K+13)+Mk.cnt b68):Nat):Int),b8,b9,b10,b11):Ak)),y1⟩:TL Ak)) mm rfl (DW (CW (k:=k0) hu))) FZ.h rfl (s1 ?_);refine AA (fun w h=>Lo (L:=(⟨some ⟨g,0,none⟩,c1,e1,((Cr k0 i x1).set i ((((K:Nat):Int),((K+1:Nat):Int),((K+2:Nat):Int),(((K+3:Nat):Int),((K+4:Nat):Int)),((K+5:Nat):Int),(((K+6:Nat):Int),((K+7:Nat):Int),((K+8:Nat):Int),(mtx (K+9)),(mtx (K+10)),(mtx (K+11)),((K+12:Nat):Int),(Mk.mkd (K+13) b68)),((((K+13)+Mk.cnt b68):Nat):Int),b8,b9,b10,b11):Ak)),y1⟩:TL Ak)) (DW (CW (k:=k0) hu)) (Bt pk h)) ?_;refine AA (fun _=>Bx) ?_;refine AA (fun _=>Bt (Pick.there _ (Pick.here _))) ?_;refine AA (fun _=>Bx) ?_;refine AA (fun _=>Bt (Pick.there _ (Pick.here _))) ?_;refine AA (fun _=>Bx) ?_;refine AA (fun _=>Bt (Pick.there _ (Pick.here _))) ?_;refine AA (fun _=>Bx) ?_;refine AA (fun _=>Bt (Pick.there _ (Pick.here _))) ?_;refine AA (fun _=>Bx) ?_;refine AA (fun _=>Bt (Pick.there _ (Pick.here _))) ?_;refine AA (fun _=>Bx) ?_;refine AA (fun _=>Bt (Pick.there _ (Pick.here _))) ?_;refine AA (fun _=>Bx) ?_;refine AA (fun _=>Bt (Pick.there _ (Pick.here _))) ?_;refine AA (fun _=>Bx) ?_;refine Hr rfl cQ.h rfl (Pick.here _) (by exact fun w hw=>OW w b8 (((K+13)+Mk.cnt b68)+1) om om) ?_;rintro v M1 ⟨hv,rfl⟩;subst hv;simp only [List.cons_append,List.nil_append];refine AA (fun _=>ID (Pick.here _)) ?_;refine AA (fun _=>BS (Pick.here _)) ?_;refine AA (fun _=>BS (Pick.here _)) ?_;refine AA (fun _=>BS (Pick.here _)) ?_;refine AA (fun _=>BS (Pick.here _)) ?_;refine AA (fun _=>BS (Pick.here _)) ?_;refine AA (fun _=>BS (Pick.here _)) ?_;refine AA (fun _=>BS (Pick.here _)) ?_;refine AA (M':=Af (⟨some ⟨g,0,none⟩,c1,e1,(((Cr k0 i x1).set i ((((K:Nat):Int),((K+1:Nat):Int),((K+2:Nat):Int),(((K+3:Nat):Int),((K+4:Nat):Int)),((K+5:Nat):Int),(((K+6:Nat):Int),((K+7:Nat):Int),((K+8:Nat):Int),(mtx (K+9)),(mtx (K+10)),(mtx (K+11)),((K+12:Nat):Int),(Mk.mkd (K+13) b68)),((((K+13)+Mk.cnt b68):Nat):Int),b8,b9,b10,b11):Ak)).set i ((((K:Nat):Int),((K+1:Nat):Int),((K+2:Nat):Int),(((K+3:Nat):Int),((K+4:Nat):Int)),((K+5:Nat):Int),(((K+6:Nat):Int),((K+7:Nat):Int),((K+8:Nat):Int),(mtx (K+9)),(mtx (K+10)),(mtx (K+11)),((K+12:Nat):Int),(Mk.mkd (K+13) b68)),((((K+13)+Mk.cnt b68):Nat):Int),(Mk.mkd (((K+13)+Mk.cnt b68)+1) b8),b9,b10,b11):Ak)),y1⟩:TL Ak)::_) (fun w h=>NG (L:=(⟨some ⟨g,0,none⟩,c1,e1,((Cr k0 i x1).set i ((((K:Nat):Int),((K+1:Nat):Int),((K+2:Nat):Int),(((K+3:Nat):Int),((K+4:Nat):Int)),((K+5:Nat):Int),(((K+6:Nat):Int),((K+7:Nat):Int),((K+8:Nat):Int),(mtx (K+9)),(mtx (K+10)),(mtx (K+11)),((K+12:Nat):Int),(Mk.mkd (K+13) b68)),((((K+13)+Mk.cnt b68):Nat):Int),b8,b9,b10,b11):Ak)),y1⟩:TL Ak)) (DW (CW (k:=k0) hu)) (by simp only [CA,Gy]) h) ?_;rw [List.set_set];refine s7 ?_;refine AI rfl rfl rfl BO.h rfl om (s1 ?_);refine BN (fo:=16) (x':=((((K:Nat):Int),((K+1:Nat):Int),((K+2:Nat):Int),(((K+3:Nat):Int),((K+4:Nat):Int)),((K+5:Nat):Int),(((K+6:Nat):Int),((K+7:Nat):Int),((K+8:Nat):Int),(mtx (K+9)),(mtx (K+10)),(mtx (K+11)),((K+12:Nat):Int),(Mk.mkd (K+13) b68)),((((K+13)+Mk.cnt b68):Nat):Int),(Mk.mkd (((K+13)+Mk.cnt b68)+1) b8),((((((K+13)+Mk.cnt b68)+1)+Mk.cnt b8):Nat):Int),b10,b11):Ak)) rfl rfl pk rfl om (fun w h=>by exact ⟨h.1,h.2.1,h.2.2.1,⟨h.2.2.2.1.1,h.2.2.2.1.2⟩,h.2.2.2.2.1,⟨h.2.2.2.2.2.1.1,h.2.2.2.2.2.1.2.1,h.2.2.2.2.2.1.2.2.1,h.2.2.2.2.2.1.2.2.2.1,h.2.2.2.2.2.1.2.2.2.2.1,h.2.2.2.2.2.1.2.2.2.2.2.1,h.2.2.2.2.2.1.2.2.2.2.2.2.1,h.2.2.2.2.2.1.2.2.2.2.2.2.2⟩,h.2.2.2.2.2.2.1,h.2.2.2.2.2.2.2.1,(by exact trivial),h.2.2.2.2.2.2.2.2.2.1,h.2.2.2.2.2.2.2.2.2.2⟩) AM.h (s4 ?_);refine Be rfl rfl rfl (Bc iR) (s2 ?_);rw [show ((((((K+13)+Mk.cnt b68)+1)+Mk.cnt b8):Nat):Int)+1=(((((((K+13)+Mk.cnt b68)+1)+Mk.cnt b8)+1):Nat):Int) from rfl];refine s5 ?_;refine AI rfl rfl rfl BO.h rfl om (s1 ?_);refine BN (fo:=17) (x':=((((K:Nat):Int),((K+1:Nat):Int),((K+2:Nat):Int),(((K+3:Nat):Int),((K+4:Nat):Int)),((K+5:Nat):Int),(((K+6:Nat):Int),((K+7:Nat):Int),((K+8:Nat):Int),(mtx (K+9)),(mtx (K+10)),(mtx (K+11)),((K+12:Nat):Int),(Mk.mkd (K+13) b68)),((((K+13)+Mk.cnt b68):Nat):Int),(Mk.mkd (((K+13)+Mk.cnt b68)+1) b8),((((((K+13)+Mk.cnt b68)+1)+Mk.cnt b8):Nat):Int),(((((((K+13)+Mk.cnt b68)+1)+Mk.cnt b8)+1):Nat):Int),b11):Ak)) rfl rfl pk rfl om (fun w h=>by exact ⟨h.1,h.2.1,h.2.2.1,⟨h.2.2.2.1.1,h.2.2.2.1.2⟩,h.2.2.2.2.1,⟨h.2.2.2.2.2.1.1,h.2.2.2.2.2.1.2.1,h.2.2.2.2.2.1.2.2.1,h.2.2.2.2.2.1.2.2.2.1,h.2.2.2.2.2.1.2.2.2.2.1,h.2.2.2.2.2.1.2.2.2.2.2.1,h.2.2.2.2.2.1.2.2.2.2.2.2.1,h.2.2.2.2.2.1.2.2.2.2.2.2.2⟩,h.2.2.2.2.2.2.1,h.2.2.2.2.2.2.2.1,h.2.2.2.2.2.2.2.2.1,(by exact trivial),h.2.2.2.2.2.2.2.2.2.2⟩) AM.h (s4 ?_);refine Be rfl rfl rfl (Bc iR) (s2 ?_);rw [show (((((((K+13)+Mk.cnt b68)+1)+Mk.cnt b8)+1):Nat):Int)+1=(((((((K+13)+Mk.cnt b68)+1)+Mk.cnt b8)+2):Nat):Int) from rfl];refine s5 ?_;refine Be rfl rfl rfl (MO om) (s1 ?_);refine AI rfl rfl rfl BO.h rfl om (s1 ?_);refine BN (fo:=18) (x':=((((K:Nat):Int),((K+1:Nat):Int),((K+2:Nat):Int),(((K+3:Nat):Int),((K+4:Nat):Int)),((K+5:Nat):Int),(((K+6:Nat):Int),((K+7:Nat):Int),((K+8:Nat):Int),(mtx (K+9)),(mtx (K+10)),(mtx (K+11)),((K+12:Nat):Int),(Mk.mkd (K+13) b68)),((((K+13)+Mk.cnt b68):Nat):Int),(Mk.mkd (((K+13)+Mk.cnt b68)+1) b8),((((((K+13)+Mk.cnt b68)+1)+Mk.cnt b8):Nat):Int),(((((((K+13)+Mk.cnt b68)+1)+Mk.cnt b8)+1):Nat):Int),(decide ((((((((K+13)+Mk.cnt b68)+1)+Mk.cnt b8)+2):Nat):Int).tmod 3=0))):Ak)) rfl rfl pk rfl om (fun w h=>by exact ⟨h.1,h.2.1,h.2.2.1,⟨h.2.2.2.1.1,h.2.2.2.1.2⟩,h.2.2.2.2.1,⟨h.2.2.2.2.2.1.1,h.2.2.2.2.2.1.2.1,h.2.2.2.2.2.1.2.2.1,h.2.2.2.2.2.1.2.2.2.1,h.2.2.2.2.2.1.2.2.2.2.1,h.2.2.2.2.2.1.2.2.2.2.2.1,h.2.2.2.2.2.1.2.2.2.2.2.2.1,h.2.2.2.2.2.1.2.2.2.2.2.2.2⟩,h.2.2.2.2.2.2.1,h.2.2.2.2.2.2.2.1,h.2.2.2.2.2.2.2.2.1,h.2.2.2.2.2.2.2.2.2.1,(by exact trivial)⟩) HH.h (s3 ?_);refine Be rfl rfl rfl (Bc iR) (s2 ?_);rw [show (((((((K+13)+Mk.cnt b68)+1)+Mk.cnt b8)+2):Nat):Int)+1=(((((((K+13)+Mk.cnt b68)+1)+Mk.cnt b8)+3):Nat):Int) from rfl]
  have hfin:((Cr k0 i x1).set i ((((K:Nat):Int),((K+1:Nat):Int),((K+2:Nat):Int),(((K+3:Nat):Int),((K+4:Nat):Int)),((K+5:Nat):Int),(((K+6:Nat):Int),((K+7:Nat):Int),((K+8:Nat):Int),(mtx (K+9)),(mtx (K+10)),(mtx (K+11)),((K+12:Nat):Int),(Mk.mkd (K+13) b68)),((((K+13)+Mk.cnt b68):Nat):Int),(Mk.mkd (((K+13)+Mk.cnt b68)+1) b8),((((((K+13)+Mk.cnt b68)+1)+Mk.cnt b8):Nat):Int),(((((((K+13)+Mk.cnt b68)+1)+Mk.cnt b8)+1):Nat):Int),(decide ((((((((K+13)+Mk.cnt b68)+1)+Mk.cnt b8)+2):Nat):Int).tmod 3=0))):Ak))=Cr k0 (i+1) x1:=by
   have h9:=Jz (k:=k0) hu
   rw [hK] at h9;try simp only [EX,Cg,Ch,CB,Cw,CI,CJ,Et,← Nat.add_assoc] at h9
   try simp only [List.set_set]
   exact h9
  refine AS (M':=Af (⟨some ⟨g,0,none⟩,c1,e1,(Cr k0 (i+1) x1),y1⟩:TL Ak)::_) (fun w h=>by rw [← hfin];exact h) ?_
  have hE:(((((K+13)+Mk.cnt b68)+1)+Mk.cnt b8)+3)=k0+CL (x1.take (i+1)):=by rw [hs];(try simp only [Cw,CI,CJ,Et]);omega
  rw [hE];refine s2 ?_;refine Be rfl rfl rfl (Bc iR) (s2 ?_);refine ⟨i+1,sb,ms,?_,?_⟩
  ·show i+1≤x1.length;omega
  show x1.length - (i+1) < x1.length - i;omega
 refine BF (s6 ?_)
 have hk2:x1.length≤i:=by simpa using q2
 rw [Jy k0 hk2];refine AE rfl (Ab rfl) ⟨?_,rfl⟩ ms
 have hk2:x1.length≤i:=by simpa using q2
 rw [List.take_of_length_le hk2];rfl
set_option maxHeartbeats 4000000 in
theorem VZ (t1:TL Ak) (k0:Nat) (hk0:0 < k0) (hb:k0+Mk.cnt t1 < 9223372036854775807) (h1:rd w [] (Mk.mkd k0 t1)):Sp 58 [(Mk.mkd k0 t1).hdr,.int .i64 (k0:Int)] w [] (IsV (.int .i64 ((k0+Mk.cnt t1:Nat):Int))):=by
 obtain ⟨a1,c1,e1,x1,y1⟩:=t1;replace hb:k0+CL x1 < 9223372036854775807:=hb
 have hml:=DQ x1 k0
 have hm1:(mks k0 x1).length≤9223372036854775807:=EQ h1
 rw [QV] at h1 ⊢;dsimp only [TL.hdr];refine Spec.intro func58 rfl ntmps58 rfl (s10 ?_);refine DO (σ:=Nat) 0 (fun (i:Nat)=>[(1,.int .i64 ((k0+CL (x1.take i):Nat):Int)),(5,.int .i64 (i:Int))]) (fun (i:Nat)=>[]) (fun (i:Nat)=>i≤x1.length) (fun (i:Nat)=>x1.length - i) [(0,_)] [] ?_ sb ms ?_
 ·exact Nat.zero_le _
 rintro i hi;refine kq [0,1,5] ?_;refine s5 ?_;refine CT rfl rfl BO.h (s2 ?_);refine kp [0,1,5,9] ?_;refine Ai rfl (fun q2=>?_) (fun q2=>?_)
 ·have hk1:i < (mks k0 x1).length:=by simpa using q2
  obtain ⟨g,o1,rfl⟩:=DP h1 hk1;obtain ⟨u,hu⟩:=Eb (show i < x1.length by omega)
  have hs:=Dy hu
  have hle:=DY x1 (i+1)
  have hu2:=KR (k:=k0) hu
  obtain ⟨b1,b2,b3,⟨b41,b42⟩,b5,⟨b61,b62,b63,b64,b65,b66,b67,b68⟩,b7,b8,b9,b10,b11⟩:=u;simp only [EX,Cg,Ch,CB,Cw,CI,CJ,Et,← Nat.add_assoc] at hs hu2;obtain ⟨K,hK⟩:∃ K:Nat,k0+CL (x1.take i)=K:=⟨_,rfl⟩;rw [hK] at hu2 ⊢;refine s8 ?_;refine AI rfl rfl rfl BO.h rfl om (s1 ?_);refine AY rfl rfl (by first | exact Ag mm | exact Br (Cells.el h1 rfl hu2)) AM.h rfl (s3 ?_);refine kp [0,1,5,18] ?_;refine Ai rfl (fun q4=>?_) (fun q4=>?_)
  ·refine s5 ?_;refine AE rfl (Ab rfl) ⟨?_,rfl⟩ ms
   exfalso;simp [Cg,Ch,CB] at q4
  refine s4 ?_;refine Be rfl rfl rfl (Bc iR) (s2 ?_);rw [show ((K:Nat):Int)+1=((K+1:Nat):Int) from rfl];refine s5 ?_;refine AI rfl rfl rfl BO.h rfl om (s1 ?_);refine AY rfl rfl (by first | exact Ag mm | exact Br (Cells.el h1 rfl hu2)) AM.h rfl (s3 ?_);refine kp [0,1,5,27] ?_;refine Ai rfl (fun q7=>?_) (fun q7=>?_)
  ·refine s5 ?_;refine AE rfl (Ab rfl) ⟨?_,rfl⟩ ms
   exfalso;simp [Cg,Ch,CB] at q7
  refine s4 ?_;refine Be rfl rfl rfl (Bc iR) (s2 ?_);rw [show ((K+1:Nat):Int)+1=(((K+1)+1:Nat):Int) from rfl];refine s5 ?_;refine AI rfl rfl rfl BO.h rfl om (s1 ?_);refine AY rfl rfl (by first | exact Ag mm | exact Br (Cells.el h1 rfl hu2)) AM.h rfl (s3 ?_);refine kp [0,1,5,36] ?_;refine Ai rfl (fun a0=>?_) (fun a0=>?_)
  ·refine s5 ?_;refine AE rfl (Ab rfl) ⟨?_,rfl⟩ ms
   exfalso;simp [Cg,Ch,CB] at a0
  refine s4 ?_;refine Be rfl rfl rfl (Bc iR) (s2 ?_);rw [show ((((K+1)+1):Nat):Int)+1=((((K+1)+1)+1:Nat):Int) from rfl];refine s5 ?_;refine AI rfl rfl rfl BO.h rfl om (s2 ?_);refine AY (fo:=3) rfl rfl (by first | exact Ag mm | exact Br (Cells.el h1 rfl hu2)) AM.h rfl (s3 ?_);refine kp [0,1,5,46] ?_;refine Ai rfl (fun a2=>?_) (fun a2=>?_)
  ·refine s5 ?_;refine AE rfl (Ab rfl) ⟨?_,rfl⟩ ms
   exfalso;simp [Cg,Ch,CB] at a2
  refine s4 ?_;refine Be rfl rfl rfl (Bc iR) (s2 ?_);rw [show (((((K+1)+1)+1):Nat):Int)+1=(((((K+1)+1)+1)+1:Nat):Int) from rfl];refine s5 ?_;refine AI rfl rfl rfl BO.h rfl om (s2 ?_);refine AY (fo:=4) rfl rfl (by first | exact Ag mm | exact Br (Cells.el h1 rfl hu2)) AM.h rfl (s3 ?_);refine kp [0,1,5,56] ?_;refine Ai rfl (fun a3=>?_) (fun a3=>?_)
  ·refine s5 ?_;refine AE rfl (Ab rfl) ⟨?_,rfl⟩ ms
   exfalso;simp [Cg,Ch,CB] at a3
  refine s4 ?_;refine Be rfl rfl rfl (Bc iR) (s2 ?_);rw [show ((((((K+1)+1)+1)+1):Nat):Int)+1=((((((K+1)+1)+1)+1)+1:Nat):Int) from rfl];refine s5 ?_;refine AI rfl rfl rfl BO.h rfl om (s1 ?_);refine AY rfl rfl (by first | exact Ag mm | exact Br (Cells.el h1 rfl hu2)) AM.h rfl (s3 ?_);refine kp [0,1,5,65] ?_;refine Ai rfl (fun a4=>?_) (fun a4=>?_)
  ·refine s5 ?_;refine AE rfl (Ab rfl) ⟨?_,rfl⟩ ms
   exfalso;simp [Cg,Ch,CB] at a4
  refine s4 ?_;refine Be rfl rfl rfl (Bc iR) (s2 ?_);rw [show (((((((K+1)+1)+1)+1)+1):Nat):Int)+1=(((((((K+1)+1)+1)+1)+1)+1:Nat):Int) from rfl];refine s5 ?_;refine AI rfl rfl rfl BO.h rfl om (s2 ?_);refine AY (fo:=6) rfl rfl (by first | exact Ag mm | exact Br (Cells.el h1 rfl hu2)) AM.h rfl (s3 ?_);refine kp [0,1,5,75] ?_;refine Ai rfl (fun a5=>?_) (fun a5=>?_)
  ·refine s5 ?_;refine AE rfl (Ab rfl) ⟨?_,rfl⟩ ms
   exfalso;simp [Cg,Ch,CB] at a5
  refine s4 ?_;refine Be rfl rfl rfl (Bc iR) (s2 ?_);rw [show ((((((((K+1)+1)+1)+1)+1)+1):Nat):Int)+1=((((((((K+1)+1)+1)+1)+1)+1)+1:Nat):Int) from rfl];refine s5 ?_;refine AI rfl rfl rfl BO.h rfl om (s2 ?_);refine AY (fo:=7) rfl rfl (by first | exact Ag mm | exact Br (Cells.el h1 rfl hu2)) AM.h rfl (s3 ?_);refine kp [0,1,5,85] ?_;refine Ai rfl (fun a6=>?_) (fun a6=>?_)
  ·refine s5 ?_;refine AE rfl (Ab rfl) ⟨?_,rfl⟩ ms
   exfalso;simp [Cg,Ch,CB] at a6
  refine s4 ?_;refine Be rfl rfl rfl (Bc iR) (s2 ?_);rw [show (((((((((K+1)+1)+1)+1)+1)+1)+1):Nat):Int)+1=(((((((((K+1)+1)+1)+1)+1)+1)+1)+1:Nat):Int) from rfl];refine s5 ?_;refine AI rfl rfl rfl BO.h rfl om (s2 ?_);refine AY (fo:=8) rfl rfl (by first | exact Ag mm | exact Br (Cells.el h1 rfl hu2)) AM.h rfl (s3 ?_);refine kp [0,1,5,95] ?_;refine Ai rfl (fun a7=>?_) (fun a7=>?_)
  ·refine s5 ?_;refine AE rfl (Ab rfl) ⟨?_,rfl⟩ ms
   exfalso;simp [Cg,Ch,CB] at a7
  refine s4 ?_;refine Be rfl rfl rfl (Bc iR) (s2 ?_);rw [show ((((((((((K+1)+1)+1)+1)+1)+1)+1)+1):Nat):Int)+1=((((((((((K+1)+1)+1)+1)+1)+1)+1)+1)+1:Nat):Int) from rfl];refine s2 ?_;refine BX [106] mix kr rfl (s2 ?_);refine Db _ Ar (Aj rfl) (Aj rfl) BO.h (fun hg=>⟨rfl,by (try dsimp only);omega⟩) (s2 ?_);refine BA (fo:=9) Ar (Aj rfl) (fun hg=>(by first | exact Ag mm | exact Br (Cells.el h1 rfl hu2))) ED.h rfl (s1 ?_);refine AZ Ar JV.h (Ah (Aj rfl) (AF)) (by exact fun hg w F hF hM=>(fun w hw=>Du w (((((((((K+1)+1)+1)+1)+1)+1)+1)+1)+1) om om) w hF) (s12 ?_);refine kp [0,1,5,106] ?_;refine Ai rfl (fun a8=>?_) (fun a8=>?_)
  ·refine s5 ?_;refine AE rfl (Ab rfl) ⟨?_,rfl⟩ ms
   exfalso;simp [Cg,Ch,CB] at a8
  refine s4 ?_;refine Be rfl rfl rfl (Bc iR) (s2 ?_);rw [show (((((((((((K+1)+1)+1)+1)+1)+1)+1)+1)+1):Nat):Int)+1=(((((((((((K+1)+1)+1)+1)+1)+1)+1)+1)+1)+1:Nat):Int) from rfl];refine s2 ?_;refine BX [117] mix kr rfl (s2 ?_);refine Db _ Ar (Aj rfl) (Aj rfl) BO.h (fun hg=>⟨rfl,by (try dsimp only);omega⟩) (s2 ?_);refine BA (fo:=10) Ar (Aj rfl) (fun hg=>(by first | exact Ag mm | exact Br (Cells.el h1 rfl hu2))) ED.h rfl (s1 ?_);refine AZ Ar JV.h (Ah (Aj rfl) (AF)) (by exact fun hg w F hF hM=>(fun w hw=>Du w ((((((((((K+1)+1)+1)+1)+1)+1)+1)+1)+1)+1) om om) w hF) (s12 ?_);refine kp [0,1,5,117] ?_;refine Ai rfl (fun a9=>?_) (fun a9=>?_)
  ·refine s5 ?_;refine AE rfl (Ab rfl) ⟨?_,rfl⟩ ms
   exfalso;simp [Cg,Ch,CB] at a9
  refine s4 ?_;refine Be rfl rfl rfl (Bc iR) (s2 ?_);rw [show ((((((((((((K+1)+1)+1)+1)+1)+1)+1)+1)+1)+1):Nat):Int)+1=((((((((((((K+1)+1)+1)+1)+1)+1)+1)+1)+1)+1)+1:Nat):Int) from rfl];refine s2 ?_;refine BX [128] mix kr rfl (s2 ?_);refine Db _ Ar (Aj rfl) (Aj rfl) BO.h (fun hg=>⟨rfl,by (try dsimp only);omega⟩) (s2 ?_);refine BA (fo:=11) Ar (Aj rfl) (fun hg=>(by first | exact Ag mm | exact Br (Cells.el h1 rfl hu2))) ED.h rfl (s1 ?_);refine AZ Ar JV.h (Ah (Aj rfl) (AF)) (by exact fun hg w F hF hM=>(fun w hw=>Du w (((((((((((K+1)+1)+1)+1)+1)+1)+1)+1)+1)+1)+1) om om) w hF) (s12 ?_);refine kp [0,1,5,128] ?_;refine Ai rfl (fun aa=>?_) (fun aa=>?_)
  ·refine s5 ?_;refine AE rfl (Ab rfl) ⟨?_,rfl⟩ ms
   exfalso;simp [Cg,Ch,CB] at aa
  refine s4 ?_;refine Be rfl rfl rfl (Bc iR) (s2 ?_);rw [show (((((((((((((K+1)+1)+1)+1)+1)+1)+1)+1)+1)+1)+1):Nat):Int)+1=(((((((((((((K+1)+1)+1)+1)+1)+1)+1)+1)+1)+1)+1)+1:Nat):Int) from rfl];refine s5 ?_;refine AI rfl rfl rfl BO.h rfl om (s2 ?_);refine AY (fo:=12) rfl rfl (by first | exact Ag mm | exact Br (Cells.el h1 rfl hu2)) AM.h rfl (s3 ?_);refine kp [0,1,5,138] ?_;refine Ai rfl (fun ab=>?_) (fun ab=>?_)
  ·refine s5 ?_;refine AE rfl (Ab rfl) ⟨?_,rfl⟩ ms
   exfalso;simp [Cg,Ch,CB] at ab
  refine s4 ?_;refine Be rfl rfl rfl (Bc iR) (s2 ?_);rw [show ((((((((((((((K+1)+1)+1)+1)+1)+1)+1)+1)+1)+1)+1)+1):Nat):Int)+1=((((((((((((((K+1)+1)+1)+1)+1)+1)+1)+1)+1)+1)+1)+1)+1:Nat):Int) from rfl];refine s4 ?_;refine AI rfl rfl rfl BO.h rfl om (s2 ?_);refine AY (fo:=13) rfl rfl (by first | exact Ag mm | exact Br (Cells.el h1 rfl hu2)) MH.h rfl (s1 ?_);refine Bi rfl jS.h rfl (by exact fun w hw=>OY w b68 (((((((((((((K+1)+1)+1)+1)+1)+1)+1)+1)+1)+1)+1)+1)+1) om om (BG (show rd _ _ (Mk.mkd (((((((((((((K+1)+1)+1)+1)+1)+1)+1)+1)+1)+1)+1)+1)+1) b68) from by have h9:=h1.2.2.1 _ (List.mem_of_getElem? hu2);(try simp only [EX,Cg,Ch,CB,Cw,CI,CJ,Et,← Nat.add_assoc] at h9);exact h9.2.2.2.2.2.1.2.2.2.2.2.2.2) hw)) (s8 ?_);refine kp [0,1,5,150] ?_;refine Ai rfl (fun ac=>?_) (fun ac=>?_)
  ·refine s5 ?_;refine AE rfl (Ab rfl) ⟨?_,rfl⟩ ms
   exfalso;simp at ac;omega
  refine s6 ?_;refine AI rfl rfl rfl BO.h rfl om (s1 ?_);refine AY rfl rfl (by first | exact Ag mm | exact Br (Cells.el h1 rfl hu2)) AM.h rfl (s3 ?_);refine kp [0,1,5,157] ?_;refine Ai rfl (fun ad=>?_) (fun ad=>?_)
  ·refine s5 ?_;refine AE rfl (Ab rfl) ⟨?_,rfl⟩ ms
   exfalso;simp [Cg,Ch,CB] at ad
  refine s4 ?_;refine Be rfl rfl rfl (Bc iR) (s2 ?_);rw [show ((((((((((((((((K+1)+1)+1)+1)+1)+1)+1)+1)+1)+1)+1)+1)+1)+Mk.cnt b68):Nat):Int)+1=((((((((((((((((K+1)+1)+1)+1)+1)+1)+1)+1)+1)+1)+1)+1)+1)+Mk.cnt b68)+1:Nat):Int) from rfl];refine s4 ?_;refine AI rfl rfl rfl BO.h rfl om (s1 ?_);refine AY rfl rfl (by first | exact Ag mm | exact Br (Cells.el h1 rfl hu2)) FZ.h rfl (s1 ?_);refine Bi rfl cT.h rfl (by exact fun w hw=>OX w b8 (((((((((((((((K+1)+1)+1)+1)+1)+1)+1)+1)+1)+1)+1)+1)+1)+Mk.cnt b68)+1) om om (BG (show rd _ _ (Mk.mkd (((((((((((((((K+1)+1)+1)+1)+1)+1)+1)+1)+1)+1)+1)+1)+1)+Mk.cnt b68)+1) b8) from by have h9:=h1.2.2.1 _ (List.mem_of_getElem? hu2);(try simp only [EX,Cg,Ch,CB,Cw,CI,CJ,Et,← Nat.add_assoc] at h9);exact h9.2.2.2.2.2.2.2.1) hw)) (s8 ?_);refine kp [0,1,5,168] ?_;refine Ai rfl (fun ae=>?_) (fun ae=>?_)
  ·refine s5 ?_;refine AE rfl (Ab rfl) ⟨?_,rfl⟩ ms
   exfalso;simp at ae;omega
  refine s6 ?_;refine AI rfl rfl rfl BO.h rfl om (s1 ?_);refine AY rfl rfl (by first | exact Ag mm | exact Br (Cells.el h1 rfl hu2)) AM.h rfl (s3 ?_);refine kp [0,1,5,175] ?_;refine Ai rfl (fun af=>?_) (fun af=>?_)
  ·refine s5 ?_;refine AE rfl (Ab rfl) ⟨?_,rfl⟩ ms
   exfalso;simp [Cg,Ch,CB] at af
  refine s4 ?_;refine Be rfl rfl rfl (Bc iR) (s2 ?_);rw [show ((((((((((((((((((K+1)+1)+1)+1)+1)+1)+1)+1)+1)+1)+1)+1)+1)+Mk.cnt b68)+1)+Mk.cnt b8):Nat):Int)+1=((((((((((((((((((K+1)+1)+1)+1)+1)+1)+1)+1)+1)+1)+1)+1)+1)+Mk.cnt b68)+1)+Mk.cnt b8)+1:Nat):Int) from rfl];refine s5 ?_;refine AI rfl rfl rfl BO.h rfl om (s1 ?_);refine AY rfl rfl (by first | exact Ag mm | exact Br (Cells.el h1 rfl hu2)) AM.h rfl (s3 ?_);refine kp [0,1,5,184] ?_;refine Ai rfl (fun ag=>?_) (fun ag=>?_)
  ·refine s5 ?_;refine AE rfl (Ab rfl) ⟨?_,rfl⟩ ms
   exfalso;simp [Cg,Ch,CB] at ag
  refine s4 ?_;refine Be rfl rfl rfl (Bc iR) (s2 ?_);rw [show (((((((((((((((((((K+1)+1)+1)+1)+1)+1)+1)+1)+1)+1)+1)+1)+1)+Mk.cnt b68)+1)+Mk.cnt b8)+1):Nat):Int)+1=(((((((((((((((((((K+1)+1)+1)+1)+1)+1)+1)+1)+1)+1)+1)+1)+1)+Mk.cnt b68)+1)+Mk.cnt b8)+1)+1:Nat):Int) from rfl];refine s5 ?_;refine AI rfl rfl rfl BO.h rfl om (s1 ?_);refine AY rfl rfl (by first | exact Ag mm | exact Br (Cells.el h1 rfl hu2)) HH.h rfl (s1 ?_);refine Be rfl rfl rfl (MO om) (s3 ?_);refine kp [0,1,5,195] ?_;refine Ai rfl (fun ah=>?_) (fun ah=>?_)
  ·refine s5 ?_;refine AE rfl (Ab rfl) ⟨?_,rfl⟩ ms
   exfalso;simp [Cg,Ch,CB] at ah
  refine s3 ?_;refine Be rfl rfl rfl (Bc iR) (s2 ?_);rw [show ((((((((((((((((((((K+1)+1)+1)+1)+1)+1)+1)+1)+1)+1)+1)+1)+1)+Mk.cnt b68)+1)+Mk.cnt b8)+1)+1):Nat):Int)+1=((((((((((((((((((((K+1)+1)+1)+1)+1)+1)+1)+1)+1)+1)+1)+1)+1)+Mk.cnt b68)+1)+Mk.cnt b8)+1)+1)+1:Nat):Int) from rfl]
  have hE:(((((((((((((((((((K+1)+1)+1)+1)+1)+1)+1)+1)+1)+1)+1)+1)+1)+Mk.cnt b68)+1)+Mk.cnt b8)+1)+1)+1)=k0+CL (x1.take (i+1)):=by rw [hs];(try simp only [Cw,CI,CJ,Et]);omega
  rw [hE];refine s2 ?_;refine Be rfl rfl rfl (Bc iR) (s2 ?_);refine ⟨i+1,sb,ms,?_,?_⟩
  ·show i+1≤x1.length;omega
  show x1.length - (i+1) < x1.length - i;omega
 refine BF (s6 ?_);refine AE rfl (Ab rfl) ⟨?_,rfl⟩ ms
 have hk2:(mks k0 x1).length≤i:=by simpa using q2
 rw [List.take_of_length_le om];rfl
end Go.Proofs.SL
namespace Go.Proofs.SL
open Go
section
variable {τ δ:Type} [GT τ δ] [Bk τ] [Bd τ]
theorem mQ {l:List δ} {n:Nat} (h:∀ x,x∈l→Bd.bd (τ:=τ) x≤n):bds τ l≤l.length*n:=by
 induction l with
 | nil=>simp [bds]
 | cons x l ih =>
  have h1:=h x (List.mem_cons_self ..)
  have h2:=ih fun y hy=>h y (List.mem_cons_of_mem _ hy)
  simp only [bds,List.length_cons,Nat.succ_mul];omega
end
def Tf (c:CH):Nat:=0+(0+(0+(c.2.2.2.1.size+(c.2.2.2.2.1.size+(c.2.2.2.2.2.1.size+(0+(c.2.2.2.2.2.2.2.length+bds ByteArray c.2.2.2.2.2.2.2)))))))
theorem iQ (x:AD):Bd.bd (τ:=Av) x=Tf x.2.2.2.2.1+(x.2.2.2.2.2.2.1.length+bds Bj x.2.2.2.2.2.2.1):=by
 show ((0+0)+(0+(0+(0+(Tf x.2.2.2.2.1+(0+((x.2.2.2.2.2.2.1.length+bds Bj x.2.2.2.2.2.2.1)+0)))))))=_;omega
theorem iS (x:Bb):Bd.bd (τ:=Az) x=(x.2.2.2.2.1.length+bds Bj x.2.2.2.2.1)+(x.2.2.2.2.2.1.length+bds Int x.2.2.2.2.2.1):=by
 show ((0+0)+(0+(0+(0+((x.2.2.2.2.1.length+bds Bj x.2.2.2.2.1)+((x.2.2.2.2.2.1.length+bds Int x.2.2.2.2.2.1)+0))))))=_;omega
theorem mR (m:Au):Bd.bd (τ:=Ak) m=Tf m.2.2.2.2.2.1+(m.2.2.2.2.2.2.2.1.length+bds Bj m.2.2.2.2.2.2.2.1):=by
 show (0+(0+(0+((0+0)+(0+(Tf m.2.2.2.2.2.1+(0+((m.2.2.2.2.2.2.2.1.length+bds Bj m.2.2.2.2.2.2.2.1)+(0+(0+0))))))))))=_;omega
theorem iT (d:At):Bd.bd (τ:=Ao) d=(d.2.2.1.length+bds Av d.2.2.1)+(d.2.2.2.length+bds Az d.2.2.2):=by
 show 0+(0+((d.2.2.1.length+bds Av d.2.2.1)+(d.2.2.2.length+bds Az d.2.2.2)))=_;omega
end Go.Proofs.SL
namespace Go.Proofs.SL
open Go Tryz Go.Proofs.SL.GT
variable (w:World)
set_option maxHeartbeats 2000000
instance tQ:FnF prog 55:=⟨_,func55,kr,rfl⟩
instance tR:FnF prog 56:=⟨_,func56,kr,rfl⟩
instance tS:FnF prog 50:=⟨_,func50,kr,rfl⟩
instance tT:FnF prog 51:=⟨_,func51,kr,rfl⟩
instance tU:FnF prog 57:=⟨_,func57,kr,rfl⟩
instance tV:FnF prog 58:=⟨_,func58,kr,rfl⟩
theorem PT (t1 t2:BD) (h1:rd w [] t1) (h2:rd w [] t2):Sp 24 [.agg (cells t1).toArray,.agg (cells t2).toArray] w [] (IsV (.bool (eqB (dat t1) (dat t2)))):=by
 obtain ⟨a1,a2⟩:=t1;obtain ⟨b1,b2⟩:=t2;change Spec _ _ [Value.agg #[a1.hdr,a2.hdr],Value.agg #[b1.hdr,b2.hdr]].toArray w [] _;refine Spec.intro func24 rfl ntmps24 rfl (s2 ?_);refine bx fun a0=>?_;refine bx fun a3=>?_;refine s6 ?_;refine AY rfl rfl (by exact Ag mm) KF.h rfl (s1 ?_);refine AY rfl rfl (by exact Ag mm) KF.h rfl ?_;refine Bi rfl tS.h rfl (by exact fun w hw=>Xc w _ _ (BG (h1.1) hw) (BG (h2.1) hw)) (s2 ?_);refine kp [2,3,10] ?_;refine Ai rfl (fun q1=>?_) (fun q1=>?_)
 ·refine s5 ?_;refine AE rfl (Ab rfl) ⟨?_,rfl⟩ ms;clear h1 h2;exact eqy
 refine s5 ?_;refine AY rfl rfl (by exact Ag mm) Ps.h rfl (s1 ?_);refine AY rfl rfl (by exact Ag mm) Ps.h rfl ?_;refine Bi rfl tT.h rfl (by exact fun w hw=>Za w _ _ (BG (h1.2) hw) (BG (h2.2) hw)) (s2 ?_);refine kp [16] ?_;refine Ai rfl (fun q3=>?_) (fun q3=>?_)
 ·refine s5 ?_;refine AE rfl (Ab rfl) ⟨?_,rfl⟩ ms;clear h1 h2;exact eqy
 refine s6 ?_;refine AE rfl (Ab rfl) ⟨?_,rfl⟩ ms;clear h1 h2;exact eqy
theorem Xd (t1:BD) (k0:Nat) (hk0:0 < k0) (hb:k0+Mv.cnt t1 < 9223372036854775807):Sp 27 [.agg (cells t1).toArray,.int .i64 (k0:Int)] w [Af t1] (fun v M=>v=.int .i64 ((k0+Mv.cnt t1:Nat):Int)∧M=[Af (Mv.mkd k0 t1)]):=by
 obtain ⟨a1,a2⟩:=t1;simp only [PH,Uq,Tm,Ur,KS,Vg,dM,ZK,dN,jA,Nat.zero_add,Nat.add_zero,← Nat.add_assoc] at hb ⊢;change Spec _ _ [Value.agg #[a1.hdr,a2.hdr],.int .i64 (k0:Int)].toArray w _ _;refine Spec.intro func27 rfl ntmps27 rfl (s2 ?_);refine bx fun a0=>?_;refine s5 ?_;refine AY rfl rfl (by exact Ag mm) KF.h rfl (s1 ?_);refine AA (fun w h=>show Holds _ _ _ w from (Bx (Bt (x:=Af ((a1,a2):BD)) pk h))) ?_;refine Hr rfl tQ.h rfl (Pick.here _) (by exact fun w hw=>UY w a1 (k0) om (by first | omega | (simp only [KS];omega))) ?_;rintro v M1 ⟨hv,rfl⟩;subst hv;simp only [List.cons_append,List.nil_append];refine AA (M':=Af (((Mk.mkd k0 a1),a2):BD)::_) (fun w h=>(ID (Pick.here _) h)) (s5 ?_);refine AY rfl rfl (by exact Ag mm) Ps.h rfl (s1 ?_);refine AA (fun w h=>show Holds _ _ _ w from (Bt (Pick.there _ (Pick.here _)) (Bx (Bt (x:=Af (((Mk.mkd k0 a1),a2):BD)) pk h)))) ?_;refine Hr rfl tR.h rfl (Pick.here _) (by exact fun w hw=>VY w a2 (k0+Mk.cnt a1) om (by first | omega | (simp only [KS];omega))) ?_;rintro v M1 ⟨hv,rfl⟩;subst hv;simp only [List.cons_append,List.nil_append];refine AA (M':=Af (((Mk.mkd k0 a1),(Mk.mkd (k0+Mk.cnt a1) a2)):BD)::_) (fun w h=>(BS (Pick.here _) h)) (s8 ?_);refine AE rfl (Ab rfl) ⟨rfl,rfl⟩ ms
theorem RX (t1:BD) (k0:Nat) (hk0:0 < k0) (hb:k0+Mv.cnt t1 < 9223372036854775807) (h1:rd w [] (Mv.mkd k0 t1)):Sp 28 [.agg (cells (Mv.mkd k0 t1)).toArray,.int .i64 (k0:Int)] w [] (IsV (.int .i64 ((k0+Mv.cnt t1:Nat):Int))):=by
 obtain ⟨a1,a2⟩:=t1;simp only [PH,Uq,Tm,Ur,KS,Vg,dM,ZK,dN,jA,Nat.zero_add,Nat.add_zero,← Nat.add_assoc] at hb h1 ⊢;refine Spec.intro func28 rfl ntmps28 rfl (s2 ?_);refine bx fun a0=>?_;refine s5 ?_;refine AY rfl rfl (by exact Ag mm) KF.h rfl (s1 ?_);refine Bi rfl tU.h rfl (by exact fun w hw=>UZ w a1 (k0) om (by first | omega | (simp only [KS];omega)) (BG h1.1 hw)) (s8 ?_);refine kp [1,2,10] ?_;refine Ai rfl (fun q2=>?_) (fun q2=>?_)
 ·refine s5 ?_;refine AE rfl (Ab rfl) ⟨?_,rfl⟩ ms
  exfalso;simp at q2;omega
 refine s4 ?_;refine AY rfl rfl (by exact Ag mm) Ps.h rfl (s1 ?_);refine Bi rfl tV.h rfl (by exact fun w hw=>VZ w a2 (k0+Mk.cnt a1) om (by first | omega | (simp only [KS];omega)) (BG h1.2 hw)) (s8 ?_);refine kp [1,16] ?_;refine Ai rfl (fun q5=>?_) (fun q5=>?_)
 ·refine s5 ?_;refine AE rfl (Ab rfl) ⟨?_,rfl⟩ ms
  exfalso;simp at q5;omega
 refine s7 ?_;refine AE rfl (Ab rfl) ⟨?_,rfl⟩ ms;rfl
set_option maxHeartbeats 2000000
instance vA:FldF prog 85 4 5:=⟨kr⟩
instance jT:AggF prog 83 8:=⟨kr⟩
instance tW:FnF prog 91:=⟨_,func91,kr,rfl⟩
instance vB:FldF prog 85 0 0:=⟨kr⟩
instance vC:FldF prog 85 1 1:=⟨kr⟩
instance vD:FldF prog 85 2 2:=⟨kr⟩
instance vE:FldF prog 85 3 3:=⟨kr⟩
instance sD:AggF prog 82 2:=⟨kr⟩
instance tX:FnF prog 95:=⟨_,func95,kr,rfl⟩
instance tY:FnF prog 96:=⟨_,func96,kr,rfl⟩
instance tZ:FnF prog 52:=⟨_,func52,kr,rfl⟩
instance Wa:ElF prog 56 85 13 144 [.int .i64 0,.int .i64 0,.int .i64 0,.int .i64 0,.int .i64 0,.int .i64 0,.int .i64 0,.int .i64 0,.string ByteArray.empty,.string ByteArray.empty,.string ByteArray.empty,.int .i64 0,.slice none 0 0]:=⟨kr⟩
instance jU:AggF prog 85 13:=⟨kr⟩
instance uA:FnF prog 45:=⟨_,func45,kr,rfl⟩
instance uB:FnF prog 49:=⟨_,func49,kr,rfl⟩
theorem ZD (t1 t2:CF) (h1:rd w [] t1) (h2:rd w [] t2):Sp 52 [.agg (cells t1).toArray,.agg (cells t2).toArray] w [] (IsV (.bool (eqB (dat t1) (dat t2)))):=by
 obtain ⟨a1,a2,a3,⟨a0,a4⟩,⟨a5,a6,a7,a8,a9,aa,ab,ac⟩⟩:=t1;obtain ⟨b1,b2,b3,⟨b41,b42⟩,⟨b51,b52,b53,b54,b55,b56,b57,b58⟩⟩:=t2;change Spec _ _ [Value.agg #[.int .i64 a1,.int .i64 a2,.int .i64 a3,.int .i64 a0,.int .i64 a4,.int .i64 a5,.int .i64 a6,.int .i64 a7,.string a8,.string a9,.string aa,.int .i64 ab,ac.hdr],Value.agg #[.int .i64 b1,.int .i64 b2,.int .i64 b3,.int .i64 b41,.int .i64 b42,.int .i64 b51,.int .i64 b52,.int .i64 b53,.string b54,.string b55,.string b56,.int .i64 b57,b58.hdr]].toArray w [] _;refine Spec.intro func52 rfl ntmps52 rfl (s2 ?_);refine bx fun ad=>?_;refine bx fun ae=>?_;refine s6 ?_;refine AY rfl rfl (by exact Ag mm) AM.h rfl (s1 ?_);refine AY rfl rfl (by exact Ag mm) AM.h rfl (s2 ?_);refine kp [2,3,9] ?_;refine Ai rfl (fun q1=>?_) (fun q1=>?_)
 ·refine s5 ?_;refine AE rfl (Ab rfl) ⟨?_,rfl⟩ ms;clear h1 h2;exact eqx
 refine s5 ?_;refine AY rfl rfl (by exact Ag mm) AM.h rfl (s1 ?_);refine AY rfl rfl (by exact Ag mm) AM.h rfl (s2 ?_);refine kp [2,3,14] ?_;refine Ai rfl (fun q3=>?_) (fun q3=>?_)
 ·refine s5 ?_;refine AE rfl (Ab rfl) ⟨?_,rfl⟩ ms;clear h1 h2;exact eqx
 refine s5 ?_;refine AY rfl rfl (by exact Ag mm) AM.h rfl (s1 ?_);refine AY rfl rfl (by exact Ag mm) AM.h rfl (s2 ?_);refine kp [2,3,19] ?_;refine Ai rfl (fun q5=>?_) (fun q5=>?_)
 ·refine s5 ?_;refine AE rfl (Ab rfl) ⟨?_,rfl⟩ ms;clear h1 h2;exact eqx
 refine s5 ?_;refine AW rfl rfl (AT (by exact Ag mm) 3 2 rfl) (by exact Bp.h) (s1 ?_);refine AW rfl rfl (AT (by exact Ag mm) 3 2 rfl) (by exact Bp.h) ?_;refine Bi rfl YW.h rfl (by exact fun w hw=>Nn w (a0,a4) (b41,b42) (BG (h1.2.2.2.1) hw) (BG (h2.2.2.2.1) hw)) (s2 ?_);refine kp [2,3,25] ?_;refine Ai rfl (fun q7=>?_) (fun q7=>?_)
 ·refine s5 ?_;refine AE rfl (Ab rfl) ⟨?_,rfl⟩ ms;clear h1 h2;exact eqx
 refine s5 ?_;refine AW rfl rfl (AT (by exact Ag mm) 5 8 rfl) (by exact CS.h) (s1 ?_);refine AW rfl rfl (AT (by exact Ag mm) 5 8 rfl) (by exact CS.h) ?_;refine Bi rfl cR.h rfl (by exact fun w hw=>RK w (a5,a6,a7,a8,a9,aa,ab,ac) (b51,b52,b53,b54,b55,b56,b57,b58) (BG (h1.2.2.2.2) hw) (BG (h2.2.2.2.2) hw)) (s2 ?_);refine kp [31] ?_;refine Ai rfl (fun q9=>?_) (fun q9=>?_)
 ·refine s5 ?_;refine AE rfl (Ab rfl) ⟨?_,rfl⟩ ms;clear h1 h2;exact eqx
 refine s6 ?_;refine AE rfl (Ab rfl) ⟨?_,rfl⟩ ms;clear h1 h2;exact eqx
theorem ZE (t1:CF) (left:Int) (hl:0≤left) (hm:left≤1048576) (h1:rd w [] t1) (ho:Ok.ok (dat t1)):Sp 45 [.agg (cells t1).toArray,.int .i64 left] w [] (IsV (.int .i64 (if (Bk.bulk t1:Int)≤left then left - (Bk.bulk t1:Int) else -1))):=by
 obtain ⟨a1,a2,a3,⟨ab,ac⟩,⟨a0,a4,a5,a6,a7,a8,a9,aa⟩⟩:=t1;change Spec _ _ [Value.agg #[.int .i64 a1,.int .i64 a2,.int .i64 a3,.int .i64 ab,.int .i64 ac,.int .i64 a0,.int .i64 a4,.int .i64 a5,.string a6,.string a7,.string a8,.int .i64 a9,aa.hdr],.int .i64 left].toArray w [] _;refine Spec.intro func45 rfl ntmps45 rfl (s2 ?_);refine bx fun ad=>?_;refine s5 ?_;refine AW rfl rfl (AT (by exact Ag mm) 5 8 rfl) (by exact jT.h) (s1 ?_);refine Bi rfl tW.h rfl (by exact fun w hw=>cO w (a0,a4,a5,a6,a7,a8,a9,aa) (left) om om (BG (h1.2.2.2.2) hw) ho.2.2.2.2) (s8 ?_);refine kp [1,10] ?_;refine Ai rfl (fun q2=>?_) (fun q2=>?_)
 ·have hb4:¬ ((Bk.bulk (a0,a4,a5,a6,a7,a8,a9,aa):Int)≤left):=by
   intro hn;rw [if_pos hn] at q2;simp at q2;omega
  refine s5 ?_;refine AE rfl (Ab rfl) ⟨?_,rfl⟩ ms;try simp only [FR,HW,Hj,HB,Int.natCast_add,Int.natCast_zero] at *
  all_goals first
   | rfl
   | (rw [if_pos om]<;>(congr 1<;>omega))
   | (rw [if_neg om])
 have hb4:(Bk.bulk (a0,a4,a5,a6,a7,a8,a9,aa):Int)≤left:=by
  rcases Int.decLt (left) (Bk.bulk (a0,a4,a5,a6,a7,a8,a9,aa):Int) with hn | hn
  ·omega
  ·rw [if_neg om] at q2;simp at q2
 rw [if_pos hb4];refine s7 ?_;refine AE rfl (Ab rfl) ⟨?_,rfl⟩ ms;try simp only [FR,HW,Hj,HB,Int.natCast_add,Int.natCast_zero] at *
 all_goals first
  | rfl
  | (rw [if_pos om]<;>(congr 1<;>omega))
  | (rw [if_neg om])
theorem ZF (t1:CF) (h1:rd w [] t1) (hb:Bk.bulk t1≤1048576):Sp 49 [.agg (cells t1).toArray] w [] (fun v M=>∃ t2:CF,v=.agg (cells t2).toArray∧dat t2=dat t1∧M=[Af t2]):=by
 obtain ⟨a1,a2,a3,⟨a0,a4⟩,⟨a5,a6,a7,a8,a9,aa,ab,ac⟩⟩:=t1
 have hbk_3:Bk.bulk (a0,a4)≤1048576:=by (try simp only [FR,HW,Hj,HB] at hb ⊢);omega
 have hbk_4:Bk.bulk (a5,a6,a7,a8,a9,aa,ab,ac)≤1048576:=by (try simp only [FR,HW,Hj,HB] at hb ⊢);omega
 change Spec _ _ [Value.agg #[.int .i64 a1,.int .i64 a2,.int .i64 a3,.int .i64 a0,.int .i64 a4,.int .i64 a5,.int .i64 a6,.int .i64 a7,.string a8,.string a9,.string aa,.int .i64 ab,ac.hdr]].toArray w [] _;refine Spec.intro func49 rfl ntmps49 rfl (s2 ?_);refine bx fun af=>?_;refine al fun ag=>?_;refine s3 ?_;refine al fun ah=>?_;refine s4 ?_;refine AY rfl rfl (by exact Ag mm) AM.h rfl (s6 ?_);refine AY rfl rfl (by exact Ag mm) AM.h rfl (s6 ?_);refine AY rfl rfl (by exact Ag mm) AM.h rfl (s6 ?_);refine AW rfl rfl (AT (by exact Ag mm) 3 2 rfl) (by exact sD.h) ?_;refine AV rfl tX.h rfl (by exact fun w hw=>fQ w (a0,a4) (BG (h1.2.2.2.1) hw) hbk_3) ?_;rintro v M1 ⟨n4t,hv,ad,rfl⟩;obtain ⟨n41,n42⟩:=n4t;subst hv;simp only [List.cons_append,List.nil_append];refine s1 ?_;refine HY (fo:=3) rfl rfl pk (by exact Bp.h) (Nat.le_of_ble_eq_true rfl) (by first | (simp [Value.oneCell',TL.hdr];done) | (simp [Value.oneCell',TL.hdr,Value.cells];done) | exact fun v hv=>GT.one _ v hv) (by simp only [CA,DF,Ds,DG,DZ,List.take_zero,List.take_succ_cons,List.drop_zero,List.drop_succ_cons,List.set_cons_zero,List.set_cons_succ,List.length_cons,List.length_nil,List.cons_append,List.nil_append,List.append_nil,Nat.zero_add,Nat.reduceAdd];rfl) (s4 ?_);refine AW rfl rfl (AT (by exact Ag mm) 5 8 rfl) (by exact jT.h) ?_;refine AV rfl tY.h rfl (by exact fun w hw=>cP w (a5,a6,a7,a8,a9,aa,ab,ac) (BG (h1.2.2.2.2) hw) hbk_4) ?_;rintro v M1 ⟨n5t,hv,ae,rfl⟩;obtain ⟨n51,n52,n53,n54,n55,n56,n57,n58⟩:=n5t;subst hv;simp only [List.cons_append,List.nil_append];refine s1 ?_;refine HY (fo:=5) rfl rfl pk (by exact CS.h) (Nat.le_of_ble_eq_true rfl) (by first | (simp [Value.oneCell',TL.hdr];done) | (simp [Value.oneCell',TL.hdr,Value.cells];done) | exact fun v hv=>GT.one _ v hv) (by simp only [CA,DF,Ds,DG,DZ,List.take_zero,List.take_succ_cons,List.drop_zero,List.drop_succ_cons,List.set_cons_zero,List.set_cons_succ,List.length_cons,List.length_nil,List.cons_append,List.nil_append,List.append_nil,Nat.zero_add,Nat.reduceAdd];rfl) (s3 ?_);refine AW rfl rfl (by exact Ag mm) (by exact NK.h) ?_;refine Jx rfl rfl pk (by exact NK.h) (by rfl) (by first | (simp [Value.oneCell',TL.hdr];done) | (simp [Value.oneCell',TL.hdr,Value.cells];done) | exact fun v hv=>GT.one _ v hv) (s1 ?_);refine AS (M':=Af (n51,n52,n53,n54,n55,n56,n57,n58)::_) (fun _=>Bt pk) ?_;refine AS (M':=Af ((n41,n42),(n51,n52,n53,n54,n55,n56,n57,n58))::_) (fun _=>BS pk) ?_;refine AS (M':=Af (a3,(n41,n42),(n51,n52,n53,n54,n55,n56,n57,n58))::_) (fun _=>HC (Es (h1.2.2.1))) ?_;refine AS (M':=Af (a2,a3,(n41,n42),(n51,n52,n53,n54,n55,n56,n57,n58))::_) (fun _=>HC (Es (h1.2.1))) ?_;refine AS (M':=Af (a1,a2,a3,(n41,n42),(n51,n52,n53,n54,n55,n56,n57,n58))::_) (fun _=>HC (Es (h1.1))) (s1 ?_);refine AE rfl (AC rfl mm (by exact NK.h)) ⟨(a1,a2,a3,(n41,n42),(n51,n52,n53,n54,n55,n56,n57,n58)),rfl,by simp only [Fy,ad,ae],rfl⟩ ms
theorem Zb (t1 t2:TL CF) (h1:rd w [] t1) (h2:rd w [] t2):Sp 25 [t1.hdr,t2.hdr] w [] (IsV (.bool (eqB (dat t1) (dat t2)))):=by
 obtain ⟨a1,c1,e1,x1,y1⟩:=t1;obtain ⟨a2,c2,e2,x2,y2⟩:=t2
 have hm1:x1.length≤9223372036854775807:=EQ h1
 have hm2:x2.length≤9223372036854775807:=EQ h2
 dsimp only [TL.hdr];refine Spec.intro func25 rfl ntmps25 rfl (s8 ?_);refine CT rfl rfl Hh.h (s1 ?_);refine CT rfl rfl Hh.h (s2 ?_);refine kp [0,1,10] ?_;refine Ai rfl (fun q1=>?_) (fun q1=>?_)
 ·refine s5 ?_;refine AE rfl (Ab rfl) ⟨?_,rfl⟩ ms;refine congrArg Value.bool (Eq.symm (DT.2 fun e=>?_));simp at q1;exact q1 (by have:=congrArg List.length e;simp [Ln] at this;omega)
 have hl:x1.length=x2.length:=by simp at q1;omega
 refine s7 ?_;refine DO (σ:=Nat) 0 (fun (k:Nat)=>[(5,.int .i64 (k:Int))]) (fun (k:Nat)=>[]) (fun (k:Nat)=>k≤x1.length∧(x1.map dat).take k=(x2.map dat).take k) (fun (k:Nat)=>x1.length - k) [(0,_),(1,_)] [] ?_ sb ms ?_
 ·exact ⟨Nat.zero_le _,rfl⟩
 rintro k ⟨hk,ht⟩;refine kq [0,1,5] ?_;refine s5 ?_;refine CT rfl rfl Hh.h (s2 ?_);refine kp [0,1,5,14] ?_;refine Ai rfl (fun q4=>?_) (fun q4=>?_)
 ·have hk1:k < x1.length:=by simpa using q4
  obtain ⟨g1,o1,rfl⟩:=DP h1 hk1;obtain ⟨g2,o2,rfl⟩:=DP (k:=k) h2 (show k < x2.length by omega);obtain ⟨u1,hu1⟩:=Eb hk1;obtain ⟨u2,hu2⟩:=Eb (show k < x2.length by omega);refine s4 ?_;refine BX [26] mix kr rfl (s2 ?_);refine Db _ Ar (Aj rfl) (Aj rfl) Hh.h (fun hg=>⟨rfl,by (try dsimp only);omega⟩) ?_;refine Bq Ar (Aj rfl) (fun hg=>(by first | exact Ag mm | exact Br (Cells.el h1 rfl hu1) | exact Br (Cells.el h2 rfl hu2))) (by exact NK.h) (s2 ?_);refine Db _ Ar (Aj rfl) (Aj rfl) Hh.h (fun hg=>⟨rfl,by (try dsimp only);omega⟩) ?_;refine Bq Ar (Aj rfl) (fun hg=>(by first | exact Ag mm | exact Br (Cells.el h1 rfl hu1) | exact Br (Cells.el h2 rfl hu2))) (by exact NK.h) ?_;refine AZ Ar tZ.h (Ah (Aj rfl) (Ah (Aj rfl) (AF))) (by exact fun hg w F hF hM=>(fun w hw=>ZD w _ _ (BG (h1.2.2.1 _ (List.mem_of_getElem? hu1)) hw) (BG (h2.2.2.1 _ (List.mem_of_getElem? hu2)) hw)) w hF) (s13 ?_);refine kp [0,1,5,26] ?_;refine Ai rfl (fun q6=>?_) (fun q6=>?_)
  ·refine s5 ?_;refine AE rfl (Ab rfl) ⟨?_,rfl⟩ ms;refine congrArg Value.bool (Eq.symm (DT.2 fun e=>?_));simp at q6;replace e:x1.map dat=x2.map dat:=e
   have e2:=congrArg (fun l=>l[k]?) e
   simp only [List.getElem?_map,hu1,hu2,Option.map_some,Option.some.injEq] at e2;exact q6 (by simpa [DU,Ee,DD] using e2)
  refine s3 ?_;refine Be rfl rfl rfl (Bc iR) (s2 ?_);refine ⟨k+1,sb,ms,?_,?_⟩
  ·exact ⟨by omega,GE ht (by rw [List.getElem?_map,hu1];rfl) (by rw [List.getElem?_map,hu2];rfl) (by simpa [DU,Ee,DD] using q6)⟩
  (try dsimp only);omega
 refine BF (s5 ?_);refine AE rfl (Ab rfl) ⟨?_,rfl⟩ ms;refine congrArg Value.bool (Eq.symm (Fj.2 ?_))
 have hk2:x1.length≤k:=by simpa using q4
 have h3:=ht
 rw [List.take_of_length_le (by simp;omega),List.take_of_length_le (by simp;omega)] at h3;exact h3
theorem Zc (t1:TL CF) (left:Int) (hl:0≤left) (hm:left≤1048576) (h1:rd w [] t1) (ho:Ok.ok (dat t1)):Sp 20 [t1.hdr,.int .i64 left] w [] (IsV (.int .i64 (if (Bk.bulk t1:Int)≤left then left - (Bk.bulk t1:Int) else -1))):=by
  obtain ⟨a1,c1,e1,x1,y1⟩:=t1
  have hm1:x1.length≤9223372036854775807:=EQ h1
  rw [PW];dsimp only [TL.hdr];refine Spec.intro func20 rfl ntmps20 rfl (s8 ?_);refine CT rfl rfl Wa.h ?_;refine Be rfl rfl rfl (NY iR) (s8 ?_);refine kp [0,1,11] ?_;refine Ai rfl (fun q2=>?_) (fun q2=>?_)
  · have hb0:left - (x1.length:Int) < 0:=by simpa using q2
    refine s5 ?_;refine AE rfl (Ab rfl) ⟨?_,rfl⟩ ms
    first
      | (rw [if_neg (by simp only [Int.natCast_add];omega)];done)
      | (rw [if_neg (by have:=Gi x1 (k+1);simp only [Int.natCast_add];omega)];done)
      | (have hk2:x1.length≤k:=by simpa using q5
         rw [List.take_of_length_le hk2] at ht ⊢;rw [if_pos (by simp only [Int.natCast_add];omega)];congr 1;simp only [Int.natCast_add];omega)
  have hb0:¬ (left - (x1.length:Int) < 0):=by simpa using q2
  refine s7 ?_
  have h0:left - (x1.length:Int)=left - (x1.length:Int) - (DI (x1.take 0):Int):=by simp [DI]
  rw [h0];refine DO (σ:=Nat) 0 (fun (k:Nat)=>[(1,.int .i64 (left - (x1.length:Int) - (DI (x1.take k):Int))),(5,.int .i64 (k:Int))]) (fun (k:Nat)=>[]) (fun (k:Nat)=>k≤x1.length∧0≤(left - (x1.length:Int) - (DI (x1.take k):Int))) (fun (k:Nat)=>x1.length - k) [(0,_)] [] ?_ sb ms ?_
  · exact ⟨Nat.zero_le _,by simp [DI];omega⟩
  rintro k ⟨hk,ht⟩;refine kq [0,1,5] ?_;refine s5 ?_;refine CT rfl rfl Wa.h (s2 ?_);refine kp [0,1,5,15] ?_;refine Ai rfl (fun q5=>?_) (fun q5=>?_)
  · have hk1:k < x1.length:=by simpa using q5
    obtain ⟨g1,o1,rfl⟩:=DP h1 hk1;obtain ⟨u1,hu1⟩:=Eb hk1
    have hbs:=Pf hu1
    have hble:=Gi x1 (k+1)
    refine s7 ?_;refine AI rfl rfl rfl Wa.h rfl om ?_;refine AW rfl rfl (by first | exact Ag mm | exact Br (Cells.el h1 rfl hu1)) (by exact jU.h) (s1 ?_);refine Bi rfl uA.h rfl (by exact fun w hw=>ZE w _ _ om om (BG (h1.2.2.1 _ (List.mem_of_getElem? hu1)) hw) (ho.2 _ (List.mem_map.2 ⟨u1,List.mem_of_getElem? hu1,rfl⟩))) (s7 ?_);refine kp [0,1,5,25] ?_;refine Ai rfl (fun q8=>?_) (fun q8=>?_)
    · have hb1:¬ ((Bk.bulk u1:Int)≤(left - (x1.length:Int) - (DI (x1.take k):Int))):=by
        intro hn;rw [if_pos hn] at q8;simp at q8;omega
      refine s5 ?_;refine AE rfl (Ab rfl) ⟨?_,rfl⟩ ms
      first
        | (rw [if_neg (by simp only [Int.natCast_add];omega)];done)
        | (rw [if_neg (by have:=Gi x1 (k+1);simp only [Int.natCast_add];omega)];done)
        | (have hk2:x1.length≤k:=by simpa using q5
           rw [List.take_of_length_le hk2] at ht ⊢;rw [if_pos (by simp only [Int.natCast_add];omega)];congr 1;simp only [Int.natCast_add];omega)
    have hb1:(Bk.bulk u1:Int)≤(left - (x1.length:Int) - (DI (x1.take k):Int)):=by
      rcases Int.decLt (left - (x1.length:Int) - (DI (x1.take k):Int)) (Bk.bulk u1:Int) with hn | hn
      · omega
      · rw [if_neg om] at q8;simp at q8
    rw [if_pos hb1]
    have hnx:(left - (x1.length:Int) - (DI (x1.take k):Int)) - (Bk.bulk u1:Int)=left - (x1.length:Int) - (DI (x1.take (k+1)):Int):=by rw [hbs];omega
    rw [hnx];refine s3 ?_;refine Be rfl rfl rfl (Bc iR) (s2 ?_);refine ⟨k+1,sb,ms,?_,?_⟩
    · exact ⟨by omega,by omega⟩
    (try dsimp only);omega
  refine BF (s6 ?_);refine AE rfl (Ab rfl) ⟨?_,rfl⟩ ms
  first
    | (rw [if_neg (by simp only [Int.natCast_add];omega)];done)
    | (rw [if_neg (by have:=Gi x1 (k+1);simp only [Int.natCast_add];omega)];done)
    | (have hk2:x1.length≤k:=by simpa using q5
       rw [List.take_of_length_le hk2] at ht ⊢;rw [if_pos (by simp only [Int.natCast_add];omega)];congr 1;simp only [Int.natCast_add];omega)
theorem LK (t1:TL CF) (h1:rd w [] t1) (hb:Bk.bulk t1≤1048576):Sp 22 [t1.hdr] w [] (fun v M=>∃ t2:TL CF,v=t2.hdr∧dat t2=dat t1∧M=[Af t2]):=by
 obtain ⟨a1,c1,e1,x1,y1⟩:=t1;rw [PW] at hb;dsimp only [TL.hdr];refine Spec.intro func22 rfl ntmps22 rfl (s7 ?_);refine CT rfl rfl Wa.h ?_;refine dF (τ:=CF) ((0:Int),(0:Int),(0:Int),((0:Int),(0:Int)),((0:Int),(0:Int),(0:Int),ByteArray.empty,ByteArray.empty,ByteArray.empty,(0:Int),(TL.nil ByteArray 0))) rfl rfl rfl Hh.h rfl rfl (FQ (Es trivial) (FQ (Es trivial) (FQ (Es trivial) (FQ (FQ (Es trivial) (Es trivial)) (FQ (Es trivial) (FQ (Es trivial) (FQ (Es trivial) (FQ (HA trivial) (FQ (HA trivial) (FQ (HA trivial) (FQ (Es trivial) (Tz 0)))))))))))) om (by unfold maxLen;omega) (fun g=>s8 ?_);refine DO (σ:=Nat×List CF) (0,List.replicate x1.length ((0:Int),(0:Int),(0:Int),((0:Int),(0:Int)),((0:Int),(0:Int),(0:Int),ByteArray.empty,ByteArray.empty,ByteArray.empty,(0:Int),(TL.nil ByteArray 0)))) (fun (p:Nat×List CF)=>[(4,.int .i64 (p.1:Int))]) (fun (p:Nat×List CF)=>[Af (⟨some ⟨g,0,none⟩,x1.length,40,p.2,[]⟩:TL CF)]) (fun (p:Nat×List CF)=>p.1≤x1.length∧p.2.length=x1.length∧(p.2.take p.1).map dat=(x1.take p.1).map dat) (fun (p:Nat×List CF)=>x1.length - p.1) [(0,_),(3,_)] [] ?_ sb ms ?_
 ·exact ⟨Nat.zero_le _,by simp,by simp⟩
 rintro ⟨k,cur⟩ ⟨hk,hlen,hdat⟩;dsimp only at hk hlen hdat;refine kq [0,3,4] ?_;refine s5 ?_;refine CT rfl rfl Wa.h (s2 ?_);refine kp [0,3,4,11] ?_;refine Ai rfl (fun q3=>?_) (fun q3=>?_)
 ·have hk1:k < x1.length:=by simpa using q3
  obtain ⟨g1,o1,rfl⟩:=DP h1 hk1;obtain ⟨u1,hu1⟩:=Eb hk1
  have hub:Bk.bulk u1≤1048576:=by have:=XE (List.mem_of_getElem? hu1);omega
  refine s8 ?_;refine AI rfl rfl rfl Wa.h rfl om ?_;refine AW rfl rfl (by first | exact Ag mm | exact Br (Cells.el h1 rfl hu1)) (by exact jU.h) ?_;refine AV rfl uB.h rfl (by exact fun w hw=>ZF w _ (BG (h1.2.2.1 _ (List.mem_of_getElem? hu1)) hw) hub) ?_;rintro v M1 ⟨u2,hv,hd,rfl⟩;subst hv;simp only [List.cons_append,List.nil_append];refine AI rfl rfl rfl Hh.h rfl om ?_;obtain ⟨u0,hu0⟩:=Eb (show k < cur.length by omega);refine Wf u2 rfl rfl pk rfl hu0 rfl pk (.inl NK.h) (s3 ?_);refine Be rfl rfl rfl (Bc iR) (s2 ?_);refine ⟨(k+1,cur.set k u2),sb,ms,?_,?_⟩
  ·exact ⟨by dsimp only;omega,by simpa using hlen,Sg dat dat hdat om hu1 hd⟩
  dsimp only;omega
 refine BF (s6 ?_);refine AE rfl (Ab rfl) ⟨⟨some ⟨g,0,none⟩,x1.length,40,cur,[]⟩,?_,?_,rfl⟩ ms
 ·show _=Value.slice _ cur.length _;rw [hlen]
 have hk2:x1.length≤k:=by simpa using q3
 rw [List.take_of_length_le om,List.take_of_length_le om] at hdat;exact hdat
theorem Wb (t1:TL CF) (k0:Nat) (hk0:0 < k0) (hb:k0+Mk.cnt t1 < 9223372036854775807):Sp 26 [t1.hdr,.int .i64 (k0:Int)] w [Af t1] (fun v M=>v=.int .i64 ((k0+Mk.cnt t1:Nat):Int)∧M=[Af (Mk.mkd k0 t1)]):=by
 obtain ⟨a1,c1,e1,x1,y1⟩:=t1;replace hb:k0+CL x1 < 9223372036854775807:=hb;dsimp only [TL.hdr];refine Spec.intro func26 rfl ntmps26 rfl ?_;refine Lp (fun w h=>II (h.prs _ (List.mem_cons_self ..))) fun hF=>?_;replace hF:x1.length≤9223372036854775807∧(0 < x1.length→∃ g,a1=some ⟨g,0,none⟩):=hF;refine s10 ?_;refine AS (M':=[Af (⟨a1,c1,e1,Cr k0 0 x1,y1⟩:TL CF)]) (fun w h=>by rw [IC];exact h) ?_;refine DO (σ:=Nat) 0 (fun (i:Nat)=>[(1,.int .i64 ((k0+CL (x1.take i):Nat):Int)),(5,.int .i64 (i:Int))]) (fun (i:Nat)=>[Af (⟨a1,c1,e1,Cr k0 i x1,y1⟩:TL CF)]) (fun (i:Nat)=>i≤x1.length) (fun (i:Nat)=>x1.length - i) [(0,_)] [] ?_ sb ms ?_
 ·exact Nat.zero_le _
 rintro i hi;refine kq [0,1,5] ?_;refine s5 ?_;refine CT rfl rfl Hh.h (s2 ?_);refine kp [0,1,5,9] ?_;refine Ai rfl (fun q2=>?_) (fun q2=>?_)
 ·have hk1:i < x1.length:=by simpa using q2
  obtain ⟨g,rfl⟩:=hF.2 om;obtain ⟨u,hu⟩:=Eb hk1
  have hs:=Dy hu
  have hle:=DY x1 (i+1)
  have hlh:=Hk k0 i x1
  obtain ⟨b1,b2,b3,⟨b41,b42⟩,⟨b51,b52,b53,b54,b55,b56,b57,b58⟩⟩:=u;simp only [Cw,CI,CJ] at hs;obtain ⟨K,hK⟩:∃ K:Nat,k0+CL (x1.take i)=K:=⟨_,rfl⟩;rw [hK];rw [← MD (CW (k:=k0) hu)];refine s8 ?_;refine AI rfl rfl rfl Hh.h rfl om (s1 ?_);refine BN (fo:=0) (x':=((((K:Nat):Int),b2,b3,(b41,b42),(b51,b52,b53,b54,b55,b56,b57,b58)):CF)) rfl rfl pk rfl om (fun w h=>by exact ⟨(by exact trivial),h.2.1,h.2.2.1,⟨h.2.2.2.1.1,h.2.2.2.1.2⟩,⟨h.2.2.2.2.1,h.2.2.2.2.2.1,h.2.2.2.2.2.2.1,h.2.2.2.2.2.2.2.1,h.2.2.2.2.2.2.2.2.1,h.2.2.2.2.2.2.2.2.2.1,h.2.2.2.2.2.2.2.2.2.2.1,h.2.2.2.2.2.2.2.2.2.2.2⟩⟩) AM.h (s4 ?_);refine Be rfl rfl rfl (Bc iR) (s2 ?_);rw [show ((K:Nat):Int)+1=((K+1:Nat):Int) from rfl];refine s5 ?_;refine AI rfl rfl rfl Hh.h rfl om (s1 ?_);refine BN (fo:=1) (x':=((((K:Nat):Int),((K+1:Nat):Int),b3,(b41,b42),(b51,b52,b53,b54,b55,b56,b57,b58)):CF)) rfl rfl pk rfl om (fun w h=>by exact ⟨h.1,(by exact trivial),h.2.2.1,⟨h.2.2.2.1.1,h.2.2.2.1.2⟩,⟨h.2.2.2.2.1,h.2.2.2.2.2.1,h.2.2.2.2.2.2.1,h.2.2.2.2.2.2.2.1,h.2.2.2.2.2.2.2.2.1,h.2.2.2.2.2.2.2.2.2.1,h.2.2.2.2.2.2.2.2.2.2.1,h.2.2.2.2.2.2.2.2.2.2.2⟩⟩) AM.h (s4 ?_);refine Be rfl rfl rfl (Bc iR) (s2 ?_);rw [show ((K+1:Nat):Int)+1=((K+2:Nat):Int) from rfl];refine s5 ?_;refine AI rfl rfl rfl Hh.h rfl om (s1 ?_);refine BN (fo:=2) (x':=((((K:Nat):Int),((K+1:Nat):Int),((K+2:Nat):Int),(b41,b42),(b51,b52,b53,b54,b55,b56,b57,b58)):CF)) rfl rfl pk rfl om (fun w h=>by exact ⟨h.1,h.2.1,(by exact trivial),⟨h.2.2.2.1.1,h.2.2.2.1.2⟩,⟨h.2.2.2.2.1,h.2.2.2.2.2.1,h.2.2.2.2.2.2.1,h.2.2.2.2.2.2.2.1,h.2.2.2.2.2.2.2.2.1,h.2.2.2.2.2.2.2.2.2.1,h.2.2.2.2.2.2.2.2.2.2.1,h.2.2.2.2.2.2.2.2.2.2.2⟩⟩) AM.h (s4 ?_);refine Be rfl rfl rfl (Bc iR) (s2 ?_);rw [show ((K+2:Nat):Int)+1=((K+3:Nat):Int) from rfl];refine s5 ?_;refine AI rfl rfl rfl Hh.h rfl om (s2 ?_);refine BN (fo:=3) (x':=((((K:Nat):Int),((K+1:Nat):Int),((K+2:Nat):Int),(((K+3:Nat):Int),b42),(b51,b52,b53,b54,b55,b56,b57,b58)):CF)) rfl rfl pk rfl om (fun w h=>by exact ⟨h.1,h.2.1,h.2.2.1,⟨(by exact trivial),h.2.2.2.1.2⟩,⟨h.2.2.2.2.1,h.2.2.2.2.2.1,h.2.2.2.2.2.2.1,h.2.2.2.2.2.2.2.1,h.2.2.2.2.2.2.2.2.1,h.2.2.2.2.2.2.2.2.2.1,h.2.2.2.2.2.2.2.2.2.2.1,h.2.2.2.2.2.2.2.2.2.2.2⟩⟩) AM.h (s4 ?_);refine Be rfl rfl rfl (Bc iR) (s2 ?_);rw [show ((K+3:Nat):Int)+1=((K+4:Nat):Int) from rfl];refine s5 ?_;refine AI rfl rfl rfl Hh.h rfl om (s2 ?_);refine BN (fo:=4) (x':=((((K:Nat):Int),((K+1:Nat):Int),((K+2:Nat):Int),(((K+3:Nat):Int),((K+4:Nat):Int)),(b51,b52,b53,b54,b55,b56,b57,b58)):CF)) rfl rfl pk rfl om (fun w h=>by exact ⟨h.1,h.2.1,h.2.2.1,⟨h.2.2.2.1.1,(by exact trivial)⟩,⟨h.2.2.2.2.1,h.2.2.2.2.2.1,h.2.2.2.2.2.2.1,h.2.2.2.2.2.2.2.1,h.2.2.2.2.2.2.2.2.1,h.2.2.2.2.2.2.2.2.2.1,h.2.2.2.2.2.2.2.2.2.2.1,h.2.2.2.2.2.2.2.2.2.2.2⟩⟩) AM.h (s4 ?_);refine Be rfl rfl rfl (Bc iR) (s2 ?_);rw [show ((K+4:Nat):Int)+1=((K+5:Nat):Int) from rfl];refine s5 ?_;refine AI rfl rfl rfl Hh.h rfl om (s2 ?_);refine BN (fo:=5) (x':=((((K:Nat):Int),((K+1:Nat):Int),((K+2:Nat):Int),(((K+3:Nat):Int),((K+4:Nat):Int)),(((K+5:Nat):Int),b52,b53,b54,b55,b56,b57,b58)):CF)) rfl rfl pk rfl om (fun w h=>by exact ⟨h.1,h.2.1,h.2.2.1,⟨h.2.2.2.1.1,h.2.2.2.1.2⟩,⟨(by exact trivial),h.2.2.2.2.2.1,h.2.2.2.2.2.2.1,h.2.2.2.2.2.2.2.1,h.2.2.2.2.2.2.2.2.1,h.2.2.2.2.2.2.2.2.2.1,h.2.2.2.2.2.2.2.2.2.2.1,h.2.2.2.2.2.2.2.2.2.2.2⟩⟩) AM.h (s4 ?_);refine Be rfl rfl rfl (Bc iR) (s2 ?_);rw [show ((K+5:Nat):Int)+1=((K+6:Nat):Int) from rfl];refine s5 ?_;refine AI rfl rfl rfl Hh.h rfl om (s2 ?_);refine BN (fo:=6) (x':=((((K:Nat):Int),((K+1:Nat):Int),((K+2:Nat):Int),(((K+3:Nat):Int),((K+4:Nat):Int)),(((K+5:Nat):Int),((K+6:Nat):Int),b53,b54,b55,b56,b57,b58)):CF)) rfl rfl pk rfl om (fun w h=>by exact ⟨h.1,h.2.1,h.2.2.1,⟨h.2.2.2.1.1,h.2.2.2.1.2⟩,⟨h.2.2.2.2.1,(by exact trivial),h.2.2.2.2.2.2.1,h.2.2.2.2.2.2.2.1,h.2.2.2.2.2.2.2.2.1,h.2.2.2.2.2.2.2.2.2.1,h.2.2.2.2.2.2.2.2.2.2.1,h.2.2.2.2.2.2.2.2.2.2.2⟩⟩) AM.h (s4 ?_);refine Be rfl rfl rfl (Bc iR) (s2 ?_);rw [show ((K+6:Nat):Int)+1=((K+7:Nat):Int) from rfl];refine s5 ?_;refine AI rfl rfl rfl Hh.h rfl om (s2 ?_);refine BN (fo:=7) (x':=((((K:Nat):Int),((K+1:Nat):Int),((K+2:Nat):Int),(((K+3:Nat):Int),((K+4:Nat):Int)),(((K+5:Nat):Int),((K+6:Nat):Int),((K+7:Nat):Int),b54,b55,b56,b57,b58)):CF)) rfl rfl pk rfl om (fun w h=>by exact ⟨h.1,h.2.1,h.2.2.1,⟨h.2.2.2.1.1,h.2.2.2.1.2⟩,⟨h.2.2.2.2.1,h.2.2.2.2.2.1,(by exact trivial),h.2.2.2.2.2.2.2.1,h.2.2.2.2.2.2.2.2.1,h.2.2.2.2.2.2.2.2.2.1,h.2.2.2.2.2.2.2.2.2.2.1,h.2.2.2.2.2.2.2.2.2.2.2⟩⟩) AM.h (s4 ?_);refine Be rfl rfl rfl (Bc iR) (s2 ?_);rw [show ((K+7:Nat):Int)+1=((K+8:Nat):Int) from rfl];refine s5 ?_;refine Bi rfl JV.h rfl (by exact fun w hw=>Du w (K+8) om om) ?_;refine AI rfl rfl rfl Hh.h rfl om (s2 ?_);refine BN (fo:=8) (x':=((((K:Nat):Int),((K+1:Nat):Int),((K+2:Nat):Int),(((K+3:Nat):Int),((K+4:Nat):Int)),(((K+5:Nat):Int),((K+6:Nat):Int),((K+7:Nat):Int),(mtx (K+8)),b55,b56,b57,b58)):CF)) rfl rfl pk rfl om (fun w h=>by exact ⟨h.1,h.2.1,h.2.2.1,⟨h.2.2.2.1.1,h.2.2.2.1.2⟩,⟨h.2.2.2.2.1,h.2.2.2.2.2.1,h.2.2.2.2.2.2.1,(by exact trivial),h.2.2.2.2.2.2.2.2.1,h.2.2.2.2.2.2.2.2.2.1,h.2.2.2.2.2.2.2.2.2.2.1,h.2.2.2.2.2.2.2.2.2.2.2⟩⟩) ED.h (s4 ?_);refine Be rfl rfl rfl (Bc iR) (s2 ?_);rw [show ((K+8:Nat):Int)+1=((K+9:Nat):Int) from rfl];refine s5 ?_;refine Bi rfl JV.h rfl (by exact fun w hw=>Du w (K+9) om om) ?_;refine AI rfl rfl rfl Hh.h rfl om (s2 ?_);refine BN (fo:=9) (x':=((((K:Nat):Int),((K+1:Nat):Int),((K+2:Nat):Int),(((K+3:Nat):Int),((K+4:Nat):Int)),(((K+5:Nat):Int),((K+6:Nat):Int),((K+7:Nat):Int),(mtx (K+8)),(mtx (K+9)),b56,b57,b58)):CF)) rfl rfl pk rfl om (fun w h=>by exact ⟨h.1,h.2.1,h.2.2.1,⟨h.2.2.2.1.1,h.2.2.2.1.2⟩,⟨h.2.2.2.2.1,h.2.2.2.2.2.1,h.2.2.2.2.2.2.1,h.2.2.2.2.2.2.2.1,(by exact trivial),h.2.2.2.2.2.2.2.2.2.1,h.2.2.2.2.2.2.2.2.2.2.1,h.2.2.2.2.2.2.2.2.2.2.2⟩⟩) ED.h (s4 ?_);refine Be rfl rfl rfl (Bc iR) (s2 ?_);rw [show ((K+9:Nat):Int)+1=((K+10:Nat):Int) from rfl];refine s5 ?_;refine Bi rfl JV.h rfl (by exact fun w hw=>Du w (K+10) om om) ?_;refine AI rfl rfl rfl Hh.h rfl om (s2 ?_);refine BN (fo:=10) (x':=((((K:Nat):Int),((K+1:Nat):Int),((K+2:Nat):Int),(((K+3:Nat):Int),((K+4:Nat):Int)),(((K+5:Nat):Int),((K+6:Nat):Int),((K+7:Nat):Int),(mtx (K+8)),(mtx (K+9)),(mtx (K+10)),b57,b58)):CF)) rfl rfl pk rfl om (fun w h=>by exact ⟨h.1,h.2.1,h.2.2.1,⟨h.2.2.2.1.1,h.2.2.2.1.2⟩,⟨h.2.2.2.2.1,h.2.2.2.2.2.1,h.2.2.2.2.2.2.1,h.2.2.2.2.2.2.2.1,h.2.2.2.2.2.2.2.2.1,(by exact trivial),h.2.2.2.2.2.2.2.2.2.2.1,h.2.2.2.2.2.2.2.2.2.2.2⟩⟩) ED.h (s4 ?_);refine Be rfl rfl rfl (Bc iR) (s2 ?_);rw [show ((K+10:Nat):Int)+1=((K+11:Nat):Int) from rfl];refine s5 ?_;refine AI rfl rfl rfl Hh.h rfl om (s2 ?_);refine BN (fo:=11) (x':=((((K:Nat):Int),((K+1:Nat):Int),((K+2:Nat):Int),(((K+3:Nat):Int),((K+4:Nat):Int)),(((K+5:Nat):Int),((K+6:Nat):Int),((K+7:Nat):Int),(mtx (K+8)),(mtx (K+9)),(mtx (K+10)),((K+11:Nat):Int),b58)):CF)) rfl rfl pk rfl om (fun w h=>by exact ⟨h.1,h.2.1,h.2.2.1,⟨h.2.2.2.1.1,h.2.2.2.1.2⟩,⟨h.2.2.2.2.1,h.2.2.2.2.2.1,h.2.2.2.2.2.2.1,h.2.2.2.2.2.2.2.1,h.2.2.2.2.2.2.2.2.1,h.2.2.2.2.2.2.2.2.2.1,(by exact trivial),h.2.2.2.2.2.2.2.2.2.2.2⟩⟩) AM.h (s4 ?_);refine Be rfl rfl rfl (Bc iR) (s2 ?_);rw [show ((K+11:Nat):Int)+1=((K+12:Nat):Int) from rfl];refine s3 ?_;refine AI rfl rfl rfl Hh.h rfl om (s2 ?_);refine AY (fo:=12) rfl rfl (by exact Lj (L:=(⟨some ⟨g,0,none⟩,c1,e1,((Cr k0 i x1).set i ((((K:Nat):Int),((K+1:Nat):Int),((K+2:Nat):Int),(((K+3:Nat):Int),((K+4:Nat):Int)),(((K+5:Nat):Int),((K+6:Nat):Int),((K+7:Nat):Int),(mtx (K+8)),(mtx (K+9)),(mtx (K+10)),((K+11:Nat):Int),b58)):CF)),y1⟩:TL CF)) mm rfl (DW (CW (k:=k0) hu))) MH.h rfl (s1 ?_);refine AA (fun w h=>Lo (L:=(⟨some ⟨g,0,none⟩,c1,e1,((Cr k0 i x1).set i ((((K:Nat):Int),((K+1:Nat):Int),((K+2:Nat):Int),(((K+3:Nat):Int),((K+4:Nat):Int)),(((K+5:Nat):Int),((K+6:Nat):Int),((K+7:Nat):Int),(mtx (K+8)),(mtx (K+9)),(mtx (K+10)),((K+11:Nat):Int),b58)):CF)),y1⟩:TL CF)) (DW (CW (k:=k0) hu)) (Bt pk h)) ?_;refine AA (fun _=>Bx) ?_;refine AA (fun _=>Bt (Pick.there _ (Pick.here _))) ?_;refine AA (fun _=>Bx) ?_;refine AA (fun _=>Bt (Pick.there _ (Pick.here _))) ?_;refine AA (fun _=>Bx) ?_;refine AA (fun _=>Bt (Pick.there _ (Pick.here _))) ?_;refine AA (fun _=>Bx) ?_;refine AA (fun _=>Bt (Pick.there _ (Pick.here _))) ?_;refine AA (fun _=>Bx) ?_;refine AA (fun _=>Bt (Pick.there _ (Pick.here _))) ?_;refine AA (fun _=>Bx) ?_;refine AA (fun _=>Bt (Pick.there _ (Pick.here _))) ?_;refine AA (fun _=>Bx) ?_;refine AA (fun _=>Bt (Pick.there _ (Pick.here _))) ?_;refine AA (fun _=>Bx) ?_;refine AA (fun _=>Bt (Pick.there _ (Pick.here _))) ?_;refine AA (fun _=>Bx) ?_;refine AA (fun _=>Bt (Pick.there _ (Pick.here _))) ?_;refine AA (fun _=>Bx) ?_;refine AA (fun _=>Bt (Pick.there _ (Pick.here _))) ?_;refine AA (fun _=>Bx) ?_;refine AA (fun _=>Bt (Pick.there _ (Pick.here _))) ?_;refine Hr rfl iP.h rfl (Pick.here _) (by exact fun w hw=>KP w b58 (K+12) om om) ?_;rintro v M1 ⟨hv,rfl⟩;subst hv;simp only [List.cons_append,List.nil_append];refine AA (fun _=>BS (Pick.here _)) ?_;refine AA (fun _=>BS (Pick.here _)) ?_;refine AA (fun _=>BS (Pick.here _)) ?_;refine AA (fun _=>BS (Pick.here _)) ?_;refine AA (fun _=>BS (Pick.here _)) ?_;refine AA (fun _=>BS (Pick.here _)) ?_;refine AA (fun _=>BS (Pick.here _)) ?_;refine AA (fun _=>BS (Pick.here _)) ?_;refine AA (fun _=>BS (Pick.here _)) ?_;refine AA (fun _=>BS (Pick.here _)) ?_;refine AA (fun _=>BS (Pick.here _)) ?_;refine AA (M':=Af (⟨some ⟨g,0,none⟩,c1,e1,(((Cr k0 i x1).set i ((((K:Nat):Int),((K+1:Nat):Int),((K+2:Nat):Int),(((K+3:Nat):Int),((K+4:Nat):Int)),(((K+5:Nat):Int),((K+6:Nat):Int),((K+7:Nat):Int),(mtx (K+8)),(mtx (K+9)),(mtx (K+10)),((K+11:Nat):Int),b58)):CF)).set i ((((K:Nat):Int),((K+1:Nat):Int),((K+2:Nat):Int),(((K+3:Nat):Int),((K+4:Nat):Int)),(((K+5:Nat):Int),((K+6:Nat):Int),((K+7:Nat):Int),(mtx (K+8)),(mtx (K+9)),(mtx (K+10)),((K+11:Nat):Int),(Mk.mkd (K+12) b58))):CF)),y1⟩:TL CF)::_) (fun w h=>NG (L:=(⟨some ⟨g,0,none⟩,c1,e1,((Cr k0 i x1).set i ((((K:Nat):Int),((K+1:Nat):Int),((K+2:Nat):Int),(((K+3:Nat):Int),((K+4:Nat):Int)),(((K+5:Nat):Int),((K+6:Nat):Int),((K+7:Nat):Int),(mtx (K+8)),(mtx (K+9)),(mtx (K+10)),((K+11:Nat):Int),b58)):CF)),y1⟩:TL CF)) (DW (CW (k:=k0) hu)) (by simp only [CA,Gy]) h) ?_;rw [List.set_set];refine s2 ?_
  have hfin:((Cr k0 i x1).set i ((((K:Nat):Int),((K+1:Nat):Int),((K+2:Nat):Int),(((K+3:Nat):Int),((K+4:Nat):Int)),(((K+5:Nat):Int),((K+6:Nat):Int),((K+7:Nat):Int),(mtx (K+8)),(mtx (K+9)),(mtx (K+10)),((K+11:Nat):Int),(Mk.mkd (K+12) b58))):CF))=Cr k0 (i+1) x1:=by
   have h9:=Jz (k:=k0) hu
   rw [hK] at h9;try simp only [EX,Cg,Ch,Cw,CI,CJ,← Nat.add_assoc] at h9
   try simp only [List.set_set]
   exact h9
  refine AS (M':=Af (⟨some ⟨g,0,none⟩,c1,e1,(Cr k0 (i+1) x1),y1⟩:TL CF)::_) (fun w h=>by rw [← hfin];exact h) ?_
  have hE:((K+12)+Mk.cnt b58)=k0+CL (x1.take (i+1)):=by rw [hs];(try simp only [Cw,CI,CJ]);omega
  rw [hE];refine s2 ?_;refine Be rfl rfl rfl (Bc iR) (s2 ?_);refine ⟨i+1,sb,ms,?_,?_⟩
  ·show i+1≤x1.length;omega
  show x1.length - (i+1) < x1.length - i;omega
 refine BF (s6 ?_)
 have hk2:x1.length≤i:=by simpa using q2
 rw [Jy k0 hk2];refine AE rfl (Ab rfl) ⟨?_,rfl⟩ ms
 have hk2:x1.length≤i:=by simpa using q2
 rw [List.take_of_length_le hk2];rfl
end Go.Proofs.SL
namespace Go.Proofs.SL
open Go
theorem Qx {τ δ:Type} [GT τ δ] [Bk τ] [Bd τ] {l:List δ} {n k:Nat} (h:∀ x,x∈l→Bd.bd (τ:=τ) x≤n) (hk:l.length≤k):bds τ l≤k*n :=
 Nat.le_trans (mQ h) (Nat.mul_le_mul_right _ hk)
theorem fR {c:CH} (h:DN c=true):Tf c≤100:=by
 have hs:=IF h
 unfold DN at h
 by_cases h0:c.1=0
 ·rw [if_pos h0] at h;rw [of_decide_eq_true h];show 0+(0+(0+(0+(0+(0+(0+(0+0)))))))≤100;omega
 rw [if_neg h0] at h;simp only [Bool.and_eq_true,decide_eq_true_eq,Bool.or_eq_true] at h;obtain ⟨⟨⟨⟨⟨⟨⟨h1,h2⟩,h3⟩,h4⟩,h5⟩,h6⟩,h7⟩,h8⟩:=h
 have k4:=Lh h4
 have k5:=Lh h5
 have k6:=Lh h6
 have k8:bds ByteArray c.2.2.2.2.2.2.2≤4*8:=Qx (fun x hx=>by
  show x.size≤8
  by_cases h3:c.1=3
  ·rw [if_pos h3] at h8;simp only [Bool.and_eq_true] at h8
   have:=List.all_eq_true.1 h8.2 x hx
   have:=of_decide_eq_true this
   omega
  ·rw [if_neg h3] at h8
   have:=of_decide_eq_true h8
   have:=List.eq_nil_of_length_eq_zero (show c.2.2.2.2.2.2.2.length=0 by omega)
   rw [this] at hx;cases hx) hs
 unfold Tf;omega
theorem Zd {l:List AU} (h:Dl l=true):l.length+bds Bj l≤18:=by
 have h1:=Ex h
 have h2:bds Bj l≤18*0:=Qx (fun x _=>Nat.le_refl _) h1
 omega
theorem mS {x:AD} (h:InstF x):Bd.bd (τ:=Av) x≤200:=by
 have h1:=fR h.cmd
 have h2:=Zd h.deps
 rw [iQ];omega
theorem mT {x:Bb} (h:LeadF x):Bd.bd (τ:=Az) x≤200:=by
 have h2:=Zd h.deps
 have h3:=Li h.frm
 have h4:=mD x.2.2.2.2.2.1
 rw [iS];omega
theorem pA {x:Au} (h:MsgF x):Bd.bd (τ:=Ak) x≤200:=by
 have h1:=fR h.cmd
 have h2:=Zd h.deps
 rw [mR];omega
theorem mU {d:At} (h:NodeF d):Bd.bd (τ:=Ao) d≤10000:=by
 have h1:=Dh h.is
 have h2:=h.ll
 have h3:bds Av d.2.2.1≤18*200:=Qx (fun x hx=>mS (h.insF hx)) h1
 have h4:bds Az d.2.2.2≤8*200:=Qx (fun x hx=>mT (h.ldF hx)) h2
 rw [iT];omega
instance vX:Bd Ao:=inferInstance
instance vY:Bd Ak:=inferInstance
instance vZ:Bd (TL Ao):=inferInstance
instance wA:Bd (TL Ak):=inferInstance
instance wB:Bd BD:=inferInstance
theorem pC {x:Dt} (h:NetF x):Bd.bd (τ:=BD) x≤100000:=by
 have h1:=h.len
 have h2:=h.pl
 have h3:bds Ao x.1≤3*10000:=Qx (fun n hn=>by
  obtain ⟨i,hi,rfl⟩:=List.mem_iff_getElem.1 hn;exact mU (h.node i _ (List.getElem?_eq_getElem hi)).1.f) om
 have h4:bds Ak x.2≤160*200:=Qx (fun m hm=>pA (h.pool m hm)) h2
 show (x.1.length+bds Ao x.1)+(x.2.length+bds Ak x.2)≤_;omega
theorem mV (l:List Fd):Bd.bd (τ:=BD) (Kb l).1≤100000:=by
 unfold Kb
 split
 ·show (0+0)+(0+0)≤100000;omega
 exact pC (VQ l).1
theorem mW (t:TL CF) (g:BD) (h:GT.dat g=(Kb (GT.dat t)).1):Bk.bulk g≤100000:=by
 rw [Bd.eq,h];exact mV _
end Go.Proofs.SL
