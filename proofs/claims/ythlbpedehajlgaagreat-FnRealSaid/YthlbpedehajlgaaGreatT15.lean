/- The texts of the proof, part 15. -/
import Derived.Test.YthlbpedehajlgaaGreatT14
import Derived.Test.YthlbpedehajlgaaGreatT4
import Derived.Test.YthlbpedehajlgaaGreatT13
import Derived.Test.YthlbpedehajlgaaGreatT3
import Derived.Test.YthlbpedehajlgaaGreatT17
import Derived.KernelRfl
set_option linter.all false
namespace Go.Proofs.SL
open Go Tryz Go.Proofs.SL.GT
variable (w:World)
noncomputable section
set_option maxHeartbeats 2000000
instance Aay:FnF prog 35:=⟨_,func35,kr,rfl⟩
instance fn6:FnF prog 6:=⟨_,func6,kr,rfl⟩
instance fn7:FnF prog 7:=⟨_,func7,kr,rfl⟩
instance fn9:FnF prog 9:=⟨_,func9,kr,rfl⟩
instance Aaz:FnF prog 13:=⟨_,func13,kr,rfl⟩
def YU (a0:List UInt8):Option Bool :=
 some (decide (1048576 < (a0.length:Int)))
theorem iK (a0:TL UInt8) (h0:rd w [] a0) (r) (hp:YU (dat a0)=some r):Sp 6 [a0.hdr] w [] (IsV (.bool r)):=by
 refine Ay func6 rfl ntmps6 rfl ?_;unfold YU at hp;replace hp:=dd hp;refine s11 ?_;exact fB
def PN (a0:Bq) (a1:CQ):Option (Bq×Bool) :=
 (Pw a0).bind fun y1=>cond (!y1) (some ((([]:List Ap),([]:List Ao)),false)) ((Rv a0 a1).bind fun y3=>some (y3))
theorem YC (a0:Dt) (a1:EN) (h0:rd w [] a0) (h1:rd w [] a1) (r) (hp:PN (dat a0) (dat a1)=some r):Sp 9 [.agg (cells a0).toArray,.agg (cells a1).toArray] w [] (fun v M=>∃ (x0:Dt) (x1:Bool),v=.tuple #[.agg (cells x0).toArray,.bool x1]∧(dat x0,dat x1)=r∧M=[Af x0]):=by
 obtain ⟨a4,a5⟩:=a0;obtain ⟨aa,ab,ac,⟨ad,ae⟩,⟨af,ag,ah,ai,a6,a7,a8,a9⟩⟩:=a1;refine sa ?_;refine Ay func9 rfl ntmps9 rfl ?_;unfold PN at hp;replace hp:=dd hp;refine s2 ?_;refine bx fun an=>?_;refine bx fun ao=>?_;refine al fun ap=>?_;refine s6 ?_;revert hp;refine bc fun y1 ak hp=>?_;refine BH rfl Aay.h rfl (by exact fun w hw=>Yt w (a4,a5) (Aq (Aa (Ab h0.1) (Ab h0.2)) hw) _ ak) (s2 ?_);revert hp;refine kC [2,3,4,8] (fun q2 hp=>?_) fun q2 hp=>?_
 ·refine s2 ?_;refine Cg (xs:=[]) (cs:=[(TL.hdr (TL.nil AA 0)),(TL.hdr (TL.nil As 0))]) rfl rfl YS.h rfl (s3 ?_);obtain rfl:=sj hp;refine AX (fun _=>Bh (τ:=AA) 0) ?_;refine AX (fun _=>Bh (τ:=As) 0) ?_;refine jW (((TL.nil AA 0),(TL.nil As 0)):Dt) ?_;refine s1 ?_;refine Cz rfl (AF rfl mm (by exact IQ.h)) (Ah rfl) ⟨((TL.nil AA 0),(TL.nil As 0)),false,rfl,rfl,rfl⟩ ms
 refine s5 ?_;revert hp;refine bc fun y3 am hp=>?_;refine AZ rfl Aal.h rfl (by exact fun w hw=>ZW w (a4,a5) (aa,ab,ac,(ad,ae),(af,ag,ah,ai,a6,a7,a8,a9)) (Aq (Aa (Ab h0.1) (Ab h0.2)) hw) (Aq (Aa Ac (Aa Ac (Aa Ac (Aa dv (Ab h1.2.2.2.2))))) hw) _ am) ?_;rintro _ _ ⟨⟨a2,a3⟩,aj,rfl,rfl,rfl⟩;refine sc ?_;replace hp:=dd hp;refine xL (_:Dt) ?_;refine s5 ?_;obtain rfl:=sj hp;refine jW ((a2,a3):Dt) ?_;refine s1 ?_;refine Cz rfl (AF rfl mm (by exact IQ.h)) (Ah rfl) ⟨(a2,a3),aj,rfl,rfl,rfl⟩ ms
def SF (a0:List UInt8):Option Bool :=
 (YU a0).bind fun y1=>cond y1 (some true) ((Iw a0).bind fun y3=>cond (decide (300 < (y3.length:Int))) (some true) ((NG ).bind fun y5=>(some ([]:List Am)).bind fun y7=>(some ([]:List Am)).bind fun y9=>Bn (fun s10:(List Am)×(List Am)×Int×(List Ap)×(List Ao)=>cond (decide (s10.2.2.1 < (y3.length:Int))) ((idx y3 s10.2.2.1).bind fun a6=>(PN s10.2.2.2 a6).bind fun a3=>gb a3.2 (idx y3 s10.2.2.1) (fun a7=>cond (a3.2&&(decide (a7.1=1))) ((idx y3 s10.2.2.1).bind fun a8=>(idx y3 s10.2.2.1).bind fun a9=>(idx s10.2.2.2.1 a9.2.1).bind fun aa=>Bn (fun s20:(List Am)×(List Am)×Int=>cond (decide (s20.2.2 < 3)) ((idx s10.2.2.2.1 s20.2.2).bind fun ab=>(Jm ab.2.2.1).bind fun a5=>Bn (fun a1:(List Am)×(List Am)×Int=>cond (decide (a1.2.2 < (a5.length:Int))) ((idx s10.2.2.2.1 s20.2.2).bind fun ac=>(idx a5 a1.2.2).bind fun ad=>(EI ac.2.2.1 ad).bind fun ae=>(idx y3 s10.2.2.1).bind fun af=>(ME ae.2.2.2.2.1 af.2.2.2.2).bind fun ag=>cond ag ((idx a5 a1.2.2).bind fun ah=>(Cj a1.1 [ah]).bind fun ai=>(Cj a1.2.1 [(a8.2.1,aa.2.1)]).bind fun aj=>some (.inl ((ai,aj,IntKind.wrap .i64 (a1.2.2+1))))) (some (.inl ((a1.1,a1.2.1,IntKind.wrap .i64 (a1.2.2+1)))))) (Option.map .inr (some (.inl ((a1.1,a1.2.1,IntKind.wrap .i64 (s20.2.2+1))))))) (s20.1,s20.2.1,0)) (Option.map .inr (some (.inl ((s20.1,s20.2.1,IntKind.wrap .i64 (s10.2.2.1+1),a3.1)))))) (s10.1,s10.2.1,0)) (some (.inl ((s10.1,s10.2.1,IntKind.wrap .i64 (s10.2.2.1+1),a3.1)))))) (Option.map .inr (Bn (fun a4:Int=>cond (decide (a4 < (s10.2.2.2.1.length:Int))) (Bn (fun a2:Int=>cond (decide (a2 < (s10.1.length:Int))) ((idx s10.2.2.2.1 a4).bind fun ak=>(idx s10.2.1 a2).bind fun am=>(EI ak.2.2.1 am).bind fun an=>(idx s10.2.2.2.1 a4).bind fun ao=>(idx s10.2.1 a2).bind fun ap=>(idx s10.1 a2).bind fun aq=>(MY ao.2.2.1 ap aq).bind fun ar=>cond (ar&&(!decide (an.2.2.2.2.1.1=0))) (Option.map .inr (Option.map .inr (some false))) (some (.inl (IntKind.wrap .i64 (a2+1))))) (Option.map .inr (some (.inl (IntKind.wrap .i64 (a4+1)))))) 0) (Option.map .inr (some (decide ((s10.2.2.2.1.length:Int)=3))))) 0))) (y7,y9,0,y5)))
theorem YD (a0:TL UInt8) (h0:rd w [] a0) (r) (hp:SF (dat a0)=some r):Sp 3 [a0.hdr] w [] (IsV (.bool r)):=by
 refine Ay func3 rfl ntmps3 rfl ?_;unfold SF at hp;replace hp:=dd hp;refine s8 ?_;revert hp;refine bc fun y1 d1 hp=>?_;refine BH rfl fn6.h rfl (by exact fun w hw=>iK w a0 (Aq (Ab h0) hw) _ d1) (s1 ?_);revert hp;refine kC [0,18] (fun q2 hp=>?_) fun q2 hp=>?_
 ·refine s4 ?_;exact fB
 refine s4 ?_;revert hp;refine bc fun y3 d2 hp=>?_;refine AZ rfl fn7.h rfl (by exact fun w hw=>Tf w a0 (Aq (Ab h0) hw) _ d2) ?_;rintro _ _ ⟨a8,rfl,rfl,rfl⟩;refine sc ?_;replace hp:=dd hp;refine s9 ?_;revert hp;refine kC [3,23] (fun q4 hp=>?_) fun q4 hp=>?_
 ·refine s4 ?_;exact fB
 refine s3 ?_;revert hp;refine bc fun y5 d3 hp=>?_;refine AZ rfl fn8.h rfl (by exact fun w hw=>Xt w   _ d3) ?_;rintro _ _ ⟨⟨bq,br⟩,rfl,rfl,rfl⟩;refine sc ?_;replace hp:=dd hp;refine xL (_:Dt) ?_;refine al fun aq=>?_;refine s4 ?_;revert hp;refine bc fun y7 cd hp=>?_;refine Fc AS rfl BS.h (fun X6 bs=>?_);obtain rfl:dat X6=y7:=bs.trans (Option.some.inj cd);clear cd bs;refine s4 ?_;revert hp;refine bc fun y9 ce hp=>?_;refine Fc AS rfl BS.h (fun X8 bt=>?_);obtain rfl:dat X8=y9:=bt.trans (Option.some.inj ce);clear ce bt;refine s8 ?_;refine BB (σ:=(TL AS)×(TL AS)×Int×(TL AA)×(TL As)) dat (fun ((a4,a3,ad,a1,a5):(TL AS)×(TL AS)×Int×(TL AA)×(TL As))=>[(5,a4.hdr),(6,a3.hdr),(7,.int .i64 ad)]) (fun ((a4,a3,ad,a1,a5):(TL AS)×(TL AS)×Int×(TL AA)×(TL As))=>[blk aq [a1.hdr,a5.hdr] 29,Af a4,Af a3,Af a1,Af a5]) [(3,_),(4,_)] [Af a8] (X6,X8,0,bq,br) hp sb ms ?_;clear hp;rintro ⟨a4,a3,ad,a1,a5⟩ ee hp ci;replace hp:=dd hp;refine kq [3,4,5,6,7] ?_;refine s8 ?_;revert hp;refine kC [3,4,5,6,7,30] (fun d4 hp=>?_) fun d4 hp=>?_
 ·refine s4 ?_;replace hp:=AE hp;obtain ⟨⟨c4,ah,c5,⟨c6,c7⟩,⟨b4,b5,b6,b7,ar,au,av,aw⟩⟩,a2,hp⟩:=hp;revert hp;refine bc fun bu cj hp=>?_;refine BM [8,9] mix kr rfl (s3 ?_);refine Bt (X:=a8) Ai (Ag rfl) (Ag rfl) Qx.h (At mm) (fun _=>a2) ?_;refine Bw Ai (Ag rfl) (fun hg=>AN (At mm) (a2).2) gR.h ?_;refine CJ (fun v M=>∃ (x0:Dt) (x1:Bool),v=.tuple #[.agg (cells x0).toArray,.bool x1]∧(dat x0,dat x1)=bu∧M=[Af x0]) fn9.h (Ae (Ag rfl) (Ae (Ag rfl) (AC))) (by exact fun w F hF hM=>YC w (a1,a5) (c4,ah,c5,(c6,c7),(b4,b5,b6,b7,ar,au,av,aw)) (AD dv hF hM) (AD (Aa Ac (Aa Ac (Aa Ac (Aa dv (Ad (Ad (Ad (Ad (BW (At mm) (a2).2))))))))) hF hM) _ cj) ?_;refine rM (t:=39) rfl kr ?_;refine fN (t:=33) (uM (τ:=Dt) bu.1) rfl (by rintro v M ⟨x0,x1,rfl,hd,rfl⟩;exact ⟨_,_,rfl,rfl,x0,rfl,(by rw [← hd]),rfl⟩) kr ?_;refine fO (t:=33) (.bool bu.2) rfl (by rintro v M ⟨-,M',x0,x1,rfl,hd,-⟩;subst hd;exact ⟨_,rfl,rfl⟩) ?_;refine Gl vH.h ?_;refine nB (p:=8) (x:=40) rfl rfl IQ.h rfl kr (s3 ?_);refine Cm rfl rfl ?_;rintro _ _ ⟨cf,d5,rfl,c8,rfl⟩;try rw [← c8] at hp
  obtain ⟨ae,af⟩:=d5;refine s11 ?_;refine sc ?_;replace hp:=dd hp;refine xW ((ae,af):Dt) ?_;refine s2 ?_;replace hp:=Dk hp;obtain ⟨⟨dr,ds,dt,⟨du,dw⟩,⟨dy,dz,e0,e1,d6,d7,d8,d9⟩⟩,bw,hp⟩:=hp;refine BM [50] mix kr rfl (s4 ?_);refine Bt (X:=a8) (Aj rfl rfl) (Al rfl) (Al rfl) Qx.h (At mm) (fun hg=>bw hg.2) (s1 ?_);refine Bu (Aj rfl rfl) (Al rfl) (fun hg=>AN (At mm) (bw hg.2).2) Bg.h rfl (s13 ?_);revert hp;refine kC [3,4,5,6,7,8,50] (fun da hp=>?_) fun da hp=>?_
  ·refine s1 ?_;replace hp:=AE hp;obtain ⟨ef,ck,hp⟩:=hp;obtain rfl:=Option.some.inj (a2.2.symm.trans ck.2);replace hp:=AE hp;obtain ⟨eg,cl,hp⟩:=hp;obtain rfl:=Option.some.inj (a2.2.symm.trans cl.2);replace hp:=AE hp;obtain ⟨⟨e2,ao,e3,e4⟩,bz,hp⟩:=hp;refine Dv (pre:=[_,_,_,_,_,_,_,_,_,_,_,_,_,_,_,_,_]) (suf:=[_]) [10,66] [] _ pc mix kr kr rfl (s2 ?_);refine Bt (X:=a8) Ai (Ag rfl) (Ag rfl) Qx.h (At mm) (fun _=>a2) (s1 ?_);refine Bu Ai (Ag rfl) (fun hg=>AN (At mm) (a2).2) Bg.h rfl (s4 ?_);refine Bt (X:=a8) Ai (Ag rfl) (Ag rfl) Qx.h (At mm) (fun _=>a2) (s1 ?_);refine Bu Ai (Ag rfl) (fun hg=>AN (At mm) (a2).2) Bg.h rfl ?_;refine Bt (X:=a1) Ai (Ag rfl) (Ag rfl) HA.h (At mm) (fun _=>bz) (s1 ?_);refine Bu Ai (Ag rfl) (fun hg=>AN (At mm) (bz).2) Bg.h rfl ?_;refine QX (xs:=[(0,.tmp 55),(1,.tmp 65)]) (ps:=[(0,.int .i64 ah),(1,.int .i64 ao)]) (cs:=[.int .i64 ah,.int .i64 ao]) (Bj (Ag rfl) (Bj (Ag rfl) (Fi))) YM.h rfl ?_;refine Gl uQ.h (s1 ?_);refine Cm rfl rfl ?_;rintro _ _ ⟨c0,rfl,rfl⟩;simp only [aAk,aAa];refine s20 ?_;refine s4 ?_;refine BB (σ:=(TL AS)×(TL AS)×Int) dat (fun ((a9,aa,ai):(TL AS)×(TL AS)×Int)=>[(5,a9.hdr),(6,aa.hdr),(11,.int .i64 ai)]) (fun ((a9,aa,ai):(TL AS)×(TL AS)×Int)=>[Af a9,Af aa]) [(3,_),(4,_),(7,_),(8,_),(10,_)] [blk aq _ _,blk cf _ _,blk c0 _ _,Af a8,Af a1,Af a5,Af ae,Af af] (a4,a3,0) hp sb ms ?_;clear hp;rintro ⟨a9,aa,ai⟩ eh hp cm;replace hp:=dd hp;refine kq [3,4,5,6,7,8,10,11] ?_;refine s6 ?_;revert hp;refine kC [3,4,5,6,7,8,10,11,68] (fun db hp=>?_) fun db hp=>?_
   ·refine s8 ?_;replace hp:=AE hp;obtain ⟨⟨e5,e6,b8,e7⟩,ab,hp⟩:=hp;refine BU (X:=a1) rfl rfl rfl HA.h (At mm) ab (s1 ?_);refine IX rfl rfl (AN (At mm) (ab).2) II.h rfl ?_;revert hp;refine bc fun ei cn hp=>?_;refine AZ rfl vV.h rfl (by exact fun w hw=>PK w b8 (Aq (Bf (Ad (Ad (BW (At mm) (ab).2)))) hw) _ cn) ?_;rintro _ _ ⟨ap,rfl,rfl,rfl⟩;refine sc ?_;replace hp:=dd hp;refine s7 ?_;refine BB (σ:=(TL AS)×(TL AS)×Int) dat (fun ((a6,a7,ag):(TL AS)×(TL AS)×Int)=>[(5,a6.hdr),(6,a7.hdr),(13,.int .i64 ag)]) (fun ((a6,a7,ag):(TL AS)×(TL AS)×Int)=>[Af a6,Af a7]) [(3,_),(4,_),(7,_),(8,_),(10,_),(11,_),(12,_)] [blk aq _ _,blk cf _ _,blk c0 _ _,Af a8,Af ap,Af a1,Af a5,Af ae,Af af] (a9,aa,0) hp sb ms ?_;clear hp;rintro ⟨a6,a7,ag⟩ ej hp co;replace hp:=dd hp;refine kq [3,4,5,6,7,8,10,11,12,13] ?_;refine s8 ?_;revert hp;refine kC [3,4,5,6,7,8,10,11,12,13,81] (fun dc hp=>?_) fun dc hp=>?_
    ·refine s4 ?_;replace hp:=AE hp;obtain ⟨ek,cp,hp⟩:=hp;obtain rfl:=Option.some.inj (ab.2.symm.trans cp.2);replace hp:=AE hp;obtain ⟨⟨b9,bb⟩,am,hp⟩:=hp;revert hp;refine bc fun cg cq hp=>?_;replace hp:=AE hp;obtain ⟨el,cr,hp⟩:=hp;obtain rfl:=Option.some.inj (a2.2.symm.trans cr.2);revert hp;refine bc fun em ct hp=>?_;refine BM [101] mix kr rfl (s3 ?_);refine Bt (X:=a1) Ai (Ag rfl) (Ag rfl) HA.h (At mm) (fun _=>ab) (s1 ?_);refine Bu Ai (Ag rfl) (fun hg=>AN (At mm) (ab).2) II.h rfl (s2 ?_);refine Bt (X:=ap) Ai (Ag rfl) (Ag rfl) BS.h (At mm) (fun _=>am) ?_;refine Bw Ai (Ag rfl) (fun hg=>AN (At mm) (am).2) Bo.h ?_;refine CJ (fun v M=>∃ (x0:Aw),v=.agg (cells x0).toArray∧dat x0=cg∧M=[Af x0]) Qt.h (Ae (Ag rfl) (Ae (Ag rfl) (AC))) (by exact fun w F hF hM=>Fa w b8 (b9,bb) (AD (Bf (Ad (Ad (BW (At mm) (ab).2)))) hF hM) (AD dv hF hM) _ cq) ?_;refine nP (t:=94) (fun v M=>∃ x0:Aw,v=.agg (cells x0.2.2.2.2.1).toArray∧dat x0=cg∧M=[Af x0]) rfl (show gE _ 48 4=some (5,8) by kernel_rfl) (by rintro v M ⟨x,rfl,hd,rfl⟩;obtain ⟨⟨x_1,x_2⟩,x_3,x_4,x_5,⟨x_6,x_7,x_8,x_9,x_10,x_11,x_12,x_13⟩,x_14,x_15,x_16⟩:=x;exact ⟨_,rfl,_,rfl,hd,rfl⟩) kr (s2 ?_);refine Bt (X:=a8) Ai (Ag rfl) (Ag rfl) Qx.h (At mm) (fun _=>a2) (s1 ?_);refine Bw Ai (Ag rfl) (fun hg=>AW (AN (At mm) (a2).2) 5 8 rfl) CS.h ?_;refine Zv [_,_] Ai vB.h ⟨⟨_,rfl,fun _ _ h=>h⟩,⟨⟨_,rfl,fun _ _ h=>h⟩,trivial⟩⟩ (by rintro hg w F vs hF hM ⟨v0,u0,M0,rfl,g0,hin0,⟨v1,u1,M1,rfl,g1,hin1,rfl⟩⟩;obtain ⟨m0,rfl,df,rfl⟩:=g0;subst df;obtain rfl:=g1.2.1 hg;exact Tz w m0.2.2.2.2.1 (b4,b5,b6,b7,ar,au,av,aw) (Ox (hin0 _ (aAl.2 rfl)) hF.sees).2.2.2.2.1 (AD (Ad (Ad (Ad (Ad (BW (At mm) (a2).2))))) hF hM) _ ct) (s20 ?_);revert hp;refine kC [3,4,5,6,7,8,10,11,12,13,101] (fun dh hp=>?_) fun dh hp=>?_
     ·refine s5 ?_;replace hp:=AE hp;obtain ⟨en,cu,hp⟩:=hp;obtain rfl:=Option.some.inj (am.2.symm.trans cu.2);refine BU (X:=ap) rfl rfl rfl BS.h (At mm) am ?_;refine Ba rfl rfl (AN (At mm) (am).2) Bo.h ?_;refine BJ rfl rfl BS.h rfl de de rfl (fun e8=>?_);revert hp;refine bc fun eo cv hp=>?_;refine GL (X:=a6) ((b9,bb):AS) rfl rfl rfl BS.h rfl rfl pk mm  cv de (fun di c9=>?_);subst c9;refine s5 ?_;refine BJ rfl rfl BS.h rfl de de rfl (fun e9=>?_);revert hp;refine bc fun ep cw hp=>?_;refine GL (X:=a7) ((ah,ao):AS) rfl rfl rfl BS.h rfl rfl pk mm  cw de (fun dj ca=>?_);subst ca;refine s7 ?_;exact ⟨(di,dj,IntKind.wrap .i64 (ag+1)),sb,(.sub ms),AU hp⟩
     refine s6 ?_;exact ⟨(a6,a7,IntKind.wrap .i64 (ag+1)),sb,(.sub ms),AU hp⟩
    refine BG ?_;replace hp:=mxA hp co;refine s5 ?_;exact ⟨(a6,a7,IntKind.wrap .i64 (ai+1)),sb,(.sub ms),AU hp⟩
   refine BG ?_;replace hp:=mxA hp cm;refine s9 ?_;exact ⟨(a9,aa,IntKind.wrap .i64 (ad+1),ae,af),sb,(.sub ms),AU hp⟩
  refine s10 ?_;exact ⟨(a4,a3,IntKind.wrap .i64 (ad+1),ae,af),sb,(.sub ms),AU hp⟩
 refine BG ?_;replace hp:=mxA hp ci;refine s6 ?_;refine BB (σ:=Int) dat (fun (aj:Int)=>[(14,.int .i64 aj)]) (fun (aj:Int)=>[]) [(4,_),(5,_),(6,_)] [blk aq _ _,Af a4,Af a3,Af a1,Af a5] 0 hp sb ms ?_;clear hp;rintro aj eq hp c1;replace hp:=dd hp;refine kq [4,5,6,14] ?_;refine s9 ?_;revert hp;refine kC [4,5,6,14,118] (fun dk hp=>?_) fun dk hp=>?_
 ·refine s8 ?_;refine BB (σ:=Int) dat (fun (ak:Int)=>[(15,.int .i64 ak)]) (fun (ak:Int)=>[]) [(4,_),(5,_),(6,_),(14,_)] [blk aq _ _,Af a4,Af a3,Af a1,Af a5] 0 hp sb ms ?_;clear hp;rintro ak er hp c2;replace hp:=dd hp;refine kq [4,5,6,14,15] ?_;refine s8 ?_;revert hp;refine kC [4,5,6,14,15,124] (fun dl hp=>?_) fun dl hp=>?_
  ·refine s4 ?_;replace hp:=AE hp;obtain ⟨⟨ea,eb,bd,ec⟩,ac,hp⟩:=hp;replace hp:=AE hp;obtain ⟨⟨be,bf⟩,an,hp⟩:=hp;revert hp;refine bc fun dn cx hp=>?_;refine Dv (pre:=[_,_,_,_,_,_,_,_,_,_,_,_]) (suf:=[_]) [16,137] [] _ pc mix kr kr rfl (s3 ?_);refine Bt (X:=a1) Ai (Ag rfl) (Ag rfl) HA.h (At mm) (fun _=>ac) (s1 ?_);refine Bu Ai (Ag rfl) (fun hg=>AN (At mm) (ac).2) II.h rfl (s2 ?_);refine Bt (X:=a3) Ai (Ag rfl) (Ag rfl) BS.h (At mm) (fun _=>an) ?_;refine Bw Ai (Ag rfl) (fun hg=>AN (At mm) (an).2) Bo.h ?_;refine CJ (fun v M=>∃ (x0:Aw),v=.agg (cells x0).toArray∧dat x0=dn∧M=[Af x0]) Qt.h (Ae (Ag rfl) (Ae (Ag rfl) (AC))) (by exact fun w F hF hM=>Fa w bd (be,bf) (AD (Bf (Ad (Ad (BW (At mm) (ac).2)))) hF hM) (AD dv hF hM) _ cx) ?_;refine Gl GB.h (s1 ?_);refine Cm rfl rfl ?_;rintro _ _ ⟨ed,rfl,rfl⟩;simp only [aAk,aAa];refine Cm rfl rfl ?_;rintro _ _ ⟨⟨⟨bg,bh⟩,bi,bj,bk,⟨bl,bn,bo,bp,ax,ay,az,b0⟩,b1,b2,b3⟩,rfl,rfl,rfl⟩;refine s11 ?_;refine sc ?_;replace hp:=dd hp;refine xL (((bg,bh),bi,bj,bk,(bl,bn,bo,bp,ax,ay,az,b0),b1,b2,b3):Aw) ?_;refine s3 ?_;replace hp:=AE hp;obtain ⟨es,cy,hp⟩:=hp;obtain rfl:=Option.some.inj (ac.2.symm.trans cy.2);replace hp:=AE hp;obtain ⟨et,cz,hp⟩:=hp;obtain rfl:=Option.some.inj (an.2.symm.trans cz.2);replace hp:=AE hp;obtain ⟨⟨cb,cc⟩,c3,hp⟩:=hp;revert hp;refine bc fun eu d0 hp=>?_;refine BM [158] mix kr rfl (s3 ?_);refine Bt (X:=a1) Ai (Ag rfl) (Ag rfl) HA.h (At mm) (fun _=>ac) (s1 ?_);refine Bu Ai (Ag rfl) (fun hg=>AN (At mm) (ac).2) II.h rfl (s2 ?_);refine Bt (X:=a3) Ai (Ag rfl) (Ag rfl) BS.h (At mm) (fun _=>an) ?_;refine Bw Ai (Ag rfl) (fun hg=>AN (At mm) (an).2) Bo.h (s2 ?_);refine Bt (X:=a4) Ai (Ag rfl) (Ag rfl) BS.h (At mm) (fun _=>c3) ?_;refine Bw Ai (Ag rfl) (fun hg=>AN (At mm) (c3).2) Bo.h ?_;refine AT Ai Aaz.h (Ae (Ag rfl) (Ae (Ag rfl) (Ae (Ag rfl) (AC)))) (by exact fun hg w F hF hM=>Yy w bd (be,bf) (cb,cc) (AD (Bf (Ad (Ad (BW (At mm) (ac).2)))) hF hM) (AD dv hF hM) (AD dv hF hM) _ d0) (s3 ?_);refine Bu (fo:=5) (Aj rfl rfl) (Al rfl) (fun hg=>Ax mm) Bg.h rfl (s20 ?_);refine s5 ?_;revert hp;refine kC [4,5,6,14,15,158] (fun dp hp=>?_) fun dp hp=>?_
   ·refine s4 ?_;replace hp:=mxA hp c2;replace hp:=mxA hp c1;exact fB
   refine s6 ?_;exact ⟨IntKind.wrap .i64 (ak+1),sb,(.sub ms),AU hp⟩
  refine BG ?_;replace hp:=mxA hp c2;refine s5 ?_;exact ⟨IntKind.wrap .i64 (aj+1),sb,(.sub ms),AU hp⟩
 refine BG ?_;replace hp:=mxA hp c1;refine s8 ?_;exact fB
end
end Go.Proofs.SL
namespace Go.Proofs.SL
open Go
theorem iL {α:Type} {l:List α} (h:l.Nodup) {k:Nat} {x:α} (hx:l[k]?=some x):x ∉ l.take k:=fun hm=>by
 obtain ⟨j,hj,e⟩:=aDs.1 hm;rw [List.getElem_take] at e;rw [aB3] at hj;obtain ⟨hk,e2⟩:=aA2.1 hx;rw [aDa,aBv] at h;exact h j k om hk om (e.trans e2.symm)
theorem sT {l:List Ao} (h:l.Nodup) {k:Nat} {x:Ao} (hx:l[k]?=some x):Km (l.take k) x=false:=by
 rw [aCe];exact fun e=>iL h hx (Vr.1 e)
theorem dD {x:Bq} (h:NetF x):Pw x=some true:=by
 have h3:=h.len;have hpl:=h.pl;unfold Pw;rw [aA6 (show (x.1.length:Int)=3 by omega),aA5 (show ¬ 160 < (x.2.length:Int) by omega),aAe,aCm,aA3];refine CN (fun s:Int=>∃ k:Nat,k≤3∧s=(k:Int)) (fun s=>(3 - s).toNat) ?_ ⟨0,by omega,rfl⟩;rintro _ ⟨k,hk,rfl⟩;by_cases hlt:k < 3
 ·left;have hx:x.1[k]?=some x.1[k]:=aA1 om;generalize x.1[k]=n at hx;obtain ⟨hg,hme⟩:=h.node k n hx;rw [aA6 (show (k:Int) < (x.1.length:Int) by omega),aA8,By,hx,ob,show Fo _=_ from It (d:=n) hg.f.okk,ob,nodeF.ok hg.f,aA6 hme,aAe,aCm,aA3,BT iR];exact ⟨_,rfl,⟨k+1,hlt,by simp⟩,by omega⟩
 right;have:k=3:=by omega
 subst this;rw [aA5 (show ¬ ((3:Nat):Int) < (x.1.length:Int) by omega),aA3];refine Jb ?_;refine CN (fun s:Int=>∃ k:Nat,k≤x.2.length∧s=(k:Int)) (fun s=>(x.2.length - s).toNat) ?_ ⟨0,aAn _,rfl⟩;rintro _ ⟨j,hj,rfl⟩;by_cases hjl:j < x.2.length
 ·left;have hx:x.2[j]?=some x.2[j]:=aA1 hjl;have hm:=aBw hjl;generalize x.2[j]=m at hx hm;have hmf:=h.pool m hm;rw [aA6 (show (j:Int) < (x.2.length:Int) by omega),aA8,By,hx,ob,show Lb _=_ from UP (m:=m) hmf.okk,ob,SA.2 hmf,aAe,aAi,CE,Ld om,ob,CE];rw [show ((x.2.drop (0:Int).toNat).take ((j:Int).toNat - (0:Int).toNat))=x.2.take j by simp];rw [show JN _ _=_ from US (l:=x.2.take j) (m:=m) (by rw [aB3];omega) (fun y hy=>(h.pool y (aEe hy)).okk),sT h.nd hx,ob,aCm,aA3,BT iR];exact ⟨_,rfl,⟨j+1,hjl,by simp⟩,by omega⟩
 right;have:j=x.2.length:=by omega
 subst this;rw [aA5 (show ¬ (x.2.length:Int) < (x.2.length:Int) by omega),aA3];rfl
theorem dE {x:Bq} (h:NetF x) {a:CQ} (ha:Ok.ok a):PN x a=some (Gh x a):=by
 unfold PN;refine AK (dD h) ?_;rw [aAe,aA3];exact AK (iF h ha) rfl
namespace Gr
variable {ι:Type}
theorem Rch.snoc {dp:ι→List ι} {x y z:ι} (h:Rch dp x y) (k:z∈dp y):Rch dp x z:=h.trans (.one k)
theorem Rch.closed {dp:ι→List ι} {out:List ι} (hc:∀ z,z∈out→∀ y,y∈dp z→y∈out) {x y:ι} (h:Rch dp x y) (hx:∀ y,y∈dp x→y∈out):y∈out:=by
 induction h with
 | one h=>exact hx _ h
 | cons h _ ih=>exact ih (hc _ (hx _ h))
section
variable [DecidableEq ι]
def comps (rdy:ι→Bool) (part:ι→List ι):List (List ι)→List ι→List (List ι)
 | _,[]=>[]
 | S,x::xs=>if rdy x&&!(S.any fun p=>decide (x∈p)) then part x::comps rdy part (part x::S) xs else comps rdy part S xs
theorem comps_mem {rdy:ι→Bool} {part:ι→List ι}:∀ (xs:List ι) (S:List (List ι)) (p:List ι),p∈comps rdy part S xs→∃ x,x∈xs∧rdy x=true∧p=part x∧∀ q,q∈S→¬ x∈q
 | [],_,p,h=>by cases h
 | x::xs,S,p,h=>by
  unfold comps at h;split at h
  ·rename_i hc;rw [aAg,aB4] at hc;rcases aAf.1 h with rfl | h
   ·refine ⟨x,aA9 ..,hc.1,rfl,fun q hq hx=>?_⟩;have:=hc.2;rw [aD5] at this;exact this q hq (aA6 hx)
   ·obtain ⟨y,h1,h2,h3,h4⟩:=comps_mem xs _ p h;exact ⟨y,aA4 _ h1,h2,h3,fun q hq=>h4 q (aA4 _ hq)⟩
  ·obtain ⟨y,h1,h2,h3,h4⟩:=comps_mem xs S p h;exact ⟨y,aA4 _ h1,h2,h3,h4⟩
theorem QS {rdy:ι→Bool} {part:ι→List ι} {ids:List ι} (hk:PartOk rdy part ids):∀ (xs:List ι) (S:List (List ι)),(∀ x,x∈xs→x∈ids)→(comps rdy part S xs).Nodup
 | [],_,_=>aFh
 | x::xs,S,hs=>by
  unfold comps;split
  ·rename_i hc;rw [aAg] at hc;refine aCp.2 ⟨fun hm=>?_,QS hk xs _ fun y hy=>hs y (aA4 _ hy)⟩;obtain ⟨y,h1,h2,h3,h4⟩:=comps_mem xs _ _ hm;have hy:=hk.self y (hs y (aA4 _ h1)) h2;rw [← h3] at hy;exact h4 _ (aA9 ..) hy
  ·exact QS hk xs S fun y hy=>hs y (aA4 _ hy)
theorem HH {rdy:ι→Bool} {part:ι→List ι} {ids:List ι} (hk:PartOk rdy part ids) {out:List (List ι)} (hout:∀ p,p∈out→∃ z,z∈ids∧rdy z=true∧p=part z) (free:List ι→Bool) :
  ∀ (xs:List ι) (S:List (List ι)),(∀ x,x∈xs→x∈ids)→(∀ p,p∈S→(∃ z,z∈ids∧rdy z=true∧p=part z)∧(p∈out∨free p=false)) →
   (xs.find? fun x=>!decide (x∈out.flatten)&&rdy x&&free (part x)).map part=((comps rdy part S xs).filter fun p=>!decide (p∈out)).find? free
 | [],_,_,_=>rfl
 | x::xs,S,hs,hS=>by
  have hxi:=hs x (aA9 ..);have hs':∀ y,y∈xs→y∈ids:=fun y hy=>hs y (aA4 _ hy);have Fk:rdy x=true→(x∈out.flatten↔part x∈out):=fun hr=>by
   rw [aDk];constructor
   ·rintro ⟨p,hp,hx⟩;obtain ⟨z,z1,z2,rfl⟩:=hout p hp;rw [(hk.mem z z1 z2 x hx).2.2];exact hp
   ·intro hp;exact ⟨_,hp,hk.self x hxi hr⟩
  unfold comps
  cases hr:rdy x with
  | false =>
   rw [if_neg (by simp),aCw (by simp [hr])];exact HH hk hout free xs S hs' hS
  | true =>
   have ht:=Fk hr;by_cases hkn:(S.any fun p=>decide (x∈p))=true
   ·rw [if_neg (by simp [hkn])];obtain ⟨p,hp,hx⟩:=aBs.1 hkn;have hx:x∈p:=aAr hx;obtain ⟨⟨z,z1,z2,rfl⟩,hz⟩:=hS p hp;have e:=(hk.mem z z1 z2 x hx).2.2;rw [aCw]
    ·exact HH hk hout free xs S hs' hS
    ·rcases hz with hz | hz
     ·rw [← e] at hz;simp [ht.2 hz]
     ·rw [← e] at hz;simp [hz]
   ·have hkn:(S.any fun p=>decide (x∈p))=false:=by simpa using hkn
    rw [if_pos (by simp [hkn])];have hS':(part x∈out∨free (part x)=false)→∀ p,p∈part x::S→(∃ z,z∈ids∧rdy z=true∧p=part z)∧(p∈out∨free p=false):=fun h p hp=>by
     rcases aAf.1 hp with rfl | hp
     ·exact ⟨⟨x,hxi,hr,rfl⟩,h⟩
     ·exact hS p hp
    by_cases ho:part x∈out
    ·rw [aE0 (by simp [ho]),aCw (by simp [ht.2 ho])];exact HH hk hout free xs _ hs' (hS' (.inl ho))
    ·rw [aE1 (by simp [ho])];have hno:¬ x∈out.flatten:=fun h=>ho (ht.1 h)
     cases hf:free (part x) with
     | true=>rw [aE5 (by simp [hno,hr,hf]),aE5 hf];rfl
     | false =>
      rw [aCw (by simp [hf]),aCw (by simp [hf])];exact HH hk hout free xs _ hs' (hS' (.inr hf))
theorem bR {L out:List (List ι)} (hn:L.Nodup) {k:Nat} {p:List ι} (hk:(L.filter fun p=>!decide (p∈out))[k]?=some p) :
  (L.filter fun p=>!decide (p∈out)).eraseIdx k=L.filter fun q=>!decide (q∈out++[p]):=by
 have a0:(L.filter fun p=>!decide (p∈out)).Nodup:=hn.filter _;have e:(L.filter fun q=>!decide (q∈out++[p]))=(L.filter fun p=>!decide (p∈out)).filter fun q=>!decide (q=p):=by
  rw [List.filter_filter];refine aFn fun q _=>?_;rw [aBn];simp only [aB0,aAl,aB4,aAm,aAg,not_or];exact And.comm
 rw [e];generalize (L.filter fun p=>!decide (p∈out))=M at a0 hk;clear e
 induction M generalizing k with
 | nil=>simp at hk
 | cons a M ih =>
  obtain ⟨n1,n2⟩:=aCp.1 a0
  cases k with
  | zero =>
   simp only [List.getElem?_cons_zero,Option.some.injEq] at hk;subst hk;rw [List.eraseIdx_cons_zero,aE0 (by simp),aD6.2 fun q hq=>?_];simp only [aB4,aAm];intro e;rw [e] at hq;exact n1 hq
  | succ k =>
   rw [aG4] at hk;rw [List.eraseIdx_cons_succ,ih n2 hk,aE1];simp only [aB4,aAm];intro e;rw [e] at n1;exact n1 (aAj hk)
end
end Gr
namespace Gr
variable {ι:Type}
theorem BI.start (dp:ι→List ι) (ok:ι→Prop) (id:ι):BI dp ok id [] [id] where
 nd:=aFh
 val x hx:=by cases hx
 rch x hx:=by cases hx
 que x hx:=.inl (aAl.1 hx)
 clo x hx hn:=by
  rcases hx with rfl | hx
  ·exact (hn (aAl.2 rfl)).elim
  ·cases hx
theorem BI.done {dp:ι→List ι} {ok:ι→Prop} {id:ι} {out:List ι} (h:BI dp ok id out []):∀ y,y∈out↔Rch dp id y:=fun y =>
 ⟨h.rch y,fun hy=>hy.closed (fun z hz w hw=>h.clo z (.inr hz) (by simp) w hw) (fun w hw=>h.clo id (.inl rfl) (by simp) w hw)⟩
section
variable [DecidableEq ι]
def Nq (lt:ι→ι→Bool) (dp:ι→List ι) (out:List ι):List ι:=out.foldl (fun n x=>join lt n (dp x)) out
def rounds (lt:ι→ι→Bool) (dp:ι→List ι):Nat→List ι→List ι
 | 0,out=>out
 | n+1,out=>if (Nq lt dp out).length=out.length then out else rounds lt dp n (Nq lt dp out)
theorem bS {lt:ι→ι→Bool} (h:STO lt) {dp:ι→List ι} (hd:∀ x,Up lt (dp x)):∀ (xs n:List ι),Up lt n→Up lt (xs.foldl (fun n x=>join lt n (dp x)) n)∧∀ y,y∈xs.foldl (fun n x=>join lt n (dp x)) n↔y∈n∨∃ x,x∈xs∧y∈dp x
 | [],n,hn=>⟨hn,fun y=>by simp⟩
 | x::xs,n,hn=>by
  obtain ⟨j1,j2⟩:=join_facts h hn (hd x);obtain ⟨f1,f2⟩:=bS h hd xs _ j1;refine ⟨f1,fun y=>?_⟩;rw [aCq,f2,j2];constructor
  ·rintro ((q | q) | ⟨z,hz,q⟩)
   ·exact .inl q
   ·exact .inr ⟨x,aA9 ..,q⟩
   ·exact .inr ⟨z,aA4 _ hz,q⟩
  ·rintro (q | ⟨z,hz,q⟩)
   ·exact .inl (.inl q)
   ·rcases aAf.1 hz with rfl | hz
    ·exact .inl (.inr q)
    ·exact .inr ⟨z,hz,q⟩
theorem SZ {lt:ι→ι→Bool} {dp:ι→List ι} {ok:ι→Prop} {N:Nat} (H:ROk lt dp ok N):∀ (n:Nat) (out:List ι),Up lt out→(∀ x,x∈out→ok x)→(out=[]∨N < out.length+n) →
  (Up lt (rounds lt dp n out)∧(∀ x,x∈out→x∈rounds lt dp n out)∧(∀ x,x∈rounds lt dp n out→∀ y,y∈dp x→y∈rounds lt dp n out)∧∀ x,x∈rounds lt dp n out→x∈out∨∃ z,z∈out∧Rch dp z x)
 | 0,out,hu,hk,hn=>by
  rcases hn with rfl | hn
  ·exact ⟨hu,fun x hx=>hx,fun x hx=>(by cases hx),fun x hx=>.inl hx⟩
  ·have:=H.len out (up_nodup H.sto hu) hk;omega
 | n+1,out,hu,hk,hn=>by
  obtain ⟨f1,f2⟩:=bS H.sto H.up out out hu;have hsub:∀ x,x∈out→x∈Nq lt dp out:=fun x hx=>(f2 x).2 (.inl hx);unfold rounds;by_cases hl:(Nq lt dp out).length=out.length
  ·rw [if_pos hl];refine ⟨hu,fun x hx=>hx,fun x hx y hy=>?_,fun x hx=>.inl hx⟩;exact up_same H.sto hu f1 hsub (by show (Nq lt dp out).length≤_;omega) y ((f2 y).2 (.inr ⟨x,hx,hy⟩))
  ·rw [if_neg hl];have hge:out.length≤(Nq lt dp out).length:=Wp H.sto hu hsub;have hk':∀ x,x∈Nq lt dp out→ok x:=fun x hx=>by
    rcases (f2 x).1 hx with q | ⟨z,_,q⟩
    ·exact hk x q
    ·exact H.val z x q
   have hn':Nq lt dp out=[]∨N < (Nq lt dp out).length+n:=by
    rcases hn with rfl | hn
    ·exact .inl rfl
    ·exact .inr om
   obtain ⟨r1,r2,r3,r4⟩:=SZ H n (Nq lt dp out) f1 hk' hn';refine ⟨r1,fun x hx=>r2 x (hsub x hx),r3,fun x hx=>?_⟩;rcases r4 x hx with q | ⟨z,hz,q⟩
   ·rcases (f2 x).1 q with r | ⟨z,hz,r⟩
    ·exact .inl r
    ·exact .inr ⟨z,hz,.one r⟩
   ·rcases (f2 z).1 hz with r | ⟨u,hu',r⟩
    ·exact .inr ⟨z,r,q⟩
    ·exact .inr ⟨u,hu',.cons r q⟩
theorem rounds_reach {lt:ι→ι→Bool} {dp:ι→List ι} {ok:ι→Prop} {N:Nat} (H:ROk lt dp ok N) (id:ι):Up lt (rounds lt dp N (dp id))∧∀ y,y∈rounds lt dp N (dp id)↔Rch dp id y:=by
 have hn:dp id=[]∨N < (dp id).length+N:=by
  cases dp id with
  | nil=>exact .inl rfl
  | cons=>right;simp only [aB5];omega
 obtain ⟨r1,r2,r3,r4⟩:=SZ H N (dp id) (H.up id) (H.val id) hn;refine ⟨r1,fun y=>⟨fun hy=>?_,fun hy=>hy.closed r3 r2⟩⟩;rcases r4 y hy with q | ⟨z,hz,q⟩
 ·exact .one q
 exact .cons hz q
def push (t:List ι×List ι) (d:ι):List ι×List ι:=if d∈t.1 then t else (t.1++[d],t.2++[d])
theorem push_facts:∀ (ds:List ι) (o q:List ι),o.Nodup→∃ nw,(ds.foldl push (o,q))=(o++nw,q++nw)∧(o++nw).Nodup∧(∀ d,d∈ds→d∈o++nw)∧∀ d,d∈nw→d∈ds
 | [],o,q,h=>⟨[],by simp,by simpa using h,fun d hd=>(by cases hd),fun d hd=>by cases hd⟩
 | d::ds,o,q,h=>by
  rw [aCq];by_cases hd:d∈o
  ·have e:push (o,q) d=(o,q):=if_pos hd;rw [e];obtain ⟨nw,h1,h2,h3,h4⟩:=push_facts ds o q h;refine ⟨nw,h1,h2,fun z hz=>?_,fun z hz=>aA4 _ (h4 z hz)⟩;rcases aAf.1 hz with rfl | hz
   ·exact aB2 _ hd
   ·exact h3 z hz
  ·have e:push (o,q) d=(o++[d],q++[d]):=if_neg hd;rw [e];have hnd:(o++[d]).Nodup:=aBo.2 ⟨h,by simp,fun a ha b hb=>by rw [aAl.1 hb];intro e2;rw [e2] at ha;exact hd ha⟩;obtain ⟨nw,h1,h2,h3,h4⟩:=push_facts ds (o++[d]) (q++[d]) hnd;refine ⟨d::nw,by rw [h1];simp,by simpa using h2,fun z hz=>?_,fun z hz=>?_⟩
   ·rcases aAf.1 hz with rfl | hz
    ·simp
    ·have:=h3 z hz;simpa using this
   ·rcases aAf.1 hz with rfl | hz
    ·exact aA9 ..
    ·exact aA4 _ (h4 z hz)
theorem BI.step {dp:ι→List ι} {ok:ι→Prop} (hv:∀ x y,y∈dp x→ok y) {id x:ι} {out q:List ι} (h:BI dp ok id out (x::q)) :
  BI dp ok id ((dp x).foldl push (out,q)).1 ((dp x).foldl push (out,q)).2∧out.length+((dp x).foldl push (out,q)).2.length=((dp x).foldl push (out,q)).1.length+q.length:=by
 obtain ⟨nw,e,h2,h3,h4⟩:=push_facts (dp x) out q h.nd;rw [e];have hx:x=id∨x∈out:=h.que x (aA9 ..);refine ⟨⟨h2,fun z hz=>?_,fun z hz=>?_,fun z hz=>?_,fun z hz hn y hy=>?_⟩,by simp only [aAq];omega⟩
 ·rcases aB0.1 hz with hz | hz
  ·exact h.val z hz
  ·exact hv x z (h4 z hz)
 ·rcases aB0.1 hz with hz | hz
  ·exact h.rch z hz
  ·rcases hx with rfl | hx
   ·exact .one (h4 z hz)
   ·exact (h.rch x hx).snoc (h4 z hz)
 ·rcases aB0.1 hz with hz | hz
  ·rcases h.que z (aA4 _ hz) with r | r
   ·exact .inl r
   ·exact .inr (aB2 _ r)
  ·exact .inr (aAx _ hz)
 ·have a0:¬ z∈q:=fun hq=>hn (aB2 _ hq);have a1:¬ z∈nw:=fun hq=>hn (aAx _ hq);by_cases hzx:z=x
  ·subst hzx;exact h3 y hy
  ·have hz':z=id∨z∈out:=by
    rcases hz with r | r
    ·exact .inl r
    ·rcases aB0.1 r with r | r
     ·exact .inr r
     ·exact (a1 r).elim
   exact aB2 _ (h.clo z hz' (fun hm=>by rcases aAf.1 hm with r | r;exact hzx r;exact a0 r) y hy)
end
end Gr
namespace Gr
variable {ι:Type}
section
variable [DecidableEq ι]
def nextX (free:List ι→List ι→Bool) (rdy:ι→Bool) (part:ι→List ι) (ids:List ι) (out:List (List ι)):Option ι:=ids.find? fun x=>!decide (x∈out.flatten)&&rdy x&&free (part x) out.flatten
def orderS (free:List ι→List ι→Bool) (rdy:ι→Bool) (part:ι→List ι) (ids:List ι):Nat→List (List ι)→List (List ι)
 | 0,out=>out
 | n+1,out=>match nextX free rdy part ids out with
  | none=>out
  | some x=>orderS free rdy part ids n (out++[part x])
def leftL (rdy:ι→Bool) (part:ι→List ι) (ids:List ι) (out:List (List ι)):List (List ι):=(comps rdy part [] ids).filter fun p=>!decide (p∈out)
theorem sU {free:List ι→List ι→Bool} {rdy:ι→Bool} {part:ι→List ι} {ids:List ι} (hk:PartOk rdy part ids) {out:List (List ι)} (ho:OutOk rdy part ids out) :
  (nextX free rdy part ids out).map part=(leftL rdy part ids out).find? fun p=>free p out.flatten :=
 HH hk ho (fun p=>free p out.flatten) ids [] (fun _ h=>h) (fun p hp=>by cases hp)
theorem lO {free:List ι→List ι→Bool} {rdy:ι→Bool} {part:ι→List ι} {ids:List ι} {out:List (List ι)} (ho:OutOk rdy part ids out) {x:ι} (h:nextX free rdy part ids out=some x):x∈ids∧rdy x=true∧OutOk rdy part ids (out++[part x]):=by
 have h1:=aCi h;have h2:=aC9 h;simp only [aAg] at h2;refine ⟨h1,h2.1.2,fun p hp=>?_⟩;rcases aB0.1 hp with hp | hp
 ·exact ho p hp
 exact ⟨x,h1,h2.1.2,aAl.1 hp⟩
theorem lP {rdy:ι→Bool} {part:ι→List ι} {ids:List ι} (hk:PartOk rdy part ids) {out:List (List ι)} {k:Nat} {p:List ι} (h:(leftL rdy part ids out)[k]?=some p):(leftL rdy part ids out).eraseIdx k=leftL rdy part ids (out++[p]) :=
 bR (QS hk ids [] fun _ h=>h) h
theorem step_both {free:List ι→List ι→Bool} {rdy:ι→Bool} {part:ι→List ι} {ids:List ι} (hk:PartOk rdy part ids) {out:List (List ι)} (ho:OutOk rdy part ids out) :
  (nextX free rdy part ids out=none∧(leftL rdy part ids out).findIdx? (fun p=>free p out.flatten)=none) ∨
  ∃ x k,nextX free rdy part ids out=some x∧(leftL rdy part ids out).findIdx? (fun p=>free p out.flatten)=some k∧(leftL rdy part ids out)[k]?=some (part x)∧(leftL rdy part ids out).eraseIdx k=leftL rdy part ids (out++[part x])∧OutOk rdy part ids (out++[part x])∧x∈ids∧rdy x=true:=by
 have e:=sU (free:=free) hk ho;rcases findIdx_find (fun p=>free p out.flatten) (leftL rdy part ids out) with ⟨h1,h2⟩ | ⟨k,p,h1,h2,h3⟩
 ·left;rw [h2] at e;exact ⟨by simpa using e,h1⟩
 ·right;rw [h3] at e;obtain ⟨x,hx,hp⟩:=aD9.1 e;subst hp;obtain ⟨x1,x2,x3⟩:=lO ho hx;exact ⟨x,k,hx,h1,h2,lP hk h2,x3,x1,x2⟩
theorem oQ {rdy:ι→Bool} {part:ι→List ι} {ids:List ι} {out:List (List ι)} {k:Nat} {p:List ι} (h:(leftL rdy part ids out)[k]?=some p) (he:(leftL rdy part ids out).eraseIdx k=leftL rdy part ids (out++[p])):(leftL rdy part ids (out++[p])).length+1=(leftL rdy part ids out).length:=by
 have hlt:=(aA2.1 h).1;rw [← he,List.length_eraseIdx,if_pos hlt];omega
theorem iM {free:List ι→List ι→Bool} {rdy:ι→Bool} {part:ι→List ι} {ids:List ι} {out:List (List ι)} (h:nextX free rdy part ids out=none):∀ n,orderS free rdy part ids n out=out
 | 0=>rfl
 | n+1=>by unfold orderS;rw [h]
def parts (free:List ι→List ι→Bool) (rdy:ι→Bool) (part:ι→List ι) (ids:List ι):List (List ι):=orderS free rdy part ids ((comps rdy part [] ids).length+1) []
def OI (free:List ι→List ι→Bool) (rdy:ι→Bool) (part:ι→List ι) (ids:List ι) (out:List (List ι)):Prop:=OutOk rdy part ids out∧∃ n,(leftL rdy part ids out).length < n∧orderS free rdy part ids n out=parts free rdy part ids
theorem OI.start (free:List ι→List ι→Bool) (rdy:ι→Bool) (part:ι→List ι) (ids:List ι):OI free rdy part ids [] :=
 ⟨OutOk.nil rdy part ids,_,Nat.lt_succ_of_le (aC4 _ _),rfl⟩
theorem OI.stop {free:List ι→List ι→Bool} {rdy:ι→Bool} {part:ι→List ι} {ids:List ι} {out:List (List ι)} (h:OI free rdy part ids out) (hn:nextX free rdy part ids out=none):out=parts free rdy part ids:=by
 obtain ⟨_,n,_,e⟩:=h;rw [← e,iM hn]
theorem OI.step {free:List ι→List ι→Bool} {rdy:ι→Bool} {part:ι→List ι} {ids:List ι} (hk:PartOk rdy part ids) {out:List (List ι)} (h:OI free rdy part ids out) {x:ι} (hx:nextX free rdy part ids out=some x) :
  OI free rdy part ids (out++[part x])∧(leftL rdy part ids (out++[part x])).length+1=(leftL rdy part ids out).length:=by
 obtain ⟨ho,n,hn,e⟩:=h;rcases step_both (free:=free) hk ho with ⟨h1,_⟩ | ⟨x',k,h1,h2,h3,h4,h5,_,_⟩
 ·rw [h1] at hx;cases hx
 ·rw [h1] at hx;cases hx;have hl:=oQ h3 h4;refine ⟨⟨h5,n - 1,by omega,?_⟩,hl⟩;rw [← e];obtain ⟨m,rfl⟩:∃ m,n=m+1:=⟨n - 1,by omega⟩;rw [aEv]
  conv=>rhs;unfold orderS
  rw [h1]
end
end Gr
namespace Gr
variable {ι:Type}
def lt2 (sq:ι→Int) (lt:ι→ι→Bool) (a b:ι):Bool:=decide (sq a < sq b)||(decide (sq a=sq b)&&lt a b)
theorem Ix {sq:ι→Int} {lt:ι→ι→Bool} {a b:ι}:lt2 sq lt a b=true↔sq a < sq b∨(sq a=sq b∧lt a b=true):=by unfold lt2;simp
theorem lt2_sto {sq:ι→Int} {lt:ι→ι→Bool} (h:STO lt):STO (lt2 sq lt) where
 irr a:=by
  cases e:lt2 sq lt a a with
  | false=>rfl
  | true =>
   rcases Ix.1 e with q | ⟨_,q⟩
   ·omega
   ·rw [h.irr] at q;cases q
 tr a b c h1 h2:=by
  rcases Ix.1 h1 with q | ⟨q,q2⟩<;>rcases Ix.1 h2 with r | ⟨r,r2⟩
  ·exact Ix.2 (.inl om)
  ·exact Ix.2 (.inl om)
  ·exact Ix.2 (.inl om)
  ·exact Ix.2 (.inr ⟨by omega,h.tr _ _ _ q2 r2⟩)
 tot a b:=by
  rcases Int.lt_trichotomy (sq a) (sq b) with q | q | q
  ·exact .inl (Ix.2 (.inl q))
  ·rcases h.tot a b with r | r | r
   ·exact .inl (Ix.2 (.inr ⟨q,r⟩))
   ·exact .inr (.inl (Ix.2 (.inr ⟨q.symm,r⟩)))
   ·exact .inr (.inr r)
  ·exact .inr (.inl (Ix.2 (.inl q)))
def InPart (dp:ι→List ι) (x y:ι):Prop:=y=x∨(Rch dp x y∧Rch dp y x)
theorem InPart.symm {dp:ι→List ι} {x y:ι} (h:InPart dp x y):InPart dp y x:=by
 rcases h with rfl | ⟨h1,h2⟩
 ·exact .inl rfl
 exact .inr ⟨h2,h1⟩
theorem InPart.trans {dp:ι→List ι} {x y z:ι} (h:InPart dp x y) (k:InPart dp y z):InPart dp x z:=by
 rcases h with rfl | ⟨h1,h2⟩
 ·exact k
 rcases k with rfl | ⟨k1,k2⟩
 ·exact .inr ⟨h1,h2⟩
 exact .inr ⟨h1.trans k1,k2.trans h2⟩
theorem partOk_of {dp:ι→List ι} {cm:ι→Bool} {lt':ι→ι→Bool} (hs:STO lt') {rdy:ι→Bool} {part:ι→List ι} {ids:List ι}
  (hr:∀ x,rdy x=true↔cm x=true∧∀ y,Rch dp x y→cm y=true) (hc:∀ x,cm x=true→x∈ids) (hu:∀ x,x∈ids→rdy x=true→Up lt' (part x)) (hp:∀ x,x∈ids→rdy x=true→∀ y,y∈part x↔InPart dp x y):PartOk rdy part ids where
 self x hx hrx:=(hp x hx hrx x).2 (.inl rfl)
 mem x hx hrx y hy:=by
  have hq:=(hp x hx hrx y).1 hy;obtain ⟨c1,c2⟩:=(hr x).1 hrx;have hcy:cm y=true:=by
   rcases hq with rfl | ⟨q,_⟩
   ·exact c1
   ·exact c2 y q
  have hry:rdy y=true:=(hr y).2 ⟨hcy,fun z hz=>by
   rcases hq with rfl | ⟨q,_⟩
   ·exact c2 z hz
   ·exact c2 z (q.trans hz)⟩
  have hyi:=hc y hcy;refine ⟨hyi,hry,up_ext hs (hu y hyi hry) (hu x hx hrx) fun z=>?_⟩;rw [hp y hyi hry,hp x hx hrx];exact ⟨fun h=>hq.trans h,fun h=>hq.symm.trans h⟩
end Gr
def EY (l:List Ar) (id:Am):Bool:=match Hv l id with | some x=>decide (x.2.2.2.1=3) | none=>false
def dpI (l:List Ar) (id:Am):List Am:=match Hv l id with | some x=>if x.2.2.2.1=3 then x.2.2.2.2.2.2.1 else [] | none=>[]
def Na (l:List Ar) (id:Am):Int:=match Hv l id with | some x=>x.2.2.2.2.2.1 | none=>0
theorem Qm {l:List Ar} (h:BF l=true) (id:Am):CO (dpI l id)=true:=by
 unfold dpI
 cases hg:Hv l id with
 | none=>rfl
 | some x =>
  dsimp only;split
  ·exact (LT ((CI h).1 x (Lv hg).1)).2.2.2
  ·rfl
theorem rok {l:List Ar} (h:BF l=true):Gr.ROk BY (dpI l) (fun x=>Dx x=true) 18 where
 sto:=Cw
 up x:=(CV (Qm h x)).2
 val x y hy:=(CV (Qm h x)).1 y hy
 len l hn hk:=JS hn hk
def Fw (l:List Ar) (id:Am):List Am:=Gr.rounds BY (dpI l) 18 (dpI l id)
theorem NT {l:List Ar} (h:BF l=true) (id:Am):Gr.Up BY (Fw l id)∧∀ y,y∈Fw l id↔Gr.Rch (dpI l) id y:=Gr.rounds_reach (rok h) id
theorem vZ {l:List Ar} (h:BF l=true) {x y:Am} (hr:Gr.Rch (dpI l) x y):Dx y=true:=by
 induction hr with
 | one hy=>exact (rok h).val _ _ hy
 | cons _ _ ih=>exact ih
theorem TT {l:List Ar} (h:BF l=true) (id:Am):(Fw l id).length≤18:=by
 obtain ⟨h1,h2⟩:=NT h id;exact JS (Gr.up_nodup Cw h1) fun x hx=>vZ h ((h2 x).1 hx)
def Fz (l:List Ar) (id:Am):Bool:=EY l id&&(Fw l id).all (EY l)
theorem XI {l:List Ar} (h:BF l=true) (x:Am):Fz l x=true↔EY l x=true∧∀ y,Gr.Rch (dpI l) x y→EY l y=true:=by
 unfold Fz;rw [aAg,aAw];exact and_congr_right fun _=>forall_congr' fun y=>by rw [(NT h x).2]
theorem Uv {l:List Ar} {x:Am} (h:EY l x=true):x∈l.map (·.1):=by
 unfold EY at h
 cases hg:Hv l x with
 | none=>rw [hg] at h;cases h
 | some y=>obtain ⟨m,e⟩:=Lv hg;exact aBz.2 ⟨y,m,e⟩
theorem WC {l:List Ar} (id:Am):decide ((atI l id).2.2.2.1=3)=EY l id:=by
 unfold atI EY
 cases Hv l id<;>rfl
theorem OW {l:List Ar} {id:Am} (h:EY l id=true):(atI l id).2.2.2.2.2.2.1=dpI l id:=by
 unfold atI dpI;unfold EY at h
 cases hg:Hv l id with
 | none=>simp [hg] at h
 | some x=>rw [hg] at h;dsimp only at h ⊢;rw [if_pos (aAr h)]
theorem wA {l:List Ar} {id:Am} (h:EY l id=false):dpI l id=[]:=by
 unfold dpI;unfold EY at h
 cases hg:Hv l id with
 | none=>rfl
 | some x=>rw [hg] at h;dsimp only at h ⊢;rw [if_neg (aDc h)]
theorem lQ {l:List Ar} (id:Am):(atI l id).2.2.2.2.2.1=Na l id:=by
 unfold atI Na
 cases Hv l id<;>rfl
theorem oR (l:List Am) (x:Am):(l.any fun y=>Bx y x)=decide (x∈l):=by
 rw [aBn,aBs,aAd];constructor
 ·rintro ⟨y,hy,h⟩;rw [DD] at h;have:=aAr h;rw [← this];exact hy
 intro h;exact ⟨x,h,by rw [DD];exact aA6 rfl⟩
theorem JX {l:List Am} {x:Am} (h:l.length≤1000):Ci l x=some (decide (x∈l)):=by
 rw [show Ci l x=_ from Oc (l:=l) (x:=x) om,oR]
theorem Ta (ds:List Am):∀ (o q:List Am),(ds.foldl Gr.push (o,q)).1.length≤o.length+ds.length∧(ds.foldl Gr.push (o,q)).2.length≤q.length+ds.length:=by
 induction ds with
 | nil=>intro o q;simp
 | cons d ds ih =>
  intro o q;rw [aCq];by_cases h:d∈o
  ·rw [show Gr.push (o,q) d=(o,q) from if_pos h];have:=ih o q;simp only [aB5];omega
  ·rw [show Gr.push (o,q) d=(o++[d],q++[d]) from if_neg h];have:=ih (o++[d]) (q++[d]);simp only [aAq,aB5,aCr] at this ⊢;omega
theorem SG {l:List Ar} (ho:Ok.ok l) (h:BF l=true) (hs:FU l) (id:Am):Jl l id=some (Fw l id):=by
 have H:=rok h;have hl:=CB h;have hdl:∀ x,(dpI l x).length≤18:=fun x=>Ea (Qm h x);unfold Jl;rw [Hu ho,h,ob,aAe,aA3,ob,ob];refine CN (s:=(([]:List Am),[id])) (fun s:List Am×List Am=>Gr.BI (dpI l) (fun x=>Dx x=true) id s.1 s.2∧s.2.length≤1+s.1.length) (fun s=>2*(18 - s.1.length)+s.2.length) ?_ ⟨Gr.BI.start _ _ id,by simp⟩;rintro ⟨o,q⟩ ⟨hI,hql⟩;dsimp only at hI hql ⊢;have hol:o.length≤18:=JS hI.nd hI.val
 cases q with
 | nil =>
  right;rw [show decide ((0:Int) < ((([]:List Am).length:Nat):Int))=false from rfl,aA3];rw [show FQ o (fun z0 z1=>Du z0 z1)=some (IE BY o) from TG Cw KQ om,ob];have:IE BY o=Fw l id:=by
   obtain ⟨u1,u2⟩:=aD Cw hI.nd;obtain ⟨r1,r2⟩:=NT h id;exact Gr.up_ext Cw u1 r1 fun x=>by rw [u2,hI.done,r2]
  rw [this];rfl
 | cons x q =>
  left;obtain ⟨s1,s2⟩:=hI.step H.val;have hl2:=Ta (dpI l x) o q;have hn:((dpI l x).foldl Gr.push (o,q)).1.length≤18:=JS s1.nd s1.val;have hdx:=hdl x;simp only [aB5] at hql;rw [show decide ((0:Int) < (((x::q).length:Nat):Int))=true from aA6 (by simp),aA8,show idx (x::q) 0=some x from rfl,ob,show DC l x=some (atI l x) from ED om hs x,ob,Ld (by simp only [aB5];omega),ob];have hd:((x::q).drop ((1:Int).toNat)).take ((((x::q).length:Nat):Int).toNat - (1:Int).toNat)=q:=by
   show (q.take _)=q;exact aBi (by simp)
  rw [hd];have hge:o.length≤((dpI l x).foldl Gr.push (o,q)).1.length:=by
   obtain ⟨nw,e,_⟩:=Gr.push_facts (dpI l x) o q hI.nd;rw [e];simp
  rw [WC]
  cases hc:EY l x with
  | false =>
   rw [wA hc] at s1;refine ⟨(o,q),rfl,⟨s1,by simp;omega⟩,by dsimp only;simp only [aB5];omega⟩
  | true =>
   rw [aAe,aA3,OW hc];refine RA (fun s:List Am×List Am×Int=>∃ i:Nat,s.2.2=(i:Int)∧i≤(dpI l x).length∧(s.1,s.2.1)=((dpI l x).take i).foldl Gr.push (o,q)) (fun s=>((dpI l x).length - s.2.2).toNat) (fun s:List Am×List Am=>s=(dpI l x).foldl Gr.push (o,q)) ?_ ⟨0,rfl,aAn _,rfl⟩ ?_
   ·rintro s' rfl;exact ⟨⟨s1,by omega⟩,by simp only [aB5];omega⟩
   ·rintro ⟨o',q',i'⟩ ⟨i,g1,gi,gn⟩;dsimp only at g1 gn ⊢;subst g1;have hl3:=Ta ((dpI l x).take i) o q;rw [← gn] at hl3;dsimp only at hl3;rw [aB3] at hl3;by_cases hid:i < (dpI l x).length
    ·left;have hz:(dpI l x)[i]?=some (dpI l x)[i]:=aA1 hid;generalize (dpI l x)[i]=z at hz;rw [show decide ((i:Int) < ((dpI l x).length:Int))=true from aA6 om,aA8,By,hz,ob,JX om,ob,BX om];have hst:((dpI l x).take (i+1)).foldl Gr.push (o,q)=Gr.push (o',q') z:=by rw [aE7,hz,aFp,← gn];rfl
     by_cases hzo:z∈o'
     ·rw [aA6 hzo,aAe,aA3];refine ⟨_,rfl,⟨i+1,rfl,hid,?_⟩,by dsimp only;omega⟩;rw [hst];exact (if_pos hzo).symm
     ·rw [aA5 hzo,aAi,aA8,BO (by simp;omega),ob,BO (by simp;omega),ob];refine ⟨_,rfl,⟨i+1,rfl,hid,?_⟩,by dsimp only;omega⟩;rw [hst];exact (if_neg hzo).symm
    ·right;rw [show decide ((i:Int) < ((dpI l x).length:Int))=false from aA5 om,aA3];refine ⟨(o',q'),rfl,?_⟩;rw [gn,aBi om]
theorem iN {l:List Ar} (ho:Ok.ok l) (h:BF l=true) (hs:FU l) (id:Am):OV l id=some (Fz l id):=by
 have hl:=CB h;have hr:=TT h id;unfold OV;rw [Hu ho,h,ob,aAe,aA3,show Jl l id=some (Fw l id) from SG ho h hs id,ob,BO (by simp;omega),ob];rw [JO (p:=EY l) (no:=some false) (yes:=some true) (l:=Fw l id++[id]) (by simp;omega)]
 ·unfold Fz;rw [List.all_append,show ([id]:List Am).all (EY l)=(EY l id&&true) from rfl,aGb]
  cases EY l id<;>cases (Fw l id).all (EY l)<;>rfl
 ·intro k x hx;simp only [Dr (aA2.1 hx).1,aA8,By,hx,ob];rw [show DC l x=some (atI l x) from ED om hs x,ob,WC]
  cases EY l x<;>rfl
 simp only [Ds];rfl
def DH (l:List Ar) (id:Am):List Am:=IE (Gr.lt2 (Na l) BY) (id::(Fw l id).filter fun d=>!decide (d=id)&&decide (id∈Fw l d))
def bT (l:List Ar):Am→Am→Bool:=Gr.lt2 (Na l) BY
theorem PO (l:List Ar):Gr.STO (bT l):=Gr.lt2_sto Cw
theorem Li {l:List Ar} (h:BF l=true) (id:Am):Gr.Up (bT l) (DH l id)∧∀ y,y∈DH l id↔Gr.InPart (dpI l) id y:=by
 obtain ⟨r1,r2⟩:=NT h id;have hn:(id::(Fw l id).filter fun d=>!decide (d=id)&&decide (id∈Fw l d)).Nodup:=by
  refine aCp.2 ⟨fun hm=>?_,(Gr.up_nodup Cw r1).filter _⟩;have:=(aAs.1 hm).2;simp at this
 obtain ⟨u1,u2⟩:=aD (PO l) hn;refine ⟨u1,fun y=>?_⟩;show y∈IE (bT l) _↔_;rw [u2,aAf,aAs,r2];unfold Gr.InPart;simp only [aAg,aB4,aAm,aAd];rw [(NT h y).2];constructor
 ·rintro (q | ⟨q1,_,q2⟩)
  ·exact .inl q
  exact .inr ⟨q1,q2⟩
 rintro (q | ⟨q1,q2⟩)
 ·exact .inl q
 by_cases hy:y=id
 ·exact .inl hy
 exact .inr ⟨q1,hy,q2⟩
theorem bU {l:List Ar} (h:BF l=true):Gr.PartOk (Fz l) (DH l) (l.map (·.1)) :=
 Gr.partOk_of (dp:=dpI l) (cm:=EY l) (PO l) (XI h) (fun _ hc=>Uv hc) (fun x _ _=>(Li h x).1) fun x _ _=>(Li h x).2
theorem Ye {l:List Ar} (h:BF l=true) (id:Am):0≤Na l id∧Na l id≤60:=by
 unfold Na
 cases hg:Hv l id with
 | none=>dsimp only;omega
 | some x=>exact (LT ((CI h).1 x (Lv hg).1)).2.2.1
theorem oS {l:List Ar} (h:BF l=true) (hs:FU l) (x y:Am):∃ v,IA x y l=some v∧decide (v < 0)=bT l x y:=by
 have hl:=CB h;unfold IA;rw [show DC l x=some (atI l x) from ED om hs x,ob,show DC l y=some (atI l y) from ED om hs y,ob,lQ,lQ];have h1:=Ye h x;have h2:=Ye h y;unfold bT Gr.lt2;by_cases he:Na l x=Na l y
 ·rw [aA6 he,aAe,aA3];obtain ⟨c,c1,c2⟩:=KQ x y;refine ⟨c,?_,?_⟩
  ·rw [show Du x y=some c from c1];rfl
  rw [c2,he,aA5 (show ¬ Na l y < Na l y by omega),aAz,aBc]
 rw [aA5 he,aAi,aA8];refine ⟨_,rfl,?_⟩;rw [BT (n:=Na l x - Na l y) iR,aDm,aCm,aBn,aAd,aAd];omega
theorem lR {l:List Ar} (ho:Ok.ok l) (h:BF l=true) (hs:FU l) (id:Am):RG l id=some (DH l id):=by
 have hr:=TT h id;unfold RG;rw [ob,show Jl l id=some (Fw l id) from SG ho h hs id,ob];rw [HL (l:=Fw l id) (fun k (t:List Am)=>(t,(k:Int))) (fun t d=>.inl (if (!decide (d=id)&&decide (id∈Fw l d)) then t++[d] else t)) (fun t=>FQ t (fun z0 z1=>IA z0 z1 l)) (fun k t=>t.length≤k+1) [id] (s0:=([id],0)) rfl (by simp),Pe,KP]
 ·rw [TG (PO l) (oS h hs) (by
   have:=aC4 (fun d=>!decide (d=id)&&decide (id∈Fw l d)) (Fw l id);simp only [aAq,aB5,aCr];omega)]
  rfl
 ·intro k t d hd hI;have hlt:=(aA2.1 hd).1;have hI2:(if (!decide (d=id)&&decide (id∈Fw l d))=true then t++[d] else t).length≤k+1+1:=by
   split
   ·simp only [aAq,aB5,aCr];omega
   ·omega
  refine .inl ⟨_,rfl,?_,hI2⟩;have hq:(decide (d.1=id.1)&&(decide (d.2=id.2)&&true))=decide (d=id):=DD d id;simp only [Dr hlt,aA8,By,hd,ob,hq,BX (show k < 9223372036854775807 by omega)];rw [show Jl l d=some (Fw l d) from SG ho h hs d];by_cases hdi:d=id
  ·rw [aA6 hdi];rfl
  rw [aA5 hdi];simp only [aAi,CE,ob];have:=TT h d;rw [JX om,ob,BO (by simp;omega)];by_cases hm:id∈Fw l d
  ·rw [aA6 hm];rfl
  rw [aA5 hm];rfl
 intro t ht;simp only [Ds,aA3]
 cases FQ t (fun z0 z1=>IA z0 z1 l)<;>rfl
theorem InPart.id_of {l:List Ar} (h:BF l=true) {id y:Am} (hr:Fz l id=true) (hp:Gr.InPart (dpI l) id y):EY l y=true:=by
 obtain ⟨c1,c2⟩:=(XI h id).1 hr;rcases hp with rfl | ⟨q,_⟩
 ·exact c1
 exact c2 y q
def Kg (l:List Ar) (p Fk:List Am):Bool:=p.all fun x=>(dpI l x).all fun d=>decide (d∈p)||decide (d∈Fk)
theorem dF {l:List Ar} (h:BF l=true) (hs:FU l) {p Fk:List Am} (hp:p.length≤1000) (ht:Fk.length≤1000) (hc:∀ x,x∈p→EY l x=true):PJ l p Fk=some (Kg l p Fk):=by
 have hl:=CB h;unfold PJ Kg;rw [JO (p:=fun x=>(dpI l x).all fun d=>decide (d∈p)||decide (d∈Fk)) (no:=some false) (yes:=some true) (l:=p) om]
 ·cases p.all fun x=>(dpI l x).all fun d=>decide (d∈p)||decide (d∈Fk)<;>rfl
 ·intro k x hx;have hd:=Ea (Qm h x);simp only [Dr (aA2.1 hx).1,aA8,By,hx,ob];rw [show DC l x=some (atI l x) from ED om hs x,ob,OW (hc x (aAj hx))];rw [JO (p:=fun d=>decide (d∈p)||decide (d∈Fk)) (no:=some (.inr false)) (yes:=some (.inl (IntKind.wrap .i64 ((k:Int)+1)))) (l:=dpI l x) om]
  ·rfl
  ·intro j d hd;simp only [Dr (aA2.1 hd).1,aA8,By,hd,ob];rw [JX hp,ob];by_cases q:d∈p
   ·rw [aA6 q];rfl
   rw [aA5 q];simp only [aAi,CE,ob];rw [JX ht,ob];by_cases q2:d∈Fk
   ·rw [aA6 q2];rfl
   rw [aA5 q2];rfl
  simp only [Ds];rfl
 simp only [Ds];rfl
theorem eO {L:List (List Am)} {f:List Am→Option Bool} {p:List Am→Bool} (hL:L.length≤1000) (hf:∀ z,z∈L→f z=some (p z)):DE L f=some (Db p L):=by
 unfold DE;rw [Hi (l:=L) p some om]
 ·intro k x hx;simp only [Dr (aA2.1 hx).1,aA8,By,hx,ob,hf x (aAj hx)]
  cases p x<;>rfl
 simp only [Ds];rfl
theorem sV {L:List (List Am)} {f:List Am→Option Bool} {p:List Am→Bool} (hL:L.length≤1000) (hf:∀ z,z∈L→f z=some (p z)):Ej L f=some (L.any p):=by
 unfold Ej;rw [eO hL hf,ob,Sq]
def Ic (l:List Ar):List Am:=l.map (·.1)
def Jf (l:List Ar):List (List Am):=Gr.parts (Kg l) (Fz l) (DH l) (Ic l)
theorem SH {l:List Ar} (h:BF l=true) {x:Am} (hx:x∈Ic l) (hr:Fz l x=true):(DH l x).length≤18∧∀ y,y∈DH l x→EY l y=true:=by
 obtain ⟨p1,p2⟩:=Li h x;refine ⟨JS (Gr.up_nodup (PO l) p1) fun y hy=>?_,fun y hy=>InPart.id_of h hr ((p2 y).1 hy)⟩;obtain ⟨z,hz,rfl⟩:=aBz.1 (Uv (InPart.id_of h hr ((p2 y).1 hy)));exact (LT ((CI h).1 z hz)).1
theorem bV {l:List Ar} (h:BF l=true):∀ {out:List (List Am)},Gr.OutOk (Fz l) (DH l) (Ic l) out→out.flatten.length≤18*out.length
 | [],_=>by simp
 | p::out,ho=>by
  have h1:=bV h (out:=out) fun q hq=>ho q (aA4 _ hq);obtain ⟨z,z1,z2,rfl⟩:=ho p (aA9 ..);have h2:=(SH h z1 z2).1;simp only [aD3,aAq,aB5];omega
theorem TU {ι:Type} [DecidableEq ι] {rdy:ι→Bool} {part:ι→List ι}:∀ (xs:List ι) (S:List (List ι)),(Gr.comps rdy part S xs).length≤xs.length
 | [],_=>aAu _
 | x::xs,S=>by
  unfold Gr.comps;split
  ·have:=TU (rdy:=rdy) (part:=part) xs (part x::S);simp only [aB5];omega
  ·have:=TU (rdy:=rdy) (part:=part) xs S;simp only [aB5];omega
theorem iO (l:List Ar) (S:List (List Am)) (x:Am) (xs:List Am):Gr.comps (Fz l) (DH l) S (x::xs)=if (Fz l x&&!(S.any fun p=>decide (x∈p)))=true then DH l x::Gr.comps (Fz l) (DH l) (DH l x::S) xs else Gr.comps (Fz l) (DH l) S xs:=by
 conv=>lhs;unfold Gr.comps
 exact ite_congr (propext (by simp only [aAg,aB4,aD5,aAd])) (fun _=>rfl) (fun _=>rfl)
def Kh (l:List Ar) (out:List (List Am)):List (List Am):=Gr.leftL (Fz l) (DH l) (Ic l) out
theorem oT {l:List Ar} (h:BF l=true):(Kh l []).length≤18:=by
 have h1:(Kh l []).length≤_:=aC4 _ _;have h2:=TU (rdy:=Fz l) (part:=DH l) (Ic l) [];have h3:=CB h;unfold Ic at h1 h2;rw [aB1] at h2;omega
def YV (l:List Ar) (out:List (List Am)):Option Am:=Gr.nextX (Kg l) (Fz l) (DH l) (Ic l) out
def OJ (l:List Ar) (out:List (List Am)):Prop:=Gr.OI (Kg l) (Fz l) (DH l) (Ic l) out∧out.length+(Kh l out).length≤18
theorem OJ.start {l:List Ar} (h:BF l=true):OJ l []:=⟨Gr.OI.start _ _ _ _,by have:=oT h;simpa using this⟩
theorem OJ.step {l:List Ar} (h:BF l=true) {out:List (List Am)} (ho:OJ l out) {x:Am} (hx:YV l out=some x):OJ l (out++[DH l x])∧(Kh l (out++[DH l x])).length+1=(Kh l out).length:=by
 obtain ⟨h1,h2⟩:=Gr.OI.step (bU h) ho.1 hx;refine ⟨⟨h1,?_⟩,h2⟩;have:=ho.2;rw [aAq];have h2':(Kh l (out++[DH l x])).length+1=(Kh l out).length:=h2;simp only [aB5,aCr];omega
theorem OJ.len {l:List Ar} (h:BF l=true) {out:List (List Am)} (ho:OJ l out):out.length≤18∧out.flatten.length≤324:=by
 have h1:=bV h ho.1.1;have h2:=ho.2;omega
theorem iP {l:List Ar} (ho:Ok.ok l) (hs:FU l):RH l=some (if BF l then Jf l else []):=by
 unfold RH;rw [Hu ho,ob];by_cases h:BF l=true
 ·rw [if_pos h,h,aAe,aA3,ob];have hl:=CB h;refine CN (s:=(([]:List (List Am)),(0:Int))) (fun s:(List (List Am))×Int=>∃ k:Nat,s.2=(k:Int)∧k≤l.length∧s.1.length≤k∧(∀ p,p∈s.1→p.length≤18)∧s.1++Gr.comps (Fz l) (DH l) s.1.reverse (Ic (l.drop k))=Gr.comps (Fz l) (DH l) [] (Ic l)) (fun s=>(l.length - s.2).toNat) ?_ ⟨0,rfl,aAn _,aAu _,fun p hp=>(by cases hp),rfl⟩;rintro ⟨o,k'⟩ ⟨k,g1,hk,hol,hop,he⟩;dsimp only at g1 hol hop he ⊢;subst g1;by_cases hkl:k < l.length
  ·left;have hx:l[k]?=some l[k]:=aA1 hkl;have hxm:l[k]∈l:=aBw _;generalize l[k]=x at hx hxm;rw [NN hx] at he;have w1:IntKind.wrap .i64 ((k:Int)+1)=((k+1:Nat):Int):=BX om;have hxi:x.1∈Ic l:=aBz.2 ⟨x,hxm,rfl⟩;rw [show Ic (x::l.drop (k+1))=x.1::Ic (l.drop (k+1)) from rfl] at he;rw [iO,List.any_reverse] at he;rw [show decide ((k:Int) < (l.length:Int))=true from aA6 om,aA8,w1,By,hx,ob];rw [sV (p:=fun z=>decide (x.1∈z)) om (fun z hz=>by
    unfold Ma;rw [show Ci z _=_ from JX (x:=x.1) (by have:=hop z hz;omega)];rfl),ob]
   cases ha:o.any fun z=>decide (x.1∈z) with
   | true =>
    rw [ha] at he;simp only [aAe,Bool.and_false,aBr,if_false] at he;exact ⟨_,rfl,⟨k+1,rfl,hkl,by dsimp only;omega,hop,he⟩,by dsimp only;omega⟩
   | false =>
    rw [ha] at he;simp only [aAi,CE,aBc,aGb] at he ⊢;rw [show OV l x.1=some (Fz l x.1) from iN ho h hs x.1,ob]
    cases hr:Fz l x.1 with
    | false =>
     rw [hr] at he;simp only [aBr,if_false] at he;exact ⟨_,rfl,⟨k+1,rfl,hkl,by dsimp only;omega,hop,he⟩,by dsimp only;omega⟩
    | true =>
     rw [hr] at he;simp only [if_true] at he;rw [aA8,show RG l x.1=some (DH l x.1) from lR ho h hs x.1,ob,BO (by simp;omega),ob];refine ⟨_,rfl,⟨k+1,rfl,hkl,by simp;omega,fun p hp=>?_,?_⟩,by dsimp only;omega⟩
     ·rcases aB0.1 hp with hp | hp
      ·exact hop p hp
      ·rw [aAl.1 hp];exact (SH h hxi hr).1
     ·dsimp only;rw [List.reverse_append];simpa using he
  right;have hkk:k=l.length:=by omega
  subst hkk;rw [show decide ((l.length:Int) < (l.length:Int))=false from aA5 om,aA3,ob,ob];rw [aBj (aAu _)] at he;have he:o=Kh l []:=by
   have e1:o=Gr.comps (Fz l) (DH l) [] (Ic l):=by rw [← he];exact (aBx _).symm
   rw [e1];unfold Kh Gr.leftL;exact (aD6.2 fun p _=>rfl).symm
  subst he;have:Bn (fun s19:(List (List Am))×(List (List Am))×(List Am)=>cond (decide (0 < (s19.1.length:Int))) (Option.bind (DE s19.1 (fun z0=>Ke z0 l s19.2.2)) (fun a0=>cond (decide (a0 < 0)) (Option.map .inr (some s19.2.1)) (Option.bind (idx s19.1 a0) (fun a1=>Option.bind (Cj s19.2.1 [a1]) (fun a2=>Option.bind (idx s19.1 a0) (fun a5=>Option.bind (Cj s19.2.2 a1) (fun a3=>Option.bind (Zs s19.1 a0 (IntKind.wrap .i64 (a0+1))) (fun a4=>some (.inl ((a4,a2,a3))))))))))) (Option.map .inr (some s19.2.1))) (Kh l [],([]:List (List Am)),([]:List Am))=some (Jf l):=by
   refine CN (s:=(Kh l [],([]:List (List Am)),([]:List Am))) (fun s:(List (List Am))×(List (List Am))×(List Am)=>OJ l s.2.1∧s.1=Kh l s.2.1∧s.2.2=s.2.1.flatten) (fun s=>s.1.length) ?_ ⟨OJ.start h,rfl,rfl⟩;rintro ⟨r,o,t⟩ ⟨g1,g2,g3⟩;dsimp only at g1 g2 g3 ⊢;obtain ⟨l1,l2⟩:=g1.len h;have htl:t.length≤324:=by rw [g3];exact l2
   have hrl:r.length≤18:=by have:=g1.2;rw [g2];omega
   have hrm:∀ p,p∈r→∃ z,z∈Ic l∧Fz l z=true∧p=DH l z:=fun p hp=>by
    rw [g2] at hp;obtain ⟨z,z1,z2,z3,_⟩:=Gr.comps_mem _ _ _ (aAs.1 hp).1;exact ⟨z,z1,z2,z3⟩
   have hb:=Gr.step_both (free:=Kg l) (bU h) g1.1.1;rw [show Gr.leftL (Fz l) (DH l) (l.map (·.1)) o=r from g2.symm,← g3] at hb
   cases hr0:r with
   | nil =>
    right;rw [show decide ((0:Int) < ((([]:List (List Am)).length:Nat):Int))=false from rfl,aA3];rcases hb with ⟨h1,_⟩ | ⟨x,k,_,h2,_⟩
    ·rw [g1.1.stop h1];rfl
    ·rw [hr0] at h2;simp at h2
   | cons p0 r0 =>
    rw [← hr0];rw [show decide ((0:Int) < (r.length:Int))=true from aA6 (by rw [hr0];simp),aA8];rw [eO (p:=fun p=>Kg l p t) om (fun z hz=>by
     obtain ⟨y,y1,y2,rfl⟩:=hrm z hz;obtain ⟨q1,q2⟩:=SH h y1 y2;unfold Ke;rw [dF h hs om om q2];rfl),ob]
    unfold Db;rcases hb with ⟨h1,h2⟩ | ⟨x,k,h1,h2,h3,h4,_,h6,h7⟩
    ·right;rw [h2,g1.1.stop h1];rfl
    ·left;rw [h2];have hklt:=(aA2.1 h3).1;obtain ⟨q1,q2⟩:=SH h (show x∈Ic l from h6) h7;dsimp only;rw [show decide ((k:Int) < 0)=false from aA5 om,aA3,By,h3,ob,BO (by simp;omega),ob,ob,BO om,ob,BX om];unfold Zs;rw [if_pos om,ob];obtain ⟨s1,s2⟩:=g1.step h h1;rw [show r.take (k:Int).toNat++r.drop (((k+1:Nat):Int)).toNat=r.eraseIdx k from (aCv ..).symm];refine ⟨_,rfl,⟨s1,h4,?_⟩,?_⟩
     ·dsimp only;rw [g3];simp
     ·dsimp only;rw [h4];have s2':=s2;rw [← g2] at s2';have e:(Kh l (o++[DH l x]))=Gr.leftL (Fz l) (DH l) (l.map (·.1)) (o++[DH l x]):=rfl;rw [e] at s2';omega
  rw [this];rfl
 rw [if_neg h,(aCe.2 h),aAi,aA8]
noncomputable def GX (l:List Ar):List Am:=if BF l then (Jf l).flatten else []
theorem OJ.nodup_step {l:List Ar} (h:BF l=true) {out:List (List Am)} (ho:OJ l out) (hn:out.flatten.Nodup) {x:Am} (hx:YV l out=some x):(out++[DH l x]).flatten.Nodup:=by
 have h1:=aCi hx;have h2:=aC9 hx;simp only [aAg,aB4,aAm] at h2;rw [aEm,aD3,List.flatten_nil,aBx];refine aBo.2 ⟨hn,Gr.up_nodup (PO l) (Li h x).1,fun a ha b hb e=>?_⟩;subst e;obtain ⟨p,hp,hap⟩:=aDk.1 ha;obtain ⟨z,z1,z2,rfl⟩:=ho.1.1 p hp;have hk:=bU h;have e1:=(hk.mem z z1 z2 a hap).2.2;have e2:=(hk.mem x h1 h2.1.2 a hb).2.2;refine h2.1.1 (aDk.2 ⟨_,hp,?_⟩);rw [← e1,e2];exact hk.self x h1 h2.1.2
theorem bW {l:List Ar} (h:BF l=true):∀ (n:Nat) (out:List (List Am)),OJ l out→out.flatten.Nodup→OJ l (Gr.orderS (Kg l) (Fz l) (DH l) (Ic l) n out)∧(Gr.orderS (Kg l) (Fz l) (DH l) (Ic l) n out).flatten.Nodup
 | 0,out,h1,h2=>⟨h1,h2⟩
 | n+1,out,h1,h2=>by
  unfold Gr.orderS
  cases hx:Gr.nextX (Kg l) (Fz l) (DH l) (Ic l) out with
  | none=>exact ⟨h1,h2⟩
  | some x=>exact bW h n _ (h1.step h hx).1 (h1.nodup_step h h2 hx)
theorem Vs {l:List Ar} (h:BF l=true):OJ l (Jf l)∧(Jf l).flatten.Nodup:=bW h _ [] (OJ.start h) aFh
theorem TV (l:List Ar):(GX l).Nodup∧(GX l).length≤324:=by
 unfold GX;split
 ·rename_i h;exact ⟨(Vs h).2,((Vs h).1.len h).2⟩
 exact ⟨aFh,by simp⟩
theorem bX (P:List (List Am)) (k:Nat):(P.take k).flatten.length≤P.flatten.length:=by
 conv=>rhs;rw [← aBf k P,aEm,aAq]
 omega
theorem lS {P:List (List Am)} (h:P.flatten.length≤1000) (hP:P.length≤1000):Bn (fun s4:(List Am)×Int=>cond (decide (s4.2 < (P.length:Int))) (Option.bind (idx P s4.2) (fun y6=>Option.bind (Cj s4.1 y6) (fun y8=>some (.inl ((y8,IntKind.wrap .i64 (s4.2+1))))))) (Option.map .inr (some s4.1))) (([]:List Am),0)=some P.flatten:=by
 refine CN (s:=(([]:List Am),(0:Int))) (fun s:List Am×Int=>∃ k:Nat,s.2=(k:Int)∧k≤P.length∧s.1=(P.take k).flatten) (fun s=>(P.length - s.2).toNat) ?_ ⟨0,rfl,aAn _,rfl⟩;rintro ⟨o,k'⟩ ⟨k,g1,hk,g2⟩;dsimp only at g1 g2 ⊢;subst g1;by_cases hkl:k < P.length
 ·left;have hx:P[k]?=some P[k]:=aA1 hkl;generalize P[k]=x at hx;have e:(P.take (k+1)).flatten=o++x:=by rw [aE7,hx,aEm,← g2];simp
  have:=bX P (k+1);rw [e,aAq] at this;rw [show decide ((k:Int) < (P.length:Int))=true from aA6 om,aA8,By,hx,ob,BO om,ob,BX om];exact ⟨_,rfl,⟨k+1,rfl,hkl,e.symm⟩,by dsimp only;omega⟩
 right;rw [show decide ((k:Int) < (P.length:Int))=false from aA5 om,aA3,g2,aBi om];rfl
theorem iQ (l:List Ar):(if BF l then Jf l else []).flatten.length≤324∧(if BF l then Jf l else []).length≤18:=by
 split
 ·rename_i h;have:=(Vs h).1.len h;exact ⟨this.2,this.1⟩
 simp
theorem sW (l:List Ar):(if BF l then Jf l else []).flatten=GX l:=by
 unfold GX;split<;>rfl
theorem RL {l:List Ar} (ho:Ok.ok l) (hs:FU l):Jm l=some (GX l):=by
 unfold Jm;obtain ⟨h1,h2⟩:=iQ l;rw [ob,iP ho hs,ob,lS om om,sW]
def PP (B:List Am) (x:Am):Int:=Db (fun y=>Bx y x) B
theorem bY {B:List Am} (hB:B.length≤1000) (x:Am):DN B x=some (PP B x):=by
 unfold DN PP;rw [Hi (l:=B) (fun y=>Bx y x) some om]
 ·intro k y hy;simp only [Dr (aA2.1 hy).1,aA8,By,hy,ob];rw [show (decide (x.1=y.1)&&(decide (x.2=y.2)&&true))=Bx x y from rfl,TD]
  cases Bx y x<;>rfl
 simp only [Ds];rfl
def Dy (d:Dp):Prop:=0≤d.2.1∧d.2.1≤(d.1.length:Int)∧d.1.length≤4611686018427387904
theorem eP (x:Int):0≤bits .and .i64 x 255∧bits .and .i64 x 255≤255:=mN x 255 om
theorem RM {d:Dp} (h:Dy d):∃ n d',IW d=some (n,d')∧(0≤n∧n≤255)∧Dy d'∧d'.1=d.1:=by
 obtain ⟨b,i,q⟩:=d;obtain ⟨h1,h2,h3⟩:=h;dsimp only at h1 h2 h3;unfold IW;dsimp only;by_cases hi:i < (b.length:Int)
 ·obtain ⟨k,rfl⟩:=aC7 h1;have hk:b[k]?=some (b[k]'om):=aA1 _;rw [aA6 hi,aA8,By,hk];refine ⟨_,_,rfl,eP _,⟨?_,?_,h3⟩,rfl⟩
  ·dsimp only;rw [BX om];omega
  dsimp only;rw [BX om];omega
 rw [aA5 hi,aA3];exact ⟨_,_,rfl,eP _,⟨h1,h2,h3⟩,rfl⟩
theorem sX {a n:Int} (h:0≤a) (hn:0 < n):0≤a.tmod n∧a.tmod n < n:=by
 rw [aDo h];exact ⟨Int.emod_nonneg _ om,Int.emod_lt_of_pos _ hn⟩
theorem DW {d:Dp} (h:Dy d) (n:Int):∃ x d',De d n=some (x,d')∧(0≤x∧(0 < n→x < n)∧(n≤0→x=0))∧Dy d'∧d'.1=d.1:=by
 unfold De
 (try simp only [Prod.eta])
 by_cases h0:n≤0
 ·rw [aA6 h0,aA8];exact ⟨_,_,rfl,⟨aFi _,fun h=>by omega,fun _=>rfl⟩,h,rfl⟩
 rw [aA5 h0,aA3];have hr:∀ a,0≤a→∃ x,WX a n=some x∧(0≤x∧(0 < n→x < n)∧(n≤0→x=0)):=fun a ha=>by
  have:=sX ha (show 0 < n by omega);exact ⟨_,by unfold WX;rw [if_neg om],this.1,fun _=>this.2,fun h=>by omega⟩
 by_cases h1:n≤256
 ·rw [aA6 h1,aA8];obtain ⟨y,d1,e1,g1,c1,f1⟩:=RM h;obtain ⟨x,ex,gx⟩:=hr y g1.1;rw [e1,ob];dsimp only;rw [ex];exact ⟨x,d1,rfl,gx,c1,f1⟩
 rw [aA5 h1,aA3];obtain ⟨y1,d1,e1,g1,c1,f1⟩:=RM h;obtain ⟨y2,d2,e2,g2,c2,f2⟩:=RM c1;obtain ⟨y3,d3,e3,g3,c3,f3⟩:=RM c2;obtain ⟨y4,d4,e4,g4,c4,f4⟩:=RM c3;simp only [e1,e2,e3,e4,ob];obtain ⟨x,ex,gx⟩:=hr (IntKind.wrap .i64 (IntKind.wrap .i64 (IntKind.wrap .i64 (IntKind.wrap .i64 (y1*16777216)+IntKind.wrap .i64 (y2*65536))+IntKind.wrap .i64 (y3*256))+y4)) (by
  rw [BT (n:=y1*16777216) iR,BT (n:=y2*65536) iR,BT (n:=y3*256) iR,BT (n:=y1*16777216+y2*65536) iR,BT (n:=y1*16777216+y2*65536+y3*256) iR,BT iR];omega)
 rw [ex];exact ⟨x,d4,rfl,gx,c4,by rw [f4,f3,f2,f1]⟩
theorem Nb (z:Int):∃ b,u8P (IntKind.wrap .u8 z)=some b:=by
 rw [IntKind.wrap_u8];exact ⟨_,if_pos ⟨Int.emod_nonneg _ om,Int.emod_lt_of_pos _ om⟩⟩
theorem wB {l:List UInt8} (h:l.length≤1048576):∃ d,RI l=some d∧Dy d:=by
 unfold RI;refine FK (fun s:Int×Int=>0≤s.2∧s.2≤(l.length:Int)) (fun s=>(l.length - s.2.toNat)) (fun d:Dp=>Dy d) ?_ (IntKind.wrap .i64 (10101+(l.length:Int)),0) ⟨by simp,by simp⟩;rintro ⟨q,i⟩ ⟨h1,h2⟩;dsimp only at h1 h2 ⊢;by_cases hi:i < (l.length:Int)
 ·rw [aA6 hi,aBc];by_cases h4:i < 4000
  ·left;obtain ⟨k,rfl⟩:=aC7 h1;have hk:l[k]?=some (l[k]'om):=aA1 _;rw [aA6 h4,aA8,By,hk];refine ⟨_,rfl,?_,?_⟩
   ·dsimp only;rw [BX om];omega
   dsimp only;rw [BX om];omega
  right;rw [aA5 h4,aA3];exact ⟨_,rfl,by dsimp only;simp,by dsimp only;simp,by dsimp only;omega⟩
 right;rw [aA5 hi,aDm,aA3];exact ⟨_,rfl,by dsimp only;simp,by dsimp only;simp,by dsimp only;omega⟩
theorem PQ {d:Dp} (h:Dy d) (n:Int):∃ x d',Hx d n=some (x,d')∧Dy d'∧d'.1=d.1:=by
 unfold Hx
 (try simp only [Prod.eta])
 obtain ⟨x,d',e,_,c,f⟩:=DW h n;rw [e];exact ⟨_,d',rfl,c,f⟩
theorem Vt {d:Dp} (h:Dy d) {l:List ByteArray} (hl:0 < l.length):∃ x d',Lh d l=some (x,d')∧x∈l∧Dy d'∧d'.1=d.1:=by
 unfold Lh
 (try simp only [Prod.eta])
 obtain ⟨y,d1,e1,g1,c1,f1⟩:=DW h (l.length:Int);rw [e1,ob];dsimp only;obtain ⟨k,rfl⟩:=aC7 g1.1;have hk:k < l.length:=by have:=g1.2.1 om;omega
 rw [By,aA1 hk,ob];exact ⟨_,_,rfl,aBw hk,c1,f1⟩
abbrev Wd:=BitVec 32
def t32 (n:Int):Wd:=BitVec.ofInt 32 n
section
variable {σ τ α:Type}
def it (step:Nat→τ→τ):Nat→τ→τ
 | 0,t=>t
 | n+1,t=>step n (it step n t)
end
theorem i3:(3:Int).toNat=3:=rfl
theorem TW (a:List UInt8):(Jn a).size=a.length:=rfl
def h0l:List Int:=[1779033703,3144134277,1013904242,2773480762,1359893119,2600822924,528734635,1541459225]
def h0 (j:Nat):Wd:=t32 (h0l.getD j 0)
theorem small {n:Int} (h:-10000≤n∧n≤10000):inR n:=by unfold inR;omega
theorem sz9 {l:List ByteArray} {x:ByteArray} (hx:x∈l) (h:l.all (fun s=>decide (s.size≤9))=true):x.size≤9:=by simpa using aAw.1 h x hx
theorem tb {α β:Type} {o:Option α} {k:α→Option β} {P:α→Prop} {Q:β→Prop} (h:∃ a,o=some a∧P a) (hk:∀ a,P a→∃ r,k a=some r∧Q r):∃ r,Option.bind o k=some r∧Q r:=by
 obtain ⟨a,rfl,ha⟩:=h;exact hk a ha
theorem wl {σ α:Type} {f:σ→Option (σ ⊕ α)} (I:σ→Prop) (μ:σ→Nat) (R:α→Prop) (h:∀ s,I s→∃ r,f s=some r∧((∃ s',r=.inl s'∧I s'∧μ s' < μ s)∨∃ a,r=.inr a∧R a)) (s:σ) (hs:I s):∃ a,Bn f s=some a∧R a :=
 FK I μ R (fun s hs=>by
  obtain ⟨r,e,⟨s',rfl,h1⟩ | ⟨a,rfl,h1⟩⟩:=h s hs
  ·exact .inl ⟨s',e,h1⟩
  ·exact .inr ⟨a,e,h1⟩) s hs
theorem ix {l:List Int} {i:Int} (h:0≤i∧i < l.length):∃ a,idx l i=some a∧True:=by
 obtain ⟨k,rfl⟩:=aC7 h.1;rw [By];exact ⟨_,aA1 om,trivial⟩
theorem sx {s:ByteArray} {i:Int} (h:0≤i∧i < s.size):∃ a,Jy s i=some a∧True:=by
 unfold Jy;rw [dif_pos ⟨h.1,by omega⟩];exact ⟨_,rfl,trivial⟩
theorem l3R {a n:Int} (h:0≤n∧n≤32):∃ r,Fp a n=some r∧True:=by
 unfold Fp WY fH Ib;rw [if_pos ⟨h.1,by show n≤64;omega⟩,aA7,IntKind.wrap_u64,show (32 - n) % 18446744073709551616=32 - n by omega,if_pos ⟨by omega,by show 32 - n≤64;omega⟩];exact ⟨_,rfl,trivial⟩
theorem l3W {a:Int}:∃ r,Ib a=some r∧True:=⟨_,rfl,trivial⟩
theorem sm {α:Type} {a:α}:∃ r,some a=some r∧r=a:=⟨a,rfl,rfl⟩
theorem wi {n:Int} (h:-1000000≤n∧n≤1000000):IntKind.wrap .i64 n=n:=BT (by unfold inR;omega)
theorem oU {v:List Int} {s:ByteArray} {k:List Int} (hv:v.length=8) (hs:s.size=64) (hk:k.length=64):∃ r,NS v s k=some r∧r.length=8:=by
 unfold NS;refine tb (P:=fun w=>w.length=64) ⟨_,if_pos ⟨by omega,by omega,by decide⟩,by simp⟩ fun w0 hw0=>?_;refine wl (fun s:List Int×Int=>s.1.length=64∧0≤s.2∧s.2≤16) (fun s=>(16 - s.2).toNat) _ ?_ _ ⟨hw0,by omega,by omega⟩;rintro ⟨w,i⟩ ⟨h1,h2,h3⟩;dsimp only at h1 h2 h3 ⊢;by_cases hi:i < 16
 ·rw [aA6 hi,aA8,wi (n:=4*i) om,wi (n:=4*i+1) om,wi (n:=4*i+2) om,wi (n:=4*i+3) om,wi (n:=i+1) om];refine tb (sx om) fun _ _=>tb (sx om) fun _ _=>tb (sx om) fun _ _=>tb (sx om) fun _ _=>tb (ix om) fun _ _=>⟨_,rfl,.inl ⟨_,rfl,⟨by simp [h1],by dsimp only;omega,by dsimp only;omega⟩,by dsimp only;omega⟩⟩
 ·rw [aA5 hi,aA3];refine (fun ⟨a,e,h⟩=>⟨.inr a,Jb e,.inr ⟨a,rfl,h⟩⟩:(∃ a:List Int,_=some a∧a.length=8)→_) ?_;refine wl (fun s:List Int×Int=>s.1.length=64∧16≤s.2∧s.2≤64) (fun s=>(64 - s.2).toNat) _ ?_ _ ⟨h1,by omega,by omega⟩;rintro ⟨w,i⟩ ⟨h1,h2,h3⟩;dsimp only at h1 h2 h3 ⊢;by_cases hi:i < 64
  ·rw [aA6 hi,aA8,wi (n:=i - 15) om,wi (n:=i - 2) om,wi (n:=i - 16) om,wi (n:=i - 7) om,wi (n:=i+1) om]
   repeat (first | refine tb (ix om) fun _ _=>?_ | refine tb (l3R om) fun _ _=>?_ | refine tb l3W fun _ _=>?_)
   exact ⟨_,rfl,.inl ⟨_,rfl,⟨by simp [h1],by dsimp only;omega,by dsimp only;omega⟩,by dsimp only;omega⟩⟩
  ·rw [aA5 hi,aA3,aA7,BO (by simp;omega),aA7];refine (fun ⟨a,e,h⟩=>⟨.inr a,Jb e,.inr ⟨a,rfl,h⟩⟩:(∃ a:List Int,_=some a∧a.length=8)→_) ?_;refine wl (fun s:List Int×Int=>s.1.length=8∧0≤s.2∧s.2≤64) (fun s=>(64 - s.2).toNat) _ ?_ _ ⟨hv,by omega,by omega⟩;rintro ⟨x,j⟩ ⟨g1,g2,g3⟩;dsimp only at g1 g2 g3 ⊢;by_cases hj:j < 64
   ·rw [aA6 hj,aA8,wi (n:=j+1) om]
    repeat (first | refine tb (ix om) fun _ _=>?_ | refine tb (l3R om) fun _ _=>?_ | refine tb l3W fun _ _=>?_)
    exact ⟨_,rfl,.inl ⟨_,rfl,⟨rfl,by dsimp only;omega,by dsimp only;omega⟩,by dsimp only;omega⟩⟩
   ·rw [aA5 hj,aA3,aA7];refine (fun ⟨a,e,h⟩=>⟨.inr a,Jb e,.inr ⟨a,rfl,h⟩⟩:(∃ a:List Int,_=some a∧a.length=8)→_) ?_;refine wl (fun s:List Int×Int=>(s.1.length:Int)=s.2∧0≤s.2∧s.2≤8) (fun s=>(8 - s.2).toNat) _ ?_ _ ⟨rfl,by omega,by omega⟩;rintro ⟨y,n⟩ ⟨f1,f2,f3⟩;dsimp only at f1 f2 f3 ⊢;by_cases hn:n < 8
    ·rw [aA6 hn,aA8,wi (n:=n+1) om];refine tb (ix om) fun _ _=>tb (ix om) fun _ _=>tb l3W fun b _=>?_;rw [BO (by simp;omega)];exact ⟨_,rfl,.inl ⟨_,rfl,⟨by simp;omega,by dsimp only;omega,by dsimp only;omega⟩,by dsimp only;omega⟩⟩
    ·rw [aA5 hn,aA3];exact ⟨_,rfl,.inr ⟨_,rfl,by omega⟩⟩
theorem wC (b:UInt8):∃ r,WA (Jn [b])=some r∧8≤r.size:=by
 have h1:(Jn [b]).size=1:=rfl;unfold WA;rw [h1,aA7];refine wl (fun s:List UInt8=>1≤s.length∧s.length≤55) (fun s=>55 - s.length) _ ?_ _ ⟨aAu _,by decide⟩;rintro s ⟨g1,g2⟩;by_cases hs:s.length=55
 ·rw [show (!decide ((IntKind.wrap .i64 (((1:Nat):Int)+(s.length:Int))).tmod 64=56))=false by rw [hs];rfl,aA3];refine (fun ⟨a,e,h⟩=>⟨.inr a,Jb e,.inr ⟨a,rfl,h⟩⟩:(∃ a:ByteArray,_=some a∧8≤a.size)→_) ?_;refine wl (fun t:List UInt8×Int=>(t.1.length:Int)=55+t.2∧0≤t.2∧t.2≤8) (fun t=>(8 - t.2).toNat) _ ?_ _ ⟨by simp [hs],by omega,by omega⟩;rintro ⟨t,i⟩ ⟨f1,f2,f3⟩;dsimp only at f1 f2 f3 ⊢;by_cases hi:i < 8
  ·rw [aA6 hi,aA8,wi (n:=8*i) om,wi (n:=56 - 8*i) om,IntKind.wrap_u64,show (56 - 8*i) % 18446744073709551616=56 - 8*i by omega,wi (n:=i+1) om];unfold WY;rw [if_pos ⟨by omega,by show 56 - 8*i≤64;omega⟩,aA7];obtain ⟨x,ex⟩:=Nb (bits .and .i64 (IntKind.wrap .i64 (((1:Nat):Int)*8) / 2 ^ (56 - 8*i).toNat) 255);rw [ex,aA7,BO (by simp;omega)];exact ⟨_,rfl,.inl ⟨_,rfl,⟨by simp;omega,by dsimp only;omega,by dsimp only;omega⟩,by dsimp only;omega⟩⟩
  ·rw [aA5 hi,aA3,rJ (by rw [h1,TW];omega),aA7,aA7];have hz:(Jn [b]++Jn t).size=64:=by rw [ByteArray.size_append,h1,TW];omega
   generalize Jn [b]++Jn t=z at hz;unfold SE;rw [aA7,aA7];refine (fun ⟨a,e,h⟩=>⟨.inr a,Jb e,.inr ⟨a,rfl,h⟩⟩:(∃ a:ByteArray,_=some a∧8≤a.size)→_) ?_;refine wl (fun v:List Int×Int=>v.1.length=8∧(v.2=0∨v.2=64)) (fun v=>(64 - v.2).toNat) _ ?_ _ ⟨rfl,.inl rfl⟩;rintro ⟨v,j⟩ ⟨e1,e2⟩;dsimp only at e1 e2 ⊢;rcases e2 with rfl | rfl
   ·rw [aA6 (show (0:Int) < (z.size:Int) by omega),aA8];refine tb (P:=fun y:ByteArray=>y.size=64) ⟨_,if_pos ⟨by omega,by decide,by rw [hz];decide⟩,by rw [ByteArray.size_extract,hz];rfl⟩ fun y hy=>?_;refine tb (oU e1 hy (by rfl)) fun u hu=>?_;exact ⟨_,rfl,.inl ⟨_,rfl,⟨hu,.inr rfl⟩,by show (64 - IntKind.wrap .i64 (0+64)).toNat < (64 - (0:Int)).toNat;decide⟩⟩
   ·rw [aA5 (show ¬ (64:Int) < (z.size:Int) by omega),aA3,aA7];refine (fun ⟨a,e,h⟩=>⟨.inr a,Jb e,.inr ⟨a,rfl,h⟩⟩:(∃ a:ByteArray,_=some a∧8≤a.size)→_) ?_;refine wl (fun p:List UInt8×Int=>(p.1.length:Int)=4*p.2∧0≤p.2∧p.2≤8) (fun p=>(8 - p.2).toNat) _ ?_ _ ⟨rfl,by omega,by omega⟩;rintro ⟨p,q⟩ ⟨d1,d2,d3⟩;dsimp only at d1 d2 d3 ⊢;by_cases hq:q < 8
    ·rw [aA6 hq,aA8,wi (n:=q+1) om];refine tb (ix om) fun a1 _=>tb (ix om) fun a2 _=>tb (ix om) fun a3 _=>tb (ix om) fun a4 _=>?_;obtain ⟨x1,q1⟩:=Nb (a1 / 2 ^ (24:Int).toNat);obtain ⟨x2,q2⟩:=Nb (bits .and .i64 (a2 / 2 ^ (16:Int).toNat) 255);obtain ⟨x3,q3⟩:=Nb (bits .and .i64 (a3 / 2 ^ (8:Int).toNat) 255);obtain ⟨x4,q4⟩:=Nb (bits .and .i64 a4 255);rw [q1,aA7,q2,aA7,q3,aA7,q4,aA7,aA7,BO (by simp;omega)];exact ⟨_,rfl,.inl ⟨_,rfl,⟨by simp;omega,by dsimp only;omega,by dsimp only;omega⟩,by dsimp only;omega⟩⟩
    ·rw [aA5 hq,aA3];exact ⟨_,rfl,.inr ⟨_,rfl,by rw [TW];omega⟩⟩
 ·rw [show (!decide ((IntKind.wrap .i64 (((1:Nat):Int)+(s.length:Int))).tmod 64=56))=true by rw [wi om,aB4,aAm,aDo om];omega,aA8,BO (by simp;omega)];exact ⟨_,rfl,.inl ⟨_,rfl,⟨by simp,by simp;omega⟩,by simp;omega⟩⟩
theorem oW (b:UInt8):∃ r,RJ (Jn [b])=some r∧r.size≤9:=by
 unfold RJ;refine tb (wC b) fun y hy=>tb (P:=fun y:ByteArray=>y.size≤9) ⟨_,if_pos ⟨by omega,by omega,by omega⟩,by rw [ByteArray.size_extract];omega⟩ fun z hz=>⟨_,rfl,hz⟩
theorem bZ {d:Dp} (h:Dy d):∃ m d',JW d=some (m,d')∧MB m∧m.2.2.2.2.2.2.2.length≤3∧Dy d'∧d'.1=d.1:=by
 unfold JW
 (try simp only [Prod.eta])
 obtain ⟨y1,d1,e1,g1,c1,f1⟩:=DW h 7;rw [e1,aA7];dsimp only;obtain ⟨y2,d2,e2,g2,c2,f2⟩:=DW c1 3;rw [e2,aA7];dsimp only;obtain ⟨y3,d3,e3,g3,c3,f3⟩:=DW c2 6;rw [e3,aA7];dsimp only;have k1:=g1.2.1 om;have k2:=g2.2.1 om;have k3:=g3.2.1 om;have w1:IntKind.wrap .i64 (1+y1)=1+y1:=BT (by unfold inR;omega);have w2:IntKind.wrap .i64 (1+y2)=1+y2:=BT (by unfold inR;omega);have w3:IntKind.wrap .i64 (1+y3)=1+y3:=BT (by unfold inR;omega);rw [w1,w2,w3];refine HR (Q:=fun o=>∃ m d',o=some (m,d')∧MB m∧m.2.2.2.2.2.2.2.length≤3∧Dy d'∧d'.1=d.1) (fun s:Int×Int×Int=>Dy (d3.1,s.1,s.2.1)∧1≤s.2.2∧s.2.2≤7) ?_ ?_
 ·obtain ⟨b,d5,e5,c5,f5⟩:=PQ c3 4;rw [e5,aA7];dsimp only;rw [f5.symm];cases b
  ·exact ⟨_,rfl,c5,by dsimp only;omega,by dsimp only;omega⟩
  ·exact ⟨_,rfl,c5,by dsimp only;omega,by dsimp only;omega⟩
 rintro ⟨p4,q4,k4⟩ ⟨c4,l4,u4⟩;dsimp only at c4 l4 u4 ⊢;refine HR (Q:=fun o=>∃ m d',o=some (m,d')∧MB m∧m.2.2.2.2.2.2.2.length≤3∧Dy d'∧d'.1=d.1) (fun s:Int×Int×ByteArray=>Dy (d3.1,s.1,s.2.1)∧s.2.2.size≤9) ?_ ?_
 ·cases (!decide (k4=7))
  ·exact ⟨_,rfl,c4,aAn _⟩
  ·rw [aA8,aA7];obtain ⟨x,d6,e6,g6,c6,f6⟩:=Vt c4 (l:=[(ByteArray.mk #[97]),(ByteArray.mk #[98]),(ByteArray.mk #[97,98])]) de;rw [e6,aA7];dsimp only at f6 ⊢;exact ⟨_,rfl,by dsimp only;rw [← f6];exact c6,sz9 g6 de⟩
 rintro ⟨p7,q7,s7⟩ ⟨c7,z7⟩;dsimp only at c7 z7 ⊢;refine HR (Q:=fun o=>∃ m d',o=some (m,d')∧MB m∧m.2.2.2.2.2.2.2.length≤3∧Dy d'∧d'.1=d.1) (fun s:Int×Int×ByteArray=>Dy (d3.1,s.1,s.2.1)∧s.2.2.size≤9) ?_ ?_
 ·cases (decide (k4=3)||decide (k4=4))
  ·exact ⟨_,rfl,c7,aAn _⟩
  ·rw [aA8,aA7];obtain ⟨x,d6,e6,g6,c6,f6⟩:=Vt c7 (l:=[(ByteArray.mk #[120]),(ByteArray.mk #[121]),(ByteArray.mk #[122])]) de;rw [e6,aA7];dsimp only at f6 ⊢;exact ⟨_,rfl,by dsimp only;rw [← f6];exact c6,sz9 g6 de⟩
 rintro ⟨p8,q8,s8⟩ ⟨c8,z8⟩;dsimp only at c8 z8 ⊢;refine HR (Q:=fun o=>∃ m d',o=some (m,d')∧MB m∧m.2.2.2.2.2.2.2.length≤3∧Dy d'∧d'.1=d.1) (fun s:Int×Int×ByteArray=>Dy (d3.1,s.1,s.2.1)∧s.2.2.size≤9) ?_ ?_
 ·cases (decide (k4=4))
  ·exact ⟨_,rfl,c8,aAn _⟩
  ·rw [aA8,aA7];obtain ⟨x,d6,e6,g6,c6,f6⟩:=Vt c8 (l:=[(ByteArray.mk #[107,101,101,112]),(ByteArray.mk #[116])]) de;rw [e6,aA7];dsimp only at f6 ⊢;exact ⟨_,rfl,by dsimp only;rw [← f6];exact c6,sz9 g6 de⟩
 rintro ⟨p9,q9,s9⟩ ⟨c9,z9⟩;dsimp only at c9 z9 ⊢;refine HR (Q:=fun o=>∃ m d',o=some (m,d')∧MB m∧m.2.2.2.2.2.2.2.length≤3∧Dy d'∧d'.1=d.1) (fun s:Int×Int×Int=>Dy (d3.1,s.1,s.2.1)∧0≤s.2.2∧s.2.2≤4) ?_ ?_
 ·cases (decide (k4=5))
  ·exact ⟨_,rfl,c9,by dsimp only;omega,by dsimp only;omega⟩
  ·rw [aA8];obtain ⟨x,d6,e6,g6,c6,f6⟩:=DW c9 4;have:=g6.2.1 om;rw [e6,aA7];dsimp only at f6 ⊢;exact ⟨_,rfl,by dsimp only;rw [← f6];exact c6,by dsimp only;omega,by dsimp only;omega⟩
 rintro ⟨p10,a3,n10⟩ ⟨c10,l10,a1⟩;dsimp only at c10 l10 a1 ⊢;have hf:d3.1=d.1:=by rw [f3,f2,f1]
 cases (decide (k4=3)) with
 | false=>exact ⟨_,_,rfl,⟨small (by dsimp only;omega),small (by dsimp only;omega),small (by dsimp only;omega),z7,z8,z9,small (by dsimp only;omega),aAn _,fun x hx=>by cases hx⟩,aAn _,c10,hf⟩
 | true =>
  rw [aA8];obtain ⟨a0,d26,e26,g26,c26,f26⟩:=DW c10 3;have k26:=g26.2.1 om;rw [e26,aA7];dsimp only at f26 ⊢;rw [BT (n:=1+a0) (by unfold inR;omega)];refine (fun ⟨r,hr,hq⟩=>⟨r.1,r.2,hr,hq⟩:(∃ r:BN×Dp,_=some r∧(MB r.1∧r.1.2.2.2.2.2.2.2.length≤3∧Dy r.2∧r.2.1=d.1))→_) (FK (fun s:Int×Int×Int×(List ByteArray)=>0≤s.1∧s.1+(s.2.2.2.length:Int)≤3∧Dy (d26.1,s.2.1,s.2.2.1)∧∀ x,x∈s.2.2.2→x.size≤9) (fun s=>s.1.toNat) (fun r:BN×Dp=>MB r.1∧r.1.2.2.2.2.2.2.2.length≤3∧Dy r.2∧r.2.1=d.1) ?_ (1+a0,d26.2.1,d26.2.2,[]) ⟨by dsimp only;omega,by simp;omega,c26,fun x hx=>by cases hx⟩);rintro ⟨k,p,q,l⟩ ⟨i1,i2,i3,i4⟩;dsimp only at i1 i2 i3 i4 ⊢;by_cases hk:0 < k
  ·left;rw [aA6 hk,aA8];obtain ⟨a2,d29,e29,g29,c29,f29⟩:=DW i3 4;rw [e29,aA7];dsimp only at f29 ⊢;obtain ⟨b,eb⟩:=Nb a2;obtain ⟨sh,es,hsh⟩:=oW b;rw [eb,aA7,aA7,es,aA7,BO (by simp;omega),aA7,BT (n:=k - 1) (by unfold inR;omega)];refine ⟨_,rfl,⟨by dsimp only;omega,by simp;omega,by dsimp only;rw [← f29];exact c29,fun x hx=>?_⟩,by dsimp only;omega⟩;rcases aB0.1 hx with hx | hx
   ·exact i4 x hx
   ·rw [aAl.1 hx];exact hsh
  ·right;rw [aA5 hk,aA3];exact ⟨_,rfl,⟨small (by dsimp only;omega),small (by dsimp only;omega),small (by dsimp only;omega),z7,z8,z9,small (by dsimp only;omega),by dsimp only;omega,i4⟩,by dsimp only;omega,i3,by dsimp only;rw [f26,hf]⟩
theorem Uw {k A B:Int} {id:Am} {c:BN} (hk:inR k) (hA:inR A) (hB:inR B) (hi:inR id.1∧inR id.2) (hc:MB c):Ok.ok ((k,A,B,id,c):CQ):=⟨hk,hA,hB,hi,hc.ok⟩
theorem wD {d:Dp} (h:Dy d) {k A B:Int} {id:Am} {c:BN} (hk:inR k) (hA:inR A) (hB:inR B) (hi:inR id.1∧inR id.2) (hc:MB c) :
  ∃ a d',(Option.bind (Hx d 30) (fun y=>cond y.1 (Option.bind (De y.2 8) (fun a0=>Option.bind (De a0.2 5) (fun a1=>some (((IntKind.wrap .i64 (a0.1 - 1),IntKind.wrap .i64 (a1.1 - 1),B,id,c):CQ),a1.2)))) (some ((k,A,B,id,c),y.2))))=some (a,d')∧Ok.ok a∧Dy d'∧d'.1=d.1:=by
 obtain ⟨b,d1,e1,c1,f1⟩:=PQ h 30;rw [e1,aA7]
 cases b with
 | false=>exact ⟨_,_,rfl,Uw hk hA hB hi hc,c1,f1⟩
 | true =>
  dsimp only;rw [aA8];obtain ⟨y2,d2,e2,_,c2,f2⟩:=DW c1 8;obtain ⟨y3,d3,e3,_,c3,f3⟩:=DW c2 5;rw [e2,aA7,e3,aA7];exact ⟨_,_,rfl,Uw (Ou _) (Ou _) hB hi hc,c3,by rw [f3,f2,f1]⟩
theorem PR:inR 0:=by unfold inR;omega
theorem mbZ:MB ((0,0,0,aA0,aA0,aA0,0,([]:List ByteArray)):BN):=⟨PR,PR,PR,aAn _,aAn _,aAn _,PR,aAn _,fun x hx=>by cases hx⟩
theorem wE {d:Dp} (h:Dy d) {x:Bq} (hx:x.2.length≤160):∃ a d',PM d x=some (a,d')∧Ok.ok a∧Dy d'∧d'.1=d.1:=by
 unfold PM
 (try simp only [Prod.eta])
 obtain ⟨y1,d1,e1,g1,c1,f1⟩:=DW h 3;rw [e1,aA7];dsimp only;obtain ⟨y2,d2,e2,g2,c2,f2⟩:=DW c1 3;rw [e2,aA7];dsimp only;obtain ⟨y3,d3,e3,g3,c3,f3⟩:=DW c2 2;rw [e3,aA7];dsimp only;have k1:=g1.2.1 om;have k2:=g2.2.1 om;have hf:d3.1=d.1:=by rw [f3,f2,f1]
 have r1:inR y1:=small om;have r2:inR y2:=small om;have z:∀ n:Int,0≤n∧n≤10→inR n:=fun n hn=>small om;refine HR (Q:=fun o=>∃ a d',o=some (a,d')∧Ok.ok a∧Dy d'∧d'.1=d.1) (fun s:Int×Int×Int×Int×BN=>Dy (d3.1,s.1,s.2.1)∧inR s.2.2.1∧inR s.2.2.2.1∧MB s.2.2.2.2) ?_ ?_
 ·obtain ⟨y5,d5,e5,g5,c5,f5⟩:=DW c3 14;rw [e5,aA7];dsimp only;rw [f5.symm];have key:∀ b:Bool,∃ s:Int×Int×Int×Int×BN,(cond b (Option.bind (JW d5) (fun y9=>(some (.inl (y9.2.2.1,y9.2.2.2,1,y1,y9.1)):Option ((Int×Int×Int×Int×BN) ⊕ (CQ×Dp))))) (cond (decide (y5=2)) (some (.inl (d5.2.1,d5.2.2,3,y2,0,0,0,aA0,aA0,aA0,0,([]:List ByteArray)))) (cond (decide (y5=3)) (some (.inl (d5.2.1,d5.2.2,4,y1,0,0,0,aA0,aA0,aA0,0,([]:List ByteArray)))) (cond (decide (y5=4)) (Option.bind (Hx d5 4) (fun a0=>cond a0.1 (some (.inl (a0.2.2.1,a0.2.2.2,5,y1,0,0,0,aA0,aA0,aA0,0,([]:List ByteArray)))) (some (.inl (a0.2.2.1,a0.2.2.2,2,y1,0,0,0,aA0,aA0,aA0,0,([]:List ByteArray)))))) (some (.inl (d5.2.1,d5.2.2,2,y1,0,0,0,aA0,aA0,aA0,0,([]:List ByteArray))))))))=some (.inl s)∧Dy (d5.1,s.1,s.2.1)∧inR s.2.2.1∧inR s.2.2.2.1∧MB s.2.2.2.2:=by
   intro b
   cases b with
   | true =>
    obtain ⟨m,d9,e9,hm,_,c9,f9⟩:=bZ c5;rw [aA8,e9,aA7];exact ⟨_,rfl,by rw [← f9];exact c9,z 1 om,r1,hm⟩
   | false =>
    rw [aA3]
    cases decide (y5=2) with
    | true=>exact ⟨_,rfl,c5,z 3 om,r2,mbZ⟩
    | false =>
     rw [aA3]
     cases decide (y5=3) with
     | true=>exact ⟨_,rfl,c5,z 4 om,r1,mbZ⟩
     | false =>
      rw [aA3]
      cases decide (y5=4) with
      | false=>exact ⟨_,rfl,c5,z 2 om,r1,mbZ⟩
      | true =>
       obtain ⟨b,d6,e6,c6,f6⟩:=PQ c5 4;rw [aA8,e6,aA7]
       cases b with
       | true=>exact ⟨_,rfl,by rw [← f6];exact c6,z 5 om,r1,mbZ⟩
       | false=>exact ⟨_,rfl,by rw [← f6];exact c6,z 2 om,r1,mbZ⟩
  cases decide (y5=0) with
  | true=>exact key true
  | false=>exact key (decide (y5=1))
 rintro ⟨p4,q4,k4,A4,m4⟩ ⟨c4,hk,hA,hm⟩;dsimp only at c4 hk hA hm ⊢;have hid:inR (y2,IntKind.wrap .i64 (1+y3)).1∧inR (y2,IntKind.wrap .i64 (1+y3)).2:=⟨r2,Ou _⟩;refine HR (Q:=fun o=>∃ a d',o=some (a,d')∧Ok.ok a∧Dy d'∧d'.1=d.1) (fun s:Int×Int×Int=>Dy (d3.1,s.1,s.2.1)∧inR s.2.2) ?_ ?_
 ·cases (decide (k4=2)&&decide (0 < (x.2.length:Int))) with
  | false=>exact ⟨_,rfl,c4,PR⟩
  | true =>
   rw [aA8];obtain ⟨a1,d16,e16,g16,c16,f16⟩:=DW c4 (x.2.length:Int);rw [e16,aA7];dsimp only;obtain ⟨b,d17,e17,c17,f17⟩:=PQ c16 2;rw [e17,aA7];dsimp only;have e:d17.1=d3.1:=f17.trans f16
   cases (b&&decide (5 < (x.2.length:Int))) with
   | true =>
    rw [aA8];obtain ⟨a2,d19,e19,g19,c19,f19⟩:=DW c17 5;rw [e19,aA7];exact ⟨_,rfl,by dsimp only;rw [← e,← f19];exact c19,Ou _⟩
   | false=>exact ⟨_,rfl,by dsimp only;rw [← e];exact c17,by have:=g16.1;have:=g16.2.1;have:=g16.2.2;show inR a1;unfold inR;omega⟩
 ·rintro ⟨p,q,B⟩ ⟨c,hB⟩;obtain ⟨a,d',h1,h2,h3,h4⟩:=wD c (B:=B) hk hA hB hid hm;exact ⟨a,d',h1,h2,h3,by rw [h4];exact hf⟩
theorem oX {d:Dp} (h:Dy d) {n:Int} (hn:n≤90):∃ l d',Mb d n=some (l,d')∧(∀ a,a∈l→Ok.ok a)∧l.length≤90∧Dy d':=by
 unfold Mb;rw [bJ,aA7,aA7]
 (try simp only [Prod.eta])
 obtain ⟨y4,d4,e4,g4,c4,f4⟩:=DW h n;rw [e4,aA7];dsimp only;have a0:0≤y4∧y4≤90:=by
  refine ⟨g4.1,?_⟩;by_cases q:0 < n
  ·have:=g4.2.1 q;omega
  ·rw [g4.2.2 om];omega
 refine (fun ⟨r,hr,hq⟩=>⟨r.1,r.2,hr,hq⟩:(∃ r:List CQ×Dp,_=some r∧((∀ a,a∈r.1→Ok.ok a)∧r.1.length≤90∧Dy r.2))→_) (FK (fun s:(List CQ)×Int×Int×Int×(List Ap)×(List Ao)×Unit=>NetF (s.2.2.2.2.1,s.2.2.2.2.2.1)∧Dy (d4.1,s.2.2.1,s.2.2.2.1)∧(∀ a,a∈s.1→Ok.ok a)∧0≤s.2.1∧(s.1.length:Int)+s.2.1≤90) (fun s=>s.2.1.toNat) _ ?_ _ ⟨bI,c4,fun a ha=>(by cases ha),a0.1,by simp;omega⟩);rintro ⟨l,k,p,q,ns,pl,u⟩ ⟨i1,i2,i3,i4,i5⟩;dsimp only at i1 i2 i3 i4 i5 ⊢;by_cases hk:0 < k
 ·left;rw [aA6 hk,aA8];obtain ⟨a,d7,e7,ha,c7,f7⟩:=wE i2 (x:=(ns,pl)) i1.pl;rw [e7,aA7];dsimp only at f7 ⊢;refine HR (Q:=fun o:Option (((List CQ)×Int×Int×Int×(List Ap)×(List Ao)×Unit) ⊕ (List CQ×Dp))=>∃ s':(List CQ)×Int×Int×Int×(List Ap)×(List Ao)×Unit,o=some (.inl s')∧(NetF (s'.2.2.2.2.1,s'.2.2.2.2.2.1)∧Dy (d4.1,s'.2.2.1,s'.2.2.2.1)∧(∀ a,a∈s'.1→Ok.ok a)∧0≤s'.2.1∧(s'.1.length:Int)+s'.2.1≤90)∧s'.2.1.toNat < k.toNat) (fun s:Int×Int×Int×Int×Int×Int×Int×BN=>Dy (d4.1,s.1,s.2.1)∧Ok.ok ((s.2.2.1,s.2.2.2.1,s.2.2.2.2.1,(s.2.2.2.2.2.1,s.2.2.2.2.2.2.1),s.2.2.2.2.2.2.2):CQ)) ?_ ?_
  ·cases decide ((l.length:Int) < 2) with
   | true =>
    rw [aA8];obtain ⟨a1,d10,e10,g10,c10,f10⟩:=DW c7 3;have:=g10.2.1 om;rw [e10,aA7];dsimp only;obtain ⟨m,d11,e11,hm,_,c11,f11⟩:=bZ c10;rw [e11,aA7];exact ⟨_,rfl,by dsimp only;rw [← f7,← f10,← f11];exact c11,Uw (show inR 1 from small om) (show inR a1 from small om) PR ⟨PR,PR⟩ hm⟩
   | false=>exact ⟨_,rfl,by dsimp only;rw [← f7];exact c7,ha⟩
  ·rintro ⟨p8,q8,s8⟩ ⟨c8,h8⟩;dsimp only at c8 h8 ⊢;rw [BO (by simp;omega),aA7];rw [show OT _ _=_ from iE (x:=(ns,pl)) (a:=(s8.1,s8.2.1,s8.2.2.1,(s8.2.2.2.1,s8.2.2.2.2.1),s8.2.2.2.2.2)) i1 h8,aA7,BT (n:=k - 1) (by unfold inR;omega)];refine ⟨_,rfl,⟨bE i1 _,c8,fun a ha=>?_,by dsimp only;omega,by simp;omega⟩,by dsimp only;omega⟩;rcases aB0.1 ha with q | q
   ·exact i3 a q
   ·rw [aAl.1 q];exact h8
 ·right;rw [aA5 hk,aA3];exact ⟨_,rfl,i3,by dsimp only;omega,i2⟩
theorem oY:Ok.ok ((5,1,0,(0,0),(0,0,0,aA0,aA0,aA0,0,([]:List ByteArray))):CQ):=Uw (show inR 5 from small om) (show inR 1 from small om) PR ⟨PR,PR⟩ mbZ
theorem sY {c:List UInt8} (h:c.length≤1048576):∃ l,Iw c=some l∧Ok.ok l:=by
 unfold Iw
 (try simp only [Prod.eta])
 obtain ⟨d1,e1,c1⟩:=wB h;rw [e1,aA7];have hs:∃ n,PL c 90=some n∧n≤90:=by
  unfold PL;by_cases q:90 < IntKind.wrap .i64 (2+IntKind.wrap .i64 ((c.length:Int).tdiv 20))
  ·rw [aA6 q];exact ⟨_,rfl,aFi _⟩
  ·rw [aA5 q];exact ⟨_,rfl,by omega⟩
 obtain ⟨n,e2,hn⟩:=hs;rw [e2,aA7];obtain ⟨l,d3,e3,hl,hl9,c3⟩:=oX c1 hn;rw [e3,aA7];obtain ⟨b,d4,e4,c4,f4⟩:=PQ c3 50;rw [e4,aA7];dsimp only
 cases b with
 | false=>exact ⟨l,rfl,by show l.length≤_;omega,hl⟩
 | true =>
  rw [aA8];obtain ⟨y6,d6,e6,g6,c6,f6⟩:=DW c4 2;have:=g6.2.1 om;have:=g6.1;rw [e6,aA7];dsimp only;rw [BT (n:=300+y6) (by unfold inR;omega)];obtain ⟨r,hr,h1,h2⟩:=FK (fun s:List CQ=>(∀ a,a∈s→Ok.ok a)∧s.length≤400) (fun s=>400 - s.length) (fun r:List CQ=>(∀ a,a∈r→Ok.ok a)∧r.length≤400) (f:=fun s7:(List CQ)=>cond (decide ((s7.length:Int) < 300+y6)) (Option.bind (Cj s7 [(5,1,0,(0,0),(0,0,0,aA0,aA0,aA0,0,([]:List ByteArray)))]) (fun a0=>some (.inl (a0)))) (Option.map .inr (some s7))) (fun s hs=>by
   by_cases q:(s.length:Int) < 300+y6
   ·left;rw [aA6 q,aA8,BO (by simp;omega),aA7];refine ⟨_,rfl,⟨fun a ha=>?_,by simp;omega⟩,by simp;omega⟩;rcases aB0.1 ha with q | q
    ·exact hs.1 a q
    ·rw [aAl.1 q];exact oY
   ·right;rw [aA5 q,aA3];exact ⟨s,rfl,hs⟩) l ⟨hl,by omega⟩
  exact ⟨r,hr,by show r.length≤_;omega,h1⟩
end Go.Proofs.SL
namespace Go.Proofs.SL
open Rl
abbrev SDt:=Int×List Am
abbrev mId (m:Ao):Am:=m.2.2.2.1
abbrev Ek (m:Ao):Int:=m.2.2.2.2.1
abbrev JY (m:Ao):BN:=m.2.2.2.2.2.1
abbrev mSd (m:Ao):SDt:=(m.2.2.2.2.2.2.1,m.2.2.2.2.2.2.2.1)
abbrev Qn (m:Ao):Bool:=m.2.2.2.2.2.2.2.2.2.2
def aiD (y:Ar):AI BN SDt:=⟨y.2.1,y.2.2.1,y.2.2.2.1,y.2.2.2.2.1,(y.2.2.2.2.2.1,y.2.2.2.2.2.2.1),y.2.2.2.2.2.2.2⟩
def alD (l:AM):AL SDt:=⟨l.2.1,l.2.2.1,(l.2.2.2.1,l.2.2.2.2.1),l.2.2.2.2.2.1,l.2.2.2.2.2.2⟩
def aiM (m:Ao):AI BN SDt:=⟨Ek m,m.2.2.2.2.2.2.2.2.2.1,m.2.2.2.2.2.2.2.2.1,JY m,mSd m,Qn m⟩
noncomputable def AV (x:Bq) (i:Int):Ap:=if 0≤i∧i < 3 then Eo x i else Sx
def fL (ls:List AM) (q:Am):Option AM:=ls.find? fun y=>Bx y.1 q
def rl (P:List Ao) (q:Am) (k:Int) (f:Ao→Prop):Prop:=∃ m,m∈P∧m.1=k∧mId m=q∧f m
noncomputable def vw (x:Bq) (q:Am):St BN SDt where
 I i:=aiD (atI (AV x i).2.2.1 q)
 L i:=(fL (AV x i).2.2.2 q).map alD
 pre b c d:=rl x.2 q 1 fun m=>Ek m=b∧JY m=c∧mSd m=d
 preOk b i d s:=rl x.2 q 2 fun m=>Ek m=b∧m.2.1=i∧mSd m=d∧Qn m=s
 acc b c d:=rl x.2 q 3 fun m=>Ek m=b∧JY m=c∧mSd m=d
 accOk b i:=rl x.2 q 4 fun m=>Ek m=b∧m.2.1=i
 com c d:=rl x.2 q 5 fun m=>JY m=c∧mSd m=d
 prepOk b i t:=rl x.2 q 7 fun m=>Ek m=b∧m.2.1=i∧aiM m=t
theorem lU (P out:List Ao) (q:Am) (k:Int) (f:Ao→Prop):rl (FJ P out) q k f↔rl P q k f∨rl out q k f:=by
 unfold rl;constructor
 ·rintro ⟨m,h,hh⟩;rcases (Lg P out m).1 h with h | h
  ·exact .inl ⟨m,h,hh⟩
  ·exact .inr ⟨m,h,hh⟩
 ·rintro (⟨m,h,hh⟩ | ⟨m,h,hh⟩)
  ·exact ⟨m,(Lg P out m).2 (.inl h),hh⟩
  ·exact ⟨m,(Lg P out m).2 (.inr h),hh⟩
theorem wF (q:Am) (k:Int) (f:Ao→Prop):rl [] q k f↔False:=by unfold rl;simp
theorem wG (m:Ao) (q:Am) (k:Int) (f:Ao→Prop):rl [m] q k f↔m.1=k∧mId m=q∧f m:=by unfold rl;simp
theorem Ux {me:Int} (hme:Nd me) (m:Ao) (q:Am) (k:Int) (f:Ao→Prop) (hf:∀ a b,f (LU a b m)↔f (LU 0 0 m)):rl (EB me m) q k f↔m.1=k∧mId m=q∧f (LU 0 0 m):=by
 unfold rl;constructor
 ·rintro ⟨x,hx,h1,h2,h3⟩;obtain ⟨t,_,_,rfl⟩:=HS hx;exact ⟨h1,h2,(hf _ _).1 h3⟩
 ·rintro ⟨h1,h2,h3⟩;have hl:=Lz (show 0≤me∧me < 3 from hme) m
  cases hb:EB me m with
  | nil=>rw [hb] at hl;cases hl
  | cons y ys =>
   have hy:y∈EB me m:=by rw [hb];exact .head _
   obtain ⟨t,_,_,rfl⟩:=HS hy;exact ⟨LU me t m,by rw [← hb];exact hy,h1,h2,(hf _ _).2 h3⟩
theorem EJ {a b:Am}:Bx a b=true↔a=b:=by rw [DD];simp
theorem cA {l:List Ar} {q:Am} {p:Ar→Bool} (hp:∀ x,x∈l→x.1=q→p x=true):(l.filter p).find? (fun x=>Bx x.1 q)=l.find? fun x=>Bx x.1 q:=by
 induction l with
 | nil=>rfl
 | cons x l ih =>
  have ih:=ih fun y hy=>hp y (.tail _ hy);by_cases h:x.1=q
  ·rw [aBp,if_pos (hp x (.head _) h),aDh,aDh,EJ.2 h]
  ·have e:Bx x.1 q=false:=by rw [aCe];exact fun h2=>h (EJ.1 h2)
   rw [aDh,e,aBp];split
   ·rw [aDh,e];exact ih
   ·exact ih
theorem RN {l:List Ar} {q:Am} (h:∀ x,x∈l→x.1≠q):l.find? (fun x=>Bx x.1 q)=none:=by
 rw [aCs];intro x hx hh;exact h x hx (EJ.1 hh)
theorem lV (l:List Ar) (x:Ar) (q:Am):atI (DL l x) q=if x.1=q then x else atI l q:=by
 have key:Hv (DL l x) q=if x.1=q then some x else Hv l q:=by
  unfold Hv DL;rw [List.find?_append,aDh];by_cases h:x.1=q
  ·subst h;rw [if_pos rfl,EJ.2 rfl,RN (fun y hy=>?_)]
   ·rfl
   ·intro e;have:=(aAs.1 hy).2;rw [e,HZ] at this;cases this
  ·have e:Bx x.1 q=false:=by rw [aCe];exact fun h2=>h (EJ.1 h2)
   rw [if_neg h,e];simp only [];by_cases h1:BY q x.1=true
   ·rw [cA (fun y _ hy=>by rw [hy];exact h1),RN (l:=l.filter fun y=>BY x.1 y.1) (fun y hy e2=>?_)]
    ·cases l.find? fun x=>Bx x.1 q<;>rfl
    ·have:=(aAs.1 hy).2;rw [e2,NO h1] at this;cases this
   ·rw [RN (l:=l.filter fun y=>BY y.1 x.1) (fun y hy e2=>?_),cA (fun y _ hy=>?_)]
    ·rfl
    ·rw [hy,eG (by simpa using h1),aB4,aCe];intro h3;exact h (EJ.1 h3).symm
    ·have:=(aAs.1 hy).2;rw [e2] at this;exact h1 this
 unfold atI;rw [key];by_cases h:x.1=q
 ·rw [if_pos h,if_pos h]
 ·rw [if_neg h,if_neg h]
theorem iS (y:AM) (ls:List AM) (l:AM):Da (y::ls) l=if y.1=l.1 then l::ls else y::Da ls l:=by
 unfold Da;rw [List.findIdx?_cons];by_cases h:y.1=l.1
 ·rw [EJ.2 h,if_pos h];rfl
 ·rw [if_neg (fun h2=>h (EJ.1 h2)),if_neg h]
  cases ls.findIdx? fun y=>Bx y.1 l.1<;>rfl
theorem LA (y:AM) (ls:List AM) (q:Am):fL (y::ls) q=if y.1=q then some y else fL ls q:=by
 unfold fL;rw [aDh];by_cases h:y.1=q
 ·rw [EJ.2 h,if_pos h]
 ·rw [if_neg h,show Bx y.1 q=false by rw [aCe];exact fun h2=>h (EJ.1 h2)]
theorem lW (ls:List AM) (l:AM) (q:Am):fL (Da ls l) q=if l.1=q then some l else fL ls q:=by
 induction ls with
 | nil=>exact LA l [] q
 | cons y ls ih =>
  rw [iS];split
  ·rename_i h;rw [LA,LA,h];split<;>rfl
  ·rename_i h;rw [LA,ih,LA];split
   ·rename_i h2;rw [if_neg fun h3=>h (h2.trans h3.symm)]
   ·rfl
theorem Uy (ls:List AM) (id q:Am):fL (ES ls id) q=if id=q then none else fL ls q:=by
 induction ls with
 | nil=>unfold ES fL;simp
 | cons y ls ih =>
  have e:ES (y::ls) id=if y.1=id then ES ls id else y::ES ls id:=by
   unfold ES;rw [aBp];by_cases h:y.1=id
   ·rw [EJ.2 h,if_pos h];rfl
   ·rw [if_neg h,if_pos (by rw [aB4,aCe];exact fun h2=>h (EJ.1 h2))]
  rw [e];split
  ·rename_i h;rw [ih,LA,h];split<;>rfl
  ·rename_i h;rw [LA,ih,LA];split
   ·rename_i h2;rw [if_neg fun h3=>h (h2.trans h3.symm)]
   ·rfl
theorem Uz {ls:List AM} {q:Am} {l:AM} (h:fL ls q=some l):l∈ls∧l.1=q:=by
 have h2:=aC9 h;exact ⟨aCi h,EJ.1 h2⟩
theorem lX (ls:List AM) (l:AM) (q:Am):fL (ls++[l]) q=(fL ls q).or (if l.1=q then some l else none):=by
 unfold fL;rw [List.find?_append];by_cases h:l.1=q
 ·rw [if_pos h,aDh,EJ.2 h]
 ·rw [if_neg h,aDh,show Bx l.1 q=false by rw [aCe];exact fun h2=>h (EJ.1 h2)];rfl
end Go.Proofs.SL
