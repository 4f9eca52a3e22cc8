/- The texts of the proof, part 5. -/
import Derived.Test.YthlbpedehajlgaaGreatT4
import Derived.Lib.Overlaps
import Derived.Lib.AppendZerosOnto
import Derived.Laws.Externs
import Derived.OrdersHeld
set_option linter.all false
namespace Go.Proofs.SL
open Go Tryz Go.Proofs.SL.GT
variable (w:World)
noncomputable section
set_option maxHeartbeats 2000000
abbrev BN:=Int×Int×Int×ByteArray×ByteArray×ByteArray×Int×(List ByteArray)
instance Ki:ElF prog 36 9 1 16 [.string aA0]:=⟨kr⟩
instance UX:OneF prog 9:=⟨kr⟩
instance Aba:FldF prog 38 0 0:=⟨kr⟩
instance Bg:OneF prog 3:=⟨kr⟩
instance Abb:FldF prog 38 1 1:=⟨kr⟩
instance Abc:FldF prog 38 2 2:=⟨kr⟩
instance Abd:FldF prog 38 3 3:=⟨kr⟩
instance Abe:FldF prog 38 4 4:=⟨kr⟩
instance Abf:FldF prog 38 5 5:=⟨kr⟩
instance Abg:FldF prog 38 6 6:=⟨kr⟩
instance Abh:FldF prog 38 7 7:=⟨kr⟩
instance Ac3:OneF prog 36:=⟨kr⟩
instance zZ:FnF prog 44:=⟨_,func44,kr,rfl⟩
instance Qs:StrF prog 9:=⟨kr⟩
instance HW:FnF prog 83:=⟨_,func83,kr,rfl⟩
instance wY:FnF prog 132:=⟨_,func132,kr,rfl⟩
instance CS:AggF prog 38 8:=⟨kr⟩
instance fU:BldF prog 38 [(0,1),(1,1),(2,1),(3,1),(4,1),(5,1),(6,1),(7,1)] [.int .i64 0,.int .i64 0,.int .i64 0,.string aA0,.string aA0,.string aA0,.int .i64 0,.slice none 0 0]:=⟨kr⟩
instance uP:FnF prog 19:=⟨_,func19,kr,rfl⟩
instance nJ:FnF prog 84:=⟨_,func84,kr,rfl⟩
instance wZ:FnF prog 193:=⟨_,func193,kr,rfl⟩
instance xA:FnF prog 194:=⟨_,func194,kr,rfl⟩
instance pQ:FnF prog 161:=⟨_,func161,kr,rfl⟩
instance fV:FnF prog 162:=⟨_,func162,kr,rfl⟩
instance xB:FnF prog 163:=⟨_,func163,kr,rfl⟩
def Nv (a0:List ByteArray) (a1:List ByteArray):Option Bool :=
 cond (!decide ((a0.length:Int)=(a1.length:Int))) (some false) (Bn (fun s2:Int=>cond (decide (s2 < (a0.length:Int))) ((idx a0 s2).bind fun y4=>(idx a1 s2).bind fun y5=>cond (!decide (y4=y5)) (Option.map .inr (some false)) (some (.inl (IntKind.wrap .i64 (s2+1))))) (Option.map .inr (some true))) 0)
theorem Xa (a0:TL ByteArray) (a1:TL ByteArray) (h0:rd w [] a0) (h1:rd w [] a1) (r) (hp:Nv (dat a0) (dat a1)=some r):Sp 44 [a0.hdr,a1.hdr] w [] (IsV (.bool r)):=by
 refine Ay func44 rfl ntmps44 rfl ?_;unfold Nv at hp;replace hp:=dd hp;refine s13 ?_;revert hp;refine kC [0,1,10] (fun q1 hp=>?_) fun q1 hp=>?_
 ·refine s4 ?_;exact fB
 refine s7 ?_;refine BB (σ:=Int) dat (fun (a2:Int)=>[(5,.int .i64 a2)]) (fun (a2:Int)=>[]) [(0,_),(1,_)] [] 0 hp sb ms ?_;clear hp;rintro a2 x2 hp a3;replace hp:=dd hp;refine kq [0,1,5] ?_;refine s8 ?_;revert hp;refine kC [0,1,5,14] (fun q3 hp=>?_) fun q3 hp=>?_
 ·refine s4 ?_;replace hp:=AE hp;obtain ⟨u4,a4,hp⟩:=hp;replace hp:=AE hp;obtain ⟨u5,a5,hp⟩:=hp;refine BM [25] mix kr rfl (s2 ?_);refine Bt (X:=a0) Ai (Ag rfl) (Ag rfl) Ki.h (Ab h0) (fun _=>a4) ?_;refine Cr Ai (Ag rfl) (fun hg=>AN (Ab h0) (a4).2) UX.h rfl (s2 ?_);refine Bt (X:=a1) Ai (Ag rfl) (Ag rfl) Ki.h (Ab h1) (fun _=>a5) ?_;refine Cr Ai (Ag rfl) (fun hg=>AN (Ab h1) (a5).2) UX.h rfl (s12 ?_);revert hp;refine kC [0,1,5,25] (fun q6 hp=>?_) fun q6 hp=>?_
  ·refine s4 ?_;replace hp:=mxA hp a3;exact fB
  refine s6 ?_;exact ⟨IntKind.wrap .i64 (a2+1),sb,(.sub ms),AU hp⟩
 refine BG ?_;replace hp:=mxA hp a3;refine s4 ?_;exact fB
def Ll (a0:BN) (a1:BN):Option Bool :=
 gb (((((((decide (a0.1=a1.1))&&(decide (a0.2.1=a1.2.1)))&&(decide (a0.2.2.1=a1.2.2.1)))&&(decide (a0.2.2.2.1=a1.2.2.2.1)))&&(decide (a0.2.2.2.2.1=a1.2.2.2.2.1)))&&(decide (a0.2.2.2.2.2.1=a1.2.2.2.2.2.1)))&&(decide (a0.2.2.2.2.2.2.1=a1.2.2.2.2.2.2.1))) (Nv a0.2.2.2.2.2.2.2 a1.2.2.2.2.2.2.2) (fun y1=>some ((((((((decide (a0.1=a1.1))&&(decide (a0.2.1=a1.2.1)))&&(decide (a0.2.2.1=a1.2.2.1)))&&(decide (a0.2.2.2.1=a1.2.2.2.1)))&&(decide (a0.2.2.2.2.1=a1.2.2.2.2.1)))&&(decide (a0.2.2.2.2.2.1=a1.2.2.2.2.2.1)))&&(decide (a0.2.2.2.2.2.2.1=a1.2.2.2.2.2.2.1)))&&y1))
theorem Rd (a0:CR) (a1:CR) (h0:rd w [] a0) (h1:rd w [] a1) (r) (hp:Ll (dat a0) (dat a1)=some r):Sp 19 [.agg (cells a0).toArray,.agg (cells a1).toArray] w [] (IsV (.bool r)):=by
 obtain ⟨a5,a6,a7,a8,a9,aa,ab,a2⟩:=a0;obtain ⟨ac,ad,ae,af,ag,ah,ai,a3⟩:=a1;refine sa ?_;refine Ay func19 rfl ntmps19 rfl ?_;unfold Ll at hp;replace hp:=dd hp;refine s2 ?_;refine bx fun aj=>?_;refine bx fun ak=>?_;refine s3 ?_;replace hp:=Bz hp;obtain ⟨y1,a4,hp⟩:=hp;refine BM [4] mix kr rfl (s20 ?_);refine s20 ?_;refine s12 ?_;refine AT (Aj rfl rfl) zZ.h (Ae (Al rfl) (Ae (Al rfl) (AC))) (by exact fun hg w F hF hM=>Xa w a2 a3 (AD (Ab h0.2.2.2.2.2.2.2) hF hM) (AD (Ab h1.2.2.2.2.2.2.2) hF hM) _ (a4 hg.2)) (s20 ?_);refine s20 ?_;refine s19 ?_;exact fB
def Pf (a0:ByteArray):Option Bool :=
 (Ez (a0.size:Int) 1 8).bind fun y1=>cond (!y1) (some false) (Bn (fun s3:Int=>cond (decide (s3 < (a0.size:Int))) ((Jy a0 s3).bind fun y5=>gb (!(decide (y5 < 97))) (Jy a0 s3) (fun y6=>cond ((decide (y5 < 97))||(decide (122 < y6))) (Option.map .inr (some false)) (some (.inl (IntKind.wrap .i64 (s3+1)))))) (Option.map .inr (some true))) 0)
theorem Yi (a0:ByteArray)  (r) (hp:Pf a0=some r):Sp 132 [.string a0] w [] (IsV (.bool r)):=by
 refine Ay func132 rfl ntmps132 rfl ?_;unfold Pf at hp;replace hp:=dd hp;refine s9 ?_;revert hp;refine bc fun y1 a3 hp=>?_;refine BH rfl HW.h rfl (by exact fun w hw=>CU w (a0.size:Int) 1 8  _ a3) (s2 ?_);revert hp;refine kC [0,7] (fun q2 hp=>?_) fun q2 hp=>?_
 ·refine s4 ?_;exact fB
 refine s7 ?_;refine BB (σ:=Int) dat (fun (a1:Int)=>[(3,.int .i64 a1)]) (fun (a1:Int)=>[]) [(0,_)] [] 0 hp sb ms ?_;clear hp;rintro a1 x3 hp a2;replace hp:=dd hp;refine kq [0,3] ?_;refine s8 ?_;revert hp;refine kC [0,3,11] (fun q4 hp=>?_) fun q4 hp=>?_
 ·refine s4 ?_;revert hp;refine bc fun y5 a4 hp=>?_;replace hp:=Bz hp;obtain ⟨y6,a5,hp⟩:=hp;refine BM [23] mix kr rfl (s2 ?_);refine Nt Ai (Ag rfl) (Ag rfl) Qs.h (fun hg=>a4) (s4 ?_);refine Nt (Aj rfl rfl) (Al rfl) (Al rfl) Qs.h (fun hg=>(a5 (BP hg.2))) (s14 ?_);revert hp;refine kC [0,3,23] (fun q7 hp=>?_) fun q7 hp=>?_
  ·refine s4 ?_;replace hp:=mxA hp a2;exact fB
  refine s6 ?_;exact ⟨IntKind.wrap .i64 (a1+1),sb,(.sub ms),AU hp⟩
 refine BG ?_;replace hp:=mxA hp a2;refine s4 ?_;exact fB
def Mn (a0:ByteArray) (a1:Bool):Option Bool :=
 cond a1 ((Pf a0).bind fun y2=>some y2) (some (decide (a0=aA0)))
theorem Pg (a0:ByteArray) (a1:Bool)  (r) (hp:Mn a0 a1=some r):Sp 84 [.string a0,.bool a1] w [] (IsV (.bool r)):=by
 refine Ay func84 rfl ntmps84 rfl ?_;unfold Mn at hp;replace hp:=dd hp;refine s9 ?_;revert hp;refine kC [0,5] (fun q1 hp=>?_) fun q1 hp=>?_
 ·refine s3 ?_;revert hp;refine bc fun y2 a2 hp=>?_;refine BH rfl wY.h rfl (by exact fun w hw=>Yi w a0  _ a2) (s2 ?_);exact fB
 refine s7 ?_;exact fB
def Ig (a0:BN):Option Bool :=
 (Ez a0.1 0 7).bind fun y1=>cond (!y1) (some false) (cond (decide (a0.1=0)) ((Ll a0 (0,0,0,aA0,aA0,aA0,0,([]:List ByteArray))).bind fun y4=>some y4) ((Ez a0.2.1 1 9).bind fun y5=>gb (!(!y5)) (Ez a0.2.2.1 1 1000) (fun y6=>gb (!((!y5)||(!y6))) (Mn a0.2.2.2.1 (!decide (a0.1=7))) (fun y7=>gb (!(((!y5)||(!y6))||(!y7))) (Mn a0.2.2.2.2.1 ((decide (a0.1=3))||(decide (a0.1=4)))) (fun y8=>gb (!((((!y5)||(!y6))||(!y7))||(!y8))) (Mn a0.2.2.2.2.2.1 (decide (a0.1=4))) (fun y9=>gb (((!(((((!y5)||(!y6))||(!y7))||(!y8))||(!y9)))&&(!decide (a0.2.2.2.2.2.2.1=0)))&&(!(!decide (a0.1=5)))) (Ez a0.2.2.2.2.2.2.1 0 9) (fun a1=>cond ((((((!y5)||(!y6))||(!y7))||(!y8))||(!y9))||((!decide (a0.2.2.2.2.2.2.1=0))&&((!decide (a0.1=5))||(!a1)))) (some false) (cond (!decide (a0.1=3)) (some (decide ((a0.2.2.2.2.2.2.2.length:Int)=0))) ((Ez (a0.2.2.2.2.2.2.2.length:Int) 1 4).bind fun a2=>cond (!a2) (some false) (Bn (fun s15:Int=>cond (decide (s15 < (a0.2.2.2.2.2.2.2.length:Int))) ((idx a0.2.2.2.2.2.2.2 s15).bind fun a3=>cond (!decide ((a3.size:Int)=8)) (Option.map .inr (some false)) (some (.inl (IntKind.wrap .i64 (s15+1))))) (Option.map .inr (some true))) 0))))))))))
theorem JC (a0:CR) (h0:rd w [] a0) (r) (hp:Ig (dat a0)=some r):Sp 38 [.agg (cells a0).toArray] w [] (IsV (.bool r)):=by
 obtain ⟨a1,a4,a5,a6,a7,a8,a9,a3⟩:=a0;refine sa ?_;refine Ay func38 rfl ntmps38 rfl ?_;unfold Ig at hp;replace hp:=dd hp;refine s2 ?_;refine bx fun ae=>?_;refine s7 ?_;revert hp;refine bc fun y1 af hp=>?_;refine BH rfl HW.h rfl (by exact fun w hw=>CU w a1 0 7  _ af) (s2 ?_);revert hp;refine kC [1,8] (fun q2 hp=>?_) fun q2 hp=>?_
 ·refine s4 ?_;exact fB
 refine s8 ?_;revert hp;refine kC [1,11] (fun q3 hp=>?_) fun q3 hp=>?_
 ·refine s3 ?_;refine Cg (xs:=[]) (cs:=[.int .i64 0,.int .i64 0,.int .i64 0,.string aA0,.string aA0,.string aA0,.int .i64 0,(TL.hdr (TL.nil ByteArray 0))]) rfl rfl fU.h rfl ?_;revert hp;refine bc fun y4 ag hp=>?_;refine BH rfl uP.h rfl (by exact fun w hw=>Rd w (a1,a4,a5,a6,a7,a8,a9,a3) (0,0,0,aA0,aA0,aA0,0,(TL.nil ByteArray 0)) (Aq (Ab h0) hw) (Aq (Aa Ac (Aa Ac (Aa Ac (Aa DS (Aa DS (Aa DS (Aa Ac (Ed 0)))))))) hw) _ ag) (s2 ?_);exact fB
 refine s9 ?_;revert hp;refine bc fun y5 ah hp=>?_;replace hp:=Bz hp;obtain ⟨y6,ai,hp⟩:=hp;replace hp:=Bz hp;obtain ⟨y7,aj,hp⟩:=hp;replace hp:=Bz hp;obtain ⟨y8,ak,hp⟩:=hp;replace hp:=Bz hp;obtain ⟨y9,am,hp⟩:=hp;replace hp:=Bz hp;obtain ⟨au,ac,hp⟩:=hp;refine BM [69] mix kr rfl (s2 ?_);refine AT Ai HW.h (Ae (Ag rfl) (Ae Bp (Ae Bp (AC)))) (by exact fun hg w F hF hM=>CU w a4 1 9  _ ah) (s4 ?_);refine AT (Aj rfl rfl) HW.h (Ae (Al rfl) (Ae Bp (Ae Bp (AC)))) (by exact fun hg w F hF hM=>CU w a5 1 1000  _ (ai (BP hg.2))) (s7 ?_);refine AT (Aj rfl rfl) nJ.h (Ae (Al rfl) (Ae (Al rfl) (AC))) (by exact fun hg w F hF hM=>Pg w a6 (!decide (a1=7))  _ (aj (BP hg.2))) (s11 ?_);refine AT (Aj rfl rfl) nJ.h (Ae (Al rfl) (Ae (Al rfl) (AC))) (by exact fun hg w F hF hM=>Pg w a7 ((decide (a1=3))||(decide (a1=4)))  _ (ak (BP hg.2))) (s7 ?_);refine AT (Aj rfl rfl) nJ.h (Ae (Al rfl) (Ae (Al rfl) (AC))) (by exact fun hg w F hF hM=>Pg w a8 (decide (a1=4))  _ (am (BP hg.2))) (s12 ?_);refine AT (Aj rfl rfl) HW.h (Ae (Al rfl) (Ae Bp (Ae Bp (AC)))) (by exact fun hg w F hF hM=>CU w a9 0 9  _ (ac (GS (GS (BP hg.1.1.2) hg.1.2) (BP hg.2)))) (s20 ?_);refine s20 ?_;refine s19 ?_;revert hp;refine kC [1,3,69] (fun an hp=>?_) fun an hp=>?_
 ·refine s4 ?_;exact fB
 refine s7 ?_;revert hp;refine kC [1,71] (fun ao hp=>?_) fun ao hp=>?_
 ·refine s8 ?_;exact fB
 refine s7 ?_;revert hp;refine bc fun av ad hp=>?_;refine BH rfl HW.h rfl (by exact fun w hw=>CU w ((dat a3).length:Int) 1 4  _ ad) (s2 ?_);revert hp;refine kC [1,80] (fun ap hp=>?_) fun ap hp=>?_
 ·refine s4 ?_;exact fB
 refine s7 ?_;refine BB (σ:=Int) dat (fun (a2:Int)=>[(4,.int .i64 a2)]) (fun (a2:Int)=>[]) [(1,_)] [blk ae _ _] 0 hp sb ms ?_;clear hp;rintro a2 aw hp aa;replace hp:=dd hp;refine kq [1,4] ?_;refine s9 ?_;revert hp;refine kC [1,4,85] (fun aq hp=>?_) fun aq hp=>?_
 ·refine s8 ?_;replace hp:=AE hp;obtain ⟨ax,ab,hp⟩:=hp;refine BU (X:=a3) rfl rfl rfl Ki.h (Ab h0.2.2.2.2.2.2.2) ab ?_;refine FA rfl rfl (AN (Ab h0.2.2.2.2.2.2.2) (ab).2) UX.h rfl (s3 ?_);revert hp;refine kC [1,4,94] (fun ar hp=>?_) fun ar hp=>?_
  ·refine s4 ?_;replace hp:=mxA hp aa;exact fB
  refine s6 ?_;exact ⟨IntKind.wrap .i64 (a2+1),sb,(.sub ms),AU hp⟩
 refine BG ?_;replace hp:=mxA hp aa;refine s4 ?_;exact fB
def Ih (a0:List ByteArray) (a1:List ByteArray):Option Bool :=
 cond (!decide ((a0.length:Int)=(a1.length:Int))) (some false) (Bn (fun s2:Int=>cond (decide (s2 < (a0.length:Int))) ((idx a0 s2).bind fun y4=>(idx a1 s2).bind fun y5=>cond (!decide (y4=y5)) (Option.map .inr (some false)) (some (.inl (IntKind.wrap .i64 (s2+1))))) (Option.map .inr (some true))) 0)
theorem NW (a0:TL ByteArray) (a1:TL ByteArray) (h0:rd w [] a0) (h1:rd w [] a1) (r) (hp:Ih (dat a0) (dat a1)=some r):Sp 193 [a0.hdr,a1.hdr] w [] (IsV (.bool r)):=by
 refine Ay func193 rfl ntmps193 rfl ?_;unfold Ih at hp;replace hp:=dd hp;refine s13 ?_;revert hp;refine kC [0,1,10] (fun q1 hp=>?_) fun q1 hp=>?_
 ·refine s4 ?_;exact fB
 refine s9 ?_;refine BB (σ:=Int) dat (fun (a2:Int)=>[(13,.int .i64 a2)]) (fun (a2:Int)=>[]) [(0,_),(1,_),(12,_)] [] 0 hp sb ms ?_;clear hp;rintro a2 x2 hp a3;replace hp:=dd hp;refine kq [0,1,12,13] ?_;refine s5 ?_;revert hp;refine kC [0,1,12,13,14] (fun q3 hp=>?_) fun q3 hp=>?_
 ·refine s9 ?_;replace hp:=AE hp;obtain ⟨u4,a4,hp⟩:=hp;replace hp:=AE hp;obtain ⟨u5,a5,hp⟩:=hp;refine BM [24] mix kr rfl (s2 ?_);refine Bt (X:=a0) Ai (Ag rfl) (Ag rfl) Ki.h (Ab h0) (fun _=>a4) ?_;refine Cr Ai (Ag rfl) (fun hg=>AN (Ab h0) (a4).2) UX.h rfl (s2 ?_);refine Bt (X:=a1) Ai (Ag rfl) (Ag rfl) Ki.h (Ab h1) (fun _=>a5) ?_;refine Cr Ai (Ag rfl) (fun hg=>AN (Ab h1) (a5).2) UX.h rfl (s12 ?_);revert hp;refine kC [0,1,12,13,24] (fun q6 hp=>?_) fun q6 hp=>?_
  ·refine s4 ?_;replace hp:=mxA hp a3;exact fB
  refine s5 ?_;exact ⟨IntKind.wrap .i64 (a2+1),sb,(.sub ms),AU hp⟩
 refine BG ?_;replace hp:=mxA hp a3;refine s4 ?_;exact fB
def Nw (a0:BN) (a1:BN):Option Bool :=
 gb (((((((decide (a0.1=a1.1))&&(decide (a0.2.1=a1.2.1)))&&(decide (a0.2.2.1=a1.2.2.1)))&&(decide (a0.2.2.2.1=a1.2.2.2.1)))&&(decide (a0.2.2.2.2.1=a1.2.2.2.2.1)))&&(decide (a0.2.2.2.2.2.1=a1.2.2.2.2.2.1)))&&(decide (a0.2.2.2.2.2.2.1=a1.2.2.2.2.2.2.1))) (Ih a0.2.2.2.2.2.2.2 a1.2.2.2.2.2.2.2) (fun y1=>some ((((((((decide (a0.1=a1.1))&&(decide (a0.2.1=a1.2.1)))&&(decide (a0.2.2.1=a1.2.2.1)))&&(decide (a0.2.2.2.1=a1.2.2.2.1)))&&(decide (a0.2.2.2.2.1=a1.2.2.2.2.1)))&&(decide (a0.2.2.2.2.2.1=a1.2.2.2.2.2.1)))&&(decide (a0.2.2.2.2.2.2.1=a1.2.2.2.2.2.2.1)))&&y1))
theorem Re (a0:CR) (a1:CR) (h0:rd w [] a0) (h1:rd w [] a1) (r) (hp:Nw (dat a0) (dat a1)=some r):Sp 161 [.agg (cells a0).toArray,.agg (cells a1).toArray] w [] (IsV (.bool r)):=by
 obtain ⟨a5,a6,a7,a8,a9,aa,ab,a2⟩:=a0;obtain ⟨ac,ad,ae,af,ag,ah,ai,a3⟩:=a1;refine sa ?_;refine Ay func161 rfl ntmps161 rfl ?_;unfold Nw at hp;replace hp:=dd hp;refine s2 ?_;refine bx fun aj=>?_;refine bx fun ak=>?_;refine s3 ?_;replace hp:=Bz hp;obtain ⟨y1,a4,hp⟩:=hp;refine BM [4] mix kr rfl (s20 ?_);refine s20 ?_;refine s12 ?_;refine AT (Aj rfl rfl) wZ.h (Ae (Al rfl) (Ae (Al rfl) (AC))) (by exact fun hg w F hF hM=>NW w a2 a3 (AD (Ab h0.2.2.2.2.2.2.2) hF hM) (AD (Ab h1.2.2.2.2.2.2.2) hF hM) _ (a4 hg.2)) (s20 ?_);refine s20 ?_;refine s19 ?_;exact fB
def Ph (a0:ByteArray):Option Bool :=
 Bn (fun s1:Int=>cond (decide (s1 < (a0.size:Int))) ((Jy a0 s1).bind fun y3=>gb (!(decide (y3 < 97))) (Jy a0 s1) (fun y4=>cond ((decide (y3 < 97))||(decide (122 < y4))) (Option.map .inr (some false)) (some (.inl (IntKind.wrap .i64 (s1+1)))))) (Option.map .inr ((Dl (a0.size:Int) 1 8).bind fun y8=>some y8))) 0
theorem Yj (a0:ByteArray)  (r) (hp:Ph a0=some r):Sp 194 [.string a0] w [] (IsV (.bool r)):=by
 refine Ay func194 rfl ntmps194 rfl ?_;unfold Ph at hp;replace hp:=dd hp;refine s10 ?_;refine BB (σ:=Int) dat (fun (a1:Int)=>[(3,.int .i64 a1)]) (fun (a1:Int)=>[]) [(0,_)] [] 0 hp sb ms ?_;clear hp;rintro a1 x1 hp a2;replace hp:=dd hp;refine kq [0,3] ?_;refine s8 ?_;revert hp;refine kC [0,3,7] (fun q2 hp=>?_) fun q2 hp=>?_
 ·refine s4 ?_;revert hp;refine bc fun y3 a3 hp=>?_;replace hp:=Bz hp;obtain ⟨y4,a4,hp⟩:=hp;refine BM [19] mix kr rfl (s2 ?_);refine Nt Ai (Ag rfl) (Ag rfl) Qs.h (fun hg=>a3) (s4 ?_);refine Nt (Aj rfl rfl) (Al rfl) (Al rfl) Qs.h (fun hg=>(a4 (BP hg.2))) (s14 ?_);revert hp;refine kC [0,3,19] (fun q5 hp=>?_) fun q5 hp=>?_
  ·refine s4 ?_;replace hp:=mxA hp a2;exact fB
  refine s6 ?_;exact ⟨IntKind.wrap .i64 (a1+1),sb,(.sub ms),AU hp⟩
 refine BG ?_;replace hp:=mxA hp a2;refine s4 ?_;revert hp;refine bc fun y8 a5 hp=>?_;refine BH rfl Hs.h rfl (by exact fun w hw=>Cu w (a0.size:Int) 1 8  _ a5) (s2 ?_);exact fB
def KW (a0:ByteArray) (a1:Bool):Option Bool :=
 cond a1 ((Ph a0).bind fun y2=>some y2) (some (decide (a0=aA0)))
theorem NX (a0:ByteArray) (a1:Bool)  (r) (hp:KW a0 a1=some r):Sp 162 [.string a0,.bool a1] w [] (IsV (.bool r)):=by
 refine Ay func162 rfl ntmps162 rfl ?_;unfold KW at hp;replace hp:=dd hp;refine s9 ?_;revert hp;refine kC [0,5] (fun q1 hp=>?_) fun q1 hp=>?_
 ·refine s3 ?_;revert hp;refine bc fun y2 a2 hp=>?_;refine BH rfl xA.h rfl (by exact fun w hw=>Yj w a0  _ a2) (s2 ?_);exact fB
 refine s7 ?_;exact fB
def Kr (a0:List ByteArray):Option Bool :=
 Bn (fun s1:Int=>cond (decide (s1 < (a0.length:Int))) ((idx a0 s1).bind fun y3=>cond (!decide ((y3.size:Int)=8)) (Option.map .inr (some false)) (some (.inl (IntKind.wrap .i64 (s1+1))))) (Option.map .inr (some true))) 0
theorem UY (a0:TL ByteArray) (h0:rd w [] a0) (r) (hp:Kr (dat a0)=some r):Sp 163 [a0.hdr] w [] (IsV (.bool r)):=by
 refine Ay func163 rfl ntmps163 rfl ?_;unfold Kr at hp;replace hp:=dd hp;refine s12 ?_;refine BB (σ:=Int) dat (fun (a1:Int)=>[(7,.int .i64 a1)]) (fun (a1:Int)=>[]) [(5,_),(6,_)] [] 0 hp sb ms ?_;clear hp;rintro a1 x1 hp a2;replace hp:=dd hp;refine kq [5,6,7] ?_;refine s5 ?_;revert hp;refine kC [5,6,7,8] (fun q2 hp=>?_) fun q2 hp=>?_
 ·refine s5 ?_;replace hp:=AE hp;obtain ⟨u3,a3,hp⟩:=hp;refine BU (X:=a0) rfl rfl rfl Ki.h (Ab h0) a3 ?_;refine FA rfl rfl (AN (Ab h0) (a3).2) UX.h rfl (s8 ?_);revert hp;refine kC [5,6,7,13] (fun q4 hp=>?_) fun q4 hp=>?_
  ·refine s4 ?_;replace hp:=mxA hp a2;exact fB
  refine s5 ?_;exact ⟨IntKind.wrap .i64 (a1+1),sb,(.sub ms),AU hp⟩
 refine BG ?_;replace hp:=mxA hp a2;refine s4 ?_;exact fB
def Ii (a0:BN):Option Bool :=
 cond (decide (a0.1=0)) ((Nw a0 (0,0,0,aA0,aA0,aA0,0,([]:List ByteArray))).bind fun y2=>some y2) ((Dl a0.1 1 7).bind fun y3=>gb (!(!y3)) (Dl a0.2.1 1 9) (fun y4=>gb (!((!y3)||(!y4))) (Dl a0.2.2.1 1 1000) (fun y5=>cond (((!y3)||(!y4))||(!y5)) (some false) ((KW a0.2.2.2.1 (!decide (a0.1=7))).bind fun y7=>gb (!(!y7)) (KW a0.2.2.2.2.1 ((decide (a0.1=3))||(decide (a0.1=4)))) (fun y8=>gb (!((!y7)||(!y8))) (KW a0.2.2.2.2.2.1 (decide (a0.1=4))) (fun y9=>cond (((!y7)||(!y8))||(!y9)) (some false) (gb ((!decide (a0.2.2.2.2.2.2.1=0))&&(!(!decide (a0.1=5)))) (Dl a0.2.2.2.2.2.2.1 0 9) (fun a2=>cond ((!decide (a0.2.2.2.2.2.2.1=0))&&((!decide (a0.1=5))||(!a2))) (some false) (cond (decide (a0.1=3)) ((Dl (a0.2.2.2.2.2.2.2.length:Int) 1 4).bind fun a1=>gb a1 (Kr a0.2.2.2.2.2.2.2) (fun a3=>some (a1&&a3))) (some (decide ((a0.2.2.2.2.2.2.2.length:Int)=0))))))))))))
theorem JD (a0:CR) (h0:rd w [] a0) (r) (hp:Ii (dat a0)=some r):Sp 114 [.agg (cells a0).toArray] w [] (IsV (.bool r)):=by
 obtain ⟨a1,a3,a4,a5,a6,a7,a8,a2⟩:=a0;refine sa ?_;refine Ay func114 rfl ntmps114 rfl ?_;unfold Ii at hp;replace hp:=dd hp;refine s2 ?_;refine bx fun an=>?_;refine s9 ?_;revert hp;refine kC [1,5] (fun q1 hp=>?_) fun q1 hp=>?_
 ·refine s3 ?_;refine Cg (xs:=[]) (cs:=[.int .i64 0,.int .i64 0,.int .i64 0,.string aA0,.string aA0,.string aA0,.int .i64 0,(TL.hdr (TL.nil ByteArray 0))]) rfl rfl fU.h rfl ?_;revert hp;refine bc fun y2 ac hp=>?_;refine BH rfl pQ.h rfl (by exact fun w hw=>Re w (a1,a3,a4,a5,a6,a7,a8,a2) (0,0,0,aA0,aA0,aA0,0,(TL.nil ByteArray 0)) (Aq (Ab h0) hw) (Aq (Aa Ac (Aa Ac (Aa Ac (Aa DS (Aa DS (Aa DS (Aa Ac (Ed 0)))))))) hw) _ ac) (s2 ?_);exact fB
 refine s3 ?_;revert hp;refine bc fun y3 ad hp=>?_;replace hp:=Bz hp;obtain ⟨y4,ae,hp⟩:=hp;replace hp:=Bz hp;obtain ⟨y5,af,hp⟩:=hp;refine BM [24] mix kr rfl (s2 ?_);refine AT Ai Hs.h (Ae (Ag rfl) (Ae Bp (Ae Bp (AC)))) (by exact fun hg w F hF hM=>Cu w a1 1 7  _ ad) (s4 ?_);refine AT (Aj rfl rfl) Hs.h (Ae (Al rfl) (Ae Bp (Ae Bp (AC)))) (by exact fun hg w F hF hM=>Cu w a3 1 9  _ (ae (BP hg.2))) (s5 ?_);refine AT (Aj rfl rfl) Hs.h (Ae (Al rfl) (Ae Bp (Ae Bp (AC)))) (by exact fun hg w F hF hM=>Cu w a4 1 1000  _ (af (BP hg.2))) (s20 ?_);revert hp;refine kC [1,24] (fun q6 hp=>?_) fun q6 hp=>?_
 ·refine s4 ?_;exact fB
 refine s3 ?_;revert hp;refine bc fun y7 ag hp=>?_;replace hp:=Bz hp;obtain ⟨y8,ah,hp⟩:=hp;replace hp:=Bz hp;obtain ⟨y9,ai,hp⟩:=hp;refine BM [54] mix kr rfl (s5 ?_);refine AT Ai fV.h (Ae (Ag rfl) (Ae (Ag rfl) (AC))) (by exact fun hg w F hF hM=>NX w a5 (!decide (a1=7))  _ ag) (s12 ?_);refine AT (Aj rfl rfl) fV.h (Ae (Al rfl) (Ae (Al rfl) (AC))) (by exact fun hg w F hF hM=>NX w a6 ((decide (a1=3))||(decide (a1=4)))  _ (ah (BP hg.2))) (s8 ?_);refine AT (Aj rfl rfl) fV.h (Ae (Al rfl) (Ae (Al rfl) (AC))) (by exact fun hg w F hF hM=>NX w a7 (decide (a1=4))  _ (ai (BP hg.2))) (s20 ?_);refine s14 ?_;revert hp;refine kC [1,54] (fun aj hp=>?_) fun aj hp=>?_
 ·refine s4 ?_;exact fB
 refine s3 ?_;replace hp:=Bz hp;obtain ⟨ao,a9,hp⟩:=hp;refine BM [68] mix kr rfl (s10 ?_);refine AT (Aj rfl rfl) Hs.h (Ae (Al rfl) (Ae Bp (Ae Bp (AC)))) (by exact fun hg w F hF hM=>Cu w a8 0 9  _ (a9 (GS hg.1.2 (BP hg.2)))) (s19 ?_);revert hp;refine kC [1,68] (fun ak hp=>?_) fun ak hp=>?_
 ·refine s4 ?_;exact fB
 refine s8 ?_;revert hp;refine kC [1,71] (fun am hp=>?_) fun am hp=>?_
 ·refine s1 ?_;revert hp;refine bc fun ap aa hp=>?_;replace hp:=Bz hp;obtain ⟨aq,ab,hp⟩:=hp;refine BM [2] mix kr rfl (s2 ?_);refine EK (X:=a2) Ai (Ag rfl) Ki.h ?_;refine AT Ai Hs.h (Ae (Ag rfl) (Ae Bp (Ae Bp (AC)))) (by exact fun hg w F hF hM=>Cu w ((dat a2).length:Int) 1 4  _ aa) (s3 ?_);refine AT (Aj rfl rfl) xB.h (Ae (Al rfl) (AC)) (by exact fun hg w F hF hM=>UY w a2 (AD (Ab h0.2.2.2.2.2.2.2) hF hM) _ (ab hg.2)) (s14 ?_);exact fB
 refine s9 ?_;exact fB
end
variable (w:World)
noncomputable section
set_option maxHeartbeats 2000000
abbrev Am:=Int×Int
abbrev Ar:=Am×Int×Int×Int×BN×Int×(List Am)×Bool
instance Abi:FldF prog 35 0 0:=⟨kr⟩
instance Abj:FldF prog 35 1 1:=⟨kr⟩
instance BS:ElF prog 31 35 2 16 [.int .i64 0,.int .i64 0]:=⟨kr⟩
instance Bo:AggF prog 35 2:=⟨kr⟩
instance VO:FnF prog 140:=⟨_,func140,kr,rfl⟩
instance YJ:FnF prog 181:=⟨_,func181,kr,rfl⟩
instance Dm:UndF prog 3 (.int .i64):=⟨kr⟩
theorem Ft:Rb prog 35=some [(3,0),(3,1)]:=by kernel_rfl
instance Abk:FldF prog 48 0 0:=⟨kr⟩
instance Abl:FldF prog 48 1 2:=⟨kr⟩
instance Abm:FldF prog 48 2 3:=⟨kr⟩
instance Abn:FldF prog 48 3 4:=⟨kr⟩
instance rU:FldF prog 48 4 5:=⟨kr⟩
instance Zx:FnF prog 38:=⟨_,func38,kr,rfl⟩
instance rV:FldF prog 48 5 13:=⟨kr⟩
instance rW:FldF prog 48 6 14:=⟨kr⟩
instance Hz:OneF prog 31:=⟨kr⟩
instance fW:FnF prog 141:=⟨_,func141,kr,rfl⟩
instance fX:FnF prog 142:=⟨_,func142,kr,rfl⟩
instance Abo:FldF prog 48 7 15:=⟨kr⟩
instance Sd:OneF prog 4:=⟨kr⟩
instance DU:ElF prog 41 48 16 184 [.int .i64 0,.int .i64 0,.int .i64 0,.int .i64 0,.int .i64 0,.int .i64 0,.int .i64 0,.int .i64 0,.string aA0,.string aA0,.string aA0,.int .i64 0,.slice none 0 0,.int .i64 0,.slice none 0 0,.bool false]:=⟨kr⟩
instance DB:AggF prog 48 16:=⟨kr⟩
instance Uh:FnF prog 180:=⟨_,func180,kr,rfl⟩
instance uQ:ZerF prog 35 [.int .i64 0,.int .i64 0]:=⟨kr⟩
instance VP:FnF prog 113:=⟨_,func113,kr,rfl⟩
instance Ui:FnF prog 128:=⟨_,func128,kr,rfl⟩
instance nK:FnF prog 40:=⟨_,func40,kr,rfl⟩
instance VQ:FnF prog 114:=⟨_,func114,kr,rfl⟩
instance YK:FnF prog 164:=⟨_,func164,kr,rfl⟩
instance UZ:FnF prog 76:=⟨_,func76,kr,rfl⟩
instance GB:ZerF prog 48 [.int .i64 0,.int .i64 0,.int .i64 0,.int .i64 0,.int .i64 0,.int .i64 0,.int .i64 0,.int .i64 0,.string aA0,.string aA0,.string aA0,.int .i64 0,.slice none 0 0,.int .i64 0,.slice none 0 0,.bool false]:=⟨kr⟩
instance pR:FnF prog 127:=⟨_,func127,kr,rfl⟩
def Kt (a0:Am):Option Bool :=
 (Ez a0.1 0 2).bind fun y1=>gb y1 (Ez a0.2 1 6) (fun y2=>some (y1&&y2))
theorem Ku (a0:AS) (h0:rd w [] a0) (r) (hp:Kt (dat a0)=some r):Sp 140 [.agg (cells a0).toArray] w [] (IsV (.bool r)):=by
 obtain ⟨a1,a2⟩:=a0;refine sa ?_;refine Ay func140 rfl ntmps140 rfl ?_;unfold Kt at hp;replace hp:=dd hp;refine s2 ?_;refine bx fun a5=>?_;refine s3 ?_;revert hp;refine bc fun y1 a3 hp=>?_;replace hp:=Bz hp;obtain ⟨y2,a4,hp⟩:=hp;refine BM [2] mix kr rfl (s2 ?_);refine AT Ai HW.h (Ae (Ag rfl) (Ae Bp (Ae Bp (AC)))) (by exact fun hg w F hF hM=>CU w a1 0 2  _ a3) (s3 ?_);refine AT (Aj rfl rfl) HW.h (Ae (Al rfl) (Ae Bp (Ae Bp (AC)))) (by exact fun hg w F hF hM=>CU w a2 1 6  _ (a4 hg.2)) (s13 ?_);exact fB
def IG (a0:Am) (a1:Am):Option Bool :=
 some ((decide (a0.1 < a1.1))||((decide (a0.1=a1.1))&&(decide (a0.2 < a1.2))))
theorem KN (a0:AS) (a1:AS) (h0:rd w [] a0) (h1:rd w [] a1) (r) (hp:IG (dat a0) (dat a1)=some r):Sp 181 [.agg (cells a0).toArray,.agg (cells a1).toArray] w [] (IsV (.bool r)):=by
 obtain ⟨a2,a3⟩:=a0;obtain ⟨a4,a5⟩:=a1;refine sa ?_;refine Ay func181 rfl ntmps181 rfl ?_;unfold IG at hp;replace hp:=dd hp;refine s2 ?_;refine bx fun a6=>?_;refine bx fun a7=>?_;refine s3 ?_;refine BM [4] mix kr rfl (s20 ?_);refine s20 ?_;refine s2 ?_;exact fB
def Mo (a0:List Am):Option Bool :=
 Bn (fun s1:Int=>cond (decide (s1 < (a0.length:Int))) ((idx a0 s1).bind fun y3=>(Kt y3).bind fun y4=>gb ((!(!y4))&&(decide (0 < s1))) (idx a0 (IntKind.wrap .i64 (s1 - 1))) (fun y5=>gb ((!(!y4))&&(decide (0 < s1))) (idx a0 s1) (fun y6=>gb ((!(!y4))&&(decide (0 < s1))) (IG y5 y6) (fun y7=>cond ((!y4)||((decide (0 < s1))&&(!y7))) (Option.map .inr (some false)) (some (.inl (IntKind.wrap .i64 (s1+1)))))))) (Option.map .inr (some true))) 0
theorem Pi (a0:TL AS) (h0:rd w [] a0) (r) (hp:Mo (dat a0)=some r):Sp 141 [a0.hdr] w [] (IsV (.bool r)):=by
 refine Ay func141 rfl ntmps141 rfl ?_;unfold Mo at hp;replace hp:=dd hp;refine s10 ?_;refine BB (σ:=Int) dat (fun (a1:Int)=>[(3,.int .i64 a1)]) (fun (a1:Int)=>[]) [(0,_)] [] 0 hp sb ms ?_;clear hp;rintro a1 x1 hp a2;replace hp:=dd hp;refine kq [0,3] ?_;refine s8 ?_;revert hp;refine kC [0,3,7] (fun q2 hp=>?_) fun q2 hp=>?_
 ·refine s4 ?_;replace hp:=AE hp;obtain ⟨⟨a6,a7⟩,a3,hp⟩:=hp;revert hp;refine bc fun y4 ac hp=>?_;replace hp:=Dk hp;obtain ⟨⟨a8,a9⟩,a4,hp⟩:=hp;replace hp:=Dk hp;obtain ⟨⟨aa,ab⟩,a5,hp⟩:=hp;replace hp:=Bz hp;obtain ⟨y7,ad,hp⟩:=hp;refine BM [32] mix kr rfl (s2 ?_);refine Bt (X:=a0) Ai (Ag rfl) (Ag rfl) BS.h (Ab h0) (fun _=>a3) ?_;refine Bw Ai (Ag rfl) (fun hg=>AN (Ab h0) (a3).2) Bo.h ?_;refine AT Ai VO.h (Ae (Ag rfl) (AC)) (by exact fun hg w F hF hM=>Ku w (a6,a7) (AD dv hF hM) _ ac) (s8 ?_);refine Bt (X:=a0) (Aj rfl rfl) (Al rfl) (Al rfl) BS.h (Ab h0) (fun hg=>a4 (GS (BP hg.1.2) hg.2)) ?_;refine Bw (Aj rfl rfl) (Al rfl) (fun hg=>AN (Ab h0) (a4 (GS (BP hg.1.2) hg.2)).2) Bo.h (s2 ?_);refine Bt (X:=a0) (Aj rfl rfl) (Al rfl) (Al rfl) BS.h (Ab h0) (fun hg=>a5 (GS (BP hg.1.2) hg.2)) ?_;refine Bw (Aj rfl rfl) (Al rfl) (fun hg=>AN (Ab h0) (a5 (GS (BP hg.1.2) hg.2)).2) Bo.h ?_;refine AT (Aj rfl rfl) YJ.h (Ae (Al rfl) (Ae (Al rfl) (AC))) (by exact fun hg w F hF hM=>KN w (a8,a9) (aa,ab) (AD dv hF hM) (AD dv hF hM) _ (ad (GS (BP hg.1.2) hg.2))) (s20 ?_);refine s8 ?_;revert hp;refine kC [0,3,32] (fun q8 hp=>?_) fun q8 hp=>?_
  ·refine s4 ?_;replace hp:=mxA hp a2;exact fB
  refine s6 ?_;exact ⟨IntKind.wrap .i64 (a1+1),sb,(.sub ms),AU hp⟩
 refine BG ?_;replace hp:=mxA hp a2;refine s4 ?_;exact fB
def Mp (a0:List Am) (a1:Am):Option Bool :=
 Bn (fun s1:Int=>cond (decide (s1 < (a0.length:Int))) ((idx a0 s1).bind fun y3=>cond (decide (y3.1=a1.1)&&(decide (y3.2=a1.2)&&true)) (Option.map .inr (some true)) (some (.inl (IntKind.wrap .i64 (s1+1))))) (Option.map .inr (some false))) 0
theorem Pj (a0:TL AS) (a1:AS) (h0:rd w [] a0) (h1:rd w [] a1) (r) (hp:Mp (dat a0) (dat a1)=some r):Sp 142 [a0.hdr,.agg (cells a1).toArray] w [] (IsV (.bool r)):=by
 obtain ⟨a6,a7⟩:=a1;refine sa ?_;refine Ay func142 rfl ntmps142 rfl ?_;unfold Mp at hp;replace hp:=dd hp;refine s2 ?_;refine bx fun a5=>?_;refine s8 ?_;refine BB (σ:=Int) dat (fun (a2:Int)=>[(5,.int .i64 a2)]) (fun (a2:Int)=>[]) [(0,_),(3,_)] [blk a5 _ _] 0 hp sb ms ?_;clear hp;rintro a2 x1 hp a3;replace hp:=dd hp;refine kq [0,3,5] ?_;refine s8 ?_;revert hp;refine kC [0,3,5,9] (fun q2 hp=>?_) fun q2 hp=>?_
 ·refine s4 ?_;replace hp:=AE hp;obtain ⟨⟨a8,a9⟩,a4,hp⟩:=hp;refine BM [17] mix kr rfl (s2 ?_);refine Bt (X:=a0) Ai (Ag rfl) (Ag rfl) BS.h (Ab h0) (fun _=>a4) ?_;refine Bw Ai (Ag rfl) (fun hg=>AN (Ab h0) (a4).2) Bo.h (s1 ?_);refine DT Ai (Ag rfl) (Ag rfl) (fun hg=>(Hm Ft (Cc Bg.h Dm.h rfl rfl (Cc Bg.h Dm.h rfl rfl EqS.nil)))) (s8 ?_);revert hp;refine kC [0,3,5,17] (fun q4 hp=>?_) fun q4 hp=>?_
  ·refine s4 ?_;replace hp:=mxA hp a3;exact fB
  refine s6 ?_;exact ⟨IntKind.wrap .i64 (a2+1),sb,(.sub ms),AU hp⟩
 refine BG ?_;replace hp:=mxA hp a3;refine s4 ?_;exact fB
def Gm (a0:Ar):Option Bool :=
 (Kt a0.1).bind fun y1=>gb (!(!y1)) (Ez a0.2.1 (-1) 600) (fun y2=>gb (!((!y1)||(!y2))) (Ez a0.2.2.1 (-1) a0.2.1) (fun y3=>gb (!(((!y1)||(!y2))||(!y3))) (Ez a0.2.2.2.1 0 3) (fun y4=>gb (!((((!y1)||(!y2))||(!y3))||(!y4))) (Ig a0.2.2.2.2.1) (fun y5=>gb (!(((((!y1)||(!y2))||(!y3))||(!y4))||(!y5))) (Ez a0.2.2.2.2.2.1 0 60) (fun y6=>gb (!((((((!y1)||(!y2))||(!y3))||(!y4))||(!y5))||(!y6))) (Mo a0.2.2.2.2.2.2.1) (fun y7=>gb (!(((((((!y1)||(!y2))||(!y3))||(!y4))||(!y5))||(!y6))||(!y7))) (Mp a0.2.2.2.2.2.2.1 a0.1) (fun y8=>cond ((((((((!y1)||(!y2))||(!y3))||(!y4))||(!y5))||(!y6))||(!y7))||y8) (some false) (some ((!decide (a0.2.2.2.1=0))||(((((decide (a0.2.2.1=(-1)))&&(decide (a0.2.2.2.2.1.1=0)))&&(decide (a0.2.2.2.2.2.1=0)))&&(decide ((a0.2.2.2.2.2.2.1.length:Int)=0)))&&(!a0.2.2.2.2.2.2.2)))))))))))
theorem HD (a0:Aw) (h0:rd w [] a0) (r) (hp:Gm (dat a0)=some r):Sp 180 [.agg (cells a0).toArray] w [] (IsV (.bool r)):=by
 obtain ⟨⟨a2,a3⟩,a4,aa,ab,⟨ac,ad,ae,af,a5,a6,a7,a8⟩,a9,a1,ap⟩:=a0;refine sa ?_;refine Ay func180 rfl ntmps180 rfl ?_;unfold Gm at hp;replace hp:=dd hp;refine s2 ?_;refine bx fun aq=>?_;refine s4 ?_;revert hp;refine bc fun y1 ag hp=>?_;replace hp:=Bz hp;obtain ⟨y2,ah,hp⟩:=hp;replace hp:=Bz hp;obtain ⟨y3,ai,hp⟩:=hp;replace hp:=Bz hp;obtain ⟨y4,aj,hp⟩:=hp;replace hp:=Bz hp;obtain ⟨y5,ak,hp⟩:=hp;replace hp:=Bz hp;obtain ⟨y6,am,hp⟩:=hp;replace hp:=Bz hp;obtain ⟨y7,an,hp⟩:=hp;replace hp:=Bz hp;obtain ⟨y8,ao,hp⟩:=hp;refine BM [51] mix kr rfl (s1 ?_);refine Bw Ai (Ag rfl) (fun hg=>AW (Ax mm) 0 2 rfl) (by exact Bo.h) ?_;refine AT Ai VO.h (Ae (Ag rfl) (AC)) (by exact fun hg w F hF hM=>Ku w (a2,a3) (AD dv hF hM) _ ag) (s4 ?_);refine AT (Aj rfl rfl) HW.h (Ae (Al rfl) (Ae Bp (Ae Bp (AC)))) (by exact fun hg w F hF hM=>CU w a4 (-1) 600  _ (ah (BP hg.2))) (s7 ?_);refine AT (Aj rfl rfl) HW.h (Ae (Al rfl) (Ae Bp (Ae (Al rfl) (AC)))) (by exact fun hg w F hF hM=>CU w aa (-1) a4  _ (ai (BP hg.2))) (s5 ?_);refine AT (Aj rfl rfl) HW.h (Ae (Al rfl) (Ae Bp (Ae Bp (AC)))) (by exact fun hg w F hF hM=>CU w ab 0 3  _ (aj (BP hg.2))) (s4 ?_);refine Bw (Aj rfl rfl) (Al rfl) (fun hg=>AW (Ax mm) 5 8 rfl) (by exact CS.h) ?_;refine AT (Aj rfl rfl) Zx.h (Ae (Al rfl) (AC)) (by exact fun hg w F hF hM=>JC w (ac,ad,ae,af,a5,a6,a7,a8) (AD (Ab h0.2.2.2.2.1) hF hM) _ (ak (BP hg.2))) (s5 ?_);refine AT (Aj rfl rfl) HW.h (Ae (Al rfl) (Ae Bp (Ae Bp (AC)))) (by exact fun hg w F hF hM=>CU w a9 0 60  _ (am (BP hg.2))) (s5 ?_);refine AT (Aj rfl rfl) fW.h (Ae (Al rfl) (AC)) (by exact fun hg w F hF hM=>Pi w a1 (AD (Ab h0.2.2.2.2.2.2.1) hF hM) _ (an (BP hg.2))) (s6 ?_);refine Bw (Aj rfl rfl) (Al rfl) (fun hg=>AW (Ax mm) 0 2 rfl) (by exact Bo.h) ?_;refine AT (Aj rfl rfl) fX.h (Ae (Al rfl) (Ae (Al rfl) (AC))) (by exact fun hg w F hF hM=>Pj w a1 (a2,a3) (AD (Ab h0.2.2.2.2.2.2.1) hF hM) (AD dv hF hM) _ (ao (BP hg.2))) (s20 ?_);refine s20 ?_;refine s12 ?_;revert hp;refine kC [1,51] (fun q9 hp=>?_) fun q9 hp=>?_
 ·refine s4 ?_;exact fB
 refine s2 ?_;refine BM [2] mix kr rfl (s10 ?_);refine Bu (fo:=5) (Aj rfl rfl) (Al rfl) (fun hg=>Ax mm) Bg.h rfl (s10 ?_);refine EK (X:=a1) (Aj rfl rfl) (Al rfl) BS.h (s20 ?_);refine s20 ?_;refine s2 ?_;exact fB
def Nx (a0:List Ar):Option Bool :=
 Bn (fun s1:Int=>cond (decide (s1 < (a0.length:Int))) ((idx a0 s1).bind fun y3=>(Gm y3).bind fun y4=>gb ((!(!y4))&&(decide (0 < s1))) (idx a0 (IntKind.wrap .i64 (s1 - 1))) (fun y5=>gb ((!(!y4))&&(decide (0 < s1))) (idx a0 s1) (fun y6=>gb ((!(!y4))&&(decide (0 < s1))) (IG y5.1 y6.1) (fun y7=>cond ((!y4)||((decide (0 < s1))&&(!y7))) (Option.map .inr (some false)) (some (.inl (IntKind.wrap .i64 (s1+1)))))))) (Option.map .inr (some true))) 0
theorem Xb (a0:TL Aw) (h0:rd w [] a0) (r) (hp:Nx (dat a0)=some r):Sp 137 [a0.hdr] w [] (IsV (.bool r)):=by
 refine Ay func137 rfl ntmps137 rfl ?_;unfold Nx at hp;replace hp:=dd hp;refine s10 ?_;refine BB (σ:=Int) dat (fun (a1:Int)=>[(3,.int .i64 a1)]) (fun (a1:Int)=>[]) [(0,_)] [] 0 hp sb ms ?_;clear hp;rintro a1 x1 hp aa;replace hp:=dd hp;refine kq [0,3] ?_;refine s8 ?_;revert hp;refine kC [0,3,7] (fun q2 hp=>?_) fun q2 hp=>?_
 ·refine s4 ?_;replace hp:=AE hp;obtain ⟨⟨⟨ad,ae⟩,af,ag,ah,⟨ai,aj,ak,am,a3,a4,a5,a6⟩,a7,a8,a9⟩,a2,hp⟩:=hp;revert hp;refine bc fun y4 ar hp=>?_;replace hp:=Dk hp;obtain ⟨⟨⟨an,ao⟩,b9,bb,bd,⟨be,bf,bg,bh,av,aw,ax,ay⟩,az,b0,b1⟩,ab,hp⟩:=hp;replace hp:=Dk hp;obtain ⟨⟨⟨ap,aq⟩,bi,bj,bk,⟨bl,bn,bo,bp,b2,b3,b4,b5⟩,b6,b7,b8⟩,ac,hp⟩:=hp;replace hp:=Bz hp;obtain ⟨y7,au,hp⟩:=hp;refine BM [34] mix kr rfl (s2 ?_);refine Bt (X:=a0) Ai (Ag rfl) (Ag rfl) DU.h (Ab h0) (fun _=>a2) ?_;refine Bw Ai (Ag rfl) (fun hg=>AN (Ab h0) (a2).2) DB.h ?_;refine AT Ai Uh.h (Ae (Ag rfl) (AC)) (by exact fun hg w F hF hM=>HD w ((ad,ae),af,ag,ah,(ai,aj,ak,am,a3,a4,a5,a6),a7,a8,a9) (AD (Aa dv (Aa Ac (Aa Ac (Aa Ac (Aa (Bf (Ad (Ad (Ad (Ad (BW (Ab h0) (a2).2)))))) (Aa Ac (Aa (Bf (Ad (Ad (Ad (Ad (Ad (Ad (BW (Ab h0) (a2).2)))))))) Co))))))) hF hM) _ ar) (s8 ?_);refine Bt (X:=a0) (Aj rfl rfl) (Al rfl) (Al rfl) DU.h (Ab h0) (fun hg=>ab (GS (BP hg.1.2) hg.2)) (s1 ?_);refine Bw (Aj rfl rfl) (Al rfl) (fun hg=>AW (AN (Ab h0) (ab (GS (BP hg.1.2) hg.2)).2) 0 2 rfl) Bo.h (s2 ?_);refine Bt (X:=a0) (Aj rfl rfl) (Al rfl) (Al rfl) DU.h (Ab h0) (fun hg=>ac (GS (BP hg.1.2) hg.2)) (s1 ?_);refine Bw (Aj rfl rfl) (Al rfl) (fun hg=>AW (AN (Ab h0) (ac (GS (BP hg.1.2) hg.2)).2) 0 2 rfl) Bo.h ?_;refine AT (Aj rfl rfl) YJ.h (Ae (Al rfl) (Ae (Al rfl) (AC))) (by exact fun hg w F hF hM=>KN w (an,ao) (ap,aq) (AD dv hF hM) (AD dv hF hM) _ (au (GS (BP hg.1.2) hg.2))) (s20 ?_);refine s10 ?_;revert hp;refine kC [0,3,34] (fun q8 hp=>?_) fun q8 hp=>?_
  ·refine s4 ?_;replace hp:=mxA hp aa;exact fB
  refine s6 ?_;exact ⟨IntKind.wrap .i64 (a1+1),sb,(.sub ms),AU hp⟩
 refine BG ?_;replace hp:=mxA hp aa;refine s4 ?_;exact fB
def Kv (a0:Am):Option Bool :=
 (Dl a0.1 0 2).bind fun y1=>gb y1 (Dl a0.2 1 6) (fun y2=>some (y1&&y2))
theorem Kw (a0:AS) (h0:rd w [] a0) (r) (hp:Kv (dat a0)=some r):Sp 113 [.agg (cells a0).toArray] w [] (IsV (.bool r)):=by
 obtain ⟨a1,a2⟩:=a0;refine sa ?_;refine Ay func113 rfl ntmps113 rfl ?_;unfold Kv at hp;replace hp:=dd hp;refine s2 ?_;refine bx fun a5=>?_;refine s3 ?_;revert hp;refine bc fun y1 a3 hp=>?_;replace hp:=Bz hp;obtain ⟨y2,a4,hp⟩:=hp;refine BM [2] mix kr rfl (s2 ?_);refine AT Ai Hs.h (Ae (Ag rfl) (Ae Bp (Ae Bp (AC)))) (by exact fun hg w F hF hM=>Cu w a1 0 2  _ a3) (s3 ?_);refine AT (Aj rfl rfl) Hs.h (Ae (Al rfl) (Ae Bp (Ae Bp (AC)))) (by exact fun hg w F hF hM=>Cu w a2 1 6  _ (a4 hg.2)) (s13 ?_);exact fB
def Du (a0:Am) (a1:Am):Option Int :=
 cond ((decide (a0.1 < a1.1))||((decide (a0.1=a1.1))&&(decide (a0.2 < a1.2)))) (some (-1)) (cond (decide (a0.1=a1.1)&&(decide (a0.2=a1.2)&&true)) (some 0) (some 1))
theorem FV (a0:AS) (a1:AS) (h0:rd w [] a0) (h1:rd w [] a1) (r) (hp:Du (dat a0) (dat a1)=some r):Sp 128 [.agg (cells a0).toArray,.agg (cells a1).toArray] w [] (IsV (.int .i64 r)):=by
 obtain ⟨a2,a3⟩:=a0;obtain ⟨a4,a5⟩:=a1;refine sa ?_;refine Ay func128 rfl ntmps128 rfl ?_;unfold Du at hp;replace hp:=dd hp;refine s2 ?_;refine bx fun a6=>?_;refine bx fun a7=>?_;refine s5 ?_;refine BM [5] mix kr rfl (s20 ?_);refine s20 ?_;refine s2 ?_;revert hp;refine kC [2,3,5] (fun q1 hp=>?_) fun q1 hp=>?_
 ·refine s4 ?_;exact fB
 refine s4 ?_;refine Jw rfl rfl rfl (Hm Ft (Cc Bg.h Dm.h rfl rfl (Cc Bg.h Dm.h rfl rfl EqS.nil))) (s2 ?_);revert hp;refine kC [25] (fun q2 hp=>?_) fun q2 hp=>?_
 ·refine s4 ?_;exact fB
 refine s5 ?_;exact fB
def Lm (a0:List Am):Option Bool :=
 Bn (fun s1:Int=>cond (decide (s1 < (a0.length:Int))) ((idx a0 s1).bind fun y3=>(Kv y3).bind fun y4=>gb ((!(!y4))&&(decide (0 < s1))) (idx a0 (IntKind.wrap .i64 (s1 - 1))) (fun y5=>gb ((!(!y4))&&(decide (0 < s1))) (Du y5 y3) (fun y6=>cond ((!y4)||((decide (0 < s1))&&(decide (0≤y6)))) (Option.map .inr (some false)) (some (.inl (IntKind.wrap .i64 (s1+1))))))) (Option.map .inr (some true))) 0
theorem LH (a0:TL AS) (h0:rd w [] a0) (r) (hp:Lm (dat a0)=some r):Sp 164 [a0.hdr] w [] (IsV (.bool r)):=by
 refine Ay func164 rfl ntmps164 rfl ?_;unfold Lm at hp;replace hp:=dd hp;refine s12 ?_;refine BB (σ:=Int) dat (fun (a1:Int)=>[(7,.int .i64 a1)]) (fun (a1:Int)=>[]) [(0,_),(5,_),(6,_)] [] 0 hp sb ms ?_;clear hp;rintro a1 x1 hp a4;replace hp:=dd hp;refine kq [0,5,6,7] ?_;refine s5 ?_;revert hp;refine kC [0,5,6,7,8] (fun q2 hp=>?_) fun q2 hp=>?_
 ·refine s6 ?_;replace hp:=AE hp;obtain ⟨⟨a2,a3⟩,a5,hp⟩:=hp;refine BU (X:=a0) rfl rfl rfl BS.h (Ab h0) a5 ?_;refine Ba rfl rfl (AN (Ab h0) (a5).2) Bo.h ?_;refine al fun ab=>?_;refine s4 ?_;revert hp;refine bc fun y4 a9 hp=>?_;replace hp:=Dk hp;obtain ⟨⟨a7,a8⟩,a6,hp⟩:=hp;replace hp:=Bz hp;obtain ⟨y6,aa,hp⟩:=hp;refine BM [28] mix kr rfl (s1 ?_);refine AT Ai VP.h (Ae (Ag rfl) (AC)) (by exact fun hg w F hF hM=>Kw w (a2,a3) (AD dv hF hM) _ a9) (s8 ?_);refine Bt (X:=a0) (Aj rfl rfl) (Al rfl) (Al rfl) BS.h (Ab h0) (fun hg=>a6 (GS (BP hg.1.2) hg.2)) ?_;refine Bw (Aj rfl rfl) (Al rfl) (fun hg=>AN (Ab h0) (a6 (GS (BP hg.1.2) hg.2)).2) Bo.h (s1 ?_);refine AT (Aj rfl rfl) Ui.h (Ae (Al rfl) (Ae (Al rfl) (AC))) (by exact fun hg w F hF hM=>FV w (a7,a8) (a2,a3) (AD dv hF hM) (AD dv hF hM) _ (aa (GS (BP hg.1.2) hg.2))) (s20 ?_);refine s2 ?_;revert hp;refine kC [0,5,6,7,28] (fun q7 hp=>?_) fun q7 hp=>?_
  ·refine s4 ?_;replace hp:=mxA hp a4;exact fB
  refine s5 ?_;exact ⟨IntKind.wrap .i64 (a1+1),sb,(.sub ms),AU hp⟩
 refine BG ?_;replace hp:=mxA hp a4;refine s4 ?_;exact fB
def DN (a0:List Am) (a1:Am):Option Int :=
 Bn (fun s1:Int=>cond (decide (s1 < (a0.length:Int))) ((idx a0 s1).bind fun y3=>cond (decide (a1.1=y3.1)&&(decide (a1.2=y3.2)&&true)) (Option.map .inr (some s1)) (some (.inl (IntKind.wrap .i64 (s1+1))))) (Option.map .inr (some (-1)))) 0
theorem GV (a0:TL AS) (a1:AS) (h0:rd w [] a0) (h1:rd w [] a1) (r) (hp:DN (dat a0) (dat a1)=some r):Sp 40 [a0.hdr,.agg (cells a1).toArray] w [] (IsV (.int .i64 r)):=by
 obtain ⟨a6,a7⟩:=a1;refine sa ?_;refine Ay func40 rfl ntmps40 rfl ?_;unfold DN at hp;replace hp:=dd hp;refine s2 ?_;refine bx fun a5=>?_;refine s10 ?_;refine BB (σ:=Int) dat (fun (a2:Int)=>[(8,.int .i64 a2)]) (fun (a2:Int)=>[]) [(0,_),(3,_),(7,_)] [blk a5 _ _] 0 hp sb ms ?_;clear hp;rintro a2 x1 hp a3;replace hp:=dd hp;refine kq [0,3,7,8] ?_;refine s5 ?_;revert hp;refine kC [0,3,7,8,9] (fun q2 hp=>?_) fun q2 hp=>?_
 ·refine s9 ?_;replace hp:=AE hp;obtain ⟨⟨a8,a9⟩,a4,hp⟩:=hp;refine BM [16] mix kr rfl (s3 ?_);refine Bt (X:=a0) Ai (Ag rfl) (Ag rfl) BS.h (Ab h0) (fun _=>a4) ?_;refine Bw Ai (Ag rfl) (fun hg=>AN (Ab h0) (a4).2) Bo.h ?_;refine DT Ai (Ag rfl) (Ag rfl) (fun hg=>(Hm Ft (Cc Bg.h Dm.h rfl rfl (Cc Bg.h Dm.h rfl rfl EqS.nil)))) (s8 ?_);revert hp;refine kC [0,3,5,7,8,16] (fun q4 hp=>?_) fun q4 hp=>?_
  ·refine s5 ?_;replace hp:=mxA hp a3;exact fB
  refine s5 ?_;exact ⟨IntKind.wrap .i64 (a2+1),sb,(.sub ms),AU hp⟩
 refine BG ?_;replace hp:=mxA hp a3;refine s4 ?_;exact fB
def Ci (a0:List Am) (a1:Am):Option Bool :=
 (DN a0 a1).bind fun y1=>some (decide (0≤y1))
theorem Dg (a0:TL AS) (a1:AS) (h0:rd w [] a0) (h1:rd w [] a1) (r) (hp:Ci (dat a0) (dat a1)=some r):Sp 76 [a0.hdr,.agg (cells a1).toArray] w [] (IsV (.bool r)):=by
 obtain ⟨a2,a3⟩:=a1;refine sa ?_;refine Ay func76 rfl ntmps76 rfl ?_;unfold Ci at hp;replace hp:=dd hp;refine s2 ?_;refine bx fun a5=>?_;refine s6 ?_;revert hp;refine bc fun y1 a4 hp=>?_;refine BH rfl nK.h rfl (by exact fun w hw=>GV w a0 (a2,a3) (Aq (Ab h0) hw) (Aq dv hw) _ a4) (s3 ?_);exact fB
def KX (a0:Ar):Option Bool :=
 (Kv a0.1).bind fun y1=>gb (!(!y1)) (Dl a0.2.1 (-1) 600) (fun y2=>gb (!((!y1)||(!y2))) (Dl a0.2.2.1 (-1) a0.2.1) (fun y3=>gb (!(((!y1)||(!y2))||(!y3))) (Dl a0.2.2.2.1 0 3) (fun y4=>gb (!((((!y1)||(!y2))||(!y3))||(!y4))) (Ii a0.2.2.2.2.1) (fun y5=>gb (!(((((!y1)||(!y2))||(!y3))||(!y4))||(!y5))) (Dl a0.2.2.2.2.2.1 0 60) (fun y6=>gb (!((((((!y1)||(!y2))||(!y3))||(!y4))||(!y5))||(!y6))) (Lm a0.2.2.2.2.2.2.1) (fun y7=>gb (!(((((((!y1)||(!y2))||(!y3))||(!y4))||(!y5))||(!y6))||(!y7))) (Ci a0.2.2.2.2.2.2.1 a0.1) (fun y8=>cond ((((((((!y1)||(!y2))||(!y3))||(!y4))||(!y5))||(!y6))||(!y7))||y8) (some false) (some ((!decide (a0.2.2.2.1=0))||(((((decide (a0.2.2.1=(-1)))&&(decide (a0.2.2.2.2.1.1=0)))&&(decide (a0.2.2.2.2.2.1=0)))&&(decide ((a0.2.2.2.2.2.2.1.length:Int)=0)))&&(!a0.2.2.2.2.2.2.2)))))))))))
theorem SR (a0:Aw) (h0:rd w [] a0) (r) (hp:KX (dat a0)=some r):Sp 127 [.agg (cells a0).toArray] w [] (IsV (.bool r)):=by
 obtain ⟨⟨a2,a3⟩,a4,aa,ab,⟨ac,ad,ae,af,a5,a6,a7,a8⟩,a9,a1,ap⟩:=a0;refine sa ?_;refine Ay func127 rfl ntmps127 rfl ?_;unfold KX at hp;replace hp:=dd hp;refine s2 ?_;refine bx fun aq=>?_;refine s4 ?_;revert hp;refine bc fun y1 ag hp=>?_;replace hp:=Bz hp;obtain ⟨y2,ah,hp⟩:=hp;replace hp:=Bz hp;obtain ⟨y3,ai,hp⟩:=hp;replace hp:=Bz hp;obtain ⟨y4,aj,hp⟩:=hp;replace hp:=Bz hp;obtain ⟨y5,ak,hp⟩:=hp;replace hp:=Bz hp;obtain ⟨y6,am,hp⟩:=hp;replace hp:=Bz hp;obtain ⟨y7,an,hp⟩:=hp;replace hp:=Bz hp;obtain ⟨y8,ao,hp⟩:=hp;refine BM [51] mix kr rfl (s1 ?_);refine Bw Ai (Ag rfl) (fun hg=>AW (Ax mm) 0 2 rfl) (by exact Bo.h) ?_;refine AT Ai VP.h (Ae (Ag rfl) (AC)) (by exact fun hg w F hF hM=>Kw w (a2,a3) (AD dv hF hM) _ ag) (s4 ?_);refine AT (Aj rfl rfl) Hs.h (Ae (Al rfl) (Ae Bp (Ae Bp (AC)))) (by exact fun hg w F hF hM=>Cu w a4 (-1) 600  _ (ah (BP hg.2))) (s7 ?_);refine AT (Aj rfl rfl) Hs.h (Ae (Al rfl) (Ae Bp (Ae (Al rfl) (AC)))) (by exact fun hg w F hF hM=>Cu w aa (-1) a4  _ (ai (BP hg.2))) (s5 ?_);refine AT (Aj rfl rfl) Hs.h (Ae (Al rfl) (Ae Bp (Ae Bp (AC)))) (by exact fun hg w F hF hM=>Cu w ab 0 3  _ (aj (BP hg.2))) (s4 ?_);refine Bw (Aj rfl rfl) (Al rfl) (fun hg=>AW (Ax mm) 5 8 rfl) (by exact CS.h) ?_;refine AT (Aj rfl rfl) VQ.h (Ae (Al rfl) (AC)) (by exact fun hg w F hF hM=>JD w (ac,ad,ae,af,a5,a6,a7,a8) (AD (Ab h0.2.2.2.2.1) hF hM) _ (ak (BP hg.2))) (s5 ?_);refine AT (Aj rfl rfl) Hs.h (Ae (Al rfl) (Ae Bp (Ae Bp (AC)))) (by exact fun hg w F hF hM=>Cu w a9 0 60  _ (am (BP hg.2))) (s5 ?_);refine AT (Aj rfl rfl) YK.h (Ae (Al rfl) (AC)) (by exact fun hg w F hF hM=>LH w a1 (AD (Ab h0.2.2.2.2.2.2.1) hF hM) _ (an (BP hg.2))) (s6 ?_);refine Bw (Aj rfl rfl) (Al rfl) (fun hg=>AW (Ax mm) 0 2 rfl) (by exact Bo.h) ?_;refine AT (Aj rfl rfl) UZ.h (Ae (Al rfl) (Ae (Al rfl) (AC))) (by exact fun hg w F hF hM=>Dg w a1 (a2,a3) (AD (Ab h0.2.2.2.2.2.2.1) hF hM) (AD dv hF hM) _ (ao (BP hg.2))) (s20 ?_);refine s20 ?_;refine s12 ?_;revert hp;refine kC [1,51] (fun q9 hp=>?_) fun q9 hp=>?_
 ·refine s4 ?_;exact fB
 refine s2 ?_;refine BM [2] mix kr rfl (s10 ?_);refine Bu (fo:=5) (Aj rfl rfl) (Al rfl) (fun hg=>Ax mm) Bg.h rfl (s10 ?_);refine EK (X:=a1) (Aj rfl rfl) (Al rfl) BS.h (s20 ?_);refine s20 ?_;refine s2 ?_;exact fB
def FD (a0:List Ar):Option Bool :=
 Bn (fun s1:Int=>cond (decide (s1 < (a0.length:Int))) ((idx a0 s1).bind fun y3=>(KX y3).bind fun y4=>gb ((!(!y4))&&(decide (0 < s1))) (idx a0 (IntKind.wrap .i64 (s1 - 1))) (fun y5=>gb ((!(!y4))&&(decide (0 < s1))) (Du y5.1 y3.1) (fun y6=>cond ((!y4)||((decide (0 < s1))&&(decide (0≤y6)))) (Option.map .inr (some false)) (some (.inl (IntKind.wrap .i64 (s1+1))))))) (Option.map .inr (some true))) 0
theorem FE (a0:TL Aw) (h0:rd w [] a0) (r) (hp:FD (dat a0)=some r):Sp 73 [a0.hdr] w [] (IsV (.bool r)):=by
 refine Ay func73 rfl ntmps73 rfl ?_;unfold FD at hp;replace hp:=dd hp;refine s12 ?_;refine BB (σ:=Int) dat (fun (a1:Int)=>[(7,.int .i64 a1)]) (fun (a1:Int)=>[]) [(0,_),(5,_),(6,_)] [] 0 hp sb ms ?_;clear hp;rintro a1 x1 hp ac;replace hp:=dd hp;refine kq [0,5,6,7] ?_;refine s5 ?_;revert hp;refine kC [0,5,6,7,8] (fun q2 hp=>?_) fun q2 hp=>?_
 ·refine s6 ?_;replace hp:=AE hp;obtain ⟨⟨⟨a3,a4⟩,ae,af,ag,⟨ah,ai,aj,ak,a5,a6,a7,a8⟩,a9,aa,ab⟩,a2,hp⟩:=hp;refine BU (X:=a0) rfl rfl rfl DU.h (Ab h0) a2 ?_;refine Ba rfl rfl (AN (Ab h0) (a2).2) (by exact DB.h) ?_;refine al fun b6=>?_;refine s4 ?_;revert hp;refine bc fun y4 ao hp=>?_;replace hp:=Dk hp;obtain ⟨⟨⟨am,an⟩,az,b0,b1,⟨b2,b3,b4,b5,aq,ar,au,av⟩,aw,ax,ay⟩,ad,hp⟩:=hp;replace hp:=Bz hp;obtain ⟨y6,ap,hp⟩:=hp;refine BM [30] mix kr rfl (s1 ?_);refine AT Ai pR.h (Ae (Ag rfl) (AC)) (by exact fun hg w F hF hM=>SR w ((a3,a4),ae,af,ag,(ah,ai,aj,ak,a5,a6,a7,a8),a9,aa,ab) (AD (Aa dv (Aa Ac (Aa Ac (Aa Ac (Aa (Bf (Ad (Ad (Ad (Ad (BW (Ab h0) (a2).2)))))) (Aa Ac (Aa (Bf (Ad (Ad (Ad (Ad (Ad (Ad (BW (Ab h0) (a2).2)))))))) Co))))))) hF hM) _ ao) (s8 ?_);refine Bt (X:=a0) (Aj rfl rfl) (Al rfl) (Al rfl) DU.h (Ab h0) (fun hg=>ad (GS (BP hg.1.2) hg.2)) (s1 ?_);refine Bw (Aj rfl rfl) (Al rfl) (fun hg=>AW (AN (Ab h0) (ad (GS (BP hg.1.2) hg.2)).2) 0 2 rfl) (by exact Bo.h) (s1 ?_);refine Bw (Aj rfl rfl) (Al rfl) (fun hg=>AW (Ax mm) 0 2 rfl) (by exact Bo.h) ?_;refine AT (Aj rfl rfl) Ui.h (Ae (Al rfl) (Ae (Al rfl) (AC))) (by exact fun hg w F hF hM=>FV w (am,an) (a3,a4) (AD dv hF hM) (AD dv hF hM) _ (ap (GS (BP hg.1.2) hg.2))) (s20 ?_);refine s4 ?_;revert hp;refine kC [0,5,6,7,30] (fun q7 hp=>?_) fun q7 hp=>?_
  ·refine s4 ?_;replace hp:=mxA hp ac;exact fB
  refine s5 ?_;exact ⟨IntKind.wrap .i64 (a1+1),sb,(.sub ms),AU hp⟩
 refine BG ?_;replace hp:=mxA hp ac;refine s4 ?_;exact fB
end
variable (w:World)
noncomputable section
set_option maxHeartbeats 2000000
abbrev AM:=Am×Int×Int×Int×(List Am)×(List Int)×Bool
abbrev Ap:=Int×Int×(List Ar)×(List AM)
instance Abx:ZerF prog 38 [.int .i64 0,.int .i64 0,.int .i64 0,.string aA0,.string aA0,.string aA0,.int .i64 0,.slice none 0 0]:=⟨kr⟩
instance Tv:FnF prog 85:=⟨_,func85,kr,rfl⟩
instance uR:FnF prog 39:=⟨_,func39,kr,rfl⟩
instance IH:BldF prog 48 [(0,2),(2,1),(3,1),(4,1),(5,8),(13,1),(14,1),(15,1)] [.int .i64 0,.int .i64 0,.int .i64 0,.int .i64 0,.int .i64 0,.int .i64 0,.int .i64 0,.int .i64 0,.string aA0,.string aA0,.string aA0,.int .i64 0,.slice none 0 0,.int .i64 0,.slice none 0 0,.bool false]:=⟨kr⟩
instance xC:FnF prog 179:=⟨_,func179,kr,rfl⟩
instance fY:FnF prog 135:=⟨_,func135,kr,rfl⟩
instance Se:FnF prog 123:=⟨_,func123,kr,rfl⟩
instance xD:FnF prog 134:=⟨_,func134,kr,rfl⟩
instance xE:FnF prog 133:=⟨_,func133,kr,rfl⟩
instance uS:FnF prog 86:=⟨_,func86,kr,rfl⟩
instance fZ:FnF prog 87:=⟨_,func87,kr,rfl⟩
instance Aa0:FldF prog 141 0 0:=⟨kr⟩
instance Aa1:FldF prog 141 1 2:=⟨kr⟩
instance Aa2:FldF prog 141 2 3:=⟨kr⟩
instance Aa3:FldF prog 141 3 4:=⟨kr⟩
instance Aa4:FldF prog 141 4 5:=⟨kr⟩
instance Aa5:FldF prog 141 5 6:=⟨kr⟩
instance Ni:OneF prog 78:=⟨kr⟩
instance CL:ElF prog 78 3 1 8 [.int .i64 0]:=⟨kr⟩
instance Uj:FnF prog 136:=⟨_,func136,kr,rfl⟩
instance dV:FldF prog 44 3 3:=⟨kr⟩
instance gA:OneF prog 42:=⟨kr⟩
instance CM:ElF prog 42 141 8 96 [.int .i64 0,.int .i64 0,.int .i64 0,.int .i64 0,.int .i64 0,.slice none 0 0,.slice none 0 0,.bool false]:=⟨kr⟩
instance Abp:FldF prog 44 0 0:=⟨kr⟩
instance Abq:FldF prog 44 1 1:=⟨kr⟩
instance dW:FldF prog 44 2 2:=⟨kr⟩
instance II:OneF prog 41:=⟨kr⟩
instance xF:FnF prog 137:=⟨_,func137,kr,rfl⟩
instance Gi:AggF prog 141 8:=⟨kr⟩
instance xG:FnF prog 138:=⟨_,func138,kr,rfl⟩
instance BE:AggF prog 44 4:=⟨kr⟩
instance Sf:FnF prog 139:=⟨_,func139,kr,rfl⟩
instance Xc:FnF prog 62:=⟨_,func62,kr,rfl⟩
instance pS:FnF prog 115:=⟨_,func115,kr,rfl⟩
instance xH:FnF prog 160:=⟨_,func160,kr,rfl⟩
instance pT:FnF prog 159:=⟨_,func159,kr,rfl⟩
instance Tw:FnF prog 73:=⟨_,func73,kr,rfl⟩
instance gB:FnF prog 110:=⟨_,func110,kr,rfl⟩
instance Abr:ZerF prog 141 [.int .i64 0,.int .i64 0,.int .i64 0,.int .i64 0,.int .i64 0,.slice none 0 0,.slice none 0 0,.bool false]:=⟨kr⟩
instance xI:FnF prog 111:=⟨_,func111,kr,rfl⟩
instance Uk:FnF prog 112:=⟨_,func112,kr,rfl⟩
def Gn (a0:BN):Option BN :=
 (some ([]:List ByteArray)).bind fun y2=>(Cj y2 a0.2.2.2.2.2.2.2).bind fun y4=>some (a0.1,a0.2.1,a0.2.2.1,a0.2.2.2.1,a0.2.2.2.2.1,a0.2.2.2.2.2.1,a0.2.2.2.2.2.2.1,y4)
theorem Gb (a0:CR) (h0:rd w [] a0) (r) (hp:Gn (dat a0)=some r):Sp 85 [.agg (cells a0).toArray] w [] (fun v M=>∃ (x0:CR),v=.agg (cells x0).toArray∧dat x0=r∧M=[Af x0]):=by
 obtain ⟨a1,a2,a3,a4,a5,a6,a7,aa⟩:=a0;refine sa ?_;refine Ay func85 rfl ntmps85 rfl ?_;unfold Gn at hp;replace hp:=dd hp;refine s2 ?_;refine bx fun ad=>?_;refine al fun ae=>?_;refine s3 ?_;revert hp;refine bc fun y2 a9 hp=>?_;refine Fc ByteArray rfl Ki.h (fun X1 a8=>?_);obtain rfl:dat X1=y2:=a8.trans (Option.some.inj a9);clear a9 a8;refine s2 ?_;revert hp;refine bc fun y4 ac hp=>?_;refine FB (X:=X1) (Y:=aa) rfl rfl rfl Ki.h rfl rfl pk (Ab h0.2.2.2.2.2.2.2) ac de (fun X3 ab=>?_);subst ab;refine s8 ?_;obtain rfl:=sj hp;refine jW ((a1,a2,a3,a4,a5,a6,a7,X3):CR) ?_;refine s1 ?_;refine Ct rfl (AF rfl mm (by exact CS.h)) ⟨(a1,a2,a3,a4,a5,a6,a7,X3),rfl,rfl,rfl⟩ ms
def KY (a0:Ar):Option Ar :=
 (Gn a0.2.2.2.2.1).bind fun y1=>(some ([]:List Am)).bind fun y3=>(Cj y3 a0.2.2.2.2.2.2.1).bind fun y5=>some (a0.1,a0.2.1,a0.2.2.1,a0.2.2.2.1,y1,a0.2.2.2.2.2.1,y5,a0.2.2.2.2.2.2.2)
theorem SS (a0:Aw) (h0:rd w [] a0) (r) (hp:KY (dat a0)=some r):Sp 39 [.agg (cells a0).toArray] w [] (fun v M=>∃ (x0:Aw),v=.agg (cells x0).toArray∧dat x0=r∧M=[Af x0]):=by
 obtain ⟨⟨ab,ac⟩,ad,ae,af,⟨ao,ap,aq,ar,ah,ai,aj,ak⟩,a9,am,aa⟩:=a0;refine sa ?_;refine Ay func39 rfl ntmps39 rfl ?_;unfold KY at hp;replace hp:=dd hp;refine s2 ?_;refine bx fun ax=>?_;refine al fun ay=>?_;refine s4 ?_;refine Ba rfl rfl (AW (Ax mm) 5 8 rfl) (by exact CS.h) ?_;revert hp;refine bc fun y1 av hp=>?_;refine AZ rfl Tv.h rfl (by exact fun w hw=>Gb w (ao,ap,aq,ar,ah,ai,aj,ak) (Aq (Ab h0.2.2.2.2.1) hw) _ av) ?_;rintro _ _ ⟨⟨a1,a2,a3,a4,a5,a6,a7,a8⟩,rfl,rfl,rfl⟩;refine sc ?_;replace hp:=dd hp;refine xL (_:CR) ?_;refine s1 ?_;refine JA (fo:=5) rfl rfl pk (by exact CS.h) (aAc rfl) ocs rfl (s3 ?_);revert hp;refine bc fun y3 an hp=>?_;refine Fc AS rfl BS.h (fun X2 ag=>?_);obtain rfl:dat X2=y3:=ag.trans (Option.some.inj an);clear an ag;refine s2 ?_;revert hp;refine bc fun y5 aw hp=>?_;refine FB (X:=X2) (Y:=am) rfl rfl rfl BS.h rfl rfl pk (Ab h0.2.2.2.2.2.2.1) aw de (fun X4 au=>?_);subst au;refine s8 ?_;obtain rfl:=sj hp;refine jW (((ab,ac),ad,ae,af,(a1,a2,a3,a4,a5,a6,a7,a8),a9,X4,aa):Aw) ?_;refine s1 ?_;refine Ct rfl (AF rfl mm (by exact DB.h)) ⟨((ab,ac),ad,ae,af,(a1,a2,a3,a4,a5,a6,a7,a8),a9,X4,aa),rfl,rfl,rfl⟩ ms
def EI (a0:List Ar) (a1:Am):Option Ar :=
 Bn (fun s1:Int=>cond (decide (s1 < (a0.length:Int))) ((idx a0 s1).bind fun y3=>cond (decide (y3.1.1=a1.1)&&(decide (y3.1.2=a1.2)&&true)) ((idx a0 s1).bind fun y5=>(KY y5).bind fun y6=>Option.map .inr (some y6)) (some (.inl (IntKind.wrap .i64 (s1+1))))) (Option.map .inr (some (a1,(-1),(-1),0,(0,0,0,aA0,aA0,aA0,0,([]:List ByteArray)),0,([]:List Am),false)))) 0
theorem Fa (a0:TL Aw) (a1:AS) (h0:rd w [] a0) (h1:rd w [] a1) (r) (hp:EI (dat a0) (dat a1)=some r):Sp 12 [a0.hdr,.agg (cells a1).toArray] w [] (fun v M=>∃ (x0:Aw),v=.agg (cells x0).toArray∧dat x0=r∧M=[Af x0]):=by
 obtain ⟨ak,am⟩:=a1;refine sa ?_;refine Ay func12 rfl ntmps12 rfl ?_;unfold EI at hp;replace hp:=dd hp;refine s2 ?_;refine bx fun b6=>?_;refine al fun b7=>?_;refine s7 ?_;refine BB (σ:=Int) dat (fun (aa:Int)=>[(5,.int .i64 aa)]) (fun (aa:Int)=>[]) [(0,_),(3,_),(4,_)] [blk b6 _ _,blk b7 _ _] 0 hp sb ms ?_;clear hp;rintro aa x1 hp aw;replace hp:=dd hp;refine kq [0,3,4,5] ?_;refine s8 ?_;revert hp;refine kC [0,3,4,5,9] (fun q2 hp=>?_) fun q2 hp=>?_
 ·refine s4 ?_;replace hp:=AE hp;obtain ⟨⟨⟨ax,ay⟩,az,b0,b1,⟨b2,b3,b4,b5,an,ao,ap,aq⟩,ar,au,av⟩,a2,hp⟩:=hp;refine BM [18] mix kr rfl (s2 ?_);refine Bt (X:=a0) Ai (Ag rfl) (Ag rfl) DU.h (Ab h0) (fun _=>a2) (s1 ?_);refine Bw Ai (Ag rfl) (fun hg=>AW (AN (Ab h0) (a2).2) 0 2 rfl) (by exact Bo.h) (s1 ?_);refine DT Ai (Ag rfl) (Ag rfl) (fun hg=>(Hm Ft (Cc Bg.h Dm.h rfl rfl (Cc Bg.h Dm.h rfl rfl EqS.nil)))) (s9 ?_);revert hp;refine kC [0,3,4,5,18] (fun q4 hp=>?_) fun q4 hp=>?_
  ·refine s4 ?_;replace hp:=AE hp;obtain ⟨u5,b8,hp⟩:=hp;obtain rfl:=Option.some.inj (a2.2.symm.trans b8.2);refine BU (X:=a0) rfl rfl rfl DU.h (Ab h0) a2 ?_;refine Ba rfl rfl (AN (Ab h0) (a2).2) (by exact DB.h) ?_;revert hp;refine bc fun y6 b9 hp=>?_;refine AZ rfl uR.h rfl (by exact fun w hw=>SS w ((ax,ay),az,b0,b1,(b2,b3,b4,b5,an,ao,ap,aq),ar,au,av) (Aq (Aa dv (Aa Ac (Aa Ac (Aa Ac (Aa (Bf (Ad (Ad (Ad (Ad (BW (Ab h0) (a2).2)))))) (Aa Ac (Aa (Bf (Ad (Ad (Ad (Ad (Ad (Ad (BW (Ab h0) (a2).2)))))))) Co))))))) hw) _ b9) ?_;rintro _ _ ⟨⟨⟨ab,ac⟩,ad,ae,af,⟨ag,ah,ai,aj,a3,a4,a5,a6⟩,a7,a8,a9⟩,rfl,rfl,rfl⟩;refine sc ?_;replace hp:=dd hp;refine xL (_:Aw) ?_;refine s2 ?_;replace hp:=mxA hp aw;obtain rfl:=sj hp;refine jW (((ab,ac),ad,ae,af,(ag,ah,ai,aj,a3,a4,a5,a6),a7,a8,a9):Aw) ?_;refine s1 ?_;refine Ct rfl (AF rfl mm (by exact DB.h)) ⟨((ab,ac),ad,ae,af,(ag,ah,ai,aj,a3,a4,a5,a6),a7,a8,a9),rfl,rfl,rfl⟩ ms
  refine s6 ?_;exact ⟨IntKind.wrap .i64 (aa+1),sb,(.sub ms),AU hp⟩
 refine BG ?_;replace hp:=mxA hp aw;refine s3 ?_;refine Cg (xs:=[(0,.tmp 24),(1,.const (.int .i64 (-1))),(2,.const (.int .i64 (-1)))]) (cs:=[.int .i64 ak,.int .i64 am,.int .i64 (-1),.int .i64 (-1),.int .i64 0,.int .i64 0,.int .i64 0,.int .i64 0,.string aA0,.string aA0,.string aA0,.int .i64 0,(TL.hdr (TL.nil ByteArray 0)),.int .i64 0,(TL.hdr (TL.nil AS 0)),.bool false]) rfl rfl IH.h rfl (s2 ?_);obtain rfl:=sj hp;refine AX (fun _=>Bh (τ:=ByteArray) 0) ?_;refine AX (fun _=>Bh (τ:=AS) 0) ?_;refine jW (((ak,am),(-1),(-1),0,(0,0,0,aA0,aA0,aA0,0,(TL.nil ByteArray 0)),0,(TL.nil AS 0),false):Aw) ?_;refine s1 ?_;refine Ct rfl (AF rfl mm (by exact DB.h)) ⟨((ak,am),(-1),(-1),0,(0,0,0,aA0,aA0,aA0,0,(TL.nil ByteArray 0)),0,(TL.nil AS 0),false),rfl,rfl,rfl⟩ ms
def Kx (a0:List ByteArray):Option (List ByteArray) :=
 (Cj ([]:List ByteArray) a0).bind fun y2=>some y2
theorem Va (a0:TL ByteArray) (h0:rd w [] a0) (r) (hp:Kx (dat a0)=some r):Sp 179 [a0.hdr] w [] (fun v M=>∃ (x0:TL ByteArray),v=x0.hdr∧dat x0=r∧M=[Af x0]):=by
 refine Ay func179 rfl ntmps179 rfl ?_;unfold Kx at hp;replace hp:=dd hp;refine s2 ?_;refine Bi (v:=(TL.hdr (TL.nil ByteArray 0))) rfl rfl (s4 ?_);refine Cn (M':=Af (TL.nil ByteArray 0)::_) (fun _=>Bh _) ?_;revert hp;refine bc fun y2 a2 hp=>?_;refine FB (X:=(TL.nil ByteArray 0)) (Y:=a0) rfl rfl rfl Ki.h rfl rfl pk (Ab h0) a2 de (fun X1 a1=>?_);subst a1;refine s2 ?_;obtain rfl:=sj hp;refine s1 ?_;refine Ct rfl (Ah rfl) ⟨X1,rfl,rfl,rfl⟩ ms
def Iz (a0:BN):Option BN :=
 (Kx a0.2.2.2.2.2.2.2).bind fun y1=>some (a0.1,a0.2.1,a0.2.2.1,a0.2.2.2.1,a0.2.2.2.2.1,a0.2.2.2.2.2.1,a0.2.2.2.2.2.2.1,y1)
theorem Mq (a0:CR) (h0:rd w [] a0) (r) (hp:Iz (dat a0)=some r):Sp 135 [.agg (cells a0).toArray] w [] (fun v M=>∃ (x0:CR),v=.agg (cells x0).toArray∧dat x0=r∧M=[Af x0]):=by
 obtain ⟨a1,a2,a3,a4,a5,a6,a7,a9⟩:=a0;refine sa ?_;refine Ay func135 rfl ntmps135 rfl ?_;unfold Iz at hp;replace hp:=dd hp;refine s2 ?_;refine bx fun ab=>?_;refine al fun ac=>?_;refine s5 ?_;revert hp;refine bc fun y1 aa hp=>?_;refine AZ rfl xC.h rfl (by exact fun w hw=>Va w a9 (Aq (Ab h0.2.2.2.2.2.2.2) hw) _ aa) ?_;rintro _ _ ⟨a8,rfl,rfl,rfl⟩;refine sc ?_;replace hp:=dd hp;refine s8 ?_;obtain rfl:=sj hp;refine jW ((a1,a2,a3,a4,a5,a6,a7,a8):CR) ?_;refine s1 ?_;refine Ct rfl (AF rfl mm (by exact CS.h)) ⟨(a1,a2,a3,a4,a5,a6,a7,a8),rfl,rfl,rfl⟩ ms
def GD (a0:List Am):Option (List Am) :=
 (Cj ([]:List Am) a0).bind fun y2=>some y2
theorem Gp (a0:TL AS) (h0:rd w [] a0) (r) (hp:GD (dat a0)=some r):Sp 123 [a0.hdr] w [] (fun v M=>∃ (x0:TL AS),v=x0.hdr∧dat x0=r∧M=[Af x0]):=by
 refine Ay func123 rfl ntmps123 rfl ?_;unfold GD at hp;replace hp:=dd hp;refine s2 ?_;refine Bi (v:=(TL.hdr (TL.nil AS 0))) rfl rfl (s4 ?_);refine Cn (M':=Af (TL.nil AS 0)::_) (fun _=>Bh _) ?_;revert hp;refine bc fun y2 a2 hp=>?_;refine FB (X:=(TL.nil AS 0)) (Y:=a0) rfl rfl rfl BS.h rfl rfl pk (Ab h0) a2 de (fun X1 a1=>?_);subst a1;refine s2 ?_;obtain rfl:=sj hp;refine s1 ?_;refine Ct rfl (Ah rfl) ⟨X1,rfl,rfl,rfl⟩ ms
def Gz (a0:Ar):Option Ar :=
 (Iz a0.2.2.2.2.1).bind fun y1=>(GD a0.2.2.2.2.2.2.1).bind fun y2=>some (a0.1,a0.2.1,a0.2.2.1,a0.2.2.2.1,y1,a0.2.2.2.2.2.1,y2,a0.2.2.2.2.2.2.2)
theorem Jq (a0:Aw) (h0:rd w [] a0) (r) (hp:Gz (dat a0)=some r):Sp 87 [.agg (cells a0).toArray] w [] (fun v M=>∃ (x0:Aw),v=.agg (cells x0).toArray∧dat x0=r∧M=[Af x0]):=by
 obtain ⟨⟨ab,ac⟩,ad,ae,af,⟨an,ao,ap,aq,ah,ai,aj,ak⟩,a9,am,aa⟩:=a0;refine sa ?_;refine Ay func87 rfl ntmps87 rfl ?_;unfold Gz at hp;replace hp:=dd hp;refine s2 ?_;refine bx fun av=>?_;refine al fun aw=>?_;refine s4 ?_;refine Ba rfl rfl (AW (Ax mm) 5 8 rfl) (by exact CS.h) ?_;revert hp;refine bc fun y1 ar hp=>?_;refine AZ rfl fY.h rfl (by exact fun w hw=>Mq w (an,ao,ap,aq,ah,ai,aj,ak) (Aq (Ab h0.2.2.2.2.1) hw) _ ar) ?_;rintro _ _ ⟨⟨a1,a2,a3,a4,a5,a6,a7,a8⟩,rfl,rfl,rfl⟩;refine sc ?_;replace hp:=dd hp;refine xL (_:CR) ?_;refine s1 ?_;refine JA (fo:=5) rfl rfl pk (by exact CS.h) (aAc rfl) ocs rfl (s5 ?_);revert hp;refine bc fun y2 au hp=>?_;refine AZ rfl Se.h rfl (by exact fun w hw=>Gp w am (Aq (Ab h0.2.2.2.2.2.2.1) hw) _ au) ?_;rintro _ _ ⟨ag,rfl,rfl,rfl⟩;refine sc ?_;replace hp:=dd hp;refine s8 ?_;obtain rfl:=sj hp;refine jW (((ab,ac),ad,ae,af,(a1,a2,a3,a4,a5,a6,a7,a8),a9,ag,aa):Aw) ?_;refine s1 ?_;refine Ct rfl (AF rfl mm (by exact DB.h)) ⟨((ab,ac),ad,ae,af,(a1,a2,a3,a4,a5,a6,a7,a8),a9,ag,aa),rfl,rfl,rfl⟩ ms
def Ky (a0:Ar) (c0:Am):Option Bool :=
 some (decide (a0.1.1=c0.1)&&(decide (a0.1.2=c0.2)&&true))
theorem Vb (a0:Aw) (b0:Nat) (c0:AS) (h0:rd w [] a0) (hb0:Cells w [] b0 0 (cells c0)) (q0:rd w [] c0) (r) (hp:Ky (dat a0) (dat c0)=some r):Spec prog 134 ([(.agg (cells a0).toArray:Value)]++[Value.pointer (some ⟨b0,0,none⟩)]).toArray w [] (IsV (.bool r)):=by
 obtain ⟨⟨a8,a9⟩,aa,ab,ac,⟨ad,ae,af,ag,a1,a2,a3,a4⟩,a5,a6,a7⟩:=a0;obtain ⟨c0_1,c0_2⟩:=c0;refine sa ?_;refine Ay func134 rfl ntmps134 rfl ?_;unfold Ky at hp;replace hp:=dd hp;refine s2 ?_;refine bx fun ah=>?_;refine s5 ?_;refine Ba rfl rfl (AW (Ax mm) 0 2 rfl) (by exact Bo.h) ?_;refine Ba rfl rfl (Gj hb0) (by exact Bo.h) ?_;refine Jw rfl rfl rfl (Hm Ft (Cc Bg.h Dm.h rfl rfl (Cc Bg.h Dm.h rfl rfl EqS.nil))) (s2 ?_);exact fB
def EP (a0:List Ar) (a1:Ar→Option Bool):Option Int :=
 Bn (fun s1:Int=>cond (decide (s1 < (a0.length:Int))) ((idx a0 s1).bind fun y3=>(a1 y3).bind fun y4=>cond y4 (Option.map .inr (some s1)) (some (.inl (IntKind.wrap .i64 (s1+1))))) (Option.map .inr (some (-1)))) 0
theorem Kj (a0:TL Aw) (f1:Nat) (cs1:List Value) (a1:Ar→Option Bool) (h0:rd w [] a0) (hf1:IsFn prog f1) (hk1:∀ (w':World) (F:List HP) (u0:Aw) (v:Bool),Holds w [] F w'→rd w' [] u0→a1 (dat u0)=some v→Spec prog f1 ([Value.agg (cells u0).toArray]++cs1).toArray w' [] (IsV (.bool v))) (r) (hp:EP (dat a0) a1=some r):Sp 133 [a0.hdr,.func (.func f1) #[] cs1.toArray] w [] (IsV (.int .i64 r)):=by
 refine Ay func133 rfl ntmps133 rfl ?_;unfold EP at hp;replace hp:=dd hp;refine s12 ?_;refine BB (σ:=Int) dat (fun (a2:Int)=>[(8,.int .i64 a2)]) (fun (a2:Int)=>[]) [(0,_),(1,_),(7,_)] [] 0 hp sb ms ?_;clear hp;rintro a2 x1 hp ab;replace hp:=dd hp;refine kq [0,1,7,8] ?_;refine s5 ?_;revert hp;refine kC [0,1,7,8,9] (fun q2 hp=>?_) fun q2 hp=>?_
 ·refine s13 ?_;replace hp:=AE hp;obtain ⟨⟨⟨ac,ad⟩,ae,af,ag,⟨ah,ai,aj,ak,a4,a5,a6,a7⟩,a8,a9,aa⟩,a3,hp⟩:=hp;refine BU (X:=a0) rfl rfl rfl DU.h (Ab h0) a3 ?_;refine Ba rfl rfl (AN (Ab h0) (a3).2) DB.h ?_;revert hp;refine bc fun y4 am hp=>?_;refine Pc rfl rfl hf1 rfl (by exact fun w hw=>hk1 w _ ((ac,ad),ae,af,ag,(ah,ai,aj,ak,a4,a5,a6,a7),a8,a9,aa) y4 hw (Aq (Aa dv (Aa Ac (Aa Ac (Aa Ac (Aa (Bf (Ad (Ad (Ad (Ad (BW (Ab h0) (a3).2)))))) (Aa Ac (Aa (Bf (Ad (Ad (Ad (Ad (Ad (Ad (BW (Ab h0) (a3).2)))))))) Co))))))) hw) am) (s1 ?_);revert hp;refine kC [0,1,5,7,8,16] (fun q5 hp=>?_) fun q5 hp=>?_
  ·refine s5 ?_;replace hp:=mxA hp ab;exact fB
  refine s5 ?_;exact ⟨IntKind.wrap .i64 (a2+1),sb,(.sub ms),AU hp⟩
 refine BG ?_;replace hp:=mxA hp ab;refine s4 ?_;exact fB
def JE (a0:List Ar) (a1:Am):Option Int :=
 (EP a0 (fun z0=>Ky z0 a1)).bind fun y1=>some y1
theorem ST (a0:TL Aw) (a1:AS) (h0:rd w [] a0) (h1:rd w [] a1) (r) (hp:JE (dat a0) (dat a1)=some r):Sp 86 [a0.hdr,.agg (cells a1).toArray] w [] (IsV (.int .i64 r)):=by
 obtain ⟨a2,a3⟩:=a1;refine sa ?_;refine Ay func86 rfl ntmps86 rfl ?_;unfold JE at hp;replace hp:=dd hp;refine s2 ?_;refine bx fun a4=>?_;refine s5 ?_;refine ID (fs:=[]) (cs:=[.tmp 3]) rfl rfl rfl ?_;revert hp;refine bc fun y1 a5 hp=>?_;refine BH rfl xE.h rfl (by exact fun w hw=>Kj w a0 134 [Value.pointer (some ⟨a4,0,none⟩)] (fun z0=>Ky z0 (a2,a3)) (Aq (Ab h0) hw) xD.h (fun w' F u0 v hF hu0 hv=>Vb w' u0 a4 (a2,a3) hu0 ((Cl mm hw.sees).carry hF) (Jx (Aq dv hw) hF) v hv) _ a5) (s2 ?_);exact fB
def DC (a0:List Ar) (a1:Am):Option Ar :=
 (JE a0 a1).bind fun y1=>cond (decide (0≤y1)) ((idx a0 y1).bind fun y3=>(Gz y3).bind fun y4=>some y4) (some (a1,(-1),(-1),0,(0,0,0,aA0,aA0,aA0,0,([]:List ByteArray)),0,([]:List Am),false))
theorem Ef (a0:TL Aw) (a1:AS) (h0:rd w [] a0) (h1:rd w [] a1) (r) (hp:DC (dat a0) (dat a1)=some r):Sp 41 [a0.hdr,.agg (cells a1).toArray] w [] (fun v M=>∃ (x0:Aw),v=.agg (cells x0).toArray∧dat x0=r∧M=[Af x0]):=by
 obtain ⟨a9,aa⟩:=a1;refine sa ?_;refine Ay func41 rfl ntmps41 rfl ?_;unfold DC at hp;replace hp:=dd hp;refine s2 ?_;refine bx fun b6=>?_;refine al fun b7=>?_;refine s6 ?_;revert hp;refine bc fun y1 b4 hp=>?_;refine BH rfl uS.h rfl (by exact fun w hw=>ST w a0 (a9,aa) (Aq (Ab h0) hw) (Aq dv hw) _ b4) (s7 ?_);revert hp;refine kC [0,3,4,5,10] (fun q2 hp=>?_) fun q2 hp=>?_
 ·refine s4 ?_;replace hp:=AE hp;obtain ⟨⟨⟨av,aw⟩,ax,ay,az,⟨b0,b1,b2,b3,am,an,ao,ap⟩,aq,ar,au⟩,ak,hp⟩:=hp;refine BU (X:=a0) rfl rfl rfl DU.h (Ab h0) ak ?_;refine Ba rfl rfl (AN (Ab h0) (ak).2) (by exact DB.h) ?_;revert hp;refine bc fun y4 b5 hp=>?_;refine AZ rfl fZ.h rfl (by exact fun w hw=>Jq w ((av,aw),ax,ay,az,(b0,b1,b2,b3,am,an,ao,ap),aq,ar,au) (Aq (Aa dv (Aa Ac (Aa Ac (Aa Ac (Aa (Bf (Ad (Ad (Ad (Ad (BW (Ab h0) (ak).2)))))) (Aa Ac (Aa (Bf (Ad (Ad (Ad (Ad (Ad (Ad (BW (Ab h0) (ak).2)))))))) Co))))))) hw) _ b5) ?_;rintro _ _ ⟨⟨⟨ab,ac⟩,ad,ae,af,⟨ag,ah,ai,aj,a2,a3,a4,a5⟩,a6,a7,a8⟩,rfl,rfl,rfl⟩;refine sc ?_;replace hp:=dd hp;refine xL (_:Aw) ?_;refine s2 ?_;obtain rfl:=sj hp;refine jW (((ab,ac),ad,ae,af,(ag,ah,ai,aj,a2,a3,a4,a5),a6,a7,a8):Aw) ?_;refine s1 ?_;refine Ct rfl (AF rfl mm (by exact DB.h)) ⟨((ab,ac),ad,ae,af,(ag,ah,ai,aj,a2,a3,a4,a5),a6,a7,a8),rfl,rfl,rfl⟩ ms
 refine s4 ?_;refine Cg (xs:=[(0,.tmp 16),(1,.const (.int .i64 (-1))),(2,.const (.int .i64 (-1)))]) (cs:=[.int .i64 a9,.int .i64 aa,.int .i64 (-1),.int .i64 (-1),.int .i64 0,.int .i64 0,.int .i64 0,.int .i64 0,.string aA0,.string aA0,.string aA0,.int .i64 0,(TL.hdr (TL.nil ByteArray 0)),.int .i64 0,(TL.hdr (TL.nil AS 0)),.bool false]) rfl rfl IH.h rfl (s2 ?_);obtain rfl:=sj hp;refine AX (fun _=>Bh (τ:=ByteArray) 0) ?_;refine AX (fun _=>Bh (τ:=AS) 0) ?_;refine jW (((a9,aa),(-1),(-1),0,(0,0,0,aA0,aA0,aA0,0,(TL.nil ByteArray 0)),0,(TL.nil AS 0),false):Aw) ?_;refine s1 ?_;refine Ct rfl (AF rfl mm (by exact DB.h)) ⟨((a9,aa),(-1),(-1),0,(0,0,0,aA0,aA0,aA0,0,(TL.nil ByteArray 0)),0,(TL.nil AS 0),false),rfl,rfl,rfl⟩ ms
def Mt (a0:AM):Option Bool :=
 (Kt a0.1).bind fun y1=>gb (!(!y1)) (Ez a0.2.1 0 600) (fun y2=>gb (!((!y1)||(!y2))) (Ez a0.2.2.1 1 3) (fun y3=>gb (!(((!y1)||(!y2))||(!y3))) (Ez a0.2.2.2.1 0 60) (fun y4=>gb (!((((!y1)||(!y2))||(!y3))||(!y4))) (Mo a0.2.2.2.2.1) (fun y5=>gb (!(((((!y1)||(!y2))||(!y3))||(!y4))||(!y5))) (Mp a0.2.2.2.2.1 a0.1) (fun y6=>cond (((((((!y1)||(!y2))||(!y3))||(!y4))||(!y5))||y6)||(decide (3 < (a0.2.2.2.2.2.1.length:Int)))) (some false) (Bn (fun s8:Int=>cond (decide (s8 < (a0.2.2.2.2.2.1.length:Int))) ((idx a0.2.2.2.2.2.1 s8).bind fun a2=>(HV a2).bind fun a1=>gb ((!(!a1))&&(decide (0 < s8))) (idx a0.2.2.2.2.2.1 (IntKind.wrap .i64 (s8 - 1))) (fun a3=>gb ((!(!a1))&&(decide (0 < s8))) (idx a0.2.2.2.2.2.1 s8) (fun a4=>cond ((!a1)||((decide (0 < s8))&&(decide (a4≤a3)))) (Option.map .inr (some false)) (some (.inl (IntKind.wrap .i64 (s8+1))))))) (Option.map .inr (some true))) 0))))))
theorem Yk (a0:Az) (h0:rd w [] a0) (r) (hp:Mt (dat a0)=some r):Sp 138 [.agg (cells a0).toArray] w [] (IsV (.bool r)):=by
 obtain ⟨⟨a3,a4⟩,aa,ab,ac,a5,a1,ao⟩:=a0;refine sa ?_;refine Ay func138 rfl ntmps138 rfl ?_;unfold Mt at hp;replace hp:=dd hp;refine s2 ?_;refine bx fun ae=>?_;refine s4 ?_;revert hp;refine bc fun y1 af hp=>?_;replace hp:=Bz hp;obtain ⟨y2,ag,hp⟩:=hp;replace hp:=Bz hp;obtain ⟨y3,ah,hp⟩:=hp;replace hp:=Bz hp;obtain ⟨y4,ai,hp⟩:=hp;replace hp:=Bz hp;obtain ⟨y5,aj,hp⟩:=hp;replace hp:=Bz hp;obtain ⟨y6,ak,hp⟩:=hp;refine BM [44] mix kr rfl (s1 ?_);refine Bw Ai (Ag rfl) (fun hg=>AW (Ax mm) 0 2 rfl) (by exact Bo.h) ?_;refine AT Ai VO.h (Ae (Ag rfl) (AC)) (by exact fun hg w F hF hM=>Ku w (a3,a4) (AD dv hF hM) _ af) (s4 ?_);refine AT (Aj rfl rfl) HW.h (Ae (Al rfl) (Ae Bp (Ae Bp (AC)))) (by exact fun hg w F hF hM=>CU w aa 0 600  _ (ag (BP hg.2))) (s5 ?_);refine AT (Aj rfl rfl) HW.h (Ae (Al rfl) (Ae Bp (Ae Bp (AC)))) (by exact fun hg w F hF hM=>CU w ab 1 3  _ (ah (BP hg.2))) (s5 ?_);refine AT (Aj rfl rfl) HW.h (Ae (Al rfl) (Ae Bp (Ae Bp (AC)))) (by exact fun hg w F hF hM=>CU w ac 0 60  _ (ai (BP hg.2))) (s5 ?_);refine AT (Aj rfl rfl) fW.h (Ae (Al rfl) (AC)) (by exact fun hg w F hF hM=>Pi w a5 (AD (Ab h0.2.2.2.2.1) hF hM) _ (aj (BP hg.2))) (s6 ?_);refine Bw (Aj rfl rfl) (Al rfl) (fun hg=>AW (Ax mm) 0 2 rfl) (by exact Bo.h) ?_;refine AT (Aj rfl rfl) fX.h (Ae (Al rfl) (Ae (Al rfl) (AC))) (by exact fun hg w F hF hM=>Pj w a5 (a3,a4) (AD (Ab h0.2.2.2.2.1) hF hM) (AD dv hF hM) _ (ak (BP hg.2))) (s4 ?_);refine EK (X:=a1) (Aj rfl rfl) (Al rfl) CL.h (s20 ?_);refine s20 ?_;refine s5 ?_;revert hp;refine kC [1,44] (fun q7 hp=>?_) fun q7 hp=>?_
 ·refine s4 ?_;exact fB
 refine s7 ?_;refine BB (σ:=Int) dat (fun (a2:Int)=>[(3,.int .i64 a2)]) (fun (a2:Int)=>[]) [(1,_)] [blk ae _ _] 0 hp sb ms ?_;clear hp;rintro a2 x8 hp a9;replace hp:=dd hp;refine kq [1,3] ?_;refine s9 ?_;revert hp;refine kC [1,3,49] (fun q9 hp=>?_) fun q9 hp=>?_
 ·refine s4 ?_;replace hp:=AE hp;obtain ⟨am,a6,hp⟩:=hp;revert hp;refine bc fun ap ad hp=>?_;replace hp:=Dk hp;obtain ⟨aq,a7,hp⟩:=hp;replace hp:=Dk hp;obtain ⟨ar,a8,hp⟩:=hp;refine BM [76] mix kr rfl (s3 ?_);refine Bt (X:=a1) Ai (Ag rfl) (Ag rfl) CL.h (Ab h0.2.2.2.2.2.1) (fun _=>a6) ?_;refine Cr Ai (Ag rfl) (fun hg=>AN (Ab h0.2.2.2.2.2.1) (a6).2) Bg.h rfl ?_;refine AT Ai Uj.h (Ae (Ag rfl) (AC)) (by exact fun hg w F hF hM=>HC w am  _ ad) (s9 ?_);refine Bt (X:=a1) (Aj rfl rfl) (Al rfl) (Al rfl) CL.h (Ab h0.2.2.2.2.2.1) (fun hg=>a7 (GS (BP hg.1.2) hg.2)) ?_;refine Cr (Aj rfl rfl) (Al rfl) (fun hg=>AN (Ab h0.2.2.2.2.2.1) (a7 (GS (BP hg.1.2) hg.2)).2) Bg.h rfl (s3 ?_);refine Bt (X:=a1) (Aj rfl rfl) (Al rfl) (Al rfl) CL.h (Ab h0.2.2.2.2.2.1) (fun hg=>a8 (GS (BP hg.1.2) hg.2)) ?_;refine Cr (Aj rfl rfl) (Al rfl) (fun hg=>AN (Ab h0.2.2.2.2.2.1) (a8 (GS (BP hg.1.2) hg.2)).2) Bg.h rfl (s20 ?_);refine s10 ?_;revert hp;refine kC [1,3,76] (fun an hp=>?_) fun an hp=>?_
  ·refine s4 ?_;replace hp:=mxA hp a9;exact fB
  refine s6 ?_;exact ⟨IntKind.wrap .i64 (a2+1),sb,(.sub ms),AU hp⟩
 refine BG ?_;replace hp:=mxA hp a9;refine s4 ?_;exact fB
def Ht (a0:Ap) (a1:Am):Option Int :=
 Bn (fun s1:Int=>cond (decide (s1 < (a0.2.2.2.length:Int))) ((idx a0.2.2.2 s1).bind fun y3=>cond (decide (y3.1.1=a1.1)&&(decide (y3.1.2=a1.2)&&true)) (Option.map .inr (some s1)) (some (.inl (IntKind.wrap .i64 (s1+1))))) (Option.map .inr (some (-1)))) 0
theorem HX (a0:AA) (a1:AS) (h0:rd w [] a0) (h1:rd w [] a1) (r) (hp:Ht (dat a0) (dat a1)=some r):Sp 139 [.agg (cells a0).toArray,.agg (cells a1).toArray] w [] (IsV (.int .i64 r)):=by
 obtain ⟨a8,a9,aa,a5⟩:=a0;obtain ⟨ab,ac⟩:=a1;refine sa ?_;refine Ay func139 rfl ntmps139 rfl ?_;unfold Ht at hp;replace hp:=dd hp;refine s2 ?_;refine bx fun a6=>?_;refine bx fun a7=>?_;refine s8 ?_;refine BB (σ:=Int) dat (fun (a2:Int)=>[(5,.int .i64 a2)]) (fun (a2:Int)=>[]) [(2,_),(3,_)] [blk a6 _ _,blk a7 _ _] 0 hp sb ms ?_;clear hp;rintro a2 x1 hp a3;replace hp:=dd hp;refine kq [2,3,5] ?_;refine s9 ?_;revert hp;refine kC [2,3,5,10] (fun q2 hp=>?_) fun q2 hp=>?_
 ·refine s4 ?_;replace hp:=AE hp;obtain ⟨⟨⟨ad,ae⟩,af,ag,ah,ai,aj,ak⟩,a4,hp⟩:=hp;refine BM [20] mix kr rfl (s3 ?_);refine Bt (X:=a5) Ai (Ag rfl) (Ag rfl) CM.h (Ab h0.2.2.2) (fun _=>a4) (s1 ?_);refine Bw Ai (Ag rfl) (fun hg=>AW (AN (Ab h0.2.2.2) (a4).2) 0 2 rfl) Bo.h (s1 ?_);refine DT Ai (Ag rfl) (Ag rfl) (fun hg=>(Hm Ft (Cc Bg.h Dm.h rfl rfl (Cc Bg.h Dm.h rfl rfl EqS.nil)))) (s10 ?_);revert hp;refine kC [2,3,5,20] (fun q4 hp=>?_) fun q4 hp=>?_
  ·refine s5 ?_;replace hp:=mxA hp a3;exact fB
  refine s6 ?_;exact ⟨IntKind.wrap .i64 (a2+1),sb,(.sub ms),AU hp⟩
 refine BG ?_;replace hp:=mxA hp a3;refine s4 ?_;exact fB
def Gc (a0:Ap):Option Bool :=
 (HV a0.1).bind fun y1=>gb (!(!y1)) (Ez a0.2.1 1 7) (fun y2=>gb (!((!y1)||(!y2))) (Nx a0.2.2.1) (fun y3=>cond ((((!y1)||(!y2))||(!y3))||(decide (8 < (a0.2.2.2.length:Int)))) (some false) (Bn (fun s5:Int=>cond (decide (s5 < (a0.2.2.1.length:Int))) ((idx a0.2.2.1 s5).bind fun y7=>gb (decide (y7.1.1=a0.1)) (idx a0.2.2.1 s5) (fun y8=>cond ((decide (y7.1.1=a0.1))&&(decide (a0.2.1≤y8.1.2))) (Option.map .inr (some false)) (some (.inl (IntKind.wrap .i64 (s5+1)))))) (Option.map .inr (Bn (fun s12:Int=>cond (decide (s12 < (a0.2.2.2.length:Int))) ((idx a0.2.2.2 s12).bind fun a2=>(Mt a2).bind fun a1=>gb (!(!a1)) (idx a0.2.2.2 s12) (fun a3=>gb (!(!a1)) (Ht a0 a3.1) (fun a4=>cond ((!a1)||(!decide (a4=s12))) (Option.map .inr (some false)) (some (.inl (IntKind.wrap .i64 (s12+1))))))) (Option.map .inr (some true))) 0))) 0)))
theorem Ij (a0:AA) (h0:rd w [] a0) (r) (hp:Gc (dat a0)=some r):Sp 88 [.agg (cells a0).toArray] w [] (IsV (.bool r)):=by
 obtain ⟨a6,a7,a2,a3⟩:=a0;refine sa ?_;refine Ay func88 rfl ntmps88 rfl ?_;unfold Gc at hp;replace hp:=dd hp;refine s2 ?_;refine bx fun ak=>?_;refine s4 ?_;revert hp;refine bc fun y1 ar hp=>?_;replace hp:=Bz hp;obtain ⟨y2,au,hp⟩:=hp;replace hp:=Bz hp;obtain ⟨y3,av,hp⟩:=hp;refine BM [26] mix kr rfl (s2 ?_);refine AT Ai Uj.h (Ae (Ag rfl) (AC)) (by exact fun hg w F hF hM=>HC w a6  _ ar) (s4 ?_);refine AT (Aj rfl rfl) HW.h (Ae (Al rfl) (Ae Bp (Ae Bp (AC)))) (by exact fun hg w F hF hM=>CU w a7 1 7  _ (au (BP hg.2))) (s5 ?_);refine AT (Aj rfl rfl) xF.h (Ae (Al rfl) (AC)) (by exact fun hg w F hF hM=>Xb w a2 (AD (Ab h0.2.2.1) hF hM) _ (av (BP hg.2))) (s5 ?_);refine EK (X:=a3) (Aj rfl rfl) (Al rfl) CM.h (s20 ?_);refine s6 ?_;revert hp;refine kC [1,26] (fun q4 hp=>?_) fun q4 hp=>?_
 ·refine s4 ?_;exact fB
 refine s7 ?_;refine BB (σ:=Int) dat (fun (a4:Int)=>[(3,.int .i64 a4)]) (fun (a4:Int)=>[]) [(1,_)] [blk ak _ _] 0 hp sb ms ?_;clear hp;rintro a4 x5 hp am;replace hp:=dd hp;refine kq [1,3] ?_;refine s9 ?_;revert hp;refine kC [1,3,31] (fun q6 hp=>?_) fun q6 hp=>?_
 ·refine s4 ?_;replace hp:=AE hp;obtain ⟨⟨⟨bk,bl⟩,bn,bo,bp,⟨bq,br,bs,bt,ay,az,b0,b1⟩,b2,b3,b4⟩,an,hp⟩:=hp;replace hp:=Dk hp;obtain ⟨⟨⟨bu,bw⟩,bz,c0,c1,⟨c2,c3,c4,c5,b5,b6,b7,b8⟩,b9,bb,bd⟩,ao,hp⟩:=hp;refine BM [55] mix kr rfl (s3 ?_);refine Bt (X:=a2) Ai (Ag rfl) (Ag rfl) DU.h (Ab h0.2.2.1) (fun _=>an) (s2 ?_);refine Bu (fo:=0) Ai (Ag rfl) (fun hg=>AN (Ab h0.2.2.1) (an).2) Bg.h rfl (s7 ?_);refine Bt (X:=a2) (Aj rfl rfl) (Al rfl) (Al rfl) DU.h (Ab h0.2.2.1) (fun hg=>ao hg.2) (s2 ?_);refine Bu (fo:=1) (Aj rfl rfl) (Al rfl) (fun hg=>AN (Ab h0.2.2.1) (ao hg.2).2) Bg.h rfl (s20 ?_);refine s8 ?_;revert hp;refine kC [1,3,55] (fun q9 hp=>?_) fun q9 hp=>?_
  ·refine s4 ?_;replace hp:=mxA hp am;exact fB
  refine s6 ?_;exact ⟨IntKind.wrap .i64 (a4+1),sb,(.sub ms),AU hp⟩
 refine BG ?_;replace hp:=mxA hp am;refine s6 ?_;refine BB (σ:=Int) dat (fun (a1:Int)=>[(4,.int .i64 a1)]) (fun (a1:Int)=>[]) [(1,_)] [blk ak _ _] 0 hp sb ms ?_;clear hp;rintro a1 c6 hp a8;replace hp:=dd hp;refine kq [1,4] ?_;refine s9 ?_;revert hp;refine kC [1,4,60] (fun aw hp=>?_) fun aw hp=>?_
 ·refine s4 ?_;replace hp:=AE hp;obtain ⟨⟨⟨aa,ab⟩,ac,ad,ae,af,ag,ah⟩,a5,hp⟩:=hp;revert hp;refine bc fun c7 ap hp=>?_;replace hp:=Dk hp;obtain ⟨⟨⟨ai,aj⟩,be,bf,bg,bh,bi,bj⟩,a9,hp⟩:=hp;replace hp:=Bz hp;obtain ⟨c8,aq,hp⟩:=hp;refine BM [81] mix kr rfl (s3 ?_);refine Bt (X:=a3) Ai (Ag rfl) (Ag rfl) CM.h (Ab h0.2.2.2) (fun _=>a5) ?_;refine Bw Ai (Ag rfl) (fun hg=>AN (Ab h0.2.2.2) (a5).2) Gi.h ?_;refine AT Ai xG.h (Ae (Ag rfl) (AC)) (by exact fun hg w F hF hM=>Yk w ((aa,ab),ac,ad,ae,af,ag,ah) (AD (Aa dv (Aa Ac (Aa Ac (Aa Ac (Aa (Bf (Ad (Ad (Ad (Ad (BW (Ab h0.2.2.2) (a5).2)))))) (Aa (Bf (Ad (Ad (Ad (Ad (Ad (BW (Ab h0.2.2.2) (a5).2))))))) Co)))))) hF hM) _ ap) (s6 ?_);refine Bt (X:=a3) (Aj rfl rfl) (Al rfl) (Al rfl) CM.h (Ab h0.2.2.2) (fun hg=>a9 (BP hg.2)) (s1 ?_);refine Bw (Aj rfl rfl) (Al rfl) (fun hg=>AW (AN (Ab h0.2.2.2) (a9 (BP hg.2)).2) 0 2 rfl) Bo.h ?_;refine AT (Aj rfl rfl) Sf.h (Ae (Al rfl) (Ae (Al rfl) (AC))) (by exact fun hg w F hF hM=>HX w (a6,a7,a2,a3) (ai,aj) (AD (Aa Ac (Aa Ac (Aa (Ab h0.2.2.1) (Ab h0.2.2.2)))) hF hM) (AD dv hF hM) _ (aq (BP hg.2))) (s20 ?_);refine s4 ?_;revert hp;refine kC [1,4,81] (fun ax hp=>?_) fun ax hp=>?_
  ·refine s4 ?_;replace hp:=mxA hp a8;exact fB
  refine s6 ?_;exact ⟨IntKind.wrap .i64 (a1+1),sb,(.sub ms),AU hp⟩
 refine BG ?_;replace hp:=mxA hp a8;refine s4 ?_;exact fB
def Fm (a0:Ap) (a1:Am):Option Bool :=
 some ((decide (a1.1=a0.1))&&(decide (a0.2.1≤a1.2)))
theorem IJ (b0_:Nat) (a0:AA) (a1:AS) (hbb0_:Cells w [] b0_ 0 (cells a0)) (h0:rd w [] a0) (h1:rd w [] a1) (r) (hp:Fm (dat a0) (dat a1)=some r):Sp 110 [Value.pointer (some ⟨b0_,0,none⟩),.agg (cells a1).toArray] w [] (IsV (.bool r)):=by
 obtain ⟨a2,a3,a4,a5⟩:=a0;obtain ⟨a6,a7⟩:=a1;refine sa ?_;refine Ay func110 rfl ntmps110 rfl ?_;unfold Fm at hp;replace hp:=dd hp;refine s2 ?_;refine bx fun a8=>?_;refine s3 ?_;refine BM [4] mix kr rfl (s5 ?_);refine Bu Ai (Ag rfl) (fun hg=>Gj hbb0_) Bg.h rfl (s7 ?_);refine Bu (Aj rfl rfl) (Al rfl) (fun hg=>Gj hbb0_) Bg.h rfl (s20 ?_);refine s2 ?_;exact fB
def Ln (a0:List Am) (a1:Am):Option Bool :=
 (Lm a0).bind fun y1=>gb y1 (Ci a0 a1) (fun y2=>some (y1&&(!y2)))
theorem Rg (a0:TL AS) (a1:AS) (h0:rd w [] a0) (h1:rd w [] a1) (r) (hp:Ln (dat a0) (dat a1)=some r):Sp 115 [a0.hdr,.agg (cells a1).toArray] w [] (IsV (.bool r)):=by
 obtain ⟨a2,a3⟩:=a1;refine sa ?_;refine Ay func115 rfl ntmps115 rfl ?_;unfold Ln at hp;replace hp:=dd hp;refine s2 ?_;refine bx fun a6=>?_;refine s3 ?_;revert hp;refine bc fun y1 a4 hp=>?_;replace hp:=Bz hp;obtain ⟨y2,a5,hp⟩:=hp;refine BM [4] mix kr rfl (s1 ?_);refine AT Ai YK.h (Ae (Ag rfl) (AC)) (by exact fun hg w F hF hM=>LH w a0 (AD (Ab h0) hF hM) _ a4) (s3 ?_);refine AT (Aj rfl rfl) UZ.h (Ae (Al rfl) (Ae (Al rfl) (AC))) (by exact fun hg w F hF hM=>Dg w a0 (a2,a3) (AD (Ab h0) hF hM) (AD dv hF hM) _ (a5 hg.2)) (s14 ?_);exact fB
def Mu (a0:AM):Option Bool :=
 Bn (fun s1:Int=>cond (decide (s1 < (a0.2.2.2.2.2.1.length:Int))) ((idx a0.2.2.2.2.2.1 s1).bind fun y3=>(Jg y3).bind fun y4=>gb ((!(!y4))&&(decide (0 < s1))) (idx a0.2.2.2.2.2.1 (IntKind.wrap .i64 (s1 - 1))) (fun y5=>cond ((!y4)||((decide (0 < s1))&&(decide (y3≤y5)))) (Option.map .inr (some false)) (some (.inl (IntKind.wrap .i64 (s1+1)))))) (Option.map .inr ((Kv a0.1).bind fun y9=>gb y9 (Dl a0.2.1 0 600) (fun a1=>gb (y9&&a1) (Dl a0.2.2.1 1 3) (fun a2=>gb ((y9&&a1)&&a2) (Dl a0.2.2.2.1 0 60) (fun a3=>gb (((y9&&a1)&&a2)&&a3) (Ln a0.2.2.2.2.1 a0.1) (fun a4=>some ((((y9&&a1)&&a2)&&a3)&&a4)))))))) 0
theorem Ym (a0:Az) (h0:rd w [] a0) (r) (hp:Mu (dat a0)=some r):Sp 111 [.agg (cells a0).toArray] w [] (IsV (.bool r)):=by
 obtain ⟨⟨a2,a3⟩,a8,a9,aa,ab,a4,aj⟩:=a0;refine sa ?_;refine Ay func111 rfl ntmps111 rfl ?_;unfold Mu at hp;replace hp:=dd hp;refine s2 ?_;refine bx fun ag=>?_;refine s11 ?_;refine BB (σ:=Int) dat (fun (a1:Int)=>[(8,.int .i64 a1)]) (fun (a1:Int)=>[]) [(1,_),(6,_),(7,_)] [blk ag _ _] 0 hp sb ms ?_;clear hp;rintro a1 x1 hp a5;replace hp:=dd hp;refine kq [1,6,7,8] ?_;refine s5 ?_;revert hp;refine kC [1,6,7,8,9] (fun q2 hp=>?_) fun q2 hp=>?_
 ·refine s6 ?_;replace hp:=AE hp;obtain ⟨u3,a6,hp⟩:=hp;refine BU (X:=a4) rfl rfl rfl CL.h (Ab h0.2.2.2.2.2.1) a6 ?_;refine FA rfl rfl (AN (Ab h0.2.2.2.2.2.1) (a6).2) Bg.h rfl (s4 ?_);revert hp;refine bc fun y4 ah hp=>?_;replace hp:=Dk hp;obtain ⟨u5,a7,hp⟩:=hp;refine BM [29] mix kr rfl (s1 ?_);refine AT Ai Xc.h (Ae (Ag rfl) (AC)) (by exact fun hg w F hF hM=>If w u3  _ ah) (s9 ?_);refine Bt (X:=a4) (Aj rfl rfl) (Al rfl) (Al rfl) CL.h (Ab h0.2.2.2.2.2.1) (fun hg=>a7 (GS (BP hg.1.2) hg.2)) ?_;refine Cr (Aj rfl rfl) (Al rfl) (fun hg=>AN (Ab h0.2.2.2.2.2.1) (a7 (GS (BP hg.1.2) hg.2)).2) Bg.h rfl (s20 ?_);refine s3 ?_;revert hp;refine kC [1,6,7,8,29] (fun q6 hp=>?_) fun q6 hp=>?_
  ·refine s4 ?_;replace hp:=mxA hp a5;exact fB
  refine s5 ?_;exact ⟨IntKind.wrap .i64 (a1+1),sb,(.sub ms),AU hp⟩
 refine BG ?_;replace hp:=mxA hp a5;refine s1 ?_;revert hp;refine bc fun y9 ai hp=>?_;replace hp:=Bz hp;obtain ⟨ak,ac,hp⟩:=hp;replace hp:=Bz hp;obtain ⟨am,ad,hp⟩:=hp;replace hp:=Bz hp;obtain ⟨an,ae,hp⟩:=hp;replace hp:=Bz hp;obtain ⟨ao,af,hp⟩:=hp;refine BM [2] mix kr rfl (s1 ?_);refine Bw Ai (Ag rfl) (fun hg=>AW (Ax mm) 0 2 rfl) (by exact Bo.h) ?_;refine AT Ai VP.h (Ae (Ag rfl) (AC)) (by exact fun hg w F hF hM=>Kw w (a2,a3) (AD dv hF hM) _ ai) (s3 ?_);refine AT (Aj rfl rfl) Hs.h (Ae (Al rfl) (Ae Bp (Ae Bp (AC)))) (by exact fun hg w F hF hM=>Cu w a8 0 600  _ (ac hg.2)) (s4 ?_);refine AT (Aj rfl rfl) Hs.h (Ae (Al rfl) (Ae Bp (Ae Bp (AC)))) (by exact fun hg w F hF hM=>Cu w a9 1 3  _ (ad hg.2)) (s4 ?_);refine AT (Aj rfl rfl) Hs.h (Ae (Al rfl) (Ae Bp (Ae Bp (AC)))) (by exact fun hg w F hF hM=>Cu w aa 0 60  _ (ae hg.2)) (s5 ?_);refine Bw (Aj rfl rfl) (Al rfl) (fun hg=>AW (Ax mm) 0 2 rfl) (by exact Bo.h) ?_;refine AT (Aj rfl rfl) pS.h (Ae (Al rfl) (Ae (Al rfl) (AC))) (by exact fun hg w F hF hM=>Rg w ab (a2,a3) (AD (Ab h0.2.2.2.2.1) hF hM) (AD dv hF hM) _ (af hg.2)) (s20 ?_);refine s10 ?_;exact fB
def HM (a0:AM) (c0:Am):Option Bool :=
 some (decide (a0.1.1=c0.1)&&(decide (a0.1.2=c0.2)&&true))
theorem Sg (a0:Az) (b0:Nat) (c0:AS) (h0:rd w [] a0) (hb0:Cells w [] b0 0 (cells c0)) (q0:rd w [] c0) (r) (hp:HM (dat a0) (dat c0)=some r):Spec prog 160 ([(.agg (cells a0).toArray:Value)]++[Value.pointer (some ⟨b0,0,none⟩)]).toArray w [] (IsV (.bool r)):=by
 obtain ⟨⟨a1,a2⟩,a3,a4,a5,a6,a7,a8⟩:=a0;obtain ⟨c0_1,c0_2⟩:=c0;refine sa ?_;refine Ay func160 rfl ntmps160 rfl ?_;unfold HM at hp;replace hp:=dd hp;refine s2 ?_;refine bx fun a9=>?_;refine s5 ?_;refine Ba rfl rfl (AW (Ax mm) 0 2 rfl) (by exact Bo.h) ?_;refine Ba rfl rfl (Gj hb0) (by exact Bo.h) ?_;refine Jw rfl rfl rfl (Hm Ft (Cc Bg.h Dm.h rfl rfl (Cc Bg.h Dm.h rfl rfl EqS.nil))) (s2 ?_);exact fB
def Dh (a0:List AM) (a1:AM→Option Bool):Option Int :=
 Bn (fun s1:Int=>cond (decide (s1 < (a0.length:Int))) ((idx a0 s1).bind fun y3=>(a1 y3).bind fun y4=>cond y4 (Option.map .inr (some s1)) (some (.inl (IntKind.wrap .i64 (s1+1))))) (Option.map .inr (some (-1)))) 0
theorem GY (a0:TL Az) (f1:Nat) (cs1:List Value) (a1:AM→Option Bool) (h0:rd w [] a0) (hf1:IsFn prog f1) (hk1:∀ (w':World) (F:List HP) (u0:Az) (v:Bool),Holds w [] F w'→rd w' [] u0→a1 (dat u0)=some v→Spec prog f1 ([Value.agg (cells u0).toArray]++cs1).toArray w' [] (IsV (.bool v))) (r) (hp:Dh (dat a0) a1=some r):Sp 159 [a0.hdr,.func (.func f1) #[] cs1.toArray] w [] (IsV (.int .i64 r)):=by
 refine Ay func159 rfl ntmps159 rfl ?_;unfold Dh at hp;replace hp:=dd hp;refine s12 ?_;refine BB (σ:=Int) dat (fun (a2:Int)=>[(8,.int .i64 a2)]) (fun (a2:Int)=>[]) [(0,_),(1,_),(7,_)] [] 0 hp sb ms ?_;clear hp;rintro a2 x1 hp a4;replace hp:=dd hp;refine kq [0,1,7,8] ?_;refine s5 ?_;revert hp;refine kC [0,1,7,8,9] (fun q2 hp=>?_) fun q2 hp=>?_
 ·refine s13 ?_;replace hp:=AE hp;obtain ⟨⟨⟨a5,a6⟩,a7,a8,a9,aa,ab,ac⟩,a3,hp⟩:=hp;refine BU (X:=a0) rfl rfl rfl CM.h (Ab h0) a3 ?_;refine Ba rfl rfl (AN (Ab h0) (a3).2) Gi.h ?_;revert hp;refine bc fun y4 ad hp=>?_;refine Pc rfl rfl hf1 rfl (by exact fun w hw=>hk1 w _ ((a5,a6),a7,a8,a9,aa,ab,ac) y4 hw (Aq (Aa dv (Aa Ac (Aa Ac (Aa Ac (Aa (Bf (Ad (Ad (Ad (Ad (BW (Ab h0) (a3).2)))))) (Aa (Bf (Ad (Ad (Ad (Ad (Ad (BW (Ab h0) (a3).2))))))) Co)))))) hw) ad) (s1 ?_);revert hp;refine kC [0,1,5,7,8,16] (fun q5 hp=>?_) fun q5 hp=>?_
  ·refine s5 ?_;replace hp:=mxA hp a4;exact fB
  refine s5 ?_;exact ⟨IntKind.wrap .i64 (a2+1),sb,(.sub ms),AU hp⟩
 refine BG ?_;replace hp:=mxA hp a4;refine s4 ?_;exact fB
def Eh (a0:Ap) (a1:Am):Option Int :=
 (Dh a0.2.2.2 (fun z0=>HM z0 a1)).bind fun y1=>some y1
theorem FW (b0_:Nat) (a0:AA) (a1:AS) (hbb0_:Cells w [] b0_ 0 (cells a0)) (h0:rd w [] a0) (h1:rd w [] a1) (r) (hp:Eh (dat a0) (dat a1)=some r):Sp 112 [Value.pointer (some ⟨b0_,0,none⟩),.agg (cells a1).toArray] w [] (IsV (.int .i64 r)):=by
 obtain ⟨a7,a8,a9,a5⟩:=a0;obtain ⟨a2,a3⟩:=a1;refine sa ?_;refine Ay func112 rfl ntmps112 rfl ?_;unfold Eh at hp;replace hp:=dd hp;refine s2 ?_;refine bx fun a4=>?_;refine s7 ?_;refine IX rfl rfl (Gj hbb0_) gA.h rfl ?_;refine ID (fs:=[]) (cs:=[.tmp 3]) rfl rfl rfl ?_;revert hp;refine bc fun y1 a6 hp=>?_;refine BH rfl pT.h rfl (by exact fun w hw=>GY w a5 160 [Value.pointer (some ⟨a4,0,none⟩)] (fun z0=>HM z0 (a2,a3)) (Aq (Ab h0.2.2.2) hw) xH.h (fun w' F u0 v hF hu0 hv=>Sg w' u0 a4 (a2,a3) hu0 ((Cl mm hw.sees).carry hF) (Jx (Aq dv hw) hF) v hv) _ a6) (s2 ?_);exact fB
def Fo (a0:Ap):Option Bool :=
 (Jg a0.1).bind fun y1=>gb (!(!y1)) (Dl a0.2.1 1 7) (fun y2=>gb (!((!y1)||(!y2))) (FD a0.2.2.1) (fun y3=>cond ((((!y1)||(!y2))||(!y3))||(decide (8 < (a0.2.2.2.length:Int)))) (some false) (Bn (fun s5:Int=>cond (decide (s5 < (a0.2.2.1.length:Int))) ((idx a0.2.2.1 s5).bind fun y7=>(Fm a0 y7.1).bind fun y8=>cond y8 (Option.map .inr (some false)) (some (.inl (IntKind.wrap .i64 (s5+1))))) (Option.map .inr (Bn (fun s12:Int=>cond (decide (s12 < (a0.2.2.2.length:Int))) ((idx a0.2.2.2 s12).bind fun a1=>(Mu a1).bind fun a2=>gb (!(!a2)) (Eh a0 a1.1) (fun a3=>cond ((!a2)||(!decide (a3=s12))) (Option.map .inr (some false)) (some (.inl (IntKind.wrap .i64 (s12+1)))))) (Option.map .inr (some true))) 0))) 0)))
theorem Hn (a0:AA) (h0:rd w [] a0) (r) (hp:Fo (dat a0)=some r):Sp 63 [.agg (cells a0).toArray] w [] (IsV (.bool r)):=by
 obtain ⟨a6,a7,a2,a3⟩:=a0;refine sa ?_;refine Ay func63 rfl ntmps63 rfl ?_;unfold Fo at hp;replace hp:=dd hp;refine s2 ?_;refine bx fun a8=>?_;refine s4 ?_;revert hp;refine bc fun y1 ap hp=>?_;replace hp:=Bz hp;obtain ⟨y2,aq,hp⟩:=hp;replace hp:=Bz hp;obtain ⟨y3,ar,hp⟩:=hp;refine BM [28] mix kr rfl (s2 ?_);refine AT Ai Xc.h (Ae (Ag rfl) (AC)) (by exact fun hg w F hF hM=>If w a6  _ ap) (s4 ?_);refine AT (Aj rfl rfl) Hs.h (Ae (Al rfl) (Ae Bp (Ae Bp (AC)))) (by exact fun hg w F hF hM=>Cu w a7 1 7  _ (aq (BP hg.2))) (s5 ?_);refine AT (Aj rfl rfl) Tw.h (Ae (Al rfl) (AC)) (by exact fun hg w F hF hM=>FE w a2 (AD (Ab h0.2.2.1) hF hM) _ (ar (BP hg.2))) (s5 ?_);refine EK (X:=a3) (Aj rfl rfl) (Al rfl) CM.h (s20 ?_);refine s6 ?_;revert hp;refine kC [1,28] (fun q4 hp=>?_) fun q4 hp=>?_
 ·refine s4 ?_;exact fB
 refine s10 ?_;refine BB (σ:=Int) dat (fun (a4:Int)=>[(32,.int .i64 a4)]) (fun (a4:Int)=>[]) [(1,_),(30,_),(31,_)] [blk a8 _ _] 0 hp sb ms ?_;clear hp;rintro a4 x5 hp ai;replace hp:=dd hp;refine kq [1,30,31,32] ?_;refine s5 ?_;revert hp;refine kC [1,30,31,32,33] (fun q6 hp=>?_) fun q6 hp=>?_
 ·refine s5 ?_;replace hp:=AE hp;obtain ⟨⟨⟨ak,am⟩,b4,b5,b6,⟨b7,b8,b9,bb,ax,ay,az,b0⟩,b1,b2,b3⟩,aj,hp⟩:=hp;refine BU (X:=a2) rfl rfl rfl DU.h (Ab h0.2.2.1) aj ?_;refine Ba rfl rfl (AN (Ab h0.2.2.1) (aj).2) (by exact DB.h) ?_;refine al fun bd=>?_;refine s5 ?_;refine Ba rfl rfl (AW (Ax mm) 0 2 rfl) (by exact Bo.h) ?_;revert hp;refine bc fun y8 au hp=>?_;refine BH rfl gB.h rfl (by exact fun w hw=>IJ w a8 (a6,a7,a2,a3) (ak,am) (Cl mm hw.sees) (Aq (Aa Ac (Aa Ac (Aa (Ab h0.2.2.1) (Ab h0.2.2.2)))) hw) (Aq dv hw) _ au) (s1 ?_);revert hp;refine kC [1,30,31,32,38] (fun q9 hp=>?_) fun q9 hp=>?_
  ·refine s4 ?_;replace hp:=mxA hp ai;exact fB
  refine s5 ?_;exact ⟨IntKind.wrap .i64 (a4+1),sb,(.sub ms),AU hp⟩
 refine BG ?_;replace hp:=mxA hp ai;refine s9 ?_;refine BB (σ:=Int) dat (fun (a1:Int)=>[(43,.int .i64 a1)]) (fun (a1:Int)=>[]) [(1,_),(41,_),(42,_)] [blk a8 _ _] 0 hp sb ms ?_;clear hp;rintro a1 be hp ab;replace hp:=dd hp;refine kq [1,41,42,43] ?_;refine s5 ?_;revert hp;refine kC [1,41,42,43,44] (fun av hp=>?_) fun av hp=>?_
 ·refine s6 ?_;replace hp:=AE hp;obtain ⟨⟨⟨a9,aa⟩,ac,ad,ae,af,ag,ah⟩,a5,hp⟩:=hp;refine BU (X:=a3) rfl rfl rfl CM.h (Ab h0.2.2.2) a5 ?_;refine Ba rfl rfl (AN (Ab h0.2.2.2) (a5).2) (by exact Gi.h) ?_;refine al fun bf=>?_;refine s4 ?_;revert hp;refine bc fun bg an hp=>?_;replace hp:=Bz hp;obtain ⟨bh,ao,hp⟩:=hp;refine BM [57] mix kr rfl (s1 ?_);refine AT Ai xI.h (Ae (Ag rfl) (AC)) (by exact fun hg w F hF hM=>Ym w ((a9,aa),ac,ad,ae,af,ag,ah) (AD (Aa dv (Aa Ac (Aa Ac (Aa Ac (Aa (Bf (Ad (Ad (Ad (Ad (BW (Ab h0.2.2.2) (a5).2)))))) (Aa (Bf (Ad (Ad (Ad (Ad (Ad (BW (Ab h0.2.2.2) (a5).2))))))) Co)))))) hF hM) _ an) (s3 ?_);refine Bw (Aj rfl rfl) (Al rfl) (fun hg=>AW (Ax mm) 0 2 rfl) (by exact Bo.h) ?_;refine AT (Aj rfl rfl) Uk.h (Ae (Ag rfl) (Ae (Al rfl) (AC))) (by exact fun hg w F hF hM=>FW w a8 (a6,a7,a2,a3) (a9,aa) (Cl (hM _ mm) hF.sees) (AD (Aa Ac (Aa Ac (Aa (Ab h0.2.2.1) (Ab h0.2.2.2)))) hF hM) (AD dv hF hM) _ (ao (BP hg.2))) (s15 ?_);revert hp;refine kC [1,41,42,43,57] (fun aw hp=>?_) fun aw hp=>?_
  ·refine s4 ?_;replace hp:=mxA hp ab;exact fB
  refine s5 ?_;exact ⟨IntKind.wrap .i64 (a1+1),sb,(.sub ms),AU hp⟩
 refine BG ?_;replace hp:=mxA hp ab;refine s4 ?_;exact fB
end
end Go.Proofs.SL
namespace Go.Proofs.SL
open Go
variable {Γ:Cx} {l:BR} {M M' M1 M2 F:List HP} {Q:CX} {K:CW} {w0 w:World} {S0:List Nat} {P:Program}
variable {rest:List Oper} {d:Nat} {ty:TypeId} {pos:String} {af:Array Edge}
theorem Spec.pre {f:FuncId} {args:Array Value} {R:Value→List HP→Prop} (hc:∀ w1 S,Holds w1 S M w→Holds w1 S M' w) (h:Spec P f args w M' R):Spec P f args w M R:=fun hw=>by
 have h2:Holds w (fps M) (M'++[]) w:=by simpa using hc _ _ hw
 exact (h (Holds.split h2)).mono fun e w'' ⟨v,M'',h3,h4,h5⟩=>⟨v,M'',h3,h4,by simpa using Holds.frame h2 h5⟩
section
variable {ops:Array Oper} {Msh pool pool':List HP} {E:Fl} {rs:List (Option Nat×Rel)} {cs0:List Nat} {KD:Gx}
end
variable {Γ:Cx} {l l':BR} {M M' M1 M2 F A:List HP} {Qp:CX} {K:CW} {w0 w:World} {S0:List Nat}
variable {ops:Array Oper} {fuel:Nat} {listed:Array Bool} {i d:Nat} {o:Oper}
theorem uT {P:Program} {a:Act} {next:Act→World→Prop} {Q1 Q2:Exit→Act→World→Prop} (h1:∀ e a w,e≠.normal→¬ Q1 e a w) (hd:∀ a w,next a w→a.defers=[])
  (h:o.wp P a w next Q1):o.wp P a w (fun a' w'=>(∃ u,a'=a.put o.dst u)∧next a' w') Q2:=by
 unfold Oper.wp at h ⊢;generalize (execOp a.eval o).run P w=r at h ⊢
 cases r with
 | ok n w' =>
  cases n<;>simp only [Oper.upon] at h ⊢
  case value u=>exact ⟨⟨u,rfl⟩,h⟩
  case skip=>exact ⟨⟨_,rfl⟩,h⟩
  case defer df =>
   have:=hd _ _ h
   cases hh:o.dst<;>simp [Act.put,hh] at this
  case enter f args =>
   refine Calls.mono h fun e w'' he=>?_
   cases e with
   | returned u=>exact ⟨⟨u,rfl⟩,he⟩
   | panicked c=>exact (h1 _ _ _ (by simp) he).elim
   | outgrown =>
    obtain ⟨a,w,hq⟩:=he;exact (h1 _ _ _ (by simp) hq).elim
  case row row args=>exact Rows.mono h fun u w'' he=>⟨⟨u,rfl⟩,he⟩
 | halt x w' =>
  cases x<;>simp only [Oper.upon] at h ⊢
  case panic v=>exact (h1 _ _ _ (by simp) h).elim
theorem Nj (h:L Γ [o] l M K) (hg:o.guard=none) {a:Act} (ha:Env a Γ.n l) (hw:Holds Γ.w0 Γ.S0 M w) {Q2:Exit→Act→World→Prop} :
  o.wp Γ.P a w (fun a' w'=>(∃ u,a'=a.put o.dst u)∧∃ l' M',Env a' Γ.n l'∧Holds Γ.w0 Γ.S0 M' w'∧K l' M') Q2:=by
 have h1:=h #[] a w (fun e a' w'=>e=.normal∧∃ l' M',Env a' Γ.n l'∧Holds Γ.w0 Γ.S0 M' w'∧K l' M') ha hw (fun a' w' l' M' q1 q2 q3=>⟨rfl,l',M',q1,q2,q3⟩);unfold wpList at h1;simp only [Region.wanted,hg,if_true] at h1;rcases h1 with h1 | ⟨_,a,w,h1⟩
 ·refine Oper.wp_mono (fun a' w' h2=>⟨h2.1,h2.2.2⟩) (uT (fun e a w he hq=>he hq.1) (fun a w hq=>?_) h1);obtain ⟨_,l',M',h3,_⟩:=hq;exact h3.defers
 ·cases h1.1
def AllIn:List HP→List HP→Prop
 | [],_=>True
 | h::hs,M=>h∈M∧AllIn hs M
theorem AllIn.mem:∀ {A M:List HP},AllIn A M→∀ x,x∈A→x∈M
 | _::_,_,h,x,hx=>by
  rcases aAf.1 hx with rfl | hx
  ·exact h.1
  ·exact AllIn.mem h.2 x hx
theorem AllIn.of_mem:∀ {A M:List HP},(∀ x,x∈A→x∈M)→AllIn A M
 | [],_,_=>trivial
 | _::_,_,h=>⟨h _ (aA9 ..),AllIn.of_mem fun x hx=>h x (aA4 _ hx)⟩
structure Pu (Γ:Cx) (A:List HP) (l:BR) (o:Oper) (d:Nat) (v:Value):Prop where
 dst:o.dst=some d
 lt:d < Γ.n
 gd:o.guard=none
 pu:∀ a w,Env a Γ.n l→Sees Γ.w0 Γ.S0 A w→(execOp a.eval o).run Γ.P w=.ok (.value v) w
def AH (Γ:Cx) (ops:Array Oper) (A:List HP) (Qp:CX) (fuel:Nat) (listed:Array Bool) (l:BR) (M:List HP):Prop :=
 ∀ a w,Env a Γ.n l→Holds Γ.w0 Γ.S0 M w→wpAnyH Γ.P .any ops (Ng Γ Qp) (Sees Γ.w0 Γ.S0 A) fuel listed a w
theorem nL (A:List HP) {id:Nat} (hm:Γ.P.follows .mixedOrders=true) (h:AH Γ ops A Qp ops.size (Array.replicate ops.size false) l M):W Γ (.region id ops true) l M Qp:=fun a w ha hw =>
 wp_region_held hm (h a w.drew ha hw.drew)
theorem HE (hr:Region.ready .any ops listed=[]) (h:Qp .normal l M):AH Γ ops A Qp fuel listed l M:=fun _ _ ha hw=>wpAnyH_done hr ⟨l,M,ha,hw,h⟩ fuel
theorem Fd {v:Value} (i:Nat) (hi:ops[i]?=some o) (hp:Pu Γ A l o d v) (hs:Region.noSelect ops=true) (hf:Region.free .any ops listed i=true) (hr:(Region.ready .any ops listed).contains i=true)
  (hA:AllIn A M) (hk:AH Γ ops A Qp fuel (listed.setIfInBounds i true) ((d,v)::l) M):AH Γ ops A Qp (fuel+1) listed l M:=fun a w ha hw =>
 wpAnyH_take hi hs hf hr (fun _ _ _ h=>h) (.inl ⟨by simp [Region.wanted,hp.gd],fun w hw=>hp.pu a w ha hw⟩) (hw.seesSub hA.mem) (hk _ w (by rw [hp.dst];exact ha.put hp.lt) hw)
theorem Mw {α:Type} {xs:Array α} {i:Nat} {o:α} {rest:List α} (h:xs.toList.drop i=o::rest):xs[i]?=some o:=by
 rw [← Array.getElem?_toList];have:=aC5 (fun l=>l[0]?) h;simpa [aC2] using this
theorem DA (i:Nat) {rest':List Oper} (hi:ops.toList.drop i=o::rest') (hg:o.guard=none) (hr:Region.ready .any ops listed=[i])
  (h:L Γ [o] l M (fun l' M'=>AllIn A M'∧AH Γ ops A Qp fuel (listed.setIfInBounds i true) l' M')):AH Γ ops A Qp (fuel+1) listed l M:=fun a w ha hw =>
 wpAnyH_all hr (by simp) fun j hj=>by
  rw [aAl.1 hj];unfold wpOp;rw [Mw hi];simp only [Region.wanted,hg,if_true];refine .inl (Oper.wp_mono (fun a' w' h1=>?_) (Nj h hg ha hw));obtain ⟨_,l',M',h1,h2,h3,h4⟩:=h1;exact ⟨h2.seesSub h3.mem,h4 a' w' h1 h2⟩
def emH:HP:=⟨[],fun _=>True,fun _ _ _ h=>h⟩
theorem Holds.em (h:Holds w0 S0 M w):Holds w0 S0 (emH::M) w:=h.reFp (aBa (by rw [BZ];rfl)) fun x hx=>by
 rcases aAf.1 hx with rfl | hx
 ·trivial
 ·exact h.prs x hx
def AP (Γ:Cx) (ops:Array Oper) (A:List HP) (Qp:CX) (al da:Nat) (z:List Value) (T:TypeId) (fuel:Nat) (listed:Array Bool) (l:BR) (M:List HP):Prop :=
 AH Γ ops A Qp (fuel+1) listed l M∧∀ b,AH Γ ops A Qp fuel (listed.setIfInBounds al true) ((da,.pointer (some ⟨b,0,none⟩))::l) (blk b z T::M)
theorem Ul {da:Nat} {v:Value} (h:l.lookup da=none):Sub l ((da,v)::l):=fun t u ht=>by
 rw [aBh]
 cases hb:t == da with
 | true =>
  have:t=da:=by simpa using hb
  subst this;rw [h] at ht;cases ht
 | false=>exact ht
variable {al da:Nat} {z:List Value} {T:TypeId}
theorem Vc (A:List HP) (al da:Nat) (z:List Value) (T:TypeId) (n:Nat) {id:Nat} (hm:Γ.P.follows .mixedOrders=true) (hn:ops.size=n+1) (h:AP Γ ops A Qp al da z T n (Array.replicate (n+1) false) l M):W Γ (.region id ops true) l M Qp :=
 nL A hm (by rw [hn];exact h.1)
theorem BK {v:Value} (i:Nat) (hi:ops[i]?=some o) (hp:Pu Γ A l o d v) (hs:Region.noSelect ops=true) (hf:Region.free .any ops listed i=true) (hr:(Region.ready .any ops listed).contains i=true)
  (hf2:Region.free .any ops (listed.setIfInBounds al true) i=true) (hr2:(Region.ready .any ops (listed.setIfInBounds al true)).contains i=true) (hda:l.lookup da=none) (hne:Nat.beq d da=false) (hia:Nat.beq i al=false)
  (hA:AllIn A M) (hk:AP Γ ops A Qp al da z T fuel (listed.setIfInBounds i true) ((d,v)::l) M):AP Γ ops A Qp al da z T (fuel+1) listed l M:=by
 have hne':d≠da:=fun e=>by subst e;rw [aD7] at hne;cases hne
 have hia':i≠al:=fun e=>by subst e;rw [aD7] at hia;cases hia
 refine ⟨Fd i hi hp hs hf hr hA hk.1,fun b=>?_⟩;refine Fd i hi (v:=v) (d:=d) ⟨hp.dst,hp.lt,hp.gd,fun a w ha hw=>hp.pu a w (ha.sub (Ul hda)) hw⟩ hs hf2 hr2 (AllIn.of_mem fun x hx=>aA4 _ (hA.mem x hx)) ?_;rw [aCn _ _ (Ne.symm hia')];intro a w ha hw;refine hk.2 b a w (ha.sub fun t u ht=>?_) hw;simp only [aBh] at ht ⊢
 cases h1:t == da with
 | true =>
  have:t=da:=by simpa using h1
  subst this;rw [h1] at ht
  cases h2:t == d with
  | true=>exact (hne' (by simpa using h2:t=d).symm).elim
  | false=>exact ht
 | false=>rw [h1] at ht;exact ht
theorem Jh (i:Nat) {rest':List Oper} (hi0:ops.toList.drop i=o::rest') (hg:o.guard=none) (hr1:Region.ready .any ops listed=[i,al]∨Region.ready .any ops listed=[al,i]) (hr2:Region.ready .any ops (listed.setIfInBounds al true)=[i])
  (hia:Nat.beq i al=false) (hdst:(o.dst == some da)=false) (hda:l.lookup da=none) {oal:Oper} (hoa:ops[al]?=some oal) (hga:oal.guard=none)
  (hal:∀ l M,L Γ [oal] l M (fun l' M'=>∃ b,l'=(da,.pointer (some ⟨b,0,none⟩))::l∧M'=blk b z T::M)) (hA:AllIn A M)
  (h:∀ X,L Γ [o] l (X::M) (fun l' M'=>∃ M1,Pick X M' M1∧AllIn A M1∧l'.lookup da=none∧AP Γ ops A Qp al da z T fuel (listed.setIfInBounds i true) l' M1)) :
  AP Γ ops A Qp al da z T (fuel+1) listed l M:=by
 have hi:=Mw hi0;have hia':i≠al:=fun e=>by subst e;rw [aD7] at hia;cases hia
 have two:∀ b,AH Γ ops A Qp (fuel+1) (listed.setIfInBounds al true) ((da,.pointer (some ⟨b,0,none⟩))::l) (blk b z T::M):=fun b a w ha hw =>
  wpAnyH_all hr2 (by simp) fun j hj=>by
   rw [aAl.1 hj];unfold wpOp;rw [hi];simp only [Region.wanted,hg,if_true];refine .inl (Oper.wp_mono (fun a' w' h1=>?_) (Nj (h (blk b z T)) hg (ha.sub (Ul hda)) hw));obtain ⟨⟨u,rfl⟩,l',M',h1,h2,M1,h3,h4,h5,h6⟩:=h1;have h7:=h2.perm h3.perm;refine ⟨h7.seesSub fun x hx=>aA4 _ (h4.mem x hx),?_⟩;rw [aCn _ _ (Ne.symm hia')];refine h6.2 b _ w' ⟨h1.size,h1.defers,fun t v ht=>?_⟩ h7;rw [aBh] at ht
   cases hb:t == da with
   | true =>
    have:t=da:=by simpa using hb
    subst this;rw [hb] at ht;cases ht;have h8:=ha.get t (.pointer (some ⟨b,0,none⟩)) (by simp [aBh])
    cases hd:o.dst with
    | none=>exact h8
    | some d =>
     have hne:d≠t:=fun e=>by subst e;rw [hd] at hdst;simp at hdst
     simp only [Act.put];rw [aDe hne];exact h8
   | false=>rw [hb] at ht;exact h1.get t v ht
 have one:∀ a w,Env a Γ.n l→Holds Γ.w0 Γ.S0 M w→∀ j,j=i∨j=al→wpOp Γ.P ops (Ng Γ Qp) j (fun a' w'=>Sees Γ.w0 Γ.S0 A w'∧wpAnyH Γ.P .any ops (Ng Γ Qp) (Sees Γ.w0 Γ.S0 A) (fuel+1) (listed.setIfInBounds j true) a' w') a w:=fun a w ha hw j hj=>by
  rcases hj with rfl | rfl
  ·unfold wpOp;rw [hi];simp only [Region.wanted,hg,if_true];refine .inl (Oper.wp_mono (fun a' w' h1=>?_) (Nj (h emH) hg ha hw.em));obtain ⟨_,l',M',h1,h2,M1,h3,h4,h5,h6⟩:=h1;have h7:=(h2.perm h3.perm).sub (M':=M1) ⟨[emH],aB9 (l₁:=[emH])⟩;exact ⟨h7.seesSub h4.mem,h6.1 a' w' h1 h7⟩
  ·unfold wpOp;rw [hoa];simp only [Region.wanted,hga,if_true];refine .inl (Oper.wp_mono (fun a' w' h1=>?_) (Nj (hal l M) hga ha hw));obtain ⟨_,l',M',h1,h2,b,rfl,rfl⟩:=h1;exact ⟨h2.seesSub fun x hx=>aA4 _ (hA.mem x hx),two b a' w' h1 h2⟩
 refine ⟨fun a w ha hw=>?_,two⟩;rcases hr1 with hr | hr
 ·exact wpAnyH_all hr (by simp) fun j hj=>one a w ha hw j (by simpa using hj)
 ·exact wpAnyH_all hr (by simp) fun j hj=>one a w ha hw j ((by simpa using hj:j=al∨j=i).symm)
theorem LJ (hr:Region.ready .any ops listed=[al]) {oal:Oper} {rest':List Oper} (hoa:ops.toList.drop al=oal::rest') (hga:oal.guard=none)
  (hal:∀ l M,L Γ [oal] l M (fun l' M'=>∃ b,l'=(da,.pointer (some ⟨b,0,none⟩))::l∧M'=blk b z T::M)) (hA:AllIn A M)
  (h:∀ b,AH Γ ops A Qp fuel (listed.setIfInBounds al true) ((da,.pointer (some ⟨b,0,none⟩))::l) (blk b z T::M)):AP Γ ops A Qp al da z T fuel listed l M :=
 ⟨DA al hoa hga hr fun ops' a w Q ha hw hq=>hal l M ops' a w Q ha hw fun a' w' l' M' h1 h2 ⟨b,h3,h4⟩=>hq a' w' l' M' h1 h2 (by
  subst h3;subst h4;exact ⟨AllIn.of_mem fun x hx=>aA4 _ (hA.mem x hx),h b⟩),h⟩
section
variable {ty:TypeId} {pos:String} {af:Array Edge} {P:Program}
theorem Ka {op:Op} {v:Value} (hn:Nat.blt d Γ.n=true) (he:∀ a w,Env a Γ.n l→Sees Γ.w0 Γ.S0 A w→(execOp a.eval ⟨some d,op,ty,pos,af,none⟩).run Γ.P w=.ok (.value v) w) :
  Pu Γ A l ⟨some d,op,ty,pos,af,none⟩ d v:=⟨rfl,aAc hn,rfl,he⟩
theorem FX {x:Operand} {v:Value} (hn:Nat.blt d Γ.n=true) (hx:ev l x=some v):Pu Γ A l ⟨some d,.move x,ty,pos,af,none⟩ d v :=
 Ka hn fun a w ha _=>by simp [execOp,ha.eval hx]
theorem Cy {x:Operand} {i:Nat} {vs:Array Value} {v:Value} (hn:Nat.blt d Γ.n=true) (hx:ev l x=some (.tuple vs)) (hv:vs[i]?=some v) :
  Pu Γ A l ⟨some d,.extract x i,ty,pos,af,none⟩ d v :=
 Ka hn fun a w ha _=>by simp [execOp,ha.eval hx,Instr.extract,hv]
theorem Cp {x:Operand} {T f fo g o:Nat} (hn:Nat.blt d Γ.n=true) (hx:ev l x=some (.pointer (some ⟨g,o,none⟩))) (ht:PU Γ.P T f=some fo) :
  Pu Γ A l ⟨some d,.fieldAddr T x f,ty,pos,af,none⟩ d (.pointer (some ⟨g,o+fo,none⟩)) :=
 Ka hn fun a w ha hw=>by
  unfold PU at ht;split at ht<;>(try cases ht);rename_i fs hfs;split at ht<;>(try cases ht);rename_i x' hx';split at ht<;>(try cases ht);rename_i i hi;split at ht<;>cases ht;rename_i hsz;simp [execOp,ha.eval hx,Instr.fieldAt,underlying,hfs,hx',Instr.sureAddr,fieldPlace,sizeOf,typeInfo,hi,hsz,DP]
theorem FY {x:Operand} {T g off fo:Nat} {cs:List Value} {v:Value} (hn:Nat.blt d Γ.n=true) (hx:ev l x=some (.pointer (some ⟨g,off+fo,none⟩))) (hc:RdC Γ A g off cs) (ht:Ie Γ.P T=true)
  (hv:cs[fo]?=some v):Pu Γ A l ⟨some d,.load T x,ty,pos,af,none⟩ d v :=
 Ka hn fun a' w ha hw=>by simp [execOp,ha.eval hx,Instr.loadAt,Instr.sureAddr,loadVar,Fx ht,hc w hw fo v hv]
theorem Zy {x:Operand} {T g off:Nat} {cs:List Value} {v:Value} (hn:Nat.blt d Γ.n=true) (hx:ev l x=some (.pointer (some ⟨g,off,none⟩))) (hc:RdC Γ A g off cs) (ht:Ie Γ.P T=true)
  (hv:cs[0]?=some v):Pu Γ A l ⟨some d,.load T x,ty,pos,af,none⟩ d v :=
 Ka hn fun a' w ha hw=>by
  have:=hc w hw 0 v hv;simp only [aEp] at this;simp [execOp,ha.eval hx,Instr.loadAt,Instr.sureAddr,loadVar,Fx ht,this]
theorem Di {x:Operand} {T g off:Nat} {cs:List Value} (hn:Nat.blt d Γ.n=true) (hx:ev l x=some (.pointer (some ⟨g,off,none⟩))) (hc:RdC Γ A g off cs) (ht:Jp Γ.P T=some cs.length) :
  Pu Γ A l ⟨some d,.load T x,ty,pos,af,none⟩ d (.agg cs.toArray) :=
 Ka hn fun a' w ha hw=>by
  have hl:=Gk (P:=Γ.P) (hc w hw);simp [execOp,ha.eval hx,Instr.loadAt,Instr.sureAddr,loadVar,Ey ht,hl]
theorem My {τ δ:Type} [GT τ δ] {x y:Operand} {T e sz by_:Nat} {z:List Value} {k:IntKind} {i:Int} {X:TL τ} {u:τ} (hn:Nat.blt d Γ.n=true) (hx:ev l x=some X.hdr) (hy:ev l y=some (.int k i))
  (ht:elOf Γ.P T=some (e,sz,by_,z)) (hr:RdT Γ A X) (hi:0≤i∧X.els[i.toNat]?=some u) :
  Pu Γ A l ⟨some d,.indexAddr T x y,ty,pos,af,none⟩ d (.pointer (some ⟨X.g,X.o+i.toNat*sz,none⟩)) :=
 Ka hn fun a' w ha hw=>by
  have h1:=ha.eval hx;rw [WW (hr w hw) hi.2] at h1;simp [execOp,h1,ha.eval hy,Ko ht X.g X.o X.els.length X.cap k i i.toNat om (aA2.1 hi.2).1 w]
section
variable {τ δ:Type} [GT τ δ]
theorem uU {X:TL τ} {a b:Int} {r:List δ} (hr:Gf (GT.dat X) a b=some r):∃ X':TL τ,X'=slc X a.toNat b.toNat∧GT.dat X'=r:=by
 obtain ⟨s0,s1,s2,s3⟩:=Nu hr;exact ⟨_,rfl,by rw [s3,BQ,BQ];simp [slc,aEh,aEi]⟩
end
end
theorem Zz {P:Program} {Q:Exit→Act→World→Prop} {S S':World→Prop} (hs:∀ w,S' w→S w):∀ (fuel:Nat) (listed:Array Bool) (a:Act) (w:World),wpAnyH P .any ops Q S' fuel listed a w→wpAnyH P .any ops Q S fuel listed a w
 | 0,_,_,_,h=>h
 | fuel+1,_,_,_,h=>⟨h.1,fun i hi=>wpOp_mono (fun a' w' h'=>⟨hs _ h'.1,Zz hs fuel _ a' w' h'.2⟩) (h.2 i hi)⟩
theorem Xd (A':List HP) (hs:AllIn A A') (h:AH Γ ops A' Qp fuel listed l M):AH Γ ops A Qp fuel listed l M:=fun a w ha hw =>
 Zz (fun w h=>⟨h.old,fun x hx=>h.prs x (hs.mem x hx)⟩) _ _ _ _ (h a w ha hw)
theorem LK (A':List HP) (hs:AllIn A A') (h:AP Γ ops A' Qp al da z T fuel listed l M):AP Γ ops A Qp al da z T fuel listed l M:=⟨Xd A' hs h.1,fun b=>Xd A' hs (h.2 b)⟩
variable {Γ:Cx} {l:BR} {M M' M1 M2 F Mr:List HP} {Q:CX} {K:CW} {w0 w:World} {S0 S:List Nat} {P:Program}
variable {rest:List Oper} {d:Nat} {ty:TypeId} {pos:String} {af:Array Edge}
structure EL (τ:Type) where
 els:List τ
instance {τ δ:Type} [GT τ δ]:GT (EL τ) Unit where
 sz:=1
 pos:=by decide
 cells _:=[.bool false]
 len _:=rfl
 one _ v hv:=by simp at hv;subst hv;rfl
 rd w S t:=∀ x,x∈t.els→GT.rd w S x
 fp _:=[]
 ow _ _:=False
 dat _:=()
 rd_mono h hm:=fun x hx=>GT.rd_mono (h x hx) hm
 ow_st _ h:=h
 ow_rd h _:=h.elim
def frz {α τ δ ε:Type} [GT α δ] [GT τ ε] (B:List Nat) (a:α) (x:τ):HP where
 fp:=B
 pr w:=∀ (w':World) (S:List Nat),(∀ k,k∈B→w'.heap[k]?=w.heap[k]?)→(∀ k,k∈B→k ∉ S)→GT.rd w' S a→GT.rd w' S x
 st w w' h hp:=fun w2 S h2 hs ha=>hp w2 S (fun k hk=>(h2 k hk).trans (h k hk)) hs ha
section
variable {τ δ:Type} [GT τ δ] {t:τ}
theorem ZA {X:TL τ} (hr:(Be X).pr w) (he:∀ x,x∈X.els→GT.rd w S x) (hs:∀ k,k∈(Be X).fp→k ∉ S):GT.rd w S X :=
 ⟨hr.1,hr.2.1,he,fun ha=>(hr.2.2.1 ha).1,fun a ha=>by
  obtain ⟨h1,h2,h3,h4⟩:=hr.2.2.2 a ha;refine ⟨fun _=>h1,fun j v hv=>⟨?_,hs a.block (by simp [Be,ha])⟩⟩;rw [cell_of_row _ _ _ _ _ _ h3,h2,aBk];simp only [aBm];rw [aAp (aA2.1 hv).1];exact hv⟩
theorem YL (hw:Holds w0 S0 (M1++M2) w) {h:HP} (hm:h∈M2):∀ k,k∈h.fp→k ∉ fps M1:=fun k hk hk1=>by
 have hnd:=hw.nodup;rw [FN] at hnd;exact (aBo.1 hnd).2.2 k hk1 k (aBq.2 ⟨_,hm,hk⟩) rfl
theorem RdT.frz {α ε:Type} [GT α ε] {B:List Nat} {a:α} (h:frz B a t∈M) (ha:RdT Γ M a):RdT Γ M t:=fun w hw=>hw.prs _ h w [] (fun _ _=>rfl) (fun _ _ h=>by cases h) (ha w hw)
abbrev CD:=@RdT.frz
theorem Cb {X:TL τ} (h:Be X∈M) (he:RdT Γ M (EL.mk X.els)):RdT Γ M X:=fun w hw=>ZA (hw.prs _ h) (he w hw) (fun _ _ h=>by cases h)
theorem RdT.els {xs:List τ} (h:Ce xs∈M):RdT Γ M (EL.mk xs):=fun w hw x hx=>GT.ow_rd (hw.prs _ h x hx) fun _ _ h=>by cases h
abbrev Fe:=@RdT.els
theorem IK {X:TL τ} {j:Nat} {x:τ} (h:RdT Γ M (EL.mk X.els)) (hi:X.els[j]?=some x):RdT Γ M x:=fun w hw=>h w hw x (aAj hi)
theorem RdX.frz {α ε:Type} [GT α ε] {B:List Nat} {a:α} (h:SL.frz B a t∈M2) (ha:RdX Γ M1 M2 a):RdX Γ M1 M2 t:=fun w hw=>hw.prs _ (aAx _ h) w _ (fun _ _=>rfl) (YL hw h) (ha w hw)
abbrev GM:=@RdX.frz
theorem nM {X:TL τ} (h:Be X∈M2) (he:RdX Γ M1 M2 (EL.mk X.els)):RdX Γ M1 M2 X:=fun w hw=>ZA (hw.prs _ (aAx _ h)) (he w hw) (YL hw h)
theorem RdX.els {xs:List τ} (h:Ce xs∈M2):RdX Γ M1 M2 (EL.mk xs):=fun w hw x hx=>GT.ow_rd (hw.prs _ (aAx _ h) x hx) fun k hk=>YL hw h k (aBq.2 ⟨x,hx,hk⟩)
abbrev OP:=@RdX.els
theorem Sh {X:TL τ} {j:Nat} {x:τ} (h:RdX Γ M1 M2 (EL.mk X.els)) (hi:X.els[j]?=some x):RdX Γ M1 M2 x:=fun w hw=>h w hw x (aAj hi)
theorem VR (w:World) (S:List Nat):GT.rd w S (EL.mk ([]:List τ)):=fun x hx=>by cases hx
theorem VS {xs ys:List τ} (w:World) (S:List Nat) (h1:GT.rd w S (EL.mk xs)) (h2:GT.rd w S (EL.mk ys)):GT.rd w S (EL.mk (xs++ys)):=fun y hy=>by
 rcases aB0.1 hy with h | h
 ·exact h1 y h
 ·exact h2 y h
end
structure PC (Mr:List HP) (w:World) (S:List Nat):Prop where
 prs:∀ h,h∈Mr→h.pr w
 ds:∀ k,k∈fps Mr→k ∉ S
theorem PC.fp (h:PC Mr w S) {x:HP} (hm:x∈Mr):∀ k,k∈x.fp→k ∉ S:=fun k hk=>h.ds k (aBq.2 ⟨x,hm,hk⟩)
def RdP {τ δ:Type} [GT τ δ] (Mr:List HP) (w:World) (S:List Nat) (t:τ):Prop:=PC Mr w S→GT.rd w S t
section
variable {τ δ:Type} [GT τ δ] {t:τ}
theorem RdP.old (h:GT.rd w S t):RdP Mr w S t:=fun _=>h
abbrev Bb:=@RdP.old
theorem Vd (h:Af t∈Mr):RdP Mr w S t:=fun hp=>GT.ow_rd (hp.prs _ h) (hp.fp h)
theorem GO {α β δ ε:Type} [GT α δ] [GT β ε] {t:α×β} (h:RdP Mr w S t):RdP Mr w S t.1:=fun hp=>(h hp).1
theorem Cd {α β δ ε:Type} [GT α δ] [GT β ε] {t:α×β} (h:RdP Mr w S t):RdP Mr w S t.2:=fun hp=>(h hp).2
theorem RdP.of {X:TL τ} {j:Nat} {x:τ} (h:RdP Mr w S X) (hi:X.els[j]?=some x):RdP Mr w S x:=fun hp=>(h hp).2.2.1 x (aAj hi)
theorem Au {α β δ ε:Type} [GT α δ] [GT β ε] {a:α} {b:β} (h1:RdP Mr w S a) (h2:RdP Mr w S b):RdP Mr w S (a,b):=fun hp=>⟨h1 hp,h2 hp⟩
theorem RdP.int {n:Int}:RdP Mr w S n:=fun _=>trivial
abbrev BA:=@RdP.int
theorem RdP.bool {n:Bool}:RdP Mr w S n:=fun _=>trivial
abbrev IL:=@RdP.bool
theorem RdP.str {n:ByteArray}:RdP Mr w S n:=fun _=>trivial
theorem RdP.u8 {n:UInt8}:RdP Mr w S n:=fun _=>trivial
theorem RdP.nil (e:TypeId):RdP Mr w S (TL.nil τ e):=fun _=>Zt e
theorem RdP.map {α δ':Type} [GT α δ'] {a:α} (f:∀ w S,GT.rd w S a→GT.rd w S t) (h:RdP Mr w S a):RdP Mr w S t:=fun hp=>f w _ (h hp)
theorem IM {α β δ' ε:Type} [GT α δ'] [GT β ε] {a:α} {b:β} (f:∀ w S,GT.rd w S a→GT.rd w S b→GT.rd w S t) (h:RdP Mr w S a) (h2:RdP Mr w S b):RdP Mr w S t:=fun hp=>f w _ (h hp) (h2 hp)
theorem RdP.frz {α ε:Type} [GT α ε] {B:List Nat} {a:α} (h:SL.frz B a t∈Mr) (ha:RdP Mr w S a):RdP Mr w S t:=fun hp=>hp.prs _ h w S (fun _ _=>rfl) (hp.fp h) (ha hp)
abbrev CF:=@RdP.frz
theorem IN {X:TL τ} (h:Be X∈Mr) (he:RdP Mr w S (EL.mk X.els)):RdP Mr w S X:=fun hp=>ZA (hp.prs _ h) (he hp) (hp.fp h)
theorem RdP.els {xs:List τ} (h:Ce xs∈Mr):RdP Mr w S (EL.mk xs):=fun hp x hx=>GT.ow_rd (hp.prs _ h x hx) fun k hk=>hp.fp h k (aBq.2 ⟨x,hx,hk⟩)
theorem ZB {X:TL τ} {j:Nat} {x:τ} (h:RdP Mr w S (EL.mk X.els)) (hi:X.els[j]?=some x):RdP Mr w S x:=fun hp=>h hp x (aAj hi)
theorem kF:RdT Γ M (EL.mk ([]:List τ)):=fun _ _=>VR _ _
theorem kG:RdX Γ M1 M2 (EL.mk ([]:List τ)):=fun _ _=>VR _ _
theorem kH:RdP Mr w S (EL.mk ([]:List τ)):=fun _=>VR _ _
end
theorem DR {α τ δ ε:Type} [GT α δ] [GT τ ε] {a:α} {x:τ} (Mr:List HP) (hp:List.Perm M (Mr++M2)) (he:∀ w S,GT.rd w S a→RdP Mr w S x) (h:Holds w0 S0 M w):Holds w0 S0 (frz (fps Mr) a x::M2) w:=by
 have h1:=h.perm hp;refine h1.reFp (aBa ?_) fun y hy=>?_
 ·rw [FN,BZ];rfl
 ·rcases aAf.1 hy with rfl | hy
  ·intro w' S hag hds ha;exact he w' S ha ⟨fun z hz=>z.st w w' (fun k hk=>hag k (aBq.2 ⟨z,hz,hk⟩)) (h1.prs z (aB2 _ hz)),hds⟩
  ·exact h1.prs y (aAx _ hy)
section
variable {τ δ:Type} [GT τ δ] [FlatT τ]
theorem Rh (x:τ) (w:World) (S:List Nat):GT.rd w S x:=GT.ow_rd ((FlatT.flat x).ow w) fun k hk=>by rw [(FlatT.flat x).fp] at hk;cases hk
def slB (Y:TL τ):List Nat:=match Y.a with | none=>[] | some a=>[a.block]
theorem Ve {Y:TL τ} {w w':World} {S S':List Nat} (h:GT.rd w S Y) (hb:∀ k,k∈slB Y→w'.heap[k]?=w.heap[k]?) (hs:∀ k,k∈slB Y→k ∉ S'):GT.rd w' S' Y :=
 ⟨h.1,h.2.1,fun x _=>Rh x _ _,h.2.2.2.1,fun a ha=>⟨(h.2.2.2.2 a ha).1,fun j v hv=>by
  have h1:=(h.2.2.2.2 a ha).2 j v hv;have h2:a.block∈slB Y:=by unfold slB;rw [ha];simp
  exact ⟨by rw [World.cell?_of_block (w:=w) (a:=⟨a.block,a.off+j,none⟩) (hb _ h2)];exact h1.1,hs _ h2⟩⟩⟩
end
section
variable {τ δ:Type} [GT τ δ]
def vwP (w:World) (Y:TL τ):Prop:=(Y.a=none→Y.cap=0)∧∀ a,Y.a=some a→a.spot=none∧∃ cur e2,w.heap[a.block]?=some (.cells cur e2 (0,0))∧a.off+Y.cap*GT.sz τ≤cur.size
theorem xJ {Y:TL τ} {w w':World} (hb:∀ k,k∈slB Y→w'.heap[k]?=w.heap[k]?) (h:vwP w Y):vwP w' Y :=
 ⟨h.1,fun a ha=>by
  obtain ⟨h1,cur,e2,h2,h3⟩:=h.2 a ha;exact ⟨h1,cur,e2,by rw [hb a.block (by unfold slB;rw [ha];simp)];exact h2,h3⟩⟩
theorem rX {X:TL τ} {w:World} (h:GT.ow w X):vwP w X :=
 ⟨fun ha=>(h.2.2.2.1 ha).2,fun a ha=>by
  obtain ⟨h1,h2,h3,h4⟩:=h.2.2.2.2 a ha;exact ⟨h1,_,_,h3,by rw [h2];simp [BV];omega⟩⟩
end
section
variable {τ δ:Type} [GT τ δ] [FlatT τ]
def flH (Y:TL τ):HP:=⟨slB Y,fun w=>GT.rd w [] Y∧vwP w Y,fun _ _ hb h=>⟨Ve h.1 hb fun _ _ h=>(by cases h),xJ hb h.2⟩⟩
theorem ZC {Y:TL τ} (h:flH Y∈M):RdT Γ M Y:=fun _ hw=>(hw.prs _ h).1
theorem Aby {Y:TL τ} (h:flH Y∈M2):RdX Γ M1 M2 Y:=fun _ hw=>Ve (hw.prs (flH Y) (aAx _ h)).1 (fun _ _=>rfl) (YL hw h)
theorem Abz {Y:TL τ} (h:flH Y∈Mr):RdP Mr w S Y:=fun hp=>Ve (hp.prs (flH Y) h).1 (fun _ _=>rfl) (hp.fp h)
theorem kI (xs:List τ):xs.flatMap GT.fp=[]:=aDy.2 fun x _=>(FlatT.flat x).fp
end
section
variable {τ δ:Type} [GT τ δ]
theorem rY (X:TL τ) (lo hi:Nat):slB (slc X lo hi)=slB X:=by
 unfold slB slc;dsimp only
 cases ha:X.a with
 | none=>simp
 | some a =>
  split
  ·rename_i h;split at h<;>simp at h
  ·rename_i b h;split at h
   ·cases h;rfl
   ·simp only [aE3,Option.some.injEq] at h;subst h;unfold Addr.add;split<;>rfl
end
section
variable {τ δ:Type} [GT τ δ]
theorem uV {X Y:TL τ} {w:World} {a b:Int} {r:List δ} (he:Y=slc X a.toNat b.toNat) (hs:Gf (GT.dat X) a b=some r) (hr:GT.rd w [] X) (h:vwP w X):vwP w Y:=by
 obtain ⟨s0,s1,s2,-⟩:=Nu hs;rw [BQ,aB1] at s2;have hc:a.toNat≤X.cap:=by have:=hr.1;omega
 subst he;constructor
 ·intro ha;have ha':(if X.cap=a.toNat then X.a else X.a.map (·.add (a.toNat*GT.sz τ)))=none:=ha;have:X.a=none:=by split at ha'<;>simpa using ha'
  show X.cap - a.toNat=0;rw [h.1 this];omega
 ·intro ad ha;have ha':(if X.cap=a.toNat then X.a else X.a.map (·.add (a.toNat*GT.sz τ)))=some ad:=ha;show ad.spot=none∧∃ cur e2,w.heap[ad.block]?=some (.cells cur e2 (0,0))∧ad.off+(X.cap - a.toNat)*GT.sz τ≤cur.size;by_cases hcl:X.cap=a.toNat
  ·rw [if_pos hcl] at ha';obtain ⟨h1,cur,e2,h2,h3⟩:=h.2 ad ha';exact ⟨h1,cur,e2,h2,by rw [hcl,aEu,aEn];omega⟩
  ·rw [if_neg hcl] at ha';obtain ⟨x,hx,rfl⟩:=aD9.1 ha';obtain ⟨h1,cur,e2,h2,h3⟩:=h.2 x hx;obtain ⟨g,o,sp⟩:=x;dsimp only at h1 h2 h3;subst h1;rw [DP];refine ⟨rfl,cur,e2,h2,?_⟩;dsimp only;have:(X.cap - a.toNat)*GT.sz τ+a.toNat*GT.sz τ=X.cap*GT.sz τ:=by rw [← aC3];congr 1;omega
   omega
end
section
variable {τ δ:Type} [GT τ δ] [FlatT τ]
theorem gC {X:TL τ} (p:Pick (Af X) M M1) (h:Holds w0 S0 M w):Holds w0 S0 (flH X::M1) w:=by
 have h1:=h.perm p.perm;refine h1.reFp (aBa ?_) fun y hy=>?_
 ·rw [BZ,BZ];show (slB X++X.els.flatMap GT.fp)++fps M1=slB X++fps M1;rw [kI,aBx]
 ·rcases aAf.1 hy with rfl | hy
  ·have ho:GT.ow w X:=h1.prs (Af X) (aA9 ..);exact ⟨GT.ow_rd ho fun _ _ h=>(by cases h),rX ho⟩
  ·exact h1.prs _ (aA4 _ hy)
theorem kJ {X Y:TL τ} {a b:Int} {r:List δ} (he:Y=slc X a.toNat b.toNat) (hs:Gf (GT.dat X) a b=some r) (p:Pick (flH X) M M1) (h:Holds w0 S0 M w):Holds w0 S0 (flH Y::M1) w:=by
 have h1:=h.perm p.perm;refine h1.reFp (aBa ?_) fun y hy=>?_
 ·rw [BZ,BZ];show slB X++fps M1=slB Y++fps M1;rw [he,rY]
 ·rcases aAf.1 hy with rfl | hy
  ·have hf:=h1.prs (flH X) (aA9 ..);exact ⟨Ml he hs _ _ hf.1,uV he hs hf.1 hf.2⟩
  ·exact h1.prs _ (aA4 _ hy)
end
section
variable {τ δ:Type} [GT τ δ]
theorem pU {x y:Operand} {T:TypeId} {X:TL τ} {i:Nat} {u v:τ} {M':List HP} (hx:ev l x=some (.pointer (some ⟨X.g,X.o+i*GT.sz τ,none⟩))) (hy:ev l y=some (.agg (GT.cells v).toArray))
  (hp:Pick (Be X) M M') (hi:X.els[i]?=some u) (ht:Jp Γ.P T=some (GT.sz τ)) (hk:∀ X':TL τ,X'.els=X.els.set i v→X'.hdr=X.hdr→GT.dat X'=(GT.dat X).set i (GT.dat v)→L Γ rest l (Be X'::M') K) :
  L Γ (⟨none,.store T x y,ty,pos,af,none⟩::rest) l M K:=by
 refine Th rfl rfl (fun a w ha hw=>?_) (hk { X with els:=X.els.set i v } rfl (by simp [TL.hdr]) (by simp [BQ,List.map_set]));have hw':=hw.perm hp.perm;have hr:=hw'.prs (Be X) (aA9 ..);have hlt:=(aA2.1 hi).1;have hA:X.a=some ⟨X.g,0,none⟩∧X.o=0:=by
  cases ha:X.a with
  | none=>have:=(hr.2.2.1 ha).1;rw [this] at hlt;simp at hlt
  | some a =>
   obtain ⟨h1,h2,h3,h4⟩:=hr.2.2.2 a ha;obtain ⟨b,o,s⟩:=a;have h1:s=none:=h1;have h2:o=0:=h2;subst h1;subst h2;exact ⟨by simp [TL.g,ha],by simp [TL.o,ha]⟩
 obtain ⟨w',h1,h2⟩:=mI (P:=Γ.P) (fo:=0) (x':=v) (vs:=GT.cells v) hw' hA.1 hi (by rw [aEy,aAa,aBk,GT.len,← GT.len u,List.drop_length,aBx]) (fun z hz=>GT.one _ z hz) (by rw [GT.len];omega);refine ⟨w',?_,h2⟩;have e1:=ha.eval hx;have e2:=ha.eval hy;rw [hA.2] at e1;have h1':(storeCells ⟨X.g,0+i*GT.sz τ,none⟩ (GT.cells v)).run Γ.P w=.ok () w':=h1;rw [aBk] at h1' e1;simp [execOp,e1,e2,Instr.storeAt,Instr.sureAddr,storeVar,Ey ht,Value.cells,GT.len,h1']
end
theorem Ri (x:UInt8):(GT.dat x:UInt8)=x:=rfl
theorem dq {p:Prop} (h:p:=by repeat (first | with_reducible exact BA | with_reducible exact RdP.str | with_reducible exact IL | with_reducible refine Au ?_ ?_ | exact Vd mm | refine Au ?_ ?_)):p:=h
end Go.Proofs.SL
