/- The texts of the proof, part 5. -/
import Derived.Test.YthlbpedehajlgaaGreatT4
import Derived.Lib.Overlaps
import Derived.Lib.AppendZerosOnto
import Derived.Laws.Externs
import Derived.OrdersHeld
set_option linter.all false
namespace Go.Proofs.SL
open Go Tryz Go.Proofs.SL.GT
variable (w:World)
noncomputable section
set_option maxHeartbeats 2000000
abbrev CH:=Int×Int×Int×ByteArray×ByteArray×ByteArray×Int×(List ByteArray)
instance Gp:ElF prog 36 9 1 16 [.string ByteArray.empty]:=⟨kr⟩
instance ED:OneF prog 9:=⟨kr⟩
instance lE:FldF prog 38 0 0:=⟨kr⟩
instance AM:OneF prog 3:=⟨kr⟩
instance lF:FldF prog 38 1 1:=⟨kr⟩
instance lG:FldF prog 38 2 2:=⟨kr⟩
instance lH:FldF prog 38 3 3:=⟨kr⟩
instance lI:FldF prog 38 4 4:=⟨kr⟩
instance lJ:FldF prog 38 5 5:=⟨kr⟩
instance lK:FldF prog 38 6 6:=⟨kr⟩
instance lL:FldF prog 38 7 7:=⟨kr⟩
instance MH:OneF prog 36:=⟨kr⟩
instance sY:FnF prog 44:=⟨_,func44,kr,rfl⟩
instance XL:StrF prog 9:=⟨kr⟩
instance Ia:FnF prog 83:=⟨_,func83,kr,rfl⟩
instance pP:FnF prog 132:=⟨_,func132,kr,rfl⟩
instance CS:AggF prog 38 8:=⟨kr⟩
instance jB:BldF prog 38 [(0,1),(1,1),(2,1),(3,1),(4,1),(5,1),(6,1),(7,1)] [.int .i64 0,.int .i64 0,.int .i64 0,.string ByteArray.empty,.string ByteArray.empty,.string ByteArray.empty,.int .i64 0,.slice none 0 0]:=⟨kr⟩
instance nT:FnF prog 19:=⟨_,func19,kr,rfl⟩
instance gM:FnF prog 84:=⟨_,func84,kr,rfl⟩
instance pQ:FnF prog 193:=⟨_,func193,kr,rfl⟩
instance pR:FnF prog 194:=⟨_,func194,kr,rfl⟩
instance jC:FnF prog 161:=⟨_,func161,kr,rfl⟩
instance aX:FnF prog 162:=⟨_,func162,kr,rfl⟩
instance pS:FnF prog 163:=⟨_,func163,kr,rfl⟩
def MS (a0:List ByteArray) (a1:List ByteArray):Option Bool :=
 cond (!decide ((a0.length:Int)=(a1.length:Int))) (some false) (BH (fun s2:Int=>cond (decide (s2 < (a0.length:Int))) ((idx a0 s2).bind fun y4=>Option.bind (idx a1 s2) (fun y5=>cond (!decide (y4=y5)) (Option.map .inr (some false)) (some (.inl (IntKind.wrap .i64 (s2+1)))))) (Option.map .inr (some true))) 0)
theorem Vk (a0:TL ByteArray) (a1:TL ByteArray) (h0:rd w [] a0) (h1:rd w [] a1) (r) (hp:MS (dat a0) (dat a1)=some r):Sp 44 [a0.hdr,a1.hdr] w [] (IsV (.bool r)):=by
 refine Spec.intro func44 rfl ntmps44 rfl ?_;unfold MS at hp;replace hp:=dd hp;refine s13 ?_;refine kp [0,1,10] ?_;refine Ai rfl (fun q1=>?_) (fun q1=>?_)
 ·replace hp:=Aw q1 hp;refine s4 ?_;obtain rfl:=sj hp;refine s1 ?_;refine AE rfl (Ab rfl) ⟨rfl,rfl⟩ ms
 replace hp:=Ax q1 hp;refine s7 ?_;refine BW (σ:=Int) dat (fun (a2:Int)=>[(5,.int .i64 a2)]) (fun (a2:Int)=>[]) [(0,_),(1,_)] [] 0 hp sb ms ?_;clear hp;rintro a2 x2 hp a3;replace hp:=dd hp;refine kq [0,1,5] ?_;refine s8 ?_;refine kp [0,1,5,14] ?_;refine Ai rfl (fun q3=>?_) (fun q3=>?_)
 ·replace hp:=Aw q3 hp;refine s4 ?_;replace hp:=AX hp;obtain ⟨u4,a4,hp⟩:=hp;replace hp:=AX hp;obtain ⟨u5,a5,hp⟩:=hp;refine BX [25] mix kr rfl (s2 ?_);refine Cn (X:=a0) Ar (Aj rfl) (Aj rfl) Gp.h (Ac h0) (fun _=>a4) ?_;refine Gq Ar (Aj rfl) (fun hg=>Bl (Ac h0) (a4).2) ED.h rfl (s2 ?_);refine Cn (X:=a1) Ar (Aj rfl) (Aj rfl) Gp.h (Ac h1) (fun _=>a5) ?_;refine Gq Ar (Aj rfl) (fun hg=>Bl (Ac h1) (a5).2) ED.h rfl (s12 ?_);refine kp [0,1,5,25] ?_;refine Ai rfl (fun q6=>?_) (fun q6=>?_)
  ·replace hp:=Aw q6 hp;refine s4 ?_;replace hp:=Bu hp;obtain ⟨a7,hp,a6⟩:=hp;obtain rfl:=a3 _ a6;obtain rfl:=sj hp;refine s1 ?_;refine AE rfl (Ab rfl) ⟨rfl,rfl⟩ ms
  replace hp:=Ax q6 hp;refine s6 ?_;exact ⟨IntKind.wrap .i64 (a2+1),sb,(.sub ms),Bo hp⟩
 replace hp:=Ax q3 hp;refine BF ?_;replace hp:=Bu hp;obtain ⟨a8,hp,a9⟩:=hp;obtain rfl:=a3 _ a9;refine s4 ?_;obtain rfl:=sj hp;refine s1 ?_;refine AE rfl (Ab rfl) ⟨rfl,rfl⟩ ms
def KU (a0:CH) (a1:CH):Option Bool :=
 gb (((((((decide (a0.1=a1.1))&&(decide (a0.2.1=a1.2.1)))&&(decide (a0.2.2.1=a1.2.2.1)))&&(decide (a0.2.2.2.1=a1.2.2.2.1)))&&(decide (a0.2.2.2.2.1=a1.2.2.2.2.1)))&&(decide (a0.2.2.2.2.2.1=a1.2.2.2.2.2.1)))&&(decide (a0.2.2.2.2.2.2.1=a1.2.2.2.2.2.2.1))) (MS a0.2.2.2.2.2.2.2 a1.2.2.2.2.2.2.2) (fun y1=>some ((((((((decide (a0.1=a1.1))&&(decide (a0.2.1=a1.2.1)))&&(decide (a0.2.2.1=a1.2.2.1)))&&(decide (a0.2.2.2.1=a1.2.2.2.1)))&&(decide (a0.2.2.2.2.1=a1.2.2.2.2.1)))&&(decide (a0.2.2.2.2.2.1=a1.2.2.2.2.2.1)))&&(decide (a0.2.2.2.2.2.2.1=a1.2.2.2.2.2.2.1)))&&y1))
theorem Qc (a0:Dg) (a1:Dg) (h0:rd w [] a0) (h1:rd w [] a1) (r) (hp:KU (dat a0) (dat a1)=some r):Sp 19 [.agg (cells a0).toArray,.agg (cells a1).toArray] w [] (IsV (.bool r)):=by
 obtain ⟨a5,a6,a7,a8,a9,aa,ab,a2⟩:=a0;obtain ⟨ac,ad,ae,af,ag,ah,ai,a3⟩:=a1;refine sa ?_;refine Spec.intro func19 rfl ntmps19 rfl ?_;unfold KU at hp;replace hp:=dd hp;refine s2 ?_;refine bx fun aj=>?_;refine bx fun ak=>?_;refine s3 ?_;replace hp:=BJ hp;obtain ⟨y1,a4,hp⟩:=hp;refine BX [4] mix kr rfl (s20 ?_);refine s20 ?_;refine s12 ?_;refine AZ (Am rfl rfl) sY.h (Ah (Aq rfl) (Ah (Aq rfl) (AF))) (by exact fun hg w F hF hM=>Vk w a2 a3 (AK (Ac h0.2.2.2.2.2.2.2) hF hM) (AK (Ac h1.2.2.2.2.2.2.2) hF hM) _ (a4 hg.2)) (s20 ?_);refine s20 ?_;refine s19 ?_;obtain rfl:=sj hp;refine s1 ?_;refine AE rfl (Ab rfl) ⟨rfl,rfl⟩ ms
def Ow (a0:ByteArray):Option Bool :=
 (ER (a0.size:Int) 1 8).bind fun y1=>cond (!y1) (some false) (BH (fun s3:Int=>cond (decide (s3 < (a0.size:Int))) ((Ou a0 s3).bind fun y5=>gb (!(decide (y5 < 97))) (Ou a0 s3) (fun y6=>cond ((decide (y5 < 97))||(decide (122 < y6))) (Option.map .inr (some false)) (some (.inl (IntKind.wrap .i64 (s3+1)))))) (Option.map .inr (some true))) 0)
theorem WA (a0:ByteArray)  (r) (hp:Ow a0=some r):Sp 132 [.string a0] w [] (IsV (.bool r)):=by
 refine Spec.intro func132 rfl ntmps132 rfl ?_;unfold Ow at hp;replace hp:=dd hp;refine s9 ?_
 revert hp;refine bc fun y1 a3 hp=>?_
 refine Bi rfl Ia.h rfl (by exact fun w hw=>Do w (a0.size:Int) 1 8  _ a3) (s2 ?_);refine kp [0,7] ?_;refine Ai rfl (fun q2=>?_) (fun q2=>?_)
 ·replace hp:=Aw q2 hp;refine s4 ?_;obtain rfl:=sj hp;refine s1 ?_;refine AE rfl (Ab rfl) ⟨rfl,rfl⟩ ms
 replace hp:=Ax q2 hp;refine s7 ?_;refine BW (σ:=Int) dat (fun (a1:Int)=>[(3,.int .i64 a1)]) (fun (a1:Int)=>[]) [(0,_)] [] 0 hp sb ms ?_;clear hp;rintro a1 x3 hp a2;replace hp:=dd hp;refine kq [0,3] ?_;refine s8 ?_;refine kp [0,3,11] ?_;refine Ai rfl (fun q4=>?_) (fun q4=>?_)
 ·replace hp:=Aw q4 hp;refine s4 ?_
  revert hp;refine bc fun y5 a4 hp=>?_
  replace hp:=BJ hp;obtain ⟨y6,a5,hp⟩:=hp;refine BX [23] mix kr rfl (s2 ?_);refine Us Ar (Aj rfl) (Aj rfl) XL.h (fun hg=>a4) (s4 ?_);refine Us (Am rfl rfl) (Aq rfl) (Aq rfl) XL.h (fun hg=>(a5 (BY hg.2))) (s14 ?_);refine kp [0,3,23] ?_;refine Ai rfl (fun q7=>?_) (fun q7=>?_)
  ·replace hp:=Aw q7 hp;refine s4 ?_;replace hp:=Bu hp;obtain ⟨a8,hp,a6⟩:=hp;obtain rfl:=a2 _ a6;obtain rfl:=sj hp;refine s1 ?_;refine AE rfl (Ab rfl) ⟨rfl,rfl⟩ ms
  replace hp:=Ax q7 hp;refine s6 ?_;exact ⟨IntKind.wrap .i64 (a1+1),sb,(.sub ms),Bo hp⟩
 replace hp:=Ax q4 hp;refine BF ?_;replace hp:=Bu hp;obtain ⟨a9,hp,a7⟩:=hp;obtain rfl:=a2 _ a7;refine s4 ?_;obtain rfl:=sj hp;refine s1 ?_;refine AE rfl (Ab rfl) ⟨rfl,rfl⟩ ms
def LT (a0:ByteArray) (a1:Bool):Option Bool :=
 cond a1 ((Ow a0).bind fun y2=>some y2) (some (decide (a0=ByteArray.empty)))
theorem Ox (a0:ByteArray) (a1:Bool)  (r) (hp:LT a0 a1=some r):Sp 84 [.string a0,.bool a1] w [] (IsV (.bool r)):=by
 refine Spec.intro func84 rfl ntmps84 rfl ?_;unfold LT at hp;replace hp:=dd hp;refine s9 ?_;refine kp [0,5] ?_;refine Ai rfl (fun q1=>?_) (fun q1=>?_)
 ·replace hp:=Aw q1 hp;refine s3 ?_
  revert hp;refine bc fun y2 a2 hp=>?_
  refine Bi rfl pP.h rfl (by exact fun w hw=>WA w a0  _ a2) (s2 ?_);obtain rfl:=sj hp;refine s1 ?_;refine AE rfl (Ab rfl) ⟨rfl,rfl⟩ ms
 replace hp:=Ax q1 hp;refine s7 ?_;obtain rfl:=sj hp;refine s1 ?_;refine AE rfl (Ab rfl) ⟨rfl,rfl⟩ ms
def Ij (a0:CH):Option Bool :=
 (ER a0.1 0 7).bind fun y1=>cond (!y1) (some false) (cond (decide (a0.1=0)) ((KU a0 (0,0,0,ByteArray.empty,ByteArray.empty,ByteArray.empty,0,([]:List ByteArray))).bind fun y4=>some y4) ((ER a0.2.1 1 9).bind fun y5=>gb (!(!y5)) (ER a0.2.2.1 1 1000) (fun y6=>gb (!((!y5)||(!y6))) (LT a0.2.2.2.1 (!decide (a0.1=7))) (fun y7=>gb (!(((!y5)||(!y6))||(!y7))) (LT a0.2.2.2.2.1 ((decide (a0.1=3))||(decide (a0.1=4)))) (fun y8=>gb (!((((!y5)||(!y6))||(!y7))||(!y8))) (LT a0.2.2.2.2.2.1 (decide (a0.1=4))) (fun y9=>gb (((!(((((!y5)||(!y6))||(!y7))||(!y8))||(!y9)))&&(!decide (a0.2.2.2.2.2.2.1=0)))&&(!(!decide (a0.1=5)))) (ER a0.2.2.2.2.2.2.1 0 9) (fun a1=>cond ((((((!y5)||(!y6))||(!y7))||(!y8))||(!y9))||((!decide (a0.2.2.2.2.2.2.1=0))&&((!decide (a0.1=5))||(!a1)))) (some false) (cond (!decide (a0.1=3)) (some (decide ((a0.2.2.2.2.2.2.2.length:Int)=0))) ((ER (a0.2.2.2.2.2.2.2.length:Int) 1 4).bind fun a2=>cond (!a2) (some false) (BH (fun s15:Int=>cond (decide (s15 < (a0.2.2.2.2.2.2.2.length:Int))) ((idx a0.2.2.2.2.2.2.2 s15).bind fun a3=>cond (!decide ((a3.size:Int)=8)) (Option.map .inr (some false)) (some (.inl (IntKind.wrap .i64 (s15+1))))) (Option.map .inr (some true))) 0))))))))))
theorem JC (a0:Dg) (h0:rd w [] a0) (r) (hp:Ij (dat a0)=some r):Sp 38 [.agg (cells a0).toArray] w [] (IsV (.bool r)):=by
 obtain ⟨a1,a4,a5,a6,a7,a8,a9,a3⟩:=a0;refine sa ?_;refine Spec.intro func38 rfl ntmps38 rfl ?_;unfold Ij at hp;replace hp:=dd hp;refine s2 ?_;refine bx fun am=>?_;refine s7 ?_
 revert hp;refine bc fun y1 an hp=>?_
 refine Bi rfl Ia.h rfl (by exact fun w hw=>Do w a1 0 7  _ an) (s2 ?_);refine kp [1,8] ?_;refine Ai rfl (fun q2=>?_) (fun q2=>?_)
 ·replace hp:=Aw q2 hp;refine s4 ?_;obtain rfl:=sj hp;refine s1 ?_;refine AE rfl (Ab rfl) ⟨rfl,rfl⟩ ms
 replace hp:=Ax q2 hp;refine s8 ?_;refine kp [1,11] ?_;refine Ai rfl (fun q3=>?_) (fun q3=>?_)
 ·replace hp:=Aw q3 hp;refine s3 ?_;refine Cz (xs:=[]) (cs:=[.int .i64 0,.int .i64 0,.int .i64 0,.string ByteArray.empty,.string ByteArray.empty,.string ByteArray.empty,.int .i64 0,(TL.hdr (TL.nil ByteArray 0))]) rfl rfl jB.h rfl ?_
  revert hp;refine bc fun y4 ao hp=>?_
  refine Bi rfl nT.h rfl (by exact fun w hw=>Qc w (a1,a4,a5,a6,a7,a8,a9,a3) (0,0,0,ByteArray.empty,ByteArray.empty,ByteArray.empty,0,(TL.nil ByteArray 0)) (Ap (Ac h0) hw) (Ap (Aa Ad (Aa Ad (Aa Ad (Aa Ej (Aa Ej (Aa Ej (Aa Ad (EA 0)))))))) hw) _ ao) (s2 ?_);obtain rfl:=sj hp;refine s1 ?_;refine AE rfl (Ab rfl) ⟨rfl,rfl⟩ ms
 replace hp:=Ax q3 hp;refine s9 ?_
 revert hp;refine bc fun y5 ap hp=>?_
 replace hp:=BJ hp;obtain ⟨y6,aq,hp⟩:=hp;replace hp:=BJ hp;obtain ⟨y7,ar,hp⟩:=hp;replace hp:=BJ hp;obtain ⟨y8,au,hp⟩:=hp;replace hp:=BJ hp;obtain ⟨y9,av,hp⟩:=hp;replace hp:=BJ hp;obtain ⟨aw,ah,hp⟩:=hp;refine BX [69] mix kr rfl (s2 ?_);refine AZ Ar Ia.h (Ah (Aj rfl) (Ah BP (Ah BP (AF)))) (by exact fun hg w F hF hM=>Do w a4 1 9  _ ap) (s4 ?_);refine AZ (Am rfl rfl) Ia.h (Ah (Aq rfl) (Ah BP (Ah BP (AF)))) (by exact fun hg w F hF hM=>Do w a5 1 1000  _ (aq (BY hg.2))) (s7 ?_);refine AZ (Am rfl rfl) gM.h (Ah (Aq rfl) (Ah (Aq rfl) (AF))) (by exact fun hg w F hF hM=>Ox w a6 (!decide (a1=7))  _ (ar (BY hg.2))) (s11 ?_);refine AZ (Am rfl rfl) gM.h (Ah (Aq rfl) (Ah (Aq rfl) (AF))) (by exact fun hg w F hF hM=>Ox w a7 ((decide (a1=3))||(decide (a1=4)))  _ (au (BY hg.2))) (s7 ?_);refine AZ (Am rfl rfl) gM.h (Ah (Aq rfl) (Ah (Aq rfl) (AF))) (by exact fun hg w F hF hM=>Ox w a8 (decide (a1=4))  _ (av (BY hg.2))) (s12 ?_);refine AZ (Am rfl rfl) Ia.h (Ah (Aq rfl) (Ah BP (Ah BP (AF)))) (by exact fun hg w F hF hM=>Do w a9 0 9  _ (ah (GV (GV (BY hg.1.1.2) hg.1.2) (BY hg.2)))) (s20 ?_);refine s20 ?_;refine s19 ?_;refine kp [1,3,69] ?_;refine Ai rfl (fun aa=>?_) (fun aa=>?_)
 ·replace hp:=Aw aa hp;refine s4 ?_;obtain rfl:=sj hp;refine s1 ?_;refine AE rfl (Ab rfl) ⟨rfl,rfl⟩ ms
 replace hp:=Ax aa hp;refine s7 ?_;refine kp [1,71] ?_;refine Ai rfl (fun ab=>?_) (fun ab=>?_)
 ·replace hp:=Aw ab hp;refine s8 ?_;obtain rfl:=sj hp;refine s1 ?_;refine AE rfl (Ab rfl) ⟨rfl,rfl⟩ ms
 replace hp:=Ax ab hp;refine s7 ?_
 revert hp;refine bc fun ax ai hp=>?_
 refine Bi rfl Ia.h rfl (by exact fun w hw=>Do w ((dat a3).length:Int) 1 4  _ ai) (s2 ?_);refine kp [1,80] ?_;refine Ai rfl (fun ac=>?_) (fun ac=>?_)
 ·replace hp:=Aw ac hp;refine s4 ?_;obtain rfl:=sj hp;refine s1 ?_;refine AE rfl (Ab rfl) ⟨rfl,rfl⟩ ms
 replace hp:=Ax ac hp;refine s7 ?_;refine BW (σ:=Int) dat (fun (a2:Int)=>[(4,.int .i64 a2)]) (fun (a2:Int)=>[]) [(1,_)] [blk am _ _] 0 hp sb ms ?_;clear hp;rintro a2 ay hp ad;replace hp:=dd hp;refine kq [1,4] ?_;refine s9 ?_;refine kp [1,4,85] ?_;refine Ai rfl (fun ae=>?_) (fun ae=>?_)
 ·replace hp:=Aw ae hp;refine s8 ?_;replace hp:=AX hp;obtain ⟨az,af,hp⟩:=hp;refine Cj (X:=a3) rfl rfl rfl Gp.h (Ac h0.2.2.2.2.2.2.2) af ?_;refine LN rfl rfl (Bl (Ac h0.2.2.2.2.2.2.2) (af).2) ED.h rfl (s3 ?_);refine kp [1,4,94] ?_;refine Ai rfl (fun ag=>?_) (fun ag=>?_)
  ·replace hp:=Aw ag hp;refine s4 ?_;replace hp:=Bu hp;obtain ⟨b0,hp,aj⟩:=hp;obtain rfl:=ad _ aj;obtain rfl:=sj hp;refine s1 ?_;refine AE rfl (Ab rfl) ⟨rfl,rfl⟩ ms
  replace hp:=Ax ag hp;refine s6 ?_;exact ⟨IntKind.wrap .i64 (a2+1),sb,(.sub ms),Bo hp⟩
 replace hp:=Ax ae hp;refine BF ?_;replace hp:=Bu hp;obtain ⟨b1,hp,ak⟩:=hp;obtain rfl:=ad _ ak;refine s4 ?_;obtain rfl:=sj hp;refine s1 ?_;refine AE rfl (Ab rfl) ⟨rfl,rfl⟩ ms
def Ik (a0:List ByteArray) (a1:List ByteArray):Option Bool :=
 cond (!decide ((a0.length:Int)=(a1.length:Int))) (some false) (BH (fun s2:Int=>cond (decide (s2 < (a0.length:Int))) ((idx a0 s2).bind fun y4=>Option.bind (idx a1 s2) (fun y5=>cond (!decide (y4=y5)) (Option.map .inr (some false)) (some (.inl (IntKind.wrap .i64 (s2+1)))))) (Option.map .inr (some true))) 0)
theorem Nq (a0:TL ByteArray) (a1:TL ByteArray) (h0:rd w [] a0) (h1:rd w [] a1) (r) (hp:Ik (dat a0) (dat a1)=some r):Sp 193 [a0.hdr,a1.hdr] w [] (IsV (.bool r)):=by
 refine Spec.intro func193 rfl ntmps193 rfl ?_;unfold Ik at hp;replace hp:=dd hp;refine s13 ?_;refine kp [0,1,10] ?_;refine Ai rfl (fun q1=>?_) (fun q1=>?_)
 ·replace hp:=Aw q1 hp;refine s4 ?_;obtain rfl:=sj hp;refine s1 ?_;refine AE rfl (Ab rfl) ⟨rfl,rfl⟩ ms
 replace hp:=Ax q1 hp;refine s9 ?_;refine BW (σ:=Int) dat (fun (a2:Int)=>[(13,.int .i64 a2)]) (fun (a2:Int)=>[]) [(0,_),(1,_),(12,_)] [] 0 hp sb ms ?_;clear hp;rintro a2 x2 hp a3;replace hp:=dd hp;refine kq [0,1,12,13] ?_;refine s5 ?_;refine kp [0,1,12,13,14] ?_;refine Ai rfl (fun q3=>?_) (fun q3=>?_)
 ·replace hp:=Aw q3 hp;refine s9 ?_;replace hp:=AX hp;obtain ⟨u4,a4,hp⟩:=hp;replace hp:=AX hp;obtain ⟨u5,a5,hp⟩:=hp;refine BX [24] mix kr rfl (s2 ?_);refine Cn (X:=a0) Ar (Aj rfl) (Aj rfl) Gp.h (Ac h0) (fun _=>a4) ?_;refine Gq Ar (Aj rfl) (fun hg=>Bl (Ac h0) (a4).2) ED.h rfl (s2 ?_);refine Cn (X:=a1) Ar (Aj rfl) (Aj rfl) Gp.h (Ac h1) (fun _=>a5) ?_;refine Gq Ar (Aj rfl) (fun hg=>Bl (Ac h1) (a5).2) ED.h rfl (s12 ?_);refine kp [0,1,12,13,24] ?_;refine Ai rfl (fun q6=>?_) (fun q6=>?_)
  ·replace hp:=Aw q6 hp;refine s4 ?_;replace hp:=Bu hp;obtain ⟨a7,hp,a6⟩:=hp;obtain rfl:=a3 _ a6;obtain rfl:=sj hp;refine s1 ?_;refine AE rfl (Ab rfl) ⟨rfl,rfl⟩ ms
  replace hp:=Ax q6 hp;refine s5 ?_;exact ⟨IntKind.wrap .i64 (a2+1),sb,(.sub ms),Bo hp⟩
 replace hp:=Ax q3 hp;refine BF ?_;replace hp:=Bu hp;obtain ⟨a8,hp,a9⟩:=hp;obtain rfl:=a3 _ a9;refine s4 ?_;obtain rfl:=sj hp;refine s1 ?_;refine AE rfl (Ab rfl) ⟨rfl,rfl⟩ ms
def MT (a0:CH) (a1:CH):Option Bool :=
 gb (((((((decide (a0.1=a1.1))&&(decide (a0.2.1=a1.2.1)))&&(decide (a0.2.2.1=a1.2.2.1)))&&(decide (a0.2.2.2.1=a1.2.2.2.1)))&&(decide (a0.2.2.2.2.1=a1.2.2.2.2.1)))&&(decide (a0.2.2.2.2.2.1=a1.2.2.2.2.2.1)))&&(decide (a0.2.2.2.2.2.2.1=a1.2.2.2.2.2.2.1))) (Ik a0.2.2.2.2.2.2.2 a1.2.2.2.2.2.2.2) (fun y1=>some ((((((((decide (a0.1=a1.1))&&(decide (a0.2.1=a1.2.1)))&&(decide (a0.2.2.1=a1.2.2.1)))&&(decide (a0.2.2.2.1=a1.2.2.2.1)))&&(decide (a0.2.2.2.2.1=a1.2.2.2.2.1)))&&(decide (a0.2.2.2.2.2.1=a1.2.2.2.2.2.1)))&&(decide (a0.2.2.2.2.2.2.1=a1.2.2.2.2.2.2.1)))&&y1))
theorem Qd (a0:Dg) (a1:Dg) (h0:rd w [] a0) (h1:rd w [] a1) (r) (hp:MT (dat a0) (dat a1)=some r):Sp 161 [.agg (cells a0).toArray,.agg (cells a1).toArray] w [] (IsV (.bool r)):=by
 obtain ⟨a5,a6,a7,a8,a9,aa,ab,a2⟩:=a0;obtain ⟨ac,ad,ae,af,ag,ah,ai,a3⟩:=a1;refine sa ?_;refine Spec.intro func161 rfl ntmps161 rfl ?_;unfold MT at hp;replace hp:=dd hp;refine s2 ?_;refine bx fun aj=>?_;refine bx fun ak=>?_;refine s3 ?_;replace hp:=BJ hp;obtain ⟨y1,a4,hp⟩:=hp;refine BX [4] mix kr rfl (s20 ?_);refine s20 ?_;refine s12 ?_;refine AZ (Am rfl rfl) pQ.h (Ah (Aq rfl) (Ah (Aq rfl) (AF))) (by exact fun hg w F hF hM=>Nq w a2 a3 (AK (Ac h0.2.2.2.2.2.2.2) hF hM) (AK (Ac h1.2.2.2.2.2.2.2) hF hM) _ (a4 hg.2)) (s20 ?_);refine s20 ?_;refine s19 ?_;obtain rfl:=sj hp;refine s1 ?_;refine AE rfl (Ab rfl) ⟨rfl,rfl⟩ ms
def Oy (a0:ByteArray):Option Bool :=
 BH (fun s1:Int=>cond (decide (s1 < (a0.size:Int))) ((Ou a0 s1).bind fun y3=>gb (!(decide (y3 < 97))) (Ou a0 s1) (fun y4=>cond ((decide (y3 < 97))||(decide (122 < y4))) (Option.map .inr (some false)) (some (.inl (IntKind.wrap .i64 (s1+1)))))) (Option.map .inr ((Dz (a0.size:Int) 1 8).bind fun y8=>some y8))) 0
theorem WB (a0:ByteArray)  (r) (hp:Oy a0=some r):Sp 194 [.string a0] w [] (IsV (.bool r)):=by
 refine Spec.intro func194 rfl ntmps194 rfl ?_;unfold Oy at hp;replace hp:=dd hp;refine s10 ?_;refine BW (σ:=Int) dat (fun (a1:Int)=>[(3,.int .i64 a1)]) (fun (a1:Int)=>[]) [(0,_)] [] 0 hp sb ms ?_;clear hp;rintro a1 x1 hp a2;replace hp:=dd hp;refine kq [0,3] ?_;refine s8 ?_;refine kp [0,3,7] ?_;refine Ai rfl (fun q2=>?_) (fun q2=>?_)
 ·replace hp:=Aw q2 hp;refine s4 ?_
  revert hp;refine bc fun y3 a3 hp=>?_
  replace hp:=BJ hp;obtain ⟨y4,a4,hp⟩:=hp;refine BX [19] mix kr rfl (s2 ?_);refine Us Ar (Aj rfl) (Aj rfl) XL.h (fun hg=>a3) (s4 ?_);refine Us (Am rfl rfl) (Aq rfl) (Aq rfl) XL.h (fun hg=>(a4 (BY hg.2))) (s14 ?_);refine kp [0,3,19] ?_;refine Ai rfl (fun q5=>?_) (fun q5=>?_)
  ·replace hp:=Aw q5 hp;refine s4 ?_;replace hp:=Bu hp;obtain ⟨a6,hp,a5⟩:=hp;obtain rfl:=a2 _ a5;obtain rfl:=sj hp;refine s1 ?_;refine AE rfl (Ab rfl) ⟨rfl,rfl⟩ ms
  replace hp:=Ax q5 hp;refine s6 ?_;exact ⟨IntKind.wrap .i64 (a1+1),sb,(.sub ms),Bo hp⟩
 replace hp:=Ax q2 hp;refine BF ?_;replace hp:=Bu hp;obtain ⟨a7,hp,a8⟩:=hp;obtain rfl:=a2 _ a8;refine s4 ?_
 revert hp;refine bc fun y8 a9 hp=>?_
 refine Bi rfl HD.h rfl (by exact fun w hw=>CN w (a0.size:Int) 1 8  _ a9) (s2 ?_);obtain rfl:=sj hp;refine s1 ?_;refine AE rfl (Ab rfl) ⟨rfl,rfl⟩ ms
def KG (a0:ByteArray) (a1:Bool):Option Bool :=
 cond a1 ((Oy a0).bind fun y2=>some y2) (some (decide (a0=ByteArray.empty)))
theorem Nr (a0:ByteArray) (a1:Bool)  (r) (hp:KG a0 a1=some r):Sp 162 [.string a0,.bool a1] w [] (IsV (.bool r)):=by
 refine Spec.intro func162 rfl ntmps162 rfl ?_;unfold KG at hp;replace hp:=dd hp;refine s9 ?_;refine kp [0,5] ?_;refine Ai rfl (fun q1=>?_) (fun q1=>?_)
 ·replace hp:=Aw q1 hp;refine s3 ?_
  revert hp;refine bc fun y2 a2 hp=>?_
  refine Bi rfl pR.h rfl (by exact fun w hw=>WB w a0  _ a2) (s2 ?_);obtain rfl:=sj hp;refine s1 ?_;refine AE rfl (Ab rfl) ⟨rfl,rfl⟩ ms
 replace hp:=Ax q1 hp;refine s7 ?_;obtain rfl:=sj hp;refine s1 ?_;refine AE rfl (Ab rfl) ⟨rfl,rfl⟩ ms
def Ki (a0:List ByteArray):Option Bool :=
 BH (fun s1:Int=>cond (decide (s1 < (a0.length:Int))) ((idx a0 s1).bind fun y3=>cond (!decide ((y3.size:Int)=8)) (Option.map .inr (some false)) (some (.inl (IntKind.wrap .i64 (s1+1))))) (Option.map .inr (some true))) 0
theorem TJ (a0:TL ByteArray) (h0:rd w [] a0) (r) (hp:Ki (dat a0)=some r):Sp 163 [a0.hdr] w [] (IsV (.bool r)):=by
 refine Spec.intro func163 rfl ntmps163 rfl ?_;unfold Ki at hp;replace hp:=dd hp;refine s12 ?_;refine BW (σ:=Int) dat (fun (a1:Int)=>[(7,.int .i64 a1)]) (fun (a1:Int)=>[]) [(5,_),(6,_)] [] 0 hp sb ms ?_;clear hp;rintro a1 x1 hp a2;replace hp:=dd hp;refine kq [5,6,7] ?_;refine s5 ?_;refine kp [5,6,7,8] ?_;refine Ai rfl (fun q2=>?_) (fun q2=>?_)
 ·replace hp:=Aw q2 hp;refine s5 ?_;replace hp:=AX hp;obtain ⟨u3,a3,hp⟩:=hp;refine Cj (X:=a0) rfl rfl rfl Gp.h (Ac h0) a3 ?_;refine LN rfl rfl (Bl (Ac h0) (a3).2) ED.h rfl (s8 ?_);refine kp [5,6,7,13] ?_;refine Ai rfl (fun q4=>?_) (fun q4=>?_)
  ·replace hp:=Aw q4 hp;refine s4 ?_;replace hp:=Bu hp;obtain ⟨a5,hp,a4⟩:=hp;obtain rfl:=a2 _ a4;obtain rfl:=sj hp;refine s1 ?_;refine AE rfl (Ab rfl) ⟨rfl,rfl⟩ ms
  replace hp:=Ax q4 hp;refine s5 ?_;exact ⟨IntKind.wrap .i64 (a1+1),sb,(.sub ms),Bo hp⟩
 replace hp:=Ax q2 hp;refine BF ?_;replace hp:=Bu hp;obtain ⟨a6,hp,a7⟩:=hp;obtain rfl:=a2 _ a7;refine s4 ?_;obtain rfl:=sj hp;refine s1 ?_;refine AE rfl (Ab rfl) ⟨rfl,rfl⟩ ms
def Il (a0:CH):Option Bool :=
 cond (decide (a0.1=0)) ((MT a0 (0,0,0,ByteArray.empty,ByteArray.empty,ByteArray.empty,0,([]:List ByteArray))).bind fun y2=>some y2) ((Dz a0.1 1 7).bind fun y3=>gb (!(!y3)) (Dz a0.2.1 1 9) (fun y4=>gb (!((!y3)||(!y4))) (Dz a0.2.2.1 1 1000) (fun y5=>cond (((!y3)||(!y4))||(!y5)) (some false) ((KG a0.2.2.2.1 (!decide (a0.1=7))).bind fun y7=>gb (!(!y7)) (KG a0.2.2.2.2.1 ((decide (a0.1=3))||(decide (a0.1=4)))) (fun y8=>gb (!((!y7)||(!y8))) (KG a0.2.2.2.2.2.1 (decide (a0.1=4))) (fun y9=>cond (((!y7)||(!y8))||(!y9)) (some false) (gb ((!decide (a0.2.2.2.2.2.2.1=0))&&(!(!decide (a0.1=5)))) (Dz a0.2.2.2.2.2.2.1 0 9) (fun a2=>cond ((!decide (a0.2.2.2.2.2.2.1=0))&&((!decide (a0.1=5))||(!a2))) (some false) (cond (decide (a0.1=3)) ((Dz (a0.2.2.2.2.2.2.2.length:Int) 1 4).bind fun a1=>gb a1 (Ki a0.2.2.2.2.2.2.2) (fun a3=>some (a1&&a3))) (some (decide ((a0.2.2.2.2.2.2.2.length:Int)=0))))))))))))
theorem JD (a0:Dg) (h0:rd w [] a0) (r) (hp:Il (dat a0)=some r):Sp 114 [.agg (cells a0).toArray] w [] (IsV (.bool r)):=by
 obtain ⟨a1,a3,a4,a5,a6,a7,a8,a2⟩:=a0;refine sa ?_;refine Spec.intro func114 rfl ntmps114 rfl ?_;unfold Il at hp;replace hp:=dd hp;refine s2 ?_;refine bx fun an=>?_;refine s9 ?_;refine kp [1,5] ?_;refine Ai rfl (fun q1=>?_) (fun q1=>?_)
 ·replace hp:=Aw q1 hp;refine s3 ?_;refine Cz (xs:=[]) (cs:=[.int .i64 0,.int .i64 0,.int .i64 0,.string ByteArray.empty,.string ByteArray.empty,.string ByteArray.empty,.int .i64 0,(TL.hdr (TL.nil ByteArray 0))]) rfl rfl jB.h rfl ?_
  revert hp;refine bc fun y2 af hp=>?_
  refine Bi rfl jC.h rfl (by exact fun w hw=>Qd w (a1,a3,a4,a5,a6,a7,a8,a2) (0,0,0,ByteArray.empty,ByteArray.empty,ByteArray.empty,0,(TL.nil ByteArray 0)) (Ap (Ac h0) hw) (Ap (Aa Ad (Aa Ad (Aa Ad (Aa Ej (Aa Ej (Aa Ej (Aa Ad (EA 0)))))))) hw) _ af) (s2 ?_);obtain rfl:=sj hp;refine s1 ?_;refine AE rfl (Ab rfl) ⟨rfl,rfl⟩ ms
 replace hp:=Ax q1 hp;refine s3 ?_
 revert hp;refine bc fun y3 ag hp=>?_
 replace hp:=BJ hp;obtain ⟨y4,ah,hp⟩:=hp;replace hp:=BJ hp;obtain ⟨y5,ai,hp⟩:=hp;refine BX [24] mix kr rfl (s2 ?_);refine AZ Ar HD.h (Ah (Aj rfl) (Ah BP (Ah BP (AF)))) (by exact fun hg w F hF hM=>CN w a1 1 7  _ ag) (s4 ?_);refine AZ (Am rfl rfl) HD.h (Ah (Aq rfl) (Ah BP (Ah BP (AF)))) (by exact fun hg w F hF hM=>CN w a3 1 9  _ (ah (BY hg.2))) (s5 ?_);refine AZ (Am rfl rfl) HD.h (Ah (Aq rfl) (Ah BP (Ah BP (AF)))) (by exact fun hg w F hF hM=>CN w a4 1 1000  _ (ai (BY hg.2))) (s20 ?_);refine kp [1,24] ?_;refine Ai rfl (fun q6=>?_) (fun q6=>?_)
 ·replace hp:=Aw q6 hp;refine s4 ?_;obtain rfl:=sj hp;refine s1 ?_;refine AE rfl (Ab rfl) ⟨rfl,rfl⟩ ms
 replace hp:=Ax q6 hp;refine s3 ?_
 revert hp;refine bc fun y7 aj hp=>?_
 replace hp:=BJ hp;obtain ⟨y8,ak,hp⟩:=hp;replace hp:=BJ hp;obtain ⟨y9,am,hp⟩:=hp;refine BX [54] mix kr rfl (s5 ?_);refine AZ Ar aX.h (Ah (Aj rfl) (Ah (Aj rfl) (AF))) (by exact fun hg w F hF hM=>Nr w a5 (!decide (a1=7))  _ aj) (s12 ?_);refine AZ (Am rfl rfl) aX.h (Ah (Aq rfl) (Ah (Aq rfl) (AF))) (by exact fun hg w F hF hM=>Nr w a6 ((decide (a1=3))||(decide (a1=4)))  _ (ak (BY hg.2))) (s8 ?_);refine AZ (Am rfl rfl) aX.h (Ah (Aq rfl) (Ah (Aq rfl) (AF))) (by exact fun hg w F hF hM=>Nr w a7 (decide (a1=4))  _ (am (BY hg.2))) (s20 ?_);refine s14 ?_;refine kp [1,54] ?_;refine Ai rfl (fun a9=>?_) (fun a9=>?_)
 ·replace hp:=Aw a9 hp;refine s4 ?_;obtain rfl:=sj hp;refine s1 ?_;refine AE rfl (Ab rfl) ⟨rfl,rfl⟩ ms
 replace hp:=Ax a9 hp;refine s3 ?_;replace hp:=BJ hp;obtain ⟨ao,ac,hp⟩:=hp;refine BX [68] mix kr rfl (s10 ?_);refine AZ (Am rfl rfl) HD.h (Ah (Aq rfl) (Ah BP (Ah BP (AF)))) (by exact fun hg w F hF hM=>CN w a8 0 9  _ (ac (GV hg.1.2 (BY hg.2)))) (s19 ?_);refine kp [1,68] ?_;refine Ai rfl (fun aa=>?_) (fun aa=>?_)
 ·replace hp:=Aw aa hp;refine s4 ?_;obtain rfl:=sj hp;refine s1 ?_;refine AE rfl (Ab rfl) ⟨rfl,rfl⟩ ms
 replace hp:=Ax aa hp;refine s8 ?_;refine kp [1,71] ?_;refine Ai rfl (fun ab=>?_) (fun ab=>?_)
 ·replace hp:=Aw ab hp;refine s1 ?_
  revert hp;refine bc fun ap ad hp=>?_
  replace hp:=BJ hp;obtain ⟨aq,ae,hp⟩:=hp;refine BX [2] mix kr rfl (s2 ?_);refine GF (X:=a2) Ar (Aj rfl) Gp.h ?_;refine AZ Ar HD.h (Ah (Aj rfl) (Ah BP (Ah BP (AF)))) (by exact fun hg w F hF hM=>CN w ((dat a2).length:Int) 1 4  _ ad) (s3 ?_);refine AZ (Am rfl rfl) pS.h (Ah (Aq rfl) (AF)) (by exact fun hg w F hF hM=>TJ w a2 (AK (Ac h0.2.2.2.2.2.2.2) hF hM) _ (ae hg.2)) (s14 ?_);obtain rfl:=sj hp;refine s1 ?_;refine AE rfl (Ab rfl) ⟨rfl,rfl⟩ ms
 replace hp:=Ax ab hp;refine s9 ?_;obtain rfl:=sj hp;refine s1 ?_;refine AE rfl (Ab rfl) ⟨rfl,rfl⟩ ms
end
end Go.Proofs.SL
namespace Go.Proofs.SL
open Go Tryz Go.Proofs.SL.GT
variable (w:World)
noncomputable section
set_option maxHeartbeats 2000000
abbrev AU:=Int×Int
abbrev AD:=AU×Int×Int×Int×CH×Int×(List AU)×Bool
instance lM:FldF prog 35 0 0:=⟨kr⟩
instance lN:FldF prog 35 1 1:=⟨kr⟩
instance Cq:ElF prog 31 35 2 16 [.int .i64 0,.int .i64 0]:=⟨kr⟩
instance Bp:AggF prog 35 2:=⟨kr⟩
instance Uw:FnF prog 140:=⟨_,func140,kr,rfl⟩
instance Xk:FnF prog 181:=⟨_,func181,kr,rfl⟩
instance Eu:UndF prog 3 (.int .i64):=⟨kr⟩
theorem FT:Qa prog 35=some [(3,0),(3,1)]:=by kernel_rfl
instance lO:FldF prog 48 0 0:=⟨kr⟩
instance lP:FldF prog 48 1 2:=⟨kr⟩
instance lQ:FldF prog 48 2 3:=⟨kr⟩
instance lR:FldF prog 48 3 4:=⟨kr⟩
instance ZO:FldF prog 48 4 5:=⟨kr⟩
instance XM:FnF prog 38:=⟨_,func38,kr,rfl⟩
instance ZP:FldF prog 48 5 13:=⟨kr⟩
instance ZQ:FldF prog 48 6 14:=⟨kr⟩
instance FZ:OneF prog 31:=⟨kr⟩
instance aY:FnF prog 141:=⟨_,func141,kr,rfl⟩
instance aZ:FnF prog 142:=⟨_,func142,kr,rfl⟩
instance lS:FldF prog 48 7 15:=⟨kr⟩
instance HH:OneF prog 4:=⟨kr⟩
instance CG:ElF prog 41 48 16 184 [.int .i64 0,.int .i64 0,.int .i64 0,.int .i64 0,.int .i64 0,.int .i64 0,.int .i64 0,.int .i64 0,.string ByteArray.empty,.string ByteArray.empty,.string ByteArray.empty,.int .i64 0,.slice none 0 0,.int .i64 0,.slice none 0 0,.bool false]:=⟨kr⟩
instance DK:AggF prog 48 16:=⟨kr⟩
instance SP:FnF prog 180:=⟨_,func180,kr,rfl⟩
instance nU:ZerF prog 35 [.int .i64 0,.int .i64 0]:=⟨kr⟩
instance Ux:FnF prog 113:=⟨_,func113,kr,rfl⟩
instance Xl:FnF prog 128:=⟨_,func128,kr,rfl⟩
instance sZ:FnF prog 40:=⟨_,func40,kr,rfl⟩
instance Uy:FnF prog 114:=⟨_,func114,kr,rfl⟩
instance Xm:FnF prog 164:=⟨_,func164,kr,rfl⟩
instance nV:FnF prog 76:=⟨_,func76,kr,rfl⟩
instance Hb:ZerF prog 48 [.int .i64 0,.int .i64 0,.int .i64 0,.int .i64 0,.int .i64 0,.int .i64 0,.int .i64 0,.int .i64 0,.string ByteArray.empty,.string ByteArray.empty,.string ByteArray.empty,.int .i64 0,.slice none 0 0,.int .i64 0,.slice none 0 0,.bool false]:=⟨kr⟩
instance jD:FnF prog 127:=⟨_,func127,kr,rfl⟩
def Kj (a0:AU):Option Bool :=
 (ER a0.1 0 2).bind fun y1=>gb y1 (ER a0.2 1 6) (fun y2=>some (y1&&y2))
theorem Kk (a0:Bj) (h0:rd w [] a0) (r) (hp:Kj (dat a0)=some r):Sp 140 [.agg (cells a0).toArray] w [] (IsV (.bool r)):=by
 obtain ⟨a1,a2⟩:=a0;refine sa ?_;refine Spec.intro func140 rfl ntmps140 rfl ?_;unfold Kj at hp;replace hp:=dd hp;refine s2 ?_;refine bx fun a5=>?_;refine s3 ?_
 revert hp;refine bc fun y1 a3 hp=>?_
 replace hp:=BJ hp;obtain ⟨y2,a4,hp⟩:=hp;refine BX [2] mix kr rfl (s2 ?_);refine AZ Ar Ia.h (Ah (Aj rfl) (Ah BP (Ah BP (AF)))) (by exact fun hg w F hF hM=>Do w a1 0 2  _ a3) (s3 ?_);refine AZ (Am rfl rfl) Ia.h (Ah (Aq rfl) (Ah BP (Ah BP (AF)))) (by exact fun hg w F hF hM=>Do w a2 1 6  _ (a4 hg.2)) (s13 ?_);obtain rfl:=sj hp;refine s1 ?_;refine AE rfl (Ab rfl) ⟨rfl,rfl⟩ ms
def IK (a0:AU) (a1:AU):Option Bool :=
 some ((decide (a0.1 < a1.1))||((decide (a0.1=a1.1))&&(decide (a0.2 < a1.2))))
theorem KE (a0:Bj) (a1:Bj) (h0:rd w [] a0) (h1:rd w [] a1) (r) (hp:IK (dat a0) (dat a1)=some r):Sp 181 [.agg (cells a0).toArray,.agg (cells a1).toArray] w [] (IsV (.bool r)):=by
 obtain ⟨a2,a3⟩:=a0;obtain ⟨a4,a5⟩:=a1;refine sa ?_;refine Spec.intro func181 rfl ntmps181 rfl ?_;unfold IK at hp;replace hp:=dd hp;refine s2 ?_;refine bx fun a6=>?_;refine bx fun a7=>?_;refine s3 ?_;refine BX [4] mix kr rfl (s20 ?_);refine s20 ?_;refine s2 ?_;obtain rfl:=sj hp;refine s1 ?_;refine AE rfl (Ab rfl) ⟨rfl,rfl⟩ ms
def LU (a0:List AU):Option Bool :=
 BH (fun s1:Int=>cond (decide (s1 < (a0.length:Int))) ((idx a0 s1).bind fun y3=>Option.bind (Kj y3) (fun y4=>gb ((!(!y4))&&(decide (0 < s1))) (idx a0 (IntKind.wrap .i64 (s1 - 1))) (fun y5=>gb ((!(!y4))&&(decide (0 < s1))) (idx a0 s1) (fun y6=>gb ((!(!y4))&&(decide (0 < s1))) (IK y5 y6) (fun y7=>cond ((!y4)||((decide (0 < s1))&&(!y7))) (Option.map .inr (some false)) (some (.inl (IntKind.wrap .i64 (s1+1))))))))) (Option.map .inr (some true))) 0
theorem Oz (a0:TL Bj) (h0:rd w [] a0) (r) (hp:LU (dat a0)=some r):Sp 141 [a0.hdr] w [] (IsV (.bool r)):=by
 refine Spec.intro func141 rfl ntmps141 rfl ?_;unfold LU at hp;replace hp:=dd hp;refine s10 ?_;refine BW (σ:=Int) dat (fun (a1:Int)=>[(3,.int .i64 a1)]) (fun (a1:Int)=>[]) [(0,_)] [] 0 hp sb ms ?_;clear hp;rintro a1 x1 hp a2;replace hp:=dd hp;refine kq [0,3] ?_;refine s8 ?_;refine kp [0,3,7] ?_;refine Ai rfl (fun q2=>?_) (fun q2=>?_)
 ·replace hp:=Aw q2 hp;refine s4 ?_;replace hp:=AX hp;obtain ⟨⟨a6,a7⟩,a3,hp⟩:=hp
  revert hp;refine bc fun y4 ae hp=>?_
  replace hp:=DB hp;obtain ⟨⟨a8,aa⟩,a4,hp⟩:=hp;replace hp:=DB hp;obtain ⟨⟨ab,ac⟩,a5,hp⟩:=hp;replace hp:=BJ hp;obtain ⟨y7,af,hp⟩:=hp;refine BX [32] mix kr rfl (s2 ?_);refine Cn (X:=a0) Ar (Aj rfl) (Aj rfl) Cq.h (Ac h0) (fun _=>a3) ?_;refine Bq Ar (Aj rfl) (fun hg=>Bl (Ac h0) (a3).2) (by exact Bp.h) ?_;refine AZ Ar Uw.h (Ah (Aj rfl) (AF)) (by exact fun hg w F hF hM=>Kk w (a6,a7) (AK dv hF hM) _ ae) (s8 ?_);refine Cn (X:=a0) (Am rfl rfl) (Aq rfl) (Aq rfl) Cq.h (Ac h0) (fun hg=>a4 (GV (BY hg.1.2) hg.2)) ?_;refine Bq (Am rfl rfl) (Aq rfl) (fun hg=>Bl (Ac h0) (a4 (GV (BY hg.1.2) hg.2)).2) (by exact Bp.h) (s2 ?_);refine Cn (X:=a0) (Am rfl rfl) (Aq rfl) (Aq rfl) Cq.h (Ac h0) (fun hg=>a5 (GV (BY hg.1.2) hg.2)) ?_;refine Bq (Am rfl rfl) (Aq rfl) (fun hg=>Bl (Ac h0) (a5 (GV (BY hg.1.2) hg.2)).2) (by exact Bp.h) ?_;refine AZ (Am rfl rfl) Xk.h (Ah (Aq rfl) (Ah (Aq rfl) (AF))) (by exact fun hg w F hF hM=>KE w (a8,aa) (ab,ac) (AK dv hF hM) (AK dv hF hM) _ (af (GV (BY hg.1.2) hg.2))) (s20 ?_);refine s8 ?_;refine kp [0,3,32] ?_;refine Ai rfl (fun q8=>?_) (fun q8=>?_)
  ·replace hp:=Aw q8 hp;refine s4 ?_;replace hp:=Bu hp;obtain ⟨a9,hp,ag⟩:=hp;obtain rfl:=a2 _ ag;obtain rfl:=sj hp;refine s1 ?_;refine AE rfl (Ab rfl) ⟨rfl,rfl⟩ ms
  replace hp:=Ax q8 hp;refine s6 ?_;exact ⟨IntKind.wrap .i64 (a1+1),sb,(.sub ms),Bo hp⟩
 replace hp:=Ax q2 hp;refine BF ?_;replace hp:=Bu hp;obtain ⟨ah,hp,ad⟩:=hp;obtain rfl:=a2 _ ad;refine s4 ?_;obtain rfl:=sj hp;refine s1 ?_;refine AE rfl (Ab rfl) ⟨rfl,rfl⟩ ms
def LV (a0:List AU) (a1:AU):Option Bool :=
 BH (fun s1:Int=>cond (decide (s1 < (a0.length:Int))) ((idx a0 s1).bind fun y3=>cond (decide (y3.1=a1.1)&&(decide (y3.2=a1.2)&&true)) (Option.map .inr (some true)) (some (.inl (IntKind.wrap .i64 (s1+1))))) (Option.map .inr (some false))) 0
theorem OA (a0:TL Bj) (a1:Bj) (h0:rd w [] a0) (h1:rd w [] a1) (r) (hp:LV (dat a0) (dat a1)=some r):Sp 142 [a0.hdr,.agg (cells a1).toArray] w [] (IsV (.bool r)):=by
 obtain ⟨aa,ab⟩:=a1;refine sa ?_;refine Spec.intro func142 rfl ntmps142 rfl ?_;unfold LV at hp;replace hp:=dd hp;refine s2 ?_;refine bx fun a7=>?_;refine s8 ?_;refine BW (σ:=Int) dat (fun (a2:Int)=>[(5,.int .i64 a2)]) (fun (a2:Int)=>[]) [(0,_),(3,_)] [blk a7 _ _] 0 hp sb ms ?_;clear hp;rintro a2 x1 hp a3;replace hp:=dd hp;refine kq [0,3,5] ?_;refine s8 ?_;refine kp [0,3,5,9] ?_;refine Ai rfl (fun q2=>?_) (fun q2=>?_)
 ·replace hp:=Aw q2 hp;refine s4 ?_;replace hp:=AX hp;obtain ⟨⟨ac,ad⟩,a4,hp⟩:=hp;refine BX [17] mix kr rfl (s2 ?_);refine Cn (X:=a0) Ar (Aj rfl) (Aj rfl) Cq.h (Ac h0) (fun _=>a4) ?_;refine Bq Ar (Aj rfl) (fun hg=>Bl (Ac h0) (a4).2) (by exact Bp.h) (s1 ?_);refine Ez Ar (Aj rfl) (Aj rfl) (fun hg=>(Hs FT (EqS.consI AM.h Eu.h rfl rfl (EqS.consI AM.h Eu.h rfl rfl EqS.nil)))) (s8 ?_);refine kp [0,3,5,17] ?_;refine Ai rfl (fun q4=>?_) (fun q4=>?_)
  ·replace hp:=Aw q4 hp;refine s4 ?_;replace hp:=Bu hp;obtain ⟨a5,hp,a8⟩:=hp;obtain rfl:=a3 _ a8;obtain rfl:=sj hp;refine s1 ?_;refine AE rfl (Ab rfl) ⟨rfl,rfl⟩ ms
  replace hp:=Ax q4 hp;refine s6 ?_;exact ⟨IntKind.wrap .i64 (a2+1),sb,(.sub ms),Bo hp⟩
 replace hp:=Ax q2 hp;refine BF ?_;replace hp:=Bu hp;obtain ⟨a6,hp,a9⟩:=hp;obtain rfl:=a3 _ a9;refine s4 ?_;obtain rfl:=sj hp;refine s1 ?_;refine AE rfl (Ab rfl) ⟨rfl,rfl⟩ ms
def Gs (a0:AD):Option Bool :=
 (Kj a0.1).bind fun y1=>gb (!(!y1)) (ER a0.2.1 (-1) 600) (fun y2=>gb (!((!y1)||(!y2))) (ER a0.2.2.1 (-1) a0.2.1) (fun y3=>gb (!(((!y1)||(!y2))||(!y3))) (ER a0.2.2.2.1 0 3) (fun y4=>gb (!((((!y1)||(!y2))||(!y3))||(!y4))) (Ij a0.2.2.2.2.1) (fun y5=>gb (!(((((!y1)||(!y2))||(!y3))||(!y4))||(!y5))) (ER a0.2.2.2.2.2.1 0 60) (fun y6=>gb (!((((((!y1)||(!y2))||(!y3))||(!y4))||(!y5))||(!y6))) (LU a0.2.2.2.2.2.2.1) (fun y7=>gb (!(((((((!y1)||(!y2))||(!y3))||(!y4))||(!y5))||(!y6))||(!y7))) (LV a0.2.2.2.2.2.2.1 a0.1) (fun y8=>cond ((((((((!y1)||(!y2))||(!y3))||(!y4))||(!y5))||(!y6))||(!y7))||y8) (some false) (some ((!decide (a0.2.2.2.1=0))||(((((decide (a0.2.2.1=(-1)))&&(decide (a0.2.2.2.2.1.1=0)))&&(decide (a0.2.2.2.2.2.1=0)))&&(decide ((a0.2.2.2.2.2.2.1.length:Int)=0)))&&(!a0.2.2.2.2.2.2.2)))))))))))
theorem HM (a0:Av) (h0:rd w [] a0) (r) (hp:Gs (dat a0)=some r):Sp 180 [.agg (cells a0).toArray] w [] (IsV (.bool r)):=by
 obtain ⟨⟨a2,a3⟩,a4,aa,ab,⟨ac,ad,ae,af,a5,a6,a7,a8⟩,a9,a1,ap⟩:=a0;refine sa ?_;refine Spec.intro func180 rfl ntmps180 rfl ?_;unfold Gs at hp;replace hp:=dd hp;refine s2 ?_;refine bx fun aq=>?_;refine s4 ?_
 revert hp;refine bc fun y1 ag hp=>?_
 replace hp:=BJ hp;obtain ⟨y2,ah,hp⟩:=hp;replace hp:=BJ hp;obtain ⟨y3,ai,hp⟩:=hp;replace hp:=BJ hp;obtain ⟨y4,aj,hp⟩:=hp;replace hp:=BJ hp;obtain ⟨y5,ak,hp⟩:=hp;replace hp:=BJ hp;obtain ⟨y6,am,hp⟩:=hp;replace hp:=BJ hp;obtain ⟨y7,an,hp⟩:=hp;replace hp:=BJ hp;obtain ⟨y8,ao,hp⟩:=hp;refine BX [51] mix kr rfl (s1 ?_);refine Bq Ar (Aj rfl) (fun hg=>AT (Ag mm) 0 2 rfl) (by exact Bp.h) ?_;refine AZ Ar Uw.h (Ah (Aj rfl) (AF)) (by exact fun hg w F hF hM=>Kk w (a2,a3) (AK dv hF hM) _ ag) (s4 ?_);refine AZ (Am rfl rfl) Ia.h (Ah (Aq rfl) (Ah BP (Ah BP (AF)))) (by exact fun hg w F hF hM=>Do w a4 (-1) 600  _ (ah (BY hg.2))) (s7 ?_);refine AZ (Am rfl rfl) Ia.h (Ah (Aq rfl) (Ah BP (Ah (Aq rfl) (AF)))) (by exact fun hg w F hF hM=>Do w aa (-1) a4  _ (ai (BY hg.2))) (s5 ?_);refine AZ (Am rfl rfl) Ia.h (Ah (Aq rfl) (Ah BP (Ah BP (AF)))) (by exact fun hg w F hF hM=>Do w ab 0 3  _ (aj (BY hg.2))) (s4 ?_);refine Bq (Am rfl rfl) (Aq rfl) (fun hg=>AT (Ag mm) 5 8 rfl) (by exact CS.h) ?_;refine AZ (Am rfl rfl) XM.h (Ah (Aq rfl) (AF)) (by exact fun hg w F hF hM=>JC w (ac,ad,ae,af,a5,a6,a7,a8) (AK (Ac h0.2.2.2.2.1) hF hM) _ (ak (BY hg.2))) (s5 ?_);refine AZ (Am rfl rfl) Ia.h (Ah (Aq rfl) (Ah BP (Ah BP (AF)))) (by exact fun hg w F hF hM=>Do w a9 0 60  _ (am (BY hg.2))) (s5 ?_);refine AZ (Am rfl rfl) aY.h (Ah (Aq rfl) (AF)) (by exact fun hg w F hF hM=>Oz w a1 (AK (Ac h0.2.2.2.2.2.2.1) hF hM) _ (an (BY hg.2))) (s6 ?_);refine Bq (Am rfl rfl) (Aq rfl) (fun hg=>AT (Ag mm) 0 2 rfl) (by exact Bp.h) ?_;refine AZ (Am rfl rfl) aZ.h (Ah (Aq rfl) (Ah (Aq rfl) (AF))) (by exact fun hg w F hF hM=>OA w a1 (a2,a3) (AK (Ac h0.2.2.2.2.2.2.1) hF hM) (AK dv hF hM) _ (ao (BY hg.2))) (s20 ?_);refine s20 ?_;refine s12 ?_;refine kp [1,51] ?_;refine Ai rfl (fun q9=>?_) (fun q9=>?_)
 ·replace hp:=Aw q9 hp;refine s4 ?_;obtain rfl:=sj hp;refine s1 ?_;refine AE rfl (Ab rfl) ⟨rfl,rfl⟩ ms
 replace hp:=Ax q9 hp;refine s2 ?_;refine BX [2] mix kr rfl (s10 ?_);refine BA (fo:=5) (Am rfl rfl) (Aq rfl) (fun hg=>Ag mm) AM.h rfl (s10 ?_);refine GF (X:=a1) (Am rfl rfl) (Aq rfl) Cq.h (s20 ?_);refine s20 ?_;refine s2 ?_;obtain rfl:=sj hp;refine s1 ?_;refine AE rfl (Ab rfl) ⟨rfl,rfl⟩ ms
def MU (a0:List AD):Option Bool :=
 BH (fun s1:Int=>cond (decide (s1 < (a0.length:Int))) ((idx a0 s1).bind fun y3=>Option.bind (Gs y3) (fun y4=>gb ((!(!y4))&&(decide (0 < s1))) (idx a0 (IntKind.wrap .i64 (s1 - 1))) (fun y5=>gb ((!(!y4))&&(decide (0 < s1))) (idx a0 s1) (fun y6=>gb ((!(!y4))&&(decide (0 < s1))) (IK y5.1 y6.1) (fun y7=>cond ((!y4)||((decide (0 < s1))&&(!y7))) (Option.map .inr (some false)) (some (.inl (IntKind.wrap .i64 (s1+1))))))))) (Option.map .inr (some true))) 0
theorem Vl (a0:TL Av) (h0:rd w [] a0) (r) (hp:MU (dat a0)=some r):Sp 137 [a0.hdr] w [] (IsV (.bool r)):=by
 refine Spec.intro func137 rfl ntmps137 rfl ?_;unfold MU at hp;replace hp:=dd hp;refine s10 ?_;refine BW (σ:=Int) dat (fun (a1:Int)=>[(3,.int .i64 a1)]) (fun (a1:Int)=>[]) [(0,_)] [] 0 hp sb ms ?_;clear hp;rintro a1 x1 hp ab;replace hp:=dd hp;refine kq [0,3] ?_;refine s8 ?_;refine kp [0,3,7] ?_;refine Ai rfl (fun q2=>?_) (fun q2=>?_)
 ·replace hp:=Aw q2 hp;refine s4 ?_;replace hp:=AX hp;obtain ⟨⟨⟨ae,af⟩,ag,ah,ai,⟨aj,ak,am,an,a3,a4,a5,a6⟩,a7,a8,aa⟩,a2,hp⟩:=hp
  revert hp;refine bc fun y4 av hp=>?_
  replace hp:=DB hp;obtain ⟨⟨⟨ao,ap⟩,be,bf,bg,⟨bh,bi,bj,bk,ay,az,b0,b1⟩,b2,b3,b4⟩,ac,hp⟩:=hp;replace hp:=DB hp;obtain ⟨⟨⟨aq,ar⟩,bl,bm,bn,⟨bo,bp,bq,br,b5,b6,b7,b8⟩,b9,bb,bd⟩,ad,hp⟩:=hp;replace hp:=BJ hp;obtain ⟨y7,aw,hp⟩:=hp;refine BX [34] mix kr rfl (s2 ?_);refine Cn (X:=a0) Ar (Aj rfl) (Aj rfl) CG.h (Ac h0) (fun _=>a2) ?_;refine Bq Ar (Aj rfl) (fun hg=>Bl (Ac h0) (a2).2) (by exact DK.h) ?_;refine AZ Ar SP.h (Ah (Aj rfl) (AF)) (by exact fun hg w F hF hM=>HM w ((ae,af),ag,ah,ai,(aj,ak,am,an,a3,a4,a5,a6),a7,a8,aa) (AK (Aa dv (Aa Ad (Aa Ad (Aa Ad (Aa (Bn (Ae (Ae (Ae (Ae (Ci (Ac h0) (a2).2)))))) (Aa Ad (Aa (Bn (Ae (Ae (Ae (Ae (Ae (Ae (Ci (Ac h0) (a2).2)))))))) CK))))))) hF hM) _ av) (s8 ?_);refine Cn (X:=a0) (Am rfl rfl) (Aq rfl) (Aq rfl) CG.h (Ac h0) (fun hg=>ac (GV (BY hg.1.2) hg.2)) (s1 ?_);refine Bq (Am rfl rfl) (Aq rfl) (fun hg=>AT (Bl (Ac h0) (ac (GV (BY hg.1.2) hg.2)).2) 0 2 rfl) (by exact Bp.h) (s2 ?_);refine Cn (X:=a0) (Am rfl rfl) (Aq rfl) (Aq rfl) CG.h (Ac h0) (fun hg=>ad (GV (BY hg.1.2) hg.2)) (s1 ?_);refine Bq (Am rfl rfl) (Aq rfl) (fun hg=>AT (Bl (Ac h0) (ad (GV (BY hg.1.2) hg.2)).2) 0 2 rfl) (by exact Bp.h) ?_;refine AZ (Am rfl rfl) Xk.h (Ah (Aq rfl) (Ah (Aq rfl) (AF))) (by exact fun hg w F hF hM=>KE w (ao,ap) (aq,ar) (AK dv hF hM) (AK dv hF hM) _ (aw (GV (BY hg.1.2) hg.2))) (s20 ?_);refine s10 ?_;refine kp [0,3,34] ?_;refine Ai rfl (fun q8=>?_) (fun q8=>?_)
  ·replace hp:=Aw q8 hp;refine s4 ?_;replace hp:=Bu hp;obtain ⟨a9,hp,ax⟩:=hp;obtain rfl:=ab _ ax;obtain rfl:=sj hp;refine s1 ?_;refine AE rfl (Ab rfl) ⟨rfl,rfl⟩ ms
  replace hp:=Ax q8 hp;refine s6 ?_;exact ⟨IntKind.wrap .i64 (a1+1),sb,(.sub ms),Bo hp⟩
 replace hp:=Ax q2 hp;refine BF ?_;replace hp:=Bu hp;obtain ⟨bs,hp,au⟩:=hp;obtain rfl:=ab _ au;refine s4 ?_;obtain rfl:=sj hp;refine s1 ?_;refine AE rfl (Ab rfl) ⟨rfl,rfl⟩ ms
def Kl (a0:AU):Option Bool :=
 (Dz a0.1 0 2).bind fun y1=>gb y1 (Dz a0.2 1 6) (fun y2=>some (y1&&y2))
theorem Km (a0:Bj) (h0:rd w [] a0) (r) (hp:Kl (dat a0)=some r):Sp 113 [.agg (cells a0).toArray] w [] (IsV (.bool r)):=by
 obtain ⟨a1,a2⟩:=a0;refine sa ?_;refine Spec.intro func113 rfl ntmps113 rfl ?_;unfold Kl at hp;replace hp:=dd hp;refine s2 ?_;refine bx fun a5=>?_;refine s3 ?_
 revert hp;refine bc fun y1 a3 hp=>?_
 replace hp:=BJ hp;obtain ⟨y2,a4,hp⟩:=hp;refine BX [2] mix kr rfl (s2 ?_);refine AZ Ar HD.h (Ah (Aj rfl) (Ah BP (Ah BP (AF)))) (by exact fun hg w F hF hM=>CN w a1 0 2  _ a3) (s3 ?_);refine AZ (Am rfl rfl) HD.h (Ah (Aq rfl) (Ah BP (Ah BP (AF)))) (by exact fun hg w F hF hM=>CN w a2 1 6  _ (a4 hg.2)) (s13 ?_);obtain rfl:=sj hp;refine s1 ?_;refine AE rfl (Ab rfl) ⟨rfl,rfl⟩ ms
def ES (a0:AU) (a1:AU):Option Int :=
 cond ((decide (a0.1 < a1.1))||((decide (a0.1=a1.1))&&(decide (a0.2 < a1.2)))) (some (-1)) (cond (decide (a0.1=a1.1)&&(decide (a0.2=a1.2)&&true)) (some 0) (some 1))
theorem Ig (a0:Bj) (a1:Bj) (h0:rd w [] a0) (h1:rd w [] a1) (r) (hp:ES (dat a0) (dat a1)=some r):Sp 128 [.agg (cells a0).toArray,.agg (cells a1).toArray] w [] (IsV (.int .i64 r)):=by
 obtain ⟨a2,a3⟩:=a0;obtain ⟨a4,a5⟩:=a1;refine sa ?_;refine Spec.intro func128 rfl ntmps128 rfl ?_;unfold ES at hp;replace hp:=dd hp;refine s2 ?_;refine bx fun a6=>?_;refine bx fun a7=>?_;refine s5 ?_;refine BX [5] mix kr rfl (s20 ?_);refine s20 ?_;refine s2 ?_;refine kp [2,3,5] ?_;refine Ai rfl (fun q1=>?_) (fun q1=>?_)
 ·replace hp:=Aw q1 hp;refine s4 ?_;obtain rfl:=sj hp;refine s1 ?_;refine AE rfl (Ab rfl) ⟨rfl,rfl⟩ ms
 replace hp:=Ax q1 hp;refine s4 ?_;refine Be rfl rfl rfl (Hs FT (EqS.consI AM.h Eu.h rfl rfl (EqS.consI AM.h Eu.h rfl rfl EqS.nil))) (s2 ?_);refine kp [25] ?_;refine Ai rfl (fun q2=>?_) (fun q2=>?_)
 ·replace hp:=Aw q2 hp;refine s4 ?_;obtain rfl:=sj hp;refine s1 ?_;refine AE rfl (Ab rfl) ⟨rfl,rfl⟩ ms
 replace hp:=Ax q2 hp;refine s5 ?_;obtain rfl:=sj hp;refine s1 ?_;refine AE rfl (Ab rfl) ⟨rfl,rfl⟩ ms
def KV (a0:List AU):Option Bool :=
 BH (fun s1:Int=>cond (decide (s1 < (a0.length:Int))) ((idx a0 s1).bind fun y3=>Option.bind (Kl y3) (fun y4=>gb ((!(!y4))&&(decide (0 < s1))) (idx a0 (IntKind.wrap .i64 (s1 - 1))) (fun y5=>gb ((!(!y4))&&(decide (0 < s1))) (ES y5 y3) (fun y6=>cond ((!y4)||((decide (0 < s1))&&(decide (0≤y6)))) (Option.map .inr (some false)) (some (.inl (IntKind.wrap .i64 (s1+1)))))))) (Option.map .inr (some true))) 0
theorem Lu (a0:TL Bj) (h0:rd w [] a0) (r) (hp:KV (dat a0)=some r):Sp 164 [a0.hdr] w [] (IsV (.bool r)):=by
 refine Spec.intro func164 rfl ntmps164 rfl ?_;unfold KV at hp;replace hp:=dd hp;refine s12 ?_;refine BW (σ:=Int) dat (fun (a1:Int)=>[(7,.int .i64 a1)]) (fun (a1:Int)=>[]) [(0,_),(5,_),(6,_)] [] 0 hp sb ms ?_;clear hp;rintro a1 x1 hp a4;replace hp:=dd hp;refine kq [0,5,6,7] ?_;refine s5 ?_;refine kp [0,5,6,7,8] ?_;refine Ai rfl (fun q2=>?_) (fun q2=>?_)
 ·replace hp:=Aw q2 hp;refine s6 ?_;replace hp:=AX hp;obtain ⟨⟨a2,a3⟩,a5,hp⟩:=hp;refine Cj (X:=a0) rfl rfl rfl Cq.h (Ac h0) a5 ?_;refine AW rfl rfl (Bl (Ac h0) (a5).2) (by exact Bp.h) ?_;refine al fun af=>?_;refine s4 ?_
  revert hp;refine bc fun y4 ab hp=>?_
  replace hp:=DB hp;obtain ⟨⟨a7,aa⟩,a6,hp⟩:=hp;replace hp:=BJ hp;obtain ⟨y6,ac,hp⟩:=hp;refine BX [28] mix kr rfl (s1 ?_);refine AZ Ar Ux.h (Ah (Aj rfl) (AF)) (by exact fun hg w F hF hM=>Km w (a2,a3) (AK dv hF hM) _ ab) (s8 ?_);refine Cn (X:=a0) (Am rfl rfl) (Aq rfl) (Aq rfl) Cq.h (Ac h0) (fun hg=>a6 (GV (BY hg.1.2) hg.2)) ?_;refine Bq (Am rfl rfl) (Aq rfl) (fun hg=>Bl (Ac h0) (a6 (GV (BY hg.1.2) hg.2)).2) (by exact Bp.h) (s1 ?_);refine AZ (Am rfl rfl) Xl.h (Ah (Aq rfl) (Ah (Aq rfl) (AF))) (by exact fun hg w F hF hM=>Ig w (a7,aa) (a2,a3) (AK dv hF hM) (AK dv hF hM) _ (ac (GV (BY hg.1.2) hg.2))) (s20 ?_);refine s2 ?_;refine kp [0,5,6,7,28] ?_;refine Ai rfl (fun q7=>?_) (fun q7=>?_)
  ·replace hp:=Aw q7 hp;refine s4 ?_;replace hp:=Bu hp;obtain ⟨a8,hp,ad⟩:=hp;obtain rfl:=a4 _ ad;obtain rfl:=sj hp;refine s1 ?_;refine AE rfl (Ab rfl) ⟨rfl,rfl⟩ ms
  replace hp:=Ax q7 hp;refine s5 ?_;exact ⟨IntKind.wrap .i64 (a1+1),sb,(.sub ms),Bo hp⟩
 replace hp:=Ax q2 hp;refine BF ?_;replace hp:=Bu hp;obtain ⟨a9,hp,ae⟩:=hp;obtain rfl:=a4 _ ae;refine s4 ?_;obtain rfl:=sj hp;refine s1 ?_;refine AE rfl (Ab rfl) ⟨rfl,rfl⟩ ms
def GO (a0:List AU) (a1:AU):Option Int :=
 BH (fun s1:Int=>cond (decide (s1 < (a0.length:Int))) ((idx a0 s1).bind fun y3=>cond (decide (a1.1=y3.1)&&(decide (a1.2=y3.2)&&true)) (Option.map .inr (some s1)) (some (.inl (IntKind.wrap .i64 (s1+1))))) (Option.map .inr (some (-1)))) 0
theorem Ns (a0:TL Bj) (a1:Bj) (h0:rd w [] a0) (h1:rd w [] a1) (r) (hp:GO (dat a0) (dat a1)=some r):Sp 40 [a0.hdr,.agg (cells a1).toArray] w [] (IsV (.int .i64 r)):=by
 obtain ⟨aa,ab⟩:=a1;refine sa ?_;refine Spec.intro func40 rfl ntmps40 rfl ?_;unfold GO at hp;replace hp:=dd hp;refine s2 ?_;refine bx fun a7=>?_;refine s10 ?_;refine BW (σ:=Int) dat (fun (a2:Int)=>[(8,.int .i64 a2)]) (fun (a2:Int)=>[]) [(0,_),(3,_),(7,_)] [blk a7 _ _] 0 hp sb ms ?_;clear hp;rintro a2 x1 hp a3;replace hp:=dd hp;refine kq [0,3,7,8] ?_;refine s5 ?_;refine kp [0,3,7,8,9] ?_;refine Ai rfl (fun q2=>?_) (fun q2=>?_)
 ·replace hp:=Aw q2 hp;refine s9 ?_;replace hp:=AX hp;obtain ⟨⟨ac,ad⟩,a4,hp⟩:=hp;refine BX [16] mix kr rfl (s3 ?_);refine Cn (X:=a0) Ar (Aj rfl) (Aj rfl) Cq.h (Ac h0) (fun _=>a4) ?_;refine Bq Ar (Aj rfl) (fun hg=>Bl (Ac h0) (a4).2) (by exact Bp.h) ?_;refine Ez Ar (Aj rfl) (Aj rfl) (fun hg=>(Hs FT (EqS.consI AM.h Eu.h rfl rfl (EqS.consI AM.h Eu.h rfl rfl EqS.nil)))) (s8 ?_);refine kp [0,3,5,7,8,16] ?_;refine Ai rfl (fun q4=>?_) (fun q4=>?_)
  ·replace hp:=Aw q4 hp;refine s5 ?_;replace hp:=Bu hp;obtain ⟨a5,hp,a8⟩:=hp;obtain rfl:=a3 _ a8;obtain rfl:=sj hp;refine s1 ?_;refine AE rfl (Ab rfl) ⟨rfl,rfl⟩ ms
  replace hp:=Ax q4 hp;refine s5 ?_;exact ⟨IntKind.wrap .i64 (a2+1),sb,(.sub ms),Bo hp⟩
 replace hp:=Ax q2 hp;refine BF ?_;replace hp:=Bu hp;obtain ⟨a6,hp,a9⟩:=hp;obtain rfl:=a3 _ a9;refine s4 ?_;obtain rfl:=sj hp;refine s1 ?_;refine AE rfl (Ab rfl) ⟨rfl,rfl⟩ ms
def EE (a0:List AU) (a1:AU):Option Bool :=
 (GO a0 a1).bind fun y1=>some (decide (0≤y1))
theorem If (a0:TL Bj) (a1:Bj) (h0:rd w [] a0) (h1:rd w [] a1) (r) (hp:EE (dat a0) (dat a1)=some r):Sp 76 [a0.hdr,.agg (cells a1).toArray] w [] (IsV (.bool r)):=by
 obtain ⟨a2,a3⟩:=a1;refine sa ?_;refine Spec.intro func76 rfl ntmps76 rfl ?_;unfold EE at hp;replace hp:=dd hp;refine s2 ?_;refine bx fun a5=>?_;refine s6 ?_
 revert hp;refine bc fun y1 a4 hp=>?_
 refine Bi rfl sZ.h rfl (by exact fun w hw=>Ns w a0 (a2,a3) (Ap (Ac h0) hw) (Ap dv hw) _ a4) (s3 ?_);obtain rfl:=sj hp;refine s1 ?_;refine AE rfl (Ab rfl) ⟨rfl,rfl⟩ ms
def KH (a0:AD):Option Bool :=
 (Kl a0.1).bind fun y1=>gb (!(!y1)) (Dz a0.2.1 (-1) 600) (fun y2=>gb (!((!y1)||(!y2))) (Dz a0.2.2.1 (-1) a0.2.1) (fun y3=>gb (!(((!y1)||(!y2))||(!y3))) (Dz a0.2.2.2.1 0 3) (fun y4=>gb (!((((!y1)||(!y2))||(!y3))||(!y4))) (Il a0.2.2.2.2.1) (fun y5=>gb (!(((((!y1)||(!y2))||(!y3))||(!y4))||(!y5))) (Dz a0.2.2.2.2.2.1 0 60) (fun y6=>gb (!((((((!y1)||(!y2))||(!y3))||(!y4))||(!y5))||(!y6))) (KV a0.2.2.2.2.2.2.1) (fun y7=>gb (!(((((((!y1)||(!y2))||(!y3))||(!y4))||(!y5))||(!y6))||(!y7))) (EE a0.2.2.2.2.2.2.1 a0.1) (fun y8=>cond ((((((((!y1)||(!y2))||(!y3))||(!y4))||(!y5))||(!y6))||(!y7))||y8) (some false) (some ((!decide (a0.2.2.2.1=0))||(((((decide (a0.2.2.1=(-1)))&&(decide (a0.2.2.2.2.1.1=0)))&&(decide (a0.2.2.2.2.2.1=0)))&&(decide ((a0.2.2.2.2.2.2.1.length:Int)=0)))&&(!a0.2.2.2.2.2.2.2)))))))))))
theorem RP (a0:Av) (h0:rd w [] a0) (r) (hp:KH (dat a0)=some r):Sp 127 [.agg (cells a0).toArray] w [] (IsV (.bool r)):=by
 obtain ⟨⟨a2,a3⟩,a4,aa,ab,⟨ac,ad,ae,af,a5,a6,a7,a8⟩,a9,a1,ap⟩:=a0;refine sa ?_;refine Spec.intro func127 rfl ntmps127 rfl ?_;unfold KH at hp;replace hp:=dd hp;refine s2 ?_;refine bx fun aq=>?_;refine s4 ?_
 revert hp;refine bc fun y1 ag hp=>?_
 replace hp:=BJ hp;obtain ⟨y2,ah,hp⟩:=hp;replace hp:=BJ hp;obtain ⟨y3,ai,hp⟩:=hp;replace hp:=BJ hp;obtain ⟨y4,aj,hp⟩:=hp;replace hp:=BJ hp;obtain ⟨y5,ak,hp⟩:=hp;replace hp:=BJ hp;obtain ⟨y6,am,hp⟩:=hp;replace hp:=BJ hp;obtain ⟨y7,an,hp⟩:=hp;replace hp:=BJ hp;obtain ⟨y8,ao,hp⟩:=hp;refine BX [51] mix kr rfl (s1 ?_);refine Bq Ar (Aj rfl) (fun hg=>AT (Ag mm) 0 2 rfl) (by exact Bp.h) ?_;refine AZ Ar Ux.h (Ah (Aj rfl) (AF)) (by exact fun hg w F hF hM=>Km w (a2,a3) (AK dv hF hM) _ ag) (s4 ?_);refine AZ (Am rfl rfl) HD.h (Ah (Aq rfl) (Ah BP (Ah BP (AF)))) (by exact fun hg w F hF hM=>CN w a4 (-1) 600  _ (ah (BY hg.2))) (s7 ?_);refine AZ (Am rfl rfl) HD.h (Ah (Aq rfl) (Ah BP (Ah (Aq rfl) (AF)))) (by exact fun hg w F hF hM=>CN w aa (-1) a4  _ (ai (BY hg.2))) (s5 ?_);refine AZ (Am rfl rfl) HD.h (Ah (Aq rfl) (Ah BP (Ah BP (AF)))) (by exact fun hg w F hF hM=>CN w ab 0 3  _ (aj (BY hg.2))) (s4 ?_);refine Bq (Am rfl rfl) (Aq rfl) (fun hg=>AT (Ag mm) 5 8 rfl) (by exact CS.h) ?_;refine AZ (Am rfl rfl) Uy.h (Ah (Aq rfl) (AF)) (by exact fun hg w F hF hM=>JD w (ac,ad,ae,af,a5,a6,a7,a8) (AK (Ac h0.2.2.2.2.1) hF hM) _ (ak (BY hg.2))) (s5 ?_);refine AZ (Am rfl rfl) HD.h (Ah (Aq rfl) (Ah BP (Ah BP (AF)))) (by exact fun hg w F hF hM=>CN w a9 0 60  _ (am (BY hg.2))) (s5 ?_);refine AZ (Am rfl rfl) Xm.h (Ah (Aq rfl) (AF)) (by exact fun hg w F hF hM=>Lu w a1 (AK (Ac h0.2.2.2.2.2.2.1) hF hM) _ (an (BY hg.2))) (s6 ?_);refine Bq (Am rfl rfl) (Aq rfl) (fun hg=>AT (Ag mm) 0 2 rfl) (by exact Bp.h) ?_;refine AZ (Am rfl rfl) nV.h (Ah (Aq rfl) (Ah (Aq rfl) (AF))) (by exact fun hg w F hF hM=>If w a1 (a2,a3) (AK (Ac h0.2.2.2.2.2.2.1) hF hM) (AK dv hF hM) _ (ao (BY hg.2))) (s20 ?_);refine s20 ?_;refine s12 ?_;refine kp [1,51] ?_;refine Ai rfl (fun q9=>?_) (fun q9=>?_)
 ·replace hp:=Aw q9 hp;refine s4 ?_;obtain rfl:=sj hp;refine s1 ?_;refine AE rfl (Ab rfl) ⟨rfl,rfl⟩ ms
 replace hp:=Ax q9 hp;refine s2 ?_;refine BX [2] mix kr rfl (s10 ?_);refine BA (fo:=5) (Am rfl rfl) (Aq rfl) (fun hg=>Ag mm) AM.h rfl (s10 ?_);refine GF (X:=a1) (Am rfl rfl) (Aq rfl) Cq.h (s20 ?_);refine s20 ?_;refine s2 ?_;obtain rfl:=sj hp;refine s1 ?_;refine AE rfl (Ab rfl) ⟨rfl,rfl⟩ ms
def Hm (a0:List AD):Option Bool :=
 BH (fun s1:Int=>cond (decide (s1 < (a0.length:Int))) ((idx a0 s1).bind fun y3=>Option.bind (KH y3) (fun y4=>gb ((!(!y4))&&(decide (0 < s1))) (idx a0 (IntKind.wrap .i64 (s1 - 1))) (fun y5=>gb ((!(!y4))&&(decide (0 < s1))) (ES y5.1 y3.1) (fun y6=>cond ((!y4)||((decide (0 < s1))&&(decide (0≤y6)))) (Option.map .inr (some false)) (some (.inl (IntKind.wrap .i64 (s1+1)))))))) (Option.map .inr (some true))) 0
theorem Im (a0:TL Av) (h0:rd w [] a0) (r) (hp:Hm (dat a0)=some r):Sp 73 [a0.hdr] w [] (IsV (.bool r)):=by
 refine Spec.intro func73 rfl ntmps73 rfl ?_;unfold Hm at hp;replace hp:=dd hp;refine s12 ?_;refine BW (σ:=Int) dat (fun (a1:Int)=>[(7,.int .i64 a1)]) (fun (a1:Int)=>[]) [(0,_),(5,_),(6,_)] [] 0 hp sb ms ?_;clear hp;rintro a1 x1 hp ae;replace hp:=dd hp;refine kq [0,5,6,7] ?_;refine s5 ?_;refine kp [0,5,6,7,8] ?_;refine Ai rfl (fun q2=>?_) (fun q2=>?_)
 ·replace hp:=Aw q2 hp;refine s6 ?_;replace hp:=AX hp;obtain ⟨⟨⟨a3,a4⟩,ag,ah,ai,⟨aj,ak,am,an,a5,a6,a7,aa⟩,ab,ac,ad⟩,a2,hp⟩:=hp;refine Cj (X:=a0) rfl rfl rfl CG.h (Ac h0) a2 ?_;refine AW rfl rfl (Bl (Ac h0) (a2).2) (by exact DK.h) ?_;refine al fun bb=>?_;refine s4 ?_
  revert hp;refine bc fun y4 aq hp=>?_
  replace hp:=DB hp;obtain ⟨⟨⟨ao,ap⟩,b3,b4,b5,⟨b6,b7,b8,b9,aw,ax,ay,az⟩,b0,b1,b2⟩,af,hp⟩:=hp;replace hp:=BJ hp;obtain ⟨y6,ar,hp⟩:=hp;refine BX [30] mix kr rfl (s1 ?_);refine AZ Ar jD.h (Ah (Aj rfl) (AF)) (by exact fun hg w F hF hM=>RP w ((a3,a4),ag,ah,ai,(aj,ak,am,an,a5,a6,a7,aa),ab,ac,ad) (AK (Aa dv (Aa Ad (Aa Ad (Aa Ad (Aa (Bn (Ae (Ae (Ae (Ae (Ci (Ac h0) (a2).2)))))) (Aa Ad (Aa (Bn (Ae (Ae (Ae (Ae (Ae (Ae (Ci (Ac h0) (a2).2)))))))) CK))))))) hF hM) _ aq) (s8 ?_);refine Cn (X:=a0) (Am rfl rfl) (Aq rfl) (Aq rfl) CG.h (Ac h0) (fun hg=>af (GV (BY hg.1.2) hg.2)) (s1 ?_);refine Bq (Am rfl rfl) (Aq rfl) (fun hg=>AT (Bl (Ac h0) (af (GV (BY hg.1.2) hg.2)).2) 0 2 rfl) (by exact Bp.h) (s1 ?_);refine Bq (Am rfl rfl) (Aq rfl) (fun hg=>AT (Ag mm) 0 2 rfl) (by exact Bp.h) ?_;refine AZ (Am rfl rfl) Xl.h (Ah (Aq rfl) (Ah (Aq rfl) (AF))) (by exact fun hg w F hF hM=>Ig w (ao,ap) (a3,a4) (AK dv hF hM) (AK dv hF hM) _ (ar (GV (BY hg.1.2) hg.2))) (s20 ?_);refine s4 ?_;refine kp [0,5,6,7,30] ?_;refine Ai rfl (fun q7=>?_) (fun q7=>?_)
  ·replace hp:=Aw q7 hp;refine s4 ?_;replace hp:=Bu hp;obtain ⟨a8,hp,au⟩:=hp;obtain rfl:=ae _ au;obtain rfl:=sj hp;refine s1 ?_;refine AE rfl (Ab rfl) ⟨rfl,rfl⟩ ms
  replace hp:=Ax q7 hp;refine s5 ?_;exact ⟨IntKind.wrap .i64 (a1+1),sb,(.sub ms),Bo hp⟩
 replace hp:=Ax q2 hp;refine BF ?_;replace hp:=Bu hp;obtain ⟨a9,hp,av⟩:=hp;obtain rfl:=ae _ av;refine s4 ?_;obtain rfl:=sj hp;refine s1 ?_;refine AE rfl (Ab rfl) ⟨rfl,rfl⟩ ms
end
end Go.Proofs.SL
namespace Go.Proofs.SL
open Go Tryz Go.Proofs.SL.GT
variable (w:World)
noncomputable section
set_option maxHeartbeats 2000000
abbrev Bb:=AU×Int×Int×Int×(List AU)×(List Int)×Bool
abbrev At:=Int×Int×(List AD)×(List Bb)
instance nW:ZerF prog 38 [.int .i64 0,.int .i64 0,.int .i64 0,.string ByteArray.empty,.string ByteArray.empty,.string ByteArray.empty,.int .i64 0,.slice none 0 0]:=⟨kr⟩
instance Rd:FnF prog 85:=⟨_,func85,kr,rfl⟩
instance nX:FnF prog 39:=⟨_,func39,kr,rfl⟩
instance IL:BldF prog 48 [(0,2),(2,1),(3,1),(4,1),(5,8),(13,1),(14,1),(15,1)] [.int .i64 0,.int .i64 0,.int .i64 0,.int .i64 0,.int .i64 0,.int .i64 0,.int .i64 0,.int .i64 0,.string ByteArray.empty,.string ByteArray.empty,.string ByteArray.empty,.int .i64 0,.slice none 0 0,.int .i64 0,.slice none 0 0,.bool false]:=⟨kr⟩
instance pT:FnF prog 179:=⟨_,func179,kr,rfl⟩
instance bA:FnF prog 135:=⟨_,func135,kr,rfl⟩
instance Re:FnF prog 123:=⟨_,func123,kr,rfl⟩
instance pU:FnF prog 134:=⟨_,func134,kr,rfl⟩
instance pV:FnF prog 133:=⟨_,func133,kr,rfl⟩
instance nY:FnF prog 86:=⟨_,func86,kr,rfl⟩
instance bB:FnF prog 87:=⟨_,func87,kr,rfl⟩
instance gN:FldF prog 141 0 0:=⟨kr⟩
instance gO:FldF prog 141 1 2:=⟨kr⟩
instance gP:FldF prog 141 2 3:=⟨kr⟩
instance gQ:FldF prog 141 3 4:=⟨kr⟩
instance gR:FldF prog 141 4 5:=⟨kr⟩
instance gS:FldF prog 141 5 6:=⟨kr⟩
instance IM:OneF prog 78:=⟨kr⟩
instance FD:ElF prog 78 3 1 8 [.int .i64 0]:=⟨kr⟩
instance SQ:FnF prog 136:=⟨_,func136,kr,rfl⟩
instance Vm:FldF prog 44 3 3:=⟨kr⟩
instance Pl:OneF prog 42:=⟨kr⟩
instance Ct:ElF prog 42 141 8 96 [.int .i64 0,.int .i64 0,.int .i64 0,.int .i64 0,.int .i64 0,.slice none 0 0,.slice none 0 0,.bool false]:=⟨kr⟩
instance lT:FldF prog 44 0 0:=⟨kr⟩
instance lU:FldF prog 44 1 1:=⟨kr⟩
instance Vn:FldF prog 44 2 2:=⟨kr⟩
instance Rg:OneF prog 41:=⟨kr⟩
instance pW:FnF prog 137:=⟨_,func137,kr,rfl⟩
instance FE:AggF prog 141 8:=⟨kr⟩
instance pX:FnF prog 138:=⟨_,func138,kr,rfl⟩
instance BC:AggF prog 44 4:=⟨kr⟩
instance Rh:FnF prog 139:=⟨_,func139,kr,rfl⟩
instance TK:FnF prog 62:=⟨_,func62,kr,rfl⟩
instance jE:FnF prog 115:=⟨_,func115,kr,rfl⟩
instance pY:FnF prog 160:=⟨_,func160,kr,rfl⟩
instance jF:FnF prog 159:=⟨_,func159,kr,rfl⟩
instance XN:FnF prog 73:=⟨_,func73,kr,rfl⟩
instance bC:FnF prog 110:=⟨_,func110,kr,rfl⟩
instance uO:ZerF prog 141 [.int .i64 0,.int .i64 0,.int .i64 0,.int .i64 0,.int .i64 0,.slice none 0 0,.slice none 0 0,.bool false]:=⟨kr⟩
instance pZ:FnF prog 111:=⟨_,func111,kr,rfl⟩
instance SR:FnF prog 112:=⟨_,func112,kr,rfl⟩
def FL (a0:CH):Option CH :=
 (some ([]:List ByteArray)).bind fun y2=>Option.bind (CO y2 a0.2.2.2.2.2.2.2) (fun y4=>some (a0.1,a0.2.1,a0.2.2.1,a0.2.2.2.1,a0.2.2.2.2.1,a0.2.2.2.2.2.1,a0.2.2.2.2.2.2.1,y4))
theorem FI (a0:Dg) (h0:rd w [] a0) (r) (hp:FL (dat a0)=some r):Sp 85 [.agg (cells a0).toArray] w [] (fun v M=>∃ (x0:Dg),v=.agg (cells x0).toArray∧dat x0=r∧M=[Af x0]):=by
 obtain ⟨a1,a2,a3,a4,a5,a6,a7,aa⟩:=a0;refine sa ?_;refine Spec.intro func85 rfl ntmps85 rfl ?_;unfold FL at hp;replace hp:=dd hp;refine s2 ?_;refine bx fun ad=>?_;refine al fun ae=>?_;refine s3 ?_
 revert hp;refine bc fun y2 a9 hp=>?_
 refine GM ByteArray rfl Gp.h (fun X1 a8=>?_);obtain rfl:dat X1=y2:=a8.trans (Option.some.inj a9);clear a9 a8;refine s2 ?_
 revert hp;refine bc fun y4 ac hp=>?_
 refine GG (X:=X1) (Y:=aa) rfl rfl rfl Gp.h rfl rfl pk (Ac h0.2.2.2.2.2.2.2) ac de (fun X3 ab=>?_);subst ab;refine s8 ?_;obtain rfl:=sj hp;refine jW ((a1,a2,a3,a4,a5,a6,a7,X3):Dg) ?_;refine s1 ?_;refine AE rfl (AC rfl mm (by exact CS.h)) ⟨(a1,a2,a3,a4,a5,a6,a7,X3),rfl,rfl,rfl⟩ ms
def KI (a0:AD):Option AD :=
 (FL a0.2.2.2.2.1).bind fun y1=>Option.bind (some ([]:List AU)) (fun y3=>Option.bind (CO y3 a0.2.2.2.2.2.2.1) (fun y5=>some (a0.1,a0.2.1,a0.2.2.1,a0.2.2.2.1,y1,a0.2.2.2.2.2.1,y5,a0.2.2.2.2.2.2.2)))
theorem RQ (a0:Av) (h0:rd w [] a0) (r) (hp:KI (dat a0)=some r):Sp 39 [.agg (cells a0).toArray] w [] (fun v M=>∃ (x0:Av),v=.agg (cells x0).toArray∧dat x0=r∧M=[Af x0]):=by
 obtain ⟨⟨ab,ac⟩,ad,ae,af,⟨ao,ap,aq,ar,ah,ai,aj,ak⟩,a9,am,aa⟩:=a0;refine sa ?_;refine Spec.intro func39 rfl ntmps39 rfl ?_;unfold KI at hp;replace hp:=dd hp;refine s2 ?_;refine bx fun ax=>?_;refine al fun ay=>?_;refine s4 ?_;refine AW rfl rfl (AT (Ag mm) 5 8 rfl) (by exact CS.h) ?_
 revert hp;refine bc fun y1 av hp=>?_
 refine AV rfl Rd.h rfl (by exact fun w hw=>FI w (ao,ap,aq,ar,ah,ai,aj,ak) (Ap (Ac h0.2.2.2.2.1) hw) _ av) ?_;rintro _ _ ⟨⟨a1,a2,a3,a4,a5,a6,a7,a8⟩,rfl,rfl,rfl⟩;refine sc ?_;replace hp:=dd hp;refine xL (_:Dg) ?_;refine s1 ?_;refine HY (fo:=5) rfl rfl pk (by exact CS.h) (Nat.le_of_ble_eq_true rfl) ocs rfl (s3 ?_)
 revert hp;refine bc fun y3 an hp=>?_
 refine GM Bj rfl Cq.h (fun X2 ag=>?_);obtain rfl:dat X2=y3:=ag.trans (Option.some.inj an);clear an ag;refine s2 ?_
 revert hp;refine bc fun y5 aw hp=>?_
 refine GG (X:=X2) (Y:=am) rfl rfl rfl Cq.h rfl rfl pk (Ac h0.2.2.2.2.2.2.1) aw de (fun X4 au=>?_);subst au;refine s8 ?_;obtain rfl:=sj hp;refine jW (((ab,ac),ad,ae,af,(a1,a2,a3,a4,a5,a6,a7,a8),a9,X4,aa):Av) ?_;refine s1 ?_;refine AE rfl (AC rfl mm (by exact DK.h)) ⟨((ab,ac),ad,ae,af,(a1,a2,a3,a4,a5,a6,a7,a8),a9,X4,aa),rfl,rfl,rfl⟩ ms
def FM (a0:List AD) (a1:AU):Option AD :=
 BH (fun s1:Int=>cond (decide (s1 < (a0.length:Int))) ((idx a0 s1).bind fun y3=>cond (decide (y3.1.1=a1.1)&&(decide (y3.1.2=a1.2)&&true)) ((idx a0 s1).bind fun y5=>Option.bind (KI y5) (fun y6=>Option.map .inr (some y6))) (some (.inl (IntKind.wrap .i64 (s1+1))))) (Option.map .inr (some (a1,(-1),(-1),0,(0,0,0,ByteArray.empty,ByteArray.empty,ByteArray.empty,0,([]:List ByteArray)),0,([]:List AU),false)))) 0
theorem Gj (a0:TL Av) (a1:Bj) (h0:rd w [] a0) (h1:rd w [] a1) (r) (hp:FM (dat a0) (dat a1)=some r):Sp 12 [a0.hdr,.agg (cells a1).toArray] w [] (fun v M=>∃ (x0:Av),v=.agg (cells x0).toArray∧dat x0=r∧M=[Af x0]):=by
 obtain ⟨an,ao⟩:=a1;refine sa ?_;refine Spec.intro func12 rfl ntmps12 rfl ?_;unfold FM at hp;replace hp:=dd hp;refine s2 ?_;refine bx fun b8=>?_;refine al fun b9=>?_;refine s7 ?_;refine BW (σ:=Int) dat (fun (ac:Int)=>[(5,.int .i64 ac)]) (fun (ac:Int)=>[]) [(0,_),(3,_),(4,_)] [blk b8 _ _,blk b9 _ _] 0 hp sb ms ?_;clear hp;rintro ac x1 hp b7;replace hp:=dd hp;refine kq [0,3,4,5] ?_;refine s8 ?_;refine kp [0,3,4,5,9] ?_;refine Ai rfl (fun q2=>?_) (fun q2=>?_)
 ·replace hp:=Aw q2 hp;refine s4 ?_;replace hp:=AX hp;obtain ⟨⟨⟨ay,az⟩,b0,b1,b2,⟨b3,b4,b5,b6,ap,aq,ar,au⟩,av,aw,ax⟩,a2,hp⟩:=hp;refine BX [18] mix kr rfl (s2 ?_);refine Cn (X:=a0) Ar (Aj rfl) (Aj rfl) CG.h (Ac h0) (fun _=>a2) (s1 ?_);refine Bq Ar (Aj rfl) (fun hg=>AT (Bl (Ac h0) (a2).2) 0 2 rfl) (by exact Bp.h) (s1 ?_);refine Ez Ar (Aj rfl) (Aj rfl) (fun hg=>(Hs FT (EqS.consI AM.h Eu.h rfl rfl (EqS.consI AM.h Eu.h rfl rfl EqS.nil)))) (s9 ?_);refine kp [0,3,4,5,18] ?_;refine Ai rfl (fun q4=>?_) (fun q4=>?_)
  ·replace hp:=Aw q4 hp;refine s4 ?_;replace hp:=AX hp;obtain ⟨u5,bb,hp⟩:=hp;obtain rfl:((ay,az),b0,b1,b2,(b3,b4,b5,b6,ap,aq,ar,au),av,aw,ax)=u5:=Option.some.inj (a2.2.symm.trans bb.2);refine Cj (X:=a0) rfl rfl rfl CG.h (Ac h0) a2 ?_;refine AW rfl rfl (Bl (Ac h0) (a2).2) (by exact DK.h) ?_
   revert hp;refine bc fun y6 bd hp=>?_
   refine AV rfl nX.h rfl (by exact fun w hw=>RQ w ((ay,az),b0,b1,b2,(b3,b4,b5,b6,ap,aq,ar,au),av,aw,ax) (Ap (Aa dv (Aa Ad (Aa Ad (Aa Ad (Aa (Bn (Ae (Ae (Ae (Ae (Ci (Ac h0) (a2).2)))))) (Aa Ad (Aa (Bn (Ae (Ae (Ae (Ae (Ae (Ae (Ci (Ac h0) (a2).2)))))))) CK))))))) hw) _ bd) ?_;rintro _ _ ⟨⟨⟨ad,ae⟩,af,ag,ah,⟨ai,aj,ak,am,a3,a4,a5,a6⟩,a9,aa,ab⟩,rfl,rfl,rfl⟩;refine sc ?_;replace hp:=dd hp;refine xL (_:Av) ?_;refine s2 ?_;replace hp:=Bu hp;obtain ⟨a7,hp,be⟩:=hp;obtain rfl:=b7 _ be;obtain rfl:=sj hp;refine jW (((ad,ae),af,ag,ah,(ai,aj,ak,am,a3,a4,a5,a6),a9,aa,ab):Av) ?_;refine s1 ?_;refine AE rfl (AC rfl mm (by exact DK.h)) ⟨((ad,ae),af,ag,ah,(ai,aj,ak,am,a3,a4,a5,a6),a9,aa,ab),rfl,rfl,rfl⟩ ms
  replace hp:=Ax q4 hp;refine s6 ?_;exact ⟨IntKind.wrap .i64 (ac+1),sb,(.sub ms),Bo hp⟩
 replace hp:=Ax q2 hp;refine BF ?_;replace hp:=Bu hp;obtain ⟨a8,hp,bf⟩:=hp;obtain rfl:=b7 _ bf;refine s3 ?_;refine Cz (xs:=[(0,.tmp 24),(1,.const (.int .i64 (-1))),(2,.const (.int .i64 (-1)))]) (cs:=[.int .i64 an,.int .i64 ao,.int .i64 (-1),.int .i64 (-1),.int .i64 0,.int .i64 0,.int .i64 0,.int .i64 0,.string ByteArray.empty,.string ByteArray.empty,.string ByteArray.empty,.int .i64 0,(TL.hdr (TL.nil ByteArray 0)),.int .i64 0,(TL.hdr (TL.nil Bj 0)),.bool false]) rfl rfl IL.h rfl (s2 ?_);obtain rfl:=sj hp;refine AS (fun _=>Bs (τ:=ByteArray) 0) ?_;refine AS (fun _=>Bs (τ:=Bj) 0) ?_;refine jW (((an,ao),(-1),(-1),0,(0,0,0,ByteArray.empty,ByteArray.empty,ByteArray.empty,0,(TL.nil ByteArray 0)),0,(TL.nil Bj 0),false):Av) ?_;refine s1 ?_;refine AE rfl (AC rfl mm (by exact DK.h)) ⟨((an,ao),(-1),(-1),0,(0,0,0,ByteArray.empty,ByteArray.empty,ByteArray.empty,0,(TL.nil ByteArray 0)),0,(TL.nil Bj 0),false),rfl,rfl,rfl⟩ ms
def Kn (a0:List ByteArray):Option (List ByteArray) :=
 (CO ([]:List ByteArray) a0).bind fun y2=>some y2
theorem TM (a0:TL ByteArray) (h0:rd w [] a0) (r) (hp:Kn (dat a0)=some r):Sp 179 [a0.hdr] w [] (fun v M=>∃ (x0:TL ByteArray),v=x0.hdr∧dat x0=r∧M=[Af x0]):=by
 refine Spec.intro func179 rfl ntmps179 rfl ?_;unfold Kn at hp;replace hp:=dd hp;refine s2 ?_;refine By (v:=(TL.hdr (TL.nil ByteArray 0))) rfl rfl (s4 ?_);refine AA (M':=Af (TL.nil ByteArray 0)::_) (fun _=>Bs _) ?_
 revert hp;refine bc fun y2 a2 hp=>?_
 refine GG (X:=(TL.nil ByteArray 0)) (Y:=a0) rfl rfl rfl Gp.h rfl rfl pk (Ac h0) a2 de (fun X1 a1=>?_);subst a1;refine s2 ?_;obtain rfl:=sj hp;refine s1 ?_;refine AE rfl (Ab rfl) ⟨X1,rfl,rfl,rfl⟩ ms
def IE (a0:CH):Option CH :=
 (Kn a0.2.2.2.2.2.2.2).bind fun y1=>some (a0.1,a0.2.1,a0.2.2.1,a0.2.2.2.1,a0.2.2.2.2.1,a0.2.2.2.2.2.1,a0.2.2.2.2.2.2.1,y1)
theorem LW (a0:Dg) (h0:rd w [] a0) (r) (hp:IE (dat a0)=some r):Sp 135 [.agg (cells a0).toArray] w [] (fun v M=>∃ (x0:Dg),v=.agg (cells x0).toArray∧dat x0=r∧M=[Af x0]):=by
 obtain ⟨a1,a2,a3,a4,a5,a6,a7,a9⟩:=a0;refine sa ?_;refine Spec.intro func135 rfl ntmps135 rfl ?_;unfold IE at hp;replace hp:=dd hp;refine s2 ?_;refine bx fun ab=>?_;refine al fun ac=>?_;refine s5 ?_
 revert hp;refine bc fun y1 aa hp=>?_
 refine AV rfl pT.h rfl (by exact fun w hw=>TM w a9 (Ap (Ac h0.2.2.2.2.2.2.2) hw) _ aa) ?_;rintro _ _ ⟨a8,rfl,rfl,rfl⟩;refine sc ?_;replace hp:=dd hp;refine s8 ?_;obtain rfl:=sj hp;refine jW ((a1,a2,a3,a4,a5,a6,a7,a8):Dg) ?_;refine s1 ?_;refine AE rfl (AC rfl mm (by exact CS.h)) ⟨(a1,a2,a3,a4,a5,a6,a7,a8),rfl,rfl,rfl⟩ ms
def GH (a0:List AU):Option (List AU) :=
 (CO ([]:List AU) a0).bind fun y2=>some y2
theorem Gt (a0:TL Bj) (h0:rd w [] a0) (r) (hp:GH (dat a0)=some r):Sp 123 [a0.hdr] w [] (fun v M=>∃ (x0:TL Bj),v=x0.hdr∧dat x0=r∧M=[Af x0]):=by
 refine Spec.intro func123 rfl ntmps123 rfl ?_;unfold GH at hp;replace hp:=dd hp;refine s2 ?_;refine By (v:=(TL.hdr (TL.nil Bj 0))) rfl rfl (s4 ?_);refine AA (M':=Af (TL.nil Bj 0)::_) (fun _=>Bs _) ?_
 revert hp;refine bc fun y2 a2 hp=>?_
 refine GG (X:=(TL.nil Bj 0)) (Y:=a0) rfl rfl rfl Cq.h rfl rfl pk (Ac h0) a2 de (fun X1 a1=>?_);subst a1;refine s2 ?_;obtain rfl:=sj hp;refine s1 ?_;refine AE rfl (Ab rfl) ⟨X1,rfl,rfl,rfl⟩ ms
def GB (a0:AD):Option AD :=
 (IE a0.2.2.2.2.1).bind fun y1=>Option.bind (GH a0.2.2.2.2.2.2.1) (fun y2=>some (a0.1,a0.2.1,a0.2.2.1,a0.2.2.2.1,y1,a0.2.2.2.2.2.1,y2,a0.2.2.2.2.2.2.2))
theorem Jr (a0:Av) (h0:rd w [] a0) (r) (hp:GB (dat a0)=some r):Sp 87 [.agg (cells a0).toArray] w [] (fun v M=>∃ (x0:Av),v=.agg (cells x0).toArray∧dat x0=r∧M=[Af x0]):=by
 obtain ⟨⟨ab,ac⟩,ad,ae,af,⟨an,ao,ap,aq,ah,ai,aj,ak⟩,a9,am,aa⟩:=a0;refine sa ?_;refine Spec.intro func87 rfl ntmps87 rfl ?_;unfold GB at hp;replace hp:=dd hp;refine s2 ?_;refine bx fun av=>?_;refine al fun aw=>?_;refine s4 ?_;refine AW rfl rfl (AT (Ag mm) 5 8 rfl) (by exact CS.h) ?_
 revert hp;refine bc fun y1 ar hp=>?_
 refine AV rfl bA.h rfl (by exact fun w hw=>LW w (an,ao,ap,aq,ah,ai,aj,ak) (Ap (Ac h0.2.2.2.2.1) hw) _ ar) ?_;rintro _ _ ⟨⟨a1,a2,a3,a4,a5,a6,a7,a8⟩,rfl,rfl,rfl⟩;refine sc ?_;replace hp:=dd hp;refine xL (_:Dg) ?_;refine s1 ?_;refine HY (fo:=5) rfl rfl pk (by exact CS.h) (Nat.le_of_ble_eq_true rfl) ocs rfl (s5 ?_)
 revert hp;refine bc fun y2 au hp=>?_
 refine AV rfl Re.h rfl (by exact fun w hw=>Gt w am (Ap (Ac h0.2.2.2.2.2.2.1) hw) _ au) ?_;rintro _ _ ⟨ag,rfl,rfl,rfl⟩;refine sc ?_;replace hp:=dd hp;refine s8 ?_;obtain rfl:=sj hp;refine jW (((ab,ac),ad,ae,af,(a1,a2,a3,a4,a5,a6,a7,a8),a9,ag,aa):Av) ?_;refine s1 ?_;refine AE rfl (AC rfl mm (by exact DK.h)) ⟨((ab,ac),ad,ae,af,(a1,a2,a3,a4,a5,a6,a7,a8),a9,ag,aa),rfl,rfl,rfl⟩ ms
def Ko (a0:AD) (c0:AU):Option Bool :=
 some (decide (a0.1.1=c0.1)&&(decide (a0.1.2=c0.2)&&true))
theorem TN (a0:Av) (b0:Nat) (c0:Bj) (h0:rd w [] a0) (hb0:Cells w [] b0 0 (cells c0)) (q0:rd w [] c0) (r) (hp:Ko (dat a0) (dat c0)=some r):Spec prog 134 ([(.agg (cells a0).toArray:Value)]++[Value.pointer (some ⟨b0,0,none⟩)]).toArray w [] (IsV (.bool r)):=by
 obtain ⟨⟨a8,a9⟩,aa,ab,ac,⟨ad,ae,af,ag,a1,a2,a3,a4⟩,a5,a6,a7⟩:=a0;obtain ⟨c0_1,c0_2⟩:=c0;refine sa ?_;refine Spec.intro func134 rfl ntmps134 rfl ?_;unfold Ko at hp;replace hp:=dd hp;refine s2 ?_;refine bx fun ah=>?_;refine s5 ?_;refine AW rfl rfl (AT (Ag mm) 0 2 rfl) (by exact Bp.h) ?_;refine AW rfl rfl (Br hb0) (by exact Bp.h) ?_;refine Be rfl rfl rfl (Hs FT (EqS.consI AM.h Eu.h rfl rfl (EqS.consI AM.h Eu.h rfl rfl EqS.nil))) (s2 ?_);obtain rfl:=sj hp;refine s1 ?_;refine AE rfl (Ab rfl) ⟨rfl,rfl⟩ ms
def Ff (a0:List AD) (a1:AD→Option Bool):Option Int :=
 BH (fun s1:Int=>cond (decide (s1 < (a0.length:Int))) ((idx a0 s1).bind fun y3=>Option.bind (a1 y3) (fun y4=>cond y4 (Option.map .inr (some s1)) (some (.inl (IntKind.wrap .i64 (s1+1)))))) (Option.map .inr (some (-1)))) 0
theorem Kc (a0:TL Av) (f1:Nat) (cs1:List Value) (a1:AD→Option Bool) (h0:rd w [] a0) (hf1:IsFn prog f1) (hk1:∀ (w':World) (F:List HP) (u0:Av) (v:Bool),Holds w [] F w'→rd w' [] u0→a1 (dat u0)=some v→Spec prog f1 ([Value.agg (cells u0).toArray]++cs1).toArray w' [] (IsV (.bool v))) (r) (hp:Ff (dat a0) a1=some r):Sp 133 [a0.hdr,.func (.func f1) #[] cs1.toArray] w [] (IsV (.int .i64 r)):=by
 refine Spec.intro func133 rfl ntmps133 rfl ?_;unfold Ff at hp;replace hp:=dd hp;refine s12 ?_;refine BW (σ:=Int) dat (fun (a2:Int)=>[(8,.int .i64 a2)]) (fun (a2:Int)=>[]) [(0,_),(1,_),(7,_)] [] 0 hp sb ms ?_;clear hp;rintro a2 x1 hp ad;replace hp:=dd hp;refine kq [0,1,7,8] ?_;refine s5 ?_;refine kp [0,1,7,8,9] ?_;refine Ai rfl (fun q2=>?_) (fun q2=>?_)
 ·replace hp:=Aw q2 hp;refine s13 ?_;replace hp:=AX hp;obtain ⟨⟨⟨ae,af⟩,ag,ah,ai,⟨aj,ak,am,an,a4,a5,a8,a9⟩,aa,ab,ac⟩,a3,hp⟩:=hp;refine Cj (X:=a0) rfl rfl rfl CG.h (Ac h0) a3 ?_;refine AW rfl rfl (Bl (Ac h0) (a3).2) (by exact DK.h) ?_
  revert hp;refine bc fun y4 ao hp=>?_
  refine QS rfl rfl hf1 rfl (by exact fun w hw=>hk1 w _ ((ae,af),ag,ah,ai,(aj,ak,am,an,a4,a5,a8,a9),aa,ab,ac) y4 hw (Ap (Aa dv (Aa Ad (Aa Ad (Aa Ad (Aa (Bn (Ae (Ae (Ae (Ae (Ci (Ac h0) (a3).2)))))) (Aa Ad (Aa (Bn (Ae (Ae (Ae (Ae (Ae (Ae (Ci (Ac h0) (a3).2)))))))) CK))))))) hw) ao) (s1 ?_);refine kp [0,1,5,7,8,16] ?_;refine Ai rfl (fun q5=>?_) (fun q5=>?_)
  ·replace hp:=Aw q5 hp;refine s5 ?_;replace hp:=Bu hp;obtain ⟨a6,hp,ap⟩:=hp;obtain rfl:=ad _ ap;obtain rfl:=sj hp;refine s1 ?_;refine AE rfl (Ab rfl) ⟨rfl,rfl⟩ ms
  replace hp:=Ax q5 hp;refine s5 ?_;exact ⟨IntKind.wrap .i64 (a2+1),sb,(.sub ms),Bo hp⟩
 replace hp:=Ax q2 hp;refine BF ?_;replace hp:=Bu hp;obtain ⟨a7,hp,aq⟩:=hp;obtain rfl:=ad _ aq;refine s4 ?_;obtain rfl:=sj hp;refine s1 ?_;refine AE rfl (Ab rfl) ⟨rfl,rfl⟩ ms
def JE (a0:List AD) (a1:AU):Option Int :=
 (Ff a0 (fun z0=>Ko z0 a1)).bind fun y1=>some y1
theorem RR (a0:TL Av) (a1:Bj) (h0:rd w [] a0) (h1:rd w [] a1) (r) (hp:JE (dat a0) (dat a1)=some r):Sp 86 [a0.hdr,.agg (cells a1).toArray] w [] (IsV (.int .i64 r)):=by
 obtain ⟨a2,a3⟩:=a1;refine sa ?_;refine Spec.intro func86 rfl ntmps86 rfl ?_;unfold JE at hp;replace hp:=dd hp;refine s2 ?_;refine bx fun a4=>?_;refine s5 ?_;refine NF (fs:=[]) (cs:=[.tmp 3]) rfl rfl rfl ?_
 revert hp;refine bc fun y1 a5 hp=>?_
 refine Bi rfl pV.h rfl (by exact fun w hw=>Kc w a0 134 [Value.pointer (some ⟨a4,0,none⟩)] (fun z0=>Ko z0 (a2,a3)) (Ap (Ac h0) hw) pU.h (fun w' F u0 v hF hu0 hv=>TN w' u0 a4 (a2,a3) hu0 ((CP mm hw.sees).carry hF) (BG (Ap dv hw) hF) v hv) _ a5) (s2 ?_);obtain rfl:=sj hp;refine s1 ?_;refine AE rfl (Ab rfl) ⟨rfl,rfl⟩ ms
def Ga (a0:List AD) (a1:AU):Option AD :=
 (JE a0 a1).bind fun y1=>cond (decide (0≤y1)) ((idx a0 y1).bind fun y3=>Option.bind (GB y3) (fun y4=>some y4)) (some (a1,(-1),(-1),0,(0,0,0,ByteArray.empty,ByteArray.empty,ByteArray.empty,0,([]:List ByteArray)),0,([]:List AU),false))
theorem GY (a0:TL Av) (a1:Bj) (h0:rd w [] a0) (h1:rd w [] a1) (r) (hp:Ga (dat a0) (dat a1)=some r):Sp 41 [a0.hdr,.agg (cells a1).toArray] w [] (fun v M=>∃ (x0:Av),v=.agg (cells x0).toArray∧dat x0=r∧M=[Af x0]):=by
 obtain ⟨a9,aa⟩:=a1;refine sa ?_;refine Spec.intro func41 rfl ntmps41 rfl ?_;unfold Ga at hp;replace hp:=dd hp;refine s2 ?_;refine bx fun b6=>?_;refine al fun b7=>?_;refine s6 ?_
 revert hp;refine bc fun y1 b4 hp=>?_
 refine Bi rfl nY.h rfl (by exact fun w hw=>RR w a0 (a9,aa) (Ap (Ac h0) hw) (Ap dv hw) _ b4) (s7 ?_);refine kp [0,3,4,5,10] ?_;refine Ai rfl (fun q2=>?_) (fun q2=>?_)
 ·replace hp:=Aw q2 hp;refine s4 ?_;replace hp:=AX hp;obtain ⟨⟨⟨av,aw⟩,ax,ay,az,⟨b0,b1,b2,b3,am,an,ao,ap⟩,aq,ar,au⟩,ak,hp⟩:=hp;refine Cj (X:=a0) rfl rfl rfl CG.h (Ac h0) ak ?_;refine AW rfl rfl (Bl (Ac h0) (ak).2) (by exact DK.h) ?_
  revert hp;refine bc fun y4 b5 hp=>?_
  refine AV rfl bB.h rfl (by exact fun w hw=>Jr w ((av,aw),ax,ay,az,(b0,b1,b2,b3,am,an,ao,ap),aq,ar,au) (Ap (Aa dv (Aa Ad (Aa Ad (Aa Ad (Aa (Bn (Ae (Ae (Ae (Ae (Ci (Ac h0) (ak).2)))))) (Aa Ad (Aa (Bn (Ae (Ae (Ae (Ae (Ae (Ae (Ci (Ac h0) (ak).2)))))))) CK))))))) hw) _ b5) ?_;rintro _ _ ⟨⟨⟨ab,ac⟩,ad,ae,af,⟨ag,ah,ai,aj,a2,a3,a4,a5⟩,a6,a7,a8⟩,rfl,rfl,rfl⟩;refine sc ?_;replace hp:=dd hp;refine xL (_:Av) ?_;refine s2 ?_;obtain rfl:=sj hp;refine jW (((ab,ac),ad,ae,af,(ag,ah,ai,aj,a2,a3,a4,a5),a6,a7,a8):Av) ?_;refine s1 ?_;refine AE rfl (AC rfl mm (by exact DK.h)) ⟨((ab,ac),ad,ae,af,(ag,ah,ai,aj,a2,a3,a4,a5),a6,a7,a8),rfl,rfl,rfl⟩ ms
 replace hp:=Ax q2 hp;refine s4 ?_;refine Cz (xs:=[(0,.tmp 16),(1,.const (.int .i64 (-1))),(2,.const (.int .i64 (-1)))]) (cs:=[.int .i64 a9,.int .i64 aa,.int .i64 (-1),.int .i64 (-1),.int .i64 0,.int .i64 0,.int .i64 0,.int .i64 0,.string ByteArray.empty,.string ByteArray.empty,.string ByteArray.empty,.int .i64 0,(TL.hdr (TL.nil ByteArray 0)),.int .i64 0,(TL.hdr (TL.nil Bj 0)),.bool false]) rfl rfl IL.h rfl (s2 ?_);obtain rfl:=sj hp;refine AS (fun _=>Bs (τ:=ByteArray) 0) ?_;refine AS (fun _=>Bs (τ:=Bj) 0) ?_;refine jW (((a9,aa),(-1),(-1),0,(0,0,0,ByteArray.empty,ByteArray.empty,ByteArray.empty,0,(TL.nil ByteArray 0)),0,(TL.nil Bj 0),false):Av) ?_;refine s1 ?_;refine AE rfl (AC rfl mm (by exact DK.h)) ⟨((a9,aa),(-1),(-1),0,(0,0,0,ByteArray.empty,ByteArray.empty,ByteArray.empty,0,(TL.nil ByteArray 0)),0,(TL.nil Bj 0),false),rfl,rfl,rfl⟩ ms
def LX (a0:Bb):Option Bool :=
 (Kj a0.1).bind fun y1=>gb (!(!y1)) (ER a0.2.1 0 600) (fun y2=>gb (!((!y1)||(!y2))) (ER a0.2.2.1 1 3) (fun y3=>gb (!(((!y1)||(!y2))||(!y3))) (ER a0.2.2.2.1 0 60) (fun y4=>gb (!((((!y1)||(!y2))||(!y3))||(!y4))) (LU a0.2.2.2.2.1) (fun y5=>gb (!(((((!y1)||(!y2))||(!y3))||(!y4))||(!y5))) (LV a0.2.2.2.2.1 a0.1) (fun y6=>cond (((((((!y1)||(!y2))||(!y3))||(!y4))||(!y5))||y6)||(decide (3 < (a0.2.2.2.2.2.1.length:Int)))) (some false) (BH (fun s8:Int=>cond (decide (s8 < (a0.2.2.2.2.2.1.length:Int))) ((idx a0.2.2.2.2.2.1 s8).bind fun a2=>Option.bind (HZ a2) (fun a1=>gb ((!(!a1))&&(decide (0 < s8))) (idx a0.2.2.2.2.2.1 (IntKind.wrap .i64 (s8 - 1))) (fun a3=>gb ((!(!a1))&&(decide (0 < s8))) (idx a0.2.2.2.2.2.1 s8) (fun a4=>cond ((!a1)||((decide (0 < s8))&&(decide (a4≤a3)))) (Option.map .inr (some false)) (some (.inl (IntKind.wrap .i64 (s8+1)))))))) (Option.map .inr (some true))) 0))))))
theorem WC (a0:Az) (h0:rd w [] a0) (r) (hp:LX (dat a0)=some r):Sp 138 [.agg (cells a0).toArray] w [] (IsV (.bool r)):=by
 obtain ⟨⟨a3,a4⟩,ab,ac,ad,a5,a1,aq⟩:=a0;refine sa ?_;refine Spec.intro func138 rfl ntmps138 rfl ?_;unfold LX at hp;replace hp:=dd hp;refine s2 ?_;refine bx fun ah=>?_;refine s4 ?_
 revert hp;refine bc fun y1 ai hp=>?_
 replace hp:=BJ hp;obtain ⟨y2,aj,hp⟩:=hp;replace hp:=BJ hp;obtain ⟨y3,ak,hp⟩:=hp;replace hp:=BJ hp;obtain ⟨y4,am,hp⟩:=hp;replace hp:=BJ hp;obtain ⟨y5,an,hp⟩:=hp;replace hp:=BJ hp;obtain ⟨y6,ao,hp⟩:=hp;refine BX [44] mix kr rfl (s1 ?_);refine Bq Ar (Aj rfl) (fun hg=>AT (Ag mm) 0 2 rfl) (by exact Bp.h) ?_;refine AZ Ar Uw.h (Ah (Aj rfl) (AF)) (by exact fun hg w F hF hM=>Kk w (a3,a4) (AK dv hF hM) _ ai) (s4 ?_);refine AZ (Am rfl rfl) Ia.h (Ah (Aq rfl) (Ah BP (Ah BP (AF)))) (by exact fun hg w F hF hM=>Do w ab 0 600  _ (aj (BY hg.2))) (s5 ?_);refine AZ (Am rfl rfl) Ia.h (Ah (Aq rfl) (Ah BP (Ah BP (AF)))) (by exact fun hg w F hF hM=>Do w ac 1 3  _ (ak (BY hg.2))) (s5 ?_);refine AZ (Am rfl rfl) Ia.h (Ah (Aq rfl) (Ah BP (Ah BP (AF)))) (by exact fun hg w F hF hM=>Do w ad 0 60  _ (am (BY hg.2))) (s5 ?_);refine AZ (Am rfl rfl) aY.h (Ah (Aq rfl) (AF)) (by exact fun hg w F hF hM=>Oz w a5 (AK (Ac h0.2.2.2.2.1) hF hM) _ (an (BY hg.2))) (s6 ?_);refine Bq (Am rfl rfl) (Aq rfl) (fun hg=>AT (Ag mm) 0 2 rfl) (by exact Bp.h) ?_;refine AZ (Am rfl rfl) aZ.h (Ah (Aq rfl) (Ah (Aq rfl) (AF))) (by exact fun hg w F hF hM=>OA w a5 (a3,a4) (AK (Ac h0.2.2.2.2.1) hF hM) (AK dv hF hM) _ (ao (BY hg.2))) (s4 ?_);refine GF (X:=a1) (Am rfl rfl) (Aq rfl) FD.h (s20 ?_);refine s20 ?_;refine s5 ?_;refine kp [1,44] ?_;refine Ai rfl (fun q7=>?_) (fun q7=>?_)
 ·replace hp:=Aw q7 hp;refine s4 ?_;obtain rfl:=sj hp;refine s1 ?_;refine AE rfl (Ab rfl) ⟨rfl,rfl⟩ ms
 replace hp:=Ax q7 hp;refine s7 ?_;refine BW (σ:=Int) dat (fun (a2:Int)=>[(3,.int .i64 a2)]) (fun (a2:Int)=>[]) [(1,_)] [blk ah _ _] 0 hp sb ms ?_;clear hp;rintro a2 x8 hp aa;replace hp:=dd hp;refine kq [1,3] ?_;refine s9 ?_;refine kp [1,3,49] ?_;refine Ai rfl (fun q9=>?_) (fun q9=>?_)
 ·replace hp:=Aw q9 hp;refine s4 ?_;replace hp:=AX hp;obtain ⟨ap,a6,hp⟩:=hp
  revert hp;refine bc fun ar ae hp=>?_
  replace hp:=DB hp;obtain ⟨au,a7,hp⟩:=hp;replace hp:=DB hp;obtain ⟨av,a8,hp⟩:=hp;refine BX [76] mix kr rfl (s3 ?_);refine Cn (X:=a1) Ar (Aj rfl) (Aj rfl) FD.h (Ac h0.2.2.2.2.2.1) (fun _=>a6) ?_;refine Gq Ar (Aj rfl) (fun hg=>Bl (Ac h0.2.2.2.2.2.1) (a6).2) AM.h rfl ?_;refine AZ Ar SQ.h (Ah (Aj rfl) (AF)) (by exact fun hg w F hF hM=>HL w ap  _ ae) (s9 ?_);refine Cn (X:=a1) (Am rfl rfl) (Aq rfl) (Aq rfl) FD.h (Ac h0.2.2.2.2.2.1) (fun hg=>a7 (GV (BY hg.1.2) hg.2)) ?_;refine Gq (Am rfl rfl) (Aq rfl) (fun hg=>Bl (Ac h0.2.2.2.2.2.1) (a7 (GV (BY hg.1.2) hg.2)).2) AM.h rfl (s3 ?_);refine Cn (X:=a1) (Am rfl rfl) (Aq rfl) (Aq rfl) FD.h (Ac h0.2.2.2.2.2.1) (fun hg=>a8 (GV (BY hg.1.2) hg.2)) ?_;refine Gq (Am rfl rfl) (Aq rfl) (fun hg=>Bl (Ac h0.2.2.2.2.2.1) (a8 (GV (BY hg.1.2) hg.2)).2) AM.h rfl (s20 ?_);refine s10 ?_;refine kp [1,3,76] ?_;refine Ai rfl (fun a9=>?_) (fun a9=>?_)
  ·replace hp:=Aw a9 hp;refine s4 ?_;replace hp:=Bu hp;obtain ⟨aw,hp,af⟩:=hp;obtain rfl:=aa _ af;obtain rfl:=sj hp;refine s1 ?_;refine AE rfl (Ab rfl) ⟨rfl,rfl⟩ ms
  replace hp:=Ax a9 hp;refine s6 ?_;exact ⟨IntKind.wrap .i64 (a2+1),sb,(.sub ms),Bo hp⟩
 replace hp:=Ax q9 hp;refine BF ?_;replace hp:=Bu hp;obtain ⟨ax,hp,ag⟩:=hp;obtain rfl:=aa _ ag;refine s4 ?_;obtain rfl:=sj hp;refine s1 ?_;refine AE rfl (Ab rfl) ⟨rfl,rfl⟩ ms
def HF (a0:At) (a1:AU):Option Int :=
 BH (fun s1:Int=>cond (decide (s1 < (a0.2.2.2.length:Int))) ((idx a0.2.2.2 s1).bind fun y3=>cond (decide (y3.1.1=a1.1)&&(decide (y3.1.2=a1.2)&&true)) (Option.map .inr (some s1)) (some (.inl (IntKind.wrap .i64 (s1+1))))) (Option.map .inr (some (-1)))) 0
theorem Ib (a0:Ao) (a1:Bj) (h0:rd w [] a0) (h1:rd w [] a1) (r) (hp:HF (dat a0) (dat a1)=some r):Sp 139 [.agg (cells a0).toArray,.agg (cells a1).toArray] w [] (IsV (.int .i64 r)):=by
 obtain ⟨ac,ad,ae,a7⟩:=a0;obtain ⟨af,ag⟩:=a1;refine sa ?_;refine Spec.intro func139 rfl ntmps139 rfl ?_;unfold HF at hp;replace hp:=dd hp;refine s2 ?_;refine bx fun a8=>?_;refine bx fun a9=>?_;refine s8 ?_;refine BW (σ:=Int) dat (fun (a2:Int)=>[(5,.int .i64 a2)]) (fun (a2:Int)=>[]) [(2,_),(3,_)] [blk a8 _ _,blk a9 _ _] 0 hp sb ms ?_;clear hp;rintro a2 x1 hp a3;replace hp:=dd hp;refine kq [2,3,5] ?_;refine s9 ?_;refine kp [2,3,5,10] ?_;refine Ai rfl (fun q2=>?_) (fun q2=>?_)
 ·replace hp:=Aw q2 hp;refine s4 ?_;replace hp:=AX hp;obtain ⟨⟨⟨ah,ai⟩,aj,ak,am,an,ao,ap⟩,a4,hp⟩:=hp;refine BX [20] mix kr rfl (s3 ?_);refine Cn (X:=a7) Ar (Aj rfl) (Aj rfl) Ct.h (Ac h0.2.2.2) (fun _=>a4) (s1 ?_);refine Bq Ar (Aj rfl) (fun hg=>AT (Bl (Ac h0.2.2.2) (a4).2) 0 2 rfl) (by exact Bp.h) (s1 ?_);refine Ez Ar (Aj rfl) (Aj rfl) (fun hg=>(Hs FT (EqS.consI AM.h Eu.h rfl rfl (EqS.consI AM.h Eu.h rfl rfl EqS.nil)))) (s10 ?_);refine kp [2,3,5,20] ?_;refine Ai rfl (fun q4=>?_) (fun q4=>?_)
  ·replace hp:=Aw q4 hp;refine s5 ?_;replace hp:=Bu hp;obtain ⟨a5,hp,aa⟩:=hp;obtain rfl:=a3 _ aa;obtain rfl:=sj hp;refine s1 ?_;refine AE rfl (Ab rfl) ⟨rfl,rfl⟩ ms
  replace hp:=Ax q4 hp;refine s6 ?_;exact ⟨IntKind.wrap .i64 (a2+1),sb,(.sub ms),Bo hp⟩
 replace hp:=Ax q2 hp;refine BF ?_;replace hp:=Bu hp;obtain ⟨a6,hp,ab⟩:=hp;obtain rfl:=a3 _ ab;refine s4 ?_;obtain rfl:=sj hp;refine s1 ?_;refine AE rfl (Ab rfl) ⟨rfl,rfl⟩ ms
def Gk (a0:At):Option Bool :=
 (HZ a0.1).bind fun y1=>gb (!(!y1)) (ER a0.2.1 1 7) (fun y2=>gb (!((!y1)||(!y2))) (MU a0.2.2.1) (fun y3=>cond ((((!y1)||(!y2))||(!y3))||(decide (8 < (a0.2.2.2.length:Int)))) (some false) (BH (fun s5:Int=>cond (decide (s5 < (a0.2.2.1.length:Int))) ((idx a0.2.2.1 s5).bind fun y7=>gb (decide (y7.1.1=a0.1)) (idx a0.2.2.1 s5) (fun y8=>cond ((decide (y7.1.1=a0.1))&&(decide (a0.2.1≤y8.1.2))) (Option.map .inr (some false)) (some (.inl (IntKind.wrap .i64 (s5+1)))))) (Option.map .inr (BH (fun s12:Int=>cond (decide (s12 < (a0.2.2.2.length:Int))) ((idx a0.2.2.2 s12).bind fun a2=>Option.bind (LX a2) (fun a1=>gb (!(!a1)) (idx a0.2.2.2 s12) (fun a3=>gb (!(!a1)) (HF a0 a3.1) (fun a4=>cond ((!a1)||(!decide (a4=s12))) (Option.map .inr (some false)) (some (.inl (IntKind.wrap .i64 (s12+1)))))))) (Option.map .inr (some true))) 0))) 0)))
theorem Io (a0:Ao) (h0:rd w [] a0) (r) (hp:Gk (dat a0)=some r):Sp 88 [.agg (cells a0).toArray] w [] (IsV (.bool r)):=by
 obtain ⟨a6,a7,a2,a3⟩:=a0;refine sa ?_;refine Spec.intro func88 rfl ntmps88 rfl ?_;unfold Gk at hp;replace hp:=dd hp;refine s2 ?_;refine bx fun an=>?_;refine s4 ?_
 revert hp;refine bc fun y1 az hp=>?_
 replace hp:=BJ hp;obtain ⟨y2,b0,hp⟩:=hp;replace hp:=BJ hp;obtain ⟨y3,b1,hp⟩:=hp;refine BX [26] mix kr rfl (s2 ?_);refine AZ Ar SQ.h (Ah (Aj rfl) (AF)) (by exact fun hg w F hF hM=>HL w a6  _ az) (s4 ?_);refine AZ (Am rfl rfl) Ia.h (Ah (Aq rfl) (Ah BP (Ah BP (AF)))) (by exact fun hg w F hF hM=>Do w a7 1 7  _ (b0 (BY hg.2))) (s5 ?_);refine AZ (Am rfl rfl) pW.h (Ah (Aq rfl) (AF)) (by exact fun hg w F hF hM=>Vl w a2 (AK (Ac h0.2.2.1) hF hM) _ (b1 (BY hg.2))) (s5 ?_);refine GF (X:=a3) (Am rfl rfl) (Aq rfl) Ct.h (s20 ?_);refine s6 ?_;refine kp [1,26] ?_;refine Ai rfl (fun q4=>?_) (fun q4=>?_)
 ·replace hp:=Aw q4 hp;refine s4 ?_;obtain rfl:=sj hp;refine s1 ?_;refine AE rfl (Ab rfl) ⟨rfl,rfl⟩ ms
 replace hp:=Ax q4 hp;refine s7 ?_;refine BW (σ:=Int) dat (fun (a4:Int)=>[(3,.int .i64 a4)]) (fun (a4:Int)=>[]) [(1,_)] [blk an _ _] 0 hp sb ms ?_;clear hp;rintro a4 x5 hp ao;replace hp:=dd hp;refine kq [1,3] ?_;refine s9 ?_;refine kp [1,3,31] ?_;refine Ai rfl (fun q6=>?_) (fun q6=>?_)
 ·replace hp:=Aw q6 hp;refine s4 ?_;replace hp:=AX hp;obtain ⟨⟨⟨bo,bp⟩,bq,br,bs,⟨bt,bu,bw,bz,b2,b3,b4,b5⟩,b6,b7,b8⟩,ap,hp⟩:=hp;replace hp:=DB hp;obtain ⟨⟨⟨c0,c1⟩,c2,c3,c4,⟨c5,c6,c7,c8,b9,bb,bd,be⟩,bf,bg,bh⟩,aq,hp⟩:=hp;refine BX [55] mix kr rfl (s3 ?_);refine Cn (X:=a2) Ar (Aj rfl) (Aj rfl) CG.h (Ac h0.2.2.1) (fun _=>ap) (s2 ?_);refine BA (fo:=0) Ar (Aj rfl) (fun hg=>Bl (Ac h0.2.2.1) (ap).2) AM.h rfl (s7 ?_);refine Cn (X:=a2) (Am rfl rfl) (Aq rfl) (Aq rfl) CG.h (Ac h0.2.2.1) (fun hg=>aq hg.2) (s2 ?_);refine BA (fo:=1) (Am rfl rfl) (Aq rfl) (fun hg=>Bl (Ac h0.2.2.1) (aq hg.2).2) AM.h rfl (s20 ?_);refine s8 ?_;refine kp [1,3,55] ?_;refine Ai rfl (fun q9=>?_) (fun q9=>?_)
  ·replace hp:=Aw q9 hp;refine s4 ?_;replace hp:=Bu hp;obtain ⟨c9,hp,ar⟩:=hp;obtain rfl:=ao _ ar;obtain rfl:=sj hp;refine s1 ?_;refine AE rfl (Ab rfl) ⟨rfl,rfl⟩ ms
  replace hp:=Ax q9 hp;refine s6 ?_;exact ⟨IntKind.wrap .i64 (a4+1),sb,(.sub ms),Bo hp⟩
 replace hp:=Ax q6 hp;refine BF ?_;replace hp:=Bu hp;obtain ⟨ca,hp,au⟩:=hp;obtain rfl:=ao _ au;refine s6 ?_;refine BW (σ:=Int) dat (fun (a1:Int)=>[(4,.int .i64 a1)]) (fun (a1:Int)=>[]) [(1,_)] [blk an _ _] 0 hp sb ms ?_;clear hp;rintro a1 cb hp a8;replace hp:=dd hp;refine kq [1,4] ?_;refine s9 ?_;refine kp [1,4,60] ?_;refine Ai rfl (fun a9=>?_) (fun a9=>?_)
 ·replace hp:=Aw a9 hp;refine s4 ?_;replace hp:=AX hp;obtain ⟨⟨⟨ac,ad⟩,ae,af,ag,ah,ai,aj⟩,a5,hp⟩:=hp
  revert hp;refine bc fun cc av hp=>?_
  replace hp:=DB hp;obtain ⟨⟨⟨ak,am⟩,bi,bj,bk,bl,bm,bn⟩,aa,hp⟩:=hp;replace hp:=BJ hp;obtain ⟨cd,aw,hp⟩:=hp;refine BX [81] mix kr rfl (s3 ?_);refine Cn (X:=a3) Ar (Aj rfl) (Aj rfl) Ct.h (Ac h0.2.2.2) (fun _=>a5) ?_;refine Bq Ar (Aj rfl) (fun hg=>Bl (Ac h0.2.2.2) (a5).2) (by exact FE.h) ?_;refine AZ Ar pX.h (Ah (Aj rfl) (AF)) (by exact fun hg w F hF hM=>WC w ((ac,ad),ae,af,ag,ah,ai,aj) (AK (Aa dv (Aa Ad (Aa Ad (Aa Ad (Aa (Bn (Ae (Ae (Ae (Ae (Ci (Ac h0.2.2.2) (a5).2)))))) (Aa (Bn (Ae (Ae (Ae (Ae (Ae (Ci (Ac h0.2.2.2) (a5).2))))))) CK)))))) hF hM) _ av) (s6 ?_);refine Cn (X:=a3) (Am rfl rfl) (Aq rfl) (Aq rfl) Ct.h (Ac h0.2.2.2) (fun hg=>aa (BY hg.2)) (s1 ?_);refine Bq (Am rfl rfl) (Aq rfl) (fun hg=>AT (Bl (Ac h0.2.2.2) (aa (BY hg.2)).2) 0 2 rfl) (by exact Bp.h) ?_;refine AZ (Am rfl rfl) Rh.h (Ah (Aq rfl) (Ah (Aq rfl) (AF))) (by exact fun hg w F hF hM=>Ib w (a6,a7,a2,a3) (ak,am) (AK (Aa Ad (Aa Ad (Aa (Ac h0.2.2.1) (Ac h0.2.2.2)))) hF hM) (AK dv hF hM) _ (aw (BY hg.2))) (s20 ?_);refine s4 ?_;refine kp [1,4,81] ?_;refine Ai rfl (fun ab=>?_) (fun ab=>?_)
  ·replace hp:=Aw ab hp;refine s4 ?_;replace hp:=Bu hp;obtain ⟨ce,hp,ax⟩:=hp;obtain rfl:=a8 _ ax;obtain rfl:=sj hp;refine s1 ?_;refine AE rfl (Ab rfl) ⟨rfl,rfl⟩ ms
  replace hp:=Ax ab hp;refine s6 ?_;exact ⟨IntKind.wrap .i64 (a1+1),sb,(.sub ms),Bo hp⟩
 replace hp:=Ax a9 hp;refine BF ?_;replace hp:=Bu hp;obtain ⟨cf,hp,ay⟩:=hp;obtain rfl:=a8 _ ay;refine s4 ?_;obtain rfl:=sj hp;refine s1 ?_;refine AE rfl (Ab rfl) ⟨rfl,rfl⟩ ms
def FA (a0:At) (a1:AU):Option Bool :=
 some ((decide (a1.1=a0.1))&&(decide (a0.2.1≤a1.2)))
theorem IN (b0_:Nat) (a0:Ao) (a1:Bj) (hbb0_:Cells w [] b0_ 0 (cells a0)) (h0:rd w [] a0) (h1:rd w [] a1) (r) (hp:FA (dat a0) (dat a1)=some r):Sp 110 [Value.pointer (some ⟨b0_,0,none⟩),.agg (cells a1).toArray] w [] (IsV (.bool r)):=by
 obtain ⟨a2,a3,a4,a5⟩:=a0;obtain ⟨a6,a7⟩:=a1;refine sa ?_;refine Spec.intro func110 rfl ntmps110 rfl ?_;unfold FA at hp;replace hp:=dd hp;refine s2 ?_;refine bx fun a8=>?_;refine s3 ?_;refine BX [4] mix kr rfl (s5 ?_);refine BA Ar (Aj rfl) (fun hg=>Br hbb0_) AM.h rfl (s7 ?_);refine BA (Am rfl rfl) (Aq rfl) (fun hg=>Br hbb0_) AM.h rfl (s20 ?_);refine s2 ?_;obtain rfl:=sj hp;refine s1 ?_;refine AE rfl (Ab rfl) ⟨rfl,rfl⟩ ms
def KW (a0:List AU) (a1:AU):Option Bool :=
 (KV a0).bind fun y1=>gb y1 (EE a0 a1) (fun y2=>some (y1&&(!y2)))
theorem Qe (a0:TL Bj) (a1:Bj) (h0:rd w [] a0) (h1:rd w [] a1) (r) (hp:KW (dat a0) (dat a1)=some r):Sp 115 [a0.hdr,.agg (cells a1).toArray] w [] (IsV (.bool r)):=by
 obtain ⟨a2,a3⟩:=a1;refine sa ?_;refine Spec.intro func115 rfl ntmps115 rfl ?_;unfold KW at hp;replace hp:=dd hp;refine s2 ?_;refine bx fun a6=>?_;refine s3 ?_
 revert hp;refine bc fun y1 a4 hp=>?_
 replace hp:=BJ hp;obtain ⟨y2,a5,hp⟩:=hp;refine BX [4] mix kr rfl (s1 ?_);refine AZ Ar Xm.h (Ah (Aj rfl) (AF)) (by exact fun hg w F hF hM=>Lu w a0 (AK (Ac h0) hF hM) _ a4) (s3 ?_);refine AZ (Am rfl rfl) nV.h (Ah (Aq rfl) (Ah (Aq rfl) (AF))) (by exact fun hg w F hF hM=>If w a0 (a2,a3) (AK (Ac h0) hF hM) (AK dv hF hM) _ (a5 hg.2)) (s14 ?_);obtain rfl:=sj hp;refine s1 ?_;refine AE rfl (Ab rfl) ⟨rfl,rfl⟩ ms
def LY (a0:Bb):Option Bool :=
 BH (fun s1:Int=>cond (decide (s1 < (a0.2.2.2.2.2.1.length:Int))) ((idx a0.2.2.2.2.2.1 s1).bind fun y3=>Option.bind (Ii y3) (fun y4=>gb ((!(!y4))&&(decide (0 < s1))) (idx a0.2.2.2.2.2.1 (IntKind.wrap .i64 (s1 - 1))) (fun y5=>cond ((!y4)||((decide (0 < s1))&&(decide (y3≤y5)))) (Option.map .inr (some false)) (some (.inl (IntKind.wrap .i64 (s1+1))))))) (Option.map .inr ((Kl a0.1).bind fun y9=>gb y9 (Dz a0.2.1 0 600) (fun a1=>gb (y9&&a1) (Dz a0.2.2.1 1 3) (fun a2=>gb ((y9&&a1)&&a2) (Dz a0.2.2.2.1 0 60) (fun a3=>gb (((y9&&a1)&&a2)&&a3) (KW a0.2.2.2.2.1 a0.1) (fun a4=>some ((((y9&&a1)&&a2)&&a3)&&a4)))))))) 0
theorem WE (a0:Az) (h0:rd w [] a0) (r) (hp:LY (dat a0)=some r):Sp 111 [.agg (cells a0).toArray] w [] (IsV (.bool r)):=by
 obtain ⟨⟨a2,a3⟩,aa,ab,ac,ad,a4,ao⟩:=a0;refine sa ?_;refine Spec.intro func111 rfl ntmps111 rfl ?_;unfold LY at hp;replace hp:=dd hp;refine s2 ?_;refine bx fun ai=>?_;refine s11 ?_;refine BW (σ:=Int) dat (fun (a1:Int)=>[(8,.int .i64 a1)]) (fun (a1:Int)=>[]) [(1,_),(6,_),(7,_)] [blk ai _ _] 0 hp sb ms ?_;clear hp;rintro a1 x1 hp a5;replace hp:=dd hp;refine kq [1,6,7,8] ?_;refine s5 ?_;refine kp [1,6,7,8,9] ?_;refine Ai rfl (fun q2=>?_) (fun q2=>?_)
 ·replace hp:=Aw q2 hp;refine s6 ?_;replace hp:=AX hp;obtain ⟨u3,a6,hp⟩:=hp;refine Cj (X:=a4) rfl rfl rfl FD.h (Ac h0.2.2.2.2.2.1) a6 ?_;refine LN rfl rfl (Bl (Ac h0.2.2.2.2.2.1) (a6).2) AM.h rfl (s4 ?_)
  revert hp;refine bc fun y4 aj hp=>?_
  replace hp:=DB hp;obtain ⟨u5,a9,hp⟩:=hp;refine BX [29] mix kr rfl (s1 ?_);refine AZ Ar TK.h (Ah (Aj rfl) (AF)) (by exact fun hg w F hF hM=>HE w u3  _ aj) (s9 ?_);refine Cn (X:=a4) (Am rfl rfl) (Aq rfl) (Aq rfl) FD.h (Ac h0.2.2.2.2.2.1) (fun hg=>a9 (GV (BY hg.1.2) hg.2)) ?_;refine Gq (Am rfl rfl) (Aq rfl) (fun hg=>Bl (Ac h0.2.2.2.2.2.1) (a9 (GV (BY hg.1.2) hg.2)).2) AM.h rfl (s20 ?_);refine s3 ?_;refine kp [1,6,7,8,29] ?_;refine Ai rfl (fun q6=>?_) (fun q6=>?_)
  ·replace hp:=Aw q6 hp;refine s4 ?_;replace hp:=Bu hp;obtain ⟨a7,hp,ak⟩:=hp;obtain rfl:=a5 _ ak;obtain rfl:=sj hp;refine s1 ?_;refine AE rfl (Ab rfl) ⟨rfl,rfl⟩ ms
  replace hp:=Ax q6 hp;refine s5 ?_;exact ⟨IntKind.wrap .i64 (a1+1),sb,(.sub ms),Bo hp⟩
 replace hp:=Ax q2 hp;refine BF ?_;replace hp:=Bu hp;obtain ⟨a8,hp,am⟩:=hp;obtain rfl:=a5 _ am;refine s1 ?_
 revert hp;refine bc fun y9 an hp=>?_
 replace hp:=BJ hp;obtain ⟨ap,ae,hp⟩:=hp;replace hp:=BJ hp;obtain ⟨aq,af,hp⟩:=hp;replace hp:=BJ hp;obtain ⟨ar,ag,hp⟩:=hp;replace hp:=BJ hp;obtain ⟨au,ah,hp⟩:=hp;refine BX [2] mix kr rfl (s1 ?_);refine Bq Ar (Aj rfl) (fun hg=>AT (Ag mm) 0 2 rfl) (by exact Bp.h) ?_;refine AZ Ar Ux.h (Ah (Aj rfl) (AF)) (by exact fun hg w F hF hM=>Km w (a2,a3) (AK dv hF hM) _ an) (s3 ?_);refine AZ (Am rfl rfl) HD.h (Ah (Aq rfl) (Ah BP (Ah BP (AF)))) (by exact fun hg w F hF hM=>CN w aa 0 600  _ (ae hg.2)) (s4 ?_);refine AZ (Am rfl rfl) HD.h (Ah (Aq rfl) (Ah BP (Ah BP (AF)))) (by exact fun hg w F hF hM=>CN w ab 1 3  _ (af hg.2)) (s4 ?_);refine AZ (Am rfl rfl) HD.h (Ah (Aq rfl) (Ah BP (Ah BP (AF)))) (by exact fun hg w F hF hM=>CN w ac 0 60  _ (ag hg.2)) (s5 ?_);refine Bq (Am rfl rfl) (Aq rfl) (fun hg=>AT (Ag mm) 0 2 rfl) (by exact Bp.h) ?_;refine AZ (Am rfl rfl) jE.h (Ah (Aq rfl) (Ah (Aq rfl) (AF))) (by exact fun hg w F hF hM=>Qe w ad (a2,a3) (AK (Ac h0.2.2.2.2.1) hF hM) (AK dv hF hM) _ (ah hg.2)) (s20 ?_);refine s10 ?_;obtain rfl:=sj hp;refine s1 ?_;refine AE rfl (Ab rfl) ⟨rfl,rfl⟩ ms
def HR (a0:Bb) (c0:AU):Option Bool :=
 some (decide (a0.1.1=c0.1)&&(decide (a0.1.2=c0.2)&&true))
theorem Ri (a0:Az) (b0:Nat) (c0:Bj) (h0:rd w [] a0) (hb0:Cells w [] b0 0 (cells c0)) (q0:rd w [] c0) (r) (hp:HR (dat a0) (dat c0)=some r):Spec prog 160 ([(.agg (cells a0).toArray:Value)]++[Value.pointer (some ⟨b0,0,none⟩)]).toArray w [] (IsV (.bool r)):=by
 obtain ⟨⟨a1,a2⟩,a3,a4,a5,a6,a7,a8⟩:=a0;obtain ⟨c0_1,c0_2⟩:=c0;refine sa ?_;refine Spec.intro func160 rfl ntmps160 rfl ?_;unfold HR at hp;replace hp:=dd hp;refine s2 ?_;refine bx fun a9=>?_;refine s5 ?_;refine AW rfl rfl (AT (Ag mm) 0 2 rfl) (by exact Bp.h) ?_;refine AW rfl rfl (Br hb0) (by exact Bp.h) ?_;refine Be rfl rfl rfl (Hs FT (EqS.consI AM.h Eu.h rfl rfl (EqS.consI AM.h Eu.h rfl rfl EqS.nil))) (s2 ?_);obtain rfl:=sj hp;refine s1 ?_;refine AE rfl (Ab rfl) ⟨rfl,rfl⟩ ms
def Dv (a0:List Bb) (a1:Bb→Option Bool):Option Int :=
 BH (fun s1:Int=>cond (decide (s1 < (a0.length:Int))) ((idx a0 s1).bind fun y3=>Option.bind (a1 y3) (fun y4=>cond y4 (Option.map .inr (some s1)) (some (.inl (IntKind.wrap .i64 (s1+1)))))) (Option.map .inr (some (-1)))) 0
theorem Hc (a0:TL Az) (f1:Nat) (cs1:List Value) (a1:Bb→Option Bool) (h0:rd w [] a0) (hf1:IsFn prog f1) (hk1:∀ (w':World) (F:List HP) (u0:Az) (v:Bool),Holds w [] F w'→rd w' [] u0→a1 (dat u0)=some v→Spec prog f1 ([Value.agg (cells u0).toArray]++cs1).toArray w' [] (IsV (.bool v))) (r) (hp:Dv (dat a0) a1=some r):Sp 159 [a0.hdr,.func (.func f1) #[] cs1.toArray] w [] (IsV (.int .i64 r)):=by
 refine Spec.intro func159 rfl ntmps159 rfl ?_;unfold Dv at hp;replace hp:=dd hp;refine s12 ?_;refine BW (σ:=Int) dat (fun (a2:Int)=>[(8,.int .i64 a2)]) (fun (a2:Int)=>[]) [(0,_),(1,_),(7,_)] [] 0 hp sb ms ?_;clear hp;rintro a2 x1 hp a4;replace hp:=dd hp;refine kq [0,1,7,8] ?_;refine s5 ?_;refine kp [0,1,7,8,9] ?_;refine Ai rfl (fun q2=>?_) (fun q2=>?_)
 ·replace hp:=Aw q2 hp;refine s13 ?_;replace hp:=AX hp;obtain ⟨⟨⟨a5,a8⟩,a9,aa,ab,ac,ad,ae⟩,a3,hp⟩:=hp;refine Cj (X:=a0) rfl rfl rfl Ct.h (Ac h0) a3 ?_;refine AW rfl rfl (Bl (Ac h0) (a3).2) (by exact FE.h) ?_
  revert hp;refine bc fun y4 af hp=>?_
  refine QS rfl rfl hf1 rfl (by exact fun w hw=>hk1 w _ ((a5,a8),a9,aa,ab,ac,ad,ae) y4 hw (Ap (Aa dv (Aa Ad (Aa Ad (Aa Ad (Aa (Bn (Ae (Ae (Ae (Ae (Ci (Ac h0) (a3).2)))))) (Aa (Bn (Ae (Ae (Ae (Ae (Ae (Ci (Ac h0) (a3).2))))))) CK)))))) hw) af) (s1 ?_);refine kp [0,1,5,7,8,16] ?_;refine Ai rfl (fun q5=>?_) (fun q5=>?_)
  ·replace hp:=Aw q5 hp;refine s5 ?_;replace hp:=Bu hp;obtain ⟨a6,hp,ag⟩:=hp;obtain rfl:=a4 _ ag;obtain rfl:=sj hp;refine s1 ?_;refine AE rfl (Ab rfl) ⟨rfl,rfl⟩ ms
  replace hp:=Ax q5 hp;refine s5 ?_;exact ⟨IntKind.wrap .i64 (a2+1),sb,(.sub ms),Bo hp⟩
 replace hp:=Ax q2 hp;refine BF ?_;replace hp:=Bu hp;obtain ⟨a7,hp,ah⟩:=hp;obtain rfl:=a4 _ ah;refine s4 ?_;obtain rfl:=sj hp;refine s1 ?_;refine AE rfl (Ab rfl) ⟨rfl,rfl⟩ ms
def EF (a0:At) (a1:AU):Option Int :=
 (Dv a0.2.2.2 (fun z0=>HR z0 a1)).bind fun y1=>some y1
theorem Gf (b0_:Nat) (a0:Ao) (a1:Bj) (hbb0_:Cells w [] b0_ 0 (cells a0)) (h0:rd w [] a0) (h1:rd w [] a1) (r) (hp:EF (dat a0) (dat a1)=some r):Sp 112 [Value.pointer (some ⟨b0_,0,none⟩),.agg (cells a1).toArray] w [] (IsV (.int .i64 r)):=by
 obtain ⟨a7,a8,a9,a5⟩:=a0;obtain ⟨a2,a3⟩:=a1;refine sa ?_;refine Spec.intro func112 rfl ntmps112 rfl ?_;unfold EF at hp;replace hp:=dd hp;refine s2 ?_;refine bx fun a4=>?_;refine s7 ?_;refine AY rfl rfl (Br hbb0_) Pl.h rfl ?_;refine NF (fs:=[]) (cs:=[.tmp 3]) rfl rfl rfl ?_
 revert hp;refine bc fun y1 a6 hp=>?_
 refine Bi rfl jF.h rfl (by exact fun w hw=>Hc w a5 160 [Value.pointer (some ⟨a4,0,none⟩)] (fun z0=>HR z0 (a2,a3)) (Ap (Ac h0.2.2.2) hw) pY.h (fun w' F u0 v hF hu0 hv=>Ri w' u0 a4 (a2,a3) hu0 ((CP mm hw.sees).carry hF) (BG (Ap dv hw) hF) v hv) _ a6) (s2 ?_);obtain rfl:=sj hp;refine s1 ?_;refine AE rfl (Ab rfl) ⟨rfl,rfl⟩ ms
def Gl (a0:At):Option Bool :=
 (Ii a0.1).bind fun y1=>gb (!(!y1)) (Dz a0.2.1 1 7) (fun y2=>gb (!((!y1)||(!y2))) (Hm a0.2.2.1) (fun y3=>cond ((((!y1)||(!y2))||(!y3))||(decide (8 < (a0.2.2.2.length:Int)))) (some false) (BH (fun s5:Int=>cond (decide (s5 < (a0.2.2.1.length:Int))) ((idx a0.2.2.1 s5).bind fun y7=>Option.bind (FA a0 y7.1) (fun y8=>cond y8 (Option.map .inr (some false)) (some (.inl (IntKind.wrap .i64 (s5+1)))))) (Option.map .inr (BH (fun s12:Int=>cond (decide (s12 < (a0.2.2.2.length:Int))) ((idx a0.2.2.2 s12).bind fun a1=>Option.bind (LY a1) (fun a2=>gb (!(!a2)) (EF a0 a1.1) (fun a3=>cond ((!a2)||(!decide (a3=s12))) (Option.map .inr (some false)) (some (.inl (IntKind.wrap .i64 (s12+1))))))) (Option.map .inr (some true))) 0))) 0)))
theorem Ip (a0:Ao) (h0:rd w [] a0) (r) (hp:Gl (dat a0)=some r):Sp 63 [.agg (cells a0).toArray] w [] (IsV (.bool r)):=by
 obtain ⟨a6,a7,a2,a3⟩:=a0;refine sa ?_;refine Spec.intro func63 rfl ntmps63 rfl ?_;unfold Gl at hp;replace hp:=dd hp;refine s2 ?_;refine bx fun a8=>?_;refine s4 ?_
 revert hp;refine bc fun y1 ax hp=>?_
 replace hp:=BJ hp;obtain ⟨y2,ay,hp⟩:=hp;replace hp:=BJ hp;obtain ⟨y3,az,hp⟩:=hp;refine BX [28] mix kr rfl (s2 ?_);refine AZ Ar TK.h (Ah (Aj rfl) (AF)) (by exact fun hg w F hF hM=>HE w a6  _ ax) (s4 ?_);refine AZ (Am rfl rfl) HD.h (Ah (Aq rfl) (Ah BP (Ah BP (AF)))) (by exact fun hg w F hF hM=>CN w a7 1 7  _ (ay (BY hg.2))) (s5 ?_);refine AZ (Am rfl rfl) XN.h (Ah (Aq rfl) (AF)) (by exact fun hg w F hF hM=>Im w a2 (AK (Ac h0.2.2.1) hF hM) _ (az (BY hg.2))) (s5 ?_);refine GF (X:=a3) (Am rfl rfl) (Aq rfl) Ct.h (s20 ?_);refine s6 ?_;refine kp [1,28] ?_;refine Ai rfl (fun q4=>?_) (fun q4=>?_)
 ·replace hp:=Aw q4 hp;refine s4 ?_;obtain rfl:=sj hp;refine s1 ?_;refine AE rfl (Ab rfl) ⟨rfl,rfl⟩ ms
 replace hp:=Ax q4 hp;refine s10 ?_;refine BW (σ:=Int) dat (fun (a4:Int)=>[(32,.int .i64 a4)]) (fun (a4:Int)=>[]) [(1,_),(30,_),(31,_)] [blk a8 _ _] 0 hp sb ms ?_;clear hp;rintro a4 x5 hp ak;replace hp:=dd hp;refine kq [1,30,31,32] ?_;refine s5 ?_;refine kp [1,30,31,32,33] ?_;refine Ai rfl (fun q6=>?_) (fun q6=>?_)
 ·replace hp:=Aw q6 hp;refine s5 ?_;replace hp:=AX hp;obtain ⟨⟨⟨an,ao⟩,b8,b9,bb,⟨bd,be,bf,bg,b1,b2,b3,b4⟩,b5,b6,b7⟩,am,hp⟩:=hp;refine Cj (X:=a2) rfl rfl rfl CG.h (Ac h0.2.2.1) am ?_;refine AW rfl rfl (Bl (Ac h0.2.2.1) (am).2) (by exact DK.h) ?_;refine al fun bh=>?_;refine s5 ?_;refine AW rfl rfl (AT (Ag mm) 0 2 rfl) (by exact Bp.h) ?_
  revert hp;refine bc fun y8 b0 hp=>?_
  refine Bi rfl bC.h rfl (by exact fun w hw=>IN w a8 (a6,a7,a2,a3) (an,ao) (CP mm hw.sees) (Ap (Aa Ad (Aa Ad (Aa (Ac h0.2.2.1) (Ac h0.2.2.2)))) hw) (Ap dv hw) _ b0) (s1 ?_);refine kp [1,30,31,32,38] ?_;refine Ai rfl (fun q9=>?_) (fun q9=>?_)
  ·replace hp:=Aw q9 hp;refine s4 ?_;replace hp:=Bu hp;obtain ⟨bi,hp,ap⟩:=hp;obtain rfl:=ak _ ap;obtain rfl:=sj hp;refine s1 ?_;refine AE rfl (Ab rfl) ⟨rfl,rfl⟩ ms
  replace hp:=Ax q9 hp;refine s5 ?_;exact ⟨IntKind.wrap .i64 (a4+1),sb,(.sub ms),Bo hp⟩
 replace hp:=Ax q6 hp;refine BF ?_;replace hp:=Bu hp;obtain ⟨bj,hp,aq⟩:=hp;obtain rfl:=ak _ aq;refine s9 ?_;refine BW (σ:=Int) dat (fun (a1:Int)=>[(43,.int .i64 a1)]) (fun (a1:Int)=>[]) [(1,_),(41,_),(42,_)] [blk a8 _ _] 0 hp sb ms ?_;clear hp;rintro a1 bk hp ab;replace hp:=dd hp;refine kq [1,41,42,43] ?_;refine s5 ?_;refine kp [1,41,42,43,44] ?_;refine Ai rfl (fun ac=>?_) (fun ac=>?_)
 ·replace hp:=Aw ac hp;refine s6 ?_;replace hp:=AX hp;obtain ⟨⟨⟨a9,aa⟩,ae,af,ag,ah,ai,aj⟩,a5,hp⟩:=hp;refine Cj (X:=a3) rfl rfl rfl Ct.h (Ac h0.2.2.2) a5 ?_;refine AW rfl rfl (Bl (Ac h0.2.2.2) (a5).2) (by exact FE.h) ?_;refine al fun bl=>?_;refine s4 ?_
  revert hp;refine bc fun bm ar hp=>?_
  replace hp:=BJ hp;obtain ⟨bn,au,hp⟩:=hp;refine BX [57] mix kr rfl (s1 ?_);refine AZ Ar pZ.h (Ah (Aj rfl) (AF)) (by exact fun hg w F hF hM=>WE w ((a9,aa),ae,af,ag,ah,ai,aj) (AK (Aa dv (Aa Ad (Aa Ad (Aa Ad (Aa (Bn (Ae (Ae (Ae (Ae (Ci (Ac h0.2.2.2) (a5).2)))))) (Aa (Bn (Ae (Ae (Ae (Ae (Ae (Ci (Ac h0.2.2.2) (a5).2))))))) CK)))))) hF hM) _ ar) (s3 ?_);refine Bq (Am rfl rfl) (Aq rfl) (fun hg=>AT (Ag mm) 0 2 rfl) (by exact Bp.h) ?_;refine AZ (Am rfl rfl) SR.h (Ah (Aj rfl) (Ah (Aq rfl) (AF))) (by exact fun hg w F hF hM=>Gf w a8 (a6,a7,a2,a3) (a9,aa) (CP (hM _ mm) hF.sees) (AK (Aa Ad (Aa Ad (Aa (Ac h0.2.2.1) (Ac h0.2.2.2)))) hF hM) (AK dv hF hM) _ (au (BY hg.2))) (s15 ?_);refine kp [1,41,42,43,57] ?_;refine Ai rfl (fun ad=>?_) (fun ad=>?_)
  ·replace hp:=Aw ad hp;refine s4 ?_;replace hp:=Bu hp;obtain ⟨bo,hp,av⟩:=hp;obtain rfl:=ab _ av;obtain rfl:=sj hp;refine s1 ?_;refine AE rfl (Ab rfl) ⟨rfl,rfl⟩ ms
  replace hp:=Ax ad hp;refine s5 ?_;exact ⟨IntKind.wrap .i64 (a1+1),sb,(.sub ms),Bo hp⟩
 replace hp:=Ax ac hp;refine BF ?_;replace hp:=Bu hp;obtain ⟨bp,hp,aw⟩:=hp;obtain rfl:=ab _ aw;refine s4 ?_;obtain rfl:=sj hp;refine s1 ?_;refine AE rfl (Ab rfl) ⟨rfl,rfl⟩ ms
end
end Go.Proofs.SL
namespace Go.Proofs.SL
open Go
variable {Γ:Cx} {l:Ca} {M M' M1 M2 F:List HP} {Q:Dw} {K:Dp} {w0 w:World} {S0:List Nat} {P:Program}
variable {rest:List Oper} {d:Nat} {ty:TypeId} {pos:String} {af:Array Edge}
section
variable {ops:Array Oper} {Msh pool pool':List HP} {E:Fl} {rs:List (Option Nat×Rel)} {cs0:List Nat} {KD:Gx}
end
end Go.Proofs.SL
namespace Go.Proofs.SL
open Go
variable {Γ:Cx} {l l':Ca} {M M' M1 M2 F A:List HP} {Qp:Dw} {K:Dp} {w0 w:World} {S0:List Nat}
variable {ops:Array Oper} {fuel:Nat} {listed:Array Bool} {i d:Nat} {o:Oper}
theorem nZ {P:Program} {a:Act} {next:Act→World→Prop} {Q1 Q2:Exit→Act→World→Prop} (h1:∀ e a w,e≠.normal→¬ Q1 e a w) (hd:∀ a w,next a w→a.defers=[])
  (h:o.wp P a w next Q1):o.wp P a w (fun a' w'=>(∃ u,a'=a.put o.dst u)∧next a' w') Q2:=by
 unfold Oper.wp at h ⊢;generalize (execOp a.eval o).run P w=r at h ⊢
 cases r with
 | ok n w' =>
  cases n<;>simp only [Oper.upon] at h ⊢
  case value u=>exact ⟨⟨u,rfl⟩,h⟩
  case skip=>exact ⟨⟨_,rfl⟩,h⟩
  case defer df =>
   have:=hd _ _ h
   cases hh:o.dst<;>simp [Act.put,hh] at this
  case enter f args =>
   refine Calls.mono h fun e w'' he=>?_
   cases e with
   | returned u=>exact ⟨⟨u,rfl⟩,he⟩
   | panicked c=>exact (h1 _ _ _ (by simp) he).elim
   | outgrown =>
    obtain ⟨a,w,hq⟩:=he;exact (h1 _ _ _ (by simp) hq).elim
  case row row args=>exact Rows.mono h fun u w'' he=>⟨⟨u,rfl⟩,he⟩
 | halt x w' =>
  cases x<;>simp only [Oper.upon] at h ⊢
  case panic v=>exact (h1 _ _ _ (by simp) h).elim
theorem MI (h:L Γ [o] l M K) (hg:o.guard=none) {a:Act} (ha:Env a Γ.n l) (hw:Holds Γ.w0 Γ.S0 M w) {Q2:Exit→Act→World→Prop} :
  o.wp Γ.P a w (fun a' w'=>(∃ u,a'=a.put o.dst u)∧∃ l' M',Env a' Γ.n l'∧Holds Γ.w0 Γ.S0 M' w'∧K l' M') Q2:=by
 have h1:=h #[] a w (fun e a' w'=>e=.normal∧∃ l' M',Env a' Γ.n l'∧Holds Γ.w0 Γ.S0 M' w'∧K l' M') ha hw (fun a' w' l' M' q1 q2 q3=>⟨rfl,l',M',q1,q2,q3⟩)
 unfold wpList at h1;simp only [Region.wanted,hg,if_true] at h1;rcases h1 with h1 | ⟨_,a,w,h1⟩
 ·refine Oper.wp_mono (fun a' w' h2=>⟨h2.1,h2.2.2⟩) (nZ (fun e a w he hq=>he hq.1) (fun a w hq=>?_) h1);obtain ⟨_,l',M',h3,_⟩:=hq;exact h3.defers
 ·cases h1.1
def AllIn:List HP→List HP→Prop
 | [],_=>True
 | h::hs,M=>h∈M∧AllIn hs M
theorem AllIn.mem:∀ {A M:List HP},AllIn A M→∀ x,x∈A→x∈M
 | _::_,_,h,x,hx=>by
  rcases List.mem_cons.1 hx with rfl | hx
  ·exact h.1
  ·exact AllIn.mem h.2 x hx
theorem AllIn.of_mem:∀ {A M:List HP},(∀ x,x∈A→x∈M)→AllIn A M
 | [],_,_=>trivial
 | _::_,_,h=>⟨h _ (List.mem_cons_self ..),AllIn.of_mem fun x hx=>h x (List.mem_cons_of_mem _ hx)⟩
structure Pu (Γ:Cx) (A:List HP) (l:Ca) (o:Oper) (d:Nat) (v:Value):Prop where
 dst:o.dst=some d
 lt:d < Γ.n
 gd:o.guard=none
 pu:∀ a w,Env a Γ.n l→Sees Γ.w0 Γ.S0 A w→(execOp a.eval o).run Γ.P w=.ok (.value v) w
def AH (Γ:Cx) (ops:Array Oper) (A:List HP) (Qp:Dw) (fuel:Nat) (listed:Array Bool) (l:Ca) (M:List HP):Prop :=
 ∀ a w,Env a Γ.n l→Holds Γ.w0 Γ.S0 M w→wpAnyH Γ.P .any ops (ME Γ Qp) (Sees Γ.w0 Γ.S0 A) fuel listed a w
theorem oA (A:List HP) {id:Nat} (hm:Γ.P.follows .mixedOrders=true) (h:AH Γ ops A Qp ops.size (Array.replicate ops.size false) l M):W Γ (.region id ops true) l M Qp:=fun a w ha hw =>
 wp_region_held hm (h a w.drew ha hw.drew)
theorem Ht (hr:Region.ready .any ops listed=[]) (h:Qp .normal l M):AH Γ ops A Qp fuel listed l M:=fun _ _ ha hw=>wpAnyH_done hr ⟨l,M,ha,hw,h⟩ fuel
theorem Hu {v:Value} (i:Nat) (hi:ops[i]?=some o) (hp:Pu Γ A l o d v) (hs:Region.noSelect ops=true) (hf:Region.free .any ops listed i=true) (hr:(Region.ready .any ops listed).contains i=true)
  (hA:AllIn A M) (hk:AH Γ ops A Qp fuel (listed.setIfInBounds i true) ((d,v)::l) M):AH Γ ops A Qp (fuel+1) listed l M:=fun a w ha hw =>
 wpAnyH_take hi hs hf hr (fun _ _ _ h=>h) (.inl ⟨by simp [Region.wanted,hp.gd],fun w hw=>hp.pu a w ha hw⟩) (hw.seesSub hA.mem) (hk _ w (by rw [hp.dst];exact ha.put hp.lt) hw)
theorem LZ {α:Type} {xs:Array α} {i:Nat} {o:α} {rest:List α} (h:xs.toList.drop i=o::rest):xs[i]?=some o:=by
 rw [← Array.getElem?_toList]
 have:=congrArg (fun l=>l[0]?) h
 simpa [List.getElem?_drop] using this
theorem DM (i:Nat) {rest':List Oper} (hi:ops.toList.drop i=o::rest') (hg:o.guard=none) (hr:Region.ready .any ops listed=[i])
  (h:L Γ [o] l M (fun l' M'=>AllIn A M'∧AH Γ ops A Qp fuel (listed.setIfInBounds i true) l' M')):AH Γ ops A Qp (fuel+1) listed l M:=fun a w ha hw =>
 wpAnyH_all hr (by simp) fun j hj=>by
  rw [List.mem_singleton.1 hj];unfold wpOp;rw [LZ hi];simp only [Region.wanted,hg,if_true];refine .inl (Oper.wp_mono (fun a' w' h1=>?_) (MI h hg ha hw));obtain ⟨_,l',M',h1,h2,h3,h4⟩:=h1;exact ⟨h2.seesSub h3.mem,h4 a' w' h1 h2⟩
def emH:HP:=⟨[],fun _=>True,fun _ _ _ h=>h⟩
theorem Holds.em (h:Holds w0 S0 M w):Holds w0 S0 (emH::M) w:=h.reFp (List.Perm.of_eq (by rw [Co];rfl)) fun x hx=>by
 rcases List.mem_cons.1 hx with rfl | hx
 ·trivial
 ·exact h.prs x hx
def AP (Γ:Cx) (ops:Array Oper) (A:List HP) (Qp:Dw) (al da:Nat) (z:List Value) (T:TypeId) (fuel:Nat) (listed:Array Bool) (l:Ca) (M:List HP):Prop :=
 AH Γ ops A Qp (fuel+1) listed l M∧∀ b,AH Γ ops A Qp fuel (listed.setIfInBounds al true) ((da,.pointer (some ⟨b,0,none⟩))::l) (blk b z T::M)
theorem SS {da:Nat} {v:Value} (h:l.lookup da=none):Sub l ((da,v)::l):=fun t u ht=>by
 rw [List.lookup_cons]
 cases hb:t == da with
 | true =>
  have:t=da:=by simpa using hb
  subst this;rw [h] at ht;cases ht
 | false=>exact ht
variable {al da:Nat} {z:List Value} {T:TypeId}
theorem Sn (A:List HP) (al da:Nat) (z:List Value) (T:TypeId) (n:Nat) {id:Nat} (hm:Γ.P.follows .mixedOrders=true) (hn:ops.size=n+1) (h:AP Γ ops A Qp al da z T n (Array.replicate (n+1) false) l M):W Γ (.region id ops true) l M Qp :=
 oA A hm (by rw [hn];exact h.1)
theorem BM {v:Value} (i:Nat) (hi:ops[i]?=some o) (hp:Pu Γ A l o d v) (hs:Region.noSelect ops=true) (hf:Region.free .any ops listed i=true) (hr:(Region.ready .any ops listed).contains i=true)
  (hf2:Region.free .any ops (listed.setIfInBounds al true) i=true) (hr2:(Region.ready .any ops (listed.setIfInBounds al true)).contains i=true) (hda:l.lookup da=none) (hne:Nat.beq d da=false) (hia:Nat.beq i al=false)
  (hA:AllIn A M) (hk:AP Γ ops A Qp al da z T fuel (listed.setIfInBounds i true) ((d,v)::l) M):AP Γ ops A Qp al da z T (fuel+1) listed l M:=by
 have hne':d≠da:=fun e=>by subst e;rw [Nat.beq_refl] at hne;cases hne
 have hia':i≠al:=fun e=>by subst e;rw [Nat.beq_refl] at hia;cases hia
 refine ⟨Hu i hi hp hs hf hr hA hk.1,fun b=>?_⟩;refine Hu i hi (v:=v) (d:=d) ⟨hp.dst,hp.lt,hp.gd,fun a w ha hw=>hp.pu a w (ha.sub (SS hda)) hw⟩ hs hf2 hr2 (AllIn.of_mem fun x hx=>List.mem_cons_of_mem _ (hA.mem x hx)) ?_;rw [Array.setIfInBounds_comm _ _ (Ne.symm hia')];intro a w ha hw;refine hk.2 b a w (ha.sub fun t u ht=>?_) hw;simp only [List.lookup_cons] at ht ⊢
 cases h1:t == da with
 | true =>
  have:t=da:=by simpa using h1
  subst this;rw [h1] at ht
  cases h2:t == d with
  | true=>exact (hne' (by simpa using h2:t=d).symm).elim
  | false=>exact ht
 | false=>rw [h1] at ht;exact ht
theorem Iq (i:Nat) {rest':List Oper} (hi0:ops.toList.drop i=o::rest') (hg:o.guard=none) (hr1:Region.ready .any ops listed=[i,al]∨Region.ready .any ops listed=[al,i]) (hr2:Region.ready .any ops (listed.setIfInBounds al true)=[i])
  (hia:Nat.beq i al=false) (hdst:(o.dst == some da)=false) (hda:l.lookup da=none) {oal:Oper} (hoa:ops[al]?=some oal) (hga:oal.guard=none)
  (hal:∀ l M,L Γ [oal] l M (fun l' M'=>∃ b,l'=(da,.pointer (some ⟨b,0,none⟩))::l∧M'=blk b z T::M)) (hA:AllIn A M)
  (h:∀ X,L Γ [o] l (X::M) (fun l' M'=>∃ M1,Pick X M' M1∧AllIn A M1∧l'.lookup da=none∧AP Γ ops A Qp al da z T fuel (listed.setIfInBounds i true) l' M1)) :
  AP Γ ops A Qp al da z T (fuel+1) listed l M:=by
 have hi:=LZ hi0
 have hia':i≠al:=fun e=>by subst e;rw [Nat.beq_refl] at hia;cases hia
 have two:∀ b,AH Γ ops A Qp (fuel+1) (listed.setIfInBounds al true) ((da,.pointer (some ⟨b,0,none⟩))::l) (blk b z T::M):=fun b a w ha hw =>
  wpAnyH_all hr2 (by simp) fun j hj=>by
   rw [List.mem_singleton.1 hj];unfold wpOp;rw [hi];simp only [Region.wanted,hg,if_true];refine .inl (Oper.wp_mono (fun a' w' h1=>?_) (MI (h (blk b z T)) hg (ha.sub (SS hda)) hw));obtain ⟨⟨u,rfl⟩,l',M',h1,h2,M1,h3,h4,h5,h6⟩:=h1
   have h7:=h2.perm h3.perm
   refine ⟨h7.seesSub fun x hx=>List.mem_cons_of_mem _ (h4.mem x hx),?_⟩;rw [Array.setIfInBounds_comm _ _ (Ne.symm hia')];refine h6.2 b _ w' ⟨h1.size,h1.defers,fun t v ht=>?_⟩ h7;rw [List.lookup_cons] at ht
   cases hb:t == da with
   | true =>
    have:t=da:=by simpa using hb
    subst this;rw [hb] at ht;cases ht
    have h8:=ha.get t (.pointer (some ⟨b,0,none⟩)) (by simp [List.lookup_cons])
    cases hd:o.dst with
    | none=>exact h8
    | some d =>
     have hne:d≠t:=fun e=>by subst e;rw [hd] at hdst;simp at hdst
     simp only [Act.put];rw [Array.getElem?_setIfInBounds_ne hne];exact h8
   | false=>rw [hb] at ht;exact h1.get t v ht
 have one:∀ a w,Env a Γ.n l→Holds Γ.w0 Γ.S0 M w→∀ j,j=i∨j=al→wpOp Γ.P ops (ME Γ Qp) j (fun a' w'=>Sees Γ.w0 Γ.S0 A w'∧wpAnyH Γ.P .any ops (ME Γ Qp) (Sees Γ.w0 Γ.S0 A) (fuel+1) (listed.setIfInBounds j true) a' w') a w:=fun a w ha hw j hj=>by
  rcases hj with rfl | rfl
  ·unfold wpOp;rw [hi];simp only [Region.wanted,hg,if_true];refine .inl (Oper.wp_mono (fun a' w' h1=>?_) (MI (h emH) hg ha hw.em));obtain ⟨_,l',M',h1,h2,M1,h3,h4,h5,h6⟩:=h1
   have h7:=(h2.perm h3.perm).sub (M':=M1) ⟨[emH],List.perm_append_comm (l₁:=[emH])⟩
   exact ⟨h7.seesSub h4.mem,h6.1 a' w' h1 h7⟩
  ·unfold wpOp;rw [hoa];simp only [Region.wanted,hga,if_true];refine .inl (Oper.wp_mono (fun a' w' h1=>?_) (MI (hal l M) hga ha hw));obtain ⟨_,l',M',h1,h2,b,rfl,rfl⟩:=h1;exact ⟨h2.seesSub fun x hx=>List.mem_cons_of_mem _ (hA.mem x hx),two b a' w' h1 h2⟩
 refine ⟨fun a w ha hw=>?_,two⟩;rcases hr1 with hr | hr
 ·exact wpAnyH_all hr (by simp) fun j hj=>one a w ha hw j (by simpa using hj)
 ·exact wpAnyH_all hr (by simp) fun j hj=>one a w ha hw j ((by simpa using hj:j=al∨j=i).symm)
theorem Kq (hr:Region.ready .any ops listed=[al]) {oal:Oper} {rest':List Oper} (hoa:ops.toList.drop al=oal::rest') (hga:oal.guard=none)
  (hal:∀ l M,L Γ [oal] l M (fun l' M'=>∃ b,l'=(da,.pointer (some ⟨b,0,none⟩))::l∧M'=blk b z T::M)) (hA:AllIn A M)
  (h:∀ b,AH Γ ops A Qp fuel (listed.setIfInBounds al true) ((da,.pointer (some ⟨b,0,none⟩))::l) (blk b z T::M)):AP Γ ops A Qp al da z T fuel listed l M :=
 ⟨DM al hoa hga hr fun ops' a w Q ha hw hq=>hal l M ops' a w Q ha hw fun a' w' l' M' h1 h2 ⟨b,h3,h4⟩=>hq a' w' l' M' h1 h2 (by
  subst h3;subst h4;exact ⟨AllIn.of_mem fun x hx=>List.mem_cons_of_mem _ (hA.mem x hx),h b⟩),h⟩
section
variable {ty:TypeId} {pos:String} {af:Array Edge} {P:Program}
theorem Ma {op:Op} {v:Value} (hn:Nat.blt d Γ.n=true) (he:∀ a w,Env a Γ.n l→Sees Γ.w0 Γ.S0 A w→(execOp a.eval { dst:=some d,op,type:=ty,pos,after:=af,guard:=none }).run Γ.P w=.ok (.value v) w) :
  Pu Γ A l { dst:=some d,op,type:=ty,pos,after:=af,guard:=none } d v:=⟨rfl,Nat.le_of_ble_eq_true hn,rfl,he⟩
theorem EY {x:Operand} {v:Value} (hn:Nat.blt d Γ.n=true) (hx:ev l x=some v):Pu Γ A l { dst:=some d,op:=.move x,type:=ty,pos,after:=af,guard:=none } d v :=
 Ma hn fun a w ha _=>by simp [execOp,ha.eval hx]
theorem Cu {x:Operand} {i:Nat} {vs:Array Value} {v:Value} (hn:Nat.blt d Γ.n=true) (hx:ev l x=some (.tuple vs)) (hv:vs[i]?=some v) :
  Pu Γ A l { dst:=some d,op:=.extract x i,type:=ty,pos,after:=af,guard:=none } d v :=
 Ma hn fun a w ha _=>by simp [execOp,ha.eval hx,Instr.extract,hv]
theorem Ce {x:Operand} {T f fo g o:Nat} (hn:Nat.blt d Γ.n=true) (hx:ev l x=some (.pointer (some ⟨g,o,none⟩))) (ht:Pb Γ.P T f=some fo) :
  Pu Γ A l { dst:=some d,op:=.fieldAddr T x f,type:=ty,pos:=pos,after:=af,guard:=none } d (.pointer (some ⟨g,o+fo,none⟩)) :=
 Ma hn fun a w ha hw=>by
  unfold Pb at ht
  split at ht<;>(try cases ht)
  rename_i fs hfs
  split at ht<;>(try cases ht)
  rename_i x' hx'
  split at ht<;>(try cases ht)
  rename_i i hi
  split at ht<;>cases ht
  rename_i hsz
  simp [execOp,ha.eval hx,Instr.fieldAt,underlying,hfs,hx',Instr.sureAddr,fieldPlace,sizeOf,typeInfo,hi,hsz,Fx]
theorem Fe {x:Operand} {T g off fo:Nat} {cs:List Value} {v:Value} (hn:Nat.blt d Γ.n=true) (hx:ev l x=some (.pointer (some ⟨g,off+fo,none⟩))) (hc:RdC Γ A g off cs) (ht:HO Γ.P T=true)
  (hv:cs[fo]?=some v):Pu Γ A l { dst:=some d,op:=.load T x,type:=ty,pos:=pos,after:=af,guard:=none } d v :=
 Ma hn fun a' w ha hw=>by simp [execOp,ha.eval hx,Instr.loadAt,Instr.sureAddr,loadVar,FH ht,hc w hw fo v hv]
theorem Dd {x:Operand} {T g off:Nat} {cs:List Value} (hn:Nat.blt d Γ.n=true) (hx:ev l x=some (.pointer (some ⟨g,off,none⟩))) (hc:RdC Γ A g off cs) (ht:Jp Γ.P T=some cs.length) :
  Pu Γ A l { dst:=some d,op:=.load T x,type:=ty,pos:=pos,after:=af,guard:=none } d (.agg cs.toArray) :=
 Ma hn fun a' w ha hw=>by
  have hl:=Hy (P:=Γ.P) (hc w hw)
  simp [execOp,ha.eval hx,Instr.loadAt,Instr.sureAddr,loadVar,Fo ht,hl]
theorem Jg {τ δ:Type} [GT τ δ] {x y:Operand} {T e sz by_:Nat} {z:List Value} {k:IntKind} {i:Int} {X:TL τ} {u:τ} (hn:Nat.blt d Γ.n=true) (hx:ev l x=some X.hdr) (hy:ev l y=some (.int k i))
  (ht:elOf Γ.P T=some (e,sz,by_,z)) (hr:RdT Γ A X) (hi:0≤i∧X.els[i.toNat]?=some u) :
  Pu Γ A l { dst:=some d,op:=.indexAddr T x y,type:=ty,pos:=pos,after:=af,guard:=none } d (.pointer (some ⟨X.g,X.o+i.toNat*sz,none⟩)) :=
 Ma hn fun a' w ha hw=>by
  have h1:=ha.eval hx
  rw [Vh (hr w hw) hi.2] at h1;simp [execOp,h1,ha.eval hy,Jd ht X.g X.o X.els.length X.cap k i i.toNat om (List.getElem?_eq_some_iff.1 hi.2).1 w]
section
variable {τ δ:Type} [GT τ δ]
theorem oB {X:TL τ} {a b:Int} {r:List δ} (hr:HG (GT.dat X) a b=some r):∃ X':TL τ,X'=slc X a.toNat b.toNat∧GT.dat X'=r:=by
 obtain ⟨s0,s1,s2,s3⟩:=Pj hr;exact ⟨_,rfl,by rw [s3,CD,CD];simp [slc,List.map_take,List.map_drop]⟩
end
end
theorem XO {P:Program} {Q:Exit→Act→World→Prop} {S S':World→Prop} (hs:∀ w,S' w→S w):∀ (fuel:Nat) (listed:Array Bool) (a:Act) (w:World),wpAnyH P .any ops Q S' fuel listed a w→wpAnyH P .any ops Q S fuel listed a w
 | 0,_,_,_,h=>h
 | fuel+1,_,_,_,h=>⟨h.1,fun i hi=>wpOp_mono (fun a' w' h'=>⟨hs _ h'.1,XO hs fuel _ a' w' h'.2⟩) (h.2 i hi)⟩
theorem bD (A':List HP) (hs:AllIn A A') (h:AH Γ ops A' Qp fuel listed l M):AH Γ ops A Qp fuel listed l M:=fun a w ha hw =>
 XO (fun w h=>⟨h.old,fun x hx=>h.prs x (hs.mem x hx)⟩) _ _ _ _ (h a w ha hw)
theorem KJ (A':List HP) (hs:AllIn A A') (h:AP Γ ops A' Qp al da z T fuel listed l M):AP Γ ops A Qp al da z T fuel listed l M:=⟨bD A' hs h.1,fun b=>bD A' hs (h.2 b)⟩
end Go.Proofs.SL
