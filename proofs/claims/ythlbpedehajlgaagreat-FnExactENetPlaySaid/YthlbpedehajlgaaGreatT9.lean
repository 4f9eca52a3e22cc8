/- The texts of the proof, part 9. -/
import Derived.Test.YthlbpedehajlgaaGreatT8
import Derived.Test.YthlbpedehajlgaaGreatT4
set_option linter.all false
namespace Go.Proofs.SL
open Go Tryz
set_option maxHeartbeats 2000000
instance qM:FnF prog 203:=⟨_,func203,kr,rfl⟩
instance qN:FnF prog 204:=⟨_,func204,kr,rfl⟩
theorem bL {τ δ:Type} [GT τ δ] (q:δ→Bool) (X:TL τ):DE q (GT.dat X)=DE (fun t:τ=>q (GT.dat t)) X.els:=by
 unfold DE;rw [CD,List.findIdx?_map];rfl
theorem bM {τ δ:Type} [GT τ δ] {X:TL τ} {u:Unit} (h:LQ (decide ((GT.dat X).length≤4294967296))=some u):X.els.length≤4294967296:=by
 have:=of_decide_eq_true (Pi h)
 rwa [CD,List.length_map] at this
theorem Zk {τ δ:Type} [GT τ δ] {X:TL τ} {u:Unit} (h:LQ (decide ((GT.dat X).length≤4294967296))=some u):(GT.dat X).length≤4294967296:=of_decide_eq_true (Pi h)
theorem Yf (l:List Bb) (p:Bb→Bool) (h:l.length≤4294967296):Dv l (fun d=>some (p d))=some (DE p l):=by
 unfold Dv;rw [Jf (l:=l) p some om]
 ·intro k x hx;simp only [En (List.getElem?_eq_some_iff.1 hx).1,cond_true,BV,hx,Option.bind_some]
  cases p x<;>rfl
 ·simp only [Eo];rfl
theorem gY {τ δ:Type} [GT τ δ] {w0 w:World} {S0:List Nat} {M:List HP} (h:Holds w0 S0 M w):Holds w0 S0 (BU ([]:List τ)::M) w :=
 h.reFp (List.Perm.of_eq (by rw [Co];rfl)) fun y hy=>by
  rcases List.mem_cons.1 hy with rfl | hy
  ·intro x hx;cases hx
  ·exact h.prs _ hy
theorem gZ {τ δ:Type} [GT τ δ] (u v:τ):(GT.cells u).take 0++(Value.agg (GT.cells v).toArray).cells.toList++(GT.cells u).drop (0+GT.sz τ)=GT.cells v:=by
 rw [List.take_zero,List.nil_append,Nat.zero_add,List.drop_of_length_le (by rw [GT.len];exact Nat.le_refl _),List.append_nil];rfl
theorem PJ (w:World) (a0:TL Az) (f1:Nat) (cs1:List Value) (qD:Bb→Bool) (hf1:IsFn prog f1) (hlen:a0.els.length≤4294967296) (hk1:∀ (w':World) (F:List HP) (u0:Az),Holds w (fps [Af a0]) F w'→Spec prog f1 ([Value.agg (GT.cells u0).toArray]++cs1).toArray w' [] (IsV (.bool (qD (GT.dat u0))))) (iv:Int) (hiv:Dv (GT.dat a0) (fun d=>some (qD d))=some iv) (hiv2:iv=DE (fun t:Az=>qD (GT.dat t)) a0.els) :
  Spec prog 203 [a0.hdr,.func (.func f1) #[] cs1.toArray].toArray w [Af a0] (fun v M=>∃ (x0:TL Az),v=x0.hdr∧GT.dat x0=(GT.dat a0).filter (fun d=>!qD d)∧M=[Af x0,BU (a0.els.filter (fun t=>qD (GT.dat t)))]):=by
 refine Spec.intro func203 rfl ntmps203 rfl ?_;refine s2 ?_;refine By (v:=(TL.hdr (TL.nil Int 0))) rfl rfl ?_;refine s5 ?_;refine Bi rfl jF.h rfl (by exact fun w hw=>Hc w a0 f1 cs1 (fun d=>some (qD d)) (Ap (Ba mm) hw) hf1 (fun w' F u0 v hF hu0 hv=>by obtain rfl:=Option.some.inj hv;exact hk1 w' _ u0 (Holds.frame (M1:=[]) (M2:=_) hw hF)) _ hiv) ?_;refine s8 ?_;refine kp [0,1,5,12] ?_;refine Ai rfl (fun q2=>?_) (fun q2=>?_)
 ·have hn:a0.els.findIdx? (fun t:Az=>qD (GT.dat t))=none:=by
   cases hh:a0.els.findIdx? (fun t:Az=>qD (GT.dat t)) with
   | none=>rfl
   | some i =>
    unfold DE at hiv2;rw [hh] at hiv2
    have:=of_decide_eq_true q2
    rw [hiv2] at this;simp at this
  have hn':=List.findIdx?_eq_none_iff.1 hn
  have h1:(GT.dat a0).filter (fun d=>!qD d)=GT.dat a0:=by
   refine List.filter_eq_self.2 fun d hd=>?_;obtain ⟨t,ht,rfl⟩:=List.mem_map.1 hd
   have:=hn' t ht
   simp [this]
  have h2:a0.els.filter (fun t=>qD (GT.dat t))=[]:=List.filter_eq_nil_iff.2 fun t ht=>by simp [hn' t ht]
  refine s5 ?_;refine AS (M':=BU ([]:List Az)::_) (fun _=>gY) ?_;refine s1 ?_;refine AE rfl (Ab rfl) ⟨a0,rfl,h1.symm,by rw [h2]⟩ ms
 ·obtain ⟨i,hi⟩:∃ i,a0.els.findIdx? (fun t:Az=>qD (GT.dat t))=some i:=by
   cases hh:a0.els.findIdx? (fun t:Az=>qD (GT.dat t)) with
   | some i=>exact ⟨i,rfl⟩
   | none =>
    unfold DE at hiv2;rw [hh] at hiv2;subst hiv2;simp at q2
  have hiv3:iv=(i:Int):=by rw [hiv2];unfold DE;rw [hi]
  subst hiv3
  have hp:=Vs (fun t:Az=>qD (GT.dat t)) ((0,0),0,0,0,TL.nil Bj 0,TL.nil Int 0,false) hi hlen
  refine s8 ?_;refine AS (M':=Bf a0::BU a0.els::_) (fun _=>Ic pk) ?_;refine AS (M':=Af (rwT a0)::_) (fun _=>lY pk) ?_;rw [← lW a0];rw [← ZV a0] at hp;refine s1 ?_;refine BW (σ:=(TL (Rw Az))×Int×Int) GT.dat (fun ((a1,a2,a3):(TL (Rw Az))×Int×Int)=>[(0,a1.hdr),(5,.int .i64 a2),(6,.int .i64 a3)]) (fun ((a1,a2,a3):(TL (Rw Az))×Int×Int)=>[Af a1]) [(1,_)] [BU a0.els] (rwT a0,(i:Int),IntKind.wrap .i64 ((i:Int)+1)) hp sb ms ?_;clear hp;rintro ⟨a1,a2,a3⟩ x3 hp an;refine kq [0,1,5,6] ?_;replace hp:Ql (fun t:Az=>qD (GT.dat t)) ((0,0),0,0,0,TL.nil Bj 0,TL.nil Int 0,false) (GT.dat a1,a2,a3)=some x3:=hp;unfold Ql at hp;dsimp only at hp;refine s8 ?_;refine kp [0,1,5,6,19] ?_;refine Ai rfl (fun q4=>?_) (fun q4=>?_)
  ·replace hp:=Aw q4 hp;refine s7 ?_;replace hp:=AX hp;obtain ⟨u5,af,hp⟩:=hp;refine Cj (X:=a1) rfl rfl rfl Ct.h (Ba mm) af ?_;refine AW rfl rfl (Bl (Ba mm) (af).2) (by rw [GT.len];exact FE.h) ?_;refine al fun av=>?_;refine Jx rfl rfl pk (by rw [GT.len];exact FE.h) (by rw [GT.len];rfl) (fun v hv=>GT.one _ v hv) ?_;refine s4 ?_;refine AW rfl rfl (Ag mm) (by rw [GT.len];exact FE.h) ?_;replace hp:=ba hp;obtain ⟨y6,ao,hp⟩:=hp;obtain rfl:=Option.some.inj ao;refine QS rfl rfl hf1 rfl (by exact fun w hw=>hk1 w _ u5.t hw) ?_;refine s2 ?_;refine kp [0,1,5,6,7,29] ?_;refine Ai rfl (fun q7=>?_) (fun q7=>?_)
   ·replace hp:=Aw q7 hp;refine s4 ?_;refine AW rfl rfl (Ag mm) (by rw [GT.len];exact FE.h) ?_;replace hp:=AX hp;obtain ⟨u8,ag,hp⟩:=hp;refine Cj (X:=a1) rfl rfl rfl Ct.h (Ba mm) ag ?_;refine AA (fun _=>CX ag.2 pk) ?_;refine EV (X:=a1) (i:=a2.toNat) (sz:=GT.sz (Rw Az)) (fo:=0) (n:=GT.sz (Rw Az)) rfl rfl pk rfl (.inl FE.h) (GT.len u5) (fun v hv=>GT.one u5 v hv) (by rw [GT.len];omega) ?_;refine AA (M':=Af u5::_) (fun _=>nQ u5) ?_;replace hp:=ba hp;obtain ⟨y9,ap,hp⟩:=hp;refine DJ (X:=a1) u5 (gZ u8 u5) pk pk ap (fun aq a6 hhX10=>?_);subst a6;rw [← hhX10];refine s11 ?_;exact ⟨(aq,IntKind.wrap .i64 (a2+1),IntKind.wrap .i64 (a3+1)),sb,(.sub ms),Bo hp⟩
   ·replace hp:=Ax q7 hp;refine s6 ?_;exact ⟨(a1,a2,IntKind.wrap .i64 (a3+1)),sb,(.sub ms),Bo hp⟩
  ·replace hp:=Ax q4 hp;refine BF ?_;replace hp:=Bu hp;obtain ⟨aw,hp,aj⟩:=hp
   have hr:=an _ aj
   refine s4 ?_;replace hp:=ba hp;obtain ⟨ax,a4,hp⟩:=hp;refine Sh (X:=a1) rfl rfl rfl rfl Ct.h rfl (Ba mm) a4 (fun ar a7 a8=>?_)
   have a9:=a4
   subst a7;replace hp:=ba hp;obtain ⟨ay,ak,hp⟩:=hp;replace hp:=ba hp;obtain ⟨az,am,hp⟩:=hp;refine dX (X:=a1) (Y:=ar) (Rw.mk (((0,0),0,0,0,TL.nil Bj 0,TL.nil Int 0,false):Az)) rfl Ct.h rfl rfl rfl pk a8 a9 ak am (fun ah aa hhX16=>?_);subst aa;try rw [← hhX16]
   refine s5 ?_;replace hp:=ba hp;obtain ⟨b0,a5,hp⟩:=hp;refine Sh (X:=ah) rfl rfl rfl rfl Ct.h rfl (Ba mm) a5 (fun au ab ac=>?_)
   have ad:=a5
   subst ab;refine s2 ?_;refine ZN (X:=ah) (Y:=au) (u:=()) ac ad rfl pk (fun ai ae hhX19=>?_);rw [← ae] at hp;try rw [← hhX19]
   have hfin:=(Option.some.inj hp).trans hr
   rw [ZV] at hfin;refine AS (fun w h=>bK (fun t:Az=>qD (GT.dat t)) hfin pk pk h) ?_;rw [← lX ai];refine s1 ?_;refine AE rfl (Ab rfl) ⟨unT ai,rfl,by rw [CD,ZW,hfin,CD,List.filter_map];rfl,rfl⟩ ms
end Go.Proofs.SL
namespace Go.Proofs.SL
open Go Tryz Go.Proofs.SL.GT
noncomputable section
set_option maxHeartbeats 2000000
def Pn (a0:Bb) (c0:AU):Option Bool :=
 some (decide (a0.1.1=c0.1)&&(decide (a0.1.2=c0.2)&&true))
theorem Rl (w:World) (a0:Az) (b0:Nat) (c0:Bj) (hb0:Cells w [] b0 0 (cells c0)) (q0:rd w [] c0) (r) (hp:Pn (dat a0) (dat c0)=some r):Spec prog 204 ([(.agg (cells a0).toArray:Value)]++[Value.pointer (some ⟨b0,0,none⟩)]).toArray w [] (IsV (.bool r)):=by
 obtain ⟨⟨a1,a2⟩,a3,a4,a5,a6,a7,a8⟩:=a0;obtain ⟨c0_1,c0_2⟩:=c0;refine sa ?_;refine Spec.intro func204 rfl ntmps204 rfl ?_;unfold Pn at hp;replace hp:=dd hp;refine s2 ?_;refine bx fun a9=>?_;refine s5 ?_;refine AW rfl rfl (AT (Ag mm) 0 2 rfl) (by exact Bp.h) ?_;refine AW rfl rfl (Br hb0) (by exact Bp.h) ?_;refine Be rfl rfl rfl (Hs FT (EqS.consI AM.h Eu.h rfl rfl (EqS.consI AM.h Eu.h rfl rfl EqS.nil))) (s2 ?_);obtain rfl:=sj hp;refine s1 ?_;refine AE rfl (Ab rfl) ⟨rfl,rfl⟩ ms
def Gb (a0:At) (a1:AU):Option At :=
 (LQ (decide (a0.2.2.2.length≤4294967296))).bind fun y1=>Option.bind (some (a0.2.2.2.filter (fun d=>!(fun d:Bb=>decide (d.1.1=a1.1)&&(decide (d.1.2=a1.2)&&true)) d))) (fun y2=>some (a0.1,a0.2.1,a0.2.2.1,y2))
theorem Kd (w:World) (b0_:Nat) (a0:Ao) (a1:Bj) (h1:rd w (fps [blk b0_ (cells a0) 44,Af a0.2.2.1,Af a0.2.2.2]) a1) (r) (hp:Gb (dat a0) (dat a1)=some r):Sp 176 [Value.pointer (some ⟨b0_,0,none⟩),.agg (cells a1).toArray] w [blk b0_ (cells a0) 44,Af a0.2.2.1,Af a0.2.2.2] (fun v M=>∃ (y0:Ao),v=.tuple #[]∧dat y0=r∧M=[blk b0_ (cells y0) 44,Af y0.2.2.1,Af y0.2.2.2,BU (a0.2.2.2.els.filter (fun t:Az=>decide ((dat t).1.1=a1.1)&&(decide ((dat t).1.2=a1.2)&&true)))]):=by
 obtain ⟨a9,aa,ab,a2⟩:=a0;obtain ⟨a3,a4⟩:=a1;refine sa ?_;refine Spec.intro func176 rfl ntmps176 rfl ?_;unfold Gb at hp;replace hp:=dd hp;refine s2 ?_;refine bx fun a6=>?_;refine s7 ?_;refine NF (fs:=[]) (cs:=[.tmp 3]) rfl rfl rfl ?_
 revert hp;refine bc fun y1 a7 hp=>?_
 revert hp;refine bc fun y2 a8 hp=>?_
 refine Cd [Af a2] _ rfl qM.h rfl pc (by exact fun w hw=>PJ w a2 204 [Value.pointer (some ⟨a6,0,none⟩)] (fun d:Bb=>decide (d.1.1=a3)&&(decide (d.1.2=a4)&&true)) qN.h (bM a7) (fun w' F u0 hF=>Rl w' u0 a6 (a3,a4) (CP (List.mem_append_right _ mm) (Holds.frame hw hF).sees) (BG (Al AL AL w hw) hF) _ rfl) _ (Yf _ _ (Zk a7)) (bL _ _)) ?_;rintro _ _ ⟨X3,rfl,a5,rfl⟩;obtain rfl:dat X3=y2:=a5.trans (Option.some.inj a8);clear a8 a5;refine sc ?_;refine s4 ?_;obtain rfl:=sj hp;refine pM rfl  ⟨(a9,aa,ab,X3),rfl,rfl,rfl⟩ ms
end
end Go.Proofs.SL
namespace Go.Proofs.SL
open Go Tryz
variable (w:World)
set_option maxHeartbeats 2000000
instance:Inhabited Av:=⟨((0,0),0,0,0,(0,0,0,ByteArray.empty,ByteArray.empty,ByteArray.empty,0,TL.nil ByteArray 0),0,TL.nil Bj 0,false)⟩
theorem LL (a0:TL Bj) (f1:Nat) (cs1:List Value) (a1:AU→AU→Option Int) (hf1:IsFn prog f1) (hk1:∀ (w':World) (F:List HP) (u0 u1:Bj) (v:Int),Holds w (fps [Af a0]) F w'→GT.rd w' [] u0→GT.rd w' [] u1→a1 (GT.dat u0) (GT.dat u1)=some v→Spec prog f1 ([Value.agg (GT.cells u0).toArray,Value.agg (GT.cells u1).toArray]++cs1).toArray w' [] (IsV (.int .i64 v))) (r) (hp:HQ (GT.dat a0) a1=some r):Spec prog 130 [a0.hdr,.func (.func f1) #[] cs1.toArray].toArray w [Af a0] (fun v M=>∃ (y0:TL Bj),v=.tuple #[]∧GT.dat y0=r∧M=[Af y0]∧y0.hdr=a0.hdr) :=
 Spec.sortN w a0 cs1 a1 r hp (fun w' F x y v hF hv=>hk1 w' F x y v hF (ZR x _ _) (ZR y _ _) hv)
  (fun b off cap d hO hc hH hb hsz=>Go.Proofs.AnyQ.slices_SortFunc_eq laysSF130 2 isAgg35 sizeOf35 (fun x:Bj=>GT.cells x) (fun x=>GT.len x) (fun x v hv=>GT.one x v hv) (fun x y:Bj=>(a1 (GT.dat x) (GT.dat y)).getD 0) hO f1 cs1.toArray b off cap d w hf1.run hc hH hb hsz)
  (fun p cap=>Go.Proofs.AnyF.slices_SortFunc_none laysSF130 p cap _ w)
theorem Hn (a0:TL Av) (f1:Nat) (cs1:List Value) (a1:AD→AD→Option Int) (hf1:IsFn prog f1) (hk1:∀ (w':World) (F:List HP) (u0 u1:Av) (v:Int),Holds w (fps [Af a0]) F w'→a1 (GT.dat u0) (GT.dat u1)=some v→Spec prog f1 ([Value.agg (GT.cells u0).toArray,Value.agg (GT.cells u1).toArray]++cs1).toArray w' [] (IsV (.int .i64 v))) (r) (hp:HQ (GT.dat a0) a1=some r):Spec prog 195 ([a0.hdr,.func (.func f1) #[] cs1.toArray]:List Value).toArray w [Af a0] (fun v M=>∃ (y0:TL Av),v=.tuple #[]∧GT.dat y0=r∧M=[Af y0]∧y0.hdr=a0.hdr) :=
 Spec.sortN w a0 cs1 a1 r hp (fun w' F x y v hF hv=>hk1 w' F x y v hF hv)
  (fun b off cap d hO hc hH hb hsz=>Go.Proofs.AnyQ.slices_SortFunc_eq laysSF195 16 isAgg48 sizeOf48 (fun x:Av=>GT.cells x) (fun x=>GT.len x) (fun x v hv=>GT.one x v hv) (fun x y:Av=>(a1 (GT.dat x) (GT.dat y)).getD 0) hO f1 cs1.toArray b off cap d w hf1.run hc hH hb hsz)
  (fun p cap=>Go.Proofs.AnyF.slices_SortFunc_none laysSF195 p cap _ w)
theorem RZ (a0:TL Int) (r) (hp:PZ (GT.dat a0)=some r):Spec prog 200 [a0.hdr].toArray w [Af a0] (fun v M=>∃ (y0:TL Int),v=.tuple #[]∧GT.dat y0=r∧M=[Af y0]∧y0.hdr=a0.hdr):=Spec.sortI w a0 r hp (Any.slices_Sort_int lays189) (Any.slices_Sort_int_none lays189)
end Go.Proofs.SL
namespace Go.Proofs.SL
open Go Tryz
variable (w:World)
noncomputable section
set_option maxHeartbeats 2000000
instance Xq:FnF prog 167:=⟨_,func167,kr,rfl⟩
instance qO:FnF prog 168:=⟨_,func168,kr,rfl⟩
instance jM:FnF prog 196:=⟨_,func196,kr,rfl⟩
instance jN:FnF prog 195:=⟨_,func195,kr,rfl⟩
instance qP:FnF prog 169:=⟨_,func169,kr,rfl⟩
instance bN:FnF prog 120:=⟨_,func120,kr,rfl⟩
instance TT:FnF prog 41:=⟨_,func41,kr,rfl⟩
instance bO:FnF prog 176:=⟨_,func176,kr,rfl⟩
instance MK:FnF prog 122:=⟨_,func122,kr,rfl⟩
instance Rm:FnF prog 124:=⟨_,func124,kr,rfl⟩
instance Yg:FnF prog 63:=⟨_,func63,kr,rfl⟩
instance Po:FnF prog 119:=⟨_,func119,kr,rfl⟩
instance bP:FnF prog 121:=⟨_,func121,kr,rfl⟩
instance Pp:FnF prog 126:=⟨_,func126,kr,rfl⟩
def Ho (a0:List AD):Option (List AD) :=
 BH (fun s1:(List AD)×Int=>cond (decide (s1.2 < (a0.length:Int))) ((idx a0 s1.2).bind fun y3=>Option.bind (GB y3) (fun y4=>Option.bind (CO s1.1 [y4]) (fun y6=>some (.inl ((y6,IntKind.wrap .i64 (s1.2+1))))))) (Option.map .inr (some s1.1))) (([]:List AD),0)
theorem IU (a0:TL Av) (h0:GT.rd w [] a0) (r) (hp:Ho (GT.dat a0)=some r):Sp 167 [a0.hdr] w [] (fun v M=>∃ (x0:TL Av),v=x0.hdr∧GT.dat x0=r∧M=[Af x0]):=by
 refine Spec.intro func167 rfl ntmps167 rfl ?_;unfold Ho at hp;replace hp:=dd hp;refine s2 ?_;refine By (v:=(TL.hdr (TL.nil Av 0))) rfl rfl (s3 ?_);refine By (v:=(TL.hdr (TL.nil Av 0))) rfl rfl (s9 ?_);refine AS (fun _=>Bs (τ:=Av) 0) ?_;refine BW (σ:=(TL Av)×Int) GT.dat (fun ((a1,aa):(TL Av)×Int)=>[(3,a1.hdr),(8,.int .i64 aa)]) (fun ((a1,aa):(TL Av)×Int)=>[Af a1]) [(6,_),(7,_)] [] ((TL.nil Av 0),0) hp sb ms ?_;clear hp;rintro ⟨a1,aa⟩ x1 hp b5;replace hp:=dd hp;refine kq [3,6,7,8] ?_;refine s5 ?_;refine kp [3,6,7,8,9] ?_;refine Ai rfl (fun q2=>?_) (fun q2=>?_)
 ·replace hp:=Aw q2 hp;refine s5 ?_;replace hp:=AX hp;obtain ⟨⟨⟨av,aw⟩,ax,ay,az,⟨b0,b1,b2,b3,am,an,ao,ap⟩,aq,ar,au⟩,ak,hp⟩:=hp;refine Cj (X:=a0) rfl rfl rfl CG.h (Ac h0) ak ?_;refine AW rfl rfl (Bl (Ac h0) (ak).2) (by exact DK.h) ?_;refine al fun bb=>?_;refine s5 ?_
  revert hp;refine bc fun y4 b6 hp=>?_
  refine AV rfl bB.h rfl (by exact fun w hw=>Jr w ((av,aw),ax,ay,az,(b0,b1,b2,b3,am,an,ao,ap),aq,ar,au) (Ap (Aa dv (Aa Ad (Aa Ad (Aa Ad (Aa (Bn (Ae (Ae (Ae (Ae (Ci (Ac h0) (ak).2)))))) (Aa Ad (Aa (Bn (Ae (Ae (Ae (Ae (Ae (Ae (Ci (Ac h0) (ak).2)))))))) CK))))))) hw) _ b6) ?_;rintro _ _ ⟨⟨⟨ab,ac⟩,ad,ae,af,⟨ag,ah,ai,aj,a2,a3,a4,a5⟩,a6,a8,a9⟩,rfl,rfl,rfl⟩;refine sc ?_;replace hp:=dd hp;refine xL (_:Av) ?_;refine BQ rfl rfl CG.h rfl de de rfl (fun b9=>?_)
  revert hp;refine bc fun y6 b7 hp=>?_
  refine jL (((ab,ac),ad,ae,af,(ag,ah,ai,aj,a2,a3,a4,a5),a6,a8,a9):Av) ?_;refine El (X:=a1) (((ab,ac),ad,ae,af,(ag,ah,ai,aj,a2,a3,a4,a5),a6,a8,a9):Av) rfl rfl rfl CG.h rfl rfl pk mm pk b7 de (fun X5 b4 hmX5=>?_);subst b4;refine s6 ?_;exact ⟨(X5,IntKind.wrap .i64 (aa+1)),sb,(.sub ms),Bo hp⟩
 replace hp:=Ax q2 hp;refine BF ?_;replace hp:=Bu hp;obtain ⟨a7,hp,b8⟩:=hp;obtain rfl:=b5 _ b8;refine s5 ?_;obtain rfl:=sj hp;refine s1 ?_;refine AE rfl (Ab rfl) ⟨a1,rfl,rfl,rfl⟩ ms
def Ef (a0:At):Option At :=
 (Ho a0.2.2.1).bind fun y1=>BH (fun s3:Int×(List Bb)=>cond (decide (s3.1 < (a0.2.2.2.length:Int))) ((idx a0.2.2.2 s3.1).bind fun y5=>Option.bind (GH y5.2.2.2.2.1) (fun y6=>Option.bind (CO ([]:List Int) y5.2.2.2.2.2.1) (fun y8=>Option.bind (CO s3.2 [(y5.1,y5.2.1,y5.2.2.1,y5.2.2.2.1,y6,y8,y5.2.2.2.2.2.2)]) (fun a1=>some (.inl ((IntKind.wrap .i64 (s3.1+1),a1))))))) (Option.map .inr (some (a0.1,a0.2.1,y1,s3.2)))) (0,([]:List Bb))
theorem Fk (a0:Ao) (h0:GT.rd w [] a0) (r) (hp:Ef (GT.dat a0)=some r):Sp 119 [.agg (GT.cells a0).toArray] w [] (fun v M=>∃ (x0:Ao),v=.agg (GT.cells x0).toArray∧GT.dat x0=r∧M=[Af x0]):=by
 obtain ⟨a2,a3,ad,ae⟩:=a0;refine sa ?_;refine Spec.intro func119 rfl ntmps119 rfl ?_;unfold Ef at hp;replace hp:=dd hp;refine s2 ?_;refine bx fun av=>?_;refine al fun am=>?_;refine s2 ?_
 revert hp;refine bc fun y1 an hp=>?_
 refine EK (pre:=[_,_,_,_,_,_,_,_,_]) (suf:=[_]) [3,13] [] _ pc mix kr kr rfl (s6 ?_);refine Dr (fun v M=>∃ (x0:TL Av),v=x0.hdr∧GT.dat x0=y1∧M=[Af x0]) Xq.h (Ah (Aj rfl) (AF)) (by exact fun w F hF hM=>IU w ad (AK (Ac h0.2.2.1) hF hM) _ an) ?_;refine QZ (τ:=Av) (t:=12) (xs:=[(0,.tmp 7),(1,.tmp 9),(2,.tmp 12)]) (ps:=fun u=>[(0,.int .i64 a2),(1,.int .i64 a3),(2,u)]) (cs:=fun u=>[.int .i64 a2,.int .i64 a3,u,(TL.hdr (TL.nil Az 0))]) rfl (fun u=>(BB (Aj rfl) (BB (Aj rfl) (BB (Aj rfl) (GX))))) Hd.h (fun X=>rfl) kr ?_;refine HK GI.h (s1 ?_);refine CZ rfl rfl ?_;rintro _ _ ⟨ao,rfl,rfl⟩;simp only [List.cons_append,List.nil_append];refine CZ rfl rfl ?_;rintro _ _ ⟨X2,rfl,rfl,rfl⟩;simp only [List.cons_append,List.nil_append];refine s19 ?_;refine AS (fun _=>Bs (τ:=Az) 0) ?_;refine BW (σ:=Int×(TL Az)) GT.dat (fun ((a4,a1):Int×(TL Az))=>[(17,.int .i64 a4)]) (fun ((a4,a1):Int×(TL Az))=>[blk ao [.int .i64 a2,.int .i64 a3,(TL.hdr X2),a1.hdr] 44,Af a1]) [(2,_),(3,_),(15,_),(16,_)] [blk am _ _,Af X2] (0,(TL.nil Az 0)) hp sb ms ?_;clear hp;rintro ⟨a4,a1⟩ x3 hp ap;replace hp:=dd hp;refine kq [2,3,15,16,17] ?_;refine s5 ?_;refine kp [2,3,15,16,17,18] ?_;refine Ai rfl (fun q4=>?_) (fun q4=>?_)
 ·replace hp:=Aw q4 hp;refine s5 ?_;replace hp:=AX hp;obtain ⟨⟨⟨a6,a7⟩,a8,a9,aa,af,ag,ab⟩,a5,hp⟩:=hp;refine Cj (X:=ae) rfl rfl rfl Ct.h (Ac h0.2.2.2) a5 ?_;refine AW rfl rfl (Bl (Ac h0.2.2.2) (a5).2) (by exact FE.h) ?_;refine al fun aw=>?_;refine s6 ?_
  revert hp;refine bc fun y6 aq hp=>?_
  refine AV rfl Re.h rfl (by exact fun w hw=>Gt w af (Ap (Bn (Ae (Ae (Ae (Ae (Ci (Ac h0.2.2.2) (a5).2)))))) hw) _ aq) ?_;rintro _ _ ⟨ac,rfl,rfl,rfl⟩;refine sc ?_;replace hp:=dd hp;refine s7 ?_;refine AA (M':=Af (TL.nil Int 0)::_) (fun _=>Bs _) ?_
  revert hp;refine bc fun y8 ar hp=>?_
  refine GG (X:=(TL.nil Int 0)) (Y:=ag) rfl rfl rfl FD.h rfl rfl pk (Bn (Ae (Ae (Ae (Ae (Ae (Ci (Ac h0.2.2.2) (a5).2))))))) ar de (fun X7 ah=>?_);subst ah;refine s7 ?_;refine BQ rfl rfl Ct.h rfl de de rfl (fun au=>?_)
  revert hp;refine bc fun ax ai hp=>?_
  refine jL (((a6,a7),a8,a9,aa,ac,X7,ab):Az) ?_;refine El (X:=a1) (((a6,a7),a8,a9,aa,ac,X7,ab):Az) rfl rfl rfl Ct.h rfl rfl pk mm pk ai de (fun X9 aj hmX9=>?_);subst aj;refine s7 ?_;exact ⟨(IntKind.wrap .i64 (a4+1),X9),sb,(.sub ms),Bo hp⟩
 replace hp:=Ax q4 hp;refine BF ?_;replace hp:=Bu hp;obtain ⟨ay,hp,ak⟩:=hp;obtain rfl:=ap _ ak;refine s5 ?_;obtain rfl:=sj hp;refine jW ((a2,a3,X2,a1):Ao) ?_;refine s1 ?_;refine AE rfl (AC rfl mm (by exact BC.h)) ⟨(a2,a3,X2,a1),rfl,rfl,rfl⟩ ms
def Og (a0:CH) (a1:CH):Option Bool :=
 (Il a0).bind fun y1=>gb (!(!y1)) (Il a1) (fun y2=>cond ((((!y1)||(!y2))||(decide (a0.1=0)))||(decide (a1.1=0))) (some false) (some (((decide (a0.1=7))||(decide (a1.1=7)))||(decide (a0.2.2.2.1=a1.2.2.2.1)))))
theorem Yh (a0:Dg) (a1:Dg) (h0:GT.rd w [] a0) (h1:GT.rd w [] a1) (r) (hp:Og (GT.dat a0) (GT.dat a1)=some r):Sp 168 [.agg (GT.cells a0).toArray,.agg (GT.cells a1).toArray] w [] (IsV (.bool r)):=by
 obtain ⟨a2,a3,a4,a5,a6,a7,a8,a9⟩:=a0;obtain ⟨aa,ab,ac,ad,ae,af,ag,ah⟩:=a1;refine sa ?_;refine Spec.intro func168 rfl ntmps168 rfl ?_;unfold Og at hp;replace hp:=dd hp;refine s2 ?_;refine bx fun ak=>?_;refine bx fun am=>?_;refine s4 ?_
 revert hp;refine bc fun y1 ai hp=>?_
 replace hp:=BJ hp;obtain ⟨y2,aj,hp⟩:=hp;refine BX [22] mix kr rfl (s1 ?_);refine AZ Ar Uy.h (Ah (Aj rfl) (AF)) (by exact fun hg w F hF hM=>JD w (a2,a3,a4,a5,a6,a7,a8,a9) (AK (Ac h0) hF hM) _ ai) (s3 ?_);refine AZ (Am rfl rfl) Uy.h (Ah (Aq rfl) (AF)) (by exact fun hg w F hF hM=>JD w (aa,ab,ac,ad,ae,af,ag,ah) (AK (Ac h1) hF hM) _ (aj (BY hg.2))) (s20 ?_);refine s12 ?_;refine kp [2,3,22] ?_;refine Ai rfl (fun q3=>?_) (fun q3=>?_)
 ·replace hp:=Aw q3 hp;refine s4 ?_;obtain rfl:=sj hp;refine s1 ?_;refine AE rfl (Ab rfl) ⟨rfl,rfl⟩ ms
 replace hp:=Ax q3 hp;refine s2 ?_;refine BX [4] mix kr rfl (s20 ?_);refine s14 ?_;obtain rfl:=sj hp;refine s1 ?_;refine AE rfl (Ab rfl) ⟨rfl,rfl⟩ ms
def JK (a0:List AD) (a1:AU) (a2:CH):Option (Int×(List AU)) :=
 (Hm a0).bind fun y1=>cond (!y1) (some (0,([]:List AU))) ((some ([]:List AU)).bind fun y4=>BH (fun s5:Int×(List AU)×Int=>cond (decide (s5.2.2 < (a0.length:Int))) ((idx a0 s5.2.2).bind fun y7=>gb ((!(decide (y7.1.1=a1.1)&&(decide (y7.1.2=a1.2)&&true)))&&(!decide (y7.2.2.2.1=0))) (Og y7.2.2.2.2.1 a2) (fun y8=>cond (((!(decide (y7.1.1=a1.1)&&(decide (y7.1.2=a1.2)&&true)))&&(!decide (y7.2.2.2.1=0)))&&y8) ((CO s5.2.1 [y7.1]).bind fun a3=>some (.inl (((if y7.2.2.2.2.2.1 > s5.1 then y7.2.2.2.2.2.1 else s5.1),a3,IntKind.wrap .i64 (s5.2.2+1))))) (some (.inl ((s5.1,s5.2.1,IntKind.wrap .i64 (s5.2.2+1))))))) (Option.map .inr (some (IntKind.wrap .i64 (s5.1+1),s5.2.1)))) (0,y4,0))
theorem Mo (a0:TL Av) (a1:Bj) (a2:Dg) (h0:GT.rd w [] a0) (h1:GT.rd w [] a1) (h2:GT.rd w [] a2) (r) (hp:JK (GT.dat a0) (GT.dat a1) (GT.dat a2)=some r):Sp 121 [a0.hdr,.agg (GT.cells a1).toArray,.agg (GT.cells a2).toArray] w [] (fun v M=>∃ (x0:Int) (x1:TL Bj),v=.tuple #[.int .i64 x0,x1.hdr]∧(GT.dat x0,GT.dat x1)=r∧M=[Af x1]):=by
 obtain ⟨b6,b7⟩:=a1;obtain ⟨af,ag,ah,ai,aj,ak,am,an⟩:=a2;refine sa ?_;refine Spec.intro func121 rfl ntmps121 rfl ?_;unfold JK at hp;replace hp:=dd hp;refine s2 ?_;refine bx fun ay=>?_;refine bx fun az=>?_;refine s1 ?_;refine By (v:=(TL.hdr (TL.nil Bj 0))) rfl rfl (s5 ?_)
 revert hp;refine bc fun y1 b0 hp=>?_
 refine Bi rfl XN.h rfl (by exact fun w hw=>Im w a0 (Ap (Ac h0) hw) _ b0) (s2 ?_);refine kp [0,4,5,14] ?_;refine Ai rfl (fun q2=>?_) (fun q2=>?_)
 ·replace hp:=Aw q2 hp;refine s3 ?_;refine By (v:=(TL.hdr (TL.nil Bj 0))) rfl rfl (s1 ?_);obtain rfl:=sj hp;refine AS (fun _=>Bs (τ:=Bj) 0) (s1 ?_);refine Cb rfl (Ab rfl) (Ab rfl) ⟨0,(TL.nil Bj 0),rfl,rfl,rfl⟩ ms
 replace hp:=Ax q2 hp;refine s7 ?_
 revert hp;refine bc fun y4 ae hp=>?_
 refine GM Bj rfl Cq.h (fun X3 a7=>?_);obtain rfl:GT.dat X3=y4:=a7.trans (Option.some.inj ae);clear ae a7;refine s10 ?_;refine BW (σ:=Int×(TL Bj)×Int) GT.dat (fun ((a3,a4,a5):Int×(TL Bj)×Int)=>[(8,.int .i64 a3),(9,a4.hdr),(18,.int .i64 a5)]) (fun ((a3,a4,a5):Int×(TL Bj)×Int)=>[Af a4]) [(4,_),(5,_),(16,_),(17,_)] [blk ay _ _,blk az _ _] (0,X3,0) hp sb ms ?_;clear hp;rintro ⟨a3,a4,a5⟩ x5 hp b1;replace hp:=dd hp;refine kq [4,5,8,9,16,17,18] ?_;refine s5 ?_;refine kp [4,5,8,9,16,17,18,19] ?_;refine Ai rfl (fun q6=>?_) (fun q6=>?_)
 ·replace hp:=Aw q6 hp;refine s5 ?_;replace hp:=AX hp;obtain ⟨⟨⟨ao,ap⟩,b8,b9,bb,⟨aq,ar,au,av,a9,aa,ab,ac⟩,a6,b4,b5⟩,a8,hp⟩:=hp;refine Cj (X:=a0) rfl rfl rfl CG.h (Ac h0) a8 ?_;refine AW rfl rfl (Bl (Ac h0) (a8).2) (by exact DK.h) ?_;refine al fun bd=>?_;refine s3 ?_;replace hp:=BJ hp;obtain ⟨y8,b2,hp⟩:=hp;refine BX [36] mix kr rfl (s1 ?_);refine Bq Ar (Aj rfl) (fun hg=>AT (Ag mm) 0 2 rfl) (by exact Bp.h) (s1 ?_);refine Ez Ar (Aj rfl) (Aj rfl) (fun hg=>(LR FT (EqS.consI AM.h Eu.h rfl rfl (EqS.consI AM.h Eu.h rfl rfl EqS.nil)))) (s7 ?_);refine Bq (Am rfl rfl) (Aq rfl) (fun hg=>AT (Ag mm) 5 8 rfl) (by exact CS.h) (s1 ?_);refine AZ (Am rfl rfl) qO.h (Ah (Aq rfl) (Ah (Aq rfl) (AF))) (by exact fun hg w F hF hM=>Yh w (aq,ar,au,av,a9,aa,ab,ac) (af,ag,ah,ai,aj,ak,am,an) (AK (Bn (Ae (Ae (Ae (Ae (Ci (Ac h0) (a8).2)))))) hF hM) (AK (Ac h2) hF hM) _ (b2 hg.2)) (s18 ?_);refine kp [4,5,8,9,11,16,17,18,36] ?_;refine Ai rfl (fun q9=>?_) (fun q9=>?_)
  ·replace hp:=Aw q9 hp;refine s5 ?_;refine aN rfl rfl rfl (s5 ?_);refine AW rfl rfl (AT (Ag mm) 0 2 rfl) (by exact Bp.h) ?_;refine BQ rfl rfl Cq.h rfl de de rfl (fun be=>?_)
   revert hp;refine bc fun bf aw hp=>?_
   refine Oa (X:=a4) ((ao,ap):Bj) rfl rfl rfl Cq.h rfl rfl pk mm  aw de (fun b3 ad=>?_);subst ad;refine s6 ?_;exact ⟨((if a6 > a3 then a6 else a3),b3,IntKind.wrap .i64 (a5+1)),sb,(.sub ms),Bo hp⟩
  replace hp:=Ax q9 hp;refine s5 ?_;exact ⟨(a3,a4,IntKind.wrap .i64 (a5+1)),sb,(.sub ms),Bo hp⟩
 replace hp:=Ax q6 hp;refine BF ?_;replace hp:=Bu hp;obtain ⟨bg,hp,ax⟩:=hp;obtain rfl:=b1 _ ax;refine s8 ?_;obtain rfl:=sj hp;refine s1 ?_;refine Cb rfl (Ab rfl) (Ab rfl) ⟨IntKind.wrap .i64 (a3+1),a4,rfl,rfl,rfl⟩ ms
def EU (a0:AD) (a1:AD):Option Int :=
 (ES a0.1 a1.1).bind fun y1=>some y1
theorem NB (a0:Av) (a1:Av)  (r) (hp:EU (GT.dat a0) (GT.dat a1)=some r):Sp 196 [.agg (GT.cells a0).toArray,.agg (GT.cells a1).toArray] w [] (IsV (.int .i64 r)):=by
 obtain ⟨⟨a2,a3⟩,am,an,ao,⟨ap,aq,ar,au,a7,a8,a9,aa⟩,ab,ac,ad⟩:=a0;obtain ⟨⟨a4,a5⟩,av,aw,ax,⟨ay,az,b0,b1,ae,af,ag,ah⟩,ai,aj,ak⟩:=a1;refine sa ?_;refine Spec.intro func196 rfl ntmps196 rfl ?_;unfold EU at hp;replace hp:=dd hp;refine s2 ?_;refine bx fun b2=>?_;refine bx fun b3=>?_;refine s5 ?_;refine AW rfl rfl (AT (Ag mm) 0 2 rfl) (by exact Bp.h) (s1 ?_);refine AW rfl rfl (AT (Ag mm) 0 2 rfl) (by exact Bp.h) ?_
 revert hp;refine bc fun y1 a6 hp=>?_
 refine Bi rfl Xl.h rfl (by exact fun w hw=>Ig w (a2,a3) (a4,a5) (Ap dv hw) (Ap dv hw) _ a6) (s2 ?_);obtain rfl:=sj hp;refine s1 ?_;refine AE rfl (Ab rfl) ⟨rfl,rfl⟩ ms
def KY (a0:List AD) (a1:AD):Option (List AD) :=
 (Hm a0).bind fun y1=>cond (!y1) (some ([]:List AD)) ((Ho a0).bind fun y3=>Option.bind (JE a0 a1.1) (fun y4=>cond (decide (0≤y4)) ((GB a1).bind fun y6=>Option.bind (idx y3 y4) (fun y7=>Option.bind (some (y3.set (y4.toNat) y6)) (fun y8=>Option.bind (HQ y8 (fun z0 z1=>EU z0 z1 )) (fun a2=>Option.bind (Hm a2) (fun a4=>cond (!a4) ((Ho a0).bind fun a5=>some a5) (some a2)))))) ((GB a1).bind fun a6=>Option.bind (CO y3 [a6]) (fun a7=>Option.bind (HQ a7 (fun z0 z1=>EU z0 z1 )) (fun a3=>Option.bind (Hm a3) (fun a8=>cond (!a8) ((Ho a0).bind fun a9=>some a9) (some a3)))))))
theorem Vt (a0:TL Av) (a1:Av) (h0:GT.rd w [] a0) (h1:GT.rd w [] a1) (r) (hp:KY (GT.dat a0) (GT.dat a1)=some r):Sp 169 [a0.hdr,.agg (GT.cells a1).toArray] w [] (fun v M=>∃ (x0:TL Av),v=x0.hdr∧GT.dat x0=r∧M=[Af x0]):=by
 obtain ⟨⟨b2,b3⟩,bf,bg,bh,⟨bi,bj,bk,bl,b4,b5,b6,b7⟩,b8,b9,bb⟩:=a1;refine sa ?_;refine Spec.intro func169 rfl ntmps169 rfl ?_;unfold KY at hp;replace hp:=dd hp;refine s2 ?_;refine bx fun cr=>?_;refine By (v:=(TL.hdr (TL.nil Av 0))) rfl rfl (s5 ?_)
 revert hp;refine bc fun y1 cl hp=>?_
 refine Bi rfl XN.h rfl (by exact fun w hw=>Im w a0 (Ap (Ac h0) hw) _ cl) (s2 ?_);refine kp [0,3,9] ?_;refine Ai rfl (fun q2=>?_) (fun q2=>?_)
 ·replace hp:=Aw q2 hp;refine s2 ?_;refine By (v:=(TL.hdr (TL.nil Av 0))) rfl rfl (s1 ?_);obtain rfl:=sj hp;refine AS (fun _=>Bs (τ:=Av) 0) (s1 ?_);refine AE rfl (Ab rfl) ⟨(TL.nil Av 0),rfl,rfl,rfl⟩ ms
 replace hp:=Ax q2 hp;refine s4 ?_
 revert hp;refine bc fun y3 cm hp=>?_
 refine AV rfl Xq.h rfl (by exact fun w hw=>IU w a0 (Ap (Ac h0) hw) _ cm) ?_;rintro _ _ ⟨aq,rfl,rfl,rfl⟩;refine sc ?_;replace hp:=dd hp;refine s7 ?_;refine AW rfl rfl (AT (Ag mm) 0 2 rfl) (by exact Bp.h) ?_
 revert hp;refine bc fun y4 cn hp=>?_
 refine Bi rfl nY.h rfl (by exact fun w hw=>RR w a0 (b2,b3) (Ap (Ac h0) hw) (Ap dv hw) _ cn) (s7 ?_);refine kp [0,3,5,6,17] ?_;refine Ai rfl (fun q5=>?_) (fun q5=>?_)
 ·replace hp:=Aw q5 hp;refine s4 ?_
  revert hp;refine bc fun y6 co hp=>?_
  refine AV rfl bB.h rfl (by exact fun w hw=>Jr w ((b2,b3),bf,bg,bh,(bi,bj,bk,bl,b4,b5,b6,b7),b8,b9,bb) (Ap (Aa dv (Aa Ad (Aa Ad (Aa Ad (Aa (Ac h1.2.2.2.2.1) (Aa Ad (Aa (Ac h1.2.2.2.2.2.2.1) CK))))))) hw) _ co) ?_;rintro _ _ ⟨⟨⟨ar,au⟩,av,aw,ax,⟨ay,az,b0,b1,a9,aa,ab,ac⟩,ad,ae,af⟩,rfl,rfl,rfl⟩;refine sc ?_;replace hp:=dd hp;refine xL (_:Av) ?_;replace hp:=AX hp;obtain ⟨⟨⟨c3,c4⟩,c5,c6,c7,⟨c8,c9,ca,cb,bo,bp,bq,br⟩,bs,bt,bu⟩,c1,hp⟩:=hp;refine Cj (X:=aq) rfl rfl rfl CG.h (Ba mm) c1 ?_;refine AA (fun _=>CX c1.2 pk) ?_;refine xL (((c3,c4),c5,c6,c7,(c8,c9,ca,cb,bo,bp,bq,br),bs,bt,bu):Av) ?_;refine EV (X:=aq) (i:=y4.toNat) (sz:=16) (fo:=0) (n:=16) rfl rfl pk rfl (.inl DK.h) rfl (Eg rfl) (Nat.le_of_ble_eq_true rfl) ?_;refine jL (((ar,au),av,aw,ax,(ay,az,b0,b1,a9,aa,ab,ac),ad,ae,af):Av) ?_
  revert hp;refine bc fun y8 cp hp=>?_
  refine DJ (X:=aq) (((ar,au),av,aw,ax,(ay,az,b0,b1,a9,aa,ab,ac),ad,ae,af):Av) rfl pk pk cp (fun X9 cc hhX9=>?_);subst cc;try rw [← hhX9]
  try rw [← Di hhX9]
  try rw [← Dj hhX9]
  refine s4 ?_
  revert hp;refine bc fun cs cd hp=>?_
  refine Cd [Af X9] _ rfl jN.h rfl pc (by exact fun w hw=>Hn w X9 196 [] (fun z0 z1=>EU z0 z1 ) jM.h (fun w' F u0 u1 v hF  hv=>NB w' u0 u1  v hv) _ cd) ?_;rintro _ _ ⟨bd,rfl,rfl,rfl,hey10_0⟩;try rw [← hey10_0]
  refine sc ?_;replace hp:=dd hp;refine s5 ?_
  revert hp;refine bc fun ct ce hp=>?_
  refine Bi rfl XN.h rfl (by exact fun w hw=>Im w bd (Ap (Ba mm) hw) _ ce) (s2 ?_);refine kp [0,5,32] ?_;refine Ai rfl (fun bm=>?_) (fun bm=>?_)
  ·replace hp:=Aw bm hp;refine s3 ?_
   revert hp;refine bc fun cu cf hp=>?_
   refine AV rfl Xq.h rfl (by exact fun w hw=>IU w a0 (Ap (Ac h0) hw) _ cf) ?_;rintro _ _ ⟨bw,rfl,rfl,rfl⟩;refine sc ?_;replace hp:=dd hp;refine s2 ?_;obtain rfl:=sj hp;refine s1 ?_;refine AE rfl (Ab rfl) ⟨bw,rfl,rfl,rfl⟩ ms
  replace hp:=Ax bm hp;refine s6 ?_;obtain rfl:=sj hp;refine s1 ?_;refine AE rfl (Ab rfl) ⟨bd,rfl,rfl,rfl⟩ ms
 replace hp:=Ax q5 hp;refine s3 ?_
 revert hp;refine bc fun cv cg hp=>?_
 refine AV rfl bB.h rfl (by exact fun w hw=>Jr w ((b2,b3),bf,bg,bh,(bi,bj,bk,bl,b4,b5,b6,b7),b8,b9,bb) (Ap (Aa dv (Aa Ad (Aa Ad (Aa Ad (Aa (Ac h1.2.2.2.2.1) (Aa Ad (Aa (Ac h1.2.2.2.2.2.2.1) CK))))))) hw) _ cg) ?_;rintro _ _ ⟨⟨⟨ag,ah⟩,ai,aj,ak,⟨am,an,ao,ap,a2,a3,a4,a5⟩,a6,a7,a8⟩,rfl,rfl,rfl⟩;refine sc ?_;replace hp:=dd hp;refine xL (_:Av) ?_;refine BQ rfl rfl CG.h rfl de de rfl (fun cq=>?_)
 revert hp;refine bc fun cw ch hp=>?_
 refine jL (((ag,ah),ai,aj,ak,(am,an,ao,ap,a2,a3,a4,a5),a6,a7,a8):Av) ?_;refine El (X:=aq) (((ag,ah),ai,aj,ak,(am,an,ao,ap,a2,a3,a4,a5),a6,a7,a8):Av) rfl rfl rfl CG.h rfl rfl pk mm pk ch de (fun c2 bz hmX15=>?_);subst bz;refine s5 ?_
 revert hp;refine bc fun cx ci hp=>?_
 refine Cd [Af c2] _ rfl jN.h rfl pc (by exact fun w hw=>Hn w c2 196 [] (fun z0 z1=>EU z0 z1 ) jM.h (fun w' F u0 u1 v hF  hv=>NB w' u0 u1  v hv) _ ci) ?_;rintro _ _ ⟨be,rfl,rfl,rfl,hey17_0⟩;try rw [← hey17_0]
 refine sc ?_;replace hp:=dd hp;refine s5 ?_
 revert hp;refine bc fun cy cj hp=>?_
 refine Bi rfl XN.h rfl (by exact fun w hw=>Im w be (Ap (Ba mm) hw) _ cj) (s2 ?_);refine kp [0,5,32] ?_;refine Ai rfl (fun bn=>?_) (fun bn=>?_)
 ·replace hp:=Aw bn hp;refine s3 ?_
  revert hp;refine bc fun cz ck hp=>?_
  refine AV rfl Xq.h rfl (by exact fun w hw=>IU w a0 (Ap (Ac h0) hw) _ ck) ?_;rintro _ _ ⟨c0,rfl,rfl,rfl⟩;refine sc ?_;replace hp:=dd hp;refine s2 ?_;obtain rfl:=sj hp;refine s1 ?_;refine AE rfl (Ab rfl) ⟨c0,rfl,rfl,rfl⟩ ms
 replace hp:=Ax bn hp;refine s6 ?_;obtain rfl:=sj hp;refine s1 ?_;refine AE rfl (Ab rfl) ⟨be,rfl,rfl,rfl⟩ ms
def EJ (a0:At) (a1:AD):Option (Bool×At) :=
 (KH a1).bind fun y1=>cond (!y1) (some (false,a0)) ((KY a0.2.2.1 a1).bind fun y3=>some (true,(a0.1,a0.2.1,y3,a0.2.2.2)))
theorem Ew (b0_:Nat) (a0:Ao) (a1:Av) (h1:GT.rd w (fps [blk b0_ (GT.cells a0) 44,Af a0.2.2.1]) a1) (h0_3:GT.rd w (fps [blk b0_ (GT.cells a0) 44,Af a0.2.2.1]) a0.2.2.2) (r) (hp:EJ (GT.dat a0) (GT.dat a1)=some r):Sp 122 [Value.pointer (some ⟨b0_,0,none⟩),.agg (GT.cells a1).toArray] w [blk b0_ (GT.cells a0) 44,Af a0.2.2.1] (fun v M=>∃ (x0:Bool) (y0:Ao),v=.bool x0∧(GT.dat x0,GT.dat y0)=r∧M=[blk b0_ (GT.cells y0) 44,Af y0.2.2.1]∧y0.2.2.2=a0.2.2.2):=by
 obtain ⟨a9,aa,ab,ac⟩:=a0;obtain ⟨⟨ad,ae⟩,af,ag,ah,⟨ai,aj,ak,am,a2,a3,a4,a5⟩,a6,a7,a8⟩:=a1;refine sa ?_;refine Spec.intro func122 rfl ntmps122 rfl ?_;unfold EJ at hp;replace hp:=dd hp;refine s2 ?_;refine bx fun aq=>?_;refine s6 ?_
 revert hp;refine bc fun y1 ao hp=>?_
 refine Bi rfl jD.h rfl (by exact fun w hw=>RP w ((ad,ae),af,ag,ah,(ai,aj,ak,am,a2,a3,a4,a5),a6,a7,a8) (Ap (Aa dv (Aa Ad (Aa Ad (Aa Ad (Aa (Ac h1.2.2.2.2.1) (Aa Ad (Aa (Ac h1.2.2.2.2.2.2.1) CK))))))) hw) _ ao) (s2 ?_);refine kp [0,3,7] ?_;refine Ai rfl (fun q2=>?_) (fun q2=>?_)
 ·replace hp:=Aw q2 hp;refine s4 ?_;obtain rfl:=sj hp;refine s1 ?_;refine AE rfl (Ab rfl) ⟨false,(a9,aa,ab,ac),rfl,rfl,rfl,rfl⟩ ms
 replace hp:=Ax q2 hp;refine s2 ?_
 revert hp;refine bc fun y3 ap hp=>?_
 refine EK (pre:=[_,_,_,_,_,_,_]) (suf:=[_,_,_]) [8,14] [] _ pc mix kr kr rfl (s6 ?_);refine Dr (fun v M=>∃ (x0:TL Av),v=x0.hdr∧GT.dat x0=y3∧M=[Af x0]) qP.h (Ah (Aj rfl) (Ah (Aj rfl) (AF))) (by exact fun w F hF hM=>Vt w ab ((ad,ae),af,ag,ah,(ai,aj,ak,am,a2,a3,a4,a5),a6,a7,a8) (AK (Ba mm) hF hM) (AK (Aa dv (Aa Ad (Aa Ad (Aa Ad (Aa (Ac h1.2.2.2.2.1) (Aa Ad (Aa (Ac h1.2.2.2.2.2.2.1) CK))))))) hF hM) _ ap) (s1 ?_);refine CZ rfl rfl ?_;rintro _ _ ⟨an,rfl,rfl,rfl⟩;refine s7 ?_;refine sc ?_;replace hp:=dd hp;refine s8 ?_;obtain rfl:=sj hp;refine s1 ?_;refine AE rfl (Ab rfl) ⟨true,(a9,aa,an,ac),rfl,rfl,rfl,rfl⟩ ms
def Hg (a0:Au):Option Au :=
 (IE a0.2.2.2.2.2.1).bind fun y1=>Option.bind (GH a0.2.2.2.2.2.2.2.1) (fun y2=>some (a0.1,a0.2.1,a0.2.2.1,a0.2.2.2.1,a0.2.2.2.2.1,y1,a0.2.2.2.2.2.2.1,y2,a0.2.2.2.2.2.2.2.2))
theorem Ly (a0:Ak) (h0:GT.rd w [] a0) (r) (hp:Hg (GT.dat a0)=some r):Sp 120 [.agg (GT.cells a0).toArray] w [] (fun v M=>∃ (x0:Ak),v=.agg (GT.cells x0).toArray∧GT.dat x0=r∧M=[Af x0]):=by
 obtain ⟨ad,ae,af,⟨ag,ah⟩,ai,⟨ar,au,av,ak,am,an,ao,ap⟩,a9,aq,aa,ab,ac⟩:=a0;refine sa ?_;refine Spec.intro func120 rfl ntmps120 rfl ?_;unfold Hg at hp;replace hp:=dd hp;refine s2 ?_;refine bx fun ay=>?_;refine al fun az=>?_;refine s4 ?_;refine AW rfl rfl (AT (Ag mm) 6 8 rfl) (by exact CS.h) ?_
 revert hp;refine bc fun y1 aw hp=>?_
 refine AV rfl bA.h rfl (by exact fun w hw=>LW w (ar,au,av,ak,am,an,ao,ap) (Ap (Ac h0.2.2.2.2.2.1) hw) _ aw) ?_;rintro _ _ ⟨⟨a1,a2,a3,a4,a5,a6,a7,a8⟩,rfl,rfl,rfl⟩;refine sc ?_;replace hp:=dd hp;refine xL (_:Dg) ?_;refine s1 ?_;refine HY (fo:=6) rfl rfl pk (by exact CS.h) (Nat.le_of_ble_eq_true rfl) ocs rfl (s5 ?_)
 revert hp;refine bc fun y2 ax hp=>?_
 refine AV rfl Re.h rfl (by exact fun w hw=>Gt w aq (Ap (Ac h0.2.2.2.2.2.2.2.1) hw) _ ax) ?_;rintro _ _ ⟨aj,rfl,rfl,rfl⟩;refine sc ?_;replace hp:=dd hp;refine s8 ?_;obtain rfl:=sj hp;refine jW ((ad,ae,af,(ag,ah),ai,(a1,a2,a3,a4,a5,a6,a7,a8),a9,aj,aa,ab,ac):Ak) ?_;refine s1 ?_;refine AE rfl (AC rfl mm (by exact Ep.h)) ⟨(ad,ae,af,(ag,ah),ai,(a1,a2,a3,a4,a5,a6,a7,a8),a9,aj,aa,ab,ac),rfl,rfl,rfl⟩ ms
def Fm (a0:At) (a1:Au):Option (List Au) :=
 (some ([]:List Au)).bind fun y2=>BH (fun s3:(List Au)×Int=>cond (decide (s3.2 < 3)) (cond (!decide (s3.2=a0.1)) ((Hg a1).bind fun y6=>Option.bind (CO s3.1 [(y6.1,a0.1,s3.2,y6.2.2.2)]) (fun y8=>some (.inl ((y8,IntKind.wrap .i64 (s3.2+1)))))) (some (.inl ((s3.1,IntKind.wrap .i64 (s3.2+1)))))) (Option.map .inr (some s3.1))) (y2,0)
theorem Fz (b0_:Nat) (a0:Ao) (a1:Ak) (hbb0_:Cells w [] b0_ 0 (GT.cells a0)) (h0:GT.rd w [] a0) (h1:GT.rd w [] a1) (r) (hp:Fm (GT.dat a0) (GT.dat a1)=some r):Sp 124 [Value.pointer (some ⟨b0_,0,none⟩),.agg (GT.cells a1).toArray] w [] (fun v M=>∃ (x0:TL Ak),v=x0.hdr∧GT.dat x0=r∧M=[Af x0]):=by
 obtain ⟨an,bl,bm,bn⟩:=a0;obtain ⟨b2,b3,b4,⟨b5,b6⟩,b7,⟨b8,b9,bb,ap,aq,ar,au,av⟩,aw,ax,ay,az,b0⟩:=a1;refine sa ?_;refine Spec.intro func124 rfl ntmps124 rfl ?_;unfold Fm at hp;replace hp:=dd hp;refine s2 ?_;refine bx fun be=>?_;refine By (v:=(TL.hdr (TL.nil Ak 0))) rfl rfl (s3 ?_)
 revert hp;refine bc fun y2 b1 hp=>?_
 refine DH Ak rfl BO.h (fun X1 ao hzX1=>?_);obtain rfl:GT.dat X1=y2:=ao.trans (Option.some.inj b1);clear b1 ao;refine s8 ?_;refine BW (σ:=(TL Ak)×Int) GT.dat (fun ((a2,a3):(TL Ak)×Int)=>[(5,a2.hdr),(9,.int .i64 a3)]) (fun ((a2,a3):(TL Ak)×Int)=>[Af a2]) [(0,_),(3,_)] [blk be _ _] (X1,0) hp sb ms ?_;clear hp;rintro ⟨a2,a3⟩ x3 hp bf;replace hp:=dd hp;refine kq [0,3,5,9] ?_;refine s5 ?_;refine kp [0,3,5,9,10] ?_;refine Ai rfl (fun q4=>?_) (fun q4=>?_)
 ·replace hp:=Aw q4 hp;refine s14 ?_;refine AY rfl rfl (Br hbb0_) AM.h rfl (s2 ?_);refine kp [0,3,5,6,9,17] ?_;refine Ai rfl (fun q5=>?_) (fun q5=>?_)
  ·replace hp:=Aw q5 hp;refine s3 ?_
   revert hp;refine bc fun y6 bg hp=>?_
   refine AV rfl bN.h rfl (by exact fun w hw=>Ly w (b2,b3,b4,(b5,b6),b7,(b8,b9,bb,ap,aq,ar,au,av),aw,ax,ay,az,b0) (Ap (Aa Ad (Aa Ad (Aa Ad (Aa dv (Aa Ad (Aa (Ac h1.2.2.2.2.2.1) (Aa Ad (Aa (Ac h1.2.2.2.2.2.2.2.1) dv)))))))) hw) _ bg) ?_;rintro _ _ ⟨⟨af,bh,bi,⟨ag,ah⟩,ai,⟨aj,ak,am,a4,a5,a6,a7,a8⟩,aa,ab,ac,ad,ae⟩,rfl,rfl,rfl⟩;refine sc ?_;replace hp:=dd hp;refine xL (_:Ak) ?_;refine al fun bp=>?_;refine s7 ?_;refine AY rfl rfl (Br hbb0_) AM.h rfl (s12 ?_);refine BQ rfl rfl BO.h rfl de de rfl (fun bo=>?_)
   revert hp;refine bc fun y8 bj hp=>?_
   refine jL ((af,an,a3,(ag,ah),ai,(aj,ak,am,a4,a5,a6,a7,a8),aa,ab,ac,ad,ae):Ak) ?_;refine El (X:=a2) ((af,an,a3,(ag,ah),ai,(aj,ak,am,a4,a5,a6,a7,a8),aa,ab,ac,ad,ae):Ak) rfl rfl rfl BO.h rfl rfl pk mm pk bj de (fun X7 bd hmX7=>?_);subst bd;refine s6 ?_;exact ⟨(X7,IntKind.wrap .i64 (a3+1)),sb,(.sub ms),Bo hp⟩
  replace hp:=Ax q5 hp;refine s5 ?_;exact ⟨(a2,IntKind.wrap .i64 (a3+1)),sb,(.sub ms),Bo hp⟩
 replace hp:=Ax q4 hp;refine BF ?_;replace hp:=Bu hp;obtain ⟨a9,hp,bk⟩:=hp;obtain rfl:=bf _ bk;refine s5 ?_;obtain rfl:=sj hp;refine s1 ?_;refine AE rfl (Ab rfl) ⟨a2,rfl,rfl,rfl⟩ ms
def Gm (a0:At) (a1:Au) (a2:Au):Option (List Au) :=
 (Hg a2).bind fun y1=>Option.bind (some [(y1.1,a0.1,a1.2.1,a1.2.2.2.1,y1.2.2.2.2)]) (fun y2=>some y2)
theorem HS (b0_:Nat) (a0:Ao) (a1:Ak) (a2:Ak) (hbb0_:Cells w [] b0_ 0 (GT.cells a0)) (h0:GT.rd w [] a0) (h1:GT.rd w [] a1) (h2:GT.rd w [] a2) (r) (hp:Gm (GT.dat a0) (GT.dat a1) (GT.dat a2)=some r):Sp 198 [Value.pointer (some ⟨b0_,0,none⟩),.agg (GT.cells a1).toArray,.agg (GT.cells a2).toArray] w [] (fun v M=>∃ (x0:TL Ak),v=x0.hdr∧GT.dat x0=r∧M=[Af x0]):=by
 obtain ⟨ai,br,bs,bt⟩:=a0;obtain ⟨bu,aj,bw,⟨ak,am⟩,bz,⟨c0,c1,c2,bh,bi,bj,bk,bl⟩,bm,bn,bo,bp,bq⟩:=a1;obtain ⟨az,b0,b1,⟨b2,b3⟩,b4,⟨b5,b6,b7,an,ao,ap,aq,ar⟩,au,av,aw,ax,ay⟩:=a2;refine sa ?_;refine Spec.intro func198 rfl ntmps198 rfl ?_;unfold Gm at hp;replace hp:=dd hp;refine s2 ?_;refine bx fun c3=>?_;refine bx fun c4=>?_;refine By (v:=(TL.hdr (TL.nil Ak 0))) rfl rfl (s4 ?_)
 revert hp;refine bc fun y1 b9 hp=>?_
 refine AV rfl bN.h rfl (by exact fun w hw=>Ly w (az,b0,b1,(b2,b3),b4,(b5,b6,b7,an,ao,ap,aq,ar),au,av,aw,ax,ay) (Ap (Aa Ad (Aa Ad (Aa Ad (Aa dv (Aa Ad (Aa (Ac h2.2.2.2.2.2.1) (Aa Ad (Aa (Ac h2.2.2.2.2.2.2.2.1) dv)))))))) hw) _ b9) ?_;rintro _ _ ⟨⟨ad,bb,bd,⟨be,bf⟩,ae,⟨af,ag,ah,a3,a4,a5,a6,a7⟩,a8,a9,aa,ab,ac⟩,rfl,rfl,rfl⟩;refine sc ?_;replace hp:=dd hp;refine xL (_:Ak) ?_;refine s5 ?_;refine AW rfl rfl (AT (Ag mm) 3 2 rfl) (by exact Bp.h) (s1 ?_);refine HY (fo:=3) rfl rfl pk (by exact Bp.h) (Nat.le_of_ble_eq_true rfl) ocs rfl (s6 ?_);refine AY rfl rfl (Br hbb0_) AM.h rfl (s13 ?_);refine jL ((ad,ai,aj,(ak,am),ae,(af,ag,ah,a3,a4,a5,a6,a7),a8,a9,aa,ab,ac):Ak) ?_
 revert hp;refine bc fun y2 bg hp=>?_
 refine XX ((ad,ai,aj,(ak,am),ae,(af,ag,ah,a3,a4,a5,a6,a7),a8,a9,aa,ab,ac):Ak) rfl rfl BO.h rfl de de rfl rfl pk bg (fun X3 b8=>?_);subst b8;refine s2 ?_;obtain rfl:=sj hp;refine s1 ?_;refine AE rfl (Ab rfl) ⟨X3,rfl,rfl,rfl⟩ ms
def DL (a0:At) (a1:Int) (a2:Int):Option ((List Au)×At) :=
 (idx a0.2.2.2 a1).bind fun y1=>Option.bind (Ga a0.2.2.1 y1.1) (fun y2=>cond (!decide (y2.2.1=y1.2.1)) ((Gb a0 y1.1).bind fun y4=>some (([]:List Au),y4)) ((GH y1.2.2.2.2.1).bind fun y5=>cond (decide (a2=2)) ((idx a0.2.2.2 a1).bind fun y7=>Option.bind (some (a0.2.2.2.set (a1.toNat) (y7.1,y7.2.1,2,y7.2.2.2))) (fun y8=>Option.bind (idx y8 a1) (fun a3=>Option.bind (some (y8.set (a1.toNat) (a3.1,a3.2.1,a3.2.2.1,a3.2.2.2.1,a3.2.2.2.2.1,([]:List Int),a3.2.2.2.2.2.2))) (fun a6=>Option.bind (EJ (a0.1,a0.2.1,a0.2.2.1,a6) (y2.1,y2.2.1,y1.2.1,a2,y2.2.2.2.2.1,y1.2.2.2.1,y5,false)) (fun a4=>Option.bind (Fm a4.2 (3,0,0,y1.1,y1.2.1,y2.2.2.2.2.1,y1.2.2.2.1,y1.2.2.2.2.1,0,(-1),false)) (fun a7=>some (a7,a4.2))))))) ((Gb a0 y1.1).bind fun a8=>Option.bind (EJ a8 (y2.1,y2.2.1,y2.2.2.1,a2,y2.2.2.2.2.1,y1.2.2.2.1,y5,false)) (fun a5=>Option.bind (Fm a5.2 (5,0,0,y1.1,0,y2.2.2.2.2.1,y1.2.2.2.1,y1.2.2.2.2.1,0,(-1),false)) (fun a9=>some (a9,a5.2))))))
theorem EB (b0_:Nat) (a0:Ao) (a1:Int) (a2:Int)  (r) (hp:DL (GT.dat a0) a1 a2=some r):Sp 126 [Value.pointer (some ⟨b0_,0,none⟩),.int .i64 a1,.int .i64 a2] w [blk b0_ (GT.cells a0) 44,Af a0.2.2.1,Af a0.2.2.2] (fun v M=>∃ (x0:TL Ak) (y0:Ao),v=x0.hdr∧(GT.dat x0,GT.dat y0)=r∧M=[Af x0,blk b0_ (GT.cells y0) 44,Af y0.2.2.1,Af y0.2.2.2]):=by
 obtain ⟨b0,b1,aj,ag⟩:=a0;refine sa ?_;refine Spec.intro func126 rfl ntmps126 rfl ?_;unfold DL at hp;replace hp:=dd hp;refine s2 ?_;refine By (v:=(TL.hdr (TL.nil Ak 0))) rfl rfl (s8 ?_);replace hp:=AX hp;obtain ⟨⟨⟨a3,a4⟩,ab,bb,a5,a6,am,ah⟩,ak,hp⟩:=hp;refine Cj (X:=ag) rfl rfl rfl Ct.h (Ba mm) ak ?_;refine AW rfl rfl (Bl (Ba mm) (ak).2) (by exact FE.h) ?_;refine al fun c5=>?_;refine s3 ?_
 revert hp;refine bc fun y2 bu hp=>?_
 refine EK (pre:=[_,_,_,_,_,_,_,_]) (suf:=[_]) [8,23] [] _ pc mix kr kr rfl (s5 ?_);refine Bq Ar (Aj rfl) (fun hg=>AT (Ag mm) 0 2 rfl) (by exact Bp.h) ?_;refine Dr (fun v M=>∃ (x0:Av),v=.agg (GT.cells x0).toArray∧GT.dat x0=y2∧M=[Af x0]) TT.h (Ah (Aj rfl) (Ah (Aj rfl) (AF))) (by exact fun w F hF hM=>GY w aj (a3,a4) (AK (Ba mm) hF hM) (AK dv hF hM) _ bu) ?_;refine HK Hb.h (s1 ?_);refine CZ rfl rfl ?_;rintro _ _ ⟨c6,rfl,rfl⟩;simp only [List.cons_append,List.nil_append];refine CZ rfl rfl ?_;rintro _ _ ⟨⟨⟨an,ao⟩,ap,az,bd,⟨ac,ad,ae,af,a7,a8,a9,aa⟩,b3,b4,b5⟩,rfl,rfl,rfl⟩;refine s7 ?_;refine sc ?_;replace hp:=dd hp;refine xL (((an,ao),ap,az,bd,(ac,ad,ae,af,a7,a8,a9,aa),b3,b4,b5):Av) ?_;refine s11 ?_;refine kp [0,1,2,7,8,28] ?_;refine Ai rfl (fun q3=>?_) (fun q3=>?_)
 ·replace hp:=Aw q3 hp;refine s4 ?_;refine AW rfl rfl (AT (Ag mm) 0 2 rfl) (by exact Bp.h) ?_
  revert hp;refine bc fun y4 bw hp=>?_
  refine Cd [blk b0_ _ _,Af aj,Af ag] _ rfl bO.h rfl pc (by exact fun w hw=>Kd w b0_ (b0,b1,aj,ag) (a3,a4) ((dx) w hw) _ bw) ?_;rintro _ _ ⟨⟨be,bf,bg,bh⟩,rfl,rfl,rfl⟩;refine sc ?_;replace hp:=dd hp;refine s3 ?_;refine By (v:=(TL.hdr (TL.nil Ak 0))) rfl rfl (s1 ?_);obtain rfl:=sj hp;refine AS (fun _=>Bs (τ:=Ak) 0) (s1 ?_);refine AE rfl (Ab rfl) ⟨(TL.nil Ak 0),(be,bf,bg,bh),rfl,rfl,rfl⟩ ms
 replace hp:=Ax q3 hp;refine s18 ?_
 revert hp;refine bc fun y5 bz hp=>?_
 refine AV rfl Re.h rfl (by exact fun w hw=>Gt w a6 (Ap (Bn (Ae (Ae (Ae (Ae (Ci (Ba mm) (ak).2)))))) hw) _ bz) ?_;rintro _ _ ⟨bi,rfl,rfl,rfl⟩;refine sc ?_;replace hp:=dd hp;refine s11 ?_;refine AW rfl rfl (AT (Ag mm) 0 2 rfl) (by exact Bp.h) (s1 ?_);refine AW rfl rfl (AT (Ag mm) 5 8 rfl) (by exact CS.h) (s4 ?_);refine Cz (xs:=[(0,.const (.int .i64 5)),(3,.tmp 44),(5,.tmp 46),(6,.tmp 48),(7,.tmp 50),(9,.const (.int .i64 (-1)))]) (cs:=[.int .i64 5,.int .i64 0,.int .i64 0,.int .i64 a3,.int .i64 a4,.int .i64 0,.int .i64 ac,.int .i64 ad,.int .i64 ae,.string af,.string a7,.string a8,.int .i64 a9,aa.hdr,.int .i64 a5,a6.hdr,.int .i64 0,.int .i64 (-1),.bool false]) rfl rfl Is.h rfl ?_;refine al fun c7=>?_;refine s8 ?_;refine kp [0,1,7,8,9,53] ?_;refine Ai rfl (fun q6=>?_) (fun q6=>?_)
 ·replace hp:=Aw q6 hp;refine s20 ?_;refine s6 ?_;replace hp:=AX hp;obtain ⟨u7,c0,hp⟩:=hp;obtain rfl:((a3,a4),ab,bb,a5,a6,am,ah)=u7:=Option.some.inj (ak.2.symm.trans c0.2);refine Cj (X:=ag) rfl rfl rfl Ct.h (Ba mm) ak (s1 ?_);refine AA (fun _=>CX ak.2 pk) ?_;refine xL (((a3,a4),ab,bb,a5,a6,am,ah):Az) ?_;refine EV (X:=ag) (i:=a1.toNat) (sz:=8) (fo:=3) (n:=1) rfl rfl pk rfl (.inr ⟨AM.h,rfl⟩) rfl (Eg rfl) (Nat.le_of_ble_eq_true rfl) ?_;refine jL (((a3,a4),ab,2,a5,a6,am,ah):Az) ?_
  revert hp;refine bc fun y8 c1 hp=>?_
  refine Ye (X:=ag) (((a3,a4),ab,2,a5,a6,am,ah):Az) ak.2 rfl pk pk c1 (fun X9 bm hhX9 hzX9=>?_);subst bm;try simp only [CA,DF,Ds,DG,DZ,List.cons_append,List.nil_append]
  try rw [← hhX9]
  have hwX9:=And.intro ak.1 hzX9
  try rw [← Di hhX9]
  try rw [← Dj hhX9]
  refine s7 ?_;replace hp:=AX hp;obtain ⟨c2,bn,hp⟩:=hp;obtain rfl:((a3,a4),ab,2,a5,a6,am,ah)=c2:=Option.some.inj (hwX9.2.symm.trans bn.2);refine Cj (X:=X9) rfl rfl rfl Ct.h (Ba mm) hwX9 (s1 ?_);refine AA (fun _=>CX hwX9.2 pk) ?_;refine xL (((a3,a4),ab,2,a5,a6,am,ah):Az) ?_;refine EV (X:=X9) (i:=a1.toNat) (sz:=8) (fo:=6) (n:=1) rfl rfl pk rfl (.inr ⟨IM.h,rfl⟩) rfl (Eg rfl) (Nat.le_of_ble_eq_true rfl) ?_;refine AA (fun _=>Bs (τ:=Int) 0) ?_;refine jL (((a3,a4),ab,2,a5,a6,(TL.nil Int 0),ah):Az) ?_
  revert hp;refine bc fun c8 bo hp=>?_
  refine Ye (X:=X9) (((a3,a4),ab,2,a5,a6,(TL.nil Int 0),ah):Az) hwX9.2 rfl pk pk bo (fun b2 bj hhX12 hzX12=>?_);subst bj;try simp only [CA,DF,Ds,DG,DZ,List.cons_append,List.nil_append]
  try rw [← hhX12]
  have hwX12:=And.intro hwX9.1 hzX12
  try rw [← Di hhX12]
  try rw [← Dj hhX12]
  refine s5 ?_
  revert hp;refine bc fun c9 bp hp=>?_
  refine Cd [blk b0_ _ _,Af aj] _ rfl MK.h rfl pc (by exact fun w hw=>Ew w b0_ (b0,b1,aj,b2) ((an,ao),ap,ab,a2,(ac,ad,ae,af,a7,a8,a9,aa),a5,bi,false) ((dx) w hw) ((FX mm) w hw) _ bp) ?_;rintro _ _ ⟨c3,⟨aq,ar,au,b6⟩,rfl,rfl,rfl,hey13_0⟩;obtain rfl:b2=b6:=hey13_0.symm;refine sc ?_;replace hp:=dd hp;refine s5 ?_
  revert hp;refine bc fun ca bq hp=>?_
  refine AV rfl Rm.h rfl (by exact fun w hw=>Fz w b0_ (aq,ar,au,b2) (3,0,0,(a3,a4),ab,(ac,ad,ae,af,a7,a8,a9,aa),a5,a6,0,(-1),false) (CP mm hw.sees) (Ap dv hw) (Ap (Aa Ad (Aa Ad (Aa Ad (Aa dv (Aa Ad (Aa dv (Aa Ad (Aa (Bn (Ae (Ae (Ae (Ae (Ci (Ba mm) hzX12)))))) dv)))))))) hw) _ bq) ?_;rintro _ _ ⟨bk,rfl,rfl,rfl⟩;refine sc ?_;replace hp:=dd hp;refine s2 ?_;obtain rfl:=sj hp;refine s1 ?_;refine AE rfl (Ab rfl) ⟨bk,(aq,ar,au,b2),rfl,rfl,rfl⟩ ms
 replace hp:=Ax q6 hp;refine s3 ?_;refine AW rfl rfl (AT (Ag mm) 0 2 rfl) (by exact Bp.h) ?_
 revert hp;refine bc fun cb br hp=>?_
 refine Cd [blk b0_ _ _,Af aj,Af ag] _ rfl bO.h rfl pc (by exact fun w hw=>Kd w b0_ (b0,b1,aj,ag) (a3,a4) ((dx) w hw) _ br) ?_;rintro _ _ ⟨⟨b7,b8,av,ai⟩,rfl,rfl,rfl⟩;refine sc ?_;replace hp:=dd hp;refine s5 ?_
 revert hp;refine bc fun cc bs hp=>?_
 refine Cd [blk b0_ _ _,Af av] _ rfl MK.h rfl pc (by exact fun w hw=>Ew w b0_ (b7,b8,av,ai) ((an,ao),ap,az,a2,(ac,ad,ae,af,a7,a8,a9,aa),a5,bi,false) ((dx) w hw) ((FX mm) w hw) _ bs) ?_;rintro _ _ ⟨c4,⟨aw,ax,ay,b9⟩,rfl,rfl,rfl,hey16_0⟩;obtain rfl:ai=b9:=hey16_0.symm;refine sc ?_;replace hp:=dd hp;refine s5 ?_
 revert hp;refine bc fun cd bt hp=>?_
 refine AV rfl Rm.h rfl (by exact fun w hw=>Fz w b0_ (aw,ax,ay,ai) (5,0,0,(a3,a4),0,(ac,ad,ae,af,a7,a8,a9,aa),a5,a6,0,(-1),false) (CP mm hw.sees) (Ap dv hw) (Ap (Aa Ad (Aa Ad (Aa Ad (Aa dv (Aa Ad (Aa dv (Aa Ad (Aa (Bn (Ae (Ae (Ae (Ae (eW (List.mem_filter.2 ⟨List.mem_of_getElem? ak.2,(by simp [Fy,DU])⟩) (Fs (xs:=(ag.els.filter (fun t:Az=>decide ((GT.dat t).1.1=a3)&&(decide ((GT.dat t).1.2=a4)&&true)))) mm))))))) dv)))))))) hw) _ bt) ?_;rintro _ _ ⟨bl,rfl,rfl,rfl⟩;refine sc ?_;replace hp:=dd hp;refine s2 ?_;obtain rfl:=sj hp;refine s1 ?_;refine AE rfl (Ab rfl) ⟨bl,(aw,ax,ay,ai),rfl,rfl,rfl⟩ ms
def Iw (a0:At) (a1:CH):Option (At×(List Au)×Bool) :=
 (Gl a0).bind fun y1=>cond (!y1) (some ((0,0,([]:List AD),([]:List Bb)),([]:List Au),false)) ((Ef a0).bind fun y3=>Option.bind (JK a0.2.2.1 (a0.1,a0.2.1) a1) (fun y4=>Option.bind (Il a1) (fun y5=>cond (((((!y5)||(decide (a1.1=0)))||(decide (6 < a0.2.1)))||(decide ((a0.2.2.2.length:Int)=8)))||(decide (60 < y4.1))) (some (y3,([]:List Au),false)) ((EJ (y3.1,IntKind.wrap .i64 (y3.2.1+1),y3.2.2) ((a0.1,a0.2.1),a0.1,a0.1,1,a1,y4.1,y4.2,true)).bind fun y7=>Option.bind (GH y4.2) (fun y8=>Option.bind (CO y7.2.2.2.2 [((a0.1,a0.2.1),a0.1,1,y4.1,y8,([]:List Int),true)]) (fun a2=>Option.bind (Fm (y7.2.1,y7.2.2.1,y7.2.2.2.1,a2) (1,0,0,(a0.1,a0.2.1),a0.1,a1,y4.1,y4.2,0,(-1),false)) (fun a3=>some ((y7.2.1,y7.2.2.1,y7.2.2.2.1,a2),a3,true))))))))
theorem NC (a0:Ao) (a1:Dg) (h0:GT.rd w [] a0) (h1:GT.rd w [] a1) (r) (hp:Iw (GT.dat a0) (GT.dat a1)=some r):Sp 68 [.agg (GT.cells a0).toArray,.agg (GT.cells a1).toArray] w [] (fun v M=>∃ (x0:Ao) (x1:TL Ak) (x2:Bool),v=.tuple #[.agg (GT.cells x0).toArray,x1.hdr,.bool x2]∧(GT.dat x0,GT.dat x1,GT.dat x2)=r∧M=[Af x0,Af x1]):=by
 obtain ⟨a2,a3,am,an⟩:=a0;obtain ⟨a6,a7,a8,a9,aa,ab,ac,ad⟩:=a1;refine sa ?_;refine Spec.intro func68 rfl ntmps68 rfl ?_;unfold Iw at hp;replace hp:=dd hp;refine s2 ?_;refine bx fun b6=>?_;refine bx fun b7=>?_;refine al fun b8=>?_;refine By (v:=(TL.hdr (TL.nil Ak 0))) rfl rfl (s6 ?_)
 revert hp;refine bc fun y1 ax hp=>?_
 refine Bi rfl Yg.h rfl (by exact fun w hw=>Ip w (a2,a3,am,an) (Ap (Aa Ad (Aa Ad (Aa (Ac h0.2.2.1) (Ac h0.2.2.2)))) hw) _ ax) (s2 ?_);refine kp [2,3,4,13] ?_;refine Ai rfl (fun q2=>?_) (fun q2=>?_)
 ·replace hp:=Aw q2 hp;refine s2 ?_;refine Cz (xs:=[]) (cs:=[.int .i64 0,.int .i64 0,(TL.hdr (TL.nil Av 0)),(TL.hdr (TL.nil Az 0))]) rfl rfl Hd.h rfl (s1 ?_);refine By (v:=(TL.hdr (TL.nil Ak 0))) rfl rfl (s2 ?_);obtain rfl:=sj hp;refine AS (fun _=>Bs (τ:=Av) 0) ?_;refine AS (fun _=>Bs (τ:=Az) 0) ?_;refine jW ((0,0,(TL.nil Av 0),(TL.nil Az 0)):Ao) ?_;refine AS (fun _=>Bs (τ:=Ak) 0) (s1 ?_);refine Dq rfl (AC rfl mm (by exact BC.h)) (Ab rfl) (Ab rfl) ⟨(0,0,(TL.nil Av 0),(TL.nil Az 0)),(TL.nil Ak 0),false,rfl,rfl,rfl⟩ ms
 replace hp:=Ax q2 hp;refine s4 ?_
 revert hp;refine bc fun y3 ay hp=>?_
 refine AV rfl Po.h rfl (by exact fun w hw=>Fk w (a2,a3,am,an) (Ap (Aa Ad (Aa Ad (Aa (Ac h0.2.2.1) (Ac h0.2.2.2)))) hw) _ ay) ?_;rintro _ _ ⟨⟨ag,ah,ae,a5⟩,rfl,rfl,rfl⟩;refine sc ?_;replace hp:=dd hp;refine xL (_:Ao) ?_;refine al fun ao=>?_;refine s8 ?_;refine Cz (xs:=[(0,.tmp 18),(1,.tmp 20)]) (cs:=[.int .i64 a2,.int .i64 a3]) rfl rfl jJ.h rfl ?_;refine al fun b9=>?_;refine s8 ?_
 revert hp;refine bc fun y4 az hp=>?_
 refine AV rfl bP.h rfl (by exact fun w hw=>Mo w am (a2,a3) (a6,a7,a8,a9,aa,ab,ac,ad) (Ap (Ac h0.2.2.1) hw) (Ap dv hw) (Ap (Ac h1) hw) _ az) ?_;rintro _ _ ⟨a4,af,rfl,rfl,rfl⟩;refine sc ?_;replace hp:=dd hp;refine s8 ?_
 revert hp;refine bc fun y5 b0 hp=>?_
 refine BX [52] mix kr rfl (s1 ?_);refine AZ Ar Uy.h (Ah (Aj rfl) (AF)) (by exact fun hg w F hF hM=>JD w (a6,a7,a8,a9,aa,ab,ac,ad) (AK (Ac h1) hF hM) _ b0) (s14 ?_);refine GF (X:=an) (Am rfl rfl) (Aq rfl) Ct.h (s20 ?_);refine s11 ?_;refine kp [2,3,4,7,8,9,10,52] ?_;refine Ai rfl (fun q6=>?_) (fun q6=>?_)
 ·replace hp:=Aw q6 hp;refine s4 ?_;refine By (v:=(TL.hdr (TL.nil Ak 0))) rfl rfl (s2 ?_);obtain rfl:=sj hp;refine jW ((ag,ah,ae,a5):Ao) ?_;refine AS (fun _=>Bs (τ:=Ak) 0) (s1 ?_);refine Dq rfl (AC rfl mm (by exact BC.h)) (Ab rfl) (Ab rfl) ⟨(ag,ah,ae,a5),(TL.nil Ak 0),false,rfl,rfl,rfl⟩ ms
 replace hp:=Ax q6 hp;refine s19 ?_;refine Cz (xs:=[(0,.tmp 58),(1,.tmp 60),(2,.tmp 62),(3,.const (.int .i64 1)),(4,.tmp 63),(5,.tmp 64),(6,.tmp 65),(7,.const (.bool true))]) (cs:=[.int .i64 a2,.int .i64 a3,.int .i64 a2,.int .i64 a2,.int .i64 1,.int .i64 a6,.int .i64 a7,.int .i64 a8,.string a9,.string aa,.string ab,.int .i64 ac,ad.hdr,.int .i64 a4,af.hdr,.bool true]) rfl rfl IL.h rfl ?_
 revert hp;refine bc fun y7 b1 hp=>?_
 refine Cd [blk ao _ _,Af ae] _ rfl MK.h rfl pc (by exact fun w hw=>Ew w ao (ag,IntKind.wrap .i64 (ah+1),ae,a5) ((a2,a3),a2,a2,1,(a6,a7,a8,a9,aa,ab,ac,ad),a4,af,true) ((Al (dx) (Al AL (Al AL (Al AL (Al (Bz h1) (dx)))))) w hw) ((FX mm) w hw) _ b1) ?_;rintro _ _ ⟨b4,⟨ai,aj,ak,ap⟩,rfl,rfl,rfl,hey7_0⟩;obtain rfl:a5=ap:=hey7_0.symm;refine sc ?_;replace hp:=dd hp;refine s2 ?_
 revert hp;refine bc fun y8 b2 hp=>?_
 refine EK (pre:=[_,_,_,_,_,_,_,_,_,_]) (suf:=[_,_,_]) [69,77] [] _ pc mix kr kr rfl (s7 ?_);refine Dr (fun v M=>∃ (x0:TL Bj),v=x0.hdr∧GT.dat x0=y8∧M=[Af x0]) Re.h (Ah (Aj rfl) (AF)) (by exact fun w F hF hM=>Gt w af (AK (Ba mm) hF hM) _ b2) ?_;refine QZ (τ:=Bj) (t:=75) (xs:=[(0,.tmp 70),(1,.tmp 72),(2,.const (.int .i64 1)),(3,.tmp 73),(4,.tmp 75),(6,.const (.bool true))]) (ps:=fun u=>[(0,.agg #[.int .i64 a2,.int .i64 a3]),(1,.int .i64 a2),(2,.int .i64 1),(3,.int .i64 a4),(4,u),(6,.bool true)]) (cs:=fun u=>[.int .i64 a2,.int .i64 a3,.int .i64 a2,.int .i64 1,.int .i64 a4,u,(TL.hdr (TL.nil Int 0)),.bool true]) rfl (fun u=>(BB (Aj rfl) (BB (Aj rfl) (BB BP (BB (Aj rfl) (BB (Aj rfl) (BB BP (GX)))))))) UE.h (fun X=>rfl) kr ?_;refine nS (t:=76) rfl Ct.h rfl de de (fun X=>rfl) kr (s1 ?_);refine CZ rfl rfl ?_;rintro _ _ ⟨X9,b5,rfl,rfl,rfl⟩;simp only [List.cons_append,List.nil_append];refine s10 ?_
 revert hp;refine bc fun bb av hp=>?_
 refine AA (fun _=>Bs (τ:=Int) 0) ?_;refine jL (((a2,a3),a2,1,a4,X9,(TL.nil Int 0),true):Az) ?_;refine El (X:=a5) (((a2,a3),a2,1,a4,X9,(TL.nil Int 0),true):Az) rfl rfl rfl Ct.h rfl rfl pk mm pk av de (fun aq ar hmX10=>?_);subst ar;refine s4 ?_
 revert hp;refine bc fun b3 aw hp=>?_
 refine EK (pre:=[_,_,_,_,_,_,_,_,_]) (suf:=[_,_,_]) [80,88] [] _ pc mix kr kr rfl (s7 ?_);refine SM (xs:=[(0,.const (.int .i64 1)),(3,.tmp 81),(4,.tmp 83),(5,.tmp 84),(6,.tmp 85),(7,.tmp 86),(9,.const (.int .i64 (-1)))]) (ps:=[(0,.int .i64 1),(3,.agg #[.int .i64 a2,.int .i64 a3]),(4,.int .i64 a2),(5,.agg #[.int .i64 a6,.int .i64 a7,.int .i64 a8,.string a9,.string aa,.string ab,.int .i64 ac,ad.hdr]),(6,.int .i64 a4),(7,af.hdr),(9,.int .i64 (-1))]) (cs:=[.int .i64 1,.int .i64 0,.int .i64 0,.int .i64 a2,.int .i64 a3,.int .i64 a2,.int .i64 a6,.int .i64 a7,.int .i64 a8,.string a9,.string aa,.string ab,.int .i64 ac,ad.hdr,.int .i64 a4,af.hdr,.int .i64 0,.int .i64 (-1),.bool false]) (BB BP (BB (Aj rfl) (BB (Aj rfl) (BB (Aj rfl) (BB (Aj rfl) (BB (Aj rfl) (BB BP (GX)))))))) Is.h rfl ?_;refine Dr (fun v M=>∃ (x0:TL Ak),v=x0.hdr∧GT.dat x0=b3∧M=[Af x0]) Rm.h (Ah (Aj rfl) (Ah (Aj rfl) (AF))) (by exact fun w F hF hM=>Fz w ao (ai,aj,ak,aq) (1,0,0,(a2,a3),a2,(a6,a7,a8,a9,aa,ab,ac,ad),a4,af,0,(-1),false) (CP (hM _ mm) hF.sees) (AK dv hF hM) (AK (Aa Ad (Aa Ad (Aa Ad (Aa dv (Aa Ad (Aa (Ac h1) dv)))))) hF hM) _ aw) (s1 ?_);refine CZ rfl rfl ?_;rintro _ _ ⟨au,rfl,rfl,rfl⟩;refine s9 ?_;refine sc ?_;replace hp:=dd hp;refine s4 ?_;obtain rfl:=sj hp;refine jW ((ai,aj,ak,aq):Ao) ?_;refine s1 ?_;refine Dq rfl (AC rfl mm (by exact BC.h)) (Ab rfl) (Ab rfl) ⟨(ai,aj,ak,aq),au,true,rfl,rfl,rfl⟩ ms
def Ji (a0:At) (a1:AU):Option (At×(List Au)×Bool) :=
 (Gl a0).bind fun y1=>cond (!y1) (some ((0,0,([]:List AD),([]:List Bb)),([]:List Au),false)) ((Ef a0).bind fun y3=>Option.bind (EF a0 a1) (fun y4=>gb (!(decide (y4 < 0))) (idx a0.2.2.2 y4) (fun y5=>gb (!((decide (y4 < 0))||(!decide (y5.2.2.1=1)))) (idx a0.2.2.2 y4) (fun y6=>cond (((decide (y4 < 0))||(!decide (y5.2.2.1=1)))||(decide ((y6.2.2.2.2.2.1.length:Int)=0))) (some (y3,([]:List Au),false)) ((DL y3 y4 2).bind fun y8=>some (y8.2,y8.1,true))))))
theorem OH (a0:Ao) (a1:Bj) (h0:GT.rd w [] a0) (h1:GT.rd w [] a1) (r) (hp:Ji (GT.dat a0) (GT.dat a1)=some r):Sp 70 [.agg (GT.cells a0).toArray,.agg (GT.cells a1).toArray] w [] (fun v M=>∃ (x0:Ao) (x1:TL Ak) (x2:Bool),v=.tuple #[.agg (GT.cells x0).toArray,x1.hdr,.bool x2]∧(GT.dat x0,GT.dat x1,GT.dat x2)=r∧M=[Af x0,Af x1]):=by
 obtain ⟨ab,ac,ad,a4⟩:=a0;obtain ⟨ah,ai⟩:=a1;refine sa ?_;refine Spec.intro func70 rfl ntmps70 rfl ?_;unfold Ji at hp;replace hp:=dd hp;refine s2 ?_;refine bx fun am=>?_;refine bx fun b8=>?_;refine al fun b9=>?_;refine By (v:=(TL.hdr (TL.nil Ak 0))) rfl rfl (s6 ?_)
 revert hp;refine bc fun y1 an hp=>?_
 refine Bi rfl Yg.h rfl (by exact fun w hw=>Ip w (ab,ac,ad,a4) (Ap (Aa Ad (Aa Ad (Aa (Ac h0.2.2.1) (Ac h0.2.2.2)))) hw) _ an) (s2 ?_);refine kp [2,3,4,12] ?_;refine Ai rfl (fun q2=>?_) (fun q2=>?_)
 ·replace hp:=Aw q2 hp;refine s2 ?_;refine Cz (xs:=[]) (cs:=[.int .i64 0,.int .i64 0,(TL.hdr (TL.nil Av 0)),(TL.hdr (TL.nil Az 0))]) rfl rfl Hd.h rfl (s1 ?_);refine By (v:=(TL.hdr (TL.nil Ak 0))) rfl rfl (s2 ?_);obtain rfl:=sj hp;refine AS (fun _=>Bs (τ:=Av) 0) ?_;refine AS (fun _=>Bs (τ:=Az) 0) ?_;refine jW ((0,0,(TL.nil Av 0),(TL.nil Az 0)):Ao) ?_;refine AS (fun _=>Bs (τ:=Ak) 0) (s1 ?_);refine Dq rfl (AC rfl mm (by exact BC.h)) (Ab rfl) (Ab rfl) ⟨(0,0,(TL.nil Av 0),(TL.nil Az 0)),(TL.nil Ak 0),false,rfl,rfl,rfl⟩ ms
 replace hp:=Ax q2 hp;refine s4 ?_
 revert hp;refine bc fun y3 ao hp=>?_
 refine AV rfl Po.h rfl (by exact fun w hw=>Fk w (ab,ac,ad,a4) (Ap (Aa Ad (Aa Ad (Aa (Ac h0.2.2.1) (Ac h0.2.2.2)))) hw) _ ao) ?_;rintro _ _ ⟨⟨a5,a6,a2,a3⟩,rfl,rfl,rfl⟩;refine sc ?_;replace hp:=dd hp;refine xL (_:Ao) ?_;refine al fun ae=>?_;refine s5 ?_
 revert hp;refine bc fun y4 ap hp=>?_
 refine Bi rfl SR.h rfl (by exact fun w hw=>Gf w am (ab,ac,ad,a4) (ah,ai) (CP mm hw.sees) (Ap (Aa Ad (Aa Ad (Aa (Ac h0.2.2.1) (Ac h0.2.2.2)))) hw) (Ap dv hw) _ ap) (s4 ?_);replace hp:=DB hp;obtain ⟨⟨⟨ar,au⟩,av,aw,ax,ay,az,b0⟩,af,hp⟩:=hp;replace hp:=DB hp;obtain ⟨⟨⟨b1,b2⟩,b3,b4,b5,b6,aj,b7⟩,ag,hp⟩:=hp;refine BX [38] mix kr rfl (s6 ?_);refine Cn (X:=a4) (Am rfl rfl) (Aq rfl) (Aq rfl) Ct.h (Ac h0.2.2.2) (fun hg=>af (BY hg.2)) (s1 ?_);refine BA (Am rfl rfl) (Aq rfl) (fun hg=>Bl (Ac h0.2.2.2) (af (BY hg.2)).2) AM.h rfl (s6 ?_);refine Cn (X:=a4) (Am rfl rfl) (Aq rfl) (Aq rfl) Ct.h (Ac h0.2.2.2) (fun hg=>ag (BY hg.2)) (s1 ?_);refine BA (Am rfl rfl) (Aq rfl) (fun hg=>Bl (Ac h0.2.2.2) (ag (BY hg.2)).2) IM.h rfl ?_;refine GF (X:=aj) (Am rfl rfl) (Aq rfl) FD.h (s20 ?_);refine s5 ?_;refine kp [4,7,8,38] ?_;refine Ai rfl (fun q7=>?_) (fun q7=>?_)
 ·replace hp:=Aw q7 hp;refine s4 ?_;refine By (v:=(TL.hdr (TL.nil Ak 0))) rfl rfl (s2 ?_);obtain rfl:=sj hp;refine jW ((a5,a6,a2,a3):Ao) ?_;refine AS (fun _=>Bs (τ:=Ak) 0) (s1 ?_);refine Dq rfl (AC rfl mm (by exact BC.h)) (Ab rfl) (Ab rfl) ⟨(a5,a6,a2,a3),(TL.nil Ak 0),false,rfl,rfl,rfl⟩ ms
 replace hp:=Ax q7 hp;refine s4 ?_
 revert hp;refine bc fun y8 aq hp=>?_
 refine Cd [blk ae _ _,Af a2,Af a3] _ rfl Pp.h rfl pc (by exact fun w hw=>EB w ae (a5,a6,a2,a3) y4 2  _ aq) ?_;rintro _ _ ⟨ak,⟨a7,a8,a9,aa⟩,rfl,rfl,rfl⟩;refine sc ?_;replace hp:=dd hp;refine s10 ?_;obtain rfl:=sj hp;refine jW ((a7,a8,a9,aa):Ao) ?_;refine s1 ?_;refine Dq rfl (AC rfl mm (by exact BC.h)) (Ab rfl) (Ab rfl) ⟨(a7,a8,a9,aa),ak,true,rfl,rfl,rfl⟩ ms
def Hv (a0:At) (a1:AU):Option (At×(List Au)×Bool) :=
 (Gl a0).bind fun y1=>cond (!y1) (some ((0,0,([]:List AD),([]:List Bb)),([]:List Au),false)) ((Ef a0).bind fun y3=>Option.bind (Ga a0.2.2.1 a1) (fun y4=>BH (fun s5:Int=>cond (!decide ((s5).tmod 3=a0.1)) (some (.inl (IntKind.wrap .i64 (s5+1)))) (Option.map .inr ((EF a0 a1).bind fun y8=>Option.bind (Kl a1) (fun y9=>gb (!((!y9)||(decide (y4.2.2.2.1=3)))) (FA a0 a1) (fun a5=>cond (((((!y9)||(decide (y4.2.2.2.1=3)))||a5)||(decide (600 < s5)))||((decide (y8 < 0))&&(decide ((a0.2.2.2.length:Int)=8)))) (some (y3,([]:List Au),false)) ((EJ y3 (y4.1,s5,y4.2.2)).bind fun a2=>cond (decide (0≤y8)) ((idx a2.2.2.2.2 y8).bind fun a8=>Option.bind (some (a2.2.2.2.2.set (y8.toNat) (a1,s5,3,0,([]:List AU),([]:List Int),false))) (fun a3=>Option.bind (Fm (a2.2.1,a2.2.2.1,a2.2.2.2.1,a3) (6,0,0,a1,s5,(0,0,0,ByteArray.empty,ByteArray.empty,ByteArray.empty,0,([]:List ByteArray)),0,([]:List AU),0,(-1),false)) (fun a6=>some ((a2.2.1,a2.2.2.1,a2.2.2.2.1,a3),a6,true)))) ((CO a2.2.2.2.2 [(a1,s5,3,0,([]:List AU),([]:List Int),false)]).bind fun a4=>Option.bind (Fm (a2.2.1,a2.2.2.1,a2.2.2.2.1,a4) (6,0,0,a1,s5,(0,0,0,ByteArray.empty,ByteArray.empty,ByteArray.empty,0,([]:List ByteArray)),0,([]:List AU),0,(-1),false)) (fun a7=>some ((a2.2.1,a2.2.2.1,a2.2.2.2.1,a4),a7,true))))))))) (IntKind.wrap .i64 ((if 2 > y4.2.1 then 2 else y4.2.1)+1))))
theorem LM (a0:Ao) (a1:Bj) (h0:GT.rd w [] a0) (h1:GT.rd w [] a1) (r) (hp:Hv (GT.dat a0) (GT.dat a1)=some r):Sp 71 [.agg (GT.cells a0).toArray,.agg (GT.cells a1).toArray] w [] (fun v M=>∃ (x0:Ao) (x1:TL Ak) (x2:Bool),v=.tuple #[.agg (GT.cells x0).toArray,x1.hdr,.bool x2]∧(GT.dat x0,GT.dat x1,GT.dat x2)=r∧M=[Af x0,Af x1]):=by
 obtain ⟨ah,ai,ab,ac⟩:=a0;obtain ⟨a3,a4⟩:=a1;refine sa ?_;refine Spec.intro func71 rfl ntmps71 rfl ?_;unfold Hv at hp;replace hp:=dd hp;refine s2 ?_;refine bx fun au=>?_;refine bx fun bs=>?_;refine al fun bt=>?_;refine By (v:=(TL.hdr (TL.nil Ak 0))) rfl rfl (s6 ?_)
 revert hp;refine bc fun y1 bu hp=>?_
 refine Bi rfl Yg.h rfl (by exact fun w hw=>Ip w (ah,ai,ab,ac) (Ap (Aa Ad (Aa Ad (Aa (Ac h0.2.2.1) (Ac h0.2.2.2)))) hw) _ bu) (s2 ?_);refine kp [2,3,4,14] ?_;refine Ai rfl (fun q2=>?_) (fun q2=>?_)
 ·replace hp:=Aw q2 hp;refine s2 ?_;refine Cz (xs:=[]) (cs:=[.int .i64 0,.int .i64 0,(TL.hdr (TL.nil Av 0)),(TL.hdr (TL.nil Az 0))]) rfl rfl Hd.h rfl (s1 ?_);refine By (v:=(TL.hdr (TL.nil Ak 0))) rfl rfl (s2 ?_);obtain rfl:=sj hp;refine AS (fun _=>Bs (τ:=Av) 0) ?_;refine AS (fun _=>Bs (τ:=Az) 0) ?_;refine jW ((0,0,(TL.nil Av 0),(TL.nil Az 0)):Ao) ?_;refine AS (fun _=>Bs (τ:=Ak) 0) (s1 ?_);refine Dq rfl (AC rfl mm (by exact BC.h)) (Ab rfl) (Ab rfl) ⟨(0,0,(TL.nil Av 0),(TL.nil Az 0)),(TL.nil Ak 0),false,rfl,rfl,rfl⟩ ms
 replace hp:=Ax q2 hp;refine s4 ?_
 revert hp;refine bc fun y3 bw hp=>?_
 refine AV rfl Po.h rfl (by exact fun w hw=>Fk w (ah,ai,ab,ac) (Ap (Aa Ad (Aa Ad (Aa (Ac h0.2.2.1) (Ac h0.2.2.2)))) hw) _ bw) ?_;rintro _ _ ⟨⟨ad,ae,aa,a5⟩,rfl,rfl,rfl⟩;refine sc ?_;replace hp:=dd hp;refine xL (_:Ao) ?_;refine al fun aj=>?_;refine s7 ?_
 revert hp;refine bc fun y4 bz hp=>?_
 refine AV rfl TT.h rfl (by exact fun w hw=>GY w ab (a3,a4) (Ap (Ac h0.2.2.1) hw) (Ap dv hw) _ bz) ?_;rintro _ _ ⟨⟨⟨av,aw⟩,ak,ax,ay,⟨az,b0,b1,b2,am,an,ao,af⟩,ap,ag,aq⟩,rfl,rfl,rfl⟩;refine sc ?_;replace hp:=dd hp;refine xL (_:Av) ?_;refine al fun c0=>?_;refine s6 ?_;refine aN rfl rfl rfl (s5 ?_);refine BW (σ:=Int) GT.dat (fun (a2:Int)=>[(9,.int .i64 a2)]) (fun (a2:Int)=>[]) [(2,_),(3,_),(4,_),(7,_),(8,_)] [blk au _ _,blk bs _ _,blk bt _ _,blk aj _ _,blk c0 _ _,Af aa,Af a5,Af af,Af ag] (IntKind.wrap .i64 ((if 2 > ak then 2 else ak)+1)) hp sb ms ?_;clear hp;rintro a2 x5 hp c1;replace hp:=dd hp;refine kq [2,3,4,7,8,9] ?_;refine s9 ?_;refine kp [2,3,4,7,8,9,30] ?_;refine Ai rfl (fun q6=>?_) (fun q6=>?_)
 ·replace hp:=Aw q6 hp;refine s7 ?_;exact ⟨IntKind.wrap .i64 (a2+1),sb,(.sub ms),Bo hp⟩
 replace hp:=Ax q6 hp;refine BF ?_;replace hp:=Bu hp;obtain ⟨a7,hp,c2⟩:=hp;obtain rfl:=c1 _ c2;refine s3 ?_
 revert hp;refine bc fun y8 c3 hp=>?_
 refine Bi rfl SR.h rfl (by exact fun w hw=>Gf w au (ah,ai,ab,ac) (a3,a4) (CP mm hw.sees) (Ap (Aa Ad (Aa Ad (Aa (Ac h0.2.2.1) (Ac h0.2.2.2)))) hw) (Ap dv hw) _ c3) (s4 ?_)
 revert hp;refine bc fun y9 c4 hp=>?_
 replace hp:=BJ hp;obtain ⟨ca,bm,hp⟩:=hp;refine BX [60] mix kr rfl (s1 ?_);refine AZ Ar Ux.h (Ah (Aj rfl) (AF)) (by exact fun hg w F hF hM=>Km w (a3,a4) (AK dv hF hM) _ c4) (s8 ?_);refine AZ (Am rfl rfl) bC.h (Ah (Aj rfl) (Ah (Aq rfl) (AF))) (by exact fun hg w F hF hM=>IN w au (ah,ai,ab,ac) (a3,a4) (CP (hM _ mm) hF.sees) (AK (Aa Ad (Aa Ad (Aa (Ac h0.2.2.1) (Ac h0.2.2.2)))) hF hM) (AK dv hF hM) _ (bm (BY hg.2))) (s11 ?_);refine GF (X:=ac) (Am rfl rfl) (Aq rfl) Ct.h (s20 ?_);refine s11 ?_;refine kp [3,4,7,8,9,10,60] ?_;refine Ai rfl (fun b3=>?_) (fun b3=>?_)
 ·replace hp:=Aw b3 hp;refine s4 ?_;refine By (v:=(TL.hdr (TL.nil Ak 0))) rfl rfl (s2 ?_);obtain rfl:=sj hp;refine jW ((ad,ae,aa,a5):Ao) ?_;refine AS (fun _=>Bs (τ:=Ak) 0) (s1 ?_);refine Dq rfl (AC rfl mm (by exact BC.h)) (Ab rfl) (Ab rfl) ⟨(ad,ae,aa,a5),(TL.nil Ak 0),false,rfl,rfl,rfl⟩ ms
 replace hp:=Ax b3 hp;refine s10 ?_
 revert hp;refine bc fun cb bn hp=>?_
 refine Cd [blk aj _ _,Af aa] _ rfl MK.h rfl pc (by exact fun w hw=>Ew w aj (ad,ae,aa,a5) ((av,aw),a2,ax,ay,(az,b0,b1,b2,am,an,ao,af),ap,ag,aq) ((dx) w hw) ((FX mm) w hw) _ bn) ?_;rintro _ _ ⟨c7,⟨a6,a8,a9,ar⟩,rfl,rfl,rfl,hey12_0⟩;obtain rfl:a5=ar:=hey12_0.symm;refine sc ?_;replace hp:=dd hp;refine s5 ?_;refine Cz (xs:=[(0,.tmp 66),(1,.tmp 67),(2,.const (.int .i64 3))]) (cs:=[.int .i64 a3,.int .i64 a4,.int .i64 a2,.int .i64 3,.int .i64 0,(TL.hdr (TL.nil Bj 0)),(TL.hdr (TL.nil Int 0)),.bool false]) rfl rfl UE.h rfl ?_;refine al fun c8=>?_;refine s8 ?_;refine kp [3,4,7,9,10,11,70] ?_;refine Ai rfl (fun b4=>?_) (fun b4=>?_)
 ·replace hp:=Aw b4 hp;refine s5 ?_;replace hp:=AX hp;obtain ⟨⟨⟨b8,b9⟩,bb,bd,be,bf,bg,bh⟩,b5,hp⟩:=hp;refine Cj (X:=a5) rfl rfl rfl Ct.h (Ba mm) b5 ?_;refine AA (fun _=>CX b5.2 pk) ?_;refine xL (((b8,b9),bb,bd,be,bf,bg,bh):Az) ?_;refine EV (X:=a5) (i:=y8.toNat) (sz:=8) (fo:=0) (n:=8) rfl rfl pk rfl (.inl FE.h) rfl (Eg rfl) (Nat.le_of_ble_eq_true rfl) ?_;refine AA (fun _=>Bs (τ:=Bj) 0) ?_;refine AA (fun _=>Bs (τ:=Int) 0) ?_;refine jL (((a3,a4),a2,3,0,(TL.nil Bj 0),(TL.nil Int 0),false):Az) ?_
  revert hp;refine bc fun cc bo hp=>?_
  refine DJ (X:=a5) (((a3,a4),a2,3,0,(TL.nil Bj 0),(TL.nil Int 0),false):Az) rfl pk pk bo (fun b6 bi hhX16=>?_);subst bi;try rw [← hhX16]
  try rw [← Di hhX16]
  try rw [← Dj hhX16]
  refine s2 ?_
  revert hp;refine bc fun c5 bp hp=>?_
  refine EK (pre:=[_,_,_,_,_]) (suf:=[_,_,_]) [82,86] [] _ pc mix kr kr rfl (s3 ?_);refine SM (xs:=[(0,.const (.int .i64 6)),(3,.tmp 83),(4,.tmp 84),(9,.const (.int .i64 (-1)))]) (ps:=[(0,.int .i64 6),(3,.agg #[.int .i64 a3,.int .i64 a4]),(4,.int .i64 a2),(9,.int .i64 (-1))]) (cs:=[.int .i64 6,.int .i64 0,.int .i64 0,.int .i64 a3,.int .i64 a4,.int .i64 a2,.int .i64 0,.int .i64 0,.int .i64 0,.string ByteArray.empty,.string ByteArray.empty,.string ByteArray.empty,.int .i64 0,(TL.hdr (TL.nil ByteArray 0)),.int .i64 0,(TL.hdr (TL.nil Bj 0)),.int .i64 0,.int .i64 (-1),.bool false]) (BB BP (BB (Aj rfl) (BB (Aj rfl) (BB BP (GX))))) Is.h rfl ?_;refine Dr (fun v M=>∃ (x0:TL Ak),v=x0.hdr∧GT.dat x0=c5∧M=[Af x0]) Rm.h (Ah (Aj rfl) (Ah (Aj rfl) (AF))) (by exact fun w F hF hM=>Fz w aj (a6,a8,a9,b6) (6,0,0,(a3,a4),a2,(0,0,0,ByteArray.empty,ByteArray.empty,ByteArray.empty,0,(TL.nil ByteArray 0)),0,(TL.nil Bj 0),0,(-1),false) (CP (hM _ mm) hF.sees) (AK dv hF hM) (AK (Aa Ad (Aa Ad (Aa Ad (Aa dv (Aa Ad (Aa (Aa Ad (Aa Ad (Aa Ad (Aa Ej (Aa Ej (Aa Ej (Aa Ad (EA 0)))))))) (Aa Ad (Aa (EA 0) dv)))))))) hF hM) _ bp) (s1 ?_);refine CZ rfl rfl ?_;rintro _ _ ⟨bj,rfl,rfl,rfl⟩;refine s5 ?_;refine sc ?_;replace hp:=dd hp;refine s4 ?_;obtain rfl:=sj hp;refine jW ((a6,a8,a9,b6):Ao) ?_;refine s1 ?_;refine Dq rfl (AC rfl mm (by exact BC.h)) (Ab rfl) (Ab rfl) ⟨(a6,a8,a9,b6),bj,true,rfl,rfl,rfl⟩ ms
 replace hp:=Ax b4 hp;refine s4 ?_;refine BQ rfl rfl Ct.h rfl de de rfl (fun c9=>?_)
 revert hp;refine bc fun cd bq hp=>?_
 refine AA (fun _=>Bs (τ:=Bj) 0) ?_;refine AA (fun _=>Bs (τ:=Int) 0) ?_;refine jL (((a3,a4),a2,3,0,(TL.nil Bj 0),(TL.nil Int 0),false):Az) ?_;refine El (X:=a5) (((a3,a4),a2,3,0,(TL.nil Bj 0),(TL.nil Int 0),false):Az) rfl rfl rfl Ct.h rfl rfl pk mm pk bq de (fun b7 bk hmX18=>?_);subst bk;refine s4 ?_
 revert hp;refine bc fun c6 br hp=>?_
 refine EK (pre:=[_,_,_,_,_]) (suf:=[_,_,_]) [82,86] [] _ pc mix kr kr rfl (s3 ?_);refine SM (xs:=[(0,.const (.int .i64 6)),(3,.tmp 83),(4,.tmp 84),(9,.const (.int .i64 (-1)))]) (ps:=[(0,.int .i64 6),(3,.agg #[.int .i64 a3,.int .i64 a4]),(4,.int .i64 a2),(9,.int .i64 (-1))]) (cs:=[.int .i64 6,.int .i64 0,.int .i64 0,.int .i64 a3,.int .i64 a4,.int .i64 a2,.int .i64 0,.int .i64 0,.int .i64 0,.string ByteArray.empty,.string ByteArray.empty,.string ByteArray.empty,.int .i64 0,(TL.hdr (TL.nil ByteArray 0)),.int .i64 0,(TL.hdr (TL.nil Bj 0)),.int .i64 0,.int .i64 (-1),.bool false]) (BB BP (BB (Aj rfl) (BB (Aj rfl) (BB BP (GX))))) Is.h rfl ?_;refine Dr (fun v M=>∃ (x0:TL Ak),v=x0.hdr∧GT.dat x0=c6∧M=[Af x0]) Rm.h (Ah (Aj rfl) (Ah (Aj rfl) (AF))) (by exact fun w F hF hM=>Fz w aj (a6,a8,a9,b7) (6,0,0,(a3,a4),a2,(0,0,0,ByteArray.empty,ByteArray.empty,ByteArray.empty,0,(TL.nil ByteArray 0)),0,(TL.nil Bj 0),0,(-1),false) (CP (hM _ mm) hF.sees) (AK dv hF hM) (AK (Aa Ad (Aa Ad (Aa Ad (Aa dv (Aa Ad (Aa (Aa Ad (Aa Ad (Aa Ad (Aa Ej (Aa Ej (Aa Ej (Aa Ad (EA 0)))))))) (Aa Ad (Aa (EA 0) dv)))))))) hF hM) _ br) (s1 ?_);refine CZ rfl rfl ?_;rintro _ _ ⟨bl,rfl,rfl,rfl⟩;refine s5 ?_;refine sc ?_;replace hp:=dd hp;refine s4 ?_;obtain rfl:=sj hp;refine jW ((a6,a8,a9,b7):Ao) ?_;refine s1 ?_;refine Dq rfl (AC rfl mm (by exact BC.h)) (Ab rfl) (Ab rfl) ⟨(a6,a8,a9,b7),bl,true,rfl,rfl,rfl⟩ ms
def Jj (a0:At):Option (At×Bool) :=
 (Gl a0).bind fun y1=>cond (!y1) (some ((0,0,([]:List AD),([]:List Bb)),false)) ((Ef a0).bind fun y3=>some ((y3.1,y3.2.1,y3.2.2.1,([]:List Bb)),true))
theorem OI (a0:Ao) (h0:GT.rd w [] a0) (r) (hp:Jj (GT.dat a0)=some r):Sp 72 [.agg (GT.cells a0).toArray] w [] (fun v M=>∃ (x0:Ao) (x1:Bool),v=.tuple #[.agg (GT.cells x0).toArray,.bool x1]∧(GT.dat x0,GT.dat x1)=r∧M=[Af x0]):=by
 obtain ⟨a4,a5,a6,a7⟩:=a0;refine sa ?_;refine Spec.intro func72 rfl ntmps72 rfl ?_;unfold Jj at hp;replace hp:=dd hp;refine s2 ?_;refine bx fun ab=>?_;refine al fun ac=>?_;refine s6 ?_
 revert hp;refine bc fun y1 a8 hp=>?_
 refine Bi rfl Yg.h rfl (by exact fun w hw=>Ip w (a4,a5,a6,a7) (Ap (Aa Ad (Aa Ad (Aa (Ac h0.2.2.1) (Ac h0.2.2.2)))) hw) _ a8) (s2 ?_);refine kp [1,2,7] ?_;refine Ai rfl (fun q2=>?_) (fun q2=>?_)
 ·replace hp:=Aw q2 hp;refine s2 ?_;refine Cz (xs:=[]) (cs:=[.int .i64 0,.int .i64 0,(TL.hdr (TL.nil Av 0)),(TL.hdr (TL.nil Az 0))]) rfl rfl Hd.h rfl (s3 ?_);obtain rfl:=sj hp;refine AS (fun _=>Bs (τ:=Av) 0) ?_;refine AS (fun _=>Bs (τ:=Az) 0) ?_;refine jW ((0,0,(TL.nil Av 0),(TL.nil Az 0)):Ao) ?_;refine s1 ?_;refine Cb rfl (AC rfl mm (by exact BC.h)) (Ab rfl) ⟨(0,0,(TL.nil Av 0),(TL.nil Az 0)),false,rfl,rfl,rfl⟩ ms
 replace hp:=Ax q2 hp;refine s4 ?_
 revert hp;refine bc fun y3 a9 hp=>?_
 refine AV rfl Po.h rfl (by exact fun w hw=>Fk w (a4,a5,a6,a7) (Ap (Aa Ad (Aa Ad (Aa (Ac h0.2.2.1) (Ac h0.2.2.2)))) hw) _ a9) ?_;rintro _ _ ⟨⟨a1,a2,a3,aa⟩,rfl,rfl,rfl⟩;refine sc ?_;replace hp:=dd hp;refine xL (_:Ao) ?_;refine al fun ad=>?_;refine s13 ?_;obtain rfl:=sj hp;refine AS (fun _=>Bs (τ:=Az) 0) ?_;refine jW ((a1,a2,a3,(TL.nil Az 0)):Ao) ?_;refine s1 ?_;refine Cb rfl (AC rfl mm (by exact BC.h)) (Ab rfl) ⟨(a1,a2,a3,(TL.nil Az 0)),true,rfl,rfl,rfl⟩ ms
end
end Go.Proofs.SL
namespace Go.Proofs.SL
open Go
variable {w0 w:World} {S0:List Nat} {M M1:List HP}
theorem mA {τ δ:Type} [GT τ δ] {X Y:TL τ} {a b:Nat} (h:X.hdr=Y.hdr):(slc X a b).hdr=(slc Y a b).hdr:=by
 unfold TL.hdr at h
 injection h with h1 h2 h3
 unfold TL.hdr slc;dsimp only;rw [h1,h3,List.length_take,List.length_take,List.length_drop,List.length_drop,h2]
def hdH (a b:Value):HP:=⟨[],fun _=>a=b,fun _ _ _ h=>h⟩
theorem oE {a:Value} (h:Holds w0 S0 M w):Holds w0 S0 (hdH a a::M) w :=
 h.reFp (List.Perm.of_eq (by rw [Co];rfl)) fun y hy=>by
  rcases List.mem_cons.1 hy with rfl | hy
  ·rfl
  ·exact h.prs _ hy
theorem oF {a b:Value} (hm:hdH a b∈M) (h:Holds w0 S0 M w):a=b:=h.prs _ hm
end Go.Proofs.SL
namespace Go.Proofs.SL
open Go Tryz
set_option maxHeartbeats 2000000
noncomputable def Fw (a0:List AU):Option (List AU) :=
 cond (decide ((a0.length:Int) < 2)) (some a0) (BH (fun s2:Int=>cond (decide (s2 < (a0.length:Int))) ((idx a0 s2).bind fun y4=>Option.bind (idx a0 (IntKind.wrap .i64 (s2 - 1))) (fun y5=>cond (decide (y4.1=y5.1)&&(decide (y4.2=y5.2)&&true)) ((HG a0 s2 (a0.length:Int)).bind fun y7=>BH (fun s11:(List AU)×Int×Int=>Option.bind (HG s11.1 s2 (a0.length:Int)) (fun a1=>cond (decide (s11.2.2 < (a1.length:Int))) ((idx a1 s11.2.2).bind fun a2=>Option.bind (idx a1 (IntKind.wrap .i64 (s11.2.2 - 1))) (fun a3=>cond (!(decide (a2.1=a3.1)&&(decide (a2.2=a3.2)&&true))) ((idx a1 s11.2.2).bind fun a4=>Option.bind (idx s11.1 s11.2.1) (fun a8=>Option.bind (some (s11.1.set (s11.2.1.toNat) a4)) (fun a5=>some (.inl ((a5,IntKind.wrap .i64 (s11.2.1+1),IntKind.wrap .i64 (s11.2.2+1))))))) (some (.inl ((s11.1,s11.2.1,IntKind.wrap .i64 (s11.2.2+1))))))) (Option.map .inr ((HG s11.1 s11.2.1 (s11.1.length:Int)).bind fun a9=>Option.bind (LQ (decide (s11.2.1 < (s11.1.length:Int)))) (fun aa=>Option.bind (some (Np s11.1 s11.2.1 (s11.1.length:Int) (0,0))) (fun a6=>Option.bind (HG a6 0 s11.2.1) (fun a7=>Option.map .inr (some a7)))))))) (a0,s2,1)) (some (.inl (IntKind.wrap .i64 (s2+1)))))) (Option.map .inr (some a0))) 1)
theorem Mp (w:World) (a0:TL Bj)  (r) (hp:Fw (GT.dat a0)=some r):Sp 227 [a0.hdr] w [Af a0] (fun v M=>∃ (x0:TL Bj),v=x0.hdr∧GT.dat x0=r∧M=[Af x0]):=by
 refine Spec.intro func227 rfl ntmps227 rfl ?_;unfold Fw at hp;replace hp:=dd hp;refine s2 ?_;refine By (v:=(TL.hdr (TL.nil Bj 0))) rfl rfl (s8 ?_);refine kp [0,8] ?_;refine Ai rfl (fun q1=>?_) (fun q1=>?_)
 ·replace hp:=Aw q1 hp;refine s5 ?_;obtain rfl:=sj hp;refine s1 ?_;refine AE rfl (Ab rfl) ⟨a0,rfl,rfl,rfl⟩ ms
 replace hp:=Ax q1 hp;refine s7 ?_;refine BW (σ:=Int) GT.dat (fun (a8:Int)=>[(3,.int .i64 a8)]) (fun (a8:Int)=>[]) [(0,_)] [Af a0] 1 hp sb ms ?_;clear hp;rintro a8 x2 hp aw;replace hp:=dd hp;refine kq [0,3] ?_;refine s8 ?_;refine kp [0,3,13] ?_;refine Ai rfl (fun q3=>?_) (fun q3=>?_)
 ·replace hp:=Aw q3 hp;refine s4 ?_;replace hp:=AX hp;obtain ⟨⟨bm,bn⟩,ax,hp⟩:=hp;replace hp:=AX hp;obtain ⟨⟨bo,bp⟩,ay,hp⟩:=hp;refine BX [25] mix kr rfl (s2 ?_);refine Cn (X:=a0) Ar (Aj rfl) (Aj rfl) Cq.h (Ba mm) (fun _=>ax) ?_;refine Bq Ar (Aj rfl) (fun hg=>Bl (Ba mm) (ax).2) (by exact Bp.h) (s3 ?_);refine Cn (X:=a0) Ar (Aj rfl) (Aj rfl) Cq.h (Ba mm) (fun _=>ay) ?_;refine Bq Ar (Aj rfl) (fun hg=>Bl (Ba mm) (ay).2) (by exact Bp.h) ?_;refine Ez Ar (Aj rfl) (Aj rfl) (fun hg=>(Hs FT (EqS.consI AM.h Eu.h rfl rfl (EqS.consI AM.h Eu.h rfl rfl EqS.nil)))) (s12 ?_);refine kp [0,3,25] ?_;refine Ai rfl (fun q6=>?_) (fun q6=>?_)
  ·replace hp:=Aw q6 hp;refine s4 ?_
   revert hp;refine bc fun y7 az hp=>?_
   refine Sh (X:=a0) rfl rfl rfl rfl Cq.h rfl (Ba mm) az (fun X8 b1 b2=>?_)
   have bq:=az
   subst b1;refine s8 ?_;refine AS (M':=hdH a0.hdr a0.hdr::_) (fun _=>oE) ?_;refine BW (σ:=(TL Bj)×Int×Int) GT.dat (fun ((a1,a3,a5):(TL Bj)×Int×Int)=>[(0,a1.hdr),(3,.int .i64 a3),(5,.int .i64 a5)]) (fun ((a1,a3,a5):(TL Bj)×Int×Int)=>[Af a1,hdH a1.hdr a0.hdr]) [(4,_)] [] (a0,a8,1) hp sb ms ?_;clear hp;rintro ⟨a1,a3,a5⟩ br hp b3;replace hp:=dd hp;refine kq [0,3,4,5] ?_;refine Lp (fun _=>oF mm) (fun (hH11:TL.hdr a1=TL.hdr a0)=>?_)
   revert hp;refine bc fun bs ad hp=>?_
   obtain ⟨ab,a2,ak⟩:=oB ad
   have a4:=ad
   subst ak
   have aa:TL.hdr ab=TL.hdr X8:=by rw [a2,b2];exact mA hH11
   rw [← aa];refine s8 ?_;refine kp [0,3,4,5,32] ?_;refine Ai rfl (fun ae=>?_) (fun ae=>?_)
   ·replace hp:=Aw ae hp;refine s4 ?_;replace hp:=AX hp;obtain ⟨⟨a6,a7⟩,a9,hp⟩:=hp;replace hp:=AX hp;obtain ⟨⟨bi,bj⟩,af,hp⟩:=hp;refine BX [44] mix kr rfl (s2 ?_);refine Cn (X:=ab) Ar (Aj rfl) (Aj rfl) Cq.h (Fr (Oc a2 a4) (Ba mm)) (fun _=>a9) ?_;refine Bq Ar (Aj rfl) (fun hg=>Bl (Fr (Oc a2 a4) (Ba mm)) (a9).2) (by exact Bp.h) (s3 ?_);refine Cn (X:=ab) Ar (Aj rfl) (Aj rfl) Cq.h (Fr (Oc a2 a4) (Ba mm)) (fun _=>af) ?_;refine Bq Ar (Aj rfl) (fun hg=>Bl (Fr (Oc a2 a4) (Ba mm)) (af).2) (by exact Bp.h) ?_;refine Ez Ar (Aj rfl) (Aj rfl) (fun hg=>(LR FT (EqS.consI AM.h Eu.h rfl rfl (EqS.consI AM.h Eu.h rfl rfl EqS.nil)))) (s12 ?_);refine kp [0,3,4,5,44] ?_;refine Ai rfl (fun ag=>?_) (fun ag=>?_)
    ·replace hp:=Aw ag hp;refine s6 ?_;replace hp:=AX hp;obtain ⟨bd,b4,hp⟩:=hp;obtain rfl:(a6,a7)=bd:=Option.some.inj (a9.2.symm.trans b4.2);refine Cj (X:=ab) rfl rfl rfl Cq.h (Fr (Oc a2 a4) (Ba mm)) a9 ?_;refine AW rfl rfl (Bl (Fr (Oc a2 a4) (Ba mm)) (a9).2) (by exact Bp.h) ?_;replace hp:=AX hp;obtain ⟨⟨bk,bl⟩,ah,hp⟩:=hp;refine Cj (X:=a1) rfl rfl rfl Cq.h (Ba mm) ah ?_;refine AA (fun _=>CX ah.2 pk) ?_;refine EV (X:=a1) (i:=a3.toNat) (sz:=2) (fo:=0) (n:=2) rfl rfl pk rfl (.inl Bp.h) rfl (Eg rfl) (Nat.le_of_ble_eq_true rfl) ?_;refine AA (M':=Af ((a6,a7):Bj)::_) (fun _=>nQ ((a6,a7):Bj)) ?_
     revert hp;refine bc fun bt b5 hp=>?_
     refine DJ (X:=a1) ((a6,a7):Bj) rfl pk pk b5 (fun be am hhX21=>?_);subst am;try rw [← hhX21]
     try rw [← Di hhX21]
     try rw [← Dj hhX21]
     refine s11 ?_;try rw [aa]
     exact ⟨(be,IntKind.wrap .i64 (a3+1),IntKind.wrap .i64 (a5+1)),sb,(.sub ms),Bo hp⟩
    replace hp:=Ax ag hp;refine s6 ?_;try rw [aa]
    exact ⟨(a1,a3,IntKind.wrap .i64 (a5+1)),sb,(.sub ms),Bo hp⟩
   replace hp:=Ax ae hp;refine BF ?_;replace hp:=Bu hp;obtain ⟨bu,hp,b6⟩:=hp;obtain rfl:=b3 _ b6;refine s4 ?_
   revert hp;refine bc fun bw ai hp=>?_
   refine Sh (X:=a1) rfl rfl rfl rfl Cq.h rfl (Ba mm) ai (fun bf an ao=>?_)
   have ap:=ai
   subst an
   revert hp;refine bc fun bz b7 hp=>?_
   revert hp;refine bc fun c0 b8 hp=>?_
   refine dX (X:=a1) (Y:=bf) ((0,0):Bj) rfl Cq.h rfl rfl rfl pk ao ap b7 b8 (fun b0 aq hhX27=>?_);subst aq;try rw [← hhX27]
   refine s5 ?_
   revert hp;refine bc fun c1 aj hp=>?_
   refine Sh (X:=b0) rfl rfl rfl rfl Cq.h rfl (Ba mm) aj (fun bg ar au=>?_)
   have av:=aj
   subst ar;refine s2 ?_;refine ZN (X:=b0) (Y:=bg) (u:=()) au av rfl pk (fun bh ac hhX30=>?_);try rw [← ac] at hp
   try rw [← ac]
   try rw [← hhX30]
   replace hp:=Bu hp;obtain ⟨c2,hp,b9⟩:=hp;obtain rfl:=aw _ b9;obtain rfl:=sj hp;refine s1 ?_;refine AE rfl (Ab rfl) ⟨bh,rfl,rfl,rfl⟩ ms
  replace hp:=Ax q6 hp;refine s6 ?_;exact ⟨IntKind.wrap .i64 (a8+1),sb,(.sub ms),Bo hp⟩
 replace hp:=Ax q3 hp;refine BF ?_;replace hp:=Bu hp;obtain ⟨c3,hp,bb⟩:=hp;obtain rfl:=aw _ bb;refine s5 ?_;obtain rfl:=sj hp;refine s1 ?_;refine AE rfl (Ab rfl) ⟨a0,rfl,rfl,rfl⟩ ms
end Go.Proofs.SL
