/- The texts of the proof, part 4. -/
import Derived.Test.YthlbpedehajlgaaGreatT3
import Derived.Sort.Grow
import Derived.Sort.EncStr
import Derived.Lib.SlicesCompact
import Derived.Laws.StructEq
import Derived.Test.YthlbpedehajlgaaGreatRows
import Derived.Shelf.SlSortCmp.NoneTotal
import Derived.Ground.SlsfProg
import Derived.Shelf.Sort.Plain
import Derived.Shelf.Slices.In.SortNone
set_option linter.all false
namespace Go.Proofs.SL
open Go
variable {Γ:Cx} {l:BR} {M M' M1 M2 F:List HP} {Q:CX} {K:CW} {w0 w:World} {S0:List Nat} {P:Program}
variable {rest:List Oper} {d:Nat} {ty:TypeId} {pos:String} {af:Array Edge}
section
variable {τ δ:Type} [GT τ δ]
theorem QY {x:Operand} {lo hi:Option Operand} {T e sz by_:Nat} {z:List Value} {X:TL τ} {a b:Int} {r:List δ} (hn:Nat.blt d Γ.n=true) (hx:ev l x=some X.hdr) (hlo:Qr l lo 0=some a) (hhi:Qr l hi ((GT.dat X).length:Int)=some b)
  (ht:elOf Γ.P T=some (e,sz,by_,z)) (hsz:GT.sz τ=sz) (hR:RdT Γ M X) (hr:Gf (GT.dat X) a b=some r)
  (hk:∀ X':TL τ,GT.dat X'=r→X'=slc X a.toNat b.toNat→L Γ rest ((d,X'.hdr)::l) M K) :
  L Γ (⟨some d,.slice T x lo hi none,ty,pos,af,none⟩::rest) l M K:=by
 unfold Gf at hr;split at hr
 ·rename_i hb
  cases hr;rw [BQ,aB1] at hb hhi;obtain ⟨h0,h1,h2⟩:=hb
  have h1':a.toNat≤b.toNat:=by omega
  have h2':b.toNat≤X.els.length:=by omega
  refine Eq hn (v:=(slc X a.toNat b.toNat).hdr) (fun a' w ha hw=>?_) (hk (slc X a.toNat b.toNat) (by rw [BQ,BQ];simp [slc,aEh,aEi]) rfl);have hcap:X.els.length≤X.cap:=(hR w hw.sees).1;unfold elOf at ht;split at ht<;>(try cases ht);rename_i e' het;split at ht<;>(try cases ht);rename_i i' hi';split at ht<;>cases ht;have hlen:((X.els.drop a.toNat).take (b.toNat - a.toNat)).length=b.toNat - a.toNat:=by simp;omega
  have hv:(slc X a.toNat b.toNat).hdr=.slice (if X.cap=a.toNat then X.a else X.a.map (·.add (a.toNat*i'.size))) (b.toNat - a.toNat) (X.cap - a.toNat):=by
   show Value.slice _ ((X.els.drop a.toNat).take (b.toNat - a.toNat)).length _=_;rw [hlen];simp only [slc,hsz]
  rw [hv];have e1:a'.eval x=.slice X.a X.els.length X.cap:=ha.eval hx
  cases lo with
  | none =>
   cases hlo
   cases hi with
   | none =>
    cases hhi;simp only [execOp,aG7,e1,Instr.sliceAt,Instr.slice,underlying,Sem.run_bind,run_program,Result.andThen_ok,het,Instr.sliceBounds,Sem.run_pure,sizeOf,typeInfo,hi'];simp
   | some o =>
    obtain ⟨k,h5⟩:=Hh hhi;have e2:=ha.eval h5;have e4:=fun w=>CA (P:=Γ.P) (k:=k) (code:=.sliceAcap) (show 0≤b by omega) (show b≤((X.cap:Nat):Int) by omega) w;simp [execOp,e1,e2,Instr.sliceAt,Instr.slice,underlying,het,Instr.sliceBounds,sizeOf,typeInfo,hi',e4]
  | some o1 =>
   obtain ⟨k1,h6⟩:=Hh hlo;have e3:=ha.eval h6
   cases hi with
   | none =>
    cases hhi;have e4:=fun w=>CA (P:=Γ.P) (k:=k1) (code:=.sliceB) h0 (show a≤((X.els.length:Nat):Int) by omega) w
    simp [execOp,e1,e3,Instr.sliceAt,Instr.slice,underlying,het,Instr.sliceBounds,sizeOf,typeInfo,hi',e4]
   | some o =>
    obtain ⟨k,h5⟩:=Hh hhi;have e2:=ha.eval h5;have e4:=fun w=>CA (P:=Γ.P) (k:=k) (code:=.sliceAcap) (show 0≤b by omega) (show b≤((X.cap:Nat):Int) by omega) w;have e5:=fun w=>CA (P:=Γ.P) (k:=k1) (code:=.sliceB) h0 (show a≤((b.toNat:Nat):Int) by omega) w;simp [execOp,e1,e2,e3,Instr.sliceAt,Instr.slice,underlying,het,Instr.sliceBounds,sizeOf,typeInfo,hi',e4,e5]
 ·cases hr
theorem Ml {X Y:TL τ} {a b:Int} {r:List δ} (he:Y=slc X a.toNat b.toNat) (hs:Gf (GT.dat X) a b=some r):∀ w S,GT.rd w S X→GT.rd w S Y:=by
 intro w S h;obtain ⟨s0,s1,s2,-⟩:=Nu hs;rw [BQ,aB1] at s2;subst he;exact VI h om om
def YI (X:TL τ) (b:Nat):TL τ:=⟨X.a,X.cap,X.e,X.els.take b,Av (X.els.drop b)++X.tail⟩
theorem jX {X:TL τ} {b:Nat} (hb:b≤X.els.length) (p:Pick (Af X) M M1) (h:Holds w0 S0 M w):Holds w0 S0 (Af (YI X b)::M1) w:=by
 have h1:=KT (h.perm p.perm);have h2:Holds w0 S0 (Ce (X.els.take b)::Be X::M1) w:=rK (zs:=X.els.drop b) (aBa (aBf b X.els).symm) (by apply Pick.there;exact Pick.here _) h1;have h3:=h2.perm (aBy _ _ _);refine KU ?_;show Holds w0 S0 (Be (YI X b)::Ce (X.els.take b)::M1) w;refine h3.reFp (aBa rfl) fun x hx=>?_;rcases aAf.1 hx with rfl | hx
 ·obtain ⟨r1,r2,r3,r4⟩:=h3.prs (Be X) (aA9 ..);have hl:(X.els.take b).length=b:=by rw [aB3,aCa hb]
  refine ⟨by show (X.els.take b).length≤X.cap;omega,r2,fun ha=>⟨by show X.els.take b=[];rw [(r3 ha).1];simp,(r3 ha).2⟩,fun a ha=>?_⟩;obtain ⟨g1,g2,g3,g4⟩:=r4 a ha;refine ⟨g1,g2,?_,?_⟩
  ·show w.heap[a.block]?=some (.cells (Av (X.els.take b)++(Av (X.els.drop b)++X.tail)).toArray X.e (0,0));rw [← aAh,← CG,aBf];exact g3
  ·show (X.els.take b).length*GT.sz τ+(Av (X.els.drop b)++X.tail).length=X.cap*GT.sz τ;rw [aAq,BV,aC1,hl,← g4,← aFl,← aC3];congr 2;omega
 ·exact h3.prs _ (aA4 _ hx)
theorem jY {X Y:TL τ} {a b:Nat} (he:Y=slc X a b) (ha:a=0) (hb:b≤X.els.length):(YI X b).hdr=Y.hdr:=by
 subst ha;subst he;show Value.slice X.a (X.els.take b).length X.cap=Value.slice (if X.cap=0 then X.a else X.a.map (·.add (0*GT.sz τ))) ((X.els.drop 0).take (b - 0)).length (X.cap - 0);have h2:X.a.map (fun q:Addr=>q.add (0*GT.sz τ))=X.a:=by
  cases X.a with
  | none=>rfl
  | some q=>simp [Addr.add]
 rw [h2];simp
theorem dS {c:Code} {X Y:TL τ} {a b:Int} {r':List δ} {u:Unit} (he:Y=slc X a.toNat b.toNat) (hsl:Gf (GT.dat X) a b=some r') (h0:Mj (decide (a=0))=some u) (p:Pick (Af X) M M1)
  (hk:∀ Z:TL τ,GT.dat Z=GT.dat Y→Z.hdr=Y.hdr→W Γ c l (Af Z::M1) Q):W Γ c l M Q:=by
 obtain ⟨s0,s1,s2,-⟩:=Nu hsl;rw [BQ,aB1] at s2;have h0:a=0:=aAr (Qa h0);refine AX (fun w h=>jX (b:=b.toNat) om p h) (hk _ ?_ (jY he om om));rw [he,h0,BQ,BQ];simp [YI,slc]
def NV {δ:Type} (l:List δ) (a b:Int) (z:δ):List δ:=l.take a.toNat++(List.replicate (b.toNat - a.toNat) z++l.drop b.toNat)
theorem Zu (n:Nat) (z0:τ):Av (List.replicate n z0)=(List.replicate n (GT.cells z0)).flatten:=by
 induction n with
 | zero=>rfl
 | succ n ih=>rw [aFf,EZ,ih,aFf,aD3]
theorem jZ [FlatT τ] {x:Operand} {T e sz by_:Nat} {z:List Value} {X Y:TL τ} {a b:Int} {r' r:List δ} {u:Unit} (z0:τ) (hx:ev l x=some Y.hdr) (ht:elOf Γ.P T=some (e,sz,by_,z)) (hz:z.length=sz) (hsz:GT.sz τ=sz) (hz0:GT.cells z0=z)
  (p:Pick (Af X) M M1) (he:Y=slc X a.toNat b.toNat) (hsl:Gf (GT.dat X) a b=some r') (hc:Mj (decide (a < b))=some u) (hr:some (NV (GT.dat X) a b (GT.dat z0))=some r)
  (hk:∀ X':TL τ,GT.dat X'=r→X'.hdr=X.hdr→L Γ rest l (Af X'::M1) K) :
  L Γ (⟨none,.call { callee:=.builtin .clear,args:=#[x],argTypes:=#[T] },ty,pos,af,none⟩::rest) l M K:=by
 have hab:a < b:=aAr (Qa hc);obtain ⟨s0,s1,s2,-⟩:=Nu hsl;rw [BQ,aB1] at s2;have hne:X.els≠[]:=fun h=>by rw [h] at s2;simp at s2;omega
 subst hsz;refine uB (φ:=X.a=some ⟨X.g,0,none⟩∧X.els.length≤X.cap∧X.cap≤maxLen∧X.els.length*GT.sz τ+X.tail.length=X.cap*GT.sz τ)
  (fun w h=>by obtain ⟨f1,f2,f3,f4,_⟩:=XQ ((h.perm p.perm).prs (Af X) (aA9 ..)) hne;exact ⟨f1,f2,f3,f4⟩) (fun ⟨f1,f2,f3,f4⟩=>?_)
 refine Cn (fun w h=>mS hne p h) ?_;have hyh:Y.hdr=.slice (some ⟨X.g,a.toNat*GT.sz τ,none⟩) (b.toNat - a.toNat) (X.cap - a.toNat):=by
  subst he;show Value.slice (if X.cap=a.toNat then X.a else X.a.map (·.add (a.toNat*GT.sz τ))) ((X.els.drop a.toNat).take (b.toNat - a.toNat)).length (X.cap - a.toNat)=_;rw [if_neg om,f1,aB3,aC1,aCa om];simp [DP]
 rw [hyh] at hx;have hcl:(Av X.els++X.tail).length=X.cap*GT.sz τ:=by rw [aAq,BV];exact f4
 have hseg:a.toNat*GT.sz τ+(b.toNat - a.toNat)*GT.sz τ=b.toNat*GT.sz τ:=by rw [← aC3];congr 1;omega
 refine Zr hx ht hz (fun u hu=>by rw [← hz0] at hu;exact GT.one z0 u hu) (.here _) (by rw [hcl,hseg];exact aCg _ om) om ?_;generalize hels:X.els.take a.toNat++(List.replicate (b.toNat - a.toNat) z0++X.els.drop b.toNat)=els';have hlen:els'.length=X.els.length:=by
  rw [← hels];simp only [aAq,aB3,aE8,aC1];omega
 have hcs:(Av X.els++X.tail).take (a.toNat*GT.sz τ)++(List.replicate (b.toNat - a.toNat) z).flatten++(Av X.els++X.tail).drop (a.toNat*GT.sz τ+(b.toNat - a.toNat)*GT.sz τ)=Av els'++X.tail:=by
  rw [hseg,mW _ _ _ om,mX _ _ _ om,← hels,CG,CG,Zu,hz0];simp only [aAh]
 rw [hcs];refine Cn (M':=Af (⟨some ⟨X.g,0,none⟩,X.cap,X.e,els',X.tail⟩:TL τ)::M1) (fun w h=>?_) (hk _ ?_ ?_)
 ·have h2:Holds Γ.w0 Γ.S0 (blk X.g (Av els'++X.tail) X.e::M1) w:=h.sub ⟨[Ce X.els],(aB9 (l₁:=[Ce X.els]) (l₂:=M1)).cons _⟩;have h3:=Lj (xs:=els') h2 (fun x _=>FlatT.flat x);exact XR rfl om f3 (by rw [hlen];exact f4) (by apply Pick.there;exact Pick.here _) (.here _) h3
 ·have:=Option.some.inj hr;rw [← this,BQ,BQ,← hels];simp [NV,aEh,aEi]
 ·show Value.slice (some ⟨X.g,0,none⟩) els'.length X.cap=Value.slice X.a X.els.length X.cap;rw [hlen,f1]
end
variable {Γ:Cx} {ops:Array Oper} {Msh pool pool':List HP} {E:Fl} {rs:List (Option Nat×Rel)} {rest:List Oper} {KD:Gx} {cs0:List Nat}
variable {d:Nat} {ty:TypeId} {pos:String} {af:Array Edge}
theorem WZ {f:Nat} {xs:List Operand} {ats:Array TypeId} {vs:List Value} (R:Rel) (M1:List HP) (hp:List.Perm pool (M1++pool'))
  (hf:IsFn Γ.P f) (hx:OpVs E True xs vs) (hc:∀ w F,Holds Γ.w0 Γ.S0 (M1++F) w→(∀ h,h∈Msh→h∈F)→Spec Γ.P f vs.toArray w M1 R)
  (hk:DV Γ ops Msh pool' ((d,R)::E) ((some d,R)::rs) cs0 rest KD) :
  DV Γ ops Msh pool E rs cs0 (⟨some d,.call { callee:=.value (.func f),args:=xs.toArray,argTypes:=ats },ty,pos,af,none⟩::rest) KD:=by
 refine DV.mk R M1 pool' [] hp rfl ?_ (by rw [Dq];exact hk);intro a w F Mk _ _ hw hm hfa hcf;have hMk:Mk=[]:=hcf;subst hMk;rw [Dq] at hfa;simp only [aAa] at hw ⊢;rw [if_pos (by simp [Region.wanted])];have h2:(#[]++xs.toArray.map a.eval++#[]:Array Value)=vs.toArray:=by
  simp [OpVs.evals (o:=⟨some d,.call { callee:=.value (.func f),args:=xs.toArray,argTypes:=ats },ty,pos,af,none⟩) trivial hfa xs vs hx (fun x hx=>by simp [Op.operands,Call.operands,hx])]
 rw [execOp_call_go,h2,hf.run];exact (hc w F hw hm (Holds.split hw)).mono fun e w'' ⟨v,M',h1,h3,h4⟩=>⟨v,M',h1,h3,Holds.frame hw h4⟩
variable {gd:Option (Nat×Bool)}
section
variable {τ δ κ:Type} [GT τ δ]
theorem LG {key:τ→κ} {enc:κ→Value} (hc:∀ x,GT.cells x=[enc (key x)]) (xs:List τ):Av xs=xs.map fun x=>enc (key x):=by
 induction xs with
 | nil=>rfl
 | cons x xs ih=>rw [EZ,hc,ih];rfl
variable [Inhabited κ]
theorem XS (enc:κ→Value) (ds:List κ) (a b:List Value) (h:a.length=ds.length):Sort.putCells enc 0 ds.toArray (a++b).toArray=(ds.map enc++b).toArray:=by
 apply Array.ext_getElem?;intro j;simp only [Sort.putCells,Array.getElem?_mapIdx,aBm,aDi,aBk,aAn,true_and,aG1];rcases aCf j ds.length with hj | hj
 ·rw [aAp om,aAp (by simpa using hj),aA1 (show j < a.length by omega)];simp [hj,aD4]
 ·rw [aBb om,aBb (by simpa using hj),aB1,h]
  cases b[j - ds.length]? with
  | none=>rfl
  | some v=>simp [Nat.not_lt.2 hj]
theorem kA {w w':World} {key:τ→κ} {enc:κ→Value} (hc:∀ x:τ,GT.cells x=[enc (key x)]) (hfp:∀ x:τ,GT.fp x=[]) (how:∀ (w:World) (x:τ),GT.ow w x) {b cap n:Nat} {e:TypeId} {els ys:List τ} {tail tail':List Value} {D:List κ} {os:Array Obj}
  (hh:Holds w (fps [Af (⟨some ⟨b,0,none⟩,cap,e,els,tail⟩:TL τ)]) [Af (⟨some ⟨b,0,none⟩,cap,e,els,tail⟩:TL τ)] w) (hD:D.length=els.length) (hrow:D.map enc++tail=Av ys++tail') (hy:ys.length≤cap) (hl:ys.length*GT.sz τ+tail'.length=cap*GT.sz τ)
  (hw:w'=Sort.grow (Sort.putRow enc (Sort.ahead w n) b 0 D.toArray) os) :
  Holds w (fps [Af (⟨some ⟨b,0,none⟩,cap,e,els,tail⟩:TL τ)]) [Af (⟨some ⟨b,0,none⟩,cap,e,ys,tail'⟩:TL τ)] w':=by
 have ht:GT.ow w (⟨some ⟨b,0,none⟩,cap,e,els,tail⟩:TL τ):=hh.prs _ (aA9 ..);obtain ⟨h1,h2,h3,h4,h5⟩:=ht;dsimp only at h1 h2 h3 h4;obtain ⟨_,_,hb,_⟩:=h5 _ rfl;dsimp only at hb;have hbl:b < w.heap.size:=(aB7.1 hb).1;have hw':w'.heap[b]?=some (.cells (Av ys++tail').toArray e (0,0)):=by
  subst hw;rw [Sort.heap_grow_old _ _ (by simpa [Sort.putRow,Sort.mapBlock,Sort.ahead] using hbl),← hrow];have hp:=XS enc D (Av els) tail (by rw [LG hc];simp [hD]);simp only [Sort.putRow,Sort.mapBlock,Sort.ahead,aDn,hb,Sort.onCells,if_true,aE3];rw [hp]
 have hfps:∀ xs:List τ,xs.flatMap GT.fp=[]:=fun xs=>aDy.2 fun x _=>hfp x;have efp:fps [Af (⟨some ⟨b,0,none⟩,cap,e,ys,tail'⟩:TL τ)]=fps [Af (⟨some ⟨b,0,none⟩,cap,e,els,tail⟩:TL τ)]:=by
  simp only [BZ];show ([b]++ys.flatMap GT.fp)++fps []=([b]++els.flatMap GT.fp)++fps [];rw [hfps,hfps]
 refine ⟨by subst hw;rfl,⟨by subst hw;rfl,by subst hw;exact aF0 _ _⟩,by subst hw;rfl,by subst hw;simp [Sort.putRow,Sort.mapBlock,Sort.ahead],fun k hk hn=>?_,fun x hx=>?_,by rw [efp];exact hh.nodup,fun k hk=>?_⟩
 ·have hkb:b≠k:=by
   intro e2;subst e2;exact hn (by simp only [BZ];show b∈([b]++els.flatMap GT.fp)++fps [];simp)
  subst hw;rw [Sort.heap_grow_old _ _ (by simpa [Sort.putRow,Sort.mapBlock,Sort.ahead] using hk)];simp [Sort.putRow,Sort.mapBlock,Sort.ahead,aDn,hkb]
 ·obtain rfl:=aAl.1 hx;exact ⟨hy,h2,fun x _=>how _ x,fun h=>(by cases h),fun a ha=>by cases ha;exact ⟨rfl,rfl,hw',hl⟩⟩
 ·rw [efp] at hk;refine ⟨(hh.rng k hk).1,aC6 (hh.rng k hk).2 ?_⟩;subst hw;simp [Sort.putRow,Sort.mapBlock,Sort.ahead]
theorem Tp {w:World} {a0:TL τ} (hh:Holds w (fps [Af a0]) [Af a0] w):(∃ e tail,a0=⟨none,0,e,[],tail⟩)∨∃ b cap e els tail,a0=⟨some ⟨b,0,none⟩,cap,e,els,tail⟩∧els.length≤cap∧els.length*GT.sz τ+tail.length=cap*GT.sz τ∧w.heap[b]?=some (.cells (Av els++tail).toArray e (0,0))∧b < w.heap.size:=by
 have ht:GT.ow w a0:=hh.prs _ (aA9 ..);obtain ⟨h1,h2,h3,h4,h5⟩:=ht;obtain ⟨a,cap,e,els,tail⟩:=a0;dsimp only at h1 h2 h3 h4 h5
 cases a with
 | none =>
  obtain ⟨rfl,rfl⟩:=h4 rfl;exact .inl ⟨e,tail,rfl⟩
 | some ad =>
  obtain ⟨hs,ho,hb,hl⟩:=h5 ad rfl;obtain ⟨b,o,sp⟩:=ad;dsimp only at hs ho hb;subst hs;subst ho;exact .inr ⟨b,cap,e,els,tail,rfl,h1,hl,hb,(aB7.1 hb).1⟩
theorem fK {w:World} {key:τ→κ} {enc:κ→Value} (hc:∀ x:τ,GT.cells x=[enc (key x)]) {b:Nat} {e:TypeId} {els:List τ} {tail:List Value} (hb:w.heap[b]?=some (.cells (Av els++tail).toArray e (0,0))):Sort.Holds enc w b 0 (els.map key).toArray:=by
 intro j hj;have hj':j < els.length:=by simpa using hj
 refine ⟨?_,by simp [World.frozen?,hb]⟩;simp only [World.cell?,hb,aBk];simp only [aE4,aBr,if_false];rw [aBm,aAp (by rw [LG hc];simpa using hj'),LG hc];simp [hj']
theorem kB {P:Program} {f:FuncId} {w:World} {a0:TL τ} {key:τ→κ} {enc:κ→Value} (hc:∀ x:τ,GT.cells x=[enc (key x)]) (hfp:∀ x:τ,GT.fp x=[]) (how:∀ (w:World) (x:τ),GT.ow w x) (ys:List τ) (hlen:ys.length=a0.els.length)
  (h:∀ (b cap:Nat) (w:World),Sort.Holds enc w b 0 (a0.els.map key).toArray→b < w.heap.size→(a0.els.map key).length < 4611686018427387904→Calls P f #[.slice (some ⟨b,0,none⟩) (a0.els.map key).length cap] w fun e w'=>e=.returned (.tuple #[])∧∃ n os,w'=Sort.grow (Sort.putRow enc (Sort.ahead w n) b 0 (ys.map key).toArray) os)
  (h0:∀ (p:Option Addr) (cap:Nat) (w:World),Calls P f #[.slice p 0 cap] w fun e w'=>e=.returned (.tuple #[])∧w'=w) (hsz:a0.els.length≤4294967296) :
  Spec P f #[a0.hdr] w [Af a0] (fun v M=>∃ y0:TL τ,v=.tuple #[]∧GT.dat y0=ys.map GT.dat∧M=[Af y0]∧y0.hdr=a0.hdr):=by
 intro hh;rcases Tp hh with ⟨e,tail,rfl⟩ | ⟨b,cap,e,els,tail,rfl,h1,hl,hb,hbl⟩
 ·have hy:ys=[]:=List.length_eq_zero_iff.1 hlen;subst hy;refine (h0 none 0 w).mono fun e' w' ⟨he,hw⟩=>?_;subst hw;exact ⟨_,_,he,⟨⟨none,0,e,[],tail⟩,rfl,rfl,rfl,rfl⟩,hh⟩
 ·dsimp only at hlen h hsz;have hlm:(els.map key).length=els.length:=aB1 ..;have:=h b cap w (fK hc hb) hbl om;rw [hlm] at this;refine this.mono fun e' w' ⟨he,n,os,hw⟩=>⟨_,_,he,⟨⟨some ⟨b,0,none⟩,cap,e,ys,tail⟩,rfl,rfl,rfl,?_⟩,kA hc hfp how hh (by rw [aB1,hlen]) (by rw [LG hc,aG2];rfl) (by rw [hlen];exact h1) (by rw [hlen];exact hl) hw⟩;show Value.slice _ ys.length _=Value.slice _ els.length _;rw [hlen]
end
def QZ (l:List Int):Option (List Int):=if l.length≤4294967296 then some (l.mergeSort fun x y=>decide (x≤y)) else none
theorem map_id' {α:Type} (l:List α):l.map (fun x=>x)=l:=by simp
theorem fM {P:Program} {f:FuncId} (w:World) (a0:TL Int) (r:List Int) (hp:QZ (GT.dat a0)=some r)
  (h:∀ (b off cap:Nat) (zs:List Int) (w:World),Sort.Holds (Value.int .i64) w b off zs.toArray→b < w.heap.size→zs.length < 4611686018427387904→Calls P f #[.slice (some ⟨b,off,none⟩) zs.length cap] w fun e w'=>e=.returned (.tuple #[])∧∃ n os,w'=Sort.grow (Sort.putRow (Value.int .i64) (Sort.ahead w n) b off (zs.mergeSort fun x y=>decide (x≤y)).toArray) os)
  (h0:∀ (p:Option Addr) (cap:Nat) (w:World),Calls P f #[.slice p 0 cap] w fun e w'=>e=.returned (.tuple #[])∧w'=w) :
  Spec P f #[a0.hdr] w [Af a0] (fun v M=>∃ y0:TL Int,v=.tuple #[]∧GT.dat y0=r∧M=[Af y0]∧y0.hdr=a0.hdr):=by
 unfold QZ at hp;have hd:GT.dat a0=a0.els:=by show a0.els.map (fun x=>x)=_;simp
 rw [hd] at hp;split at hp
 ·rename_i hl;obtain rfl:=sj hp;have:=kB (P:=P) (f:=f) (w:=w) (a0:=a0) (key:=fun x:Int=>x) (enc:=Value.int .i64) (fun _=>rfl) (fun _=>rfl) (fun _ _=>trivial) (a0.els.mergeSort fun x y=>decide (x≤y)) (by simp) (by
   intro b cap w h1 h2 h3;rw [map_id'] at h1 h3 ⊢;rw [map_id'];exact h b 0 cap a0.els w h1 h2 h3) h0 hl
  refine this.mono fun v M ⟨y0,h1,h2,h3⟩=>⟨y0,h1,?_,h3⟩;rw [h2];exact map_id' _
 ·cases hp
def Rb (P:Program) (T:TypeId):Option (List (TypeId×Nat)):=match P.underlying T with
 | some (.struct fs)=>if P.stoodInHeld T||P.eqGuardType P.depth T then none else some ((fs.toList.filter fun f=>decide (f.name≠"_")).map fun f=>(f.type,f.offset))
 | _=>none
inductive EqS (P:Program) (d:Nat) (xs ys:Array Value):List (TypeId×Nat)→Bool→Prop
 | nil:EqS P d xs ys [] true
 | cons {t:TypeId} {o:Nat} {a b:Value} {r r':Bool} {fs:List (TypeId×Nat)} (ht:Ie P t=true) (ha:xs[o]?=some a) (hb:ys[o]?=some b) (he:∀ w,(Op.equalIn d t a b).run P w=.ok r w) (hs:EqS P d xs ys fs r'):EqS P d xs ys ((t,o)::fs) (r&&r')
theorem Tq {P:Program} {T:TypeId} (h:Ie P T=true) {xs:Array Value} {o:Nat} {v:Value} (hx:xs[o]?=some v) (w:World):(part T xs o).run P w=.ok v w:=by
 simp [part,Fx h,hx]
theorem Uf {P:Program} {d:Nat} {xs ys:Array Value}:∀ {fs:List Field} {r:Bool},EqS P d xs ys ((fs.filter fun f=>decide (f.name≠"_")).map fun f=>(f.type,f.offset)) r→∀ w,(Op.eqFields d xs ys fs).run P w=.ok r w
 | [],r,h,w=>by cases h;simp [Op.eqFields]
 | f::fs,r,h,w=>by
  unfold Op.eqFields;by_cases hn:f.name≠"_"
  ·rw [aBp,if_pos (by simp [hn])] at h;rw [if_pos hn]
   cases h with
   | cons ht ha hb he hs =>
    rename_i a b r r';simp only [Sem.run_bind,Tq ht ha,Tq ht hb,Result.andThen_ok,he];cases r
    ·simp
    ·simp only [aAe,aBr,if_false,aBc];exact Uf hs w
  ·rw [aBp,if_neg (by simpa using hn)] at h;rw [if_neg hn];exact Uf h w
theorem Ts {P:Program} {T:TypeId} {sh:List (TypeId×Nat)} (h:Rb P T=some sh):P.underlying T=some (.struct (P.fieldsOf T))∧P.stoodInHeld T=false∧P.eqGuardType P.depth T=false∧sh=((P.fieldsOf T).toList.filter fun f=>decide (f.name≠"_")).map fun f=>(f.type,f.offset):=by
 unfold Rb at h;split at h
 ·rename_i fs hu;have hf:P.fieldsOf T=fs:=by unfold Program.fieldsOf;rw [hu]
  split at h
  ·cases h
  ·rename_i hn;simp only [aBg,not_or,aF1] at hn;exact ⟨by rw [hf];exact hu,hn.1,hn.2,by rw [hf];exact (Option.some.inj h).symm⟩
 ·cases h
theorem Hm {P:Program} {T:TypeId} {x y:Operand} {xs ys:Array Value} {sh:List (TypeId×Nat)} {r:Bool} (h:Rb P T=some sh) (he:EqS P 9999 xs ys sh r):ET P .eql T x y (.agg xs) (.agg ys) (.bool r):=fun w=>by
 obtain ⟨h1,h2,h3,rfl⟩:=Ts h;simp only [Sem.run_bind,run_eqGuard_agg w _ _ _ _ _ _ h3,Result.andThen_ok,run_eql_struct];rw [show (10000:Nat)=9999+1 from rfl,run_equalIn_struct w 9999 T xs ys h1 h2,Uf he w];rfl
theorem Lk {P:Program} {T:TypeId} {x y:Operand} {xs ys:Array Value} {sh:List (TypeId×Nat)} {r:Bool} (h:Rb P T=some sh) (he:EqS P 9999 xs ys sh r):ET P .neq T x y (.agg xs) (.agg ys) (.bool (!r)):=fun w=>by
 obtain ⟨h1,h2,h3,rfl⟩:=Ts h;simp only [Sem.run_bind,run_eqGuard_agg w _ _ _ _ _ _ h3,Result.andThen_ok,run_neq_struct];rw [show (10000:Nat)=9999+1 from rfl,run_equalIn_struct w 9999 T xs ys h1 h2,Uf he w];rfl
theorem Cc {P:Program} {d:Nat} {xs ys:Array Value} {t:TypeId} {o:Nat} {k:IntKind} {a b:Int} {r':Bool} {fs:List (TypeId×Nat)} {k':IntKind} (ht:Ie P t=true) (hu:P.underlying t=some (.int k')) (ha:xs[o]?=some (.int k a)) (hb:ys[o]?=some (.int k b)) (hs:EqS P (d+1) xs ys fs r'):EqS P (d+1) xs ys ((t,o)::fs) (decide (a=b)&&r') :=
 EqS.cons ht ha hb (fun w=>run_equalIn_int w d t k k' a b hu) hs
section
variable {Γ:Cx} {l:BR} {M:List HP} {K:CW} {w0 w:World} {S0:List Nat}
variable {rest:List Oper} {d:Nat} {ty:TypeId} {pos:String} {af:Array Edge}
theorem JA {x y:Operand} {T b fo:Nat} {T':TypeId} {cs cs' r:List Value} {M':List HP} (hx:ev l x=some (.pointer (some ⟨b,fo,none⟩))) (hy:ev l y=some (.agg cs'.toArray)) (hp:Pick (blk b cs T') M M')
  (ht:Jp Γ.P T=some cs'.length) (hl:fo+cs'.length≤cs.length) (h1:∀ v,v∈cs'→v.oneCell'=true) (hr:cs.take fo++cs'++cs.drop (fo+cs'.length)=r) (hk:L Γ rest l (blk b r T'::M') K) :
  L Γ (⟨none,.store T x y,ty,pos,af,none⟩::rest) l M K :=
 Th rfl rfl (fun a w ha hw=>by
  subst hr;have hw':=hw.perm hp.perm;have hh:w.heap[b]?=some (.cells cs.toArray T' (0,0)):=hw'.prs (blk b cs T') (by simp);have hs:=Ga (P:=Γ.P) (fo:=fo) (vs:=cs') (ty:=T) hh hl h1;refine ⟨_,?_,IB (cs':=cs.take fo++cs'++cs.drop (fo+cs'.length)) hw'⟩;simp [execOp,ha.eval hx,ha.eval hy,Instr.storeAt,Instr.sureAddr,storeVar,Ey ht,Value.cells,hs]) hk
end
section
variable {Γ:Cx} {rest:List Oper} {d:Nat} {ty:TypeId} {pos:String} {af:Array Edge}
variable {ops:Array Oper} {Msh pool:List HP} {E:Fl} {rs:List (Option Nat×Rel)} {cs0:List Nat} {KD:List (Option Nat×Rel)→List Nat→List HP→Prop}
def VK (z:List Value) (T:TypeId):Rel:=fun v M=>∃ b,v=.pointer (some ⟨b,0,none⟩)∧M=[blk b z T]
theorem Gl {T:TypeId} {z:List Value} (hz:OY Γ.P T=some z)
  (hk:DV Γ ops Msh pool ((d,VK z T)::E) ((some d,VK z T)::rs) cs0 rest KD) :
  DV Γ ops Msh pool E rs cs0 (⟨some d,.alloc T,ty,pos,af,none⟩::rest) KD:=by
 refine DV.mk (VK z T) [] pool [] (by simp) rfl ?_ (by rw [Dq];exact hk);intro a w F Mk _ _ hw hm hfa hcf;have hMk:Mk=[]:=hcf;subst hMk;rw [Dq] at hfa;simp only [aAa] at hw ⊢;rw [if_pos (by simp [Region.wanted])];have h1:(execOp a.eval ⟨some d,.alloc T,ty,pos,af,none⟩).run Γ.P w=.ok (.value (.pointer (some ⟨w.heap.size,0,none⟩))) (w.alloc (.cells z.toArray T (0,0))):=by
  unfold OY at hz;split at hz<;>(try cases hz);rename_i i hi;split at hz<;>cases hz;rename_i z' hz';simp [execOp,Instr.alloc,zeroValue,typeInfo,hi,hz',newVar,newRow]
 rw [h1];exact ⟨[blk w.heap.size z T],⟨_,rfl,rfl⟩,Holds.new (show Holds Γ.w0 Γ.S0 F w by simpa using hw) rfl⟩
end
instance:Mk Bool:=⟨fun _=>1,fun k _=>decide (((k:Int)).tmod 3=0)⟩
instance:Bm Bool:=⟨1,fun x=>by show 1≤1*(1+0);omega⟩
variable {Γ:Cx} {l:BR} {M M1:List HP} {K:CW} {w0 w:World} {S0:List Nat}
variable {rest:List Oper} {d:Nat} {ty:TypeId} {pos:String} {af:Array Edge}
section
variable {τ δ:Type} [GT τ δ]
theorem dT [FlatT τ] {b cap:Nat} {e:TypeId} {ts:List τ} {tail:List Value} (h1:ts.length≤cap) (h2:cap≤maxLen) (h3:ts.length*GT.sz τ+tail.length=cap*GT.sz τ)
  (h:Holds w0 S0 (blk b (Av ts++tail) e::M) w):Holds w0 S0 (Af (⟨some ⟨b,0,none⟩,cap,e,ts,tail⟩:TL τ)::M) w:=by
 have hb:w.heap[b]?=some (.cells (Av ts++tail).toArray e (0,0)):=h.prs _ (aA9 ..);have ef:fps (Af (⟨some ⟨b,0,none⟩,cap,e,ts,tail⟩:TL τ)::M)=fps (blk b (Av ts++tail) e::M):=by
  simp only [BZ];show ([b]++ts.flatMap GT.fp)++fps M=[b]++fps M;rw [RV ts fun x _=>FlatT.flat x,aBx]
 refine ⟨h.os,h.tape,h.output,h.size,h.old,fun x hx=>?_,by rw [ef];exact h.nodup,fun k hk=>h.rng k (by rw [← ef];exact hk)⟩;rcases aAf.1 hx with rfl | hx
 ·exact ⟨h1,h2,fun x _=>(FlatT.flat x).ow w,fun hn=>(by cases hn),fun a ha=>by cases ha;exact ⟨rfl,rfl,hb,h3⟩⟩
 ·exact h.prs x (aA4 _ hx)
theorem OA [FlatT τ] (ts:List τ) {T e sz by_ n:Nat} {z:List Value} {xs:List (Nat×Operand)} {ps:List (Nat×Value)} {r:List δ} (hn:Nat.blt d Γ.n=true) (hx:evp l xs=some ps) (ht:elOf Γ.P T=some (e,sz,by_,z)) (hz:z.length=sz)
  (hsz:GT.sz τ=sz) (h0:Nat.blt 0 sz=true) (hns:Nat.ble (n*sz) 65536=true) (a0:Nat.blt 0 n=true) (hlen:ts.length=n) (hf:HI (fun i=>some (i*sz,sz)) ((List.range (n*sz)).map fun i=>z.getD (i % sz) undef) ps=some (Av ts))
  (hr:some (ts.map GT.dat)=some r) (hk:∀ X:TL τ,GT.dat X=r→L Γ rest ((d,X.hdr)::l) (Af X::M) K) :
  L Γ (⟨some d,.buildSlice T n xs.toArray,ty,pos,af,none⟩::rest) l M K:=by
 have h0':0 < sz:=aAc h0;have hns':n*sz≤65536:=aAc hns;refine Tm hn hx ht hz h0' hns' (aAc a0) hf fun b=>?_;have hnl:n≤65536:=aCy (aG5 n h0') hns';refine Cn (M':=Af (⟨some ⟨b,0,none⟩,n,e,ts,[]⟩:TL τ)::M) (fun w h=>dT om (by simp only [maxLen];omega) (by rw [hlen];simp) (by rw [aBx];exact h)) ?_;have:=hk ⟨some ⟨b,0,none⟩,n,e,ts,[]⟩ (Option.some.inj hr);have eh:(⟨some ⟨b,0,none⟩,n,e,ts,[]⟩:TL τ).hdr=.slice (some ⟨b,0,none⟩) n n:=by show Value.slice _ ts.length _=_;rw [hlen]
 rw [eh] at this;exact this
def mkP {δ:Type} (by_:Nat) (n:Int) (z:δ):Option (List δ):=if 0≤n∧n≤1048576∧n.toNat*by_≤281474976710656 then some (List.replicate n.toNat z) else none
theorem wV (t0:τ) {x y:Operand} {T e sz by_:Nat} {z:List Value} {k k':IntKind} {n:Int} {r:List δ} (hn:Nat.blt d Γ.n=true) (hx:ev l x=some (.int k n)) (hy:ev l y=some (.int k' n)) (ht:elOf Γ.P T=some (e,sz,by_,z))
  (hz:GT.cells t0=z) (hsz:GT.sz τ=sz) (hf:Flat t0) (hr:mkP by_ n (GT.dat t0)=some r)
  (hk:∀ X:TL τ,GT.dat X=r→L Γ rest ((d,X.hdr)::l) (Af X::M) K) :
  L Γ (⟨some d,.makeSlice T x y,ty,pos,af,none⟩::rest) l M K:=by
 unfold mkP at hr;split at hr
 rotate_left
 ·cases hr
 rename_i hb;obtain ⟨h1,h2,h3⟩:=hb;obtain ⟨m,rfl⟩:=aC7 h1;obtain rfl:=Option.some.inj hr;simp only [aB8] at *;refine tY (n:=m) t0 hn hx hy ht hz hsz hf h3 (by simp only [maxLen];omega) fun g=>?_;have:=hk ⟨some ⟨g,0,none⟩,m,e,List.replicate m t0,[]⟩ (by rw [BQ];simp);have eh:(⟨some ⟨g,0,none⟩,m,e,List.replicate m t0,[]⟩:TL τ).hdr=.slice (some ⟨g,0,none⟩) m m:=by show Value.slice _ (List.replicate m t0).length _=_;rw [aE8]
 rw [eh] at this;exact this
end
def u8P (n:Int):Option UInt8:=if 0≤n∧n < 256 then some (UInt8.ofNat n.toNat) else none
theorem Mm {n:Int} {b:UInt8} (h:u8P n=some b):n=(b.toNat:Int):=by
 unfold u8P at h;split at h
 ·rename_i hb;obtain rfl:=Option.some.inj h;rw [UInt8.toNat_ofNat'];omega
 ·cases h
theorem UF (xs:List UInt8):VH (xs.map fun b=>(b.toNat:Int))=⟨xs.toArray⟩:=by
 have h:∀ (xs:List UInt8) (s:ByteArray),(xs.map fun b=>(b.toNat:Int)).foldl (fun r n=>r.push (UInt8.ofNat n.toNat)) s=⟨s.data++xs.toArray⟩:=by
  intro xs
  induction xs with
  | nil=>intro s;simp
  | cons x xs ih =>
   intro s;rw [aE2,aCq,ih];congr 1;show (s.push _).data++_=_;simp [ByteArray.push]
 unfold VH;rw [h];simp
def Jn (xs:List UInt8):ByteArray:=⟨xs.toArray⟩
theorem SP {P:Program} (w:World) (len cap:Nat):(Conv.bytesToString (.slice none len cap)).run P w=.ok (.string aA0) w:=by
 simp [Conv.bytesToString]
theorem dU {x:Operand} {S T e:Nat} {X:TL UInt8} (hn:Nat.blt d Γ.n=true) (hx:ev l x=some X.hdr) (hS:Γ.P.underlying S=some (.slice e)) (he:Γ.P.underlying e=some (.int .u8)) (hT:Γ.P.underlying T=some .string)
  (hR:RdT Γ M X) (hk:L Γ rest ((d,.string (Jn (GT.dat X)))::l) M K) :
  L Γ (⟨some d,.convert S T x,ty,pos,af,none⟩::rest) l M K:=by
 obtain ⟨a,cap,e',els,tail⟩:=X;have hd:GT.dat (⟨a,cap,e',els,tail⟩:TL UInt8)=els:=map_id' els;rw [hd] at hk
 cases a with
 | none =>
  refine Eq hn (fun a' w ha hw=>?_) hk;have h1:=hR w hw.sees;have a0:els=[]:=h1.2.2.2.1 rfl;subst a0;have h2:=ha.eval hx;simp only [execOp,h2,Sem.run_bind];show ((convert S T (.slice none _ _)).run Γ.P w).andThen _=_;rw [run_convert_bytes_string w S T e _ _ _ hS he hT,SP];rfl
 | some ad =>
  refine Eq hn (fun a' w ha hw=>?_) hk;have h1:=hR w hw.sees;have h2:=ha.eval hx;obtain ⟨h3,h4⟩:=h1.2.2.2.2 ad rfl;simp only [execOp,h2,Sem.run_bind];show ((convert S T (.slice (some ad) els.length cap)).run Γ.P w).andThen _=_;rw [run_convert_bytes_string w S T e _ _ _ hS he hT];have hrow:∀ xs:List UInt8,Av xs=xs.map fun b=>Value.int .u8 (b.toNat:Int):=by
   intro xs
   induction xs with
   | nil=>rfl
   | cons x xs ih=>rw [EZ,ih];rfl
  have hl:(loadCells ad els.length).run Γ.P w=.ok ((els.map fun b=>(b.toNat:Int)).map (Value.int .u8)).toArray w:=by
   by_cases hz:els=[]
   ·subst hz;simp [loadCells,loadCellsFrom]
   ·have hs:=h3 hz;obtain ⟨blk,off,sp⟩:=ad;dsimp only at hs;subst hs;have:=Gk (P:=Γ.P) (g:=blk) (off:=off) (cs:=Av els) (w:=w) (fun j v hv=>by
     have:=h4 j v hv;exact this.1)
    rw [BV,show GT.sz UInt8=1 from rfl,Nat.mul_one,hrow] at this;rw [this,aG2];rfl
  have hb:=run_bytesToString (P:=Γ.P) w ad els.length cap (els.map fun b=>(b.toNat:Int)) hl;have e1:=UF els;unfold VH at e1;rw [hb,e1];rfl
section
variable {Γ:Cx} {rest:List Oper} {d:Nat} {ty:TypeId} {pos:String} {af:Array Edge} {gd:Option (Nat×Bool)}
variable {ops:Array Oper} {Msh pool:List HP} {E:Fl} {rs:List (Option Nat×Rel)} {cs0:List Nat} {KD:List (Option Nat×Rel)→List Nat→List HP→Prop}
end
structure AR where
 l:List Int
instance:GT AR (List Int) where
 sz:=1
 pos:=by decide
 cells _:=[.int .i64 0]
 len _:=rfl
 one _ v hv:=by simp at hv;subst hv;rfl
 rd _ _ _:=True
 fp _:=[]
 ow _ _:=True
 dat t:=t.l
 rd_mono h _:=h
 ow_st _ h:=h
 ow_rd _ _:=trivial
theorem VL (x:AR):GT.dat x=x.l:=rfl
def aC (k:IntKind) (l:List Int):List Value:=l.map (Value.int k)
variable {Γ:Cx} {l:BR} {M:List HP} {K:CW} {w0 w:World} {S0:List Nat} {rest:List Oper} {d:Nat} {ty:TypeId} {pos:String} {af:Array Edge}
section
variable {k:IntKind} {A A':List Int}
end
structure GA (g:Nat) (k:IntKind) (A:List Int) where mk ::
instance (g:Nat) (k:IntKind) (A:List Int):GT (GA g k A) Unit where
 sz:=1
 pos:=by decide
 cells _:=[.int .i64 0]
 len _:=rfl
 one _ v hv:=by simp at hv;subst hv;rfl
 rd w S _:=∀ j v,(aC k A)[j]?=some v→Old w S ⟨g,j,none⟩ v
 fp _:=[]
 ow _ _:=False
 dat _:=()
 rd_mono h hm:=fun j v hv=>hm _ _ (h j v hv)
 ow_st _ h:=h
 ow_rd h _:=h.elim
variable {ops:Array Oper} {Msh pool:List HP} {E:Fl} {rs:List (Option Nat×Rel)} {cs0:List Nat} {KD:List (Option Nat×Rel)→List Nat→List HP→Prop} {gd:Option (Nat×Bool)}
section
variable {k:IntKind} {A A':List Int} {c:Prop}
theorem uK {x:Operand} {T:TypeId} {n:Int} (hg:GC ops E ⟨some d,.unOp .xor T x,ty,pos,af,gd⟩ c)
  (hx:OpV E x c (.int k n)) (hk:DV Γ ops Msh pool ((d,FC c (.int k (bits .xor k (if k.signed then -1 else k.max) n)))::E) ((some d,FC c (.int k (bits .xor k (if k.signed then -1 else k.max) n)))::rs) cs0 rest KD) :
  DV Γ ops Msh pool E rs cs0 (⟨some d,.unOp .xor T x,ty,pos,af,gd⟩::rest) KD :=
 Eg c _ hg (fun a w F hc hf hs=>by
  have e1:=hx.eval hf (by simp [Op.operands]) hc;simp [execOp,e1,Op.unary,intBits_xor]) hk
end
theorem kE {P:Program} {S T e:Nat} {X:TL UInt8} {w:World} (hS:P.underlying S=some (.slice e)) (he:P.underlying e=some (.int .u8)) (hT:P.underlying T=some .string) (h1:GT.rd w [] X) :
  (convert S T X.hdr).run P w=.ok (.string (Jn (GT.dat X))) w:=by
 obtain ⟨a,cap,e',els,tail⟩:=X;have hd:GT.dat (⟨a,cap,e',els,tail⟩:TL UInt8)=els:=map_id' els;rw [hd]
 cases a with
 | none =>
  have a0:els=[]:=h1.2.2.2.1 rfl;subst a0;show (convert S T (.slice none _ _)).run P w=_;rw [run_convert_bytes_string w S T e _ _ _ hS he hT,SP];rfl
 | some ad =>
  obtain ⟨h3,h4⟩:=h1.2.2.2.2 ad rfl;show (convert S T (.slice (some ad) els.length cap)).run P w=_;rw [run_convert_bytes_string w S T e _ _ _ hS he hT];have hrow:∀ xs:List UInt8,Av xs=xs.map fun b=>Value.int .u8 (b.toNat:Int):=by
   intro xs
   induction xs with
   | nil=>rfl
   | cons x xs ih=>rw [EZ,ih];rfl
  have hl:(loadCells ad els.length).run P w=.ok ((els.map fun b=>(b.toNat:Int)).map (Value.int .u8)).toArray w:=by
   by_cases hz:els=[]
   ·subst hz;simp [loadCells,loadCellsFrom]
   ·have hs:=h3 hz;obtain ⟨blk,off,sp⟩:=ad;dsimp only at hs;subst hs;have:=Gk (P:=P) (g:=blk) (off:=off) (cs:=Av els) (w:=w) (fun j v hv=>by
     have:=h4 j v hv;exact this.1)
    rw [BV,show GT.sz UInt8=1 from rfl,Nat.mul_one,hrow] at this;rw [this,aG2];rfl
  have hb:=run_bytesToString (P:=P) w ad els.length cap (els.map fun b=>(b.toNat:Int)) hl;have e1:=UF els;unfold VH at e1;rw [hb,e1];rfl
variable {Γ:Cx} {rest:List Oper} {d:Nat} {ty:TypeId} {pos:String} {af:Array Edge}
variable {ops:Array Oper} {Msh pool:List HP} {E:Fl} {rs:List (Option Nat×Rel)} {cs0:List Nat} {KD:List (Option Nat×Rel)→List Nat→List HP→Prop}
theorem mZ {t S T e:Nat} {r:List UInt8} (hR:E.lookup t=some (HU (τ:=UInt8) r)) (hS:Γ.P.underlying S=some (.slice e)) (he:Γ.P.underlying e=some (.int .u8)) (hT:Γ.P.underlying T=some .string)
  (hlin:IC ops ⟨some d,.convert S T (.tmp t),ty,pos,af,none⟩ [t]=true)
  (hk:DV Γ ops Msh pool ((d,FC True (.string (Jn r)))::Eb [t] E) ((some d,FC True (.string (Jn r)))::rs) ([t]++cs0) rest KD) :
  DV Γ ops Msh pool E rs cs0 (⟨some d,.convert S T (.tmp t),ty,pos,af,none⟩::rest) KD:=by
 refine DV.mk (FC True (.string (Jn r))) [] pool ([t]) (by simp) hlin ?_ hk;intro a w F Mk _ _ hw hm hfa hcf;obtain ⟨Mx,Mk',rfl,hRR,hnil⟩:=hcf;have hnil:Mk'=[]:=hnil;subst hnil;obtain ⟨X,hv,hd,rfl⟩:=hRR _ hR;rw [if_pos (by simp [Region.wanted])];have hw1:Holds Γ.w0 Γ.S0 (Af X::F) w:=by simpa using hw
 have h1:=kE (P:=Γ.P) hS he hT (Ox (aA9 ..) hw1.sees);have hv':a.eval (.tmp t)=X.hdr:=hv;have h3:(execOp a.eval ⟨some d,.convert S T (.tmp t),ty,pos,af,none⟩).run Γ.P w=.ok (.value (.string (Jn r))) w:=by
  rw [← hd];generalize X.hdr=u at *;simp [execOp,hv',h1]
 rw [h3];exact ⟨[],⟨rfl,fun _=>rfl,fun hn=>(hn trivial).elim⟩,by simpa using hw1.sub ⟨[Af X],by
  show List.Perm (Af X::F) (F++[Af X]);exact (aB9 (l₁:=[Af X]) (l₂:=F))⟩⟩
variable {Γ:Cx} {rest:List Oper} {d:Nat} {ty:TypeId} {pos:String} {af:Array Edge}
variable {ops:Array Oper} {Msh pool pool':List HP} {E:Fl} {rs:List (Option Nat×Rel)} {cs0:List Nat} {KD:List (Option Nat×Rel)→List Nat→List HP→Prop}
variable {τ δ:Type} [GT τ δ]
theorem pP [FlatT τ] (ts:List τ) {T e sz by_ n:Nat} {z:List Value} {xs:List (Nat×Operand)} {ps:List (Nat×Value)} {r:List δ} (hx:OpVp E xs ps) (ht:elOf Γ.P T=some (e,sz,by_,z)) (hz:z.length=sz)
  (hsz:GT.sz τ=sz) (h0:Nat.blt 0 sz=true) (hns:Nat.ble (n*sz) 65536=true) (a0:Nat.blt 0 n=true) (hlen:ts.length=n) (hf:HI (fun i=>some (i*sz,sz)) ((List.range (n*sz)).map fun i=>z.getD (i % sz) undef) ps=some (Av ts))
  (hr:some (ts.map GT.dat)=some r) (hk:DV Γ ops Msh pool ((d,HU (τ:=τ) r)::E) ((some d,HU (τ:=τ) r)::rs) cs0 rest KD) :
  DV Γ ops Msh pool E rs cs0 (⟨some d,.buildSlice T n xs.toArray,ty,pos,af,none⟩::rest) KD:=by
 have h0':0 < sz:=aAc h0;have hns':n*sz≤65536:=aAc hns;have hnl:n≤65536:=aCy (aG5 n h0') hns';refine DV.mk (HU (τ:=τ) r) [] pool [] (by simp) rfl ?_ (by rw [Dq];exact hk);intro a w F Mk _ _ hw hm hfa hcf;have hMk:Mk=[]:=hcf;subst hMk;rw [Dq] at hfa;simp only [aAa] at hw ⊢;rw [if_pos (by simp [Region.wanted])];have h1:xs.toArray.map (fun (i,x)=>(i,a.eval x))=ps.toArray:=by
  have:=OpVp.evals (o:=⟨some d,.buildSlice T n xs.toArray,ty,pos,af,none⟩) hfa xs ps hx (fun x hx=>by simp [Op.operands];exact ⟨_,hx⟩);rw [← this];simp
 have hrun:=Mg (P:=Γ.P) (w:=w) ht hz h0' hns' (aAc a0) hf;have h3:(execOp a.eval ⟨some d,.buildSlice T n xs.toArray,ty,pos,af,none⟩).run Γ.P w=.ok (.value (.slice (some ⟨w.heap.size,0,none⟩) n n)) (w.alloc (.cells (Av ts).toArray e (0,0))):=by
  simp only [execOp,h1];simp [hrun]
 rw [h3];have eh:(⟨some ⟨w.heap.size,0,none⟩,n,e,ts,[]⟩:TL τ).hdr=.slice (some ⟨w.heap.size,0,none⟩) n n:=by show Value.slice _ ts.length _=_;rw [hlen]
 have hw2:Holds Γ.w0 Γ.S0 F w:=by simpa using hw
 refine ⟨[Af (⟨some ⟨w.heap.size,0,none⟩,n,e,ts,[]⟩:TL τ)],⟨_,eh.symm,Option.some.inj hr,rfl⟩,?_⟩;have h5:=hw2.new (b:=w.heap.size) (cs:=Av ts) (T:=e) rfl;exact dT om (by simp only [maxLen];omega) (by rw [hlen];simp) (by rw [aBx];exact h5)
variable {Γ:Cx} {rest:List Oper} {d:Nat} {ty:TypeId} {pos:String} {af:Array Edge} {l:BR} {M:List HP} {K:CW}
def cxs (ns:List Int):List (Nat×Operand):=ns.zipIdx.map fun q=>(q.2,.const (.int .i64 q.1))
def cps (ns:List Int):List (Nat×Value):=ns.zipIdx.map fun q=>(q.2,.int .i64 q.1)
theorem uL (ns:List Int) {T e by_ n:Nat} {z:List Value} {o:Op} (hn:Nat.blt d Γ.n=true) (ho:o=.buildSlice T n (cxs ns).toArray) (hx:evp l (cxs ns)=some (cps ns)) (ht:elOf Γ.P T=some (e,1,by_,z)) (hz:z.length=1)
  (hns:Nat.ble (n*1) 65536=true) (a0:Nat.blt 0 n=true) (hlen:ns.length=n) (hf:HI (fun i=>some (i*1,1)) ((List.range (n*1)).map fun i=>z.getD (i % 1) undef) (cps ns)=some (Av ns))
  (hk:∀ X:TL Int,GT.dat X=ns→L Γ rest ((d,X.hdr)::l) (Af X::M) K) :
  L Γ (⟨some d,o,ty,pos,af,none⟩::rest) l M K:=by
 subst ho;exact OA (τ:=Int) ns hn hx ht hz rfl rfl hns a0 hlen hf (aC5 some (show ns.map (fun x:Int=>x)=ns from List.map_id' ns)) hk
variable {Γ:Cx} {rest:List Oper} {d:Nat} {ty:TypeId} {pos:String} {af:Array Edge} {gd:Option (Nat×Bool)}
variable {ops:Array Oper} {Msh pool:List HP} {E:Fl} {rs:List (Option Nat×Rel)} {cs0:List Nat} {KD:Gx}
def GR (c:Prop) (R:Rel):Rel:=fun v M=>(c→R v M)∧(¬ c→v=undef∧M=[])
theorem nA {f:Nat} {xs:List Operand} {ats:Array TypeId} {vs:List Value} {c:Prop} (R:Rel)
  (hg:GC ops E ⟨some d,.call { callee:=.value (.func f),args:=xs.toArray,argTypes:=ats },ty,pos,af,gd⟩ c)
  (hf:IsFn Γ.P f) (hx:OpVs E c xs vs) (hc:c→∀ w F,Holds Γ.w0 Γ.S0 F w→(∀ h,h∈Msh→h∈F)→Spec Γ.P f vs.toArray w [] R)
  (hk:DV Γ ops Msh pool ((d,GR c R)::E) ((some d,GR c R)::rs) cs0 rest KD) :
  DV Γ ops Msh pool E rs cs0 (⟨some d,.call { callee:=.value (.func f),args:=xs.toArray,argTypes:=ats },ty,pos,af,gd⟩::rest) KD:=by
 refine DV.mk (GR c R) [] pool [] (by simp) rfl ?_ (by rw [Dq];exact hk);intro a w F Mk _ _ hw hm hfa hcf;have hMk:Mk=[]:=hcf;subst hMk;rw [Dq] at hfa;simp only [aAa] at hw ⊢;have hgc:=hg a F hfa;split
 ·rename_i hwt;have hcc:=hgc.1 hwt;have hw':Holds Γ.w0 Γ.S0 F w:=by simpa using hw
  have h2:(#[]++xs.toArray.map a.eval++#[]:Array Value)=vs.toArray:=by
   simp [OpVs.evals (o:=⟨some d,.call { callee:=.value (.func f),args:=xs.toArray,argTypes:=ats },ty,pos,af,gd⟩) hcc hfa xs vs hx (fun x hx=>by simp [Op.operands,Call.operands,hx])]
  rw [execOp_call_go,h2,hf.run];exact (hc hcc w F hw' hm (Holds.split (M1:=[]) (M2:=F) hw)).mono fun e w'' ⟨v,M',h1,h3,h4⟩=>⟨v,M',h1,⟨fun _=>h3,fun hn=>(hn hcc).elim⟩,Holds.frame (M1:=[]) (M2:=F) hw h4⟩
 ·rename_i hwt;exact ⟨fun hc=>(hwt (hgc.2 hc)).elim,fun _=>⟨rfl,rfl⟩⟩
theorem Zv {f:Nat} {xs:List Operand} {ats:Array TypeId} (Rs:List Rel) {c:Prop} {x:Value}
  (hg:GC ops E ⟨some d,.call { callee:=.value (.func f),args:=xs.toArray,argTypes:=ats },ty,pos,af,gd⟩ c)
  (hf:IsFn Γ.P f) (hx:OpRs E xs Rs) (hc:c→∀ w F vs,Holds Γ.w0 Γ.S0 F w→(∀ h,h∈Msh→h∈F)→mF F Rs vs→Spec Γ.P f vs.toArray w [] (IsV x))
  (hk:DV Γ ops Msh pool ((d,FC c x)::E) ((some d,FC c x)::rs) cs0 rest KD) :
  DV Γ ops Msh pool E rs cs0 (⟨some d,.call { callee:=.value (.func f),args:=xs.toArray,argTypes:=ats },ty,pos,af,gd⟩::rest) KD:=by
 refine DV.mk (FC c x) [] pool [] (by simp) rfl ?_ (by rw [Dq];exact hk);intro a w F Mk _ _ hw hm hfa hcf;have hMk:Mk=[]:=hcf;subst hMk;rw [Dq] at hfa;simp only [aAa] at hw ⊢;have hgc:=hg a F hfa;split
 ·rename_i hwt;have hcc:=hgc.1 hwt;have hw':Holds Γ.w0 Γ.S0 F w:=by simpa using hw
  have h1:=OpRs.evals (o:=⟨some d,.call { callee:=.value (.func f),args:=xs.toArray,argTypes:=ats },ty,pos,af,gd⟩) hfa xs Rs hx (fun x hx=>by simp [Op.operands,Call.operands,hx]);have h2:(#[]++xs.toArray.map a.eval++#[]:Array Value)=(xs.map a.eval).toArray:=by simp
  rw [execOp_call_go,h2,hf.run];exact (hc hcc w F _ hw' hm h1 (Holds.split (M1:=[]) (M2:=F) hw)).mono fun e w'' ⟨v,M',h1,h3,h4⟩=>⟨v,M',h1,⟨h3.2,fun _=>h3.1,fun hn=>(hn hcc).elim⟩,Holds.frame (M1:=[]) (M2:=F) hw h4⟩
 ·rename_i hwt;exact ⟨rfl,fun hc=>(hwt (hgc.2 hc)).elim,fun _=>rfl⟩
section
variable {Γ:Cx} {rest:List Oper} {d:Nat} {ty:TypeId} {pos:String} {af:Array Edge}
variable {ops:Array Oper} {Msh pool:List HP} {E:Fl} {rs:List (Option Nat×Rel)} {cs0:List Nat} {KD:Gx}
def uM {τ δ:Type} [GT τ δ] (r:δ):Rel:=fun v M=>∃ x:τ,v=.agg (GT.cells x).toArray∧GT.dat x=r∧M=[Af x]
def uN {τ δ:Type} [GT τ δ] (T:TypeId) (r:δ):Rel:=fun v M=>∃ (b:Nat) (x:τ),v=.pointer (some ⟨b,0,none⟩)∧GT.dat x=r∧M=[blk b (GT.cells x) T,Af x]
theorem rM {t:Nat} {R:Rel} (hR:E.lookup t=some R)
  (hlin:IC ops ⟨some d,.move (.tmp t),ty,pos,af,none⟩ [t]=true)
  (hk:DV Γ ops Msh pool ((d,R)::Eb [t] E) ((some d,R)::rs) ([t]++cs0) rest KD) :
  DV Γ ops Msh pool E rs cs0 (⟨some d,.move (.tmp t),ty,pos,af,none⟩::rest) KD:=by
 refine DV.mk R [] pool [t] (by simp) hlin ?_ hk;intro a w F Mk _ _ hw hm hfa hcf;obtain ⟨Mx,Mk',rfl,hRR,hnil⟩:=hcf;have hnil:Mk'=[]:=hnil;subst hnil;have h1:=hRR _ hR;rw [if_pos (by simp [Region.wanted])];have h2:(execOp a.eval ⟨some d,.move (.tmp t),ty,pos,af,none⟩).run Γ.P w=.ok (.value (a.tmps.getD t undef)) w:=by
  simp [execOp,Act.eval]
 rw [h2];exact ⟨Mx,h1,by simpa using hw⟩
theorem fN {t i:Nat} {R:Rel} (R':Rel) (hR:E.lookup t=some R) (hh:∀ v M,R v M→∃ vs u,v=.tuple vs∧vs[i]?=some u∧R' u M)
  (hlin:IC ops ⟨some d,.extract (.tmp t) i,ty,pos,af,none⟩ [t]=true)
  (hk:DV Γ ops Msh pool ((d,R')::Eb [t] E) ((some d,R')::rs) ([t]++cs0) rest KD) :
  DV Γ ops Msh pool E rs cs0 (⟨some d,.extract (.tmp t) i,ty,pos,af,none⟩::rest) KD:=by
 refine DV.mk R' [] pool [t] (by simp) hlin ?_ hk;intro a w F Mk _ _ hw hm hfa hcf;obtain ⟨Mx,Mk',rfl,hRR,hnil⟩:=hcf;have hnil:Mk'=[]:=hnil;subst hnil;obtain ⟨vs,u,hv,hu,h1⟩:=hh _ _ (hRR _ hR);rw [if_pos (by simp [Region.wanted])];have e1:a.eval (.tmp t)=.tuple vs:=hv;have h2:(execOp a.eval ⟨some d,.extract (.tmp t) i,ty,pos,af,none⟩).run Γ.P w=.ok (.value u) w:=by
  simp [execOp,e1,Instr.extract,hu]
 rw [h2];exact ⟨Mx,h1,by simpa using hw⟩
theorem fO {t i:Nat} {R:Rel} (u:Value) (hR:E.lookup t=some R) (hh:∀ v M,R v M→∃ vs,v=.tuple vs∧vs[i]?=some u)
  (hk:DV Γ ops Msh pool ((d,FC True u)::E) ((some d,FC True u)::rs) cs0 rest KD) :
  DV Γ ops Msh pool E rs cs0 (⟨some d,.extract (.tmp t) i,ty,pos,af,none⟩::rest) KD :=
 Eg True u Ai (fun a w F _ hf _=>by
  obtain ⟨M,h1,_⟩:=hf t R (aB2 _ (by simp [Op.operands])) hR;obtain ⟨vs,hv,hu⟩:=hh _ _ h1;have e1:a.eval (.tmp t)=.tuple vs:=hv;simp [execOp,e1,Instr.extract,hu]) hk
theorem nB {τ δ:Type} [GT τ δ] {p x:Nat} {T:TypeId} {T':TypeId} {z:List Value} {r:δ} (hp:E.lookup p=some (VK z T')) (hx:E.lookup x=some (uM (τ:=τ) r))
  (ht:Jp Γ.P T=some (GT.sz τ)) (hl:z.length=GT.sz τ)
  (hlin:IC ops ⟨none,.store T (.tmp p) (.tmp x),ty,pos,af,none⟩ [p,x]=true)
  (hk:DV Γ ops Msh pool (Eb [p,x] E) ((some p,uN (τ:=τ) T' r)::rs) ([x]++cs0) rest KD) :
  DV Γ ops Msh pool E rs cs0 (⟨none,.store T (.tmp p) (.tmp x),ty,pos,af,none⟩::rest) KD:=by
 refine DV.mkK (uN (τ:=τ) T' r) [] pool p [x] rfl (by simp) hlin ?_ hk;intro a w F Mk _ _ hw hm hfa hcf;obtain ⟨M1,Mk',rfl,hR1,M2,Mk'',rfl,hR2,hnil⟩:=hcf;have hnil:Mk''=[]:=hnil;subst hnil;obtain ⟨b,hb,rfl⟩:=hR1 _ hp;obtain ⟨y,hv,hd,rfl⟩:=hR2 _ hx;rw [if_pos (by simp [Region.wanted])];have e1:a.eval (.tmp p)=.pointer (some ⟨b,0,none⟩):=hb;have e2:a.eval (.tmp x)=.agg (GT.cells y).toArray:=hv;have hw':Holds Γ.w0 Γ.S0 (blk b z T'::(Af y::F)) w:=by simpa using hw
 have hh:w.heap[b]?=some (.cells z.toArray T' (0,0)):=hw'.prs (blk b z T') (by simp);have hly:(GT.cells y).length=GT.sz τ:=GT.len y;have hs:=Ga (P:=Γ.P) (fo:=0) (vs:=GT.cells y) (ty:=T) hh om (fun v hv=>GT.one y v hv);have e:(z.take 0++GT.cells y++z.drop (0+(GT.cells y).length))=GT.cells y:=by simp [hl,hly]
 rw [e] at hs;have hrun:(execOp a.eval ⟨none,.store T (.tmp p) (.tmp x),ty,pos,af,none⟩).run Γ.P w=.ok .skip (w.setRow b (GT.cells y).toArray):=by
  simp [execOp,e1,e2,Instr.storeAt,Instr.sureAddr,storeVar,Ey ht,Value.cells,hs,hly]
 rw [hrun];exact ⟨[blk b (GT.cells y) T',Af y],⟨b,y,hb,hd,rfl⟩,by simpa using IB (cs':=GT.cells y) hw'⟩
end
theorem rN {α β:Type} [Inhabited α] {g:Bool} {o:Option α} {k:α→Option β} {r:β} (h:gb g o k=some r):∃ y,(g=true→o=some y)∧(g=false→y=default)∧k y=some r:=by
 cases g with
 | true=>obtain ⟨y,h1,h2⟩:=aDz.1 h;exact ⟨y,fun _=>h1,(fun hh=>(by cases hh)),h2⟩
 | false=>exact ⟨default,(fun hh=>(by cases hh)),fun _=>rfl,h⟩
section
variable {Γ:Cx} {rest:List Oper} {d:Nat} {ty:TypeId} {pos:String} {af:Array Edge} {gd:Option (Nat×Bool)}
variable {ops:Array Oper} {Msh pool:List HP} {E:Fl} {rs:List (Option Nat×Rel)} {cs0:List Nat} {KD:Gx}
theorem wW {x y:Operand} {ats:Array TypeId} {k:IntKind} {a b:Int} {c:Prop} (hg:GC ops E ⟨some d,.call { callee:=.builtin .max,args:=#[x,y],argTypes:=ats },ty,pos,af,gd⟩ c)
  (hx:OpV E x c (.int k a)) (hy:OpV E y c (.int k b))
  (hk:DV Γ ops Msh pool ((d,FC c (.int k (if a < b then b else a)))::E) ((some d,FC c (.int k (if a < b then b else a)))::rs) cs0 rest KD) :
  DV Γ ops Msh pool E rs cs0 (⟨some d,.call { callee:=.builtin .max,args:=#[x,y],argTypes:=ats },ty,pos,af,gd⟩::rest) KD :=
 Eg c _ hg (fun a' w F hc hf _=>by
  have e1:=hx.eval hf (by simp [Op.operands,Call.operands]) hc;have e2:=hy.eval hf (by simp [Op.operands,Call.operands]) hc;simp [execOp,resolve,invoke,builtin,e1,e2,run_max_int2]) hk
theorem uO {τ δ:Type} [Inhabited τ] [GT τ δ] {x:Operand} {lo hi:Option Operand} {T e sz by_:Nat} {z:List Value} {X:TL τ} {a b:Int} {r:List δ} {cc:Prop} (hg:GC ops E ⟨some d,.slice T x lo hi none,ty,pos,af,gd⟩ cc)
  (hx:OpV E x cc X.hdr) (hlo:optD E lo cc 0 a) (hhi:optD E hi cc ((GT.dat X).length:Int) b)
  (ht:elOf Γ.P T=some (e,sz,by_,z)) (hsz:GT.sz τ=sz) (hR:RdT Γ Msh X) (hr:cc→Gf (GT.dat X) a b=some r) (hn:¬ cc→r=[])
  (hk:∀ X':TL τ,GT.dat X'=r→(∀ w S,GT.rd w S X→GT.rd w S X')→DV Γ ops Msh pool ((d,FC cc X'.hdr)::E) ((some d,FC cc X'.hdr)::rs) cs0 rest KD) :
  DV Γ ops Msh pool E rs cs0 (⟨some d,.slice T x lo hi none,ty,pos,af,gd⟩::rest) KD:=by
 by_cases hcc:cc
 ·have hr:=hr hcc;unfold Gf at hr;split at hr
  ·rename_i hb
   cases hr;rw [BQ,aB1] at hb;rw [BQ,aB1] at hhi;obtain ⟨h0,h1,h2⟩:=hb
   have h1':a.toNat≤b.toNat:=by omega
   have h2':b.toNat≤X.els.length:=by omega
   refine Eg cc (slc X a.toNat b.toNat).hdr hg (fun a' w F hc hf hs=>?_) (hk (slc X a.toNat b.toNat) (by rw [BQ,BQ];simp [slc,aEh,aEi]) (fun w S h=>VI h h1' h2'));have hcap:X.els.length≤X.cap:=(hR w hs).1;unfold elOf at ht;split at ht<;>(try cases ht);rename_i e' het;split at ht<;>(try cases ht);rename_i i' hi';split at ht<;>cases ht;have hlen:((X.els.drop a.toNat).take (b.toNat - a.toNat)).length=b.toNat - a.toNat:=by simp;omega
   have hv:(slc X a.toNat b.toNat).hdr=.slice (if X.cap=a.toNat then X.a else X.a.map (·.add (a.toNat*i'.size))) (b.toNat - a.toNat) (X.cap - a.toNat):=by
    show Value.slice _ ((X.els.drop a.toNat).take (b.toNat - a.toNat)).length _=_;rw [hlen];simp only [slc,hsz]
   rw [hv];have e1:a'.eval x=.slice X.a X.els.length X.cap:=hx.eval hf (by simp [Op.operands]) hc
   cases lo with
   | none =>
    cases hlo
    cases hi with
    | none =>
     cases hhi;simp only [execOp,aG7,e1,Instr.sliceAt,Instr.slice,underlying,Sem.run_bind,run_program,Result.andThen_ok,het,Instr.sliceBounds,Sem.run_pure,sizeOf,typeInfo,hi'];simp
    | some o =>
     obtain ⟨k,h5⟩:=hhi;have e2:=h5.eval hf (by simp [Op.operands]) hc;have e4:=fun w=>CA (P:=Γ.P) (k:=k) (code:=.sliceAcap) (show 0≤b by omega) (show b≤((X.cap:Nat):Int) by omega) w;simp [execOp,e1,e2,Instr.sliceAt,Instr.slice,underlying,het,Instr.sliceBounds,sizeOf,typeInfo,hi',e4]
   | some o1 =>
    obtain ⟨k1,h6⟩:=hlo;have e3:=h6.eval hf (by simp [Op.operands]) hc
    cases hi with
    | none =>
     cases hhi;have e5:=fun w=>CA (P:=Γ.P) (k:=k1) (code:=.sliceB) (show 0≤a by omega) (show a≤((X.els.length:Nat):Int) by omega) w
     simp [execOp,e1,e3,Instr.sliceAt,Instr.slice,underlying,het,Instr.sliceBounds,sizeOf,typeInfo,hi',e5]
    | some o =>
     obtain ⟨k,h5⟩:=hhi;have e2:=h5.eval hf (by simp [Op.operands]) hc;have e4:=fun w=>CA (P:=Γ.P) (k:=k) (code:=.sliceAcap) (show 0≤b by omega) (show b≤((X.cap:Nat):Int) by omega) w;have e5:=fun w=>CA (P:=Γ.P) (k:=k1) (code:=.sliceB) (show 0≤a by omega) (show a≤((b.toNat:Nat):Int) by omega) w;simp [execOp,e1,e2,e3,Instr.sliceAt,Instr.slice,underlying,het,Instr.sliceBounds,sizeOf,typeInfo,hi',e4,e5]
  ·cases hr
 ·refine Eg cc (slc X 0 0).hdr hg (fun a' w F hc hf hs=>(hcc hc).elim) (hk (slc X 0 0) ?_ (fun w S h=>VI h (aAu _) (aAn _)));rw [hn hcc,BQ];simp [slc]
end
section
variable {Γ:Cx} {l:BR} {M M1 M2 F:List HP} {Q:CX} {K:CW} {w0 w:World} {S0:List Nat}
variable {rest:List Oper} {d:Nat} {ty:TypeId} {pos:String} {af:Array Edge}
variable {τ δ:Type} [GT τ δ]
end
section
variable {Γ:Cx} {rest:List Oper} {d:Nat} {ty:TypeId} {pos:String} {af:Array Edge}
variable {ops:Array Oper} {Msh pool pool':List HP} {E:Fl} {rs:List (Option Nat×Rel)} {cs0:List Nat} {KD:Gx}
variable {τ τ' δ δ':Type} [GT τ δ] [GT τ' δ']
end
section
variable {Γ:Cx} {rest:List Oper} {d:Nat} {ty:TypeId} {pos:String} {af:Array Edge}
variable {ops:Array Oper} {Msh pool pool':List HP} {E:Fl} {rs:List (Option Nat×Rel)} {cs0:List Nat} {KD:Gx}
variable {τ δ:Type} [GT τ δ]
theorem VM (τ:Type) {δ:Type} [GT τ δ] {T e sz by_:Nat} {z:List Value} (ht:elOf Γ.P T=some (e,sz,by_,z))
  (hk:DV Γ ops Msh pool ((d,HU (τ:=τ) [])::E) ((some d,HU (τ:=τ) [])::rs) cs0 rest KD) :
  DV Γ ops Msh pool E rs cs0 (⟨some d,.buildSlice T 0 #[],ty,pos,af,none⟩::rest) KD:=by
 refine DV.mk (HU (τ:=τ) []) [] pool [] (by simp) rfl ?_ (by rw [Dq];exact hk);intro a w F Mk _ _ hw hm hfa hcf;have hMk:Mk=[]:=hcf;subst hMk;rw [Dq] at hfa;rw [if_pos (by simp [Region.wanted])];have hw0:Holds Γ.w0 Γ.S0 F w:=by simpa using hw
 have h1:=PZ ht w;have h2:(execOp a.eval ⟨some d,.buildSlice T 0 #[],ty,pos,af,none⟩).run Γ.P w=.ok (.value (.slice (some ⟨w.heap.size,0,none⟩) 0 0)) (w.alloc (.cells ([]:List Value).toArray e (0,0))):=by
  simp only [execOp];simp [h1]
 rw [h2];refine ⟨[Af (⟨some ⟨w.heap.size,0,none⟩,0,e,[],[]⟩:TL τ)],⟨_,rfl,rfl,rfl⟩,?_⟩;have h3:=hw0.new (cs:=[]) (T:=e) (b:=w.heap.size) rfl;refine h3.reFp (aBa rfl) fun x hx=>?_;rcases aAf.1 hx with rfl | hx
 ·have hp:=h3.prs (blk w.heap.size [] e) (aA9 ..);refine ⟨aAu _,by simp [maxLen],fun x hx=>(by cases hx),fun ha=>(by cases ha),fun a ha=>?_⟩;cases ha;exact ⟨rfl,rfl,hp,by simp⟩
 ·exact h3.prs x (aA4 _ hx)
theorem Ug [FlatT τ] {x:Operand} {t T e sz by_:Nat} {z:List Value} {Y:TL τ} {ra r:List δ}
  (hs:E.lookup t=some (HU (τ:=τ) ra)) (hx:OpV (Eb [t] E) x True Y.hdr) (ht:elOf Γ.P T=some (e,sz,by_,z)) (hsz:GT.sz τ=sz) (hz:z.length=sz)
  (hsrc:RdT Γ Msh Y) (hr:Cj ra (GT.dat Y)=some r) (hb:by_≤32768)
  (hlin:IC ops ⟨some d,.call { callee:=.builtin .append,args:=#[.tmp t,x],argTypes:=#[T,T] },ty,pos,af,none⟩ [t]=true)
  (hk:DV Γ ops Msh pool ((d,HU (τ:=τ) r)::Eb [t] E) ((some d,HU (τ:=τ) r)::rs) ([t]++cs0) rest KD) :
  DV Γ ops Msh pool E rs cs0 (⟨some d,.call { callee:=.builtin .append,args:=#[.tmp t,x],argTypes:=#[T,T] },ty,pos,af,none⟩::rest) KD:=by
 refine DV.mk (HU (τ:=τ) r) [] pool [t] (by simp) hlin ?_ hk;intro a w F Mk _ _ hw hm hfa hcf;obtain ⟨Mx,Mk',rfl,hR,hnil⟩:=hcf;have hnil:Mk'=[]:=hnil;subst hnil;obtain ⟨X,hv,hd,rfl⟩:=hR _ hs;subst hd;rw [if_pos (by simp [Region.wanted])];have e1:a.eval (.tmp t)=X.hdr:=hv;have e2:=hx.eval hfa (by simp [Op.operands,Call.operands]) trivial;have hw1:Holds Γ.w0 Γ.S0 (Af X::F) w:=by simpa using hw
 obtain ⟨hl,rfl⟩:=HJ hr;simp only [BQ,aB1] at hl;have hY:=hsrc w (hw1.seesSub fun h hh=>aA4 _ (hm h hh))
 cases hya:Y.a with
 | some ad =>
  have hsp:Y.els≠[]→ad.spot=none:=fun hne=>(hY.2.2.2.2 ad hya).1 hne;have hsrc2:∀ j v,(Av Y.els)[j]?=some v→w.cell? (ad.add j)=some v:=fun j v hv=>by
   have hne:Y.els≠[]:=fun e=>by rw [e] at hv;simp [Av] at hv
   obtain ⟨b,o,sp⟩:=ad;have h3:sp=none:=hsp hne;subst h3;rw [DP];exact ((hY.2.2.2.2 _ hya).2 j v hv).1
  obtain ⟨a',c',e',tl,w',h1,h2⟩:=Kq (P:=Γ.P) (c:=Y.cap) ht hsz hz (KT hw1) hsrc2 hl hb ty;have h1':(Builtin.append_ #[T,T] ty #[X.hdr,Y.hdr]).run Γ.P w=.ok (TL.hdr (⟨a',c',e',X.els++Y.els,tl⟩:TL τ)) w':=by
   have:Y.hdr=.slice (some ad) Y.els.length Y.cap:=by show Value.slice Y.a _ _=_;rw [hya]
   rw [this];exact h1
  have h3:(execOp a.eval ⟨some d,.call { callee:=.builtin .append,args:=#[.tmp t,x],argTypes:=#[T,T] },ty,pos,af,none⟩).run Γ.P w=.ok (.value (TL.hdr (⟨a',c',e',X.els++Y.els,tl⟩:TL τ))) w':=by
   generalize TL.hdr (⟨a',c',e',X.els++Y.els,tl⟩:TL τ)=vv at *;generalize X.hdr=uu at *;generalize Y.hdr=yy at *;simp [execOp,resolve,invoke,builtin,e1,e2,h1']
  rw [h3];refine ⟨[Af (⟨a',c',e',X.els++Y.els,tl⟩:TL τ)],⟨_,rfl,?_,rfl⟩,?_⟩
  ·rw [BQ,aCb,BQ,BQ]
  ·refine KU ?_;have h5:=Lj (xs:=Y.els) h2 (fun x _=>FlatT.flat x);have h4:Holds Γ.w0 Γ.S0 (Ce X.els::Ce Y.els::Be (⟨a',c',e',X.els++Y.els,tl⟩:TL τ)::F) w' :=
    h5.perm (perm_cons (Ms:=[Ce Y.els,Be (⟨a',c',e',X.els++Y.els,tl⟩:TL τ)]) (.there _ (.there _ (.here _))) (perm_cons (.here _) (perm_cons (.here _) (SO _))))
   exact (RW h4).perm (aBy _ _ _)
 | none =>
  have hye:Y.els=[]:=hY.2.2.2.1 hya;have hr0:GT.ow w X:=hw1.prs _ (aA9 ..);have h5:(Builtin.append_ #[T,T] ty #[X.hdr,Y.hdr]).run Γ.P w=.ok X.hdr w:=by
   have:Y.hdr=.slice none 0 Y.cap:=by show Value.slice Y.a _ _=_;rw [hya,hye];rfl
   rw [this];exact Qq (P:=Γ.P) (w:=w) (a:=X.a) (n:=X.els.length) (c:=X.cap) (c2:=Y.cap) ht hr0.1 ty
  have h3:(execOp a.eval ⟨some d,.call { callee:=.builtin .append,args:=#[.tmp t,x],argTypes:=#[T,T] },ty,pos,af,none⟩).run Γ.P w=.ok (.value X.hdr) w:=by
   generalize X.hdr=uu at *;generalize Y.hdr=yy at *;simp [execOp,resolve,invoke,builtin,e1,e2,h5]
  rw [h3];exact ⟨[Af X],⟨X,rfl,by rw [BQ Y,hye];simp,rfl⟩,hw1⟩
end
section
variable {Γ:Cx} {rest:List Oper} {d:Nat} {ty:TypeId} {pos:String} {af:Array Edge} {gd:Option (Nat×Bool)}
variable {ops:Array Oper} {Msh pool pool':List HP} {E:Fl} {rs:List (Option Nat×Rel)} {cs0:List Nat} {KD:Gx}
def gm {α:Type} (g:Bool) (d:α) (o:Option α):Option α:=cond g o (some d)
@[simp] theorem Ab9 {α:Type} {d:α} {o:Option α}:gm true d o=o:=rfl
@[simp] theorem zY {α:Type} {d:α} {o:Option α}:gm false d o=some d:=rfl
end
section
variable {Γ:Cx} {rest:List Oper} {d:Nat} {ty:TypeId} {pos:String} {af:Array Edge}
variable {ops:Array Oper} {Msh pool pool':List HP} {E:Fl} {rs:List (Option Nat×Rel)} {cs0:List Nat} {KD:Gx}
variable {τ δ:Type} [GT τ δ]
end
theorem Tt {P:Program} {fn:Func} {r1 r2 r3 r4:ResultVar} {v1 v2 v3 v4:Value} {R:Value→List HP→Prop} {M M':List HP} {l:BR} {w0:World} {S0:List Nat} (hr:fn.results=#[r1,r2,r3,r4])
  (h1:ResOK P fn.ntmps w0 S0 l M r1 v1) (h2:ResOK P fn.ntmps w0 S0 l M r2 v2) (h3:ResOK P fn.ntmps w0 S0 l M r3 v3) (h4:ResOK P fn.ntmps w0 S0 l M r4 v4) (hR:R (.tuple #[v1,v2,v3,v4]) M') (hm:MSub M' M):WP P fn w0 S0 R .ret l M :=
 ⟨_,M',fun a w ha hw=>by
  rw [LC,hr];simp [h1 a w ha hw,h2 a w ha hw,h3 a w ha hw,h4 a w ha hw],hR,hm⟩
section
variable {Γ:Cx} {rest:List Oper} {d:Nat} {ty:TypeId} {pos:String} {af:Array Edge} {gd:Option (Nat×Bool)}
variable {ops:Array Oper} {Msh pool pool':List HP} {E:Fl} {rs:List (Option Nat×Rel)} {cs0:List Nat} {KD:Gx}
variable {τ δ:Type} [GT τ δ]
end
class FldF (P:Program) (T f:Nat) (o:outParam Nat):Prop where h:PU P T f=some o
class OneF (P:Program) (T:Nat):Prop where h:Ie P T=true
class AggF (P:Program) (T:Nat) (n:outParam Nat):Prop where h:Jp P T=some n
class ElF (P:Program) (T:Nat) (e sz by_:outParam Nat) (z:outParam (List Value)):Prop where h:elOf P T=some (e,sz,by_,z)
class ZerF (P:Program) (T:Nat) (z:outParam (List Value)):Prop where h:OY P T=some z
class StrF (P:Program) (T:Nat):Prop where h:PV P T=true
class FnF (P:Program) (f:Nat):Prop where h:IsFn P f
class BldF (P:Program) (T:Nat) (pl:outParam (List (Nat×Nat))) (z:outParam (List Value)):Prop where h:PY P T=some (pl,z)
class UndF (P:Program) (T:Nat) (d:outParam TypeDesc):Prop where h:P.underlying T=some d
theorem ba {α β:Type} {o:Option α} {k:α→Option β} {r:β} (h:Option.bind o k=some r):∃ y,o=some y∧k y=some r:=UU h
theorem pk {h:HP} {M M':List HP} (p:Pick h M M':=by first | (with_reducible repeat (first | exact Pick.here _ | apply Pick.there));done | (repeat (first | exact Pick.here _ | apply Pick.there))):Pick h M M':=p
theorem mm {h:HP} {M:List HP} (p:h∈M:=by first | (with_reducible repeat (first | exact List.Mem.head _ | apply List.Mem.tail));done | (repeat (first | exact List.Mem.head _ | apply List.Mem.tail))):h∈M:=p
theorem sb {l' l:BR} (h:Sub l' l:=by repeat (first | exact Sub.nil _ | (apply Sub.cons;(· exact rfl)))):Sub l' l:=h
theorem ms {M' M:List HP} (h:MSub M' M:=by repeat (first | exact MSub.nil _ | (apply MSub.cons;(· exact pk)))):MSub M' M:=h
theorem pc {M Ms R:List HP} (h:List.Perm M (Ms++R):=by repeat (first | exact SO _ | (apply perm_cons;(· exact pk)))):List.Perm M (Ms++R):=h
theorem bv {P:Program} {op:BinOp} {T:TypeId} {x y:Operand} {u v r:Value} (h:ET P op T x y u v r:=by
 first
  | (with_reducible first | exact tM | exact Hr | exact tQ | exact tN | exact jC | exact tT | exact tS | exact tR | exact qL | exact qM | exact qN | exact qO | exact rE | exact rF | exact tO | exact uC | exact wQ | exact uD)
  | ((with_reducible refine WV ?_);exact UndF.h) | ((with_reducible refine qZ ?_);exact UndF.h) | ((with_reducible refine tP ?_);decide) | ((with_reducible refine jB ?_);decide)
  | ((with_reducible refine jO ?_ ?_)<;>decide) | ((with_reducible refine jN ?_ ?_)<;>decide)):ET P op T x y u v r:=h
theorem ocs {cs:List Value} (h:∀ v,v∈cs→v.oneCell'=true:=by first | exact EM rfl | exact fun v hv=>GT.one _ v hv | (simp [Value.oneCell',TL.hdr,Value.cells];done)):∀ v,v∈cs→v.oneCell'=true:=h
section
variable {Γ:Cx} {l:BR} {M M':List HP} {Q:CX} {K:CW} {rest:List Oper} {d:Nat} {ty:TypeId} {pos:String} {af:Array Edge}
inductive Kp:List Nat→BR→BR→Prop
 | nil (l:BR):Kp [] l []
 | cons {t:Nat} {v:Value} {ts:List Nat} {l l':BR} (h:l.lookup t=some v) (hk:Kp ts l l'):Kp (t::ts) l ((t,v)::l')
theorem Kp.sub {ts:List Nat} {l l':BR} (h:Kp ts l l'):Sub l' l:=by
 induction h with
 | nil l=>exact Sub.nil _
 | cons h _ ih=>exact Sub.cons h ih
theorem kp (ts:List Nat) {c:Code} {l':BR} (k:W Γ c l' M Q) (h:Kp ts l l':=by repeat (first | exact Kp.nil _ | (apply Kp.cons;(· exact rfl)))):W Γ c l M Q:=RR h.sub (MSub.refl _) k
theorem kq (ts:List Nat) {c:Code} {l':BR} (k:W Γ c l' M' Q) (h:Kp ts l l':=by repeat (first | exact Kp.nil _ | (apply Kp.cons;(· exact rfl)))) (hm:M=M':=by (try simp only [aAk,aAa]);exact rfl):W Γ c l M Q:=RR h.sub (hm ▸ MSub.refl _) k
theorem al {T:TypeId} {z:List Value} [hz:ZerF Γ.P T z] (hk:∀ b,L Γ rest ((d,.pointer (some ⟨b,0,none⟩))::l) (blk b z T::M) K) (hn:Nat.blt d Γ.n=true:=by exact rfl) :
  L Γ (⟨some d,.alloc T,ty,pos,af,none⟩::rest) l M K:=Er hn hz.h hk
theorem bx {x:Operand} {T:TypeId} {v:Value} (hk:∀ b,L Γ rest ((d,.pointer (some ⟨b,0,none⟩))::l) (blk b v.cells.toList T::M) K) (hn:Nat.blt d Γ.n=true:=by exact rfl) (hx:ev l x=some v:=by exact rfl) :
  L Γ (⟨some d,.box T x,ty,pos,af,none⟩::rest) l M K:=TY hn hx hk
end
section
variable {w0 w:World} {S0:List Nat} {M M' M1 M2:List HP}
def Own {τ δ:Type} [GT τ δ] (M:List HP) (t:τ) (M':List HP):Prop:=∀ (w0:World) (S0:List Nat) (w:World) (F:List HP),Holds w0 S0 (M++F) w→Holds w0 S0 (Af t::(M'++F)) w
theorem nC {τ δ:Type} [GT τ δ] {t:τ} (p:Pick (Af t) M M'):Own M t M':=fun _ _ _ F h=>h.perm (p.perm.append_right F)
theorem Sb {τ δ:Type} [GT τ δ] {t:τ} (p:Flat t):Own M t M:=fun _ _ _ _ h=>h.addFlat p
theorem rO {n:Int}:Own M n M:=Sb (Ze trivial)
theorem nD {n:Bool}:Own M n M:=Sb (XN _)
theorem rP {n:ByteArray}:Own M n M:=Sb (Zf trivial)
theorem rQ {τ δ:Type} [GT τ δ] {e:TypeId}:Own M (TL.nil τ e) M:=Sb (Zg e)
theorem nE {α β δ ε:Type} [GT α δ] [GT β ε] {a:α} {b:β} (ha:Own M a M1) (hb:Own M1 b M2):Own M (a,b) M2:=fun w0 S0 w F h=>by
 have h1:=ha w0 S0 w F h;have h2:Holds w0 S0 (M1++(Af a::F)) w:=h1.perm aDv.symm;have h3:=hb w0 S0 w _ h2;have h4:Holds w0 S0 (Af a::Af b::(M2++F)) w:=h3.perm ((aDv.cons _).trans (aBy _ _ _));exact jG h4
theorem ow {τ δ:Type} [GT τ δ] {t:τ} (o:Own M t M':=by repeat (first | (with_reducible exact rO) | (with_reducible exact nD) | (with_reducible exact rP) | (with_reducible exact rQ) | (with_reducible apply nE) | ((with_reducible apply nC);exact pk))):Own M t M':=o
theorem Own.h {τ δ:Type} [GT τ δ] {t:τ} (o:Own M t M') (h:Holds w0 S0 M w):Holds w0 S0 (Af t::M') w:=by
 have:=o w0 S0 w [] (by simpa using h);simpa using this
def Exp {τ δ:Type} [GT τ δ] (t:τ) (M M':List HP):Prop:=∀ (w0:World) (S0:List Nat) (w:World) (F:List HP),Holds w0 S0 (Af t::(M++F)) w→Holds w0 S0 (M'++F) w
theorem UV {τ δ:Type} [GT τ δ] {t:τ}:Exp t M M:=fun _ _ _ F h=>h.sub ⟨[Af t],aB9 (l₁:=[Af t]) (l₂:=M++F)⟩
theorem rR {n:Int}:Exp n M M:=UV
theorem nF {n:Bool}:Exp n M M:=UV
theorem rS {n:ByteArray}:Exp n M M:=UV
theorem nG {τ δ:Type} [GT τ δ] {t:TL τ}:Exp t M (Af t::M):=fun _ _ _ _ h=>h
theorem nH {α β δ ε:Type} [GT α δ] [GT β ε] {a:α} {b:β} (hb:Exp b M M1) (ha:Exp a M1 M2):Exp (a,b) M M2:=fun w0 S0 w F h=>by
 have h1:=jF h;have h2:Holds w0 S0 (Af b::(M++(Af a::F))) w:=h1.perm ((aBy _ _ _).trans (aDv.symm.cons _));have h3:=hb w0 S0 w _ h2;exact ha w0 S0 w F (h3.perm aDv)
theorem ex {τ δ:Type} [GT τ δ] {t:τ} (o:Exp t M M':=by repeat (first | (with_reducible exact rR) | (with_reducible exact nF) | (with_reducible exact rS) | (with_reducible apply nH) | (with_reducible exact nG))):Exp t M M':=o
theorem Exp.h {τ δ:Type} [GT τ δ] {t:τ} (o:Exp t M1 M') (p:Pick (Af t) M M1) (h:Holds w0 S0 M w):Holds w0 S0 M' w:=by
 have:=o w0 S0 w [] (by simpa using h.perm p.perm);simpa using this
variable {Γ:Cx} {l:BR} {Q:CX} {K:CW} {c:Code} {r:List Oper}
theorem jW {τ δ:Type} [GT τ δ] (t:τ) (k:W Γ c l (Af t::M') Q) (o:Own M t M':=by exact ow):W Γ c l M Q:=AX (fun _ h=>o.h h) k
theorem jL {τ δ:Type} [GT τ δ] (t:τ) (k:L Γ r l (Af t::M') K) (o:Own M t M':=by exact ow):L Γ r l M K:=Cn (fun _ h=>o.h h) k
theorem xW {τ δ:Type} [GT τ δ] (t:τ) (k:W Γ c l M' Q) (p:Pick (Af t) M M1:=by exact pk) (o:Exp t M1 M':=by exact ex):W Γ c l M Q:=AX (fun _ h=>o.h p h) k
theorem xL {τ δ:Type} [GT τ δ] (t:τ) (k:L Γ r l M' K) (p:Pick (Af t) M M1:=by exact pk) (o:Exp t M1 M':=by exact ex):L Γ r l M K:=Cn (fun _ h=>o.h p h) k
end
theorem dd {a b:Prop} (h:a) (e:a→b:=by (intro h;(try dsimp only [KV,QU,RX,Ub,VL] at h);exact h)):b:=e h
theorem sc {p q:Prop} (k:q) (e:q→p:=by (intro k;(simp only [CZ,DF,Dn,DG,DY,aAk,aAa]);exact k)):p:=e k
section
variable {ops:Array Oper} {E:Fl}
theorem gc {o:Oper} {c:Prop} (h:GC ops E o c:=by first | exact Ai | exact Aj rfl rfl):GC ops E o c:=h
theorem ov {x:Operand} {c:Prop} {v:Value} (h:OpV E x c v:=by first | exact Bp | exact Ag rfl | exact Al rfl):OpV E x c v:=h
end
theorem fP {Γ:Cx} {l:BR} {M:List HP} {K:CW} {rest:List Oper} {d:Nat} {ty:TypeId} {pos:String} {af:Array Edge} {x:Operand} {i:Nat} {vs:List Value} {v:Value} (hn:Nat.blt d Γ.n=true) (hx:ev l x=some (.tuple vs.toArray)) (hv:vs[i]?=some v) (hk:L Γ rest ((d,v)::l) M K) :
  L Γ (⟨some d,.extract x i,ty,pos,af,none⟩::rest) l M K:=jH hn hx (by simpa using hv) hk
theorem wX {Γ:Cx} {l:BR} {M:List HP} {K:CW} {rest:List Oper} {d:Option Nat} {ty:TypeId} {pos:String} {af:Array Edge} {g:Option (Nat×Bool)} {x:Array Operand} {T:Array TypeId} (h:L Γ (⟨d,.call { callee:=.builtin .len,args:=x,argTypes:=T },ty,pos,af,g⟩::rest) l M K) :
  L Γ (⟨d,.call { callee:=.builtin .len,args:=x,argTypes:=T },ty,pos,af,g⟩::rest) l M K:=h
section
variable {Γ:Cx} {l:BR} {M:List HP} {K:CW} {Q:CX} {c:Code} {r:List Oper} {ops:Array Oper} {Msh pool:List HP} {E:Fl} {rs:List (Option Nat×Rel)} {cs0:List Nat} {KD:Gx}
theorem isL (h:L Γ r l M K):L Γ r l M K:=h
theorem isW (h:W Γ c l M Q):W Γ c l M Q:=h
theorem isD (h:DV Γ ops Msh pool E rs cs0 r KD):DV Γ ops Msh pool E rs cs0 r KD:=h
end
theorem s1 {p q:Prop} (k:q) (h:q→p:=by
 intro k
 (first
  | (with_reducible refine isL ?_);(first
   | (with_reducible apply tL);(· exact rfl);(· exact rfl)
   | (with_reducible apply Bi);(· exact rfl);(· exact rfl)
   | (with_reducible refine Ca ?_)
   | (with_reducible apply Jw);(· exact rfl);(· exact rfl);(· exact rfl);(· exact bv)
   | (with_reducible apply cF);(· exact rfl);(· exact rfl);(· exact FldF.h)
   | (with_reducible apply IX);(· exact rfl);(· exact rfl);(· exact Ax mm);(· exact OneF.h);(· exact rfl)
   | (with_reducible apply Ba);(· exact rfl);(· exact rfl);(· exact Ax mm);(· exact AggF.h)
   | (with_reducible apply fP);(· exact rfl);(· exact rfl);(· exact rfl)
   | (with_reducible apply dH);(· exact rfl);(· exact rfl);(· exact pk);(· exact OneF.h);(· exact rfl);(· exact rfl)
   | (with_reducible apply Za);(· exact rfl);(· exact rfl);(· exact pk);(· exact AggF.h);(· exact rfl);(· exact ocs)
   | (with_reducible refine wX ?_);(first | refine tU rfl rfl StrF.h ?_ | refine uE rfl rfl ElF.h ?_)
   | (with_reducible apply wP);(· exact rfl);(· exact rfl)
   | (with_reducible apply eX);(· exact rfl);(· exact rfl))
  | (with_reducible refine isW ?_);(first
   | (with_reducible refine Ot ?_)
   | (with_reducible refine RS ?_)
   | (with_reducible refine tJ ?_)
   | (with_reducible refine qJ ?_)
   | (with_reducible refine YE ?_))
  | (with_reducible refine isD ?_);(first
   | (with_reducible apply Dz);(· exact gc);(· exact ov)
   | (with_reducible apply Br);(· exact gc);(· exact ov);(· exact FldF.h)
   | (with_reducible apply Bu);(· exact gc);(· exact ov);(· exact fun _=>Ax mm);(· exact OneF.h);(· exact rfl)
   | (with_reducible apply DT);(· exact gc);(· exact ov);(· exact ov);(· exact fun _=>bv)
   | (with_reducible apply El);(· exact gc);(· exact ov);(· exact ov);(· exact fun h hb=>⟨h,hb⟩)
   | (with_reducible apply zV);(· exact gc);(· exact ov);(· exact ov);(· exact fun h hb=>⟨h,hb⟩)
   | (with_reducible apply Bw);(· exact gc);(· exact ov);(· exact fun _=>Ax mm);(· exact AggF.h)
   | (with_reducible apply RT);(· exact gc);(· exact ov)
   | (with_reducible apply pM);(· exact gc);(· exact ov)
   | (with_reducible apply fA);(· exact gc);(· exact ov)
   | (with_reducible refine VG ?_))
  | (with_reducible refine RU ?_)
  | (with_reducible apply PX);(· exact rfl)
  | (with_reducible apply Ua);(· exact rfl);(· exact rfl)
  | (with_reducible apply jD);(· exact rfl)
  | (with_reducible apply Give_drop')
  | (with_reducible apply qU))
 exact k):p:=h k
theorem s2 {p q:Prop} (k:q) (h:q→p:=by (intro k;(iterate 2 (refine s1 ?_));exact k)):p:=h k
theorem s3 {p q:Prop} (k:q) (h:q→p:=by (intro k;(iterate 3 (refine s1 ?_));exact k)):p:=h k
theorem s4 {p q:Prop} (k:q) (h:q→p:=by (intro k;(iterate 4 (refine s1 ?_));exact k)):p:=h k
theorem s5 {p q:Prop} (k:q) (h:q→p:=by (intro k;(iterate 5 (refine s1 ?_));exact k)):p:=h k
theorem s6 {p q:Prop} (k:q) (h:q→p:=by (intro k;(iterate 6 (refine s1 ?_));exact k)):p:=h k
theorem s7 {p q:Prop} (k:q) (h:q→p:=by (intro k;(iterate 7 (refine s1 ?_));exact k)):p:=h k
theorem s8 {p q:Prop} (k:q) (h:q→p:=by (intro k;(iterate 8 (refine s1 ?_));exact k)):p:=h k
theorem s9 {p q:Prop} (k:q) (h:q→p:=by (intro k;(iterate 9 (refine s1 ?_));exact k)):p:=h k
theorem s10 {p q:Prop} (k:q) (h:q→p:=by (intro k;(iterate 10 (refine s1 ?_));exact k)):p:=h k
theorem s11 {p q:Prop} (k:q) (h:q→p:=by (intro k;(iterate 11 (refine s1 ?_));exact k)):p:=h k
theorem s12 {p q:Prop} (k:q) (h:q→p:=by (intro k;(iterate 12 (refine s1 ?_));exact k)):p:=h k
theorem s13 {p q:Prop} (k:q) (h:q→p:=by (intro k;(iterate 13 (refine s1 ?_));exact k)):p:=h k
theorem s14 {p q:Prop} (k:q) (h:q→p:=by (intro k;(iterate 14 (refine s1 ?_));exact k)):p:=h k
theorem s15 {p q:Prop} (k:q) (h:q→p:=by (intro k;(iterate 15 (refine s1 ?_));exact k)):p:=h k
theorem s16 {p q:Prop} (k:q) (h:q→p:=by (intro k;(iterate 16 (refine s1 ?_));exact k)):p:=h k
theorem s17 {p q:Prop} (k:q) (h:q→p:=by (intro k;(iterate 17 (refine s1 ?_));exact k)):p:=h k
theorem s18 {p q:Prop} (k:q) (h:q→p:=by (intro k;(iterate 18 (refine s1 ?_));exact k)):p:=h k
theorem s19 {p q:Prop} (k:q) (h:q→p:=by (intro k;(iterate 19 (refine s1 ?_));exact k)):p:=h k
theorem s20 {p q:Prop} (k:q) (h:q→p:=by (intro k;(iterate 20 (refine s1 ?_));exact k)):p:=h k
theorem dv {p:Prop} (h:p:=by repeat (first | with_reducible exact Ac | with_reducible exact DS | with_reducible exact Co | with_reducible refine Aa ?_ ?_ | exact At mm | refine Aa ?_ ?_)):p:=h
theorem cW {Γ:Cx} {l:BR} {M:List HP} {Q:CX} {t:Operand} {b:Bool} {x y:Code} {α:Type} {A B o:Option α} (ht:ev l t=some (.bool b)) (hp:cond b A B=o) (h1:A=o→W Γ x l M Q) (h2:B=o→W Γ y l M Q):W Γ (.cond t x y) l M Q:=Tg ht (fun h=>h1 (jQ h hp)) (fun h=>h2 (jR h hp))
theorem oV {E:Fl} {c:Prop} {xs:List Operand} {vs:List Value} (h:OpVs E c xs vs:=by repeat (first | exact AC | refine Ae Bp ?_ | refine Ae (Ag rfl) ?_ | refine Ae (Al rfl) ?_)):OpVs E c xs vs:=h
theorem oP {E:Fl} {xs:List (Nat×Operand)} {vs:List (Nat×Value)} (h:OpVp E xs vs:=by repeat (first | exact Fi | refine Bj Bp ?_ | refine Bj (Ag rfl) ?_ | refine Bj (Al rfl) ?_)):OpVp E xs vs:=h
theorem kC {Γ:Cx} {l:BR} {M:List HP} {Q:CX} (ts:List Nat) {l':BR} {t:Operand} {b:Bool} {x y:Code} {α:Type} {A B o:Option α} (h1:b=true→A=o→W Γ x l' M Q) (h2:b=false→B=o→W Γ y l' M Q) (h:Kp ts l l':=by repeat (first | exact Kp.nil _ | (apply Kp.cons;(·exact rfl)))) (ht:ev l' t=some (.bool b):=by exact rfl):cond b A B=o→W Γ (.cond t x y) l M Q:=fun hp=>kp ts (Tg ht (fun h=>h1 h (jQ h hp)) (fun h=>h2 h (jR h hp))) h
theorem kD {Γ:Cx} {l:BR} {M:List HP} {Q:CX} (ts:List Nat) {l':BR} {t:Operand} {b:Bool} {x y:Code} {α:Type} {A B o:Option α} (h1:A=o→W Γ x l' M Q) (h2:B=o→W Γ y l' M Q) (h:Kp ts l l':=by repeat (first | exact Kp.nil _ | (apply Kp.cons;(·exact rfl)))) (ht:ev l' t=some (.bool b):=by exact rfl):cond b A B=o→W Γ (.cond t x y) l M Q:=kC ts (fun _=>h1) (fun _=>h2) h ht
theorem mxA {σ α:Type} {o:Option α} {x:σ⊕α} {r:α} (h:Option.map Sum.inr o=some x) (hx:∀ a,x=.inr a→a=r):o=some r:=by obtain ⟨a,e1,e2⟩:=dL h;rw [e1,hx a e2]
theorem fB {p:Prop} (h:p:=by obtain rfl:=sj hp;refine s1 ?_;refine Ct rfl (Ah rfl) ⟨rfl,rfl⟩ ms):p:=h
theorem bc {α β:Type} {x:Option α} {f:α→Option β} {r:β} {p:Prop} (k:∀ y,x=some y→f y=some r→p) (h:Option.bind x f=some r):p:=by obtain ⟨y,a,b⟩:=ba h;exact k y a b
theorem dx {Γ:Cx} {M1 M2:List HP} {τ δ:Type} [GT τ δ] {t:τ} (h:RdX Γ M1 M2 t:=by repeat (first | with_reducible exact AJ | with_reducible exact RdX.str | with_reducible exact FP | with_reducible refine Ak ?_ ?_ | exact EG mm | refine Ak ?_ ?_)):RdX Γ M1 M2 t:=h
theorem dO {p:Prop} (h:p:=by repeat (first | exact BD | exact Mh | exact EH | refine AO ?_ ?_)):p:=h
theorem sa {P:Program} {f:FuncId} {w:World} {M:List HP} {Q:Value→List HP→Prop} {g g':Array Value} (k:Spec P f g' w M Q) (h:g=g':=by ((try simp only [CZ,DF,Dn,DG,DY,aAk,aAa]);try exact rfl)):Spec P f g w M Q:=by subst h;exact k
abbrev AS:=Int×Int
abbrev CR:=Int×Int×Int×ByteArray×ByteArray×ByteArray×Int×(TL ByteArray)
abbrev Aw:=AS×Int×Int×Int×CR×Int×(TL AS)×Bool
abbrev Az:=AS×Int×Int×Int×(TL AS)×(TL Int)×Bool
abbrev AA:=Int×Int×(TL Aw)×(TL Az)
abbrev As:=Int×Int×Int×AS×Int×CR×Int×(TL AS)×Int×Int×Bool
abbrev Dt:=(TL AA)×(TL As)
abbrev EN:=Int×Int×Int×AS×CR
end Go.Proofs.SL
namespace Go.Proofs.SL
open Go Tryz Go.Proofs.SL.GT
theorem iR {p:Prop} (h:p:=by (unfold inR;omega)):p:=h
theorem ob {α β:Type} (a:α) (f:α→Option β):Option.bind (some a) f=f a:=rfl
variable (w:World)
abbrev Sp (f:FuncId) (a:List Value):=Spec prog f a.toArray
noncomputable section
set_option maxHeartbeats 2000000
theorem mix:prog.follows .mixedOrders=true:=by kernel_rfl
instance Hs:FnF prog 66:=⟨_,func66,kr,rfl⟩
def Ez (a0:Int) (a1:Int) (a2:Int):Option Bool :=
 some ((decide (a1≤a0))&&(decide (a0≤a2)))
theorem CU (a0:Int) (a1:Int) (a2:Int)  (r) (hp:Ez a0 a1 a2=some r):Sp 83 [.int .i64 a0,.int .i64 a1,.int .i64 a2] w [] (IsV (.bool r)):=by
 refine Ay func83 rfl ntmps83 rfl ?_;unfold Ez at hp;replace hp:=dd hp;refine s5 ?_;refine BM [6] mix kr rfl (s20 ?_);exact fB
def Dl (a0:Int) (a1:Int) (a2:Int):Option Bool :=
 some ((decide (a1≤a0))&&(decide (a0≤a2)))
theorem Cu (a0:Int) (a1:Int) (a2:Int)  (r) (hp:Dl a0 a1 a2=some r):Sp 66 [.int .i64 a0,.int .i64 a1,.int .i64 a2] w [] (IsV (.bool r)):=by
 refine Ay func66 rfl ntmps66 rfl ?_;unfold Dl at hp;replace hp:=dd hp;refine s5 ?_;refine BM [6] mix kr rfl (s20 ?_);exact fB
def HV (a0:Int):Option Bool :=
 some ((decide (0≤a0))&&(decide (a0 < 3)))
theorem HC (a0:Int)  (r) (hp:HV a0=some r):Sp 136 [.int .i64 a0] w [] (IsV (.bool r)):=by
 refine Ay func136 rfl ntmps136 rfl ?_;unfold HV at hp;replace hp:=dd hp;refine s5 ?_;refine BM [2] mix kr rfl (s16 ?_);exact fB
def Jg (a0:Int):Option Bool :=
 (Dl a0 0 2).bind fun y1=>some y1
theorem If (a0:Int)  (r) (hp:Jg a0=some r):Sp 62 [.int .i64 a0] w [] (IsV (.bool r)):=by
 refine Ay func62 rfl ntmps62 rfl ?_;unfold Jg at hp;replace hp:=dd hp;refine s7 ?_;revert hp;refine bc fun y1 a1 hp=>?_;refine BH rfl Hs.h rfl (by exact fun w hw=>Cu w a0 0 2  _ a1) (s2 ?_);exact fB
end
end Go.Proofs.SL
namespace Go.Proofs
open Go.Shelf
def Tryz.laysSF130_ren:Go.Shelf.Ren:=⟨fun | 6=>130 | 15=>178 | 14=>177 | 28=>213 | 29=>214 | 20=>205 | 21=>206 | 22=>207 | 23=>208 | 24=>209 | 25=>210 | 26=>211 | 27=>212 | 46=>231 | 47=>232 | 48=>233 | 49=>234 | 50=>235 | 57=>257 | n=>n,fun | 22=>31 | 24=>35 | 25=>154 | 3=>3 | 39=>138 | 0=>0 | 53=>201 | 55=>203 | 4=>4 | 46=>194 | 45=>193 | 50=>198 | 5=>5 | 9=>9 | 66=>210 | 70=>214 | 76=>228 | 77=>229 | n=>n,fun | n=>n⟩
theorem Tryz.laysSF130:Go.Proofs.SlLaysF0.n6 Tryz.prog Tryz.laysSF130_ren:={
 mixed:=by kernel_rfl
 f6:=⟨Tryz.f130.name,by decide,Tryz.func130.trans (by kernel_rfl)⟩
 f14:=⟨Tryz.f177.name,by decide,Tryz.func177.trans (by kernel_rfl)⟩
 f15:=Tryz.func178.trans (by kernel_rfl)
 f20:=⟨Tryz.f205.name,by decide,Tryz.func205.trans (by kernel_rfl)⟩
 f21:=⟨Tryz.f206.name,by decide,Tryz.func206.trans (by kernel_rfl)⟩
 f22:=⟨Tryz.f207.name,by decide,Tryz.func207.trans (by kernel_rfl)⟩
 f23:=⟨Tryz.f208.name,by decide,Tryz.func208.trans (by kernel_rfl)⟩
 f24:=⟨Tryz.f209.name,by decide,Tryz.func209.trans (by kernel_rfl)⟩
 f25:=⟨Tryz.f210.name,by decide,Tryz.func210.trans (by kernel_rfl)⟩
 f26:=⟨Tryz.f211.name,by decide,Tryz.func211.trans (by kernel_rfl)⟩
 f27:=⟨Tryz.f212.name,by decide,Tryz.func212.trans (by kernel_rfl)⟩
 f28:=Tryz.func213.trans (by kernel_rfl)
 f29:=Tryz.func214.trans (by kernel_rfl)
 f46:=⟨Tryz.f231.name,by decide,Tryz.func231.trans (by kernel_rfl)⟩
 f47:=Tryz.func232.trans (by kernel_rfl)
 f48:=Tryz.func233.trans (by kernel_rfl)
 f49:=⟨Tryz.f234.name,by decide,Tryz.func234.trans (by kernel_rfl)⟩
 f50:=⟨Tryz.f235.name,by decide,Tryz.func235.trans (by kernel_rfl)⟩
 f57:=⟨Tryz.f257.name,by decide,Tryz.func257.trans (by kernel_rfl)⟩
 t0:=Tryz.underlying0
 a0:=Tryz.isAgg0
 z0:=Tryz.sizeOf0
 v0:=Tryz.zeroValue0
 t3:=Tryz.underlying3
 a3:=Tryz.isAgg3
 z3:=Tryz.sizeOf3
 v3:=Tryz.zeroValue3
 t4:=Tryz.underlying4
 a4:=Tryz.isAgg4
 z4:=Tryz.sizeOf4
 v4:=Tryz.zeroValue4
 t5:=Tryz.underlying5
 a5:=Tryz.isAgg5
 z5:=Tryz.sizeOf5
 v5:=Tryz.zeroValue5
 t9:=Tryz.underlying9
 a9:=Tryz.isAgg9
 z9:=Tryz.sizeOf9
 v9:=Tryz.zeroValue9
 t22:=Tryz.underlying31
 a22:=Tryz.isAgg31
 z22:=Tryz.sizeOf31
 v22:=Tryz.zeroValue31
 t25:=Tryz.underlying154
 a25:=Tryz.isAgg154
 z25:=Tryz.sizeOf154
 v25:=Tryz.zeroValue154
 t39:=Tryz.underlying138
 a39:=Tryz.isAgg138
 z39:=Tryz.sizeOf138
 v39:=Tryz.zeroValue138
 t45:=Tryz.underlying193
 a45:=Tryz.isAgg193
 z45:=Tryz.sizeOf193
 v45:=Tryz.zeroValue193
 t46:=Tryz.underlying194
 a46:=Tryz.isAgg194
 z46:=Tryz.sizeOf194
 v46:=Tryz.zeroValue194
 t50:=Tryz.underlying198
 a50:=Tryz.isAgg198
 z50:=Tryz.sizeOf198
 v50:=Tryz.zeroValue198
 t53:=Tryz.underlying201
 a53:=Tryz.isAgg201
 z53:=Tryz.sizeOf201
 v53:=Tryz.zeroValue201
 t55:=Tryz.underlying203
 a55:=Tryz.isAgg203
 z55:=Tryz.sizeOf203
 v55:=Tryz.zeroValue203
 t66:=Tryz.underlying210
 a66:=Tryz.isAgg210
 z66:=Tryz.sizeOf210
 v66:=Tryz.zeroValue210
 t70:=Tryz.underlying214
 a70:=Tryz.isAgg214
 z70:=Tryz.sizeOf214
 v70:=Tryz.zeroValue214
 t76:=Tryz.underlying228
 a76:=Tryz.isAgg228
 z76:=Tryz.sizeOf228
 v76:=Tryz.zeroValue228
 t77:=Tryz.underlying229
 a77:=Tryz.isAgg229
 z77:=Tryz.sizeOf229
 v77:=Tryz.zeroValue229 }
def Tryz.laysSF195_ren:Go.Shelf.Ren:=⟨fun | 6=>195 | 15=>178 | 14=>226 | 28=>213 | 29=>214 | 20=>240 | 21=>241 | 22=>242 | 23=>243 | 24=>244 | 25=>245 | 26=>246 | 27=>247 | 46=>259 | 47=>232 | 48=>233 | 49=>260 | 50=>261 | 57=>266 | n=>n,fun | 22=>41 | 24=>48 | 25=>182 | 3=>3 | 39=>138 | 0=>0 | 53=>201 | 55=>203 | 4=>4 | 46=>194 | 45=>193 | 50=>198 | 5=>5 | 9=>9 | 66=>210 | 70=>214 | 76=>228 | 77=>229 | n=>n,fun | n=>n⟩
theorem Tryz.laysSF195:Go.Proofs.SlLaysF0.n6 Tryz.prog Tryz.laysSF195_ren:={
 mixed:=by kernel_rfl
 f6:=⟨Tryz.f195.name,by decide,Tryz.func195.trans (by kernel_rfl)⟩
 f14:=⟨Tryz.f226.name,by decide,Tryz.func226.trans (by kernel_rfl)⟩
 f15:=Tryz.func178.trans (by kernel_rfl)
 f20:=⟨Tryz.f240.name,by decide,Tryz.func240.trans (by kernel_rfl)⟩
 f21:=⟨Tryz.f241.name,by decide,Tryz.func241.trans (by kernel_rfl)⟩
 f22:=⟨Tryz.f242.name,by decide,Tryz.func242.trans (by kernel_rfl)⟩
 f23:=⟨Tryz.f243.name,by decide,Tryz.func243.trans (by kernel_rfl)⟩
 f24:=⟨Tryz.f244.name,by decide,Tryz.func244.trans (by kernel_rfl)⟩
 f25:=⟨Tryz.f245.name,by decide,Tryz.func245.trans (by kernel_rfl)⟩
 f26:=⟨Tryz.f246.name,by decide,Tryz.func246.trans (by kernel_rfl)⟩
 f27:=⟨Tryz.f247.name,by decide,Tryz.func247.trans (by kernel_rfl)⟩
 f28:=Tryz.func213.trans (by kernel_rfl)
 f29:=Tryz.func214.trans (by kernel_rfl)
 f46:=⟨Tryz.f259.name,by decide,Tryz.func259.trans (by kernel_rfl)⟩
 f47:=Tryz.func232.trans (by kernel_rfl)
 f48:=Tryz.func233.trans (by kernel_rfl)
 f49:=⟨Tryz.f260.name,by decide,Tryz.func260.trans (by kernel_rfl)⟩
 f50:=⟨Tryz.f261.name,by decide,Tryz.func261.trans (by kernel_rfl)⟩
 f57:=⟨Tryz.f266.name,by decide,Tryz.func266.trans (by kernel_rfl)⟩
 t0:=Tryz.underlying0
 a0:=Tryz.isAgg0
 z0:=Tryz.sizeOf0
 v0:=Tryz.zeroValue0
 t3:=Tryz.underlying3
 a3:=Tryz.isAgg3
 z3:=Tryz.sizeOf3
 v3:=Tryz.zeroValue3
 t4:=Tryz.underlying4
 a4:=Tryz.isAgg4
 z4:=Tryz.sizeOf4
 v4:=Tryz.zeroValue4
 t5:=Tryz.underlying5
 a5:=Tryz.isAgg5
 z5:=Tryz.sizeOf5
 v5:=Tryz.zeroValue5
 t9:=Tryz.underlying9
 a9:=Tryz.isAgg9
 z9:=Tryz.sizeOf9
 v9:=Tryz.zeroValue9
 t22:=Tryz.underlying41
 a22:=Tryz.isAgg41
 z22:=Tryz.sizeOf41
 v22:=Tryz.zeroValue41
 t25:=Tryz.underlying182
 a25:=Tryz.isAgg182
 z25:=Tryz.sizeOf182
 v25:=Tryz.zeroValue182
 t39:=Tryz.underlying138
 a39:=Tryz.isAgg138
 z39:=Tryz.sizeOf138
 v39:=Tryz.zeroValue138
 t45:=Tryz.underlying193
 a45:=Tryz.isAgg193
 z45:=Tryz.sizeOf193
 v45:=Tryz.zeroValue193
 t46:=Tryz.underlying194
 a46:=Tryz.isAgg194
 z46:=Tryz.sizeOf194
 v46:=Tryz.zeroValue194
 t50:=Tryz.underlying198
 a50:=Tryz.isAgg198
 z50:=Tryz.sizeOf198
 v50:=Tryz.zeroValue198
 t53:=Tryz.underlying201
 a53:=Tryz.isAgg201
 z53:=Tryz.sizeOf201
 v53:=Tryz.zeroValue201
 t55:=Tryz.underlying203
 a55:=Tryz.isAgg203
 z55:=Tryz.sizeOf203
 v55:=Tryz.zeroValue203
 t66:=Tryz.underlying210
 a66:=Tryz.isAgg210
 z66:=Tryz.sizeOf210
 v66:=Tryz.zeroValue210
 t70:=Tryz.underlying214
 a70:=Tryz.isAgg214
 z70:=Tryz.sizeOf214
 v70:=Tryz.zeroValue214
 t76:=Tryz.underlying228
 a76:=Tryz.isAgg228
 z76:=Tryz.sizeOf228
 v76:=Tryz.zeroValue228
 t77:=Tryz.underlying229
 a77:=Tryz.isAgg229
 z77:=Tryz.sizeOf229
 v77:=Tryz.zeroValue229 }
end Go.Proofs
namespace Go.Proofs
open Go.Shelf
def Tryz.lays189_ren:Go.Shelf.Ren:=⟨fun | 189=>200 | 125=>178 | 257=>229 | 128=>213 | 129=>214 | 294=>248 | 295=>249 | 296=>250 | 297=>251 | 298=>252 | 299=>253 | 216=>254 | 300=>255 | 301=>256 | 328=>262 | 329=>232 | 330=>233 | 331=>263 | 332=>264 | 215=>265 | 343=>267 | n=>n,fun | 28=>78 | 3=>3 | 46=>138 | 0=>0 | 51=>201 | 53=>203 | 4=>4 | 183=>194 | 182=>193 | 131=>198 | 5=>5 | 9=>9 | 218=>210 | 222=>214 | 228=>228 | 229=>229 | n=>n,fun | n=>n⟩
theorem Tryz.lays189:Go.Proofs.Lays.n189 Tryz.prog Tryz.lays189_ren:={
 mixed:=by kernel_rfl
 f125:=Tryz.func178.trans (by kernel_rfl)
 f128:=Tryz.func213.trans (by kernel_rfl)
 f129:=Tryz.func214.trans (by kernel_rfl)
 f189:=Tryz.func200.trans (by kernel_rfl)
 f215:=Tryz.func265.trans (by kernel_rfl)
 f216:=Tryz.func254.trans (by kernel_rfl)
 f257:=Tryz.func229.trans (by kernel_rfl)
 f294:=Tryz.func248.trans (by kernel_rfl)
 f295:=Tryz.func249.trans (by kernel_rfl)
 f296:=Tryz.func250.trans (by kernel_rfl)
 f297:=Tryz.func251.trans (by kernel_rfl)
 f298:=Tryz.func252.trans (by kernel_rfl)
 f299:=Tryz.func253.trans (by kernel_rfl)
 f300:=Tryz.func255.trans (by kernel_rfl)
 f301:=Tryz.func256.trans (by kernel_rfl)
 f328:=Tryz.func262.trans (by kernel_rfl)
 f329:=Tryz.func232.trans (by kernel_rfl)
 f330:=Tryz.func233.trans (by kernel_rfl)
 f331:=Tryz.func263.trans (by kernel_rfl)
 f332:=Tryz.func264.trans (by kernel_rfl)
 f343:=Tryz.func267.trans (by kernel_rfl)
 t0:=Tryz.underlying0
 a0:=Tryz.isAgg0
 z0:=Tryz.sizeOf0
 v0:=Tryz.zeroValue0
 t3:=Tryz.underlying3
 a3:=Tryz.isAgg3
 z3:=Tryz.sizeOf3
 v3:=Tryz.zeroValue3
 t4:=Tryz.underlying4
 a4:=Tryz.isAgg4
 z4:=Tryz.sizeOf4
 v4:=Tryz.zeroValue4
 t5:=Tryz.underlying5
 a5:=Tryz.isAgg5
 z5:=Tryz.sizeOf5
 v5:=Tryz.zeroValue5
 t9:=Tryz.underlying9
 a9:=Tryz.isAgg9
 z9:=Tryz.sizeOf9
 v9:=Tryz.zeroValue9
 t28:=Tryz.underlying78
 a28:=Tryz.isAgg78
 z28:=Tryz.sizeOf78
 v28:=Tryz.zeroValue78
 t46:=Tryz.underlying138
 a46:=Tryz.isAgg138
 z46:=Tryz.sizeOf138
 v46:=Tryz.zeroValue138
 t51:=Tryz.underlying201
 a51:=Tryz.isAgg201
 z51:=Tryz.sizeOf201
 v51:=Tryz.zeroValue201
 t53:=Tryz.underlying203
 a53:=Tryz.isAgg203
 z53:=Tryz.sizeOf203
 v53:=Tryz.zeroValue203
 t131:=Tryz.underlying198
 a131:=Tryz.isAgg198
 z131:=Tryz.sizeOf198
 v131:=Tryz.zeroValue198
 t182:=Tryz.underlying193
 a182:=Tryz.isAgg193
 z182:=Tryz.sizeOf193
 v182:=Tryz.zeroValue193
 t183:=Tryz.underlying194
 a183:=Tryz.isAgg194
 z183:=Tryz.sizeOf194
 v183:=Tryz.zeroValue194
 t218:=Tryz.underlying210
 a218:=Tryz.isAgg210
 z218:=Tryz.sizeOf210
 v218:=Tryz.zeroValue210
 t222:=Tryz.underlying214
 a222:=Tryz.isAgg214
 z222:=Tryz.sizeOf214
 v222:=Tryz.zeroValue214
 t228:=Tryz.underlying228
 a228:=Tryz.isAgg228
 z228:=Tryz.sizeOf228
 v228:=Tryz.zeroValue228
 t229:=Tryz.underlying229
 a229:=Tryz.isAgg229
 z229:=Tryz.sizeOf229
 v229:=Tryz.zeroValue229 }
end Go.Proofs
namespace Go.Proofs.SL
open Go
section
variable {δ:Type}
def UW (lt:δ→δ→Bool) (x:δ):List δ→List δ
 | []=>[x]
 | y::ys=>if lt y x then y::UW lt x ys else x::y::ys
def IE (lt:δ→δ→Bool) (l:List δ):List δ:=l.foldr (UW lt) []
theorem Tu (lt:δ→δ→Bool) (x:δ):∀ l:List δ,(UW lt x l).Perm (x::l)
 | []=>aEx _
 | y::ys=>by
  unfold UW;split
  ·exact ((Tu lt x ys).cons y).trans (aBy x y ys)
  ·exact aEx _
theorem IF (lt:δ→δ→Bool):∀ l:List δ,(IE lt l).Perm l
 | []=>aEx _
 | x::l=>(Tu lt x _).trans ((IF lt l).cons x)
structure SW0 (lt:δ→δ→Bool):Prop where
 irrefl:∀ x,lt x x=false
 trans:∀ x y z,lt x y=true→lt y z=true→lt x z=true
 ntrans:∀ x y z,lt x y=false→lt y z=false→lt x z=false
theorem UG {lt:δ→δ→Bool} (h:SW0 lt) {x:δ}:∀ {l:List δ},l.Pairwise (fun a b=>lt b a=false)→(UW lt x l).Pairwise (fun a b=>lt b a=false)
 | [],_=>by unfold UW;simp
 | y::ys,hl=>by
  obtain ⟨h1,h2⟩:=aBt.1 hl;unfold UW;split
  ·rename_i hc;refine aBt.2 ⟨fun z hz=>?_,UG h h2⟩;rcases aAf.1 ((Tu lt x ys).mem_iff.1 hz) with rfl | hz
   ·cases hh:lt z y with
    | false=>rfl
    | true=>have:=h.trans _ _ _ hh hc;rw [h.irrefl] at this;cases this
   ·exact h1 z hz
  ·rename_i hc;have hc:lt y x=false:=by simpa using hc
   refine aBt.2 ⟨fun z hz=>?_,hl⟩;rcases aAf.1 hz with rfl | hz
   ·exact hc
   ·exact h.ntrans _ _ _ (h1 z hz) hc
theorem JB {lt:δ→δ→Bool} (h:SW0 lt):∀ l:List δ,(IE lt l).Pairwise (fun a b=>lt b a=false)
 | []=>List.Pairwise.nil
 | x::l=>UG h (JB h l)
theorem OB {lt:δ→δ→Bool}:∀ {l m:List δ},l.Perm m→l.Pairwise (fun a b=>lt b a=false)→m.Pairwise (fun a b=>lt b a=false)→(∀ a b,a∈l→b∈l→lt a b=true∨lt b a=true∨a=b)→l=m
 | [],m,hp,_,_,_=>(List.nil_perm.1 hp).symm
 | a::l,m,hp,hl,hm,ht=>by
  match m,hp,hm with
  | [],hp,_=>exact absurd hp.length_eq (by simp)
  | b::m,hp,hm =>
   obtain ⟨l1,l2⟩:=aBt.1 hl;obtain ⟨m1,m2⟩:=aBt.1 hm;have e:a=b:=by
    rcases aAf.1 (hp.mem_iff.1 (aA9 ..)) with e | ha
    ·exact e
    ·rcases aAf.1 (hp.mem_iff.2 (aA9 ..)) with e | hb
     ·exact e.symm
     ·rcases ht a b (aA9 ..) (aA4 _ hb) with h | h | h
      ·rw [m1 a ha] at h;cases h
      ·rw [l1 b hb] at h;cases h
      ·exact h
   subst e;rw [OB ((List.perm_cons a).1 hp) l2 m2 fun x y hx hy=>ht x y (aA4 _ hx) (aA4 _ hy)]
open Classical in
noncomputable def Sc (lt:δ→δ→Bool) (l:List δ):Option (List δ):=if l.length≤4294967296∧∀ a b,a∈l→b∈l→lt a b=true∨lt b a=true∨a=b then some (IE lt l) else none
theorem fQ {lt:δ→δ→Bool} {l r:List δ} (h:Sc lt l=some r):l.length≤4294967296∧(∀ a b,a∈l→b∈l→lt a b=true∨lt b a=true∨a=b)∧r=IE lt l:=by
 unfold Sc at h;split at h
 ·rename_i hc;cases h;exact ⟨hc.1,hc.2,rfl⟩
 ·cases h
theorem Zw {lt:δ→δ→Bool} {l:List δ} (h1:l.length≤4294967296) (h2:∀ a b,a∈l→b∈l→lt a b=true∨lt b a=true∨a=b):Sc lt l=some (IE lt l):=by
 unfold Sc;rw [if_pos ⟨h1,h2⟩]
end
section
variable {τ δ:Type} [GT τ δ]
theorem rT {els ys:List τ} (h:ys.Perm els):(ys.flatMap GT.fp:List Nat).Perm (els.flatMap GT.fp):=h.flatMap_right _
theorem swO {lt:τ→τ→Bool} {ltD:δ→δ→Bool} (hlt:∀ x y,lt x y=ltD (GT.dat x) (GT.dat y)) (hD:SW0 ltD):Sort.SWO lt where
 irrefl x:=by rw [hlt];exact hD.irrefl _
 trans x y z h1 h2:=by rw [hlt] at *;exact hD.trans _ _ _ h1 h2
 ntrans x y z h1 h2:=by rw [hlt] at *;exact hD.ntrans _ _ _ h1 h2
end
theorem UH {α:Type} (X:Array α) (n:Nat) (h:X.size=n):X.extract 0 n=X:=by subst h;simp
section
variable {τ δ:Type} [Inhabited τ] [GT τ δ]
theorem SQ:∀ (ys:List τ) (t:Nat),t < ys.length*GT.sz τ→(Av ys)[t]?=(GT.cells (ys.toArray[t / GT.sz τ]!))[t % GT.sz τ]?
 | [],t,h=>by simp at h
 | y::ys,t,h=>by
  have hp:0 < GT.sz τ:=GT.pos;have hl:(GT.cells y).length=GT.sz τ:=GT.len y;rw [EZ];rcases aCf t (GT.sz τ) with ht | ht
  ·rw [aAp om,Nat.div_eq_of_lt ht,aFz ht];rfl
  ·have h2:t - GT.sz τ < ys.length*GT.sz τ:=by rw [aB5,aC3] at h;omega
   rw [aBb om,hl,SQ ys _ h2,Nat.mod_eq_sub_mod ht,Nat.div_eq_sub_div hp ht];congr 2;simp
theorem Rc (ys:List τ):Sort.flatK (fun x:τ=>GT.cells x) (GT.sz τ) ys.toArray=(Av ys).toArray:=by
 have hs:(Sort.flatK (fun x:τ=>GT.cells x) (GT.sz τ) ys.toArray).size=(Av ys).toArray.size:=by rw [Sort.size_flatK];simp [BV]
 refine Sort.ext_get! hs fun t ht=>?_;have ht':t < ys.toArray.size*GT.sz τ:=by simpa using ht
 have ht2:t < ys.length*GT.sz τ:=by simpa using ht'
 rw [Sort.get_flatK _ _ _ _ ht'];have h1:=SQ ys t ht2;simp only [Array.getElem!_eq_getD,aAo,aBm,List.getElem!_eq_getElem?_getD] at h1 ⊢;rw [h1]
theorem cL {w:World} {b:Nat} {e:TypeId} {els:List τ} {tail:List Value} (hb:w.heap[b]?=some (.cells (Av els++tail).toArray e (0,0))):Sort.HoldsK (fun x:τ=>GT.cells x) (GT.sz τ) w b 0 els.toArray:=by
 unfold Sort.HoldsK;rw [Rc];intro j hj;have hj':j < (Av els).length:=by simpa using hj
 refine ⟨?_,by simp [World.frozen?,hb]⟩;simp only [World.cell?,hb,aBk];simp only [aE4,aBr,if_false];rw [aBm,aAp hj',aA1 hj'];rw [show (Av els).toArray[j]! = (Av els)[j] by simp [aA1 hj']];rfl
theorem fR {w w':World} {b cap n:Nat} {e:TypeId} {els ys:List τ} {tail:List Value} {os:Array Obj}
  (hh:Holds w (fps [Af (⟨some ⟨b,0,none⟩,cap,e,els,tail⟩:TL τ)]) [Af (⟨some ⟨b,0,none⟩,cap,e,els,tail⟩:TL τ)] w) (hpm:ys.Perm els)
  (hw:w'=Go.Proofs.sortWorldK (fun x:τ=>GT.cells x) (GT.sz τ) w b 0 n ys.toArray os) :
  Holds w (fps [Af (⟨some ⟨b,0,none⟩,cap,e,els,tail⟩:TL τ)]) [Af (⟨some ⟨b,0,none⟩,cap,e,ys,tail⟩:TL τ)] w':=by
 have hlen:ys.length=els.length:=hpm.length_eq;have ht:GT.ow w (⟨some ⟨b,0,none⟩,cap,e,els,tail⟩:TL τ):=hh.prs _ (aA9 ..);obtain ⟨h1,h2,h3,h4,h5⟩:=ht;dsimp only at h1 h2 h3 h4;obtain ⟨_,_,hb,hl⟩:=h5 _ rfl;dsimp only at hb hl;unfold Go.Proofs.sortWorldK Sort.putRowK at hw;rw [Rc] at hw;have hbl:b < w.heap.size:=(aB7.1 hb).1;have hw':w'.heap[b]?=some (.cells (Av ys++tail).toArray e (0,0)):=by
  subst hw;rw [Sort.heap_grow_old _ _ (by simpa [Sort.putRow,Sort.mapBlock,Sort.ahead] using hbl)];have hp:=XS id (Av ys) (Av els) tail (by rw [BV,BV,hlen]);simp only [Sort.putRow,Sort.mapBlock,Sort.ahead,aDn,hb,Sort.onCells,if_true,aE3];rw [hp,List.map_id]
 have hoth:∀ k,k < w.heap.size→b≠k→w'.heap[k]?=w.heap[k]?:=fun k hk hkb=>by
  subst hw;rw [Sort.heap_grow_old _ _ (by simpa [Sort.putRow,Sort.mapBlock,Sort.ahead] using hk)];simp [Sort.putRow,Sort.mapBlock,Sort.ahead,aDn,hkb]
 have hsz:w.heap.size≤w'.heap.size:=by subst hw;simp [Sort.putRow,Sort.mapBlock,Sort.ahead]
 have e1:fps [Af (⟨some ⟨b,0,none⟩,cap,e,els,tail⟩:TL τ)]=b::els.flatMap GT.fp:=by simp only [BZ];show ([b]++els.flatMap GT.fp)++fps []=_;simp [fps]
 have e2:fps [Af (⟨some ⟨b,0,none⟩,cap,e,ys,tail⟩:TL τ)]=b::ys.flatMap GT.fp:=by simp only [BZ];show ([b]++ys.flatMap GT.fp)++fps []=_;simp [fps]
 have efp:(fps [Af (⟨some ⟨b,0,none⟩,cap,e,ys,tail⟩:TL τ)]).Perm (fps [Af (⟨some ⟨b,0,none⟩,cap,e,els,tail⟩:TL τ)]):=by rw [e1,e2];exact (rT hpm).cons b
 have hnd:=hh.nodup;rw [e1] at hnd;refine ⟨by subst hw;rfl,⟨by subst hw;rfl,by subst hw;exact aF0 _ _⟩,by subst hw;rfl,hsz,fun k hk hn=>hoth k hk fun e2=>?_,fun x hx=>?_,efp.nodup_iff.2 hh.nodup,fun k hk=>?_⟩
 ·subst e2;exact hn (by rw [e1];exact aA9 ..)
 ·obtain rfl:=aAl.1 hx;refine ⟨by dsimp only;omega,h2,fun x hx=>?_,fun h=>(by cases h),fun a ha=>by cases ha;exact ⟨rfl,rfl,hw',by dsimp only;rw [hlen];exact hl⟩⟩;have hxe:x∈els:=hpm.mem_iff.1 hx;refine GT.ow_st (fun k hk=>?_) (h3 x hxe);have hm:k∈els.flatMap GT.fp:=aBq.2 ⟨x,hxe,hk⟩;exact hoth k (hh.rng k (by rw [e1];exact aA4 _ hm)).2 fun e2=>(aCp.1 hnd).1 (by rw [e2];exact hm)
 ·have hk2:=efp.mem_iff.1 hk;exact ⟨(hh.rng k hk2).1,aC6 (hh.rng k hk2).2 hsz⟩
theorem fS {P:Program} {f:FuncId} {fv:Value} (w:World) (a0:TL τ) (lt:τ→τ→Bool) (ltD:δ→δ→Bool) (hlt:∀ x y,lt x y=ltD (GT.dat x) (GT.dat y)) (hD:SW0 ltD) (r:List δ) (hp:Sc ltD (GT.dat a0)=some r)
  (h:∀ (b off cap:Nat) (d:Array τ),Sort.HoldsK (fun x:τ=>GT.cells x) (GT.sz τ) w b off d→b < w.heap.size→b∈GT.fp a0→d.size < 4611686018427387904→Calls P f #[.slice (some ⟨b,off,none⟩) d.size cap,fv] w fun e w'=>e=.returned (.tuple #[])∧∃ n os,w'=Go.Proofs.sortWorldK (fun x:τ=>GT.cells x) (GT.sz τ) w b off n (Sort.pdq lt d 0 d.size (Lib.bitLen d.size) true true) os)
  (h0:∀ (p:Option Addr) (cap:Nat),Calls P f #[.slice p 0 cap,fv] w fun e w'=>e=.returned (.tuple #[])∧w'=w) :
  Spec P f #[a0.hdr,fv] w [Af a0] (fun v M=>∃ y0:TL τ,v=.tuple #[]∧GT.dat y0=r∧M=[Af y0]∧y0.hdr=a0.hdr):=by
 intro hh;obtain ⟨hsz,htot,rfl⟩:=fQ hp;have hd:GT.dat a0=a0.els.map GT.dat:=rfl;rw [hd,aB1] at hsz;have hO:=swO hlt hD;have hps:=Sort.pdq_sorts lt hO a0.els.toArray 0 a0.els.toArray.size (Lib.bitLen a0.els.length) true true (aAn _) (aAu _) (Or.inl rfl);have hperm:(Sort.pdq lt a0.els.toArray 0 a0.els.length (Lib.bitLen a0.els.length) true true).toList.Perm a0.els:=by
  have h1:=hps.1.2.2;have h2:=hps.1.1;simp only [aDi] at h1 h2;rw [UH _ _ h2,UH _ _ (by simp)] at h1;simpa using h1
 have hsorted:((Sort.pdq lt a0.els.toArray 0 a0.els.length (Lib.bitLen a0.els.length) true true).toList.map GT.dat).Pairwise (fun a b=>ltD b a=false):=by
  rw [aDr,aBv];intro i j hi hj hij;have h2:=hps.2 i j (aAn _) hij (by have:=hperm.length_eq;rw [aDi];omega);rw [aDi] at h2;rw [hlt] at h2;have hi':i < (Sort.pdq lt a0.els.toArray 0 a0.els.length (Lib.bitLen a0.els.length) true true).size:=by simpa using hi
  have hj':j < (Sort.pdq lt a0.els.toArray 0 a0.els.length (Lib.bitLen a0.els.length) true true).size:=by simpa using hj
  rw [getElem!_pos _ i hi',getElem!_pos _ j hj'] at h2;simpa using h2
 have hres:(Sort.pdq lt a0.els.toArray 0 a0.els.length (Lib.bitLen a0.els.length) true true).toList.map GT.dat=IE ltD (GT.dat a0) :=
  OB ((hperm.map GT.dat).trans (IF ltD _).symm) hsorted (JB hD _) fun a b ha hb=>htot a b ((hperm.map GT.dat).mem_iff.1 ha) ((hperm.map GT.dat).mem_iff.1 hb)
 rcases Tp hh with ⟨e,tail,rfl⟩ | ⟨b,cap,e,els,tail,rfl,h1,hl,hb,hbl⟩
 ·refine (h0 none 0).mono fun e' w' ⟨he,hw⟩=>?_;subst hw;refine ⟨_,_,he,⟨⟨none,0,e,[],tail⟩,rfl,rfl,rfl,rfl⟩,hh⟩
 ·dsimp only at hsz hperm hsorted hres;have:=h b 0 cap els.toArray (cL hb) hbl (by show b∈[b]++_;simp) (by simp;omega);rw [aDi] at this;generalize Sort.pdq lt els.toArray 0 els.length (Lib.bitLen els.length) true true=ys at this hperm hres;refine this.mono fun e' w' ⟨he,n,os,hw⟩=>⟨_,_,he,⟨⟨some ⟨b,0,none⟩,cap,e,ys.toList,tail⟩,rfl,hres,rfl,?_⟩,fR (n:=n) (os:=os) hh hperm hw⟩;show Value.slice _ ys.toList.length _=Value.slice _ els.length _;rw [hperm.length_eq]
end
theorem nI {W w':World} {M:List HP} (h:Holds W [] M w'):∃ q os',w'=Sort.grow (W.drewN q) os':=by
 refine ⟨w'.drawn - W.drawn,w'.heap.extract W.heap.size w'.heap.size,?_⟩;have hh:w'.heap=W.heap++w'.heap.extract W.heap.size w'.heap.size:=by
  apply Array.ext_getElem?;intro i;rcases aCf i W.heap.size with hi | hi
  ·rw [aEg hi];exact h.old i hi (by simp)
  ·rw [Array.getElem?_append_right hi];rcases aCf i w'.heap.size with h2 | h2
   ·rw [Array.getElem?_extract,if_pos (by rw [Nat.min_self];omega),show W.heap.size+(i - W.heap.size)=i by omega]
   ·rw [aD8 h2,aD8 (by simp;omega)]
 have hd:=h.tape.2
 cases w' with
 | mk heap tape drawn os output =>
  have h1:=h.os;have h2:=h.tape.1;have h3:=h.output;dsimp only at h1 h2 h3 hd hh ⊢;unfold Sort.grow World.drewN;dsimp only;rw [← hh,h1,h2,h3,show W.drawn+(drawn - W.drawn)=drawn by omega]
section
variable {τ δ:Type} [Inhabited τ] [GT τ δ]
theorem fT {P:Program} {f g:FuncId} (w:World) (a0:TL τ) (cs:List Value) (cfD:δ→δ→Int) (hD:SW0 (fun x y=>decide (cfD x y < 0))) (r:List δ) (hp:Sc (fun x y=>decide (cfD x y < 0)) (GT.dat a0)=some r)
  (hk:∀ (w':World) (F:List HP) (x y:τ),Holds w (fps [Af a0]) F w'→Spec P g ([Value.agg (GT.cells x).toArray,Value.agg (GT.cells y).toArray]++cs).toArray w' [] (IsV (.int .i64 (cfD (GT.dat x) (GT.dat y)))))
  (hs:∀ (b off cap:Nat) (d:Array τ),Sort.SWO (Go.Proofs.ltOf fun x y:τ=>cfD (GT.dat x) (GT.dat y))→Go.Proofs.CmpLays P g cs.toArray (fun x:τ=>GT.cells x) (GT.sz τ) (fun x y=>cfD (GT.dat x) (GT.dat y)) b off d.size w→Sort.HoldsK (fun x:τ=>GT.cells x) (GT.sz τ) w b off d→b < w.heap.size→d.size < 4611686018427387904 →
   Calls P f #[.slice (some ⟨b,off,none⟩) d.size cap,.func (.func g) #[] cs.toArray] w fun e w'=>e=.returned (.tuple #[])∧∃ n os,w'=Go.Proofs.sortWorldK (fun x:τ=>GT.cells x) (GT.sz τ) w b off n (Sort.pdq (Go.Proofs.ltOf fun x y:τ=>cfD (GT.dat x) (GT.dat y)) d 0 d.size (Lib.bitLen d.size) true true) os)
  (h0:∀ (p:Option Addr) (cap:Nat),Calls P f #[.slice p 0 cap,.func (.func g) #[] cs.toArray] w fun e w'=>e=.returned (.tuple #[])∧w'=w) :
  Spec P f #[a0.hdr,.func (.func g) #[] cs.toArray] w [Af a0] (fun v M=>∃ y0:TL τ,v=.tuple #[]∧GT.dat y0=r∧M=[Af y0]∧y0.hdr=a0.hdr):=by
 intro hh;refine fS w a0 (Go.Proofs.ltOf fun x y:τ=>cfD (GT.dat x) (GT.dat y)) (fun x y=>decide (cfD x y < 0)) (fun x y=>rfl) hD r hp (fun b off cap d hH hb hba hsz=>?_) h0 hh;have hO:Sort.SWO (Go.Proofs.ltOf fun x y:τ=>cfD (GT.dat x) (GT.dat y)):=swO (fun x y=>rfl) hD;refine hs b off cap d hO (fun m os dk hdk x y=>?_) hH hb hsz;obtain ⟨bh,hbh⟩:∃ o,w.heap[b]?=some o:=⟨_,aAy hb⟩;have hW:Holds w (fps [Af a0]) [] (Go.Proofs.sortWorldK (fun x:τ=>GT.cells x) (GT.sz τ) w b off m dk os):=by
  rcases Tp hh with ⟨e,tail,rfl⟩ | ⟨b',cap',e,els,tail,rfl,_,_,hb',_⟩
  ·exact absurd hba (by show ¬ b∈([]++[]);simp)
  ·unfold Go.Proofs.sortWorldK Sort.putRowK;refine ⟨rfl,⟨rfl,aF0 _ _⟩,rfl,by simp [Sort.putRow,Sort.mapBlock,Sort.ahead],fun k hk' hn=>?_,fun x hx=>(by cases hx),by simp [fps],fun k hk'=>by simp [fps] at hk'⟩;have hkb:b≠k:=fun e2=>hn (by rw [← e2];simp only [BZ];exact aB2 _ hba);rw [Sort.heap_grow_old _ _ (by simpa [Sort.putRow,Sort.mapBlock,Sort.ahead] using hk')];simp [Sort.putRow,Sort.mapBlock,Sort.ahead,aDn,hkb]
 have hc:=hk _ [] x y hW;have h0':Holds (Go.Proofs.sortWorldK (fun x:τ=>GT.cells x) (GT.sz τ) w b off m dk os) (fps []) [] (Go.Proofs.sortWorldK (fun x:τ=>GT.cells x) (GT.sz τ) w b off m dk os):=⟨rfl,⟨rfl,aAu _⟩,rfl,aAu _,fun _ _ _=>rfl,fun x hx=>(by cases hx),by simp [fps],fun k hk=>by simp [fps] at hk⟩;have hargs:(([Value.agg (GT.cells x).toArray,Value.agg (GT.cells y).toArray]++cs:List Value)).toArray=#[Value.agg (GT.cells x).toArray,Value.agg (GT.cells y).toArray]++cs.toArray:=by simp
 rw [← hargs];refine (hc h0').mono fun e w' ⟨v,M',h1,h2,h3⟩=>?_;obtain ⟨h4,_⟩:=h2;subst h4;exact ⟨h1,nI h3⟩
open Classical in
noncomputable def FQ {δ:Type} (l:List δ) (f:δ→δ→Option Int):Option (List δ):=if (∀ x y,∃ v,f x y=some v)∧SW0 (fun x y=>decide ((f x y).getD 0 < 0)) then Sc (fun x y=>decide ((f x y).getD 0 < 0)) l else none
theorem VN {P:Program} {f g:FuncId} (w:World) (a0:TL τ) (cs:List Value) (a1:δ→δ→Option Int) (r:List δ) (hp:FQ (GT.dat a0) a1=some r)
  (hk:∀ (w':World) (F:List HP) (x y:τ) (v:Int),Holds w (fps [Af a0]) F w'→a1 (GT.dat x) (GT.dat y)=some v→Spec P g ([Value.agg (GT.cells x).toArray,Value.agg (GT.cells y).toArray]++cs).toArray w' [] (IsV (.int .i64 v)))
  (hs:∀ (b off cap:Nat) (d:Array τ),Sort.SWO (Go.Proofs.ltOf fun x y:τ=>(a1 (GT.dat x) (GT.dat y)).getD 0)→Go.Proofs.CmpLays P g cs.toArray (fun x:τ=>GT.cells x) (GT.sz τ) (fun x y=>(a1 (GT.dat x) (GT.dat y)).getD 0) b off d.size w→Sort.HoldsK (fun x:τ=>GT.cells x) (GT.sz τ) w b off d→b < w.heap.size→d.size < 4611686018427387904 →
   Calls P f #[.slice (some ⟨b,off,none⟩) d.size cap,.func (.func g) #[] cs.toArray] w fun e w'=>e=.returned (.tuple #[])∧∃ n os,w'=Go.Proofs.sortWorldK (fun x:τ=>GT.cells x) (GT.sz τ) w b off n (Sort.pdq (Go.Proofs.ltOf fun x y:τ=>(a1 (GT.dat x) (GT.dat y)).getD 0) d 0 d.size (Lib.bitLen d.size) true true) os)
  (h0:∀ (p:Option Addr) (cap:Nat),Calls P f #[.slice p 0 cap,.func (.func g) #[] cs.toArray] w fun e w'=>e=.returned (.tuple #[])∧w'=w) :
  Spec P f #[a0.hdr,.func (.func g) #[] cs.toArray] w [Af a0] (fun v M=>∃ y0:TL τ,v=.tuple #[]∧GT.dat y0=r∧M=[Af y0]∧y0.hdr=a0.hdr):=by
 unfold FQ at hp;split at hp
 ·rename_i hc;refine fT w a0 cs (fun x y=>(a1 x y).getD 0) hc.2 r hp (fun w' F x y hF=>?_) hs h0;obtain ⟨v,hv⟩:=hc.1 (GT.dat x) (GT.dat y);rw [hv];exact hk w' F x y v hF hv
 ·cases hp
end
end Go.Proofs.SL
