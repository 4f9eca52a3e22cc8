/- The texts of the proof, part 6. -/
import Derived.Test.YthlbpedehajlgaaGreatT5
import Derived.Test.YthlbpedehajlgaaGreatT4
set_option linter.all false
namespace Go.Proofs.SL
open Go
variable {Γ:Cx} {l l':BR} {M M' M1 M2 F A:List HP} {Qp:CX} {K:CW} {w0 w:World} {S0:List Nat}
variable {ops:Array Oper} {fuel:Nat} {listed:Array Bool} {i d:Nat} {o:Oper}
theorem DI {τ:Type} {X Y:TL τ} (h:Y.hdr=X.hdr):Y.g=X.g:=by
 unfold TL.hdr at h;injection h with h1 h2 h3;unfold TL.g;rw [h1]
theorem DJ {τ:Type} {X Y:TL τ} (h:Y.hdr=X.hdr):Y.o=X.o:=by
 unfold TL.hdr at h;injection h with h1 h2 h3;unfold TL.o;rw [h1]
def Um (ops:Array Oper) (k c:Nat):Bool:=match ops[k]? with
 | none=>false
 | some o=>o.after.toList.any fun e=>e.on == c&&Region.binds .any e
def VT (ops:Array Oper) (i:Nat):Nat→List Nat→Bool
 | k,[]=>Um ops k i
 | k,c::cs=>Um ops k c&&VT ops i c cs
def Closed (ops:Array Oper) (listed:Array Bool):Prop:=∀ k o,ops[k]?=some o→listed.getD k false=true→∀ e,e∈o.after→Region.binds .any e=true→listed.getD e.on false=true
def Rj (ops:Array Oper) (listed:Array Bool):Bool:=(List.range ops.size).all fun k=>!listed.getD k false||match ops[k]? with
 | none=>true
 | some o=>o.after.toList.all fun e=>!Region.binds .any e||listed.getD e.on false
theorem kK (h:Rj ops listed=true):Closed ops listed:=fun k o hk hl e he hb=>by
 unfold Rj at h;rw [aAw] at h;have h1:=h k (aAv.2 (aB7.1 hk).1);rw [hk,hl] at h1;simp only [aAe,aAz,aAw] at h1;have h2:=h1 e (by simpa using he);rw [hb] at h2;simpa using h2
theorem gD {k c:Nat} (h:Um ops k c=true):∃ o e,ops[k]?=some o∧e∈o.after∧e.on=c∧Region.binds .any e=true:=by
 unfold Um at h;split at h
 ·cases h
 ·rename_i o ho;rw [aBs] at h;obtain ⟨e,he,h1⟩:=h;rw [aAg] at h1;exact ⟨o,e,ho,by simpa using he,by simpa using h1.1,h1.2⟩
theorem Tx (hc:Closed ops listed) {k c:Nat} (h:Um ops k c=true) (hk:listed.getD k false=true∨k∈Region.ready .any ops listed):listed.getD c false=true:=by
 obtain ⟨o,e,ho,he,rfl,hb⟩:=gD h;rcases hk with hk | hk
 ·exact hc k o ho hk e he hb
 ·obtain ⟨_,o',ho',hall⟩:=mem_ready.1 hk;rw [ho] at ho';cases ho';exact hall e he hb
theorem Pl (hc:Closed ops listed):∀ (cs:List Nat) {k:Nat},VT ops i k cs=true→(listed.getD k false=true∨k∈Region.ready .any ops listed)→listed.getD i false=true
 | [],_,h,hk=>Tx hc h hk
 | c::cs,k,h,hk=>by
  have h1:=Bool.and_eq_true_iff.1 h;exact Pl hc cs h1.2 (.inl (Tx hc h1.1 hk))
theorem Closed.set (hc:Closed ops listed) {j:Nat} (hj:j∈Region.ready .any ops listed):Closed ops (listed.setIfInBounds j true):=fun k o hk hl e he hb=>by
 by_cases h:j=k
 ·subst h;obtain ⟨_,o',ho',hall⟩:=mem_ready.1 hj;rw [hk] at ho';cases ho';exact getD_set_true (hall e he hb)
 ·rw [getD_set_ne false h] at hl;exact getD_set_true (hc k o hk hl e he hb)
def wpG (P:Program) (ops:Array Oper) (Q:Exit→Act→World→Prop) (last:Nat) (S:World→Prop):Nat→Array Bool→Act→World→Prop
 | 0,listed,a,w=>Region.ready .any ops listed=[]∧Q .normal a w
 | fuel+1,listed,a,w=>(Region.ready .any ops listed=[]→Q .normal a w) ∧
  ∀ i∈Region.ready .any ops listed,wpOp P ops Q i (fun a' w'=>((listed.setIfInBounds i true).getD last false=false→S w')∧wpG P ops Q last S fuel (listed.setIfInBounds i true) a' w') a w
theorem VU {P:Program} {Q:Exit→Act→World→Prop} {last:Nat} {S:World→Prop}:∀ (fuel:Nat) (listed:Array Bool) (a:Act) (w:World),wpG P ops Q last S fuel listed a w→wpAny P .any ops Q fuel listed a w
 | 0,_,_,_,h=>h
 | fuel+1,_,_,_,h=>⟨h.1,fun i hi=>wpOp_mono (fun a' w' h'=>VU fuel _ a' w' h'.2) (h.2 i hi)⟩
theorem ZD (h:i∈Region.ready .any ops listed):listed.getD i false=false:=by
 have h0:=(mem_ready.1 h).1;rcases aCf i listed.size with h' | h'
 ·simp [h'] at h0 ⊢;exact h0
 ·simp [aD8 h'] at h0
theorem kL {P:Program} {Q:Exit→Act→World→Prop} {last:Nat} {S:World→Prop} {oi:Oper} {v:Value} {cs:List Nat} (hi:ops[i]?=some oi) (hsel:∀ (j:Nat) (o:Oper) cs b,ops[j]?=some o→o.op≠.select cs b)
  (hQ:∀ c a w,Q (.panic c) (a.put oi.dst v) w→Q (.panic c) a w) (hch:VT ops i last cs=true) (hil:i≠last):∀ (fuel:Nat) (listed:Array Bool) (a:Act) (w:World),Closed ops listed →
   (∀ j oj,ops[j]?=some oj→j≠i→listed.getD j true=false→(∀ e∈oj.after,Region.binds .any e=true→e.on≠i)→oi.apart ops oj=true) →
   i∈Region.ready .any ops listed→YieldsIf P ops S oi v a→S w →
   wpG P ops Q last S fuel (listed.setIfInBounds i true) (a.put oi.dst v) w→wpG P ops Q last S (fuel+1) listed a w:=by
 intro fuel
 induction fuel with
 | zero =>
  intro listed a w hc _ hr hy hS H;refine ⟨fun h=>(by rw [h] at hr;cases hr),fun j hj=>?_⟩;by_cases hji:j=i
  ·subst hji;exact hy.wpOp hi hS ⟨fun _=>hS,H⟩
  ·have:=ready_mono hj hji;rw [H.1] at this;cases this
 | succ fuel ih =>
  intro listed a w hc hfree hr hy hS H;refine ⟨fun h=>(by rw [h] at hr;cases hr),fun j hj=>?_⟩;by_cases hji:j=i
  ·subst hji;exact hy.wpOp hi hS ⟨fun _=>hS,H⟩
  ·have h1:=H.2 j (ready_mono hj hji);obtain ⟨hjun,oj,hoj,hall⟩:=mem_ready.1 hj;have hun:=ZD hr;have hnot:∀ e∈oj.after,Region.binds .any e=true→e.on≠i:=fun e he hb heq=>by
    have h1:=hall e he hb;rw [heq,hun] at h1;cases h1
   have hjl:j≠last:=fun e=>by
    subst e;have:=Pl hc cs hch (.inr hj);rw [hun] at this;cases this
   have hll:listed.getD last false=false:=by
    cases hl:listed.getD last false with
    | false=>rfl
    | true =>
     have:=Pl hc cs hch (.inl hl);rw [hun] at this;cases this
   have h2:=wpOp_putIf hoj (hfree j oj hoj hji hjun hnot) (fun cs b=>hsel i oi cs b hi) (fun cs b=>hsel j oj cs b hoj) hQ hy h1;have hfree':∀ k ok,ops[k]?=some ok→k≠i→(listed.setIfInBounds j true).getD k true=false →
     (∀ e∈ok.after,Region.binds .any e=true→e.on≠i)→oi.apart ops ok=true:=fun k ok hk hki hun hno=>by
    refine hfree k ok hk hki ?_ hno;by_cases hjk:j=k
    ·subst hjk;exact hjun
    ·rw [getD_set_ne true hjk] at hun;exact hun
   have hfl:((listed.setIfInBounds i true).setIfInBounds j true).getD last false=false:=by
    rw [getD_set_ne false hjl,getD_set_ne false hil];exact hll
   refine wpOp_mono (fun a' w' h3=>⟨fun _=>h3.2.1 hfl,ih (listed.setIfInBounds j true) a' w' (hc.set hj) hfree' (ready_mono hr (Ne.symm hji)) h3.1 (h3.2.1 hfl) ?_⟩) h2;rw [aCn _ _ hji];exact h3.2.2
theorem nN {P:Program} {Q:Exit→Act→World→Prop} {last:Nat} {S:World→Prop} {a:Act} {w:World} (hr:Region.ready .any ops listed=[]) (h:Q .normal a w):∀ fuel,wpG P ops Q last S fuel listed a w
 | 0=>⟨hr,h⟩
 | _+1=>⟨fun _=>h,by rw [hr];simp⟩
theorem pV {P:Program} {Q:Exit→Act→World→Prop} {last:Nat} {S S':World→Prop} (hs:∀ w,S' w→S w):∀ (fuel:Nat) (listed:Array Bool) (a:Act) (w:World),wpG P ops Q last S' fuel listed a w→wpG P ops Q last S fuel listed a w
 | 0,_,_,_,h=>h
 | fuel+1,_,_,_,h=>⟨h.1,fun i hi=>wpOp_mono (fun a' w' h'=>⟨fun hf=>hs _ (h'.1 hf),pV hs fuel _ a' w' h'.2⟩) (h.2 i hi)⟩
theorem ZE {P:Program} {Q:Exit→Act→World→Prop} {last:Nat} {S S':World→Prop}:∀ (fuel:Nat) (listed:Array Bool) (a:Act) (w:World),listed.getD last false=true→wpG P ops Q last S' fuel listed a w→wpG P ops Q last S fuel listed a w
 | 0,_,_,_,_,h=>h
 | fuel+1,_,_,_,hl,h=>⟨h.1,fun i hi=>wpOp_mono (fun a' w' h'=>⟨fun hf=>(by rw [getD_set_true hl] at hf;cases hf),ZE fuel _ a' w' (getD_set_true hl) h'.2⟩) (h.2 i hi)⟩
def AG (Γ:Cx) (ops:Array Oper) (A:List HP) (Qp:CX) (last fuel:Nat) (listed:Array Bool) (l:BR) (M:List HP):Prop :=
 ∀ a w,Env a Γ.n l→Holds Γ.w0 Γ.S0 M w→wpG Γ.P ops (Ng Γ Qp) last (Sees Γ.w0 Γ.S0 A) fuel listed a w
variable {last:Nat}
theorem ZF (A:List HP) (last:Nat) {id:Nat} (hm:Γ.P.follows .mixedOrders=true) (h:AG Γ ops A Qp last ops.size (Array.replicate ops.size false) l M):W Γ (.region id ops true) l M Qp:=fun a w ha hw =>
 wp_region_any hm (VU _ _ _ _ (h a w.drew ha hw.drew))
theorem Xe (hr:Region.ready .any ops listed=[]) (h:Qp .normal l M):AG Γ ops A Qp last fuel listed l M:=fun _ _ ha hw=>nN hr ⟨l,M,ha,hw,h⟩ fuel
theorem Dj {v:Value} (i:Nat) (cs:List Nat) (hi:ops[i]?=some o) (hp:Pu Γ A l o d v) (hs:Region.noSelect ops=true) (hf:Region.free .any ops listed i=true) (hr:(Region.ready .any ops listed).contains i=true)
  (hch:VT ops i last cs=true) (hil:Nat.beq i last=false) (hcl:Rj ops listed=true)
  (hA:AllIn A M) (hk:AG Γ ops A Qp last fuel (listed.setIfInBounds i true) ((d,v)::l) M):AG Γ ops A Qp last (fuel+1) listed l M:=fun a w ha hw =>
 kL hi (Region.noSelect_spec hs) (fun _ _ _ h=>h) hch (fun e=>by subst e;rw [aD7] at hil;cases hil) fuel listed a w (kK hcl) (Region.free_spec hi hf) (by simpa using hr)
  (.inl ⟨by simp [Region.wanted,hp.gd],fun w hw=>hp.pu a w ha hw⟩) (hw.seesSub hA.mem) (hk _ w (by rw [hp.dst];exact ha.put hp.lt) hw)
theorem LL (i:Nat) {rest:List Oper} (hi:ops.toList.drop i=o::rest) (hg:o.guard=none) (hr:Region.ready .any ops listed=[i])
  (h:L Γ [o] l M (fun l' M'=>AllIn A M'∧AG Γ ops A Qp last fuel (listed.setIfInBounds i true) l' M')):AG Γ ops A Qp last (fuel+1) listed l M:=fun a w ha hw=>by
 refine ⟨fun h0=>(by rw [hr] at h0;cases h0),fun j hj=>?_⟩;rw [hr] at hj;rw [aAl.1 hj];unfold wpOp;rw [Mw hi];simp only [Region.wanted,hg,if_true];refine .inl (Oper.wp_mono (fun a' w' h1=>?_) (Nj h hg ha hw));obtain ⟨_,l',M',h1,h2,h3,h4⟩:=h1;exact ⟨fun _=>h2.seesSub h3.mem,h4 a' w' h1 h2⟩
theorem Xf (i:Nat) {rest:List Oper} (hi:ops.toList.drop i=o::rest) (hg:o.guard=none) (hr:Region.ready .any ops listed=[i]) (hil:(listed.setIfInBounds i true).getD last false=true)
  (h:L Γ [o] l M (fun l' M'=>AG Γ ops [] Qp last fuel (listed.setIfInBounds i true) l' M')):AG Γ ops A Qp last (fuel+1) listed l M:=fun a w ha hw=>by
 refine ⟨fun h0=>(by rw [hr] at h0;cases h0),fun j hj=>?_⟩;rw [hr] at hj;rw [aAl.1 hj];unfold wpOp;rw [Mw hi];simp only [Region.wanted,hg,if_true];refine .inl (Oper.wp_mono (fun a' w' h1=>?_) (Nj h hg ha hw));obtain ⟨_,l',M',h1,h2,h4⟩:=h1;refine ⟨fun hf=>(by rw [hil] at hf;cases hf),?_⟩;exact ZE fuel _ a' w' hil (h4 a' w' h1 h2)
theorem NY (A':List HP) (hs:AllIn A A') (h:AG Γ ops A' Qp last fuel listed l M):AG Γ ops A Qp last fuel listed l M:=fun a w ha hw =>
 pV (fun w h=>⟨h.old,fun x hx=>h.prs x (hs.mem x hx)⟩) _ _ _ _ (h a w ha hw)
section
variable {ty:TypeId} {pos:String} {af:Array Edge}
theorem UI {x:Operand} {a:Addr} (hn:Nat.blt d Γ.n=true) (hx:ev l x=some (.pointer (some a))) :
  Pu Γ A l ⟨some d,.nilCheck x,ty,pos,af,none⟩ d (.pointer (some a)) :=
 Ka hn fun a' w ha _=>by simp [execOp,ha.eval hx]
end
variable {Γ:Cx} {rest:List Oper} {d:Nat} {ty:TypeId} {pos:String} {af:Array Edge} {gd:Option (Nat×Bool)}
variable {ops:Array Oper} {Msh pool:List HP} {E:Fl} {rs:List (Option Nat×Rel)} {cs0:List Nat} {KD:Gx}
variable {Γ:Cx} {l:BR} {M A:List HP} {K:CW} {rest:List Oper} {d:Nat} {ty:TypeId} {pos:String} {af:Array Edge}
def Ty (P:Program) (T:TypeId) (f:Nat):Option Nat:=match P.underlying T with
 | some (.struct fs)=>match fs[f]? with
  | some x=>if Ie P x.type then some x.offset else none
  | none=>none
 | _=>none
theorem VV {P:Program} {T f fo:Nat} {cs:List Value} {v:Value} (ht:Ty P T f=some fo) (hv:cs[fo]?=some v) (w:World):(Instr.field T (.agg cs.toArray) f).run P w=.ok v w:=by
 unfold Ty at ht;split at ht<;>(try cases ht);rename_i fs hfs;split at ht<;>(try cases ht);rename_i x hx;split at ht<;>cases ht;rename_i h1;simp [Instr.field,underlying,hfs,hx,asAgg,part,Fx h1,hv]
theorem dX {x:Operand} {T f fo:Nat} {cs:List Value} {v:Value} (hn:Nat.blt d Γ.n=true) (hx:ev l x=some (.agg cs.toArray)) (ht:Ty Γ.P T f=some fo) (hv:cs[fo]?=some v) (hk:L Γ rest ((d,v)::l) M K) :
  L Γ (⟨some d,.field T x f,ty,pos,af,none⟩::rest) l M K :=
 Eq hn (fun a w ha _=>by simp [execOp,ha.eval hx,VV ht hv w]) hk
theorem ZG {x:Operand} {T f fo:Nat} {cs:List Value} {v:Value} (hn:Nat.blt d Γ.n=true) (hx:ev l x=some (.agg cs.toArray)) (ht:Ty Γ.P T f=some fo) (hv:cs[fo]?=some v) :
  Pu Γ A l ⟨some d,.field T x f,ty,pos,af,none⟩ d v :=
 Ka hn fun a w ha _=>by simp [execOp,ha.eval hx,VV ht hv w]
variable {Γ:Cx} {l:BR} {M M' M1 M2 F:List HP} {Q:CX} {K:CW} {w0 w:World} {S0:List Nat}
variable {rest:List Oper} {d:Nat} {ty:TypeId} {pos:String} {af:Array Edge}
section
variable {τ δ:Type} [GT τ δ]
theorem Fq {s x:Operand} {T e sz by_ c b:Nat} {z:List Value} {X:TL τ} {T':TypeId} (y:τ) {r:List δ} (hn:Nat.blt d Γ.n=true)
  (hs:ev l s=some X.hdr) (hx:ev l x=some (.slice (some ⟨b,0,none⟩) 1 c)) (ht:elOf Γ.P T=some (e,sz,by_,z)) (hsz:GT.sz τ=sz) (hz:z.length=sz)
  (hp:Pick (Af X) M M1) (hsrc:blk b (GT.cells y) T'∈M) (hy:Pick (Af y) M1 M2)
  (hr:Cj (GT.dat X) [GT.dat y]=some r) (hb:by_≤32768)
  (hk:∀ X':TL τ,GT.dat X'=r→y∈X'.els→L Γ rest ((d,X'.hdr)::l) (Af X'::M2) K) :
  L Γ (⟨some d,.call { callee:=.builtin .append,args:=#[s,x],argTypes:=#[T,T] },ty,pos,af,none⟩::rest) l M K:=by
 obtain ⟨h1,rfl⟩:=HJ hr;refine Zl (ys:=[y]) hn hs hx ht hsz hz hp rfl (fun w hw j v hv=>?_) (fun w R h=>mH (h.perm (hy.perm.append_right R))) (by simpa [BQ] using h1) hb
  (fun X' h=>hk X' (by rw [BQ,h,aCb,BQ];rfl) (by rw [h];simp))
 rw [DP];exact Ax (Γ:=Γ) hsrc w hw j v (by simpa [Av] using hv)
theorem Vf {P:Program} (w:World) (t ty e e2:TypeId) (i:TypeInfo) (ht:P.underlying t=some (.slice e)) (hi:P.info? e=some i)
  (g o sLen sCap:Nat) (cur:Array Value) (hg:w.heap[g]?=some (.cells cur e2 (0,0)))
  (a:Addr) (m c:Nat) (news:List Value) (hl:news.length=m*i.size) (hnews:∀ j u,news[j]?=some u→w.cell? (a.add j)=some u) (h1:∀ u∈news,u.oneCell'=true)
  (hroom:sLen+m≤sCap) (hfit:o+sLen*i.size+news.length≤cur.size) :
  (Builtin.append_ #[t,t] ty #[.slice (some ⟨g,o,none⟩) sLen sCap,.slice (some a) m c]).run P w =
   .ok (.slice (some ⟨g,o,none⟩) (sLen+m) sCap) (w.setRow g (cur.toList.take (o+sLen*i.size)++news++cur.toList.drop (o+sLen*i.size+news.length)).toArray):=by
 have hf:=run_firstCells_some (P:=P) w i.size m a m c news hl hnews;have hst:=run_storeCells_at P g (o+sLen*i.size) e2 news 0 cur w hg (by simpa using hfit) h1;simp only [aEp] at hst;simp [Builtin.append_,run_underlying ht,sizeOf,typeInfo,hi,Builtin.lenOf,hroom,hf,Addr.add_lit,hst]
end
section
variable {τ δ:Type} [GT τ δ] [FlatT τ]
theorem kM {P:Program} {T e sz by_:Nat} {z:List Value} {X:TL τ} {ys:List τ} (ht:elOf P T=some (e,sz,by_,z)) (hsz:GT.sz τ=sz) (hz:z.length=sz) (hw:Holds w0 S0 (flH X::F) w)
  {a:Addr} {c:Nat} (hsrc:∀ j v,(Av ys)[j]?=some v→w.cell? (a.add j)=some v) (hm:X.els.length+ys.length≤4294967296) (a0:ys≠[]) (hb:by_≤32768) (ty:TypeId) :
  ∃ (X':TL τ) (w':World),X'.els=X.els++ys∧(Builtin.append_ #[T,T] ty #[X.hdr,.slice (some a) ys.length c]).run P w=.ok X'.hdr w'∧Holds w0 S0 (flH X'::F) w':=by
 unfold elOf at ht;split at ht<;>(try cases ht);rename_i e' het;split at ht<;>(try cases ht);rename_i i' hi';split at ht<;>cases ht;rename_i z' hz';have hzs:z'.cells.size=i'.size:=by rw [← aDj];exact hz
 have hpos:0 < i'.size:=hsz ▸ GT.pos (τ:=τ);obtain ⟨La,Lc,Le,Lx,Lt⟩:=X;obtain ⟨hr,hv1,hv2⟩:=hw.prs (flH _) (aA9 ..);obtain ⟨hr1,hr2,_,hr4,hr5⟩:=hr;dsimp only at hr1 hr2 hr4 hr5 hv1 hv2 hm ⊢;have hlx:(Av Lx).length=Lx.length*i'.size:=by rw [BV,hsz]
 have hly:(Av ys).length=ys.length*i'.size:=by rw [BV,hsz]
 have hyl:0 < ys.length:=aFe.2 a0;have hby:(Lx.length+ys.length)*i'.bytes≤140737488355328:=by
  have:=Nat.mul_le_mul hm hb;omega
 have hone:∀ u,u∈Av ys→u.oneCell'=true:=fun u hu=>OX ys u hu;have hgrow:∀ (old:Nat) (h:HP),h=flH (⟨La,Lc,Le,Lx,Lt⟩:TL τ)→Holds w0 S0 (flH (⟨some ⟨w.heap.size,0,none⟩,grownCap w (Lx.length+ys.length) old e,e,Lx++ys,(Builtin.zeroCells z'.cells (grownCap w (Lx.length+ys.length) old e - (Lx.length+ys.length))).toList⟩:TL τ)::F)
   (w.drew.alloc (.cells ((Av Lx).toArray++(Av ys).toArray++Builtin.zeroCells z'.cells (grownCap w (Lx.length+ys.length) old e - (Lx.length+ys.length))) e)):=by
  intro old h hh;have hge:=grownCap_ge w (Lx.length+ys.length) old e;have hcm:grownCap w (Lx.length+ys.length) old e≤maxLen:=grownCap_le_maxLen w (Lx.length+ys.length) old e (by simp only [maxLen];omega);have hnew:=heap_alloc_new w.drew (.cells ((Av Lx).toArray++(Av ys).toArray++Builtin.zeroCells z'.cells (grownCap w (Lx.length+ys.length) old e - (Lx.length+ys.length))) e);simp only [World.size_drew] at hnew;refine Holds.swap (w':=w.drew.alloc _) (hh ▸ hw:Holds w0 S0 (h::F) w) rfl ⟨rfl,Nat.le_succ _⟩ rfl (by simp) (fun k hk _=>?_) (fun k hk=>?_) (by simp [flH,slB]) ?_
  ·rw [heap_alloc_old _ _ (by simpa using hk)];rfl
  ·simp [flH,slB] at hk;subst hk;exact ⟨.inr (aAu _),by simp⟩
  ·refine ⟨⟨by simpa using hge,hcm,fun x _=>Rh x _ _,fun h=>(by cases h),fun a ha=>?_⟩,fun h=>(by cases h),fun a ha=>?_⟩
   ·cases ha;refine ⟨fun _=>rfl,fun j v hv=>⟨?_,by simp⟩⟩;dsimp only at hv;simp only [World.cell?,hnew,aBk,aE4,aBr,if_false]
    have hlt:=(aA2.1 hv).1;rw [CG] at hv hlt;rw [aEg (by simpa using hlt),← Array.getElem?_toList];simpa using hv
   ·cases ha;refine ⟨rfl,_,_,hnew,?_⟩;simp only [Array.size_append,aDi,dJ,hzs,hlx,hly,hsz,aBk];rw [← aC3,← aC3];exact aCg _ om
 cases La with
 | none =>
  have a1:=hr4 rfl;have q0:=hv1 rfl;subst a1;subst q0;have hrun:=run_append_nil (P:=P) w T ty e i' z' het hi' hz' a ys.length c (Av ys) hly hsrc hyl om (by simp at hby;omega);have:=hgrow 0 _ rfl;simp only [aCr,aBk,aAa] at this ⊢;have e0:(Av ([]:List τ)).toArray=#[]:=rfl;rw [e0,Array.empty_append] at this;exact ⟨⟨some ⟨w.heap.size,0,none⟩,grownCap w ys.length 0 e,e,ys,(Builtin.zeroCells z'.cells (grownCap w ys.length 0 e - ys.length)).toList⟩,_,rfl,hrun,this⟩
 | some La =>
  obtain ⟨h1,cur,e2,h3,h4⟩:=hv2 La rfl;obtain ⟨_,h5⟩:=hr5 La rfl;obtain ⟨g,o,s⟩:=La;dsimp only at h1 h3 h4 h5;subst h1;have hhd:TL.hdr (⟨some ⟨g,o,none⟩,Lc,Le,Lx,Lt⟩:TL τ)=.slice (some ⟨g,o,none⟩) Lx.length Lc:=rfl;rw [hhd];rw [hsz] at h4;by_cases hroom:Lx.length+ys.length≤Lc
  ·have hfit:o+Lx.length*i'.size+(Av ys).length≤cur.size:=by
    have:=aCg i'.size hroom;rw [aC3] at this;rw [hly];omega
   have hrun:=Vf (P:=P) w T ty e e2 i' het hi' g o Lx.length Lc _ h3 a ys.length c (Av ys) hly hsrc hone hroom hfit;refine ⟨⟨some ⟨g,o,none⟩,Lc,Le,Lx++ys,Lt⟩,_,rfl,(show _=Result.ok (Value.slice (some ⟨g,o,none⟩) (Lx++ys).length Lc) _ from by rw [aAq];exact hrun),?_⟩;have hnew:=setRow_heap w g cur (cur.toList.take (o+Lx.length*i'.size)++Av ys++cur.toList.drop (o+Lx.length*i'.size+(Av ys).length)).toArray e2 (0,0) h3;refine Holds.swap hw rfl ⟨rfl,aAu _⟩ rfl (by simp) (fun k hk hn=>?_) (fun k hk=>?_) (by simp [flH,slB]) ?_
   ·exact setRow_other _ _ _ _ (fun e=>hn (by simp [flH,slB,e]))
   ·simp [flH,slB] at hk;subst hk;exact ⟨.inl (by simp [flH,slB]),by simp;exact (aB7.1 h3).1⟩
   ·refine ⟨⟨by simpa using hroom,hr2,fun x _=>Rh x _ _,fun h=>(by cases h),fun a ha=>?_⟩,fun h=>(by cases h),fun a ha=>?_⟩
    ·cases ha;refine ⟨fun _=>rfl,fun j v hv=>⟨?_,by simp⟩⟩;dsimp only at hv;simp only [World.cell?,hnew,aE4,aBr,if_false];rw [aBm,aAh]
     have hsz1:o+Lx.length*i'.size≤cur.size:=by omega
     rw [CG] at hv;rcases aCf j (Av Lx).length with hj | hj
     ·rw [aAp hj] at hv;have hc:=(h5 j v hv).1;simp only [World.cell?,h3,aE4,aBr,if_false] at hc;rw [aAp (by simp;omega),aDu om];simpa using hc
     ·rw [aBb hj] at hv;have hj2:=(aA2.1 hv).1;have hl1:(cur.toList.take (o+Lx.length*i'.size)).length=o+Lx.length*i'.size:=by simp;omega
      rw [aBb (by rw [hl1];omega),hl1,aAp om];rw [← hv];congr 1;omega
    ·cases ha;refine ⟨rfl,_,_,hnew,?_⟩;rw [hsz];simp only [aDi,aAq,aB3,aC1,aDj];omega
  ·have holds:∀ j v,(Av Lx)[j]?=some v→w.cell? ((⟨g,o,none⟩:Addr).add j)=some v:=fun j v hv=>by
    rw [DP];exact (h5 j v hv).1
   have hrun:=run_append_grow (P:=P) w T ty e i' z' het hi' hz' ⟨g,o,none⟩ Lx.length Lc (Av Lx) hlx holds a ys.length c (Av ys) hly hsrc om om (growslice_fits om hby);exact ⟨⟨some ⟨w.heap.size,0,none⟩,grownCap w (Lx.length+ys.length) Lc e,e,Lx++ys,(Builtin.zeroCells z'.cells (grownCap w (Lx.length+ys.length) Lc e - (Lx.length+ys.length))).toList⟩,_,rfl,(show _=Result.ok (Value.slice (some ⟨w.heap.size,0,none⟩) (Lx++ys).length (grownCap w (Lx.length+ys.length) Lc e)) _ from by rw [aAq];exact hrun),hgrow Lc _ rfl⟩
theorem rZ {s x:Operand} {T e sz by_ c b:Nat} {z:List Value} {X:TL τ} {T':TypeId} (y:τ) {r:List δ} (hn:Nat.blt d Γ.n=true)
  (hs:ev l s=some X.hdr) (hx:ev l x=some (.slice (some ⟨b,0,none⟩) 1 c)) (ht:elOf Γ.P T=some (e,sz,by_,z)) (hsz:GT.sz τ=sz) (hz:z.length=sz)
  (hp:Pick (flH X) M M1) (hsrc:blk b (GT.cells y) T'∈M)
  (hr:Cj (GT.dat X) [GT.dat y]=some r) (hb:by_≤32768)
  (hk:∀ X':TL τ,GT.dat X'=r→L Γ rest ((d,X'.hdr)::l) (flH X'::M1) K) :
  L Γ (⟨some d,.call { callee:=.builtin .append,args:=#[s,x],argTypes:=#[T,T] },ty,pos,af,none⟩::rest) l M K:=by
 obtain ⟨h1,rfl⟩:=HJ hr;simp only [BQ,aB1,aB5,aCr] at h1;refine Md (fun v M'=>∃ X':TL τ,X'.els=X.els++[y]∧v=X'.hdr∧M'=flH X'::M1) rfl rfl (aAc hn)
  (fun a w ha hw=>?_) (fun v M' ⟨X',h0,h1,h2⟩=>by subst h1;subst h2;exact hk X' (by rw [BQ,h0,aCb,BQ];rfl))
 have hsr:∀ j v,(Av [y])[j]?=some v→w.cell? ((⟨b,0,none⟩:Addr).add j)=some v:=fun j v hv=>by
  rw [DP];exact Ax (Γ:=Γ) hsrc w hw.sees j v (by simpa [Av] using hv)
 obtain ⟨X',w',h2,h3,h4⟩:=kM (P:=Γ.P) (c:=c) ht hsz hz (hw.perm hp.perm) hsr (by simpa using h1) (by simp) hb ty;refine ⟨_,_,w',⟨X',h2,rfl,rfl⟩,?_,h4⟩;have h3':(Builtin.append_ #[T,T] ty #[X.hdr,.slice (some ⟨b,0,none⟩) 1 c]).run Γ.P w=.ok X'.hdr w':=h3;generalize TL.hdr X'=vv at *;generalize X.hdr=uu at *;simp [execOp,resolve,invoke,builtin,ha.eval hs,ha.eval hx,h3']
end
section
variable {τ δ:Type} [GT τ δ] {t:τ}
theorem RdT.any (h:∀ w S,GT.rd w S t):RdT Γ M t:=fun w _=>h w []
theorem RdO.any (h:∀ w S,GT.rd w S t) {w:World} {S:List Nat}:RdO w S t:=h w S
theorem RdX.any (h:∀ w S,GT.rd w S t):RdX Γ M1 M2 t:=fun w _=>h w _
end
variable {Γ:Cx} {l:BR} {A:List HP} {rest:List Oper} {d:Nat} {ty:TypeId} {pos:String} {af:Array Edge} {gd:Option (Nat×Bool)}
variable {ops:Array Oper} {Msh pool:List HP} {E:Fl} {rs:List (Option Nat×Rel)} {cs0:List Nat} {KD:Gx}
section
variable {τ δ:Type} [GT τ δ] [FlatT τ]
theorem nO {t1 t2 T e sz by_:Nat} {z:List Value} {T':TypeId} (y:τ) {ra r:List δ}
  (hs:E.lookup t1=some (HU (τ:=τ) ra)) (hx:E.lookup t2=some (Zp (GT.cells y) T')) (ht:elOf Γ.P T=some (e,sz,by_,z)) (hsz:GT.sz τ=sz) (hz:z.length=sz)
  (hr:Cj ra [GT.dat y]=some r) (hb:by_≤32768)
  (hlin:IC ops ⟨some d,.call { callee:=.builtin .append,args:=#[.tmp t1,.tmp t2],argTypes:=#[T,T] },ty,pos,af,none⟩ [t1,t2]=true)
  (hk:DV Γ ops Msh pool ((d,HU (τ:=τ) r)::Eb [t1,t2] E) ((some d,HU (τ:=τ) r)::rs) ([t1,t2]++cs0) rest KD) :
  DV Γ ops Msh pool E rs cs0 (⟨some d,.call { callee:=.builtin .append,args:=#[.tmp t1,.tmp t2],argTypes:=#[T,T] },ty,pos,af,none⟩::rest) KD:=by
 refine DV.mk (HU (τ:=τ) r) [] pool [t1,t2] (by simp) hlin ?_ hk;intro a w F Mk _ _ hw hm hfa hcf;obtain ⟨M1,Mk1,rfl,hR1,M2,Mk2,rfl,hR2,hnil⟩:=hcf;have hnil:Mk2=[]:=hnil;subst hnil;obtain ⟨X,hv1,hd,rfl⟩:=hR1 _ hs;subst hd;obtain ⟨b,hv2,rfl⟩:=hR2 _ hx;rw [if_pos (by simp [Region.wanted])];have e1:a.eval (.tmp t1)=X.hdr:=hv1;have e2:a.eval (.tmp t2)=.slice (some ⟨b,0,none⟩) 1 1:=hv2;obtain ⟨hl,rfl⟩:=HJ hr;simp only [BQ,aB1,aB5,aCr] at hl;have hw1:Holds Γ.w0 Γ.S0 (Af X::blk b (GT.cells y) T'::F) w:=by simpa using hw
 have hsrc:∀ j v,(Av [y])[j]?=some v→w.cell? ((⟨b,0,none⟩:Addr).add j)=some v:=fun j v hv=>by
  rw [DP];exact Ax (Γ:=Γ) (M:=Af X::blk b (GT.cells y) T'::F) (aA4 _ (aA9 ..)) w hw1.sees j v (by simpa [Av] using hv)
 obtain ⟨a',c',e',tl,w',h1,h2⟩:=Kq (P:=Γ.P) (c:=1) ht hsz hz (KT hw1) hsrc (by simpa using hl) hb ty;have h1':(Builtin.append_ #[T,T] ty #[X.hdr,.slice (some ⟨b,0,none⟩) 1 1]).run Γ.P w=.ok (TL.hdr (⟨a',c',e',X.els++[y],tl⟩:TL τ)) w':=h1;have h3:(execOp a.eval ⟨some d,.call { callee:=.builtin .append,args:=#[.tmp t1,.tmp t2],argTypes:=#[T,T] },ty,pos,af,none⟩).run Γ.P w=.ok (.value (TL.hdr (⟨a',c',e',X.els++[y],tl⟩:TL τ))) w':=by
  generalize TL.hdr (⟨a',c',e',X.els++[y],tl⟩:TL τ)=vv at *;generalize X.hdr=uu at *;simp [execOp,resolve,invoke,builtin,e1,e2,h1']
 rw [h3];refine ⟨[Af (⟨a',c',e',X.els++[y],tl⟩:TL τ)],⟨_,rfl,?_,rfl⟩,?_⟩
 ·rw [BQ,aCb];rfl
 ·refine KU ?_;have h4:Holds Γ.w0 Γ.S0 (Ce X.els::Ce [y]::Be (⟨a',c',e',X.els++[y],tl⟩:TL τ)::F) w':=by
   have h5:=Lj (xs:=[y]) h2 (fun x _=>FlatT.flat x);have h6:Holds Γ.w0 Γ.S0 (Ce X.els::Ce [y]::Be (⟨a',c',e',X.els++[y],tl⟩:TL τ)::blk b (GT.cells y) T'::F) w' :=
    h5.perm (((aBy _ _ _).cons _).trans (aBy _ _ _))
   exact h6.sub ⟨[blk b (GT.cells y) T'],by
    show List.Perm _ (([Ce X.els,Ce [y],Be (⟨a',c',e',X.els++[y],tl⟩:TL τ)]++F)++[blk b (GT.cells y) T']);rw [aAh];exact (aB9 (l₁:=[blk b (GT.cells y) T']) (l₂:=F)).append_left [Ce X.els,Ce [y],Be (⟨a',c',e',X.els++[y],tl⟩:TL τ)]⟩
  exact (RW h4).perm (aBy _ _ _)
end
section
variable {τ δ:Type} [GT τ δ]
theorem uW {t:Nat} {T:TypeId} {e:TypeId×Nat×Nat×List Value} {c:Prop} {r:List δ} (hR:E.lookup t=some (HU (τ:=τ) r))
  (hg:GC ops E ⟨some d,.call { callee:=.builtin .len,args:=#[.tmp t],argTypes:=#[T] },ty,pos,af,gd⟩ c) (ht:elOf Γ.P T=some e)
  (hk:DV Γ ops Msh pool ((d,FC c (.int .i64 (r.length:Int)))::E) ((some d,FC c (.int .i64 (r.length:Int)))::rs) cs0 rest KD) :
  DV Γ ops Msh pool E rs cs0 (⟨some d,.call { callee:=.builtin .len,args:=#[.tmp t],argTypes:=#[T] },ty,pos,af,gd⟩::rest) KD :=
 Eg c _ hg (fun a' w F hc hf _=>by
  have h1:=OpRs.evals (o:=⟨some d,.call { callee:=.builtin .len,args:=#[.tmp t],argTypes:=#[T] },ty,pos,af,gd⟩) hf [.tmp t] [HU (τ:=τ) r] ⟨⟨_,hR,fun _ _ h=>h⟩,trivial⟩ (fun x hx=>by simp [Op.operands,Call.operands] at hx ⊢;exact hx);obtain ⟨v,us,M,e1,hr,-,-⟩:=h1;obtain ⟨X,hX,hd,_⟩:=hr;have e2:a'.eval (.tmp t)=X.hdr:=by
   have:=aG6 e1;rw [this,hX]
  have e3:a'.eval (.tmp t)=.slice X.a X.els.length X.cap:=e2;have:=NU (z:=e) ht X.a X.els.length X.cap ty w;have hl:r.length=X.els.length:=by rw [← hd,BQ,aB1]
  rw [hl];simp [execOp,resolve,invoke,builtin,e3,this]) hk
end
variable {Γ:Cx} {l:BR} {M M1 A:List HP} {K:CW} {Q:CX} {rest:List Oper} {d:Nat} {ty:TypeId} {pos:String} {af:Array Edge} {gd:Option (Nat×Bool)} {w0 w:World} {S0:List Nat}
variable {ops:Array Oper} {Msh pool:List HP} {E:Fl} {rs:List (Option Nat×Rel)} {cs0:List Nat} {KD:Gx}
section
variable {τ δ:Type} [GT τ δ]
theorem uX {xs ys:List τ} (e:xs=ys) (p:Pick (Ce xs) M M1) (h:Holds w0 S0 M w):Holds w0 S0 (Ce ys::M1) w:=by subst e;exact h.perm p.perm
theorem uY {c:Code} {X:TL τ} {i:Nat} {u:τ} (hu:X.els[i]?=some u) (p:Pick (HK X i (GT.cells u)) M M1)
  (hk:X.a=some ⟨X.g,0,none⟩→X.els.length≤X.cap→X.cap≤maxLen→X.els.length*GT.sz τ+X.tail.length=X.cap*GT.sz τ→W Γ c l (blk X.g (Av X.els++X.tail) X.e::Ce (X.els.eraseIdx i)::M1) Q):W Γ c l M Q:=by
 refine jM (φ:=X.a=some ⟨X.g,0,none⟩∧X.els.length≤X.cap∧X.cap≤maxLen∧X.els.length*GT.sz τ+X.tail.length=X.cap*GT.sz τ) (fun w h=>?_) (fun ⟨f1,f2,f3,f4⟩=>AX (fun w h=>?_) (hk f1 f2 f3 f4))
 ·obtain ⟨_,_,h3,h4,h5,_,_,h8⟩:=(h.perm p.perm).prs (HK X i (GT.cells u)) (aA9 ..);exact ⟨h5,h3,h4,h8⟩
 ·have h1:=h.perm p.perm;obtain ⟨_,_,_,_,_,h6,h7,_⟩:=h1.prs (HK X i (GT.cells u)) (aA9 ..);refine h1.reFp (aBa ?_) fun x hx=>?_
  ·simp only [BZ];show ([X.g]++(X.els.eraseIdx i).flatMap GT.fp)++fps M1=[X.g]++((X.els.eraseIdx i).flatMap GT.fp++fps M1);rw [aAh]
  ·rcases aAf.1 hx with rfl | hx
   ·show _=some (Obj.cells (Av X.els++X.tail).toArray X.e (0,0));rw [h7,To X.els hu,aAh,aAh]
   rcases aAf.1 hx with rfl | hx
   ·exact h6
   ·exact h1.prs _ (aA4 _ hx)
end
def gE (P:Program) (T:TypeId) (f:Nat):Option (Nat×Nat):=match P.underlying T with
 | some (.struct fs)=>match fs[f]? with
  | some x=>(Jp P x.type).map fun n=>(x.offset,n)
  | none=>none
 | _=>none
theorem gF {P:Program} {T f fo n:Nat} {cs:List Value} (ht:gE P T f=some (fo,n)) (w:World):(Instr.field T (.agg cs.toArray) f).run P w=.ok (.agg ((cs.drop fo).take n).toArray) w:=by
 unfold gE at ht;split at ht<;>(try cases ht);rename_i fs hfs;split at ht<;>(try cases ht);rename_i x hx;obtain ⟨m,hm,e⟩:=aD9.1 ht;cases e;obtain ⟨h1,h2⟩:=Ey hm w;simp [Instr.field,underlying,hfs,hx,asAgg,part,h1,h2,List.take_drop]
theorem nP {t:Nat} {T:TypeId} {fi fo n:Nat} {R:Rel} (R':Rel) (hR:E.lookup t=some R)
  (ht:gE Γ.P T fi=some (fo,n)) (hh:∀ v M,R v M→∃ cs:List Value,v=.agg cs.toArray∧R' (.agg ((cs.drop fo).take n).toArray) M)
  (hlin:IC ops ⟨some d,.field T (.tmp t) fi,ty,pos,af,none⟩ [t]=true)
  (hk:DV Γ ops Msh pool ((d,R')::Eb [t] E) ((some d,R')::rs) ([t]++cs0) rest KD) :
  DV Γ ops Msh pool E rs cs0 (⟨some d,.field T (.tmp t) fi,ty,pos,af,none⟩::rest) KD:=by
 refine DV.mk R' [] pool [t] (by simp) hlin ?_ hk;intro a w F Mk _ _ hw hm hfa hcf;obtain ⟨Mx,Mk',rfl,hRR,hnil⟩:=hcf;have hnil:Mk'=[]:=hnil;subst hnil;obtain ⟨cs,hv,h2⟩:=hh _ _ (hRR _ hR);rw [if_pos (by simp [Region.wanted])];have e1:a.eval (.tmp t)=.agg cs.toArray:=hv;have h3:(execOp a.eval ⟨some d,.field T (.tmp t) fi,ty,pos,af,none⟩).run Γ.P w=.ok (.value (.agg ((cs.drop fo).take n).toArray)) w:=by
  simp [execOp,e1,gF ht w]
 rw [h3];exact ⟨Mx,h2,by simpa using hw⟩
variable {Γ:Cx} {l:BR} {M M' M1 M2 F Mr:List HP} {Q:CX} {K:CW} {w0 w:World} {S0 S:List Nat} {P:Program}
variable {rest:List Oper} {d:Nat} {ty:TypeId} {pos:String} {af:Array Edge}
section
variable {τ δ:Type} [GT τ δ] {t:τ}
def subH (xs An:List τ):HP:=⟨[],fun _=>∀ x,x∈xs→x∈An,fun _ _ _ h=>h⟩
theorem ZH {X:TL τ} (h:RdT Γ M X):RdT Γ M (EL.mk X.els):=fun w hw=>(h w hw).2.2.1
theorem Aa6 {X:TL τ} (h:RdX Γ M1 M2 X):RdX Γ M1 M2 (EL.mk X.els):=fun w hw=>(h w hw).2.2.1
theorem Mz {X:TL τ} (h:RdP Mr w S X):RdP Mr w S (EL.mk X.els):=fun hp=>(h hp).2.2.1
theorem Aa7 {X:TL τ} (h:RdO w S X):RdO w S (EL.mk X.els):=h.2.2.1
theorem kN (h:RdT Γ M t):RdT Γ M (EL.mk [t]):=fun w hw x hx=>by rw [aAl.1 hx];exact h w hw
theorem kO (h:RdX Γ M1 M2 t):RdX Γ M1 M2 (EL.mk [t]):=fun w hw x hx=>by rw [aAl.1 hx];exact h w hw
theorem Qb (h:RdP Mr w S t):RdP Mr w S (EL.mk [t]):=fun hp x hx=>by rw [aAl.1 hx];exact h hp
theorem kP (h:RdO w S t):RdO w S (EL.mk [t]):=fun x hx=>by rw [aAl.1 hx];exact h
theorem XT {xs ys:List τ} (h1:RdT Γ M (EL.mk xs)) (h2:RdT Γ M (EL.mk ys)):RdT Γ M (EL.mk (xs++ys)):=fun w hw=>VS _ _ (h1 w hw) (h2 w hw)
theorem kQ {xs ys:List τ} (h1:RdX Γ M1 M2 (EL.mk xs)) (h2:RdX Γ M1 M2 (EL.mk ys)):RdX Γ M1 M2 (EL.mk (xs++ys)):=fun w hw=>VS _ _ (h1 w hw) (h2 w hw)
theorem Lo {xs ys:List τ} (h1:RdP Mr w S (EL.mk xs)) (h2:RdP Mr w S (EL.mk ys)):RdP Mr w S (EL.mk (xs++ys)):=fun hp=>VS _ _ (h1 hp) (h2 hp)
theorem kR {xs ys:List τ} (h1:RdO w S (EL.mk xs)) (h2:RdO w S (EL.mk ys)):RdO w S (EL.mk (xs++ys)):=VS _ _ h1 h2
theorem zP:RdO w S (EL.mk ([]:List τ)):=VR _ _
theorem kS {xs ys:List τ} (hs:∀ x,x∈xs→x∈ys) (h:RdT Γ M (EL.mk ys)):RdT Γ M (EL.mk xs):=fun w hw x hx=>h w hw x (hs x hx)
theorem kT {xs ys:List τ} (hs:∀ x,x∈xs→x∈ys) (h:RdX Γ M1 M2 (EL.mk ys)):RdX Γ M1 M2 (EL.mk xs):=fun w hw x hx=>h w hw x (hs x hx)
theorem Ny {xs ys:List τ} (hs:∀ x,x∈xs→x∈ys) (h:RdP Mr w S (EL.mk ys)):RdP Mr w S (EL.mk xs):=fun hp x hx=>h hp x (hs x hx)
theorem kU {xs ys:List τ} (hs:∀ x,x∈xs→x∈ys) (h:RdO w S (EL.mk ys)):RdO w S (EL.mk xs):=fun x hx=>h x (hs x hx)
theorem RdT.subH {xs An:List τ} (h:SL.subH xs An∈M) (ha:RdT Γ M (EL.mk An)):RdT Γ M (EL.mk xs):=fun w hw x hx=>ha w hw x (hw.prs _ h x hx)
theorem RdX.subH {xs An:List τ} (h:SL.subH xs An∈M2) (ha:RdX Γ M1 M2 (EL.mk An)):RdX Γ M1 M2 (EL.mk xs):=fun w hw x hx=>ha w hw x (hw.prs _ (aAx _ h) x hx)
theorem RdP.subH {xs An:List τ} (h:SL.subH xs An∈Mr) (ha:RdP Mr w S (EL.mk An)):RdP Mr w S (EL.mk xs):=fun hp x hx=>ha hp x (hp.prs _ h x hx)
abbrev Si:=@RdP.subH
theorem Uo {xs:List τ} {t:τ} (k:Nat):∀ x,x∈xs.set k t→x∈xs++[t]:=fun x hx=>by
 rcases aFs hx with h | h
 ·exact aB2 _ h
 ·rw [h];simp
theorem zQ {xs:List τ} {k:Nat} (h1:RdT Γ M (EL.mk xs)) (h2:RdT Γ M t):RdT Γ M (EL.mk (xs.set k t)):=kS (Uo k) (XT h1 (kN h2))
theorem zR {xs:List τ} {k:Nat} (h1:RdX Γ M1 M2 (EL.mk xs)) (h2:RdX Γ M1 M2 t):RdX Γ M1 M2 (EL.mk (xs.set k t)):=kT (Uo k) (kQ h1 (kO h2))
theorem XU {xs:List τ} {k:Nat} (h1:RdP Mr w S (EL.mk xs)) (h2:RdP Mr w S t):RdP Mr w S (EL.mk (xs.set k t)):=Ny (Uo k) (Lo h1 (Qb h2))
theorem zS {xs:List τ} {k:Nat} (h1:RdO w S (EL.mk xs)) (h2:RdO w S t):RdO w S (EL.mk (xs.set k t)):=kU (Uo k) (kR h1 (kP h2))
theorem Xg {xs An:List τ} (hs:∀ x,x∈xs→x∈An) (h:Holds w0 S0 M w):Holds w0 S0 (subH xs An::M) w :=
 h.reFp (aBa (by rw [BZ];rfl)) fun y hy=>by
  rcases aAf.1 hy with rfl | hy
  ·exact hs
  ·exact h.prs _ hy
theorem nQ {xs An:List τ} {v:τ} {X':List τ} (e:X'=xs++[v]) (hv:v∈An) (p:Pick (subH xs An) M M1) (h:Holds w0 S0 M w):Holds w0 S0 (subH X' An::M1) w:=by
 have h1:=h.perm p.perm;have hs:∀ x,x∈xs→x∈An:=h1.prs (subH xs An) (aA9 ..);refine h1.reFp (aBa (by rw [BZ,BZ];rfl)) fun y hy=>by
  rcases aAf.1 hy with rfl | hy
  ·subst e;intro x hx;rcases aB0.1 hx with hx | hx
   ·exact hs x hx
   ·rw [aAl.1 hx];exact hv
  ·exact h1.prs _ (aA4 _ hy)
theorem HY {X:TL τ} (p:Pick (Af X) M M1) (h:Holds w0 S0 M w):Holds w0 S0 (Be X::Ce X.els::M1) w:=KT (h.perm p.perm)
theorem dY {s x:Operand} {T e sz by_ m c:Nat} {ad:Addr} {z:List Value} {X:TL τ} {ys:List τ} (hn:Nat.blt d Γ.n=true)
  (hs:ev l s=some X.hdr) (hx:ev l x=some (.slice (some ad) m c)) (ht:elOf Γ.P T=some (e,sz,by_,z)) (hsz:GT.sz τ=sz) (hz:z.length=sz)
  (hp:Pick (Be X) M M1) (hmy:m=ys.length) (hsrc:∀ w,Sees Γ.w0 Γ.S0 M w→∀ j v,(Av ys)[j]?=some v→w.cell? (ad.add j)=some v)
  (hlen:X.els.length+ys.length≤4294967296) (hb:by_≤32768)
  (hk:∀ X':TL τ,X'.els=X.els++ys→L Γ rest ((d,X'.hdr)::l) (Be X'::M1) K) :
  L Γ (⟨some d,.call { callee:=.builtin .append,args:=#[s,x],argTypes:=#[T,T] },ty,pos,af,none⟩::rest) l M K:=by
 subst hmy;refine Md (fun v M'=>∃ X':TL τ,X'.els=X.els++ys∧v=X'.hdr∧M'=Be X'::M1) rfl rfl (aAc hn)
  (fun a w ha hw=>?_) (fun v M' ⟨X',h0,h1,h2⟩=>by subst h1;subst h2;exact hk X' h0)
 have hw1:=hw.perm hp.perm;have hsr:=hsrc w hw.sees;obtain ⟨a',c',e',tl,w',h1,h2⟩:=Kq (P:=Γ.P) (c:=c) ht hsz hz hw1 hsr hlen hb ty;refine ⟨_,_,w',⟨⟨a',c',e',X.els++ys,tl⟩,rfl,rfl,rfl⟩,?_,h2⟩;have h1':(Builtin.append_ #[T,T] ty #[X.hdr,.slice (some ad) ys.length c]).run Γ.P w=.ok (TL.hdr (⟨a',c',e',X.els++ys,tl⟩:TL τ)) w':=h1;generalize TL.hdr (⟨a',c',e',X.els++ys,tl⟩:TL τ)=vv at *;generalize X.hdr=uu at *;simp [execOp,resolve,invoke,builtin,ha.eval hs,ha.eval hx,h1']
theorem dZ {s x:Operand} {T e sz by_ c b:Nat} {z:List Value} {X:TL τ} {T':TypeId} (y:τ) {r:List δ} (hn:Nat.blt d Γ.n=true)
  (hs:ev l s=some X.hdr) (hx:ev l x=some (.slice (some ⟨b,0,none⟩) 1 c)) (ht:elOf Γ.P T=some (e,sz,by_,z)) (hsz:GT.sz τ=sz) (hz:z.length=sz)
  (hp:Pick (Be X) M M1) (hsrc:blk b (GT.cells y) T'∈M)
  (hr:Cj (GT.dat X) [GT.dat y]=some r) (hb:by_≤32768)
  (hk:∀ X':TL τ,GT.dat X'=r→X'.els=X.els++[y]→L Γ rest ((d,X'.hdr)::l) (Be X'::M1) K) :
  L Γ (⟨some d,.call { callee:=.builtin .append,args:=#[s,x],argTypes:=#[T,T] },ty,pos,af,none⟩::rest) l M K:=by
 obtain ⟨h1,rfl⟩:=HJ hr;refine dY (ys:=[y]) hn hs hx ht hsz hz hp rfl (fun w hw j v hv=>?_) (by simpa [BQ] using h1) hb
  (fun X' h=>hk X' (by rw [BQ,h,aCb,BQ];rfl) h)
 have h2:=Ax (Γ:=Γ) hsrc w hw j v (by simpa [Av] using hv);rw [DP];exact h2
theorem OQ {s x:Operand} {T e sz by_ c b:Nat} {z:List Value} {X:TL τ} {An:List τ} {T':TypeId} (y:τ) {r:List δ} (hn:Nat.blt d Γ.n=true)
  (hs:ev l s=some X.hdr) (hx:ev l x=some (.slice (some ⟨b,0,none⟩) 1 c)) (ht:elOf Γ.P T=some (e,sz,by_,z)) (hsz:GT.sz τ=sz) (hz:z.length=sz)
  (hp:Pick (Be X) M M1) (hq:Pick (subH X.els An) M1 M2) (hsrc:blk b (GT.cells y) T'∈M)
  (hr:Cj (GT.dat X) [GT.dat y]=some r) (hb:by_≤32768) (hy:y∈An)
  (hk:∀ X':TL τ,GT.dat X'=r→L Γ rest ((d,X'.hdr)::l) (Be X'::subH X'.els An::M2) K) :
  L Γ (⟨some d,.call { callee:=.builtin .append,args:=#[s,x],argTypes:=#[T,T] },ty,pos,af,none⟩::rest) l M K :=
 dZ y hn hs hx ht hsz hz hp hsrc hr hb fun X' h1 h2=>Cn (fun w h=>(nQ h2 hy (hq.there _) h).perm (aBy _ _ _)) (hk X' h1)
theorem XV {s x:Operand} {T e sz by_:Nat} {z:List Value} {X Y:TL τ} {r:List δ} (hn:Nat.blt d Γ.n=true)
  (hs:ev l s=some X.hdr) (hx:ev l x=some Y.hdr) (ht:elOf Γ.P T=some (e,sz,by_,z)) (hsz:GT.sz τ=sz) (hz:z.length=sz)
  (hp:Pick (Be X) M M1) (hsrc:RdT Γ M Y) (hr:Cj (GT.dat X) (GT.dat Y)=some r) (hb:by_≤32768)
  (hk:∀ X':TL τ,GT.dat X'=r→X'.els=X.els++Y.els→L Γ rest ((d,X'.hdr)::l) (Be X'::M1) K) :
  L Γ (⟨some d,.call { callee:=.builtin .append,args:=#[s,x],argTypes:=#[T,T] },ty,pos,af,none⟩::rest) l M K:=by
 obtain ⟨h1,rfl⟩:=HJ hr;simp only [BQ,aB1] at h1;obtain ⟨a2,c2,e2,x2,tl2⟩:=Y
 cases a2 with
 | some a2 =>
  obtain ⟨b,o,sp⟩:=a2;refine dY (ys:=x2) hn hs hx ht hsz hz hp rfl (fun w hw j v hv=>?_) h1 hb
   (fun X' h=>hk X' (by rw [BQ,h,aCb];rfl) h)
  have h2:=(hsrc w hw).2.2.2.2 _ rfl;have hne:x2≠[]:=fun e=>by subst e;simp [Av] at hv
  have h3:sp=none:=h2.1 hne;subst h3;rw [DP];exact (h2.2 j v hv).1
 | none =>
  intro ops a w Q ha hw;have h2:x2=[]:=(hsrc w hw.sees).2.2.2.1 rfl;subst h2;have hk':=hk X (by rw [BQ];show _=_++[].map GT.dat;simp) (by simp);have hr:=(hw.perm hp.perm).prs (Be X) (aA9 ..);refine Vx rfl rfl (aAc hn) (fun a w ha hw=>⟨w,?_,hw.perm hp.perm⟩) hk' ops a w Q ha hw;have:=Qq (P:=Γ.P) (w:=w) (a:=X.a) (n:=X.els.length) (c:=X.cap) (c2:=c2) ht hr.1 ty;have h5:(Builtin.append_ #[T,T] ty #[X.hdr,.slice none 0 c2]).run Γ.P w=.ok X.hdr w:=this;have h6:=ha.eval hx;simp only [TL.hdr,aCr] at h6;generalize X.hdr=uu at *;simp [execOp,resolve,invoke,builtin,ha.eval hs,h6,h5]
theorem Dd (τ:Type) {δ:Type} [GT τ δ] {T e sz by_:Nat} {z:List Value} (hn:Nat.blt d Γ.n=true) (ht:elOf Γ.P T=some (e,sz,by_,z))
  (hk:∀ X:TL τ,GT.dat X=[]→X.els=[]→L Γ rest ((d,X.hdr)::l) (Af X::M) K) :
  L Γ (⟨some d,.buildSlice T 0 #[],ty,pos,af,none⟩::rest) l M K :=
 Fc τ hn ht fun X hX=>hk X hX (by rw [BQ] at hX;exact List.map_eq_nil_iff.1 hX)
end
structure BL where
 l:List Nat
instance:GT BL Unit where
 sz:=1
 pos:=by decide
 cells _:=[.bool false]
 len _:=rfl
 one _ v hv:=by simp at hv;subst hv;rfl
 rd _ _ _:=True
 fp _:=[]
 ow _ _:=False
 dat _:=()
 rd_mono h _:=h
 ow_st _ h:=h
 ow_rd h _:=h.elim
section
variable {τ δ:Type} [GT τ δ] {t:τ}
def fzH (B:BL) (x:τ):HP:=frz B.l (EL.mk ([]:List Int)) x
theorem Ac0 {B:BL} (h:fzH B t∈M):RdT Γ M t:=CD h kF
theorem VW {B:BL} (h:fzH B t∈M2):RdX Γ M1 M2 t:=GM h kG
theorem uZ {B:BL} (h:fzH B t∈Mr):RdP Mr w S t:=CF h kH
theorem pW {x:τ} (Mr:List HP) (hp:List.Perm M (Mr++M2)) (he:∀ w S,RdP Mr w S x) (h:Holds w0 S0 M w):Holds w0 S0 (fzH ⟨fps Mr⟩ x::M2) w:=DR Mr hp (fun w S _=>he w S) h
end
variable {Γ:Cx} {l l':BR} {M M' M1 M2 F A A':List HP} {Qp:CX} {K:CW} {w0 w:World} {S0:List Nat}
variable {ops:Array Oper} {fuel:Nat} {listed:Array Bool} {i d:Nat} {o:Oper} {last:Nat}
theorem Xh {P:Program} {Q:Exit→Act→World→Prop} {S S':World→Prop}:∀ (fuel:Nat) (listed:Array Bool) (a:Act) (w:World),listed.getD last false=true→wpAnyH P .any ops Q S fuel listed a w→wpG P ops Q last S' fuel listed a w
 | 0,_,_,_,_,h=>h
 | fuel+1,_,_,_,hl,h=>⟨h.1,fun i hi=>wpOp_mono (fun a' w' h'=>⟨fun hf=>(by rw [getD_set_true hl] at hf;cases hf),Xh fuel _ a' w' (getD_set_true hl) h'.2⟩) (h.2 i hi)⟩
theorem kV (hl:listed.getD last false=true) (h:AH Γ ops A' Qp fuel listed l M):AG Γ ops A Qp last fuel listed l M:=fun a w ha hw=>Xh fuel _ a w hl (h a w ha hw)
theorem nR (i:Nat) {rest:List Oper} (hi:ops.toList.drop i=o::rest) (hg:o.guard=none) (hr:Region.ready .any ops listed=[i]) (hil:(listed.setIfInBounds i true).getD last false=true)
  (h:L Γ [o] l M (fun l' M'=>AH Γ ops [] Qp fuel (listed.setIfInBounds i true) l' M')):AG Γ ops A Qp last (fuel+1) listed l M:=fun a w ha hw=>by
 refine ⟨fun h0=>(by rw [hr] at h0;cases h0),fun j hj=>?_⟩;rw [hr] at hj;rw [aAl.1 hj];unfold wpOp;rw [Mw hi];simp only [Region.wanted,hg,if_true];refine .inl (Oper.wp_mono (fun a' w' h1=>?_) (Nj h hg ha hw));obtain ⟨_,l',M',h1,h2,h4⟩:=h1;exact ⟨fun hf=>(by rw [hil] at hf;cases hf),Xh fuel _ a' w' hil (h4 a' w' h1 h2)⟩
def AQ (Γ:Cx) (ops:Array Oper) (A:List HP) (Qp:CX) (last al da:Nat) (z:List Value) (T:TypeId) (fuel:Nat) (listed:Array Bool) (l:BR) (M:List HP):Prop :=
 AG Γ ops A Qp last (fuel+1) listed l M∧∀ b,AG Γ ops A Qp last fuel (listed.setIfInBounds al true) ((da,.pointer (some ⟨b,0,none⟩))::l) (blk b z T::M)
variable {al da:Nat} {z:List Value} {T:TypeId}
theorem vA (A:List HP) (last al da:Nat) (z:List Value) (T:TypeId) (n:Nat) {id:Nat} (hm:Γ.P.follows .mixedOrders=true) (hn:ops.size=n+1) (h:AQ Γ ops A Qp last al da z T n (Array.replicate (n+1) false) l M):W Γ (.region id ops true) l M Qp :=
 ZF A last hm (by rw [hn];exact h.1)
theorem gG (A':List HP) (hs:AllIn A A') (h:AQ Γ ops A' Qp last al da z T fuel listed l M):AQ Γ ops A Qp last al da z T fuel listed l M:=⟨NY A' hs h.1,fun b=>NY A' hs (h.2 b)⟩
theorem HF {v:Value} (i:Nat) (cs:List Nat) (hi:ops[i]?=some o) (hp:Pu Γ A l o d v) (hs:Region.noSelect ops=true) (hf:Region.free .any ops listed i=true) (hr:(Region.ready .any ops listed).contains i=true)
  (hf2:Region.free .any ops (listed.setIfInBounds al true) i=true) (hr2:(Region.ready .any ops (listed.setIfInBounds al true)).contains i=true) (hda:l.lookup da=none) (hne:Nat.beq d da=false) (hia:Nat.beq i al=false)
  (hch:VT ops i last cs=true) (hil:Nat.beq i last=false) (hcl:Rj ops listed=true) (hcl2:Rj ops (listed.setIfInBounds al true)=true)
  (hA:AllIn A M) (hk:AQ Γ ops A Qp last al da z T fuel (listed.setIfInBounds i true) ((d,v)::l) M):AQ Γ ops A Qp last al da z T (fuel+1) listed l M:=by
 have hne':d≠da:=fun e=>by subst e;rw [aD7] at hne;cases hne
 have hia':i≠al:=fun e=>by subst e;rw [aD7] at hia;cases hia
 refine ⟨Dj i cs hi hp hs hf hr hch hil hcl hA hk.1,fun b=>?_⟩;refine Dj i cs hi (v:=v) (d:=d) ⟨hp.dst,hp.lt,hp.gd,fun a w ha hw=>hp.pu a w (ha.sub (Ul hda)) hw⟩ hs hf2 hr2 hch hil hcl2 (AllIn.of_mem fun x hx=>aA4 _ (hA.mem x hx)) ?_;rw [aCn _ _ (Ne.symm hia')];intro a w ha hw;refine hk.2 b a w (ha.sub fun t u ht=>?_) hw;simp only [aBh] at ht ⊢
 cases h1:t == da with
 | true =>
  have:t=da:=by simpa using h1
  subst this;rw [h1] at ht
  cases h2:t == d with
  | true=>exact (hne' (by simpa using h2:t=d).symm).elim
  | false=>exact ht
 | false=>rw [h1] at ht;exact ht
theorem eA (i:Nat) {rest':List Oper} (hi0:ops.toList.drop i=o::rest') (hg:o.guard=none) (hr1:Region.ready .any ops listed=[i,al]∨Region.ready .any ops listed=[al,i]) (hr2:Region.ready .any ops (listed.setIfInBounds al true)=[i])
  (hia:Nat.beq i al=false) (hdst:(o.dst == some da)=false) (hda:l.lookup da=none) {oal:Oper} (hoa:ops[al]?=some oal) (hga:oal.guard=none)
  (hal:∀ l M,L Γ [oal] l M (fun l' M'=>∃ b,l'=(da,.pointer (some ⟨b,0,none⟩))::l∧M'=blk b z T::M)) (hA:AllIn A M)
  (hil:(listed.setIfInBounds i true).getD last false=true)
  (h:∀ X,L Γ [o] l (X::M) (fun l' M'=>∃ M1,Pick X M' M1∧l'.lookup da=none∧AP Γ ops [] Qp al da z T fuel (listed.setIfInBounds i true) l' M1)) :
  AQ Γ ops A Qp last al da z T (fuel+1) listed l M:=by
 have hi:=Mw hi0;have hia':i≠al:=fun e=>by subst e;rw [aD7] at hia;cases hia
 have hil2:((listed.setIfInBounds i true).setIfInBounds al true).getD last false=true:=getD_set_true hil;have two:∀ b,AG Γ ops A Qp last (fuel+1) (listed.setIfInBounds al true) ((da,.pointer (some ⟨b,0,none⟩))::l) (blk b z T::M):=fun b a w ha hw=>by
  refine ⟨fun h0=>(by rw [hr2] at h0;cases h0),fun j hj=>?_⟩;rw [hr2] at hj;rw [aAl.1 hj];unfold wpOp;rw [hi];simp only [Region.wanted,hg,if_true];refine .inl (Oper.wp_mono (fun a' w' h1=>?_) (Nj (h (blk b z T)) hg (ha.sub (Ul hda)) hw));obtain ⟨⟨u,rfl⟩,l',M',h1,h2,M1,h3,h5,h6⟩:=h1;have h7:=h2.perm h3.perm;rw [aCn _ _ (Ne.symm hia')];refine ⟨fun hf=>(by rw [hil2] at hf;cases hf),?_⟩;refine kV (A:=A) hil2 (h6.2 b) _ w' ⟨h1.size,h1.defers,fun t v ht=>?_⟩ h7;rw [aBh] at ht
  cases hb:t == da with
  | true =>
   have:t=da:=by simpa using hb
   subst this;rw [hb] at ht;cases ht;have h8:=ha.get t (.pointer (some ⟨b,0,none⟩)) (by simp [aBh])
   cases hd:o.dst with
   | none=>exact h8
   | some d =>
    have hne:d≠t:=fun e=>by subst e;rw [hd] at hdst;simp at hdst
    simp only [Act.put];rw [aDe hne];exact h8
  | false=>rw [hb] at ht;exact h1.get t v ht
 have one:∀ a w,Env a Γ.n l→Holds Γ.w0 Γ.S0 M w→∀ j,j=i∨j=al→wpOp Γ.P ops (Ng Γ Qp) j (fun a' w'=>((listed.setIfInBounds j true).getD last false=false→Sees Γ.w0 Γ.S0 A w')∧wpG Γ.P ops (Ng Γ Qp) last (Sees Γ.w0 Γ.S0 A) (fuel+1) (listed.setIfInBounds j true) a' w') a w:=fun a w ha hw j hj=>by
  rcases hj with rfl | rfl
  ·unfold wpOp;rw [hi];simp only [Region.wanted,hg,if_true];refine .inl (Oper.wp_mono (fun a' w' h1=>?_) (Nj (h emH) hg ha hw.em));obtain ⟨_,l',M',h1,h2,M1,h3,h5,h6⟩:=h1;have h7:=(h2.perm h3.perm).sub (M':=M1) ⟨[emH],aB9 (l₁:=[emH])⟩;exact ⟨fun hf=>(by rw [hil] at hf;cases hf),kV (A:=A) hil h6.1 a' w' h1 h7⟩
  ·unfold wpOp;rw [hoa];simp only [Region.wanted,hga,if_true];refine .inl (Oper.wp_mono (fun a' w' h1=>?_) (Nj (hal l M) hga ha hw));obtain ⟨_,l',M',h1,h2,b,rfl,rfl⟩:=h1;exact ⟨fun _=>h2.seesSub fun x hx=>aA4 _ (hA.mem x hx),two b a' w' h1 h2⟩
 refine ⟨fun a w ha hw=>⟨fun h0=>?_,fun j hj=>?_⟩,two⟩
 ·rcases hr1 with hr | hr<;>(rw [hr] at h0;cases h0)
 ·rcases hr1 with hr | hr
  ·rw [hr] at hj;exact one a w ha hw j (by simpa using hj)
  ·rw [hr] at hj;exact one a w ha hw j ((by simpa using hj:j=al∨j=i).symm)
variable {Γ:Cx} {l:BR} {M M' M1 M2 F:List HP} {Q:CX} {K:CW} {w0 w:World} {S0:List Nat}
variable {rest:List Oper} {d:Nat} {ty:TypeId} {pos:String} {af:Array Edge}
variable {ops:Array Oper} {Msh pool pool':List HP} {E:Fl} {rs:List (Option Nat×Rel)} {cs0:List Nat} {KD:List (Option Nat×Rel)→List Nat→List HP→Prop}
theorem ZI {T:TypeId} {t1:Nat} {xs:List (Nat×Operand)} {ps:Value→List (Nat×Value)} {pl:List (Nat×Nat)} {z:List Value} {R1:Rel} (Rr:Rel)
  (hR1:E.lookup t1=some R1) (hx:∀ u1,OpVp ((t1,FC True u1)::Eb [t1] E) xs (ps u1)) (ht:PY Γ.P T=some (pl,z))
  (hf:∀ v1 M1,R1 v1 M1→∃ cs,HI (pl[·]?) z (ps v1)=some cs∧Rr (.agg cs.toArray) M1)
  (hlin:IC ops ⟨some d,.build T xs.toArray,ty,pos,af,none⟩ [t1]=true)
  (hk:DV Γ ops Msh pool ((d,Rr)::Eb [t1] E) ((some d,Rr)::rs) ([t1]++cs0) rest KD) :
  DV Γ ops Msh pool E rs cs0 (⟨some d,.build T xs.toArray,ty,pos,af,none⟩::rest) KD:=by
 refine DV.mk Rr [] pool ([t1]) (by simp) hlin ?_ hk;intro a w F Mk _ _ hw hm hfa hcf;obtain ⟨Mx,Mk',rfl,hRR,hnil⟩:=hcf;have hnil:Mk'=[]:=hnil;subst hnil;have hr1:=hRR _ hR1;generalize hv1:a.tmps.getD t1 undef=v1 at hr1;rw [if_pos (by simp [Region.wanted])];obtain ⟨cs,hcs,hrr⟩:=hf _ _ hr1;have hf2:LE ((t1,FC True v1)::Eb [t1] E) (Oper.looksAt ops ⟨some d,.build T xs.toArray,ty,pos,af,none⟩) F a:=by
  intro t' R' h1 h2;rw [aBh] at h2
  cases hb:t' == t1 with
  | true =>
   rw [hb] at h2;cases h2;have:t'=t1:=by simpa using hb
   subst this;exact ⟨[],⟨rfl,fun _=>hv1,fun hn=>(hn trivial).elim⟩,fun _ h=>by cases h⟩
  | false=>rw [hb] at h2;exact hfa t' R' h1 h2
 have h1:xs.toArray.map (fun (i,x)=>(i,a.eval x))=(ps v1).toArray:=by
  have:=OpVp.evals (o:=⟨some d,.build T xs.toArray,ty,pos,af,none⟩) hf2 xs (ps v1) (hx v1) (fun x hx=>by simp [Op.operands];exact ⟨_,hx⟩);rw [← this];simp
 have h3:(execOp a.eval ⟨some d,.build T xs.toArray,ty,pos,af,none⟩).run Γ.P w=.ok (.value (.agg cs.toArray)) w:=by
  simp only [execOp,h1];simp [Ns ht hcs]
 rw [h3];exact ⟨Mx,hrr,by simpa using hw⟩
theorem ZJ {T:TypeId} {t1 t2:Nat} {xs:List (Nat×Operand)} {ps:Value→Value→List (Nat×Value)} {pl:List (Nat×Nat)} {z:List Value} {R1 R2:Rel} (Rr:Rel)
  (hR1:E.lookup t1=some R1) (hR2:E.lookup t2=some R2) (hx:∀ u1 u2,OpVp ((t1,FC True u1)::(t2,FC True u2)::Eb [t1,t2] E) xs (ps u1 u2)) (ht:PY Γ.P T=some (pl,z))
  (hf:∀ v1 M1 v2 M2,R1 v1 M1→R2 v2 M2→∃ cs,HI (pl[·]?) z (ps v1 v2)=some cs∧Rr (.agg cs.toArray) (M1++M2))
  (hlin:IC ops ⟨some d,.build T xs.toArray,ty,pos,af,none⟩ [t1,t2]=true)
  (hk:DV Γ ops Msh pool ((d,Rr)::Eb [t1,t2] E) ((some d,Rr)::rs) ([t1,t2]++cs0) rest KD) :
  DV Γ ops Msh pool E rs cs0 (⟨some d,.build T xs.toArray,ty,pos,af,none⟩::rest) KD:=by
 refine DV.mk Rr [] pool ([t1,t2]) (by simp) hlin ?_ hk;intro a w F Mk _ _ hw hm hfa hcf;obtain ⟨Mx,Mk',rfl,hRR,Mx2,Mk2,rfl,hRR2,hnil⟩:=hcf;have hnil:Mk2=[]:=hnil;subst hnil;have hr1:=hRR _ hR1;have hr2:=hRR2 _ hR2;generalize hv1:a.tmps.getD t1 undef=v1 at hr1;generalize hv2:a.tmps.getD t2 undef=v2 at hr2;rw [if_pos (by simp [Region.wanted])];obtain ⟨cs,hcs,hrr⟩:=hf _ _ _ _ hr1 hr2;have hf2:LE ((t1,FC True v1)::(t2,FC True v2)::Eb [t1,t2] E) (Oper.looksAt ops ⟨some d,.build T xs.toArray,ty,pos,af,none⟩) F a:=by
  intro t' R' h1 h2;rw [aBh] at h2
  cases hb:t' == t1 with
  | true =>
   rw [hb] at h2;cases h2;have:t'=t1:=by simpa using hb
   subst this;exact ⟨[],⟨rfl,fun _=>hv1,fun hn=>(hn trivial).elim⟩,fun _ h=>by cases h⟩
  | false =>
   rw [hb] at h2;simp only [] at h2;rw [aBh] at h2
   cases hb2:t' == t2 with
   | true =>
    rw [hb2] at h2;cases h2;have:t'=t2:=by simpa using hb2
    subst this;exact ⟨[],⟨rfl,fun _=>hv2,fun hn=>(hn trivial).elim⟩,fun _ h=>by cases h⟩
   | false=>rw [hb2] at h2;exact hfa t' R' h1 h2
 have h1:xs.toArray.map (fun (i,x)=>(i,a.eval x))=(ps v1 v2).toArray:=by
  have:=OpVp.evals (o:=⟨some d,.build T xs.toArray,ty,pos,af,none⟩) hf2 xs (ps v1 v2) (hx v1 v2) (fun x hx=>by simp [Op.operands];exact ⟨_,hx⟩);rw [← this];simp
 have h3:(execOp a.eval ⟨some d,.build T xs.toArray,ty,pos,af,none⟩).run Γ.P w=.ok (.value (.agg cs.toArray)) w:=by
  simp only [execOp,h1];simp [Ns ht hcs]
 rw [h3];exact ⟨Mx++Mx2,hrr,by simpa [aAh] using hw⟩
theorem sA {τ δ:Type} [GT τ δ] {v:τ} {b e:Nat} (p:Pick (Af v) M M1) (h:Holds w0 S0 (blk b (GT.cells v) e::M) w) :
  Holds w0 S0 (Af (⟨some ⟨b,0,none⟩,1,e,[v],[]⟩:TL τ)::M1) w:=by
 have h1:=h.perm (p.perm.cons _);refine KU ?_;refine h1.reFp (aBa ?_) fun y hy=>?_
 ·simp only [BZ];show [b]++(GT.fp v++fps M1)=[b]++([v].flatMap GT.fp++fps M1);simp
 ·rcases aAf.1 hy with rfl | hy
  ·have hb:w.heap[b]?=some (.cells (GT.cells v).toArray e (0,0)):=h1.prs (blk b (GT.cells v) e) (aA9 ..);refine ⟨aAu _,by simp [maxLen],fun h=>(by cases h),fun a ha=>?_⟩;cases ha;exact ⟨rfl,rfl,by simpa [Av] using hb,by simp⟩
  rcases aAf.1 hy with rfl | hy
  ·intro x hx;rw [aAl.1 hx];exact h1.prs (Af v) (aA4 _ (aA9 ..))
  ·exact h1.prs _ (aA4 _ (aA4 _ hy))
theorem ZK {τ δ:Type} [GT τ δ] {T e sz by_:Nat} {z:List Value} {x:Operand} {u:Value} (v:τ) {r:List δ} (hn:Nat.blt d Γ.n=true) (hx:ev l x=some u) (ht:elOf Γ.P T=some (e,sz,by_,z)) (hz:z.length=sz)
  (hsz:0 < sz) (hns:sz≤65536) (hu:u.cells.toList=GT.cells v) (hs:GT.sz τ=sz) (p:Pick (Af v) M M1) (hr:some [GT.dat v]=some r)
  (hk:∀ X:TL τ,GT.dat X=r→L Γ rest ((d,X.hdr)::l) (Af X::M1) K) :
  L Γ (⟨some d,.buildSlice T 1 #[(0,x)],ty,pos,af,none⟩::rest) l M K :=
 BJ hn hx ht hz hsz hns (by rw [hu,GT.len,hs]) fun b=>by
  rw [hu];exact Cn (fun w h=>sA p h) (hk ⟨some ⟨b,0,none⟩,1,e,[v],[]⟩ (Option.some.inj hr))
end Go.Proofs.SL
