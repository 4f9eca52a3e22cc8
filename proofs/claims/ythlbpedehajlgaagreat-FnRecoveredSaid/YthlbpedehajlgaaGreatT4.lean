/- The texts of the proof, part 4: the base, walks of functions, plain Lean. -/
import Derived.Test.YthlbpedehajlgaaGreatT3
namespace Go.Proofs.SL
open Go
section
variable {α β σ:Type}
def idx (l:List α) (i:Int):Option α:=if i < 0 then none else l[i.toNat]?
theorem idx_some {l:List α} {i:Int} {x:α}:idx l i=some x↔0≤i∧l[i.toNat]?=some x:=by
 unfold idx
 split
 ·constructor
  ·intro h;cases h
  ·intro h;omega
 ·constructor
  ·intro h;exact ⟨by omega,h⟩
  ·intro h;exact h.2
theorem idx_nat {l:List α} {k:Nat}:idx l (k:Int)=l[k]?:=by
 unfold idx
 rw [if_neg (by omega)];simp
def sidx (s:ByteArray) (i:Int):Option Int:=if h:0≤i∧i.toNat < s.size then some ((s[i.toNat]'h.2).toNat:Int) else none
theorem sidx_some {s:ByteArray} {i n:Int} (h:sidx s i=some n):∃ h:0≤i∧i.toNat < s.size,n=((s[i.toNat]'h.2).toNat:Int):=by
 unfold sidx at h
 split at h
 ·rename_i hh;cases h;exact ⟨hh,rfl⟩
 ·cases h
def gb [Inhabited α] (g:Bool) (o:Option α) (k:α→Option β):Option β:=match g with | true=>o.bind k | false=>k default
theorem gb_any [Inhabited α] {g:Bool} {o:Option α} {k:α→Option β} {r:β} (h:gb g o k=some r):∃ y,(g=true→o=some y)∧k y=some r:=by
 cases g with
 | true=>obtain ⟨y,h1,h2⟩:=Option.bind_eq_some_iff.1 h;exact ⟨y,fun _=>h1,h2⟩
 | false=>exact ⟨default,(fun hh=>(by cases hh)),h⟩
theorem bind_any {o:Option α} {k:α→Option β} {r:β} (h:Option.bind o k=some r):∃ y,o=some y∧k y=some r:=Option.bind_eq_some_iff.1 h
theorem cond_t {c:Bool} {A B o:Option α} (hc:c=true) (h:cond c A B=o):A=o:=by subst hc;exact h
theorem cond_f {c:Bool} {A B o:Option α} (hc:c=false) (h:cond c A B=o):B=o:=by subst hc;exact h
theorem map_any {o:Option α} {f:α→β} {r:β} (h:Option.map f o=some r):∃ a,o=some a∧r=f a:=by
 obtain ⟨a,h1,h2⟩:=Option.map_eq_some_iff.1 h;exact ⟨a,h1,h2.symm⟩
theorem some_eq {a b:α} (h:some a=some b):b=a:=(Option.some.inj h).symm
def iterW (f:σ→Option (σ ⊕ α)):Nat→σ→Option α
 | 0,_=>none
 | n+1,s=>match f s with
  | none=>none
  | some (.inl s')=>iterW f n s'
  | some (.inr a)=>some a
theorem iterW_mono {f:σ→Option (σ ⊕ α)} {a:α}:∀ {n:Nat} {s:σ} (m:Nat),n≤m→iterW f n s=some a→iterW f m s=some a
 | 0,s,m,_,h=>by cases h
 | n+1,s,0,hm,_=>by omega
 | n+1,s,m+1,hm,h=>by
  simp only [iterW] at h ⊢
  split at h
  ·cases h
  ·exact iterW_mono m (by omega) h
  ·exact h
noncomputable def whileP (f:σ→Option (σ ⊕ α)) (s:σ):Option α :=
 @dite _ (∃ n a,iterW f n s=some a) (Classical.propDecidable _) (fun h=>some h.choose_spec.choose) (fun _=>none)
theorem whileP_iff {f:σ→Option (σ ⊕ α)} {s:σ} {a:α}:whileP f s=some a↔∃ n,iterW f n s=some a:=by
 unfold whileP
 constructor
 ·intro h
  split at h
  ·rename_i hh
   cases h
   exact ⟨hh.choose,hh.choose_spec.choose_spec⟩
  ·cases h
 ·rintro ⟨n,hn⟩
  have hh:∃ n a,iterW f n s=some a:=⟨n,a,hn⟩
  rw [dif_pos hh]
  have h2:=hh.choose_spec.choose_spec
  have key:∀ m b,iterW f m s=some b→some b=some a:=by
   intro m b h2
   rcases Nat.le_total n m with hle | hle
   ·rw [iterW_mono m hle hn] at h2;exact h2.symm
   ·rw [iterW_mono n hle h2] at hn;exact hn
  exact key _ _ h2
theorem whileP_eq (f:σ→Option (σ ⊕ α)) (s:σ):whileP f s=match f s with | none=>none | some (.inl s')=>whileP f s' | some (.inr a)=>some a:=by
 have key:∀ a,whileP f s=some a↔(match f s with | none=>none | some (.inl s')=>whileP f s' | some (.inr a)=>some a)=some a:=by
  intro a
  rw [whileP_iff]
  constructor
  ·rintro ⟨n,h⟩
   cases n with
   | zero=>cases h
   | succ n =>
    simp only [iterW] at h
    split at h
    ·cases h
    ·exact whileP_iff.2 ⟨n,h⟩
    ·exact h
  ·intro h
   split at h
   ·cases h
   ·rename_i s' hs
    obtain ⟨n,h⟩:=whileP_iff.1 h
    exact ⟨n+1,by simp only [iterW,hs];exact h⟩
   ·rename_i b hs
    exact ⟨1,by simp only [iterW,hs];exact h⟩
 exact Option.ext key
theorem whileP_rule {f:σ→Option (σ ⊕ α)} (I:σ→Prop) (μ:σ→Nat) (Q:α→Prop)
  (h:∀ s,I s→(∃ s',f s=some (.inl s')∧I s'∧μ s' < μ s)∨∃ a,f s=some (.inr a)∧Q a) (s:σ) (hs:I s):∃ a,whileP f s=some a∧Q a:=by
 generalize hn:μ s=n
 induction n using Nat.strongRecOn generalizing s with
 | _ n ih =>
  rw [whileP_eq]
  rcases h s hs with ⟨s',h1,h2,h3⟩ | ⟨a,h1,h2⟩
  ·rw [h1];exact ih (μ s') (hn ▸ h3) s' h2 rfl
  ·rw [h1];exact ⟨a,rfl,h2⟩
end
variable {Γ:Cx} {l:Envl} {M M1 M2 F:List HP} {Q:Post} {K:Kont} {w0 w:World} {S0:List Nat}
variable {rest:List Oper} {d:Nat} {ty:TypeId} {pos:String} {af:Array Edge}
theorem W_post {c:Code} {Q':Post} (h:W Γ c l M Q) (hq:∀ e l M,Q e l M→∃ M',(∀ w,Holds Γ.w0 Γ.S0 M w→Holds Γ.w0 Γ.S0 M' w)∧Q' e l M'):W Γ c l M Q':=fun a w ha hw =>
  Code.wp_mono (fun e a w q=>by
    cases e<;>first
      | exact q.elim
      | (obtain ⟨l,M,h1,h2,h3⟩:=q
         obtain ⟨M',h4,h5⟩:=hq _ _ _ h3
         exact ⟨l,M',h1,h4 _ h2,h5⟩)) (h a w ha hw)
def Arr (Γ:Cx) (M M':List HP):Prop:=∃ M2,(∀ w,Holds Γ.w0 Γ.S0 M w→Holds Γ.w0 Γ.S0 M2 w)∧MSub M' M2
theorem Arr.sub {M M':List HP} (h:MSub M' M):Arr Γ M M':=⟨M,fun _ h=>h,h⟩
theorem W_while {σ δ A:Type} {c:Code} {f:δ→Option (δ ⊕ A)} {r:A} (dat:σ→δ) (Ev:σ→Envl) (Mv:σ→List HP) (Ec:Envl) (Mc:List HP) (s0:σ) (h0:whileP f (dat s0)=some r)
    (hl:Sub (Ev s0++Ec) l) (hm:MSub (Mv s0++Mc) M)
    (round:∀ s x,f (dat s)=some x→(∀ a,x=.inr a→a=r)→W Γ c (Ev s++Ec) (Mv s++Mc) (thenQ (fun l' M'=>∃ s',Sub (Ev s'++Ec) l'∧Arr Γ M' (Mv s'++Mc)∧x=.inl (dat s')) Q)) :
    W Γ (.loop c) l M Q:=by
  obtain ⟨n,hn⟩:=whileP_iff.1 h0
  refine W_loop (σ:=σ×Nat) (fun s=>Ev s.1++Ec) (fun s=>Mv s.1++Mc) (fun s=>iterW f s.2 (dat s.1)=some r) (fun s=>s.2) (s0,n) hn hl hm ?_
  rintro ⟨s,n⟩ hI
  dsimp only at hI ⊢
  cases n with
  | zero=>cases hI
  | succ n =>
    simp only [iterW] at hI
    split at hI
    · cases hI
    · rename_i s' hs
      refine W_post (round s _ hs (fun a ha=>by cases ha)) fun e l' M' hq=>?_
      cases e<;>first
        | exact ⟨M',fun _ h=>h,hq⟩
        | (obtain ⟨s2,h1,⟨M2,h2,h2'⟩,h3⟩:=hq
           have e:s'=dat s2:=by simpa using h3
           subst e
           exact ⟨M2,h2,(s2,n),h1,h2',hI,Nat.lt_succ_self n⟩)
    · rename_i a ha
      cases hI
      refine W_mono (round s _ ha (fun a ha=>by cases ha;rfl)) fun e l' M' hq=>?_
      cases e<;>first
        | exact hq
        | (obtain ⟨s2,h1,h2,h3⟩:=hq;cases h3)
end Go.Proofs.SL
namespace Go.Proofs.SL
open Go
variable {Γ:Cx} {l:Envl} {M M1 M2 F:List HP} {Q:Post} {K:Kont} {w0 w:World} {S0:List Nat}
variable {rest:List Oper} {d:Nat} {ty:TypeId} {pos:String} {af:Array Edge}
theorem run_append_roomE {P:Program} (w:World) (t ty e e2:TypeId) (i:TypeInfo) (ht:P.underlying t=some (.slice e)) (hi:P.info? e=some i)
  (g sLen sCap:Nat) (cur:Array Value) (hg:w.heap[g]?=some (.cells cur e2 (0,0)))
  (a:Addr) (m c:Nat) (news:List Value) (hl:news.length=m*i.size) (hnews:∀ j u,news[j]?=some u→w.cell? (a.add j)=some u) (h1:∀ u∈news,u.oneCell'=true)
  (hroom:sLen+m≤sCap) (hfit:sLen*i.size+news.length≤cur.size) :
  (Builtin.append_ #[t,t] ty #[.slice (some ⟨g,0,none⟩) sLen sCap,.slice (some a) m c]).run P w =
   .ok (.slice (some ⟨g,0,none⟩) (sLen+m) sCap) (w.setRow g (cur.toList.take (sLen*i.size)++news++cur.toList.drop (sLen*i.size+news.length)).toArray):=by
 have hf:=run_firstCells_some (P:=P) w i.size m a m c news hl hnews
 have hst:=run_storeCells_at P g (sLen*i.size) e2 news 0 cur w hg (by simpa using hfit) h1
 simp only [Nat.add_zero] at hst
 simp [Builtin.append_,run_underlying ht,sizeOf,typeInfo,hi,Builtin.lenOf,hroom,hf,Addr.add_lit,hst]
section
variable {τ δ:Type} [GT τ δ]
theorem append_rowE {P:Program} {T e sz by_:Nat} {z:List Value} {L:TL τ} {ys:List τ} (ht:elOf P T=some (e,sz,by_,z)) (hsz:GT.sz τ=sz) (hz:z.length=sz) (hw:Holds w0 S0 (rowH L::F) w)
  {a:Addr} {c:Nat} (hsrc:∀ j v,(rowCells ys)[j]?=some v→w.cell? (a.add j)=some v) (hm:L.els.length+ys.length≤4294967296) (hb:by_≤32768) (ty:TypeId) :
  ∃ a' c' e' tl w',(Builtin.append_ #[T,T] ty #[L.hdr,.slice (some a) ys.length c]).run P w=.ok (.slice a' (L.els++ys).length c') w'∧Holds w0 S0 (rowH (⟨a',c',e',L.els++ys,tl⟩:TL τ)::F) w':=by
 unfold elOf at ht
 split at ht<;>(try cases ht)
 rename_i e' het
 split at ht<;>(try cases ht)
 rename_i i' hi'
 split at ht<;>cases ht
 rename_i z' hz'
 have hzs:z'.cells.size=i'.size:=by rw [← Array.length_toList];exact hz
 have hpos:0 < i'.size:=hsz ▸ GT.pos (τ:=τ)
 obtain ⟨La,Lc,Le,Lx,Lt⟩:=L
 have hr:=hw.prs (rowH _) (List.mem_cons_self ..)
 obtain ⟨hr1,hr2,hr3,hr4⟩:=hr
 dsimp only at hr1 hr2 hr3 hr4 hm ⊢
 have hlx:(rowCells Lx).length=Lx.length*i'.size:=by rw [length_rowCells,hsz]
 have hly:(rowCells ys).length=ys.length*i'.size:=by rw [length_rowCells,hsz]
 have hby:(Lx.length+ys.length)*i'.bytes≤140737488355328:=by
  have:=Nat.mul_le_mul hm hb
  omega
 have hone:∀ u,u∈rowCells ys→u.oneCell'=true:=fun u hu=>rowCells_one ys u hu
 have hgrow:∀ (old:Nat) (h:HP),h=rowH (⟨La,Lc,Le,Lx,Lt⟩:TL τ)→Holds w0 S0 (rowH (⟨some ⟨w.heap.size,0,none⟩,grownCap w (Lx.length+ys.length) old e,e,Lx++ys,(Builtin.zeroCells z'.cells (grownCap w (Lx.length+ys.length) old e - (Lx.length+ys.length))).toList⟩:TL τ)::F)
   (w.drew.alloc (.cells ((rowCells Lx).toArray++(rowCells ys).toArray++Builtin.zeroCells z'.cells (grownCap w (Lx.length+ys.length) old e - (Lx.length+ys.length))) e)):=by
  intro old h hh
  have hge:=grownCap_ge w (Lx.length+ys.length) old e
  have hcm:grownCap w (Lx.length+ys.length) old e≤maxLen:=grownCap_le_maxLen w (Lx.length+ys.length) old e (by simp only [maxLen];omega)
  refine Holds.swap (w':=w.drew.alloc _) (hh ▸ hw:Holds w0 S0 (h::F) w) rfl ⟨rfl,Nat.le_succ _⟩ rfl (by simp) (fun k hk _=>?_) (fun k hk=>?_) (by simp [rowH]) ?_
  ·rw [heap_alloc_old _ _ (by simpa using hk)];rfl
  ·simp [rowH] at hk;subst hk;exact ⟨.inr (Nat.le_refl _),by simp⟩
  ·refine ⟨by simpa using hge,hcm,fun h=>(by cases h),fun a ha=>?_⟩
   cases ha
   refine ⟨rfl,rfl,?_,?_⟩
   ·have:=heap_alloc_new w.drew (.cells ((rowCells Lx).toArray++(rowCells ys).toArray++Builtin.zeroCells z'.cells (grownCap w (Lx.length+ys.length) old e - (Lx.length+ys.length))) e)
    simp only [World.size_drew] at this
    rw [this]
    congr 2
    apply Array.ext'
    simp [rowCells_append]
   ·simp only [Array.length_toList,size_zc,hzs,List.length_append,hsz]
    rw [← Nat.add_mul];congr 1;omega
 cases La with
 | none =>
  obtain ⟨hx0,q0⟩:=hr3 rfl
  subst hx0;subst q0
  by_cases hy0:ys=[]
  ·subst hy0
   refine ⟨none,0,e,[],w,?_,Holds.swap hw rfl ⟨rfl,Nat.le_refl _⟩ rfl (Nat.le_refl _) (fun _ _ _=>rfl) (fun k hk=>by simp [rowH] at hk) (by simp [rowH]) ⟨by simp,by simp [maxLen],fun _=>⟨rfl,rfl⟩,fun a ha=>by cases ha⟩⟩
   simp [TL.hdr,Builtin.append_,run_underlying het,sizeOf,typeInfo,hi',Builtin.lenOf,Builtin.firstCells,loadCells,loadCellsFrom]
  ·have hyl:0 < ys.length:=List.length_pos_iff.2 hy0
   have hrun:=run_append_nil (P:=P) w T ty e i' z' het hi' hz' a ys.length c (rowCells ys) hly hsrc hyl (by omega) (by simp at hby;omega)
   have:=hgrow 0 _ rfl
   simp only [List.length_nil,Nat.zero_add,List.nil_append] at this ⊢
   have e0:(rowCells ([]:List τ)).toArray=#[]:=rfl
   rw [e0,Array.empty_append] at this
   exact ⟨_,_,_,_,_,hrun,this⟩
 | some La =>
  obtain ⟨h1,h2,h3,h4⟩:=hr4 La rfl
  obtain ⟨g,o,s⟩:=La
  dsimp only at h1 h2 h3
  subst h1;subst h2
  have hhd:TL.hdr (⟨some ⟨g,0,none⟩,Lc,Le,Lx,Lt⟩:TL τ)=.slice (some ⟨g,0,none⟩) Lx.length Lc:=rfl
  rw [hhd]
  rw [hsz] at h4
  have hsize:((rowCells Lx++Lt).toArray).size=Lc*i'.size:=by simp [hlx];omega
  by_cases hroom:Lx.length+ys.length≤Lc
  ·have hfit:Lx.length*i'.size+(rowCells ys).length≤((rowCells Lx++Lt).toArray).size:=by rw [hsize,hly,← Nat.add_mul];exact Nat.mul_le_mul_right _ hroom
   have hrun:=run_append_roomE (P:=P) w T ty e Le i' het hi' g Lx.length Lc _ h3 a ys.length c (rowCells ys) hly hsrc hone hroom hfit
   refine ⟨some ⟨g,0,none⟩,Lc,Le,Lt.drop (rowCells ys).length,_,by rw [List.length_append];exact hrun,?_⟩
   have e1:(List.take (Lx.length*i'.size) (rowCells Lx++Lt).toArray.toList++rowCells ys++List.drop (Lx.length*i'.size+(rowCells ys).length) (rowCells Lx++Lt).toArray.toList)=rowCells (Lx++ys)++Lt.drop (rowCells ys).length:=by
    simp only []
    rw [← hlx,List.take_left,List.drop_append,List.drop_of_length_le (by omega),List.nil_append,Nat.add_sub_cancel_left,rowCells_append]
   rw [e1]
   refine Holds.swap hw rfl ⟨rfl,Nat.le_refl _⟩ rfl (by simp) (fun k hk hn=>?_) (fun k hk=>?_) (by simp [rowH]) ?_
   ·exact setRow_other _ _ _ _ (fun e=>hn (by simp [rowH,e]))
   ·simp [rowH] at hk;subst hk;exact ⟨.inl (by simp [rowH]),by simp;exact (Array.getElem?_eq_some_iff.1 h3).1⟩
   ·refine ⟨by simpa using hroom,hr2,fun h=>(by cases h),fun a ha=>?_⟩
    cases ha
    refine ⟨rfl,rfl,setRow_heap _ _ _ _ _ _ h3,?_⟩
    simp only [List.length_append,List.length_drop,hsz,hly]
    have:=Nat.mul_le_mul_right i'.size hroom
    rw [Nat.add_mul] at this ⊢
    omega
  ·have holds:∀ j v,(rowCells Lx)[j]?=some v→w.cell? ((⟨g,0,none⟩:Addr).add j)=some v:=fun j v hv=>by
    rw [addr_add,Nat.zero_add,cell_of_row _ _ _ _ _ _ h3]
    simp only [List.getElem?_toArray]
    rw [List.getElem?_append_left (List.getElem?_eq_some_iff.1 hv).1];exact hv
   have hrun:=run_append_grow (P:=P) w T ty e i' z' het hi' hz' ⟨g,0,none⟩ Lx.length Lc (rowCells Lx) hlx holds a ys.length c (rowCells ys) hly hsrc (by omega) (by omega) (growslice_fits (by omega) hby)
   refine ⟨_,_,_,_,_,by rw [List.length_append];exact hrun,hgrow Lc _ rfl⟩
theorem L_appA {s x:Operand} {T e sz by_ m c:Nat} {ad:Addr} {z:List Value} {X:TL τ} {ys:List τ} (hn:Nat.blt d Γ.n=true)
  (hs:ev l s=some X.hdr) (hx:ev l x=some (.slice (some ad) m c)) (ht:elOf Γ.P T=some (e,sz,by_,z)) (hsz:GT.sz τ=sz) (hz:z.length=sz)
  (hp:Pick (treeH X) M M1) (hmy:m=ys.length) (hsrc:∀ w,Sees Γ.w0 Γ.S0 M w→∀ j v,(rowCells ys)[j]?=some v→w.cell? (ad.add j)=some v)
  (hown:∀ w R,Holds Γ.w0 Γ.S0 (M1++R) w→Holds Γ.w0 Γ.S0 (elsT ys::(M2++R)) w)
  (hlen:X.els.length+ys.length≤4294967296) (hb:by_≤32768)
  (hk:∀ X':TL τ,X'.els=X.els++ys→L Γ rest ((d,X'.hdr)::l) (treeH X'::M2) K) :
  L Γ ({ dst:=some d,op:=.call { callee:=.builtin .append,args:=#[s,x],argTypes:=#[T,T] },type:=ty,pos,after:=af,guard:=none }::rest) l M K:=by
 subst hmy
 refine L_stepR (fun v M'=>∃ X':TL τ,X'.els=X.els++ys∧v=X'.hdr∧M'=treeH X'::M2) rfl rfl (Nat.le_of_ble_eq_true hn)
  (fun a w ha hw=>?_) (fun v M' ⟨X',h0,h1,h2⟩=>by subst h1;subst h2;exact hk X' h0)
 have hw1:=tree_row (hw.perm hp.perm)
 have hsr:=hsrc w hw.sees
 obtain ⟨a',c',e',tl,w',h1,h2⟩:=append_rowE (P:=Γ.P) (c:=c) ht hsz hz hw1 hsr hlen hb ty
 refine ⟨_,_,w',⟨⟨a',c',e',X.els++ys,tl⟩,rfl,rfl,rfl⟩,?_,?_⟩
 ·have h1':(Builtin.append_ #[T,T] ty #[X.hdr,.slice (some ad) ys.length c]).run Γ.P w=.ok (TL.hdr (⟨a',c',e',X.els++ys,tl⟩:TL τ)) w':=h1
  generalize TL.hdr (⟨a',c',e',X.els++ys,tl⟩:TL τ)=vv at *
  generalize X.hdr=uu at *
  simp [execOp,resolve,invoke,builtin,ha.eval hs,ha.eval hx,h1']
 ·have h3:Holds Γ.w0 Γ.S0 (M1++[elsT X.els,rowH (⟨a',c',e',X.els++ys,tl⟩:TL τ)]) w' :=
   h2.perm ((List.Perm.swap _ _ _).trans (List.perm_append_comm (l₁:=[elsT X.els,rowH (⟨a',c',e',X.els++ys,tl⟩:TL τ)]) (l₂:=M1)))
  have h4:=hown w' _ h3
  refine row_tree ?_
  have h5:Holds Γ.w0 Γ.S0 (elsT X.els::elsT ys::rowH (⟨a',c',e',X.els++ys,tl⟩:TL τ)::M2) w':=h4.perm
   (((List.perm_append_comm (l₁:=M2) (l₂:=[elsT X.els,rowH (⟨a',c',e',X.els++ys,tl⟩:TL τ)])).cons _).trans (List.Perm.swap _ _ _))
  exact (elsT_app h5).perm (List.Perm.swap _ _ _)
end
def TL.g {τ:Type} (X:TL τ):Nat:=(X.a.map Addr.block).getD 0
def TL.o {τ:Type} (X:TL τ):Nat:=(X.a.map Addr.off).getD 0
section
variable {τ δ:Type} [GT τ δ]
theorem rd_adr {X:TL τ} {j:Nat} {u:τ} (h:GT.rd w0 S0 X) (hi:X.els[j]?=some u):X.a=some ⟨X.g,X.o,none⟩:=by
 have hlt:=(List.getElem?_eq_some_iff.1 hi).1
 obtain ⟨g,o,ha⟩:=rd_addr h hlt
 unfold TL.g TL.o
 rw [ha];rfl
theorem hdr_adr {X:TL τ} {j:Nat} {u:τ} (h:GT.rd w0 S0 X) (hi:X.els[j]?=some u):X.hdr=.slice (some ⟨X.g,X.o,none⟩) X.els.length X.cap:=by
 show Value.slice X.a X.els.length X.cap=_
 rw [rd_adr h hi]
theorem RdT.at {X:TL τ} {j:Nat} {x:τ} (h:RdT Γ M X) (hi:X.els[j]?=some x):RdC Γ M X.g (X.o+j*GT.sz τ) (GT.cells x):=fun w hw =>
 (RdT.cells (Γ:=Γ) (M:=M) h (rd_adr (h w hw) hi) hi) w hw
theorem RdT.of {X:TL τ} {j:Nat} {x:τ} (h:RdT Γ M X) (hi:X.els[j]?=some x):RdT Γ M x:=h.el (List.mem_of_getElem? hi)
theorem RdT.pair {α β δ ε:Type} [GT α δ] [GT β ε] {a:α} {b:β} (h1:RdT Γ M a) (h2:RdT Γ M b):RdT Γ M (a,b):=fun w hw=>⟨h1 w hw,h2 w hw⟩
theorem RdT.int {n:Int}:RdT Γ M n:=fun _ _=>trivial
theorem RdT.bool {n:Bool}:RdT Γ M n:=fun _ _=>trivial
theorem RdT.str {n:ByteArray}:RdT Γ M n:=fun _ _=>trivial
theorem RdT.u8 {n:UInt8}:RdT Γ M n:=fun _ _=>trivial
theorem RdT.nil (e:TypeId):RdT Γ M (TL.nil τ e):=fun _ _=>⟨Nat.le_refl _,by simp [TL.nil,maxLen],fun x hx=>by simp [TL.nil] at hx,fun _=>rfl,fun a ha=>by simp [TL.nil] at ha⟩
theorem dat_els (X:TL τ):GT.dat X=X.els.map GT.dat:=rfl
theorem idx_dat {X:TL τ} {i:Int} {y:δ} (h:idx (GT.dat X) i=some y):∃ u:τ,(0≤i∧X.els[i.toNat]?=some u)∧GT.dat u=y:=by
 obtain ⟨h1,h2⟩:=idx_some.1 h
 rw [dat_els,List.getElem?_map] at h2
 obtain ⟨u,h3,h4⟩:=Option.map_eq_some_iff.1 h2
 exact ⟨u,⟨h1,h3⟩,h4⟩
theorem idx_bind {β:Type} {X:TL τ} {i:Int} {k:δ→Option β} {r:β} (h:Option.bind (idx (GT.dat X) i) k=some r):∃ u:τ,(0≤i∧X.els[i.toNat]?=some u)∧k (GT.dat u)=some r:=by
 obtain ⟨y,h1,h2⟩:=bind_any h
 obtain ⟨u,h3,rfl⟩:=idx_dat h1
 exact ⟨u,h3,h2⟩
class Df (τ:Type) {δ:outParam Type} [GT τ δ] [Inhabited δ]:Prop where
 df:∃ t:τ,GT.dat t=default
instance:Df Int:=⟨0,rfl⟩
instance:Df Bool:=⟨false,rfl⟩
instance:Df UInt8:=⟨default,rfl⟩
instance:Df ByteArray:=⟨default,rfl⟩
instance {τ δ:Type} [GT τ δ]:Df (TL τ):=⟨TL.nil τ 0,rfl⟩
instance {α β δ ε:Type} [GT α δ] [GT β ε] [Inhabited δ] [Inhabited ε] [Df α] [Df β]:Df (α×β):=⟨by
 obtain ⟨a,ha⟩:=Df.df (τ:=α)
 obtain ⟨b,hb⟩:=Df.df (τ:=β)
 exact ⟨(a,b),by rw [dat_pair,ha,hb];rfl⟩⟩
theorem idx_gb [Inhabited δ] [Df τ] {β:Type} {X:TL τ} {g:Bool} {i:Int} {k:δ→Option β} {r:β} (h:gb g (idx (GT.dat X) i) k=some r):∃ u:τ,(g=true→0≤i∧X.els[i.toNat]?=some u)∧k (GT.dat u)=some r:=by
 cases g with
 | true=>obtain ⟨u,h1,h2⟩:=idx_bind h;exact ⟨u,fun _=>h1,h2⟩
 | false =>
  obtain ⟨t,ht⟩:=Df.df (τ:=τ)
  exact ⟨t,(fun h=>(by cases h)),by rw [ht];exact h⟩
end
section
variable {τ δ:Type} [GT τ δ]
theorem L_lenP {x:Operand} {T:TypeId} {e:TypeId×Nat×Nat×List Value} {X:TL τ} (hn:Nat.blt d Γ.n=true) (hx:ev l x=some X.hdr) (ht:elOf Γ.P T=some e)
  (hk:L Γ rest ((d,.int .i64 ((GT.dat X).length:Int))::l) M K) :
  L Γ ({ dst:=some d,op:=.call { callee:=.builtin .len,args:=#[x],argTypes:=#[T] },type:=ty,pos:=pos,after:=af,guard:=none }::rest) l M K :=
 L_lenS (a:=X.a) (n:=X.els.length) (c:=X.cap) hn hx ht (by rw [dat_els,List.length_map] at hk;exact hk)
theorem L_idxA {x y:Operand} {T e sz by_:Nat} {z:List Value} {k:IntKind} {i:Int} {X:TL τ} {u:τ} (hn:Nat.blt d Γ.n=true) (hx:ev l x=some X.hdr) (hy:ev l y=some (.int k i))
  (ht:elOf Γ.P T=some (e,sz,by_,z)) (hr:RdT Γ M X) (hi:0≤i∧X.els[i.toNat]?=some u) (hk:L Γ rest ((d,.pointer (some ⟨X.g,X.o+i.toNat*sz,none⟩))::l) M K) :
  L Γ ({ dst:=some d,op:=.indexAddr T x y,type:=ty,pos:=pos,after:=af,guard:=none }::rest) l M K :=
 L_pure hn (fun a' w ha hw=>by
  have h1:=ha.eval hx
  rw [hdr_adr (hr w hw.sees) hi.2] at h1
  simp [execOp,h1,ha.eval hy,run_indexAt ht X.g X.o X.els.length X.cap k i i.toNat (by omega) (List.getElem?_eq_some_iff.1 hi.2).1 w]) hk
end
variable {ops:Array Oper} {Msh pool:List HP} {E:Fl} {rs:List (Option Nat×Rel)} {cs0:List Nat} {KD:List (Option Nat×Rel)→List Nat→List HP→Prop} {gd:Option (Nat×Bool)}
section
variable {τ δ:Type} [GT τ δ]
theorem D_lenP {x:Operand} {T:TypeId} {e:TypeId×Nat×Nat×List Value} {X:TL τ} {c:Prop} (hg:GC ops E { dst:=some d,op:=.call { callee:=.builtin .len,args:=#[x],argTypes:=#[T] },type:=ty,pos:=pos,after:=af,guard:=gd } c)
  (hx:OpV E x c X.hdr) (ht:elOf Γ.P T=some e)
  (hk:DV Γ ops Msh pool ((d,FC c (.int .i64 ((GT.dat X).length:Int)))::E) ((some d,FC c (.int .i64 ((GT.dat X).length:Int)))::rs) cs0 rest KD) :
  DV Γ ops Msh pool E rs cs0 ({ dst:=some d,op:=.call { callee:=.builtin .len,args:=#[x],argTypes:=#[T] },type:=ty,pos:=pos,after:=af,guard:=gd }::rest) KD :=
 D_lenS (a:=X.a) (n:=X.els.length) (cp:=X.cap) hg hx ht (by rw [dat_els,List.length_map] at hk;exact hk)
theorem D_idxA {x y:Operand} {T e sz by_:Nat} {z:List Value} {k:IntKind} {i:Int} {X:TL τ} {u:τ} {c:Prop} (hg:GC ops E { dst:=some d,op:=.indexAddr T x y,type:=ty,pos:=pos,after:=af,guard:=gd } c)
  (hx:OpV E x c X.hdr) (hy:OpV E y c (.int k i)) (ht:elOf Γ.P T=some (e,sz,by_,z)) (hr:RdT Γ Msh X) (hi:c→0≤i∧X.els[i.toNat]?=some u)
  (hk:DV Γ ops Msh pool ((d,FC c (.pointer (some ⟨X.g,X.o+i.toNat*sz,none⟩)))::E) ((some d,FC c (.pointer (some ⟨X.g,X.o+i.toNat*sz,none⟩)))::rs) cs0 rest KD) :
  DV Γ ops Msh pool E rs cs0 ({ dst:=some d,op:=.indexAddr T x y,type:=ty,pos:=pos,after:=af,guard:=gd }::rest) KD :=
 DV_pure c _ hg (fun a w F hc hf hs=>by
  have e1:=hx.eval hf (by simp [Op.operands]) hc
  have e2:=hy.eval hf (by simp [Op.operands]) hc
  obtain ⟨h0,h1⟩:=hi hc
  rw [hdr_adr (hr w hs) h1] at e1
  simp [execOp,e1,e2,run_indexAt ht X.g X.o X.els.length X.cap k i i.toNat (by omega) (List.getElem?_eq_some_iff.1 h1).1 w]) hk
theorem D_idxS {x y:Operand} {T:TypeId} {s:ByteArray} {k:IntKind} {i n:Int} {c:Prop} (hg:GC ops E { dst:=some d,op:=.index T x y,type:=ty,pos:=pos,after:=af,guard:=gd } c)
  (hx:OpV E x c (.string s)) (hy:OpV E y c (.int k i)) (ht:isStr Γ.P T=true) (hi:c→sidx s i=some n)
  (hk:DV Γ ops Msh pool ((d,FC c (.int .u8 n))::E) ((some d,FC c (.int .u8 n))::rs) cs0 rest KD) :
  DV Γ ops Msh pool E rs cs0 ({ dst:=some d,op:=.index T x y,type:=ty,pos:=pos,after:=af,guard:=gd }::rest) KD :=
 DV_pure c _ hg (fun a w F hc hf hs=>by
  have e1:=hx.eval hf (by simp [Op.operands]) hc
  have e2:=hy.eval hf (by simp [Op.operands]) hc
  obtain ⟨⟨h1,h2⟩,h3⟩:=sidx_some (hi hc)
  have h4:Γ.P.underlying T=some .string:=by unfold isStr at ht;split at ht<;>simp_all
  obtain ⟨j,rfl⟩:=Int.eq_ofNat_of_zero_le h1
  simp only [Int.toNat_natCast] at h2 h3
  simp [execOp,e1,e2,Instr.index,asIntOf,underlying,h4,h2,h3]) hk
end
end Go.Proofs.SL
namespace Go.Proofs.SL
open Go
variable {Γ:Cx} {l:Envl} {M M' M1 M2 F:List HP} {Q:Post} {K:Kont} {w0 w:World} {S0:List Nat}
variable {rest:List Oper} {d:Nat} {ty:TypeId} {pos:String} {af:Array Edge}
def appP {δ:Type} (a b:List δ):Option (List δ):=if a.length+b.length≤4294967296 then some (a++b) else none
theorem appP_some {δ:Type} {a b r:List δ} (h:appP a b=some r):a.length+b.length≤4294967296∧r=a++b:=by
 unfold appP at h
 split at h
 ·cases h;exact ⟨by assumption,rfl⟩
 ·cases h
def remP (a b:Int):Option Int:=if b=0 then none else some (a.tmod b)
theorem bv_remP {P:Program} {T:TypeId} {x y:Operand} {k:IntKind} {a b r:Int} (h:remP a b=some r):BinV P .rem T x y (.int k a) (.int k b) (.int k r):=by
 unfold remP at h
 split at h
 ·cases h
 ·cases h;exact bv_rem (by assumption)
theorem bv_sgtr {P:Program} {T:TypeId} {x y:Operand} {s t:ByteArray}:BinV P .gtr T x y (.string s) (.string t) (.bool (!sLt s t&&!decide (s=t))):=fun w=>by simp [eqGuard,binOp,Op.stringOp,sLt,str_eq]
theorem bv_sleq {P:Program} {T:TypeId} {x y:Operand} {s t:ByteArray}:BinV P .leq T x y (.string s) (.string t) (.bool (sLt s t||decide (s=t))):=fun w=>by simp [eqGuard,binOp,Op.stringOp,sLt,str_eq]
class FlatT (τ:Type) {δ:outParam Type} [GT τ δ]:Prop where
 flat:∀ t:τ,Flat t
instance:FlatT Int:=⟨fun _=>flat_int trivial⟩
instance:FlatT Bool:=⟨fun b=>flat_bool b⟩
instance:FlatT UInt8:=⟨fun b=>flat_u8 b⟩
instance:FlatT ByteArray:=⟨fun _=>flat_str trivial⟩
instance {α β δ ε:Type} [GT α δ] [GT β ε] [FlatT α] [FlatT β]:FlatT (α×β):=⟨fun t=>flat_pair (FlatT.flat t.1) (FlatT.flat t.2)⟩
section
variable {τ δ:Type} [GT τ δ]
theorem L_app1F [FlatT τ] {s x:Operand} {T e sz by_ c b:Nat} {z:List Value} {X:TL τ} {T':TypeId} (y:τ) {r:List δ} (hn:Nat.blt d Γ.n=true)
  (hs:ev l s=some X.hdr) (hx:ev l x=some (.slice (some ⟨b,0,none⟩) 1 c)) (ht:elOf Γ.P T=some (e,sz,by_,z)) (hsz:GT.sz τ=sz) (hz:z.length=sz)
  (hp:Pick (treeH X) M M1) (hsrc:blk b (GT.cells y) T'∈M)
  (hr:appP (GT.dat X) [GT.dat y]=some r) (hb:by_≤32768)
  (hk:∀ X':TL τ,GT.dat X'=r→L Γ rest ((d,X'.hdr)::l) (treeH X'::M1) K) :
  L Γ ({ dst:=some d,op:=.call { callee:=.builtin .append,args:=#[s,x],argTypes:=#[T,T] },type:=ty,pos,after:=af,guard:=none }::rest) l M K:=by
 obtain ⟨h1,rfl⟩:=appP_some hr
 refine L_appA (ys:=[y]) hn hs hx ht hsz hz hp rfl (fun w hw j v hv=>?_) (fun w R h=>elsT_flat h fun x _=>FlatT.flat x) (by simpa [dat_els] using h1) hb
  (fun X' h=>hk X' (by rw [dat_els,h,List.map_append,dat_els];rfl))
 rw [addr_add]
 exact RdC.blk (Γ:=Γ) hsrc w hw j v (by simpa [rowCells] using hv)
theorem L_appT [FlatT τ] {s x:Operand} {T e sz by_:Nat} {z:List Value} {X Y:TL τ} {r:List δ} (hn:Nat.blt d Γ.n=true)
  (hs:ev l s=some X.hdr) (hx:ev l x=some Y.hdr) (ht:elOf Γ.P T=some (e,sz,by_,z)) (hsz:GT.sz τ=sz) (hz:z.length=sz)
  (hp:Pick (treeH X) M M1) (hsrc:RdT Γ M Y) (hr:appP (GT.dat X) (GT.dat Y)=some r) (hb:by_≤32768)
  (hk:∀ X':TL τ,GT.dat X'=r→L Γ rest ((d,X'.hdr)::l) (treeH X'::M1) K) :
  L Γ ({ dst:=some d,op:=.call { callee:=.builtin .append,args:=#[s,x],argTypes:=#[T,T] },type:=ty,pos,after:=af,guard:=none }::rest) l M K:=by
 obtain ⟨h1,rfl⟩:=appP_some hr
 simp only [dat_els,List.length_map] at h1
 obtain ⟨a2,c2,e2,x2,tl2⟩:=Y
 cases a2 with
 | some a2 =>
  obtain ⟨b,o,sp⟩:=a2
  refine L_appA (ys:=x2) hn hs hx ht hsz hz hp rfl (fun w hw j v hv=>?_) (fun w R h=>elsT_flat h fun x _=>FlatT.flat x) h1 hb
   (fun X' h=>hk X' (by rw [dat_els,h,List.map_append];rfl))
  have h2:=(hsrc w hw).2.2.2.2 _ rfl
  have hne:x2≠[]:=fun e=>by subst e;simp [rowCells] at hv
  have h3:sp=none:=h2.1 hne
  subst h3
  rw [addr_add];exact (h2.2 j v hv).1
 | none =>
  intro ops a w Q ha hw
  have h2:x2=[]:=(hsrc w hw.sees).2.2.2.1 rfl
  subst h2
  have hk':=hk X (by rw [dat_els];show _=_++[].map GT.dat;simp)
  have hr:GT.ow w X:=(hw.perm hp.perm).prs _ (List.mem_cons_self ..)
  refine L_step rfl rfl (Nat.le_of_ble_eq_true hn) (fun a w ha hw=>⟨w,?_,hw.perm hp.perm⟩) hk' ops a w Q ha hw
  have:=append_none (P:=Γ.P) (w:=w) (a:=X.a) (n:=X.els.length) (c:=X.cap) (c2:=c2) ht hr.1 ty
  have h5:(Builtin.append_ #[T,T] ty #[X.hdr,.slice none 0 c2]).run Γ.P w=.ok X.hdr w:=this
  have h6:=ha.eval hx
  simp only [TL.hdr,List.length_nil] at h6
  generalize X.hdr=uu at *
  simp [execOp,resolve,invoke,builtin,ha.eval hs,h6,h5]
theorem addF [FlatT τ] (t:τ) (h:Holds w0 S0 M w):Holds w0 S0 (treeH t::M) w:=h.addFlat (FlatT.flat t)
def slc (X:TL τ) (lo hi:Nat):TL τ:=⟨if X.cap=lo then X.a else X.a.map (·.add (lo*GT.sz τ)),X.cap - lo,X.e,(X.els.drop lo).take (hi - lo),[]⟩
theorem slc_rd {X:TL τ} {lo hi:Nat} (h:GT.rd w0 S0 X) (h1:lo≤hi) (h2:hi≤X.els.length):GT.rd w0 S0 (slc X lo hi):=by
 obtain ⟨r1,r2,r3,r4,r5⟩:=h
 have hsub:∀ x,x∈(X.els.drop lo).take (hi - lo)→x∈X.els:=fun x hx=>List.mem_of_mem_drop (List.mem_of_mem_take hx)
 refine ⟨?_,?_,fun x hx=>r3 x (hsub x hx),fun ha=>?_,fun a ha=>?_⟩
 ·show ((X.els.drop lo).take (hi - lo)).length≤X.cap - lo
  simp;omega
 ·show X.cap - lo≤maxLen
  omega
 ·have ha':(if X.cap=lo then X.a else X.a.map (·.add (lo*GT.sz τ)))=none:=ha
  have:X.a=none:=by split at ha'<;>simpa using ha'
  show (X.els.drop lo).take (hi - lo)=[]
  rw [r4 this];simp
 ·have ha':(if X.cap=lo then X.a else X.a.map (·.add (lo*GT.sz τ)))=some a:=ha
  by_cases hcl:X.cap=lo
  ·have he:(X.els.drop lo).take (hi - lo)=[]:=by rw [List.drop_of_length_le (by omega)];simp
   refine ⟨fun hne=>(hne he).elim,fun j v hv=>?_⟩
   have hv':(rowCells ((X.els.drop lo).take (hi - lo)))[j]?=some v:=hv
   rw [he] at hv'
   simp [rowCells] at hv'
  ·rw [if_neg hcl] at ha'
   obtain ⟨a0,h3,h4⟩:=Option.map_eq_some_iff.1 ha'
   obtain ⟨r6,r7⟩:=r5 a0 h3
   have hspot:(X.els.drop lo).take (hi - lo)≠[]→a0.spot=none:=fun hne=>r6 (fun e=>hne (by rw [e];simp))
   have hadd:a0.spot=none→a0.add (lo*GT.sz τ)=⟨a0.block,a0.off+lo*GT.sz τ,none⟩:=fun hs=>by
    obtain ⟨b,o,s⟩:=a0
    have hs':s=none:=hs
    subst hs'
    rw [addr_add]
   refine ⟨fun hne=>?_,fun j v hv=>?_⟩
   ·rw [← h4,hadd (hspot hne)]
   ·have hv':(rowCells ((X.els.drop lo).take (hi - lo)))[j]?=some v:=hv
    have hne:(X.els.drop lo).take (hi - lo)≠[]:=fun e=>by rw [e] at hv';simp [rowCells] at hv'
    rw [← h4,hadd (hspot hne)]
    have hrow:rowCells X.els=rowCells (X.els.take lo)++(rowCells ((X.els.drop lo).take (hi - lo))++rowCells ((X.els.drop lo).drop (hi - lo))):=by
     rw [← rowCells_append,← rowCells_append,List.take_append_drop,List.take_append_drop]
    have hl:(rowCells (X.els.take lo)).length=lo*GT.sz τ:=by rw [length_rowCells,List.length_take,Nat.min_eq_left (by omega)]
    have:=r7 (lo*GT.sz τ+j) v (by
     rw [hrow,List.getElem?_append_right (by omega),hl,Nat.add_sub_cancel_left,List.getElem?_append_left (List.getElem?_eq_some_iff.1 hv').1];exact hv')
    rw [show a0.off+lo*GT.sz τ+j=a0.off+(lo*GT.sz τ+j) by omega];exact this
def slcP {δ:Type} (l:List δ) (a b:Int):Option (List δ):=if 0≤a∧a≤b∧b≤l.length then some ((l.drop a.toNat).take (b.toNat - a.toNat)) else none
def optI (l:Envl) (x:Option Operand) (n:Int):Option Int:=match x with
 | none=>some n
 | some o=>match ev l o with | some (.int _ i)=>some i | _=>none
theorem optI_some {o:Operand} {n i:Int} (h:optI l (some o) n=some i):∃ k,ev l o=some (.int k i):=by
 unfold optI at h
 dsimp only at h
 split at h
 ·cases h;exact ⟨_,by assumption⟩
 ·cases h
theorem run_sliceBound {P:Program} {k:IntKind} {i:Int} {y:Nat} {code:BoundsCode} (h0:0≤i) (h1:i≤(y:Int)) (w:World):(Instr.sliceBound (.int k i) y code).run P w=.ok i.toNat w:=by
 simp [Instr.sliceBound,asIntOf,h0,h1]
end
end Go.Proofs.SL
namespace Go.Proofs.SL
open Go
variable {Γ:Cx} {l:Envl} {M M' M1 M2 F:List HP} {Q:Post} {K:Kont} {w0 w:World} {S0:List Nat}
variable {rest:List Oper} {d:Nat} {ty:TypeId} {pos:String} {af:Array Edge}
variable {ops:Array Oper} {Msh pool:List HP} {E:Fl} {rs:List (Option Nat×Rel)} {cs0:List Nat} {KD:List (Option Nat×Rel)→List Nat→List HP→Prop} {gd:Option (Nat×Bool)}
def optD (E:Fl) (x:Option Operand) (c:Prop) (n i:Int):Prop:=match x with
 | none=>n=i
 | some o=>∃ k,OpV E o c (.int k i)
theorem optD.none {c:Prop} {n:Int}:optD E Option.none c n n:=rfl
theorem optD.some {o:Operand} {c:Prop} {n i:Int} {k:IntKind} (h:OpV E o c (.int k i)):optD E (Option.some o) c n i:=⟨k,h⟩
section
variable {τ δ:Type} [GT τ δ]
def holeH (X:TL τ) (i:Nat) (cs:List Value):HP:=⟨[X.g]++(X.els.eraseIdx i).flatMap GT.fp,
 fun w=>cs.length=GT.sz τ∧i < X.els.length∧X.els.length≤X.cap∧X.cap≤maxLen∧X.a=some ⟨X.g,0,none⟩∧(∀ x,x∈X.els.eraseIdx i→GT.ow w x) ∧
  w.heap[X.g]?=some (.cells (rowCells (X.els.take i)++(cs++(rowCells (X.els.drop (i+1))++X.tail))).toArray X.e (0,0))∧X.els.length*GT.sz τ+X.tail.length=X.cap*GT.sz τ,
 fun w w' h hp=>⟨hp.1,hp.2.1,hp.2.2.1,hp.2.2.2.1,hp.2.2.2.2.1,fun x hx=>GT.ow_st (fun k hk=>h k (List.mem_append_right _ (List.mem_flatMap.2 ⟨x,hx,hk⟩))) (hp.2.2.2.2.2.1 x hx),by
  rw [h X.g (by simp)];exact hp.2.2.2.2.2.2.1,hp.2.2.2.2.2.2.2⟩⟩
theorem row_parts (xs:List τ) {i:Nat} {x:τ} (hi:xs[i]?=some x):rowCells xs=rowCells (xs.take i)++(GT.cells x++rowCells (xs.drop (i+1))):=by
 obtain ⟨hlt,hx⟩:=List.getElem?_eq_some_iff.1 hi
 have h1:xs=xs.take i++xs[i]::xs.drop (i+1):=by rw [← List.drop_eq_getElem_cons hlt,List.take_append_drop]
 conv=>lhs;rw [h1]
 rw [rowCells_append,rowCells_cons,hx]
theorem perm_el (xs:List τ) {i:Nat} {x:τ} (hi:xs[i]?=some x):List.Perm xs (x::xs.eraseIdx i):=by
 obtain ⟨hlt,hx⟩:=List.getElem?_eq_some_iff.1 hi
 rw [List.eraseIdx_eq_take_drop_succ]
 have:xs=xs.take i++x::xs.drop (i+1):=by rw [← hx,← List.drop_eq_getElem_cons hlt,List.take_append_drop]
 conv=>lhs;rw [this]
 exact List.perm_middle
theorem hole_open {X:TL τ} {i:Nat} {x:τ} (hi:X.els[i]?=some x) (p:Pick (treeH X) M M1) (h:Holds w0 S0 M w):Holds w0 S0 (treeH x::holeH X i (GT.cells x)::M1) w:=by
 have h:=h.perm p.perm
 have ht:GT.ow w X:=h.prs _ (List.mem_cons_self ..)
 have hlt:=(List.getElem?_eq_some_iff.1 hi).1
 obtain ⟨r1,r2,r3,r4,r5⟩:=ht
 obtain ⟨g,ha⟩:=(ow_facts (w:=w) (L:=X) ⟨r1,r2,r3,r4,r5⟩).2 (by omega)
 have hg:X.g=g:=by unfold TL.g;rw [ha];rfl
 subst hg
 obtain ⟨h1,h2,h3,h4⟩:=r5 _ ha
 refine h.reFp ?_ fun y hy=>?_
 ·simp only [fps_cons]
  show List.Perm (((match X.a with | none=>[] | some a=>[a.block])++X.els.flatMap GT.fp)++fps M1) (GT.fp x++(([X.g]++(X.els.eraseIdx i).flatMap GT.fp)++fps M1))
  rw [ha]
  have hp:=(perm_el X.els hi).flatMap_right GT.fp
  rw [List.flatMap_cons] at hp
  show List.Perm (([X.g]++X.els.flatMap GT.fp)++fps M1) _
  rw [← List.append_assoc,← List.append_assoc]
  refine List.Perm.append_right _ ?_
  refine (hp.append_left [X.g]).trans ?_
  rw [← List.append_assoc]
  exact List.perm_append_comm.append_right _
 ·rcases List.mem_cons.1 hy with rfl | hy
  ·exact r3 x (List.mem_of_getElem? hi)
  rcases List.mem_cons.1 hy with rfl | hy
  ·refine ⟨GT.len x,hlt,r1,r2,ha,fun z hz=>r3 z ((perm_el X.els hi).mem_iff.2 (List.mem_cons_of_mem _ hz)),?_,h4⟩
   rw [row_parts X.els hi] at h3
   simpa [List.append_assoc] using h3
  ·exact h.prs _ (List.mem_cons_of_mem _ hy)
theorem hole_close {X:TL τ} {i:Nat} {x':τ} {cs:List Value} (hc:cs=GT.cells x') (p:Pick (holeH X i cs) M M1) (q:Pick (treeH x') M1 M2) (h:Holds w0 S0 M w) :
  Holds w0 S0 (treeH ({ X with els:=X.els.set i x' }:TL τ)::M2) w:=by
 subst hc
 have h:=h.perm (p.perm.trans (q.perm.cons _))
 obtain ⟨r1,r2,r3,r4,r5,r6,r7,r8⟩:=h.prs (holeH X i (GT.cells x')) (List.mem_cons_self ..)
 have hx:=h.prs (treeH x') (List.mem_cons_of_mem _ (List.mem_cons_self ..))
 have hi:(X.els.set i x')[i]?=some x':=by rw [List.getElem?_set_self];exact r2
 have he:(X.els.set i x').eraseIdx i=X.els.eraseIdx i:=by
  rw [List.eraseIdx_eq_take_drop_succ,List.eraseIdx_eq_take_drop_succ,List.take_set_of_le (Nat.le_refl _),List.drop_set_of_lt (Nat.lt_succ_self _)]
 refine h.reFp ?_ fun y hy=>?_
 ·simp only [fps_cons]
  show List.Perm (([X.g]++(X.els.eraseIdx i).flatMap GT.fp)++(GT.fp x'++fps M2)) (((match X.a with | none=>[] | some a=>[a.block])++(X.els.set i x').flatMap GT.fp)++fps M2)
  rw [r5]
  have hp:=(perm_el _ hi).flatMap_right GT.fp
  rw [List.flatMap_cons,he] at hp
  show List.Perm _ (([X.g]++(X.els.set i x').flatMap GT.fp)++fps M2)
  rw [← List.append_assoc]
  refine List.Perm.append_right _ ?_
  rw [List.append_assoc]
  exact ((List.perm_append_comm).trans hp.symm).append_left [X.g]
 ·rcases List.mem_cons.1 hy with rfl | hy
  ·refine ⟨by simpa using r3,r4,fun z hz=>?_,fun ha=>?_,fun a ha=>?_⟩
   ·rcases List.mem_cons.1 ((perm_el _ hi).mem_iff.1 hz) with rfl | hz
    ·exact hx
    ·rw [he] at hz;exact r6 z hz
   ·have ha':X.a=none:=ha
    rw [r5] at ha';cases ha'
   ·have ha':X.a=some a:=ha
    rw [r5] at ha';cases ha'
    refine ⟨rfl,rfl,?_,by simpa using r8⟩
    rw [row_parts _ hi,List.take_set_of_le (Nat.le_refl _),List.drop_set_of_lt (Nat.lt_succ_self _)]
    simpa [List.append_assoc] using r7
  ·exact h.prs _ (List.mem_cons_of_mem _ (List.mem_cons_of_mem _ hy))
theorem dat_set (X:TL τ) (i:Nat) (x':τ):GT.dat ({ X with els:=X.els.set i x' }:TL τ)=(GT.dat X).set i (GT.dat x'):=by
 rw [dat_els,dat_els,List.map_set]
theorem RdC.hole {X:TL τ} {i:Nat} {cs:List Value} (h:holeH X i cs∈M):RdC Γ M X.g (X.o+i*GT.sz τ) cs:=fun w hw j v hv=>by
 obtain ⟨r1,r2,r3,r4,r5,r6,r7,r8⟩:=hw.prs _ h
 have ho:X.o=0:=by unfold TL.o;rw [r5];rfl
 have hj:=(List.getElem?_eq_some_iff.1 hv).1
 have hl:(rowCells (X.els.take i)).length=i*GT.sz τ:=by rw [length_rowCells,List.length_take,Nat.min_eq_left (by omega)]
 rw [ho,Nat.zero_add,cell_of_row _ _ _ _ _ _ r7]
 simp only [List.getElem?_toArray]
 rw [List.getElem?_append_right (by omega),hl,Nat.add_sub_cancel_left,List.getElem?_append_left hj]
 exact hv
theorem L_stH {x y:Operand} {T sz fo n:Nat} {v:Value} {X:TL τ} {i:Nat} {cs:List Value} (hx:ev l x=some (.pointer (some ⟨X.g,X.o+i*sz+fo,none⟩))) (hy:ev l y=some v)
  (hp:Pick (holeH X i cs) M M1) (hsz:GT.sz τ=sz) (hT:aggOf Γ.P T=some n∨(oneOf Γ.P T=true∧n=1)) (hv:v.cells.toList.length=n) (h1:∀ u,u∈v.cells.toList→u.oneCell'=true) (hfit:fo+n≤cs.length)
  (hk:L Γ rest l (holeH X i (cs.take fo++v.cells.toList++cs.drop (fo+n))::M1) K) :
  L Γ ({ dst:=none,op:=.store T x y,type:=ty,pos,after:=af,guard:=none }::rest) l M K :=
 L_skip rfl rfl (fun a w ha hw=>by
  subst hsz;subst hv
  have hw1:=hw.perm hp.perm
  obtain ⟨r1,r2,r3,r4,r5,r6,r7,r8⟩:=hw1.prs (holeH X i cs) (List.mem_cons_self ..)
  have ho:X.o=0:=by unfold TL.o;rw [r5];rfl
  have hl:(rowCells (X.els.take i)).length=i*GT.sz τ:=by rw [length_rowCells,List.length_take,Nat.min_eq_left (by omega)]
  have hs:=run_store_blk (P:=Γ.P) (fo:=i*GT.sz τ+fo) (vs:=v.cells.toList) (ty:=0) r7 (by
   simp only [List.length_append,hl];omega) h1
  have e:(rowCells (X.els.take i)++(cs++(rowCells (X.els.drop (i+1))++X.tail))).take (i*GT.sz τ+fo)++v.cells.toList++(rowCells (X.els.take i)++(cs++(rowCells (X.els.drop (i+1))++X.tail))).drop (i*GT.sz τ+fo+v.cells.toList.length)
   =rowCells (X.els.take i)++((cs.take fo++v.cells.toList++cs.drop (fo+v.cells.toList.length))++(rowCells (X.els.drop (i+1))++X.tail)):=by
   generalize rowCells (X.els.take i)=A at *
   generalize (rowCells (X.els.drop (i+1))++X.tail)=B at *
   rw [← hl]
   rw [List.take_append,List.take_of_length_le (by omega),Nat.add_sub_cancel_left,List.take_append_of_le_length (by omega)]
   rw [show A.length+fo+v.cells.toList.length=A.length+(fo+v.cells.toList.length) by omega,List.drop_append,List.drop_of_length_le (by omega),List.nil_append,Nat.add_sub_cancel_left,List.drop_append_of_le_length (by omega)]
   simp only [List.append_assoc]
  rw [e] at hs
  refine ⟨w.setRow X.g (rowCells (X.els.take i)++((cs.take fo++v.cells.toList++cs.drop (fo+v.cells.toList.length))++(rowCells (X.els.drop (i+1))++X.tail))).toArray,?_,?_⟩
  ·have hx':=ha.eval hx
   rw [ho,Nat.zero_add] at hx'
   rcases hT with hT | ⟨hT,hn1⟩
   ·have hcs:v.cells.size=v.cells.toList.length:=by simp
    simp [execOp,hx',ha.eval hy,Instr.storeAt,Instr.sureAddr,storeVar,run_isAgg_agg hT,hs]
   ·have hcs:v.cells.size=1:=by rw [← hn1];simp
    simp [execOp,hx',ha.eval hy,Instr.storeAt,Instr.sureAddr,storeVar,run_isAgg_one hT,hcs,hs]
  ·refine Holds.swap hw1 rfl ⟨rfl,Nat.le_refl _⟩ rfl (by simp) (fun k hk hn=>?_) (fun k hk=>?_) ?_ ?_
   ·exact setRow_other _ _ _ _ (fun e=>hn (by simp [holeH,e]))
   ·have hk':k∈(holeH X i cs).fp:=hk
    refine ⟨.inl hk',?_⟩
    rw [size_setRow]
    exact (hw1.rng k (by rw [fps_cons];exact List.mem_append_left _ hk')).2
   ·have:=hw1.nodup
    rw [fps_cons] at this
    exact (List.nodup_append.1 this).1
   ·have hdis:∀ k,k∈(X.els.eraseIdx i).flatMap GT.fp→k≠X.g:=fun k hk e=>by
     have:=hw1.nodup
     rw [fps_cons] at this
     have h2:=(List.nodup_append.1 this).1
     have h3:(X.g::(X.els.eraseIdx i).flatMap GT.fp).Nodup:=h2
     rw [List.nodup_cons] at h3
     exact h3.1 (e ▸ hk)
    refine ⟨?_,r2,r3,r4,r5,fun z hz=>GT.ow_st (fun k hk=>setRow_other _ _ _ _ (fun e=>hdis k (List.mem_flatMap.2 ⟨z,hz,hk⟩) e)) (r6 z hz),setRow_heap _ _ _ _ _ _ r7,r8⟩
    simp only [List.length_append,List.length_take,List.length_drop];omega) hk
end
end Go.Proofs.SL
namespace Go.Proofs.SL
open Go
theorem cells_int (n:Int):GT.cells n=[.int .i64 n]:=rfl
theorem cells_bool (b:Bool):GT.cells b=[.bool b]:=rfl
theorem cells_str (s:ByteArray):GT.cells s=[.string s]:=rfl
theorem cells_TL {τ δ:Type} [GT τ δ] (X:TL τ):GT.cells X=[X.hdr]:=rfl
theorem gnot {b:Bool} (h:b=false):(!b)=true:=by rw [h];rfl
theorem gand {a b:Bool} (h:a=true) (h2:b=true):(a&&b)=true:=by rw [h,h2];rfl
theorem allOne {cs:List Value} (h:cs.all Value.oneCell'=true):∀ v,v∈cs→v.oneCell'=true:=List.all_eq_true.1 h
variable {Γ:Cx} {l:Envl} {M M' M1 M2 F:List HP} {Q:Post} {K:Kont} {w0 w:World} {S0:List Nat}
variable {rest:List Oper} {d:Nat} {ty:TypeId} {pos:String} {af:Array Edge}
theorem RdT.now {τ δ:Type} [GT τ δ] {t:τ} (h:RdT Γ M t) (hw:Holds Γ.w0 Γ.S0 M w):GT.rd w [] t:=h w hw.sees
theorem RdT.nowS {τ δ:Type} [GT τ δ] {t:τ} (h:RdT Γ M t) (hw:Holds Γ.w0 Γ.S0 F w) (hs:∀ x,x∈M→x∈F):GT.rd w [] t:=h w (hw.seesSub hs)
theorem addNilT {τ δ:Type} [GT τ δ] (e:TypeId) (h:Holds w0 S0 M w):Holds w0 S0 (treeH (TL.nil τ e)::M) w:=h.addFlat (flat_nil e)
theorem L_mk0 (τ:Type) {δ:Type} [GT τ δ] {T e sz by_:Nat} {z:List Value} (hn:Nat.blt d Γ.n=true) (ht:elOf Γ.P T=some (e,sz,by_,z))
  (hk:∀ X:TL τ,GT.dat X=[]→L Γ rest ((d,X.hdr)::l) (treeH X::M) K) :
  L Γ ({ dst:=some d,op:=.buildSlice T 0 #[],type:=ty,pos,after:=af,guard:=none }::rest) l M K :=
 L_buildSlice0 τ hn ht (fun b=>hk ⟨some ⟨b,0,none⟩,0,e,[],[]⟩ rfl)
end Go.Proofs.SL
namespace Go.Proofs.SL
open Go
variable {Γ:Cx} {l:Envl} {M M' M1 M2 F:List HP} {Q:Post} {K:Kont} {w0 w:World} {S0:List Nat}
variable {rest:List Oper} {d:Nat} {ty:TypeId} {pos:String} {af:Array Edge}
variable {ops:Array Oper} {Msh pool pool':List HP} {E:Fl} {rs:List (Option Nat×Rel)} {cs0:List Nat} {KD:List (Option Nat×Rel)→List Nat→List HP→Prop}
def RowV (cs:List Value) (e:TypeId):Rel:=fun v M=>∃ b,v=.slice (some ⟨b,0,none⟩) 1 1∧M=[blk b cs e]
theorem run_bs1 {P:Program} {T e sz by_:Nat} {z:List Value} {v:Value} (ht:elOf P T=some (e,sz,by_,z)) (hz:z.length=sz) (hsz:0 < sz) (hns:sz≤65536) (hv:v.cells.toList.length=sz) (w:World) :
  (Instr.buildSlice T 1 #[(0,v)]).run P w=.ok (.slice (some ⟨w.heap.size,0,none⟩) 1 1) (w.alloc (.cells v.cells.toList.toArray e (0,0))) :=
 run_buildSlice (w:=w) (n:=1) (ps:=[(0,v)]) (cs:=v.cells.toList) ht hz hsz (by omega) (by omega) (by
  simp only [fillL,Nat.zero_mul,Nat.one_mul,Nat.zero_add,hv,Nat.beq_refl,Bool.true_and,List.length_map,List.length_range,List.take_zero,List.nil_append]
  rw [show Nat.ble sz sz=true from Nat.ble_eq_true_of_le (Nat.le_refl _)]
  simp only []
  rw [List.drop_of_length_le (by simp),List.append_nil])
theorem D_bs1 {x:Operand} {T e sz by_:Nat} {z:List Value} {v:Value} (hx:OpV E x True v) (ht:elOf Γ.P T=some (e,sz,by_,z)) (hz:z.length=sz) (hsz:0 < sz) (hns:sz≤65536) (hv:v.cells.toList.length=sz)
  (hk:DV Γ ops Msh pool ((d,RowV v.cells.toList e)::E) ((some d,RowV v.cells.toList e)::rs) cs0 rest KD) :
  DV Γ ops Msh pool E rs cs0 ({ dst:=some d,op:=.buildSlice T 1 #[(0,x)],type:=ty,pos:=pos,after:=af,guard:=none }::rest) KD:=by
 refine DV.mk (RowV v.cells.toList e) [] pool [] (by simp) rfl ?_ (by rw [dropE_nil];exact hk)
 intro a w F Mk _ _ hw hm hfa hcf
 have hMk:Mk=[]:=hcf
 subst hMk
 rw [dropE_nil] at hfa
 simp only [List.nil_append] at hw ⊢
 rw [if_pos (by simp [Region.wanted])]
 have e1:=hx.eval hfa (by simp [Op.operands]) trivial
 have h1:(execOp a.eval { dst:=some d,op:=.buildSlice T 1 #[(0,x)],type:=ty,pos:=pos,after:=af,guard:=none }).run Γ.P w=.ok (.value (.slice (some ⟨w.heap.size,0,none⟩) 1 1)) (w.alloc (.cells v.cells.toList.toArray e (0,0))):=by
  simp only [execOp]
  have:(#[(0,x)]:Array (Nat×Operand)).map (fun (i,x)=>(i,a.eval x))=#[(0,v)]:=by simp [e1]
  rw [this]
  simp [run_bs1 ht hz hsz hns hv]
 rw [h1]
 exact ⟨[blk w.heap.size v.cells.toList e],⟨_,rfl,rfl⟩,Holds.new (show Holds Γ.w0 Γ.S0 F w by simpa using hw) rfl⟩
section
variable {τ δ:Type} [GT τ δ]
def OwnV (r:List δ):Rel:=fun v M=>∃ X:TL τ,v=X.hdr∧GT.dat X=r∧M=[treeH X]
theorem D_app1F [FlatT τ] {s:Operand} {t T e sz by_:Nat} {z:List Value} {X:TL τ} {T':TypeId} (y:τ) {r:List δ}
  (hs:OpV (dropE [t] E) s True X.hdr) (hx:E.lookup t=some (RowV (GT.cells y) T')) (ht:elOf Γ.P T=some (e,sz,by_,z)) (hsz:GT.sz τ=sz) (hz:z.length=sz)
  (hp:Pick (treeH X) pool pool') (hr:appP (GT.dat X) [GT.dat y]=some r) (hb:by_≤32768)
  (hlin:linB ops { dst:=some d,op:=.call { callee:=.builtin .append,args:=#[s,.tmp t],argTypes:=#[T,T] },type:=ty,pos:=pos,after:=af,guard:=none } [t]=true)
  (hk:DV Γ ops Msh pool' ((d,OwnV (τ:=τ) r)::dropE [t] E) ((some d,OwnV (τ:=τ) r)::rs) ([t]++cs0) rest KD) :
  DV Γ ops Msh pool E rs cs0 ({ dst:=some d,op:=.call { callee:=.builtin .append,args:=#[s,.tmp t],argTypes:=#[T,T] },type:=ty,pos:=pos,after:=af,guard:=none }::rest) KD:=by
 refine DV.mk (OwnV (τ:=τ) r) ([treeH X]) pool' ([t]) hp.perm hlin ?_ hk
 intro a w F Mk _ _ hw hm hfa hcf
 obtain ⟨Mx,Mk',rfl,hR,hnil⟩:=hcf
 have hnil:Mk'=[]:=hnil
 subst hnil
 obtain ⟨b,hv,rfl⟩:=hR _ hx
 rw [if_pos (by simp [Region.wanted])]
 have e1:=hs.eval hfa (by simp [Op.operands,Call.operands]) trivial
 have e2:a.eval (.tmp t)=.slice (some ⟨b,0,none⟩) 1 1:=hv
 obtain ⟨hl,rfl⟩:=appP_some hr
 simp only [dat_els,List.length_map,List.length_cons,List.length_nil] at hl
 have hw1:Holds Γ.w0 Γ.S0 (treeH X::blk b (GT.cells y) T'::F) w:=by simpa using hw
 have hsrc:∀ j v,(rowCells [y])[j]?=some v→w.cell? ((⟨b,0,none⟩:Addr).add j)=some v:=fun j v hv=>by
  rw [addr_add]
  exact RdC.blk (Γ:=Γ) (M:=treeH X::blk b (GT.cells y) T'::F) (List.mem_cons_of_mem _ (List.mem_cons_self ..)) w hw1.sees j v (by simpa [rowCells] using hv)
 obtain ⟨a',c',e',tl,w',h1,h2⟩:=append_rowE (P:=Γ.P) (c:=1) ht hsz hz (tree_row hw1) hsrc (by simpa using hl) hb ty
 have h1':(Builtin.append_ #[T,T] ty #[X.hdr,.slice (some ⟨b,0,none⟩) 1 1]).run Γ.P w=.ok (TL.hdr (⟨a',c',e',X.els++[y],tl⟩:TL τ)) w':=h1
 have h3:(execOp a.eval { dst:=some d,op:=.call { callee:=.builtin .append,args:=#[s,.tmp t],argTypes:=#[T,T] },type:=ty,pos:=pos,after:=af,guard:=none }).run Γ.P w=.ok (.value (TL.hdr (⟨a',c',e',X.els++[y],tl⟩:TL τ))) w':=by
  generalize TL.hdr (⟨a',c',e',X.els++[y],tl⟩:TL τ)=vv at *
  generalize X.hdr=uu at *
  simp [execOp,resolve,invoke,builtin,e1,e2,h1']
 rw [h3]
 refine ⟨[treeH (⟨a',c',e',X.els++[y],tl⟩:TL τ)],⟨_,rfl,?_,rfl⟩,?_⟩
 ·rw [dat_els,List.map_append];rfl
 ·refine row_tree ?_
  have h4:Holds Γ.w0 Γ.S0 (elsT X.els::elsT [y]::rowH (⟨a',c',e',X.els++[y],tl⟩:TL τ)::F) w':=by
   have h5:=elsT_flat (xs:=[y]) h2 (fun x _=>FlatT.flat x)
   have h6:Holds Γ.w0 Γ.S0 (elsT X.els::elsT [y]::rowH (⟨a',c',e',X.els++[y],tl⟩:TL τ)::blk b (GT.cells y) T'::F) w' :=
    h5.perm (((List.Perm.swap _ _ _).cons _).trans (List.Perm.swap _ _ _))
   exact h6.sub ⟨[blk b (GT.cells y) T'],by
    show List.Perm _ (([elsT X.els,elsT [y],rowH (⟨a',c',e',X.els++[y],tl⟩:TL τ)]++F)++[blk b (GT.cells y) T'])
    rw [List.append_assoc]
    exact (List.perm_append_comm (l₁:=[blk b (GT.cells y) T']) (l₂:=F)).append_left [elsT X.els,elsT [y],rowH (⟨a',c',e',X.els++[y],tl⟩:TL τ)]⟩
  exact (elsT_app h4).perm (List.Perm.swap _ _ _)
theorem RdC.row {X:TL τ} {j:Nat} {x:τ} (h:rowH X∈M) (hi:X.els[j]?=some x):RdC Γ M X.g (X.o+j*GT.sz τ) (GT.cells x):=fun w hw k v hv=>by
 obtain ⟨r1,r2,r3,r4⟩:=hw.prs _ h
 have hlt:=(List.getElem?_eq_some_iff.1 hi).1
 have hk:k < GT.sz τ:=by rw [← GT.len x];exact (List.getElem?_eq_some_iff.1 hv).1
 cases ha:X.a with
 | none=>have:=(r3 ha).1;rw [this] at hlt;simp at hlt
 | some a =>
  obtain ⟨h1,h2,h3,h4⟩:=r4 a ha
  have hg:X.g=a.block:=by unfold TL.g;rw [ha];rfl
  have ho:X.o=0:=by unfold TL.o;rw [ha];exact h2
  rw [hg,ho,Nat.zero_add,cell_of_row _ _ _ _ _ _ h3]
  simp only [List.getElem?_toArray]
  have hc:=rowCells_get X.els j k x hi hk
  rw [List.getElem?_append_left (by rw [hv] at hc;exact (List.getElem?_eq_some_iff.1 hc).1),hc]
  exact hv
theorem row_adr {X:TL τ} {j:Nat} {u:τ} (h:(rowH X).pr w) (hi:X.els[j]?=some u):X.hdr=.slice (some ⟨X.g,X.o,none⟩) X.els.length X.cap:=by
 obtain ⟨r1,r2,r3,r4⟩:=h
 have hlt:=(List.getElem?_eq_some_iff.1 hi).1
 show Value.slice X.a X.els.length X.cap=_
 cases ha:X.a with
 | none=>have:=(r3 ha).1;rw [this] at hlt;simp at hlt
 | some a =>
  obtain ⟨h1,h2,h3,h4⟩:=r4 a ha
  obtain ⟨b,o,s⟩:=a
  have h1:s=none:=h1
  subst h1
  simp [TL.g,TL.o,ha]
theorem L_idxR {x y:Operand} {T e sz by_:Nat} {z:List Value} {k:IntKind} {i:Int} {X:TL τ} {u:τ} (hn:Nat.blt d Γ.n=true) (hx:ev l x=some X.hdr) (hy:ev l y=some (.int k i))
  (ht:elOf Γ.P T=some (e,sz,by_,z)) (hm:rowH X∈M) (hi:0≤i∧X.els[i.toNat]?=some u) (hk:L Γ rest ((d,.pointer (some ⟨X.g,X.o+i.toNat*sz,none⟩))::l) M K) :
  L Γ ({ dst:=some d,op:=.indexAddr T x y,type:=ty,pos:=pos,after:=af,guard:=none }::rest) l M K :=
 L_pure hn (fun a' w ha hw=>by
  have h1:=ha.eval hx
  rw [row_adr (hw.prs _ hm) hi.2] at h1
  simp [execOp,h1,ha.eval hy,run_indexAt ht X.g X.o X.els.length X.cap k i i.toNat (by omega) (List.getElem?_eq_some_iff.1 hi.2).1 w]) hk
theorem els_next {X:TL τ} {i:Nat} {u:τ} (hi:X.els[i]?=some u) (p:Pick (elsT (X.els.drop i)) M M1) (h:Holds w0 S0 M w):Holds w0 S0 (treeH u::elsT (X.els.drop (i+1))::M1) w:=by
 have h1:=h.perm p.perm
 obtain ⟨hlt,hx⟩:=List.getElem?_eq_some_iff.1 hi
 have he:X.els.drop i=u::X.els.drop (i+1):=by rw [← hx,← List.drop_eq_getElem_cons hlt]
 rw [he] at h1
 refine h1.reFp (List.Perm.of_eq ?_) fun y hy=>?_
 ·simp only [fps_cons]
  show (u::X.els.drop (i+1)).flatMap GT.fp++fps M1=GT.fp u++((X.els.drop (i+1)).flatMap GT.fp++fps M1)
  rw [List.flatMap_cons,List.append_assoc]
 ·have h2:=h1.prs (elsT (u::X.els.drop (i+1))) (List.mem_cons_self ..)
  rcases List.mem_cons.1 hy with rfl | hy
  ·exact h2 u (List.mem_cons_self ..)
  rcases List.mem_cons.1 hy with rfl | hy
  ·exact fun x hx=>h2 x (List.mem_cons_of_mem _ hx)
  ·exact h1.prs _ (List.mem_cons_of_mem _ hy)
theorem els_start {X:TL τ} (p:Pick (treeH X) M M1) (h:Holds w0 S0 M w):Holds w0 S0 (rowH X::elsT (X.els.drop 0)::M1) w:=tree_row (h.perm p.perm)
theorem els_step {X:TL τ} {i:Int} {u:τ} (hi:0≤i∧X.els[i.toNat]?=some u) (hm:rowH X∈M) (p:Pick (elsT (X.els.drop (i.toNat+1))) M M1) (h:Holds w0 S0 M w) :
  Holds w0 S0 (elsT (X.els.drop (IntKind.wrap .i64 (i+1)).toNat)::M1) w:=by
 have h1:=h.perm p.perm
 have hlt:=(List.getElem?_eq_some_iff.1 hi.2).1
 obtain ⟨r1,r2,_⟩:=h.prs _ hm
 simp only [maxLen] at r2
 rw [wrap64_in (by unfold inR;omega),show (i+1).toNat=i.toNat+1 by omega]
 exact h1
end
end Go.Proofs.SL
namespace Go.Proofs.SL
open Go
variable {Γ:Cx} {l:Envl} {M M' M1 M2 F:List HP} {Q:Post} {K:Kont} {rest:List Oper}
section
variable {τ δ:Type} [GT τ δ]
theorem L_close {X:TL τ} {i:Nat} {cs:List Value} (x':τ) {r:List δ} (hc:cs=GT.cells x') (p:Pick (holeH X i cs) M M1) (q:Pick (treeH x') M1 M2) (hr:some ((GT.dat X).set i (GT.dat x'))=some r)
  (hk:∀ X2:TL τ,GT.dat X2=r→X2.hdr=X.hdr→L Γ rest l (treeH X2::M2) K):L Γ rest l M K :=
 L_conv (fun w h=>hole_close hc p q h) (hk _ (by rw [dat_set];exact Option.some.inj hr) (by show Value.slice X.a (X.els.set i x').length X.cap=Value.slice X.a X.els.length X.cap;rw [List.length_set]))
end
end Go.Proofs.SL
namespace Go.Proofs.SL
open Go
variable {Γ:Cx} {rest:List Oper} {d:Nat} {ty:TypeId} {pos:String} {af:Array Edge} {gd:Option (Nat×Bool)}
variable {ops:Array Oper} {Msh pool:List HP} {E:Fl} {rs:List (Option Nat×Rel)} {cs0:List Nat} {KD:List (Option Nat×Rel)→List Nat→List HP→Prop}
end Go.Proofs.SL
namespace Go.Proofs.SL
open Go
variable {Γ:Cx} {rest:List Oper} {d:Nat} {ty:TypeId} {pos:String} {af:Array Edge} {gd:Option (Nat×Bool)}
variable {ops:Array Oper} {Msh pool:List HP} {E:Fl} {rs:List (Option Nat×Rel)} {cs0:List Nat} {KD:List (Option Nat×Rel)→List Nat→List HP→Prop}
end Go.Proofs.SL
namespace Go.Proofs.SL
open Go
section
variable {α β σ τ:Type}
theorem wrap_succ {k:Nat} (h:k < 9223372036854775807):IntKind.wrap .i64 ((k:Int)+1)=((k+1:Nat):Int):=by rw [wrap64_in (by unfold inR;omega)];omega
theorem gb_true [Inhabited α] {o:Option α} {k:α→Option β}:gb true o k=o.bind k:=rfl
theorem gb_false [Inhabited α] {o:Option α} {k:α→Option β}:gb false o k=k default:=rfl
theorem gb_some [Inhabited α] {g:Bool} {a:α} {k:α→Option β} (h:g=false→k a=k default):gb g (some a) k=k a:=by
 cases g with
 | true=>rfl
 | false=>exact (h rfl).symm
def goE (step:τ→β→τ ⊕ Option α) (fin:τ→Option α):List β→τ→Option α
 | [],t=>fin t
 | x::xs,t=>match step t x with
  | .inl t'=>goE step fin xs t'
  | .inr r=>r
theorem whileP_go {f:σ→Option (σ ⊕ α)} {l:List β} (mk:Nat→τ→σ) (step:τ→β→τ ⊕ Option α) (fin:τ→Option α) (I:Nat→τ→Prop)
  (hs:∀ k t x,l[k]?=some x→I k t→(∃ t',step t x=.inl t'∧f (mk k t)=some (.inl (mk (k+1) t'))∧I (k+1) t')∨(∃ r,step t x=.inr r∧f (mk k t)=r.map .inr))
  (he:∀ t,I l.length t→f (mk l.length t)=(fin t).map .inr):∀ (xs:List β) (k:Nat) (t:τ),l.drop k=xs→I k t→k≤l.length→whileP f (mk k t)=goE step fin xs t
 | [],k,t,hd,hi,hk=>by
  have hlen:k=l.length:=by
   have:=congrArg List.length hd
   simp at this;omega
  subst hlen
  rw [whileP_eq,he t hi]
  show _=fin t
  cases fin t<;>rfl
 | x::xs,k,t,hd,hi,hk=>by
  have hx:l[k]?=some x:=by
   have:=congrArg (fun q=>q[0]?) hd
   simpa [List.getElem?_drop] using this
  have hlt:=(List.getElem?_eq_some_iff.1 hx).1
  have hd':l.drop (k+1)=xs:=by
   have:=congrArg List.tail hd
   simpa [List.tail_drop] using this
  rw [whileP_eq]
  rcases hs k t x hx hi with ⟨t',h1,h2,h3⟩ | ⟨r,h1,h2⟩
  ·rw [h2]
   show whileP f (mk (k+1) t')=_
   rw [whileP_go mk step fin I hs he xs (k+1) t' hd' h3 (by omega)]
   simp only [goE,h1]
  ·rw [h2]
   simp only [goE,h1]
   cases r<;>rfl
theorem whileP_for {f:σ→Option (σ ⊕ α)} {l:List β} (mk:Nat→τ→σ) (step:τ→β→τ ⊕ Option α) (fin:τ→Option α) (I:Nat→τ→Prop) (t0:τ) {s0:σ} (h0:mk 0 t0=s0) (hI:I 0 t0)
  (hs:∀ k t x,l[k]?=some x→I k t→(∃ t',step t x=.inl t'∧f (mk k t)=some (.inl (mk (k+1) t'))∧I (k+1) t')∨(∃ r,step t x=.inr r∧f (mk k t)=r.map .inr))
  (he:∀ t,I l.length t→f (mk l.length t)=(fin t).map .inr):whileP f s0=goE step fin l t0:=by
 subst h0
 exact whileP_go mk step fin I hs he l 0 t0 rfl hI (Nat.zero_le _)
theorem goE_app (xs acc:List β) (g:List β→Option α):goE (fun (t:List β) x=>(.inl (t++[x]):List β ⊕ Option α)) g xs acc=g (acc++xs):=by
 induction xs generalizing acc with
 | nil=>simp [goE]
 | cons x xs ih=>simp only [goE];rw [ih];simp
theorem goE_fold (h:τ→β→τ) (g:τ→Option α):∀ (xs:List β) (t:τ),goE (fun t x=>(.inl (h t x):τ ⊕ Option α)) g xs t=g (xs.foldl h t)
 | [],t=>rfl
 | x::xs,t=>by simp only [goE,List.foldl_cons];exact goE_fold h g xs (h t x)
theorem appP_ok {δ:Type} {a b:List δ} (h:a.length+b.length≤4294967296):appP a b=some (a++b):=if_pos h
theorem lt_dec {k n:Nat} (h:k < n):decide ((k:Int) < (n:Int))=true:=decide_eq_true (by omega)
theorem ge_dec {n:Nat}:decide ((n:Int) < (n:Int))=false:=decide_eq_false (by omega)
theorem whileP_all {f:Int→Option (Int ⊕ α)} {n:Nat} (b:Nat→Bool) (no yes:Option α)
  (h:∀ k,k < n→f (k:Int)=if b k then some (.inl ((k+1:Nat):Int)) else no.map .inr) (hn:f (n:Int)=yes.map .inr):whileP f 0=if (List.range n).all b then yes else no:=by
 have key:∀ m k,n - k=m→k≤n→whileP f (k:Int)=if (List.range' k (n - k)).all b then yes else no:=by
  intro m
  induction m with
  | zero =>
   intro k hm hk
   have:k=n:=by omega
   subst this
   rw [whileP_eq,hn,Nat.sub_self]
   cases yes<;>rfl
  | succ m ih =>
   intro k hm hk
   rw [whileP_eq,h k (by omega),show n - k=(n - (k+1))+1 by omega,List.range'_succ,List.all_cons]
   cases hb:b k with
   | true =>
    simp only [if_true,Bool.true_and]
    exact ih (k+1) (by omega) (by omega)
   | false =>
    simp only [Bool.false_and,Bool.false_eq_true,if_false]
    cases no<;>rfl
 have:=key n 0 (by omega) (by omega)
 rw [Nat.sub_zero,← List.range_eq_range'] at this
 exact this
theorem whileP_find {γ:Type} {f:Int→Option (Int ⊕ γ)} {l:List β} (p:β→Bool) (q:Int→Option γ) (hl:l.length≤9223372036854775807)
  (hs:∀ (k:Nat) x,l[k]?=some x→f (k:Int)=if p x then (q k).map .inr else some (.inl (IntKind.wrap .i64 ((k:Int)+1)))) (he:f (l.length:Int)=(q (-1)).map .inr):whileP f 0=q (firstI p l):=by
 have key:∀ (xs:List β) (k:Nat),l.drop k=xs→k≤l.length→(∀ j x,j < k→l[j]?=some x→p x=false)→whileP f (k:Int)=q (firstI p l):=by
  intro xs
  induction xs with
  | nil =>
   intro k hd hk hf
   have hlen:k=l.length:=by have:=congrArg List.length hd;simp at this;omega
   subst hlen
   rw [whileP_eq,he,firstI_miss (fun x hx=>by
    obtain ⟨j,hj⟩:=List.getElem?_of_mem hx
    exact hf j x (List.getElem?_eq_some_iff.1 hj).1 hj)]
   cases q (-1)<;>rfl
  | cons x xs ih =>
   intro k hd hk hf
   have hx:l[k]?=some x:=by
    have:=congrArg (fun q=>q[0]?) hd
    simpa [List.getElem?_drop] using this
   have hlt:=(List.getElem?_eq_some_iff.1 hx).1
   rw [whileP_eq,hs k x hx]
   cases hp:p x with
   | true =>
    rw [firstI_hit (fun y hy=>by
     obtain ⟨j,hj⟩:=List.getElem?_of_mem hy
     have hjl:=(List.getElem?_eq_some_iff.1 hj).1
     rw [List.length_take] at hjl
     rw [List.getElem?_take_of_lt (by omega)] at hj
     exact hf j y (by omega) hj) hx hp]
    simp only [if_true]
    cases q (k:Int)<;>rfl
   | false =>
    simp only [Bool.false_eq_true,if_false]
    rw [wrap_succ (by omega)]
    refine ih (k+1) ?_ (by omega) (fun j y hj hy=>?_)
    ·have:=congrArg List.tail hd
     simpa [List.tail_drop] using this
    ·rcases Nat.lt_or_ge j k with h1 | h1
     ·exact hf j y h1 hy
     ·have:j=k:=by omega
      subst this
      rw [hx] at hy;cases hy;exact hp
 exact key l 0 rfl (Nat.zero_le _) (fun j x hj=>absurd hj (Nat.not_lt_zero _))
theorem all_range_get {l:List β} {p:β→Bool}:(List.range l.length).all (fun k=>(l[k]?).all p)=l.all p:=by
 rw [Bool.eq_iff_iff,List.all_eq_true,List.all_eq_true]
 constructor
 ·intro h x hx
  obtain ⟨i,hi⟩:=List.getElem?_of_mem hx
  have:=h i (List.mem_range.2 (List.getElem?_eq_some_iff.1 hi).1)
  rw [hi] at this;exact this
 ·intro h k hk
  have hk:=List.mem_range.1 hk
  rw [List.getElem?_eq_getElem hk]
  exact h _ (List.getElem_mem hk)
end
end Go.Proofs.SL
namespace Go.Proofs.SL
open Go
variable {Γ:Cx} {l:Envl} {M M' M1 M2 F:List HP} {Q:Post} {K:Kont} {w0 w:World} {S0:List Nat} {P:Program}
variable {rest:List Oper} {d:Nat} {ty:TypeId} {pos:String} {af:Array Edge}
variable {ops:Array Oper} {Msh pool:List HP} {E:Fl} {rs:List (Option Nat×Rel)} {cs0:List Nat} {KD:List (Option Nat×Rel)→List Nat→List HP→Prop} {gd:Option (Nat×Bool)}
section
variable {τ δ:Type} [GT τ δ]
theorem els_sub {xs ys zs:List τ} (hp:List.Perm xs (ys++zs)) (p:Pick (elsT xs) M M1) (h:Holds w0 S0 M w):Holds w0 S0 (elsT ys::M1) w:=by
 have h1:=h.perm p.perm
 have h2:Holds w0 S0 (elsT ys::elsT zs::M1) w:=by
  refine h1.reFp ?_ fun x hx=>?_
  ·simp only [fps_cons]
   show List.Perm (xs.flatMap GT.fp++fps M1) (ys.flatMap GT.fp++(zs.flatMap GT.fp++fps M1))
   rw [← List.append_assoc,← List.flatMap_append]
   exact (hp.flatMap_right _).append_right _
  ·have h3:=h1.prs (elsT xs) (List.mem_cons_self ..)
   rcases List.mem_cons.1 hx with rfl | hx
   ·exact fun y hy=>h3 y (hp.mem_iff.2 (List.mem_append_left _ hy))
   rcases List.mem_cons.1 hx with rfl | hx
   ·exact fun y hy=>h3 y (hp.mem_iff.2 (List.mem_append_right _ hy))
   ·exact h1.prs _ (List.mem_cons_of_mem _ hx)
 exact h2.sub ⟨[elsT zs],(List.perm_append_comm (l₁:=[elsT zs]) (l₂:=M1)).cons _⟩
theorem raw_facts {X:TL τ} (h:GT.ow w X) (hx:X.els≠[]):X.a=some ⟨X.g,0,none⟩∧X.els.length≤X.cap∧X.cap≤maxLen∧X.els.length*GT.sz τ+X.tail.length=X.cap*GT.sz τ∧w.heap[X.g]?=some (.cells (rowCells X.els++X.tail).toArray X.e (0,0)):=by
 obtain ⟨r1,r2,r3,r4,r5⟩:=h
 cases ha:X.a with
 | none=>exact (hx (r4 ha).1).elim
 | some a =>
  obtain ⟨h1,h2,h3,h4⟩:=r5 a ha
  have hg:X.g=a.block:=by unfold TL.g;rw [ha];rfl
  obtain ⟨b,o,s⟩:=a
  have h1:s=none:=h1
  have h2:o=0:=h2
  subst h1;subst h2
  refine ⟨by rw [hg],r1,r2,h4,by rw [hg];exact h3⟩
theorem raw_open {X:TL τ} (hx:X.els≠[]) (p:Pick (treeH X) M M1) (h:Holds w0 S0 M w):Holds w0 S0 (blk X.g (rowCells X.els++X.tail) X.e::elsT X.els::M1) w:=by
 have h1:=h.perm p.perm
 have ht:GT.ow w X:=h1.prs _ (List.mem_cons_self ..)
 obtain ⟨f1,_,_,_,f5⟩:=raw_facts ht hx
 refine h1.reFp (List.Perm.of_eq ?_) fun x hx=>?_
 ·simp only [fps_cons]
  show ((match X.a with | none=>[] | some a=>[a.block])++X.els.flatMap GT.fp)++fps M1=[X.g]++(X.els.flatMap GT.fp++fps M1)
  rw [f1,List.append_assoc]
 ·rcases List.mem_cons.1 hx with rfl | hx
  ·exact f5
  rcases List.mem_cons.1 hx with rfl | hx
  ·exact ht.2.2.1
  ·exact h1.prs _ (List.mem_cons_of_mem _ hx)
theorem raw_close {g cap:Nat} {e:TypeId} {els:List τ} {tail cs:List Value} (hc:cs=rowCells els++tail) (h1:els.length≤cap) (h2:cap≤maxLen) (h3:els.length*GT.sz τ+tail.length=cap*GT.sz τ)
  (p:Pick (blk g cs e) M M1) (q:Pick (elsT els) M1 M2) (h:Holds w0 S0 M w):Holds w0 S0 (treeH (⟨some ⟨g,0,none⟩,cap,e,els,tail⟩:TL τ)::M2) w:=by
 subst hc
 have h4:=h.perm (p.perm.trans (q.perm.cons _))
 refine h4.reFp (List.Perm.of_eq ?_) fun x hx=>?_
 ·simp only [fps_cons]
  show [g]++(els.flatMap GT.fp++fps M2)=([g]++els.flatMap GT.fp)++fps M2
  rw [List.append_assoc]
 ·rcases List.mem_cons.1 hx with rfl | hx
  ·refine ⟨h1,h2,h4.prs (elsT els) (List.mem_cons_of_mem _ (List.mem_cons_self ..)),fun h=>(by cases h),fun a ha=>?_⟩
   cases ha
   exact ⟨rfl,rfl,h4.prs (blk g _ e) (List.mem_cons_self ..),h3⟩
  ·exact h4.prs _ (List.mem_cons_of_mem _ (List.mem_cons_of_mem _ hx))
end
def slA (o c lo sz:Nat):Nat:=if c=lo then o else o+lo*sz
theorem flatten_rep (z:List Value) (n:Nat):((Array.range (n*z.length)).map (fun i=>(z.toArray)[i % z.length]!)).toList=(List.replicate n z).flatten:=by
 refine List.ext_getElem? fun i=>?_
 by_cases hz:z.length=0
 ·have:z=[]:=List.eq_nil_of_length_eq_zero hz
  subst this;simp
 ·have hpos:0 < z.length:=by omega
  by_cases hi:i < n*z.length
  ·have h1:i / z.length < n:=Nat.div_lt_of_lt_mul (by rw [Nat.mul_comm];exact hi)
   have h2:i % z.length < z.length:=Nat.mod_lt _ hpos
   simp only [Array.toList_map,Array.toList_range,List.getElem?_map,List.getElem?_range hi,Option.map_some]
   have key:∀ (n i:Nat),i < n*z.length→((List.replicate n z).flatten)[i]?=z[i % z.length]?:=by
    intro n
    induction n with
    | zero=>intro i h;simp at h
    | succ n ih =>
     intro i h
     rw [List.replicate_succ,List.flatten_cons]
     by_cases hlt:i < z.length
     ·rw [List.getElem?_append_left hlt,Nat.mod_eq_of_lt hlt]
     ·rw [List.getElem?_append_right (by omega),ih (i - z.length) (by rw [Nat.add_mul] at h;omega)]
      rw [← Nat.mod_eq_sub_mod (by omega)]
   rw [key n i hi,getElem!_pos z.toArray (i % z.length) (by simpa using h2)]
   simp [h2]
  ·rw [List.getElem?_eq_none (by simpa using hi),List.getElem?_eq_none (by simp;omega)]
theorem L_val0 {o:Oper} {v:Value} (hg:o.guard=none) (hd:o.dst=none)
  (he:∀ a w,Env a Γ.n l→Holds Γ.w0 Γ.S0 M w→∃ w',(execOp a.eval o).run Γ.P w=.ok (.value v) w'∧Holds Γ.w0 Γ.S0 M' w')
  (hk:L Γ rest l M' K):L Γ (o::rest) l M K:=fun ops a w Q ha hw hq =>
 wpList_plain hg fun K' hK'=>by
  obtain ⟨w',h1,h2⟩:=he a w ha hw
  unfold Oper.wp
  rw [h1,Oper.upon_value,hd]
  exact hK' _ _ (hk ops _ w' Q (by simpa [Act.put] using ha) h2 hq)
theorem run_clr {T e sz by_ g o n c:Nat} {z cs:List Value} {e2:TypeId} (ht:elOf P T=some (e,sz,by_,z)) (hz:z.length=sz) (hone:∀ u,u∈z→u.oneCell'=true)
  (hh:w.heap[g]?=some (.cells cs.toArray e2 (0,0))) (h1:o+n*sz≤cs.length) (hn:n≠0) (ty:TypeId) :
  (Builtin.clear_ #[T] ty #[.slice (some ⟨g,o,none⟩) n c]).run P w=.ok (.tuple #[]) (w.setRow g (cs.take o++(List.replicate n z).flatten++cs.drop (o+n*sz)).toArray):=by
 unfold elOf at ht
 split at ht<;>(try cases ht)
 rename_i e' het
 split at ht<;>(try cases ht)
 rename_i i' hi'
 split at ht<;>cases ht
 rename_i z' hz'
 have hfl:((List.replicate n z'.cells.toList).flatten).length=n*i'.size:=by simp [hz]
 have hs:=run_store_blk (P:=P) (fo:=o) (vs:=(List.replicate n z'.cells.toList).flatten) (ty:=0) hh (by rw [hfl];exact h1) (fun u hu=>by
  obtain ⟨q,hq,hu⟩:=List.mem_flatten.1 hu
  rw [List.eq_of_mem_replicate hq] at hu
  exact hone u hu)
 rw [hfl] at hs
 have hzc:(Builtin.zeroCells z'.cells n).toList=(List.replicate n z'.cells.toList).flatten:=flatten_rep z'.cells.toList n
 obtain ⟨k,rfl⟩:=Nat.exists_eq_succ_of_ne_zero hn
 simp only [Builtin.clear_]
 simp [underlying,het,zeroValue,typeInfo,hi',hz',hzc,hs]
theorem L_clrRaw {x:Operand} {T e sz by_ g o n c:Nat} {z cs:List Value} {e2:TypeId} (hx:ev l x=some (.slice (some ⟨g,o,none⟩) n c)) (ht:elOf Γ.P T=some (e,sz,by_,z)) (hz:z.length=sz) (hone:∀ u,u∈z→u.oneCell'=true)
  (hp:Pick (blk g cs e2) M M1) (h1:o+n*sz≤cs.length) (hn:n≠0)
  (hk:L Γ rest l (blk g (cs.take o++(List.replicate n z).flatten++cs.drop (o+n*sz)) e2::M1) K) :
  L Γ ({ dst:=none,op:=.call { callee:=.builtin .clear,args:=#[x],argTypes:=#[T] },type:=ty,pos,after:=af,guard:=none }::rest) l M K :=
 L_val0 (v:=.tuple #[]) rfl rfl (fun a w ha hw=>by
  have hw1:=hw.perm hp.perm
  have hh:w.heap[g]?=some (.cells cs.toArray e2 (0,0)):=hw1.prs (blk g cs e2) (List.mem_cons_self ..)
  have hr:=run_clr (P:=Γ.P) (c:=c) ht hz hone hh h1 hn ty
  exact ⟨_,by simp [execOp,resolve,invoke,builtin,ha.eval hx,hr],setRow_blk hw1⟩) hk
section
variable {τ δ:Type} [GT τ δ]
theorem sl0 (c sz:Nat):slA 0 c 0 sz=0:=by unfold slA;split<;>simp
theorem row_take (xs:List τ) (i:Nat) (t:List Value) (hi:i≤xs.length):(rowCells xs++t).take (i*GT.sz τ)=rowCells (xs.take i):=by
 have h1:rowCells xs=rowCells (xs.take i)++rowCells (xs.drop i):=by rw [← rowCells_append,List.take_append_drop]
 have h2:(rowCells (xs.take i)).length=i*GT.sz τ:=by rw [length_rowCells,List.length_take,Nat.min_eq_left hi]
 rw [h1,List.append_assoc,← h2,List.take_left]
theorem row_drop (xs:List τ) (i:Nat) (t:List Value) (hi:i≤xs.length):(rowCells xs++t).drop (i*GT.sz τ)=rowCells (xs.drop i)++t:=by
 have h1:rowCells xs=rowCells (xs.take i)++rowCells (xs.drop i):=by rw [← rowCells_append,List.take_append_drop]
 have h2:(rowCells (xs.take i)).length=i*GT.sz τ:=by rw [length_rowCells,List.length_take,Nat.min_eq_left hi]
 rw [h1,List.append_assoc,← h2,List.drop_left]
end
end Go.Proofs.SL
namespace Go.Proofs.SL
open Go
theorem RdT.w0 {Γ:Cx} {τ δ:Type} [GT τ δ] {t:τ} (h:RdT Γ [] t):GT.rd Γ.w0 [] t:=h Γ.w0 ⟨fun _ _ _=>rfl,fun _ h=>by cases h⟩
end Go.Proofs.SL
