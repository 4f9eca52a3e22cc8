/- The texts of the proof, part 6. -/
import Derived.Test.YthlbpedehajlgaaGreatT4
import Derived.Test.YthlbpedehajlgaaGreatT5
set_option linter.all false
namespace Go.Proofs.SL
open Go
variable {Γ:Cx} {l:Ca} {M M' M1 M2 F Mr:List HP} {Q:Dw} {K:Dp} {w0 w:World} {S0 S:List Nat} {P:Program}
variable {rest:List Oper} {d:Nat} {ty:TypeId} {pos:String} {af:Array Edge}
structure EL (τ:Type) where
 els:List τ
instance {τ δ:Type} [GT τ δ]:GT (EL τ) Unit where
 sz:=1
 pos:=by decide
 cells _:=[.bool false]
 len _:=rfl
 one _ v hv:=by simp at hv;subst hv;rfl
 rd w S t:=∀ x,x∈t.els→GT.rd w S x
 fp _:=[]
 ow _ _:=False
 dat _:=()
 rd_mono h hm:=fun x hx=>GT.rd_mono (h x hx) hm
 ow_st _ h:=h
 ow_rd h _:=h.elim
def frz {α τ δ ε:Type} [GT α δ] [GT τ ε] (B:List Nat) (a:α) (x:τ):HP where
 fp:=B
 pr w:=∀ (w':World) (S:List Nat),(∀ k,k∈B→w'.heap[k]?=w.heap[k]?)→(∀ k,k∈B→k ∉ S)→GT.rd w' S a→GT.rd w' S x
 st w w' h hp:=fun w2 S h2 hs ha=>hp w2 S (fun k hk=>(h2 k hk).trans (h k hk)) hs ha
section
variable {τ δ:Type} [GT τ δ] {t:τ}
theorem XP {X:TL τ} (hr:(Bf X).pr w) (he:∀ x,x∈X.els→GT.rd w S x) (hs:∀ k,k∈(Bf X).fp→k ∉ S):GT.rd w S X :=
 ⟨hr.1,hr.2.1,he,fun ha=>(hr.2.2.1 ha).1,fun a ha=>by
  obtain ⟨h1,h2,h3,h4⟩:=hr.2.2.2 a ha;refine ⟨fun _=>h1,fun j v hv=>⟨?_,hs a.block (by simp [Bf,ha])⟩⟩;rw [cell_of_row _ _ _ _ _ _ h3,h2,Nat.zero_add];simp only [List.getElem?_toArray];rw [List.getElem?_append_left (List.getElem?_eq_some_iff.1 hv).1];exact hv⟩
theorem bE (hw:Holds w0 S0 (M1++M2) w) {h:HP} (hm:h∈M2):∀ k,k∈h.fp→k ∉ fps M1:=fun k hk hk1=>by
 have hnd:=hw.nodup
 rw [FW] at hnd;exact (List.nodup_append.1 hnd).2.2 k hk1 k (List.mem_flatMap.2 ⟨_,hm,hk⟩) rfl
theorem RdT.frz {α ε:Type} [GT α ε] {B:List Nat} {a:α} (h:frz B a t∈M) (ha:RdT Γ M a):RdT Γ M t:=fun w hw=>hw.prs _ h w [] (fun _ _=>rfl) (fun _ _ h=>by cases h) (ha w hw)
abbrev CU:=@RdT.frz
theorem Cc {X:TL τ} (h:Bf X∈M) (he:RdT Γ M (EL.mk X.els)):RdT Γ M X:=fun w hw=>XP (hw.prs _ h) (he w hw) (fun _ _ h=>by cases h)
theorem RdT.els {xs:List τ} (h:BU xs∈M):RdT Γ M (EL.mk xs):=fun w hw x hx=>GT.ow_rd (hw.prs _ h x hx) fun _ _ h=>by cases h
abbrev Fs:=@RdT.els
theorem IO {X:TL τ} {j:Nat} {x:τ} (h:RdT Γ M (EL.mk X.els)) (hi:X.els[j]?=some x):RdT Γ M x:=fun w hw=>h w hw x (List.mem_of_getElem? hi)
theorem RdX.frz {α ε:Type} [GT α ε] {B:List Nat} {a:α} (h:SL.frz B a t∈M2) (ha:RdX Γ M1 M2 a):RdX Γ M1 M2 t:=fun w hw=>hw.prs _ (List.mem_append_right _ h) w _ (fun _ _=>rfl) (bE hw h) (ha w hw)
abbrev GP:=@RdX.frz
theorem tA {X:TL τ} (h:Bf X∈M2) (he:RdX Γ M1 M2 (EL.mk X.els)):RdX Γ M1 M2 X:=fun w hw=>XP (hw.prs _ (List.mem_append_right _ h)) (he w hw) (bE hw h)
theorem RdX.els {xs:List τ} (h:BU xs∈M2):RdX Γ M1 M2 (EL.mk xs):=fun w hw x hx=>GT.ow_rd (hw.prs _ (List.mem_append_right _ h) x hx) fun k hk=>bE hw h k (List.mem_flatMap.2 ⟨x,hx,hk⟩)
abbrev Od:=@RdX.els
theorem Rj {X:TL τ} {j:Nat} {x:τ} (h:RdX Γ M1 M2 (EL.mk X.els)) (hi:X.els[j]?=some x):RdX Γ M1 M2 x:=fun w hw=>h w hw x (List.mem_of_getElem? hi)
theorem Uz (w:World) (S:List Nat):GT.rd w S (EL.mk ([]:List τ)):=fun x hx=>by cases hx
theorem UA {xs ys:List τ} (w:World) (S:List Nat) (h1:GT.rd w S (EL.mk xs)) (h2:GT.rd w S (EL.mk ys)):GT.rd w S (EL.mk (xs++ys)):=fun y hy=>by
 rcases List.mem_append.1 hy with h | h
 ·exact h1 y h
 ·exact h2 y h
end
structure PC (Mr:List HP) (w:World) (S:List Nat):Prop where
 prs:∀ h,h∈Mr→h.pr w
 ds:∀ k,k∈fps Mr→k ∉ S
theorem PC.fp (h:PC Mr w S) {x:HP} (hm:x∈Mr):∀ k,k∈x.fp→k ∉ S:=fun k hk=>h.ds k (List.mem_flatMap.2 ⟨x,hm,hk⟩)
def RdP {τ δ:Type} [GT τ δ] (Mr:List HP) (w:World) (S:List Nat) (t:τ):Prop:=PC Mr w S→GT.rd w S t
section
variable {τ δ:Type} [GT τ δ] {t:τ}
theorem RdP.old (h:GT.rd w S t):RdP Mr w S t:=fun _=>h
abbrev Bg:=@RdP.old
theorem TO (h:Af t∈Mr):RdP Mr w S t:=fun hp=>GT.ow_rd (hp.prs _ h) (hp.fp h)
theorem GQ {α β δ ε:Type} [GT α δ] [GT β ε] {t:α×β} (h:RdP Mr w S t):RdP Mr w S t.1:=fun hp=>(h hp).1
theorem Cm {α β δ ε:Type} [GT α δ] [GT β ε] {t:α×β} (h:RdP Mr w S t):RdP Mr w S t.2:=fun hp=>(h hp).2
theorem RdP.of {X:TL τ} {j:Nat} {x:τ} (h:RdP Mr w S X) (hi:X.els[j]?=some x):RdP Mr w S x:=fun hp=>(h hp).2.2.1 x (List.mem_of_getElem? hi)
theorem Ay {α β δ ε:Type} [GT α δ] [GT β ε] {a:α} {b:β} (h1:RdP Mr w S a) (h2:RdP Mr w S b):RdP Mr w S (a,b):=fun hp=>⟨h1 hp,h2 hp⟩
theorem RdP.int {n:Int}:RdP Mr w S n:=fun _=>trivial
abbrev BE:=@RdP.int
theorem RdP.bool {n:Bool}:RdP Mr w S n:=fun _=>trivial
abbrev IP:=@RdP.bool
theorem RdP.str {n:ByteArray}:RdP Mr w S n:=fun _=>trivial
theorem RdP.u8 {n:UInt8}:RdP Mr w S n:=fun _=>trivial
theorem RdP.nil (e:TypeId):RdP Mr w S (TL.nil τ e):=fun _=>XH e
theorem RdP.map {α δ':Type} [GT α δ'] {a:α} (f:∀ w S,GT.rd w S a→GT.rd w S t) (h:RdP Mr w S a):RdP Mr w S t:=fun hp=>f w _ (h hp)
theorem IQ {α β δ' ε:Type} [GT α δ'] [GT β ε] {a:α} {b:β} (f:∀ w S,GT.rd w S a→GT.rd w S b→GT.rd w S t) (h:RdP Mr w S a) (h2:RdP Mr w S b):RdP Mr w S t:=fun hp=>f w _ (h hp) (h2 hp)
theorem RdP.frz {α ε:Type} [GT α ε] {B:List Nat} {a:α} (h:SL.frz B a t∈Mr) (ha:RdP Mr w S a):RdP Mr w S t:=fun hp=>hp.prs _ h w S (fun _ _=>rfl) (hp.fp h) (ha hp)
abbrev CV:=@RdP.frz
theorem IR {X:TL τ} (h:Bf X∈Mr) (he:RdP Mr w S (EL.mk X.els)):RdP Mr w S X:=fun hp=>XP (hp.prs _ h) (he hp) (hp.fp h)
theorem RdP.els {xs:List τ} (h:BU xs∈Mr):RdP Mr w S (EL.mk xs):=fun hp x hx=>GT.ow_rd (hp.prs _ h x hx) fun k hk=>hp.fp h k (List.mem_flatMap.2 ⟨x,hx,hk⟩)
theorem XQ {X:TL τ} {j:Nat} {x:τ} (h:RdP Mr w S (EL.mk X.els)) (hi:X.els[j]?=some x):RdP Mr w S x:=fun hp=>h hp x (List.mem_of_getElem? hi)
theorem eB:RdT Γ M (EL.mk ([]:List τ)):=fun _ _=>Uz _ _
theorem eD:RdX Γ M1 M2 (EL.mk ([]:List τ)):=fun _ _=>Uz _ _
theorem eE:RdP Mr w S (EL.mk ([]:List τ)):=fun _=>Uz _ _
end
theorem Ei {α τ δ ε:Type} [GT α δ] [GT τ ε] {a:α} {x:τ} (Mr:List HP) (hp:List.Perm M (Mr++M2)) (he:∀ w S,GT.rd w S a→RdP Mr w S x) (h:Holds w0 S0 M w):Holds w0 S0 (frz (fps Mr) a x::M2) w:=by
 have h1:=h.perm hp
 refine h1.reFp (List.Perm.of_eq ?_) fun y hy=>?_
 ·rw [FW,Co];rfl
 ·rcases List.mem_cons.1 hy with rfl | hy
  ·intro w' S hag hds ha;exact he w' S ha ⟨fun z hz=>z.st w w' (fun k hk=>hag k (List.mem_flatMap.2 ⟨z,hz,hk⟩)) (h1.prs z (List.mem_append_left _ hz)),hds⟩
  ·exact h1.prs y (List.mem_append_right _ hy)
section
variable {τ δ:Type} [GT τ δ] [FlatT τ]
theorem ZR (x:τ) (w:World) (S:List Nat):GT.rd w S x:=GT.ow_rd ((FlatT.flat x).ow w) fun k hk=>by rw [(FlatT.flat x).fp] at hk;cases hk
end
section
variable {τ δ:Type} [GT τ δ]
end
section
variable {τ δ:Type} [GT τ δ] [FlatT τ]
end
section
variable {τ δ:Type} [GT τ δ]
end
section
variable {τ δ:Type} [GT τ δ]
end
section
variable {τ δ:Type} [GT τ δ] [FlatT τ]
end
section
variable {τ δ:Type} [GT τ δ]
theorem jG {x y:Operand} {T:TypeId} {X:TL τ} {i:Nat} {u v:τ} {M':List HP} (hx:ev l x=some (.pointer (some ⟨X.g,X.o+i*GT.sz τ,none⟩))) (hy:ev l y=some (.agg (GT.cells v).toArray))
  (hp:Pick (Bf X) M M') (hi:X.els[i]?=some u) (ht:Jp Γ.P T=some (GT.sz τ)) (hk:∀ X':TL τ,X'.els=X.els.set i v→X'.hdr=X.hdr→GT.dat X'=(GT.dat X).set i (GT.dat v)→L Γ rest l (Bf X'::M') K) :
  L Γ ({ dst:=none,op:=.store T x y,type:=ty,pos:=pos,after:=af,guard:=none }::rest) l M K:=by
 refine Ol rfl rfl (fun a w ha hw=>?_) (hk { X with els:=X.els.set i v } rfl (by simp [TL.hdr]) (by simp [CD,List.map_set]))
 have hw':=hw.perm hp.perm
 have hr:=hw'.prs (Bf X) (List.mem_cons_self ..)
 have hlt:=(List.getElem?_eq_some_iff.1 hi).1
 have hA:X.a=some ⟨X.g,0,none⟩∧X.o=0:=by
  cases ha:X.a with
  | none=>have:=(hr.2.2.1 ha).1;rw [this] at hlt;simp at hlt
  | some a =>
   obtain ⟨h1,h2,h3,h4⟩:=hr.2.2.2 a ha;obtain ⟨b,o,s⟩:=a
   have h1:s=none:=h1
   have h2:o=0:=h2
   subst h1;subst h2;exact ⟨by simp [TL.g,ha],by simp [TL.o,ha]⟩
 obtain ⟨w',h1,h2⟩:=TD (P:=Γ.P) (fo:=0) (x':=v) (vs:=GT.cells v) hw' hA.1 hi (by rw [List.take_zero,List.nil_append,Nat.zero_add,GT.len,← GT.len u,List.drop_length,List.append_nil]) (fun z hz=>GT.one _ z hz) (by rw [GT.len];omega);refine ⟨w',?_,h2⟩
 have e1:=ha.eval hx
 have e2:=ha.eval hy
 rw [hA.2] at e1
 have h1':(storeCells ⟨X.g,0+i*GT.sz τ,none⟩ (GT.cells v)).run Γ.P w=.ok () w':=h1
 rw [Nat.zero_add] at h1' e1;simp [execOp,e1,e2,Instr.storeAt,Instr.sureAddr,storeVar,Fo ht,Value.cells,GT.len,h1']
end
theorem dq {p:Prop} (h:p:=by repeat (first | with_reducible exact BE | with_reducible exact RdP.str | with_reducible exact IP | with_reducible refine Ay ?_ ?_ | exact TO mm | refine Ay ?_ ?_)):p:=h
end Go.Proofs.SL
namespace Go.Proofs.SL
open Go
variable {Γ:Cx} {l l':Ca} {M M' M1 M2 F A:List HP} {Qp:Dw} {K:Dp} {w0 w:World} {S0:List Nat}
variable {ops:Array Oper} {fuel:Nat} {listed:Array Bool} {i d:Nat} {o:Oper}
theorem Di {τ:Type} {X Y:TL τ} (h:Y.hdr=X.hdr):Y.g=X.g:=by
 unfold TL.hdr at h;injection h with h1 h2 h3;unfold TL.g;rw [h1]
theorem Dj {τ:Type} {X Y:TL τ} (h:Y.hdr=X.hdr):Y.o=X.o:=by
 unfold TL.hdr at h;injection h with h1 h2 h3;unfold TL.o;rw [h1]
def ST (ops:Array Oper) (k c:Nat):Bool:=match ops[k]? with
 | none=>false
 | some o=>o.after.toList.any fun e=>e.on == c&&Region.binds .any e
def UB (ops:Array Oper) (i:Nat):Nat→List Nat→Bool
 | k,[]=>ST ops k i
 | k,c::cs=>ST ops k c&&UB ops i c cs
def Closed (ops:Array Oper) (listed:Array Bool):Prop:=∀ k o,ops[k]?=some o→listed.getD k false=true→∀ e,e∈o.after→Region.binds .any e=true→listed.getD e.on false=true
def Qf (ops:Array Oper) (listed:Array Bool):Bool:=(List.range ops.size).all fun k=>!listed.getD k false||match ops[k]? with
 | none=>true
 | some o=>o.after.toList.all fun e=>!Region.binds .any e||listed.getD e.on false
theorem eF (h:Qf ops listed=true):Closed ops listed:=fun k o hk hl e he hb=>by
 unfold Qf at h;rw [List.all_eq_true] at h
 have h1:=h k (List.mem_range.2 (Array.getElem?_eq_some_iff.1 hk).1)
 rw [hk,hl] at h1;simp only [Bool.not_true,Bool.false_or,List.all_eq_true] at h1
 have h2:=h1 e (by simpa using he)
 rw [hb] at h2
 simpa using h2
theorem bF {k c:Nat} (h:ST ops k c=true):∃ o e,ops[k]?=some o∧e∈o.after∧e.on=c∧Region.binds .any e=true:=by
 unfold ST at h
 split at h
 ·cases h
 ·rename_i o ho
  rw [List.any_eq_true] at h;obtain ⟨e,he,h1⟩:=h;rw [Bool.and_eq_true] at h1;exact ⟨o,e,ho,by simpa using he,by simpa using h1.1,h1.2⟩
theorem So (hc:Closed ops listed) {k c:Nat} (h:ST ops k c=true) (hk:listed.getD k false=true∨k∈Region.ready .any ops listed):listed.getD c false=true:=by
 obtain ⟨o,e,ho,he,rfl,hb⟩:=bF h;rcases hk with hk | hk
 ·exact hc k o ho hk e he hb
 ·obtain ⟨_,o',ho',hall⟩:=mem_ready.1 hk;rw [ho] at ho';cases ho';exact hall e he hb
theorem OB (hc:Closed ops listed):∀ (cs:List Nat) {k:Nat},UB ops i k cs=true→(listed.getD k false=true∨k∈Region.ready .any ops listed)→listed.getD i false=true
 | [],_,h,hk=>So hc h hk
 | c::cs,k,h,hk=>by
  have h1:=Bool.and_eq_true_iff.1 h
  exact OB hc cs h1.2 (.inl (So hc h1.1 hk))
theorem Closed.set (hc:Closed ops listed) {j:Nat} (hj:j∈Region.ready .any ops listed):Closed ops (listed.setIfInBounds j true):=fun k o hk hl e he hb=>by
 by_cases h:j=k
 ·subst h;obtain ⟨_,o',ho',hall⟩:=mem_ready.1 hj;rw [hk] at ho';cases ho';exact getD_set_true (hall e he hb)
 ·rw [getD_set_ne false h] at hl;exact getD_set_true (hc k o hk hl e he hb)
def wpG (P:Program) (ops:Array Oper) (Q:Exit→Act→World→Prop) (last:Nat) (S:World→Prop):Nat→Array Bool→Act→World→Prop
 | 0,listed,a,w=>Region.ready .any ops listed=[]∧Q .normal a w
 | fuel+1,listed,a,w=>(Region.ready .any ops listed=[]→Q .normal a w) ∧
  ∀ i∈Region.ready .any ops listed,wpOp P ops Q i (fun a' w'=>((listed.setIfInBounds i true).getD last false=false→S w')∧wpG P ops Q last S fuel (listed.setIfInBounds i true) a' w') a w
theorem UC {P:Program} {Q:Exit→Act→World→Prop} {last:Nat} {S:World→Prop}:∀ (fuel:Nat) (listed:Array Bool) (a:Act) (w:World),wpG P ops Q last S fuel listed a w→wpAny P .any ops Q fuel listed a w
 | 0,_,_,_,h=>h
 | fuel+1,_,_,_,h=>⟨h.1,fun i hi=>wpOp_mono (fun a' w' h'=>UC fuel _ a' w' h'.2) (h.2 i hi)⟩
theorem XR (h:i∈Region.ready .any ops listed):listed.getD i false=false:=by
 have h0:=(mem_ready.1 h).1
 rcases Nat.lt_or_ge i listed.size with h' | h'
 ·simp [h'] at h0 ⊢;exact h0
 ·simp [Array.getElem?_eq_none h'] at h0
theorem eG {P:Program} {Q:Exit→Act→World→Prop} {last:Nat} {S:World→Prop} {oi:Oper} {v:Value} {cs:List Nat} (hi:ops[i]?=some oi) (hsel:∀ (j:Nat) (o:Oper) cs b,ops[j]?=some o→o.op≠.select cs b)
  (hQ:∀ c a w,Q (.panic c) (a.put oi.dst v) w→Q (.panic c) a w) (hch:UB ops i last cs=true) (hil:i≠last):∀ (fuel:Nat) (listed:Array Bool) (a:Act) (w:World),Closed ops listed →
   (∀ j oj,ops[j]?=some oj→j≠i→listed.getD j true=false→(∀ e∈oj.after,Region.binds .any e=true→e.on≠i)→oi.apart ops oj=true) →
   i∈Region.ready .any ops listed→YieldsIf P ops S oi v a→S w →
   wpG P ops Q last S fuel (listed.setIfInBounds i true) (a.put oi.dst v) w→wpG P ops Q last S (fuel+1) listed a w:=by
 intro fuel
 induction fuel with
 | zero =>
  intro listed a w hc _ hr hy hS H;refine ⟨fun h=>(by rw [h] at hr;cases hr),fun j hj=>?_⟩
  by_cases hji:j=i
  ·subst hji;exact hy.wpOp hi hS ⟨fun _=>hS,H⟩
  ·have:=ready_mono hj hji
   rw [H.1] at this;cases this
 | succ fuel ih =>
  intro listed a w hc hfree hr hy hS H;refine ⟨fun h=>(by rw [h] at hr;cases hr),fun j hj=>?_⟩
  by_cases hji:j=i
  ·subst hji;exact hy.wpOp hi hS ⟨fun _=>hS,H⟩
  ·have h1:=H.2 j (ready_mono hj hji)
   obtain ⟨hjun,oj,hoj,hall⟩:=mem_ready.1 hj
   have hun:=XR hr
   have hnot:∀ e∈oj.after,Region.binds .any e=true→e.on≠i:=fun e he hb heq=>by
    have h1:=hall e he hb
    rw [heq,hun] at h1;cases h1
   have hjl:j≠last:=fun e=>by
    subst e
    have:=OB hc cs hch (.inr hj)
    rw [hun] at this;cases this
   have hll:listed.getD last false=false:=by
    cases hl:listed.getD last false with
    | false=>rfl
    | true =>
     have:=OB hc cs hch (.inl hl)
     rw [hun] at this;cases this
   have h2:=wpOp_putIf hoj (hfree j oj hoj hji hjun hnot) (fun cs b=>hsel i oi cs b hi) (fun cs b=>hsel j oj cs b hoj) hQ hy h1
   have hfree':∀ k ok,ops[k]?=some ok→k≠i→(listed.setIfInBounds j true).getD k true=false →
     (∀ e∈ok.after,Region.binds .any e=true→e.on≠i)→oi.apart ops ok=true:=fun k ok hk hki hun hno=>by
    refine hfree k ok hk hki ?_ hno
    by_cases hjk:j=k
    ·subst hjk;exact hjun
    ·rw [getD_set_ne true hjk] at hun;exact hun
   have hfl:((listed.setIfInBounds i true).setIfInBounds j true).getD last false=false:=by
    rw [getD_set_ne false hjl,getD_set_ne false hil];exact hll
   refine wpOp_mono (fun a' w' h3=>⟨fun _=>h3.2.1 hfl,ih (listed.setIfInBounds j true) a' w' (hc.set hj) hfree' (ready_mono hr (Ne.symm hji)) h3.1 (h3.2.1 hfl) ?_⟩) h2;rw [Array.setIfInBounds_comm _ _ hji];exact h3.2.2
theorem gT {P:Program} {Q:Exit→Act→World→Prop} {last:Nat} {S:World→Prop} {a:Act} {w:World} (hr:Region.ready .any ops listed=[]) (h:Q .normal a w):∀ fuel,wpG P ops Q last S fuel listed a w
 | 0=>⟨hr,h⟩
 | _+1=>⟨fun _=>h,by rw [hr];simp⟩
theorem jH {P:Program} {Q:Exit→Act→World→Prop} {last:Nat} {S S':World→Prop} (hs:∀ w,S' w→S w):∀ (fuel:Nat) (listed:Array Bool) (a:Act) (w:World),wpG P ops Q last S' fuel listed a w→wpG P ops Q last S fuel listed a w
 | 0,_,_,_,h=>h
 | fuel+1,_,_,_,h=>⟨h.1,fun i hi=>wpOp_mono (fun a' w' h'=>⟨fun hf=>hs _ (h'.1 hf),jH hs fuel _ a' w' h'.2⟩) (h.2 i hi)⟩
theorem XS {P:Program} {Q:Exit→Act→World→Prop} {last:Nat} {S S':World→Prop}:∀ (fuel:Nat) (listed:Array Bool) (a:Act) (w:World),listed.getD last false=true→wpG P ops Q last S' fuel listed a w→wpG P ops Q last S fuel listed a w
 | 0,_,_,_,_,h=>h
 | fuel+1,_,_,_,hl,h=>⟨h.1,fun i hi=>wpOp_mono (fun a' w' h'=>⟨fun hf=>(by rw [getD_set_true hl] at hf;cases hf),XS fuel _ a' w' (getD_set_true hl) h'.2⟩) (h.2 i hi)⟩
def AG (Γ:Cx) (ops:Array Oper) (A:List HP) (Qp:Dw) (last fuel:Nat) (listed:Array Bool) (l:Ca) (M:List HP):Prop :=
 ∀ a w,Env a Γ.n l→Holds Γ.w0 Γ.S0 M w→wpG Γ.P ops (ME Γ Qp) last (Sees Γ.w0 Γ.S0 A) fuel listed a w
variable {last:Nat}
theorem TP (A:List HP) (last:Nat) {id:Nat} (hm:Γ.P.follows .mixedOrders=true) (h:AG Γ ops A Qp last ops.size (Array.replicate ops.size false) l M):W Γ (.region id ops true) l M Qp:=fun a w ha hw =>
 wp_region_any hm (UC _ _ _ _ (h a w.drew ha hw.drew))
theorem SU (hr:Region.ready .any ops listed=[]) (h:Qp .normal l M):AG Γ ops A Qp last fuel listed l M:=fun _ _ ha hw=>gT hr ⟨l,M,ha,hw,h⟩ fuel
theorem CC {v:Value} (i:Nat) (cs:List Nat) (hi:ops[i]?=some o) (hp:Pu Γ A l o d v) (hs:Region.noSelect ops=true) (hf:Region.free .any ops listed i=true) (hr:(Region.ready .any ops listed).contains i=true)
  (hch:UB ops i last cs=true) (hil:Nat.beq i last=false) (hcl:Qf ops listed=true)
  (hA:AllIn A M) (hk:AG Γ ops A Qp last fuel (listed.setIfInBounds i true) ((d,v)::l) M):AG Γ ops A Qp last (fuel+1) listed l M:=fun a w ha hw =>
 eG hi (Region.noSelect_spec hs) (fun _ _ _ h=>h) hch (fun e=>by subst e;rw [Nat.beq_refl] at hil;cases hil) fuel listed a w (eF hcl) (Region.free_spec hi hf) (by simpa using hr)
  (.inl ⟨by simp [Region.wanted,hp.gd],fun w hw=>hp.pu a w ha hw⟩) (hw.seesSub hA.mem) (hk _ w (by rw [hp.dst];exact ha.put hp.lt) hw)
theorem Ir (i:Nat) {rest:List Oper} (hi:ops.toList.drop i=o::rest) (hg:o.guard=none) (hr:Region.ready .any ops listed=[i])
  (h:L Γ [o] l M (fun l' M'=>AllIn A M'∧AG Γ ops A Qp last fuel (listed.setIfInBounds i true) l' M')):AG Γ ops A Qp last (fuel+1) listed l M:=fun a w ha hw=>by
 refine ⟨fun h0=>(by rw [hr] at h0;cases h0),fun j hj=>?_⟩;rw [hr] at hj;rw [List.mem_singleton.1 hj];unfold wpOp;rw [LZ hi];simp only [Region.wanted,hg,if_true];refine .inl (Oper.wp_mono (fun a' w' h1=>?_) (MI h hg ha hw));obtain ⟨_,l',M',h1,h2,h3,h4⟩:=h1;exact ⟨fun _=>h2.seesSub h3.mem,h4 a' w' h1 h2⟩
theorem SV (i:Nat) {rest:List Oper} (hi:ops.toList.drop i=o::rest) (hg:o.guard=none) (hr:Region.ready .any ops listed=[i]) (hil:(listed.setIfInBounds i true).getD last false=true)
  (h:L Γ [o] l M (fun l' M'=>AG Γ ops [] Qp last fuel (listed.setIfInBounds i true) l' M')):AG Γ ops A Qp last (fuel+1) listed l M:=fun a w ha hw=>by
 refine ⟨fun h0=>(by rw [hr] at h0;cases h0),fun j hj=>?_⟩;rw [hr] at hj;rw [List.mem_singleton.1 hj];unfold wpOp;rw [LZ hi];simp only [Region.wanted,hg,if_true];refine .inl (Oper.wp_mono (fun a' w' h1=>?_) (MI h hg ha hw));obtain ⟨_,l',M',h1,h2,h4⟩:=h1;refine ⟨fun hf=>(by rw [hil] at hf;cases hf),?_⟩;exact XS fuel _ a' w' hil (h4 a' w' h1 h2)
theorem JF (A':List HP) (hs:AllIn A A') (h:AG Γ ops A' Qp last fuel listed l M):AG Γ ops A Qp last fuel listed l M:=fun a w ha hw =>
 jH (fun w h=>⟨h.old,fun x hx=>h.prs x (hs.mem x hx)⟩) _ _ _ _ (h a w ha hw)
section
variable {ty:TypeId} {pos:String} {af:Array Edge}
theorem Tp {x:Operand} {a:Addr} (hn:Nat.blt d Γ.n=true) (hx:ev l x=some (.pointer (some a))) :
  Pu Γ A l { dst:=some d,op:=.nilCheck x,type:=ty,pos,after:=af,guard:=none } d (.pointer (some a)) :=
 Ma hn fun a' w ha _=>by simp [execOp,ha.eval hx]
end
end Go.Proofs.SL
namespace Go.Proofs.SL
open Go
variable {Γ:Cx} {rest:List Oper} {d:Nat} {ty:TypeId} {pos:String} {af:Array Edge} {gd:Option (Nat×Bool)}
variable {ops:Array Oper} {Msh pool:List HP} {E:Fl} {rs:List (Option Nat×Rel)} {cs0:List Nat} {KD:Gx}
end Go.Proofs.SL
namespace Go.Proofs.SL
open Go
variable {Γ:Cx} {l:Ca} {M A:List HP} {K:Dp} {rest:List Oper} {d:Nat} {ty:TypeId} {pos:String} {af:Array Edge}
end Go.Proofs.SL
namespace Go.Proofs.SL
open Go
variable {Γ:Cx} {l:Ca} {M M' M1 M2 F:List HP} {Q:Dw} {K:Dp} {w0 w:World} {S0:List Nat}
variable {rest:List Oper} {d:Nat} {ty:TypeId} {pos:String} {af:Array Edge}
section
variable {τ δ:Type} [GT τ δ]
theorem El {s x:Operand} {T e sz by_ c b:Nat} {z:List Value} {X:TL τ} {T':TypeId} (y:τ) {r:List δ} (hn:Nat.blt d Γ.n=true)
  (hs:ev l s=some X.hdr) (hx:ev l x=some (.slice (some ⟨b,0,none⟩) 1 c)) (ht:elOf Γ.P T=some (e,sz,by_,z)) (hsz:GT.sz τ=sz) (hz:z.length=sz)
  (hp:Pick (Af X) M M1) (hsrc:blk b (GT.cells y) T'∈M) (hy:Pick (Af y) M1 M2)
  (hr:CO (GT.dat X) [GT.dat y]=some r) (hb:by_≤32768)
  (hk:∀ X':TL τ,GT.dat X'=r→y∈X'.els→L Γ rest ((d,X'.hdr)::l) (Af X'::M2) K) :
  L Γ ({ dst:=some d,op:=.call { callee:=.builtin .append,args:=#[s,x],argTypes:=#[T,T] },type:=ty,pos,after:=af,guard:=none }::rest) l M K:=by
 obtain ⟨h1,rfl⟩:=JB hr;refine XG (ys:=[y]) hn hs hx ht hsz hz hp rfl (fun w hw j v hv=>?_) (fun w R h=>fU (h.perm (hy.perm.append_right R))) (by simpa [CD] using h1) hb
  (fun X' h=>hk X' (by rw [CD,h,List.map_append,CD];rfl) (by rw [h];simp))
 rw [Fx];exact Ag (Γ:=Γ) hsrc w hw j v (by simpa [AJ] using hv)
end
section
variable {τ δ:Type} [GT τ δ] [FlatT τ]
end
section
variable {τ δ:Type} [GT τ δ] {t:τ}
theorem RdT.any (h:∀ w S,GT.rd w S t):RdT Γ M t:=fun w _=>h w []
theorem RdO.any (h:∀ w S,GT.rd w S t) {w:World} {S:List Nat}:RdO w S t:=h w S
theorem RdX.any (h:∀ w S,GT.rd w S t):RdX Γ M1 M2 t:=fun w _=>h w _
end
end Go.Proofs.SL
namespace Go.Proofs.SL
open Go
variable {Γ:Cx} {l:Ca} {A:List HP} {rest:List Oper} {d:Nat} {ty:TypeId} {pos:String} {af:Array Edge} {gd:Option (Nat×Bool)}
variable {ops:Array Oper} {Msh pool:List HP} {E:Fl} {rs:List (Option Nat×Rel)} {cs0:List Nat} {KD:Gx}
section
variable {τ δ:Type} [GT τ δ] [FlatT τ]
end
section
variable {τ δ:Type} [GT τ δ]
end
end Go.Proofs.SL
namespace Go.Proofs.SL
open Go
variable {Γ:Cx} {l:Ca} {M M1 A:List HP} {K:Dp} {Q:Dw} {rest:List Oper} {d:Nat} {ty:TypeId} {pos:String} {af:Array Edge} {gd:Option (Nat×Bool)} {w0 w:World} {S0:List Nat}
variable {ops:Array Oper} {Msh pool:List HP} {E:Fl} {rs:List (Option Nat×Rel)} {cs0:List Nat} {KD:Gx}
section
variable {τ δ:Type} [GT τ δ]
end
end Go.Proofs.SL
namespace Go.Proofs.SL
open Go
variable {Γ:Cx} {l:Ca} {M M' M1 M2 F Mr:List HP} {Q:Dw} {K:Dp} {w0 w:World} {S0 S:List Nat} {P:Program}
variable {rest:List Oper} {d:Nat} {ty:TypeId} {pos:String} {af:Array Edge}
section
variable {τ δ:Type} [GT τ δ] {t:τ}
def subH (xs An:List τ):HP:=⟨[],fun _=>∀ x,x∈xs→x∈An,fun _ _ _ h=>h⟩
theorem XT {X:TL τ} (h:RdT Γ M X):RdT Γ M (EL.mk X.els):=fun w hw=>(h w hw).2.2.1
theorem tB {X:TL τ} (h:RdX Γ M1 M2 X):RdX Γ M1 M2 (EL.mk X.els):=fun w hw=>(h w hw).2.2.1
theorem Mb {X:TL τ} (h:RdP Mr w S X):RdP Mr w S (EL.mk X.els):=fun hp=>(h hp).2.2.1
theorem tC {X:TL τ} (h:RdO w S X):RdO w S (EL.mk X.els):=h.2.2.1
theorem eH (h:RdT Γ M t):RdT Γ M (EL.mk [t]):=fun w hw x hx=>by rw [List.mem_singleton.1 hx];exact h w hw
theorem eI (h:RdX Γ M1 M2 t):RdX Γ M1 M2 (EL.mk [t]):=fun w hw x hx=>by rw [List.mem_singleton.1 hx];exact h w hw
theorem Pm (h:RdP Mr w S t):RdP Mr w S (EL.mk [t]):=fun hp x hx=>by rw [List.mem_singleton.1 hx];exact h hp
theorem eJ (h:RdO w S t):RdO w S (EL.mk [t]):=fun x hx=>by rw [List.mem_singleton.1 hx];exact h
theorem Wk {xs ys:List τ} (h1:RdT Γ M (EL.mk xs)) (h2:RdT Γ M (EL.mk ys)):RdT Γ M (EL.mk (xs++ys)):=fun w hw=>UA _ _ (h1 w hw) (h2 w hw)
theorem eL {xs ys:List τ} (h1:RdX Γ M1 M2 (EL.mk xs)) (h2:RdX Γ M1 M2 (EL.mk ys)):RdX Γ M1 M2 (EL.mk (xs++ys)):=fun w hw=>UA _ _ (h1 w hw) (h2 w hw)
theorem KX {xs ys:List τ} (h1:RdP Mr w S (EL.mk xs)) (h2:RdP Mr w S (EL.mk ys)):RdP Mr w S (EL.mk (xs++ys)):=fun hp=>UA _ _ (h1 hp) (h2 hp)
theorem eM {xs ys:List τ} (h1:RdO w S (EL.mk xs)) (h2:RdO w S (EL.mk ys)):RdO w S (EL.mk (xs++ys)):=UA _ _ h1 h2
theorem sP:RdO w S (EL.mk ([]:List τ)):=Uz _ _
theorem eN {xs ys:List τ} (hs:∀ x,x∈xs→x∈ys) (h:RdT Γ M (EL.mk ys)):RdT Γ M (EL.mk xs):=fun w hw x hx=>h w hw x (hs x hx)
theorem eO {xs ys:List τ} (hs:∀ x,x∈xs→x∈ys) (h:RdX Γ M1 M2 (EL.mk ys)):RdX Γ M1 M2 (EL.mk xs):=fun w hw x hx=>h w hw x (hs x hx)
theorem MV {xs ys:List τ} (hs:∀ x,x∈xs→x∈ys) (h:RdP Mr w S (EL.mk ys)):RdP Mr w S (EL.mk xs):=fun hp x hx=>h hp x (hs x hx)
theorem eP {xs ys:List τ} (hs:∀ x,x∈xs→x∈ys) (h:RdO w S (EL.mk ys)):RdO w S (EL.mk xs):=fun x hx=>h x (hs x hx)
theorem RdT.subH {xs An:List τ} (h:SL.subH xs An∈M) (ha:RdT Γ M (EL.mk An)):RdT Γ M (EL.mk xs):=fun w hw x hx=>ha w hw x (hw.prs _ h x hx)
theorem RdX.subH {xs An:List τ} (h:SL.subH xs An∈M2) (ha:RdX Γ M1 M2 (EL.mk An)):RdX Γ M1 M2 (EL.mk xs):=fun w hw x hx=>ha w hw x (hw.prs _ (List.mem_append_right _ h) x hx)
theorem RdP.subH {xs An:List τ} (h:SL.subH xs An∈Mr) (ha:RdP Mr w S (EL.mk An)):RdP Mr w S (EL.mk xs):=fun hp x hx=>ha hp x (hp.prs _ h x hx)
abbrev Rk:=@RdP.subH
theorem SW {xs:List τ} {t:τ} (k:Nat):∀ x,x∈xs.set k t→x∈xs++[t]:=fun x hx=>by
 rcases List.mem_or_eq_of_mem_set hx with h | h
 ·exact List.mem_append_left _ h
 ·rw [h];simp
theorem sQ {xs:List τ} {k:Nat} (h1:RdT Γ M (EL.mk xs)) (h2:RdT Γ M t):RdT Γ M (EL.mk (xs.set k t)):=eN (SW k) (Wk h1 (eH h2))
theorem sR {xs:List τ} {k:Nat} (h1:RdX Γ M1 M2 (EL.mk xs)) (h2:RdX Γ M1 M2 t):RdX Γ M1 M2 (EL.mk (xs.set k t)):=eO (SW k) (eL h1 (eI h2))
theorem Wl {xs:List τ} {k:Nat} (h1:RdP Mr w S (EL.mk xs)) (h2:RdP Mr w S t):RdP Mr w S (EL.mk (xs.set k t)):=MV (SW k) (KX h1 (Pm h2))
theorem sS {xs:List τ} {k:Nat} (h1:RdO w S (EL.mk xs)) (h2:RdO w S t):RdO w S (EL.mk (xs.set k t)):=eP (SW k) (eM h1 (eJ h2))
theorem Vo {xs An:List τ} (hs:∀ x,x∈xs→x∈An) (h:Holds w0 S0 M w):Holds w0 S0 (subH xs An::M) w :=
 h.reFp (List.Perm.of_eq (by rw [Co];rfl)) fun y hy=>by
  rcases List.mem_cons.1 hy with rfl | hy
  ·exact hs
  ·exact h.prs _ hy
theorem gU {xs An:List τ} {v:τ} {X':List τ} (e:X'=xs++[v]) (hv:v∈An) (p:Pick (subH xs An) M M1) (h:Holds w0 S0 M w):Holds w0 S0 (subH X' An::M1) w:=by
 have h1:=h.perm p.perm
 have hs:∀ x,x∈xs→x∈An:=h1.prs (subH xs An) (List.mem_cons_self ..)
 refine h1.reFp (List.Perm.of_eq (by rw [Co,Co];rfl)) fun y hy=>by
  rcases List.mem_cons.1 hy with rfl | hy
  ·subst e;intro x hx;rcases List.mem_append.1 hx with hx | hx
   ·exact hs x hx
   ·rw [List.mem_singleton.1 hx];exact hv
  ·exact h1.prs _ (List.mem_cons_of_mem _ hy)
theorem Ic {X:TL τ} (p:Pick (Af X) M M1) (h:Holds w0 S0 M w):Holds w0 S0 (Bf X::BU X.els::M1) w:=IG (h.perm p.perm)
theorem ZS {s x:Operand} {T e sz by_ m c:Nat} {ad:Addr} {z:List Value} {X:TL τ} {ys:List τ} (hn:Nat.blt d Γ.n=true)
  (hs:ev l s=some X.hdr) (hx:ev l x=some (.slice (some ad) m c)) (ht:elOf Γ.P T=some (e,sz,by_,z)) (hsz:GT.sz τ=sz) (hz:z.length=sz)
  (hp:Pick (Bf X) M M1) (hmy:m=ys.length) (hsrc:∀ w,Sees Γ.w0 Γ.S0 M w→∀ j v,(AJ ys)[j]?=some v→w.cell? (ad.add j)=some v)
  (hlen:X.els.length+ys.length≤4294967296) (hb:by_≤32768)
  (hk:∀ X':TL τ,X'.els=X.els++ys→L Γ rest ((d,X'.hdr)::l) (Bf X'::M1) K) :
  L Γ ({ dst:=some d,op:=.call { callee:=.builtin .append,args:=#[s,x],argTypes:=#[T,T] },type:=ty,pos,after:=af,guard:=none }::rest) l M K:=by
 subst hmy;refine NX (fun v M'=>∃ X':TL τ,X'.els=X.els++ys∧v=X'.hdr∧M'=Bf X'::M1) rfl rfl (Nat.le_of_ble_eq_true hn)
  (fun a w ha hw=>?_) (fun v M' ⟨X',h0,h1,h2⟩=>by subst h1;subst h2;exact hk X' h0)
 have hw1:=hw.perm hp.perm
 have hsr:=hsrc w hw.sees
 obtain ⟨a',c',e',tl,w',h1,h2⟩:=MG (P:=Γ.P) (c:=c) ht hsz hz hw1 hsr hlen hb ty;refine ⟨_,_,w',⟨⟨a',c',e',X.els++ys,tl⟩,rfl,rfl,rfl⟩,?_,h2⟩
 have h1':(Builtin.append_ #[T,T] ty #[X.hdr,.slice (some ad) ys.length c]).run Γ.P w=.ok (TL.hdr (⟨a',c',e',X.els++ys,tl⟩:TL τ)) w':=h1
 generalize TL.hdr (⟨a',c',e',X.els++ys,tl⟩:TL τ)=vv at *;generalize X.hdr=uu at *;simp [execOp,resolve,invoke,builtin,ha.eval hs,ha.eval hx,h1']
theorem ZT {s x:Operand} {T e sz by_ c b:Nat} {z:List Value} {X:TL τ} {T':TypeId} (y:τ) {r:List δ} (hn:Nat.blt d Γ.n=true)
  (hs:ev l s=some X.hdr) (hx:ev l x=some (.slice (some ⟨b,0,none⟩) 1 c)) (ht:elOf Γ.P T=some (e,sz,by_,z)) (hsz:GT.sz τ=sz) (hz:z.length=sz)
  (hp:Pick (Bf X) M M1) (hsrc:blk b (GT.cells y) T'∈M)
  (hr:CO (GT.dat X) [GT.dat y]=some r) (hb:by_≤32768)
  (hk:∀ X':TL τ,GT.dat X'=r→X'.els=X.els++[y]→L Γ rest ((d,X'.hdr)::l) (Bf X'::M1) K) :
  L Γ ({ dst:=some d,op:=.call { callee:=.builtin .append,args:=#[s,x],argTypes:=#[T,T] },type:=ty,pos,after:=af,guard:=none }::rest) l M K:=by
 obtain ⟨h1,rfl⟩:=JB hr;refine ZS (ys:=[y]) hn hs hx ht hsz hz hp rfl (fun w hw j v hv=>?_) (by simpa [CD] using h1) hb
  (fun X' h=>hk X' (by rw [CD,h,List.map_append,CD];rfl) h)
 have h2:=Ag (Γ:=Γ) hsrc w hw j v (by simpa [AJ] using hv)
 rw [Fx];exact h2
theorem Oe {s x:Operand} {T e sz by_ c b:Nat} {z:List Value} {X:TL τ} {An:List τ} {T':TypeId} (y:τ) {r:List δ} (hn:Nat.blt d Γ.n=true)
  (hs:ev l s=some X.hdr) (hx:ev l x=some (.slice (some ⟨b,0,none⟩) 1 c)) (ht:elOf Γ.P T=some (e,sz,by_,z)) (hsz:GT.sz τ=sz) (hz:z.length=sz)
  (hp:Pick (Bf X) M M1) (hq:Pick (subH X.els An) M1 M2) (hsrc:blk b (GT.cells y) T'∈M)
  (hr:CO (GT.dat X) [GT.dat y]=some r) (hb:by_≤32768) (hy:y∈An)
  (hk:∀ X':TL τ,GT.dat X'=r→L Γ rest ((d,X'.hdr)::l) (Bf X'::subH X'.els An::M2) K) :
  L Γ ({ dst:=some d,op:=.call { callee:=.builtin .append,args:=#[s,x],argTypes:=#[T,T] },type:=ty,pos,after:=af,guard:=none }::rest) l M K :=
 ZT y hn hs hx ht hsz hz hp hsrc hr hb fun X' h1 h2=>AA (fun w h=>(gU h2 hy (hq.there _) h).perm (List.Perm.swap _ _ _)) (hk X' h1)
theorem Wm {s x:Operand} {T e sz by_:Nat} {z:List Value} {X Y:TL τ} {r:List δ} (hn:Nat.blt d Γ.n=true)
  (hs:ev l s=some X.hdr) (hx:ev l x=some Y.hdr) (ht:elOf Γ.P T=some (e,sz,by_,z)) (hsz:GT.sz τ=sz) (hz:z.length=sz)
  (hp:Pick (Bf X) M M1) (hsrc:RdT Γ M Y) (hr:CO (GT.dat X) (GT.dat Y)=some r) (hb:by_≤32768)
  (hk:∀ X':TL τ,GT.dat X'=r→X'.els=X.els++Y.els→L Γ rest ((d,X'.hdr)::l) (Bf X'::M1) K) :
  L Γ ({ dst:=some d,op:=.call { callee:=.builtin .append,args:=#[s,x],argTypes:=#[T,T] },type:=ty,pos,after:=af,guard:=none }::rest) l M K:=by
 obtain ⟨h1,rfl⟩:=JB hr;simp only [CD,List.length_map] at h1;obtain ⟨a2,c2,e2,x2,tl2⟩:=Y
 cases a2 with
 | some a2 =>
  obtain ⟨b,o,sp⟩:=a2;refine ZS (ys:=x2) hn hs hx ht hsz hz hp rfl (fun w hw j v hv=>?_) h1 hb
   (fun X' h=>hk X' (by rw [CD,h,List.map_append];rfl) h)
  have h2:=(hsrc w hw).2.2.2.2 _ rfl
  have hne:x2≠[]:=fun e=>by subst e;simp [AJ] at hv
  have h3:sp=none:=h2.1 hne
  subst h3;rw [Fx];exact (h2.2 j v hv).1
 | none =>
  intro ops a w Q ha hw
  have h2:x2=[]:=(hsrc w hw.sees).2.2.2.1 rfl
  subst h2
  have hk':=hk X (by rw [CD];show _=_++[].map GT.dat;simp) (by simp)
  have hr:=(hw.perm hp.perm).prs (Bf X) (List.mem_cons_self ..)
  refine Xx rfl rfl (Nat.le_of_ble_eq_true hn) (fun a w ha hw=>⟨w,?_,hw.perm hp.perm⟩) hk' ops a w Q ha hw
  have:=PG (P:=Γ.P) (w:=w) (a:=X.a) (n:=X.els.length) (c:=X.cap) (c2:=c2) ht hr.1 ty
  have h5:(Builtin.append_ #[T,T] ty #[X.hdr,.slice none 0 c2]).run Γ.P w=.ok X.hdr w:=this
  have h6:=ha.eval hx
  simp only [TL.hdr,List.length_nil] at h6;generalize X.hdr=uu at *;simp [execOp,resolve,invoke,builtin,ha.eval hs,h6,h5]
theorem DH (τ:Type) {δ:Type} [GT τ δ] {T e sz by_:Nat} {z:List Value} (hn:Nat.blt d Γ.n=true) (ht:elOf Γ.P T=some (e,sz,by_,z))
  (hk:∀ X:TL τ,GT.dat X=[]→X.els=[]→L Γ rest ((d,X.hdr)::l) (Af X::M) K) :
  L Γ ({ dst:=some d,op:=.buildSlice T 0 #[],type:=ty,pos,after:=af,guard:=none }::rest) l M K :=
 GM τ hn ht fun X hX=>hk X hX (by rw [CD] at hX;exact List.map_eq_nil_iff.1 hX)
end
structure BL where
 l:List Nat
instance:GT BL Unit where
 sz:=1
 pos:=by decide
 cells _:=[.bool false]
 len _:=rfl
 one _ v hv:=by simp at hv;subst hv;rfl
 rd _ _ _:=True
 fp _:=[]
 ow _ _:=False
 dat _:=()
 rd_mono h _:=h
 ow_st _ h:=h
 ow_rd h _:=h.elim
section
variable {τ δ:Type} [GT τ δ] {t:τ}
def fzH (B:BL) (x:τ):HP:=frz B.l (EL.mk ([]:List Int)) x
theorem eQ {B:BL} (h:fzH B t∈M):RdT Γ M t:=CU h eB
theorem eS {B:BL} (h:fzH B t∈M2):RdX Γ M1 M2 t:=GP h eD
theorem eT {B:BL} (h:fzH B t∈Mr):RdP Mr w S t:=CV h eE
theorem bG {x:τ} (Mr:List HP) (hp:List.Perm M (Mr++M2)) (he:∀ w S,RdP Mr w S x) (h:Holds w0 S0 M w):Holds w0 S0 (fzH ⟨fps Mr⟩ x::M2) w:=Ei Mr hp (fun w S _=>he w S) h
end
end Go.Proofs.SL
namespace Go.Proofs.SL
open Go
variable {Γ:Cx} {l l':Ca} {M M' M1 M2 F A A':List HP} {Qp:Dw} {K:Dp} {w0 w:World} {S0:List Nat}
variable {ops:Array Oper} {fuel:Nat} {listed:Array Bool} {i d:Nat} {o:Oper} {last:Nat}
theorem Vp {P:Program} {Q:Exit→Act→World→Prop} {S S':World→Prop}:∀ (fuel:Nat) (listed:Array Bool) (a:Act) (w:World),listed.getD last false=true→wpAnyH P .any ops Q S fuel listed a w→wpG P ops Q last S' fuel listed a w
 | 0,_,_,_,_,h=>h
 | fuel+1,_,_,_,hl,h=>⟨h.1,fun i hi=>wpOp_mono (fun a' w' h'=>⟨fun hf=>(by rw [getD_set_true hl] at hf;cases hf),Vp fuel _ a' w' (getD_set_true hl) h'.2⟩) (h.2 i hi)⟩
theorem eV (hl:listed.getD last false=true) (h:AH Γ ops A' Qp fuel listed l M):AG Γ ops A Qp last fuel listed l M:=fun a w ha hw=>Vp fuel _ a w hl (h a w ha hw)
theorem XU (i:Nat) {rest:List Oper} (hi:ops.toList.drop i=o::rest) (hg:o.guard=none) (hr:Region.ready .any ops listed=[i]) (hil:(listed.setIfInBounds i true).getD last false=true)
  (h:L Γ [o] l M (fun l' M'=>AH Γ ops [] Qp fuel (listed.setIfInBounds i true) l' M')):AG Γ ops A Qp last (fuel+1) listed l M:=fun a w ha hw=>by
 refine ⟨fun h0=>(by rw [hr] at h0;cases h0),fun j hj=>?_⟩;rw [hr] at hj;rw [List.mem_singleton.1 hj];unfold wpOp;rw [LZ hi];simp only [Region.wanted,hg,if_true];refine .inl (Oper.wp_mono (fun a' w' h1=>?_) (MI h hg ha hw));obtain ⟨_,l',M',h1,h2,h4⟩:=h1;exact ⟨fun hf=>(by rw [hil] at hf;cases hf),Vp fuel _ a' w' hil (h4 a' w' h1 h2)⟩
def AQ (Γ:Cx) (ops:Array Oper) (A:List HP) (Qp:Dw) (last al da:Nat) (z:List Value) (T:TypeId) (fuel:Nat) (listed:Array Bool) (l:Ca) (M:List HP):Prop :=
 AG Γ ops A Qp last (fuel+1) listed l M∧∀ b,AG Γ ops A Qp last fuel (listed.setIfInBounds al true) ((da,.pointer (some ⟨b,0,none⟩))::l) (blk b z T::M)
variable {al da:Nat} {z:List Value} {T:TypeId}
theorem oC (A:List HP) (last al da:Nat) (z:List Value) (T:TypeId) (n:Nat) {id:Nat} (hm:Γ.P.follows .mixedOrders=true) (hn:ops.size=n+1) (h:AQ Γ ops A Qp last al da z T n (Array.replicate (n+1) false) l M):W Γ (.region id ops true) l M Qp :=
 TP A last hm (by rw [hn];exact h.1)
theorem bH (A':List HP) (hs:AllIn A A') (h:AQ Γ ops A' Qp last al da z T fuel listed l M):AQ Γ ops A Qp last al da z T fuel listed l M:=⟨JF A' hs h.1,fun b=>JF A' hs (h.2 b)⟩
theorem HN {v:Value} (i:Nat) (cs:List Nat) (hi:ops[i]?=some o) (hp:Pu Γ A l o d v) (hs:Region.noSelect ops=true) (hf:Region.free .any ops listed i=true) (hr:(Region.ready .any ops listed).contains i=true)
  (hf2:Region.free .any ops (listed.setIfInBounds al true) i=true) (hr2:(Region.ready .any ops (listed.setIfInBounds al true)).contains i=true) (hda:l.lookup da=none) (hne:Nat.beq d da=false) (hia:Nat.beq i al=false)
  (hch:UB ops i last cs=true) (hil:Nat.beq i last=false) (hcl:Qf ops listed=true) (hcl2:Qf ops (listed.setIfInBounds al true)=true)
  (hA:AllIn A M) (hk:AQ Γ ops A Qp last al da z T fuel (listed.setIfInBounds i true) ((d,v)::l) M):AQ Γ ops A Qp last al da z T (fuel+1) listed l M:=by
 have hne':d≠da:=fun e=>by subst e;rw [Nat.beq_refl] at hne;cases hne
 have hia':i≠al:=fun e=>by subst e;rw [Nat.beq_refl] at hia;cases hia
 refine ⟨CC i cs hi hp hs hf hr hch hil hcl hA hk.1,fun b=>?_⟩;refine CC i cs hi (v:=v) (d:=d) ⟨hp.dst,hp.lt,hp.gd,fun a w ha hw=>hp.pu a w (ha.sub (SS hda)) hw⟩ hs hf2 hr2 hch hil hcl2 (AllIn.of_mem fun x hx=>List.mem_cons_of_mem _ (hA.mem x hx)) ?_;rw [Array.setIfInBounds_comm _ _ (Ne.symm hia')];intro a w ha hw;refine hk.2 b a w (ha.sub fun t u ht=>?_) hw;simp only [List.lookup_cons] at ht ⊢
 cases h1:t == da with
 | true =>
  have:t=da:=by simpa using h1
  subst this;rw [h1] at ht
  cases h2:t == d with
  | true=>exact (hne' (by simpa using h2:t=d).symm).elim
  | false=>exact ht
 | false=>rw [h1] at ht;exact ht
theorem ZU (i:Nat) {rest':List Oper} (hi0:ops.toList.drop i=o::rest') (hg:o.guard=none) (hr1:Region.ready .any ops listed=[i,al]∨Region.ready .any ops listed=[al,i]) (hr2:Region.ready .any ops (listed.setIfInBounds al true)=[i])
  (hia:Nat.beq i al=false) (hdst:(o.dst == some da)=false) (hda:l.lookup da=none) {oal:Oper} (hoa:ops[al]?=some oal) (hga:oal.guard=none)
  (hal:∀ l M,L Γ [oal] l M (fun l' M'=>∃ b,l'=(da,.pointer (some ⟨b,0,none⟩))::l∧M'=blk b z T::M)) (hA:AllIn A M)
  (hil:(listed.setIfInBounds i true).getD last false=true)
  (h:∀ X,L Γ [o] l (X::M) (fun l' M'=>∃ M1,Pick X M' M1∧l'.lookup da=none∧AP Γ ops [] Qp al da z T fuel (listed.setIfInBounds i true) l' M1)) :
  AQ Γ ops A Qp last al da z T (fuel+1) listed l M:=by
 have hi:=LZ hi0
 have hia':i≠al:=fun e=>by subst e;rw [Nat.beq_refl] at hia;cases hia
 have hil2:((listed.setIfInBounds i true).setIfInBounds al true).getD last false=true:=getD_set_true hil
 have two:∀ b,AG Γ ops A Qp last (fuel+1) (listed.setIfInBounds al true) ((da,.pointer (some ⟨b,0,none⟩))::l) (blk b z T::M):=fun b a w ha hw=>by
  refine ⟨fun h0=>(by rw [hr2] at h0;cases h0),fun j hj=>?_⟩;rw [hr2] at hj;rw [List.mem_singleton.1 hj];unfold wpOp;rw [hi];simp only [Region.wanted,hg,if_true];refine .inl (Oper.wp_mono (fun a' w' h1=>?_) (MI (h (blk b z T)) hg (ha.sub (SS hda)) hw));obtain ⟨⟨u,rfl⟩,l',M',h1,h2,M1,h3,h5,h6⟩:=h1
  have h7:=h2.perm h3.perm
  rw [Array.setIfInBounds_comm _ _ (Ne.symm hia')];refine ⟨fun hf=>(by rw [hil2] at hf;cases hf),?_⟩;refine eV (A:=A) hil2 (h6.2 b) _ w' ⟨h1.size,h1.defers,fun t v ht=>?_⟩ h7;rw [List.lookup_cons] at ht
  cases hb:t == da with
  | true =>
   have:t=da:=by simpa using hb
   subst this;rw [hb] at ht;cases ht
   have h8:=ha.get t (.pointer (some ⟨b,0,none⟩)) (by simp [List.lookup_cons])
   cases hd:o.dst with
   | none=>exact h8
   | some d =>
    have hne:d≠t:=fun e=>by subst e;rw [hd] at hdst;simp at hdst
    simp only [Act.put];rw [Array.getElem?_setIfInBounds_ne hne];exact h8
  | false=>rw [hb] at ht;exact h1.get t v ht
 have one:∀ a w,Env a Γ.n l→Holds Γ.w0 Γ.S0 M w→∀ j,j=i∨j=al→wpOp Γ.P ops (ME Γ Qp) j (fun a' w'=>((listed.setIfInBounds j true).getD last false=false→Sees Γ.w0 Γ.S0 A w')∧wpG Γ.P ops (ME Γ Qp) last (Sees Γ.w0 Γ.S0 A) (fuel+1) (listed.setIfInBounds j true) a' w') a w:=fun a w ha hw j hj=>by
  rcases hj with rfl | rfl
  ·unfold wpOp;rw [hi];simp only [Region.wanted,hg,if_true];refine .inl (Oper.wp_mono (fun a' w' h1=>?_) (MI (h emH) hg ha hw.em));obtain ⟨_,l',M',h1,h2,M1,h3,h5,h6⟩:=h1
   have h7:=(h2.perm h3.perm).sub (M':=M1) ⟨[emH],List.perm_append_comm (l₁:=[emH])⟩
   exact ⟨fun hf=>(by rw [hil] at hf;cases hf),eV (A:=A) hil h6.1 a' w' h1 h7⟩
  ·unfold wpOp;rw [hoa];simp only [Region.wanted,hga,if_true];refine .inl (Oper.wp_mono (fun a' w' h1=>?_) (MI (hal l M) hga ha hw));obtain ⟨_,l',M',h1,h2,b,rfl,rfl⟩:=h1;exact ⟨fun _=>h2.seesSub fun x hx=>List.mem_cons_of_mem _ (hA.mem x hx),two b a' w' h1 h2⟩
 refine ⟨fun a w ha hw=>⟨fun h0=>?_,fun j hj=>?_⟩,two⟩
 ·rcases hr1 with hr | hr<;>(rw [hr] at h0;cases h0)
 ·rcases hr1 with hr | hr
  ·rw [hr] at hj;exact one a w ha hw j (by simpa using hj)
  ·rw [hr] at hj;exact one a w ha hw j ((by simpa using hj:j=al∨j=i).symm)
end Go.Proofs.SL
namespace Go.Proofs.SL
open Go
variable {Γ:Cx} {l:Ca} {M M' M1 M2 F:List HP} {Q:Dw} {K:Dp} {w0 w:World} {S0:List Nat}
variable {rest:List Oper} {d:Nat} {ty:TypeId} {pos:String} {af:Array Edge}
variable {ops:Array Oper} {Msh pool pool':List HP} {E:Fl} {rs:List (Option Nat×Rel)} {cs0:List Nat} {KD:List (Option Nat×Rel)→List Nat→List HP→Prop}
theorem XV {T:TypeId} {t1:Nat} {xs:List (Nat×Operand)} {ps:Value→List (Nat×Value)} {pl:List (Nat×Nat)} {z:List Value} {R1:Rel} (Rr:Rel)
  (hR1:E.lookup t1=some R1) (hx:∀ u1,OpVp ((t1,FC True u1)::Fq [t1] E) xs (ps u1)) (ht:Pe Γ.P T=some (pl,z))
  (hf:∀ v1 M1,R1 v1 M1→∃ cs,Jq (pl[·]?) z (ps v1)=some cs∧Rr (.agg cs.toArray) M1)
  (hlin:No ops { dst:=some d,op:=.build T xs.toArray,type:=ty,pos:=pos,after:=af,guard:=none } [t1]=true)
  (hk:DV Γ ops Msh pool ((d,Rr)::Fq [t1] E) ((some d,Rr)::rs) ([t1]++cs0) rest KD) :
  DV Γ ops Msh pool E rs cs0 ({ dst:=some d,op:=.build T xs.toArray,type:=ty,pos:=pos,after:=af,guard:=none }::rest) KD:=by
 refine DV.mk Rr [] pool ([t1]) (by simp) hlin ?_ hk;intro a w F Mk _ _ hw hm hfa hcf;obtain ⟨Mx,Mk',rfl,hRR,hnil⟩:=hcf
 have hnil:Mk'=[]:=hnil
 subst hnil
 have hr1:=hRR _ hR1
 generalize hv1:a.tmps.getD t1 undef=v1 at hr1;rw [if_pos (by simp [Region.wanted])];obtain ⟨cs,hcs,hrr⟩:=hf _ _ hr1
 have hf2:Lm ((t1,FC True v1)::Fq [t1] E) (Oper.looksAt ops { dst:=some d,op:=.build T xs.toArray,type:=ty,pos:=pos,after:=af,guard:=none }) F a:=by
  intro t' R' h1 h2;rw [List.lookup_cons] at h2
  cases hb:t' == t1 with
  | true =>
   rw [hb] at h2;cases h2
   have:t'=t1:=by simpa using hb
   subst this;exact ⟨[],⟨rfl,fun _=>hv1,fun hn=>(hn trivial).elim⟩,fun _ h=>by cases h⟩
  | false=>rw [hb] at h2;exact hfa t' R' h1 h2
 have h1:xs.toArray.map (fun (i,x)=>(i,a.eval x))=(ps v1).toArray:=by
  have:=OpVp.evals (o:={ dst:=some d,op:=.build T xs.toArray,type:=ty,pos:=pos,after:=af,guard:=none }) hf2 xs (ps v1) (hx v1) (fun x hx=>by simp [Op.operands];exact ⟨_,hx⟩)
  rw [← this];simp
 have h3:(execOp a.eval { dst:=some d,op:=.build T xs.toArray,type:=ty,pos:=pos,after:=af,guard:=none }).run Γ.P w=.ok (.value (.agg cs.toArray)) w:=by
  simp only [execOp,h1];simp [MR ht hcs]
 rw [h3];exact ⟨Mx,hrr,by simpa using hw⟩
theorem XW {T:TypeId} {t1 t2:Nat} {xs:List (Nat×Operand)} {ps:Value→Value→List (Nat×Value)} {pl:List (Nat×Nat)} {z:List Value} {R1 R2:Rel} (Rr:Rel)
  (hR1:E.lookup t1=some R1) (hR2:E.lookup t2=some R2) (hx:∀ u1 u2,OpVp ((t1,FC True u1)::(t2,FC True u2)::Fq [t1,t2] E) xs (ps u1 u2)) (ht:Pe Γ.P T=some (pl,z))
  (hf:∀ v1 M1 v2 M2,R1 v1 M1→R2 v2 M2→∃ cs,Jq (pl[·]?) z (ps v1 v2)=some cs∧Rr (.agg cs.toArray) (M1++M2))
  (hlin:No ops { dst:=some d,op:=.build T xs.toArray,type:=ty,pos:=pos,after:=af,guard:=none } [t1,t2]=true)
  (hk:DV Γ ops Msh pool ((d,Rr)::Fq [t1,t2] E) ((some d,Rr)::rs) ([t1,t2]++cs0) rest KD) :
  DV Γ ops Msh pool E rs cs0 ({ dst:=some d,op:=.build T xs.toArray,type:=ty,pos:=pos,after:=af,guard:=none }::rest) KD:=by
 refine DV.mk Rr [] pool ([t1,t2]) (by simp) hlin ?_ hk;intro a w F Mk _ _ hw hm hfa hcf;obtain ⟨Mx,Mk',rfl,hRR,Mx2,Mk2,rfl,hRR2,hnil⟩:=hcf
 have hnil:Mk2=[]:=hnil
 subst hnil
 have hr1:=hRR _ hR1
 have hr2:=hRR2 _ hR2
 generalize hv1:a.tmps.getD t1 undef=v1 at hr1;generalize hv2:a.tmps.getD t2 undef=v2 at hr2;rw [if_pos (by simp [Region.wanted])];obtain ⟨cs,hcs,hrr⟩:=hf _ _ _ _ hr1 hr2
 have hf2:Lm ((t1,FC True v1)::(t2,FC True v2)::Fq [t1,t2] E) (Oper.looksAt ops { dst:=some d,op:=.build T xs.toArray,type:=ty,pos:=pos,after:=af,guard:=none }) F a:=by
  intro t' R' h1 h2;rw [List.lookup_cons] at h2
  cases hb:t' == t1 with
  | true =>
   rw [hb] at h2;cases h2
   have:t'=t1:=by simpa using hb
   subst this;exact ⟨[],⟨rfl,fun _=>hv1,fun hn=>(hn trivial).elim⟩,fun _ h=>by cases h⟩
  | false =>
   rw [hb] at h2;simp only [] at h2;rw [List.lookup_cons] at h2
   cases hb2:t' == t2 with
   | true =>
    rw [hb2] at h2;cases h2
    have:t'=t2:=by simpa using hb2
    subst this;exact ⟨[],⟨rfl,fun _=>hv2,fun hn=>(hn trivial).elim⟩,fun _ h=>by cases h⟩
   | false=>rw [hb2] at h2;exact hfa t' R' h1 h2
 have h1:xs.toArray.map (fun (i,x)=>(i,a.eval x))=(ps v1 v2).toArray:=by
  have:=OpVp.evals (o:={ dst:=some d,op:=.build T xs.toArray,type:=ty,pos:=pos,after:=af,guard:=none }) hf2 xs (ps v1 v2) (hx v1 v2) (fun x hx=>by simp [Op.operands];exact ⟨_,hx⟩)
  rw [← this];simp
 have h3:(execOp a.eval { dst:=some d,op:=.build T xs.toArray,type:=ty,pos:=pos,after:=af,guard:=none }).run Γ.P w=.ok (.value (.agg cs.toArray)) w:=by
  simp only [execOp,h1];simp [MR ht hcs]
 rw [h3];exact ⟨Mx++Mx2,hrr,by simpa [List.append_assoc] using hw⟩
theorem lV {τ δ:Type} [GT τ δ] {v:τ} {b e:Nat} (p:Pick (Af v) M M1) (h:Holds w0 S0 (blk b (GT.cells v) e::M) w) :
  Holds w0 S0 (Af (⟨some ⟨b,0,none⟩,1,e,[v],[]⟩:TL τ)::M1) w:=by
 have h1:=h.perm (p.perm.cons _)
 refine IH ?_;refine h1.reFp (List.Perm.of_eq ?_) fun y hy=>?_
 ·simp only [Co];show [b]++(GT.fp v++fps M1)=[b]++([v].flatMap GT.fp++fps M1);simp
 ·rcases List.mem_cons.1 hy with rfl | hy
  ·have hb:w.heap[b]?=some (.cells (GT.cells v).toArray e (0,0)):=h1.prs (blk b (GT.cells v) e) (List.mem_cons_self ..)
   refine ⟨Nat.le_refl _,by simp [maxLen],fun h=>(by cases h),fun a ha=>?_⟩;cases ha;exact ⟨rfl,rfl,by simpa [AJ] using hb,by simp⟩
  rcases List.mem_cons.1 hy with rfl | hy
  ·intro x hx;rw [List.mem_singleton.1 hx];exact h1.prs (Af v) (List.mem_cons_of_mem _ (List.mem_cons_self ..))
  ·exact h1.prs _ (List.mem_cons_of_mem _ (List.mem_cons_of_mem _ hy))
theorem XX {τ δ:Type} [GT τ δ] {T e sz by_:Nat} {z:List Value} {x:Operand} {u:Value} (v:τ) {r:List δ} (hn:Nat.blt d Γ.n=true) (hx:ev l x=some u) (ht:elOf Γ.P T=some (e,sz,by_,z)) (hz:z.length=sz)
  (hsz:0 < sz) (hns:sz≤65536) (hu:u.cells.toList=GT.cells v) (hs:GT.sz τ=sz) (p:Pick (Af v) M M1) (hr:some [GT.dat v]=some r)
  (hk:∀ X:TL τ,GT.dat X=r→L Γ rest ((d,X.hdr)::l) (Af X::M1) K) :
  L Γ ({ dst:=some d,op:=.buildSlice T 1 #[(0,x)],type:=ty,pos,after:=af,guard:=none }::rest) l M K :=
 BQ hn hx ht hz hsz hns (by rw [hu,GT.len,hs]) fun b=>by
  rw [hu];exact AA (fun w h=>lV p h) (hk ⟨some ⟨b,0,none⟩,1,e,[v],[]⟩ (Option.some.inj hr))
end Go.Proofs.SL
