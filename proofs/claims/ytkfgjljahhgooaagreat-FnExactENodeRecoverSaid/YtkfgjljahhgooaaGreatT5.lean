/- The texts of the proof, part 5: the base, walks of functions, plain Lean. -/
import Derived.Test.YtkfgjljahhgooaaGreatT4
import Derived.Sort.Grow
import Derived.Sort.EncStr
import Derived.Lib.SlicesCompact
import Derived.Laws.StructEq
import Derived.Test.YtkfgjljahhgooaaGreatRows
import Derived.Shelf.SlSortCmp.NoneTotal
import Derived.Ground.SlsfProg
import Derived.Shelf.Sort.Plain
import Derived.Shelf.Slices.In.SortNone
namespace Go.Proofs.SL
open Go
section
variable {α β σ τ:Type}
theorem wrap_succ {k:Nat} (h:k < 9223372036854775807):IntKind.wrap .i64 ((k:Int)+1)=((k+1:Nat):Int):=by rw [wrap64_in (by unfold inR;omega)];omega
theorem gb_true [Inhabited α] {o:Option α} {k:α→Option β}:gb true o k=o.bind k:=rfl
theorem gb_false [Inhabited α] {o:Option α} {k:α→Option β}:gb false o k=k default:=rfl
theorem gb_some [Inhabited α] {g:Bool} {a:α} {k:α→Option β} (h:g=false→k a=k default):gb g (some a) k=k a:=by
 cases g with
 | true=>rfl
 | false=>exact (h rfl).symm
def goE (step:τ→β→τ ⊕ Option α) (fin:τ→Option α):List β→τ→Option α
 | [],t=>fin t
 | x::xs,t=>match step t x with
  | .inl t'=>goE step fin xs t'
  | .inr r=>r
theorem whileP_go {f:σ→Option (σ ⊕ α)} {l:List β} (mk:Nat→τ→σ) (step:τ→β→τ ⊕ Option α) (fin:τ→Option α) (I:Nat→τ→Prop)
  (hs:∀ k t x,l[k]?=some x→I k t→(∃ t',step t x=.inl t'∧f (mk k t)=some (.inl (mk (k+1) t'))∧I (k+1) t')∨(∃ r,step t x=.inr r∧f (mk k t)=r.map .inr))
  (he:∀ t,I l.length t→f (mk l.length t)=(fin t).map .inr):∀ (xs:List β) (k:Nat) (t:τ),l.drop k=xs→I k t→k≤l.length→whileP f (mk k t)=goE step fin xs t
 | [],k,t,hd,hi,hk=>by
  have hlen:k=l.length:=by
   have:=congrArg List.length hd
   simp at this;omega
  subst hlen
  rw [whileP_eq,he t hi]
  show _=fin t
  cases fin t<;>rfl
 | x::xs,k,t,hd,hi,hk=>by
  have hx:l[k]?=some x:=by
   have:=congrArg (fun q=>q[0]?) hd
   simpa [List.getElem?_drop] using this
  have hlt:=(List.getElem?_eq_some_iff.1 hx).1
  have hd':l.drop (k+1)=xs:=by
   have:=congrArg List.tail hd
   simpa [List.tail_drop] using this
  rw [whileP_eq]
  rcases hs k t x hx hi with ⟨t',h1,h2,h3⟩ | ⟨r,h1,h2⟩
  ·rw [h2]
   show whileP f (mk (k+1) t')=_
   rw [whileP_go mk step fin I hs he xs (k+1) t' hd' h3 (by omega)]
   simp only [goE,h1]
  ·rw [h2]
   simp only [goE,h1]
   cases r<;>rfl
theorem whileP_for {f:σ→Option (σ ⊕ α)} {l:List β} (mk:Nat→τ→σ) (step:τ→β→τ ⊕ Option α) (fin:τ→Option α) (I:Nat→τ→Prop) (t0:τ) {s0:σ} (h0:mk 0 t0=s0) (hI:I 0 t0)
  (hs:∀ k t x,l[k]?=some x→I k t→(∃ t',step t x=.inl t'∧f (mk k t)=some (.inl (mk (k+1) t'))∧I (k+1) t')∨(∃ r,step t x=.inr r∧f (mk k t)=r.map .inr))
  (he:∀ t,I l.length t→f (mk l.length t)=(fin t).map .inr):whileP f s0=goE step fin l t0:=by
 subst h0
 exact whileP_go mk step fin I hs he l 0 t0 rfl hI (Nat.zero_le _)
theorem goE_app (xs acc:List β) (g:List β→Option α):goE (fun (t:List β) x=>(.inl (t++[x]):List β ⊕ Option α)) g xs acc=g (acc++xs):=by
 induction xs generalizing acc with
 | nil=>simp [goE]
 | cons x xs ih=>simp only [goE];rw [ih];simp
theorem appP_ok {δ:Type} {a b:List δ} (h:a.length+b.length≤4294967296):appP a b=some (a++b):=if_pos h
theorem lt_dec {k n:Nat} (h:k < n):decide ((k:Int) < (n:Int))=true:=decide_eq_true (by omega)
theorem ge_dec {n:Nat}:decide ((n:Int) < (n:Int))=false:=decide_eq_false (by omega)
theorem whileP_all {f:Int→Option (Int ⊕ α)} {n:Nat} (b:Nat→Bool) (no yes:Option α)
  (h:∀ k,k < n→f (k:Int)=if b k then some (.inl ((k+1:Nat):Int)) else no.map .inr) (hn:f (n:Int)=yes.map .inr):whileP f 0=if (List.range n).all b then yes else no:=by
 have key:∀ m k,n - k=m→k≤n→whileP f (k:Int)=if (List.range' k (n - k)).all b then yes else no:=by
  intro m
  induction m with
  | zero =>
   intro k hm hk
   have:k=n:=by omega
   subst this
   rw [whileP_eq,hn,Nat.sub_self]
   cases yes<;>rfl
  | succ m ih =>
   intro k hm hk
   rw [whileP_eq,h k (by omega),show n - k=(n - (k+1))+1 by omega,List.range'_succ,List.all_cons]
   cases hb:b k with
   | true =>
    simp only [if_true,Bool.true_and]
    exact ih (k+1) (by omega) (by omega)
   | false =>
    simp only [Bool.false_and,Bool.false_eq_true,if_false]
    cases no<;>rfl
 have:=key n 0 (by omega) (by omega)
 rw [Nat.sub_zero,← List.range_eq_range'] at this
 exact this
theorem whileP_find {γ:Type} {f:Int→Option (Int ⊕ γ)} {l:List β} (p:β→Bool) (q:Int→Option γ) (hl:l.length≤9223372036854775807)
  (hs:∀ (k:Nat) x,l[k]?=some x→f (k:Int)=if p x then (q k).map .inr else some (.inl (IntKind.wrap .i64 ((k:Int)+1)))) (he:f (l.length:Int)=(q (-1)).map .inr):whileP f 0=q (firstI p l):=by
 have key:∀ (xs:List β) (k:Nat),l.drop k=xs→k≤l.length→(∀ j x,j < k→l[j]?=some x→p x=false)→whileP f (k:Int)=q (firstI p l):=by
  intro xs
  induction xs with
  | nil =>
   intro k hd hk hf
   have hlen:k=l.length:=by have:=congrArg List.length hd;simp at this;omega
   subst hlen
   rw [whileP_eq,he,firstI_miss (fun x hx=>by
    obtain ⟨j,hj⟩:=List.getElem?_of_mem hx
    exact hf j x (List.getElem?_eq_some_iff.1 hj).1 hj)]
   cases q (-1)<;>rfl
  | cons x xs ih =>
   intro k hd hk hf
   have hx:l[k]?=some x:=by
    have:=congrArg (fun q=>q[0]?) hd
    simpa [List.getElem?_drop] using this
   have hlt:=(List.getElem?_eq_some_iff.1 hx).1
   rw [whileP_eq,hs k x hx]
   cases hp:p x with
   | true =>
    rw [firstI_hit (fun y hy=>by
     obtain ⟨j,hj⟩:=List.getElem?_of_mem hy
     have hjl:=(List.getElem?_eq_some_iff.1 hj).1
     rw [List.length_take] at hjl
     rw [List.getElem?_take_of_lt (by omega)] at hj
     exact hf j y (by omega) hj) hx hp]
    simp only [if_true]
    cases q (k:Int)<;>rfl
   | false =>
    simp only [Bool.false_eq_true,if_false]
    rw [wrap_succ (by omega)]
    refine ih (k+1) ?_ (by omega) (fun j y hj hy=>?_)
    ·have:=congrArg List.tail hd
     simpa [List.tail_drop] using this
    ·rcases Nat.lt_or_ge j k with h1 | h1
     ·exact hf j y h1 hy
     ·have:j=k:=by omega
      subst this
      rw [hx] at hy;cases hy;exact hp
 exact key l 0 rfl (Nat.zero_le _) (fun j x hj=>absurd hj (Nat.not_lt_zero _))
theorem all_range_get {l:List β} {p:β→Bool}:(List.range l.length).all (fun k=>(l[k]?).all p)=l.all p:=by
 rw [Bool.eq_iff_iff,List.all_eq_true,List.all_eq_true]
 constructor
 ·intro h x hx
  obtain ⟨i,hi⟩:=List.getElem?_of_mem hx
  have:=h i (List.mem_range.2 (List.getElem?_eq_some_iff.1 hi).1)
  rw [hi] at this;exact this
 ·intro h k hk
  have hk:=List.mem_range.1 hk
  rw [List.getElem?_eq_getElem hk]
  exact h _ (List.getElem_mem hk)
end
end Go.Proofs.SL
namespace Go.Proofs.SL
open Go
variable {Γ:Cx} {l:Envl} {M M' M1 M2 F:List HP} {Q:Post} {K:Kont} {w0 w:World} {S0:List Nat} {P:Program}
variable {rest:List Oper} {d:Nat} {ty:TypeId} {pos:String} {af:Array Edge}
variable {ops:Array Oper} {Msh pool:List HP} {E:Fl} {rs:List (Option Nat×Rel)} {cs0:List Nat} {KD:List (Option Nat×Rel)→List Nat→List HP→Prop} {gd:Option (Nat×Bool)}
section
variable {τ δ:Type} [GT τ δ]
end
section
variable {τ δ:Type} [GT τ δ]
end
end Go.Proofs.SL
namespace Go.Proofs.SL
open Go
theorem RdT.w0 {Γ:Cx} {τ δ:Type} [GT τ δ] {t:τ} (h:RdT Γ [] t):GT.rd Γ.w0 [] t:=h Γ.w0 ⟨fun _ _ _=>rfl,fun _ h=>by cases h⟩
end Go.Proofs.SL
namespace Go.Proofs.SL
open Go
variable {Γ:Cx} {l:Envl} {M M' M1 M2 F:List HP} {Q:Post} {K:Kont} {w0 w:World} {S0:List Nat} {P:Program}
variable {rest:List Oper} {d:Nat} {ty:TypeId} {pos:String} {af:Array Edge}
def RdX {τ δ:Type} [GT τ δ] (Γ:Cx) (M1 M2:List HP) (t:τ):Prop:=∀ w,Holds Γ.w0 Γ.S0 (M1++M2) w→GT.rd w (fps M1) t
section
variable {τ δ:Type} [GT τ δ] {t:τ}
theorem RdX.old (h:GT.rd Γ.w0 Γ.S0 t):RdX Γ M1 M2 t:=fun _ hw=>GT.rd_mono h fun _ _ ho=>ho.carry hw
theorem RdX.tree (h:treeH t∈M2):RdX Γ M1 M2 t:=fun w hw=>by
 have ho:GT.ow w t:=hw.prs (treeH t) (List.mem_append_right _ h)
 refine GT.ow_rd ho fun k hk hk1=>?_
 have hnd:=hw.nodup
 rw [fps_append] at hnd
 exact (List.nodup_append.1 hnd).2.2 k hk1 k (List.mem_flatMap.2 ⟨_,h,hk⟩) rfl
theorem RdX.fst {α β δ ε:Type} [GT α δ] [GT β ε] {t:α×β} (h:RdX Γ M1 M2 t):RdX Γ M1 M2 t.1:=fun w hw=>(h w hw).1
theorem RdX.snd {α β δ ε:Type} [GT α δ] [GT β ε] {t:α×β} (h:RdX Γ M1 M2 t):RdX Γ M1 M2 t.2:=fun w hw=>(h w hw).2
theorem RdX.of {X:TL τ} {j:Nat} {x:τ} (h:RdX Γ M1 M2 X) (hi:X.els[j]?=some x):RdX Γ M1 M2 x:=fun w hw=>(h w hw).2.2.1 x (List.mem_of_getElem? hi)
theorem RdX.pair {α β δ ε:Type} [GT α δ] [GT β ε] {a:α} {b:β} (h1:RdX Γ M1 M2 a) (h2:RdX Γ M1 M2 b):RdX Γ M1 M2 (a,b):=fun w hw=>⟨h1 w hw,h2 w hw⟩
theorem RdX.int {n:Int}:RdX Γ M1 M2 n:=fun _ _=>trivial
theorem RdX.bool {n:Bool}:RdX Γ M1 M2 n:=fun _ _=>trivial
theorem RdX.str {n:ByteArray}:RdX Γ M1 M2 n:=fun _ _=>trivial
theorem RdX.u8 {n:UInt8}:RdX Γ M1 M2 n:=fun _ _=>trivial
theorem nil_rd {w:World} {S:List Nat} (e:TypeId):GT.rd w S (TL.nil τ e):=⟨Nat.le_refl _,by simp [TL.nil,maxLen],fun x hx=>by simp [TL.nil] at hx,fun _=>rfl,fun a ha=>by simp [TL.nil] at ha⟩
theorem RdX.nil (e:TypeId):RdX Γ M1 M2 (TL.nil τ e):=fun _ _=>nil_rd e
theorem RdX.map {α δ':Type} [GT α δ'] {a:α} (f:∀ w S,GT.rd w S a→GT.rd w S t) (h:RdX Γ M1 M2 a):RdX Γ M1 M2 t:=fun w hw=>f w _ (h w hw)
theorem RdT.map {α δ':Type} [GT α δ'] {a:α} (f:∀ w S,GT.rd w S a→GT.rd w S t) (h:RdT Γ M a):RdT Γ M t:=fun w hw=>f w _ (h w hw)
end
def RdO {τ δ:Type} [GT τ δ] (w:World) (S:List Nat) (t:τ):Prop:=GT.rd w S t
section
variable {τ δ:Type} [GT τ δ] {t:τ} {S:List Nat}
theorem RdO.old (h:GT.rd w S t):RdO w S t:=h
theorem RdO.fst {α β δ ε:Type} [GT α δ] [GT β ε] {t:α×β} (h:RdO w S t):RdO w S t.1:=h.1
theorem RdO.snd {α β δ ε:Type} [GT α δ] [GT β ε] {t:α×β} (h:RdO w S t):RdO w S t.2:=h.2
theorem RdO.of {X:TL τ} {j:Nat} {x:τ} (h:RdO w S X) (hi:X.els[j]?=some x):RdO w S x:=h.2.2.1 x (List.mem_of_getElem? hi)
theorem RdO.pair {α β δ ε:Type} [GT α δ] [GT β ε] {a:α} {b:β} (h1:RdO w S a) (h2:RdO w S b):RdO w S (a,b):=⟨h1,h2⟩
theorem RdO.int {n:Int}:RdO w S n:=trivial
theorem RdO.bool {n:Bool}:RdO w S n:=trivial
theorem RdO.str {n:ByteArray}:RdO w S n:=trivial
theorem RdO.u8 {n:UInt8}:RdO w S n:=trivial
theorem RdO.nil (e:TypeId):RdO w S (TL.nil τ e):=nil_rd e
theorem RdO.map {α δ':Type} [GT α δ'] {a:α} (f:∀ w S,GT.rd w S a→GT.rd w S t) (h:RdO w S a):RdO w S t:=f w _ h
end
theorem L_callM {f:Nat} {xs:List Operand} {ats:Array TypeId} {vs:List Value} {R:Value→List HP→Prop} (M1 M2:List HP)
  (hn:Nat.blt d Γ.n=true) (hf:IsFn Γ.P f) (hx:evs l xs=some vs) (hp:List.Perm M (M1++M2)) (hc:∀ w,Holds Γ.w0 Γ.S0 (M1++M2) w→Spec Γ.P f vs.toArray w M1 R)
  (hk:∀ v M',R v M'→L Γ rest ((d,v)::l) (M'++M2) K):L Γ ({ dst:=some d,op:=.call { callee:=.value (.func f),args:=xs.toArray,argTypes:=ats },type:=ty,pos:=pos,after:=af,guard:=none }::rest) l M K :=
 L_call (M1:=M1) (M2:=M2) (R:=R) rfl rfl rfl (Nat.le_of_ble_eq_true hn) hf hx hp hc hk
end Go.Proofs.SL
namespace Go.Proofs.SL
open Go
variable {Γ:Cx} {l:Envl} {M M' M1 M2 F:List HP} {Q:Post} {K:Kont} {w0 w:World} {S0:List Nat} {P:Program}
variable {rest:List Oper} {d:Nat} {ty:TypeId} {pos:String} {af:Array Edge}
section
variable {τ δ:Type} [GT τ δ]
end
end Go.Proofs.SL
namespace Go.Proofs.SL
open Go
variable {Γ:Cx} {l:Envl} {M M' M1 M2 F:List HP} {Q:Post} {K:Kont} {w0 w:World} {S0:List Nat}
variable {rest:List Oper} {d:Nat} {ty:TypeId} {pos:String} {af:Array Edge}
variable {ops:Array Oper} {Msh pool pool':List HP} {E:Fl} {rs:List (Option Nat×Rel)} {cs0:List Nat} {KD:List (Option Nat×Rel)→List Nat→List HP→Prop}
section
variable {τ δ:Type} [GT τ δ]
def AggO (f:Value→Value) (r:List δ):Rel:=fun v M=>∃ X:TL τ,v=f X.hdr∧GT.dat X=r∧M=[treeH X]
def OpVp (E:Fl):List (Nat×Operand)→List (Nat×Value)→Prop
 | [],[]=>True
 | x::xs,v::vs=>(x.1=v.1∧OpV E x.2 True v.2)∧OpVp E xs vs
 | _,_=>False
theorem OpVp.nil:OpVp E [] []:=trivial
theorem OpVp.cons {i:Nat} {x:Operand} {v:Value} {xs:List (Nat×Operand)} {vs:List (Nat×Value)} (h:OpV E x True v) (hs:OpVp E xs vs):OpVp E ((i,x)::xs) ((i,v)::vs):=⟨⟨rfl,h⟩,hs⟩
theorem OpVp.evals {a:Act} {F:List HP} {o:Oper} (hf:Facts E (o.looksAt ops) F a):∀ (xs:List (Nat×Operand)) (vs:List (Nat×Value)),OpVp E xs vs→(∀ x,x∈xs→x.2∈o.op.operands.toList)→xs.map (fun p=>(p.1,a.eval p.2))=vs
 | [],[],_,_=>rfl
 | x::xs,v::vs,h,hm=>by
  rw [List.map_cons,h.1.2.eval hf (hm x (by simp)) trivial,OpVp.evals hf xs vs h.2 (fun y hy=>hm y (List.mem_cons_of_mem _ hy)),h.1.1]
 | [],_::_,h,_=>h.elim
 | _::_,[],h,_=>h.elim
theorem D_build {T:TypeId} {xs:List (Nat×Operand)} {ps:List (Nat×Value)} {pl:List (Nat×Nat)} {z cs:List Value} (hx:OpVp E xs ps) (ht:bldOf Γ.P T=some (pl,z)) (hf:fillL (pl[·]?) z ps=some cs)
  (hk:DV Γ ops Msh pool ((d,FC True (.agg cs.toArray))::E) ((some d,FC True (.agg cs.toArray))::rs) cs0 rest KD) :
  DV Γ ops Msh pool E rs cs0 ({ dst:=some d,op:=.build T xs.toArray,type:=ty,pos:=pos,after:=af,guard:=none }::rest) KD :=
 DV_pure True _ GC.none (fun a w F _ hfa _=>by
  have h1:xs.toArray.map (fun (i,x)=>(i,a.eval x))=ps.toArray:=by
   have:=OpVp.evals (o:={ dst:=some d,op:=.build T xs.toArray,type:=ty,pos:=pos,after:=af,guard:=none }) hfa xs ps hx (fun x hx=>by simp [Op.operands];exact ⟨_,hx⟩)
   rw [← this];simp
  simp only [execOp,h1]
  simp [run_build ht hf]) hk
theorem D_buildO {T:TypeId} {t:Nat} {xs:List (Nat×Operand)} {ps:Value→List (Nat×Value)} {pl:List (Nat×Nat)} {z:List Value} {cs:Value→List Value} {r:List δ}
  (hR:E.lookup t=some (OwnV (τ:=τ) r)) (hx:∀ u,OpVp ((t,FC True u)::dropE [t] E) xs (ps u)) (ht:bldOf Γ.P T=some (pl,z)) (hf:∀ X:TL τ,fillL (pl[·]?) z (ps X.hdr)=some (cs X.hdr))
  (hlin:linB ops { dst:=some d,op:=.build T xs.toArray,type:=ty,pos:=pos,after:=af,guard:=none } [t]=true)
  (hk:DV Γ ops Msh pool ((d,AggO (τ:=τ) (fun u=>.agg (cs u).toArray) r)::dropE [t] E) ((some d,AggO (τ:=τ) (fun u=>.agg (cs u).toArray) r)::rs) ([t]++cs0) rest KD) :
  DV Γ ops Msh pool E rs cs0 ({ dst:=some d,op:=.build T xs.toArray,type:=ty,pos:=pos,after:=af,guard:=none }::rest) KD:=by
 refine DV.mk (AggO (τ:=τ) (fun u=>.agg (cs u).toArray) r) [] pool ([t]) (by simp) hlin ?_ hk
 intro a w F Mk _ _ hw hm hfa hcf
 obtain ⟨Mx,Mk',rfl,hRR,hnil⟩:=hcf
 have hnil:Mk'=[]:=hnil
 subst hnil
 obtain ⟨X,hv,hd,rfl⟩:=hRR _ hR
 rw [if_pos (by simp [Region.wanted])]
 have hf2:Facts ((t,FC True X.hdr)::dropE [t] E) (Oper.looksAt ops { dst:=some d,op:=.build T xs.toArray,type:=ty,pos:=pos,after:=af,guard:=none }) F a:=by
  intro t' R' h1 h2
  rw [List.lookup_cons] at h2
  cases hb:t' == t with
  | true =>
   rw [hb] at h2
   cases h2
   have:t'=t:=by simpa using hb
   subst this
   exact ⟨[],⟨rfl,fun _=>hv,fun hn=>(hn trivial).elim⟩,fun _ h=>by cases h⟩
  | false=>rw [hb] at h2;exact hfa t' R' h1 h2
 have h1:xs.toArray.map (fun (i,x)=>(i,a.eval x))=(ps X.hdr).toArray:=by
  have:=OpVp.evals (o:={ dst:=some d,op:=.build T xs.toArray,type:=ty,pos:=pos,after:=af,guard:=none }) hf2 xs (ps X.hdr) (hx X.hdr) (fun x hx=>by simp [Op.operands];exact ⟨_,hx⟩)
  rw [← this];simp
 have h3:(execOp a.eval { dst:=some d,op:=.build T xs.toArray,type:=ty,pos:=pos,after:=af,guard:=none }).run Γ.P w=.ok (.value (.agg (cs X.hdr).toArray)) w:=by
  simp only [execOp,h1]
  simp [run_build ht (hf X)]
 rw [h3]
 exact ⟨[treeH X],⟨X,rfl,hd,rfl⟩,by simpa using hw⟩
end
end Go.Proofs.SL
namespace Go.Proofs.SL
open Go
variable {M M1:List HP} {w0 w:World} {S0:List Nat}
end Go.Proofs.SL
namespace Go.Proofs.SL
open Go
end Go.Proofs.SL
namespace Go.Proofs.SL
open Go
variable {Γ:Cx} {l:Envl} {M M' M1 M2 F:List HP} {Q:Post} {K:Kont} {w0 w:World} {S0:List Nat} {P:Program}
variable {rest:List Oper} {d:Nat} {ty:TypeId} {pos:String} {af:Array Edge}
section
variable {τ δ:Type} [GT τ δ]
end
end Go.Proofs.SL
namespace Go.Proofs.SL
open Go
variable {Γ:Cx} {ops:Array Oper} {Msh pool pool':List HP} {E:Fl} {rs:List (Option Nat×Rel)} {rest:List Oper} {KD:RKont} {cs0:List Nat}
variable {d:Nat} {ty:TypeId} {pos:String} {af:Array Edge}
variable {gd:Option (Nat×Bool)}
end Go.Proofs.SL
namespace Go.Proofs.SL
open Go
section
variable {τ δ κ:Type} [GT τ δ]
variable [Inhabited κ]
theorem put_cells (enc:κ→Value) (ds:List κ) (a b:List Value) (h:a.length=ds.length):Sort.putCells enc 0 ds.toArray (a++b).toArray=(ds.map enc++b).toArray:=by
 apply Array.ext_getElem?
 intro j
 simp only [Sort.putCells,Array.getElem?_mapIdx,List.getElem?_toArray,List.size_toArray,Nat.zero_add,Nat.zero_le,true_and,Nat.sub_zero]
 rcases Nat.lt_or_ge j ds.length with hj | hj
 ·rw [List.getElem?_append_left (by omega),List.getElem?_append_left (by simpa using hj),List.getElem?_eq_getElem (show j < a.length by omega)]
  simp [hj,List.getElem?_map]
 ·rw [List.getElem?_append_right (by omega),List.getElem?_append_right (by simpa using hj),List.length_map,h]
  cases b[j - ds.length]? with
  | none=>rfl
  | some v=>simp [Nat.not_lt.2 hj]
theorem own_cases {w:World} {a0:TL τ} (hh:Holds w (fps [treeH a0]) [treeH a0] w):(∃ e tail,a0=⟨none,0,e,[],tail⟩)∨∃ b cap e els tail,a0=⟨some ⟨b,0,none⟩,cap,e,els,tail⟩∧els.length≤cap∧els.length*GT.sz τ+tail.length=cap*GT.sz τ∧w.heap[b]?=some (.cells (rowCells els++tail).toArray e (0,0))∧b < w.heap.size:=by
 have ht:GT.ow w a0:=hh.prs _ (List.mem_cons_self ..)
 obtain ⟨h1,h2,h3,h4,h5⟩:=ht
 obtain ⟨a,cap,e,els,tail⟩:=a0
 dsimp only at h1 h2 h3 h4 h5
 cases a with
 | none =>
  obtain ⟨rfl,rfl⟩:=h4 rfl
  exact .inl ⟨e,tail,rfl⟩
 | some ad =>
  obtain ⟨hs,ho,hb,hl⟩:=h5 ad rfl
  obtain ⟨b,o,sp⟩:=ad
  dsimp only at hs ho hb
  subst hs;subst ho
  exact .inr ⟨b,cap,e,els,tail,rfl,h1,hl,hb,(Array.getElem?_eq_some_iff.1 hb).1⟩
end
end Go.Proofs.SL
namespace Go.Proofs.SL
open Go
def eqShape (P:Program) (T:TypeId):Option (List (TypeId×Nat)):=match P.underlying T with
 | some (.struct fs)=>if P.stoodInHeld T||P.eqGuardType P.depth T then none else some ((fs.toList.filter fun f=>decide (f.name≠"_")).map fun f=>(f.type,f.offset))
 | _=>none
inductive EqS (P:Program) (d:Nat) (xs ys:Array Value):List (TypeId×Nat)→Bool→Prop
 | nil:EqS P d xs ys [] true
 | cons {t:TypeId} {o:Nat} {a b:Value} {r r':Bool} {fs:List (TypeId×Nat)} (ht:oneOf P t=true) (ha:xs[o]?=some a) (hb:ys[o]?=some b) (he:∀ w,(Op.equalIn d t a b).run P w=.ok r w) (hs:EqS P d xs ys fs r'):EqS P d xs ys ((t,o)::fs) (r&&r')
theorem run_part_one {P:Program} {T:TypeId} (h:oneOf P T=true) {xs:Array Value} {o:Nat} {v:Value} (hx:xs[o]?=some v) (w:World):(part T xs o).run P w=.ok v w:=by
 simp [part,run_isAgg_one h,hx]
theorem run_eqS {P:Program} {d:Nat} {xs ys:Array Value}:∀ {fs:List Field} {r:Bool},EqS P d xs ys ((fs.filter fun f=>decide (f.name≠"_")).map fun f=>(f.type,f.offset)) r→∀ w,(Op.eqFields d xs ys fs).run P w=.ok r w
 | [],r,h,w=>by cases h;simp [Op.eqFields]
 | f::fs,r,h,w=>by
  unfold Op.eqFields
  by_cases hn:f.name≠"_"
  ·rw [List.filter_cons,if_pos (by simp [hn])] at h
   rw [if_pos hn]
   cases h with
   | cons ht ha hb he hs =>
    rename_i a b r r'
    simp only [Sem.run_bind,run_part_one ht ha,run_part_one ht hb,Result.andThen_ok,he]
    cases r
    ·simp
    ·simp only [Bool.not_true,Bool.false_eq_true,if_false,Bool.true_and]
     exact run_eqS hs w
  ·rw [List.filter_cons,if_neg (by simpa using hn)] at h
   rw [if_neg hn]
   exact run_eqS h w
theorem eqShape_some {P:Program} {T:TypeId} {sh:List (TypeId×Nat)} (h:eqShape P T=some sh):P.underlying T=some (.struct (P.fieldsOf T))∧P.stoodInHeld T=false∧P.eqGuardType P.depth T=false∧sh=((P.fieldsOf T).toList.filter fun f=>decide (f.name≠"_")).map fun f=>(f.type,f.offset):=by
 unfold eqShape at h
 split at h
 ·rename_i fs hu
  have hf:P.fieldsOf T=fs:=by unfold Program.fieldsOf;rw [hu]
  split at h
  ·cases h
  ·rename_i hn
   simp only [Bool.or_eq_true,not_or,Bool.not_eq_true] at hn
   exact ⟨by rw [hf];exact hu,hn.1,hn.2,by rw [hf];exact (Option.some.inj h).symm⟩
 ·cases h
theorem bv_aeql {P:Program} {T:TypeId} {x y:Operand} {xs ys:Array Value} {sh:List (TypeId×Nat)} {r:Bool} (h:eqShape P T=some sh) (he:EqS P 9999 xs ys sh r):BinV P .eql T x y (.agg xs) (.agg ys) (.bool r):=fun w=>by
 obtain ⟨h1,h2,h3,rfl⟩:=eqShape_some h
 simp only [Sem.run_bind,run_eqGuard_agg w _ _ _ _ _ _ h3,Result.andThen_ok,run_eql_struct]
 rw [show (10000:Nat)=9999+1 from rfl,run_equalIn_struct w 9999 T xs ys h1 h2,run_eqS he w];rfl
theorem bv_aneq {P:Program} {T:TypeId} {x y:Operand} {xs ys:Array Value} {sh:List (TypeId×Nat)} {r:Bool} (h:eqShape P T=some sh) (he:EqS P 9999 xs ys sh r):BinV P .neq T x y (.agg xs) (.agg ys) (.bool (!r)):=fun w=>by
 obtain ⟨h1,h2,h3,rfl⟩:=eqShape_some h
 simp only [Sem.run_bind,run_eqGuard_agg w _ _ _ _ _ _ h3,Result.andThen_ok,run_neq_struct]
 rw [show (10000:Nat)=9999+1 from rfl,run_equalIn_struct w 9999 T xs ys h1 h2,run_eqS he w];rfl
theorem EqS.consI {P:Program} {d:Nat} {xs ys:Array Value} {t:TypeId} {o:Nat} {k:IntKind} {a b:Int} {r':Bool} {fs:List (TypeId×Nat)} {k':IntKind} (ht:oneOf P t=true) (hu:P.underlying t=some (.int k')) (ha:xs[o]?=some (.int k a)) (hb:ys[o]?=some (.int k b)) (hs:EqS P (d+1) xs ys fs r'):EqS P (d+1) xs ys ((t,o)::fs) (decide (a=b)&&r') :=
 EqS.cons ht ha hb (fun w=>run_equalIn_int w d t k k' a b hu) hs
end Go.Proofs.SL
namespace Go.Proofs.SL
open Go
section
variable {Γ:Cx} {l:Envl} {M:List HP} {K:Kont} {w0 w:World} {S0:List Nat}
variable {rest:List Oper} {d:Nat} {ty:TypeId} {pos:String} {af:Array Edge}
theorem L_storeA {x y:Operand} {T b fo:Nat} {T':TypeId} {cs cs' r:List Value} {M':List HP} (hx:ev l x=some (.pointer (some ⟨b,fo,none⟩))) (hy:ev l y=some (.agg cs'.toArray)) (hp:Pick (blk b cs T') M M')
  (ht:aggOf Γ.P T=some cs'.length) (hl:fo+cs'.length≤cs.length) (h1:∀ v,v∈cs'→v.oneCell'=true) (hr:cs.take fo++cs'++cs.drop (fo+cs'.length)=r) (hk:L Γ rest l (blk b r T'::M') K) :
  L Γ ({ dst:=none,op:=.store T x y,type:=ty,pos,after:=af,guard:=none }::rest) l M K :=
 L_skip rfl rfl (fun a w ha hw=>by
  subst hr
  have hw':=hw.perm hp.perm
  have hh:w.heap[b]?=some (.cells cs.toArray T' (0,0)):=hw'.prs (blk b cs T') (by simp)
  have hs:=run_store_blk (P:=Γ.P) (fo:=fo) (vs:=cs') (ty:=T) hh hl h1
  refine ⟨_,?_,setRow_blk (cs':=cs.take fo++cs'++cs.drop (fo+cs'.length)) hw'⟩
  simp [execOp,ha.eval hx,ha.eval hy,Instr.storeAt,Instr.sureAddr,storeVar,run_isAgg_agg ht,Value.cells,hs]) hk
end
section
variable {Γ:Cx} {rest:List Oper} {d:Nat} {ty:TypeId} {pos:String} {af:Array Edge}
variable {ops:Array Oper} {Msh pool:List HP} {E:Fl} {rs:List (Option Nat×Rel)} {cs0:List Nat} {KD:List (Option Nat×Rel)→List Nat→List HP→Prop}
def PtrNew (z:List Value) (T:TypeId):Rel:=fun v M=>∃ b,v=.pointer (some ⟨b,0,none⟩)∧M=[blk b z T]
theorem D_alloc {T:TypeId} {z:List Value} (hz:zeroOf Γ.P T=some z)
  (hk:DV Γ ops Msh pool ((d,PtrNew z T)::E) ((some d,PtrNew z T)::rs) cs0 rest KD) :
  DV Γ ops Msh pool E rs cs0 ({ dst:=some d,op:=.alloc T,type:=ty,pos:=pos,after:=af,guard:=none }::rest) KD:=by
 refine DV.mk (PtrNew z T) [] pool [] (by simp) rfl ?_ (by rw [dropE_nil];exact hk)
 intro a w F Mk _ _ hw hm hfa hcf
 have hMk:Mk=[]:=hcf
 subst hMk
 rw [dropE_nil] at hfa
 simp only [List.nil_append] at hw ⊢
 rw [if_pos (by simp [Region.wanted])]
 have h1:(execOp a.eval { dst:=some d,op:=.alloc T,type:=ty,pos:=pos,after:=af,guard:=none }).run Γ.P w=.ok (.value (.pointer (some ⟨w.heap.size,0,none⟩))) (w.alloc (.cells z.toArray T (0,0))):=by
  unfold zeroOf at hz
  split at hz<;>(try cases hz)
  rename_i i hi
  split at hz<;>cases hz
  rename_i z' hz'
  simp [execOp,Instr.alloc,zeroValue,typeInfo,hi,hz',newVar,newRow]
 rw [h1]
 exact ⟨[blk w.heap.size z T],⟨_,rfl,rfl⟩,Holds.new (show Holds Γ.w0 Γ.S0 F w by simpa using hw) rfl⟩
end
theorem eqB_nf {α:Type} {a b:α}:((!eqB a b)=false)↔a=b:=by
 cases h:eqB a b with
 | true=>simp [eqB_true.1 h]
 | false=>simp [eqB_false.1 h]
theorem eqB_nt {α:Type} {a b:α}:((!eqB a b)=true)↔¬ a=b:=by
 cases h:eqB a b with
 | true=>simp [eqB_true.1 h]
 | false=>simp [eqB_false.1 h]
end Go.Proofs.SL
namespace Go.Proofs.SL
open Go
instance:Mk Bool:=⟨fun _=>1,fun k _=>decide (((k:Int)).tmod 3=0)⟩
instance:Bm Bool:=⟨1,fun x=>by show 1≤1*(1+0);omega⟩
theorem mk_bool (k:Nat) (a:Bool):Mk.mkd k a=decide (((k:Int)).tmod 3=0):=rfl
theorem cnt_bool (a:Bool):Mk.cnt a=1:=rfl
end Go.Proofs.SL
namespace Go.Proofs.SL
open Go
variable {Γ:Cx} {l:Envl} {M M1:List HP} {K:Kont} {w0 w:World} {S0:List Nat}
variable {rest:List Oper} {d:Nat} {ty:TypeId} {pos:String} {af:Array Edge}
section
variable {τ δ:Type} [GT τ δ]
end
end Go.Proofs.SL
namespace Go.Proofs.SL
open Go
section
variable {Γ:Cx} {rest:List Oper} {d:Nat} {ty:TypeId} {pos:String} {af:Array Edge} {gd:Option (Nat×Bool)}
variable {ops:Array Oper} {Msh pool:List HP} {E:Fl} {rs:List (Option Nat×Rel)} {cs0:List Nat} {KD:List (Option Nat×Rel)→List Nat→List HP→Prop}
end
end Go.Proofs.SL
namespace Go.Proofs.SL
open Go
structure AR where
 l:List Int
instance:GT AR (List Int) where
 sz:=1
 pos:=by decide
 cells _:=[.int .i64 0]
 len _:=rfl
 one _ v hv:=by simp at hv;subst hv;rfl
 rd _ _ _:=True
 fp _:=[]
 ow _ _:=True
 dat t:=t.l
 rd_mono h _:=h
 ow_st _ h:=h
 ow_rd _ _:=trivial
theorem dat_ar (x:AR):GT.dat x=x.l:=rfl
def aC (k:IntKind) (l:List Int):List Value:=l.map (Value.int k)
variable {Γ:Cx} {l:Envl} {M:List HP} {K:Kont} {w0 w:World} {S0:List Nat} {rest:List Oper} {d:Nat} {ty:TypeId} {pos:String} {af:Array Edge}
section
variable {k:IntKind} {A A':List Int}
end
structure GA (g:Nat) (k:IntKind) (A:List Int) where mk ::
instance (g:Nat) (k:IntKind) (A:List Int):GT (GA g k A) Unit where
 sz:=1
 pos:=by decide
 cells _:=[.int .i64 0]
 len _:=rfl
 one _ v hv:=by simp at hv;subst hv;rfl
 rd w S _:=∀ j v,(aC k A)[j]?=some v→Old w S ⟨g,j,none⟩ v
 fp _:=[]
 ow _ _:=False
 dat _:=()
 rd_mono h hm:=fun j v hv=>hm _ _ (h j v hv)
 ow_st _ h:=h
 ow_rd h _:=h.elim
variable {ops:Array Oper} {Msh pool:List HP} {E:Fl} {rs:List (Option Nat×Rel)} {cs0:List Nat} {KD:List (Option Nat×Rel)→List Nat→List HP→Prop} {gd:Option (Nat×Bool)}
section
variable {k:IntKind} {A A':List Int} {c:Prop}
end
end Go.Proofs.SL
namespace Go.Proofs.SL
open Go
variable {Γ:Cx} {rest:List Oper} {d:Nat} {ty:TypeId} {pos:String} {af:Array Edge}
variable {ops:Array Oper} {Msh pool:List HP} {E:Fl} {rs:List (Option Nat×Rel)} {cs0:List Nat} {KD:List (Option Nat×Rel)→List Nat→List HP→Prop}
end Go.Proofs.SL
namespace Go.Proofs.SL
open Go
variable {Γ:Cx} {rest:List Oper} {d:Nat} {ty:TypeId} {pos:String} {af:Array Edge}
variable {ops:Array Oper} {Msh pool pool':List HP} {E:Fl} {rs:List (Option Nat×Rel)} {cs0:List Nat} {KD:List (Option Nat×Rel)→List Nat→List HP→Prop}
variable {τ δ:Type} [GT τ δ]
end Go.Proofs.SL
namespace Go.Proofs.SL
open Go
variable {Γ:Cx} {rest:List Oper} {d:Nat} {ty:TypeId} {pos:String} {af:Array Edge} {l:Envl} {M:List HP} {K:Kont}
end Go.Proofs.SL
namespace Go.Proofs.SL
open Go
variable {Γ:Cx} {rest:List Oper} {d:Nat} {ty:TypeId} {pos:String} {af:Array Edge} {gd:Option (Nat×Bool)}
variable {ops:Array Oper} {Msh pool:List HP} {E:Fl} {rs:List (Option Nat×Rel)} {cs0:List Nat} {KD:RKont}
end Go.Proofs.SL
namespace Go.Proofs.SL
open Go
section
variable {Γ:Cx} {rest:List Oper} {d:Nat} {ty:TypeId} {pos:String} {af:Array Edge}
variable {ops:Array Oper} {Msh pool:List HP} {E:Fl} {rs:List (Option Nat×Rel)} {cs0:List Nat} {KD:RKont}
end
section
variable {Γ:Cx} {rest:List Oper} {d:Nat} {ty:TypeId} {pos:String} {af:Array Edge} {gd:Option (Nat×Bool)}
variable {ops:Array Oper} {Msh pool:List HP} {E:Fl} {rs:List (Option Nat×Rel)} {cs0:List Nat} {KD:RKont}
end
end Go.Proofs.SL
namespace Go.Proofs.SL
open Go
section
variable {Γ:Cx} {l:Envl} {M M1 M2 F:List HP} {Q:Post} {K:Kont} {w0 w:World} {S0:List Nat}
variable {rest:List Oper} {d:Nat} {ty:TypeId} {pos:String} {af:Array Edge}
variable {τ δ:Type} [GT τ δ]
end
section
variable {Γ:Cx} {rest:List Oper} {d:Nat} {ty:TypeId} {pos:String} {af:Array Edge}
variable {ops:Array Oper} {Msh pool pool':List HP} {E:Fl} {rs:List (Option Nat×Rel)} {cs0:List Nat} {KD:RKont}
variable {τ τ' δ δ':Type} [GT τ δ] [GT τ' δ']
end
section
variable {Γ:Cx} {rest:List Oper} {d:Nat} {ty:TypeId} {pos:String} {af:Array Edge}
variable {ops:Array Oper} {Msh pool pool':List HP} {E:Fl} {rs:List (Option Nat×Rel)} {cs0:List Nat} {KD:RKont}
variable {τ δ:Type} [GT τ δ]
end
section
variable {Γ:Cx} {rest:List Oper} {d:Nat} {ty:TypeId} {pos:String} {af:Array Edge} {gd:Option (Nat×Bool)}
variable {ops:Array Oper} {Msh pool pool':List HP} {E:Fl} {rs:List (Option Nat×Rel)} {cs0:List Nat} {KD:RKont}
def gm {α:Type} (g:Bool) (d:α) (o:Option α):Option α:=cond g o (some d)
@[simp] theorem gm_true {α:Type} {d:α} {o:Option α}:gm true d o=o:=rfl
@[simp] theorem gm_false {α:Type} {d:α} {o:Option α}:gm false d o=some d:=rfl
end
section
variable {Γ:Cx} {rest:List Oper} {d:Nat} {ty:TypeId} {pos:String} {af:Array Edge}
variable {ops:Array Oper} {Msh pool pool':List HP} {E:Fl} {rs:List (Option Nat×Rel)} {cs0:List Nat} {KD:RKont}
variable {τ δ:Type} [GT τ δ]
end
section
variable {Γ:Cx} {rest:List Oper} {d:Nat} {ty:TypeId} {pos:String} {af:Array Edge} {gd:Option (Nat×Bool)}
variable {ops:Array Oper} {Msh pool pool':List HP} {E:Fl} {rs:List (Option Nat×Rel)} {cs0:List Nat} {KD:RKont}
variable {τ δ:Type} [GT τ δ]
end
end Go.Proofs.SL
namespace Go.Proofs.SL
open Go
class FldF (P:Program) (T f:Nat) (o:outParam Nat):Prop where h:fldOf P T f=some o
class OneF (P:Program) (T:Nat):Prop where h:oneOf P T=true
class AggF (P:Program) (T:Nat) (n:outParam Nat):Prop where h:aggOf P T=some n
class ElF (P:Program) (T:Nat) (e sz by_:outParam Nat) (z:outParam (List Value)):Prop where h:elOf P T=some (e,sz,by_,z)
class ZerF (P:Program) (T:Nat) (z:outParam (List Value)):Prop where h:zeroOf P T=some z
class StrF (P:Program) (T:Nat):Prop where h:isStr P T=true
class FnF (P:Program) (f:Nat):Prop where h:IsFn P f
class BldF (P:Program) (T:Nat) (pl:outParam (List (Nat×Nat))) (z:outParam (List Value)):Prop where h:bldOf P T=some (pl,z)
class UndF (P:Program) (T:Nat) (d:outParam TypeDesc):Prop where h:P.underlying T=some d
theorem sj {α:Type} {a b:α} (h:some a=some b):a=b:=Option.some.inj h
theorem ba {α β:Type} {o:Option α} {k:α→Option β} {r:β} (h:Option.bind o k=some r):∃ y,o=some y∧k y=some r:=bind_any h
theorem pk {h:HP} {M M':List HP} (p:Pick h M M':=by first | (with_reducible repeat (first | exact Pick.here _ | apply Pick.there));done | (repeat (first | exact Pick.here _ | apply Pick.there))):Pick h M M':=p
theorem mm {h:HP} {M:List HP} (p:h∈M:=by first | (with_reducible repeat (first | exact List.Mem.head _ | apply List.Mem.tail));done | (repeat (first | exact List.Mem.head _ | apply List.Mem.tail))):h∈M:=p
theorem sb {l' l:Envl} (h:Sub l' l:=by repeat (first | exact Sub.nil _ | (apply Sub.cons;(· exact rfl)))):Sub l' l:=h
theorem ms {M' M:List HP} (h:MSub M' M:=by repeat (first | exact MSub.nil _ | (apply MSub.cons;(· exact pk)))):MSub M' M:=h
theorem pc {M Ms R:List HP} (h:List.Perm M (Ms++R):=by repeat (first | exact perm_nil_left _ | (apply perm_cons;(· exact pk)))):List.Perm M (Ms++R):=h
theorem bv {P:Program} {op:BinOp} {T:TypeId} {x y:Operand} {u v r:Value} (h:BinV P op T x y u v r:=by
 first
  | (with_reducible first | exact bv_add | exact bv_eql | exact bv_lss | exact bv_sub | exact bv_neq | exact bv_geq | exact bv_gtr | exact bv_leq | exact bv_seql | exact bv_sneq | exact bv_slss | exact bv_sgeq | exact bv_sgtr | exact bv_sleq | exact bv_mul | exact bv_and | exact bv_or | exact bv_xor)
  | ((with_reducible refine bv_beql ?_);exact UndF.h) | ((with_reducible refine bv_bneq ?_);exact UndF.h) | ((with_reducible refine bv_quo ?_);decide) | ((with_reducible refine bv_rem ?_);decide)
  | ((with_reducible refine bv_shl ?_ ?_)<;>decide) | ((with_reducible refine bv_shr ?_ ?_)<;>decide)):BinV P op T x y u v r:=h
theorem ocs {cs:List Value} (h:∀ v,v∈cs→v.oneCell'=true:=by first | exact allOne rfl | exact fun v hv=>GT.one _ v hv | (simp [Value.oneCell',TL.hdr,Value.cells];done)):∀ v,v∈cs→v.oneCell'=true:=h
section
variable {Γ:Cx} {l:Envl} {M M':List HP} {Q:Post} {K:Kont} {rest:List Oper} {d:Nat} {ty:TypeId} {pos:String} {af:Array Edge}
inductive Kp:List Nat→Envl→Envl→Prop
 | nil (l:Envl):Kp [] l []
 | cons {t:Nat} {v:Value} {ts:List Nat} {l l':Envl} (h:l.lookup t=some v) (hk:Kp ts l l'):Kp (t::ts) l ((t,v)::l')
theorem Kp.sub {ts:List Nat} {l l':Envl} (h:Kp ts l l'):Sub l' l:=by
 induction h with
 | nil l=>exact Sub.nil _
 | cons h _ ih=>exact Sub.cons h ih
theorem kp (ts:List Nat) {c:Code} {l':Envl} (k:W Γ c l' M Q) (h:Kp ts l l':=by repeat (first | exact Kp.nil _ | (apply Kp.cons;(· exact rfl)))):W Γ c l M Q:=W_weaken h.sub (MSub.refl _) k
theorem kq (ts:List Nat) {c:Code} {l':Envl} (k:W Γ c l' M' Q) (h:Kp ts l l':=by repeat (first | exact Kp.nil _ | (apply Kp.cons;(· exact rfl)))) (hm:M=M':=by (try simp only [List.cons_append,List.nil_append]);exact rfl):W Γ c l M Q:=W_weaken h.sub (hm ▸ MSub.refl _) k
theorem al {T:TypeId} {z:List Value} [hz:ZerF Γ.P T z] (hk:∀ b,L Γ rest ((d,.pointer (some ⟨b,0,none⟩))::l) (blk b z T::M) K) (hn:Nat.blt d Γ.n=true:=by exact rfl) :
  L Γ ({ dst:=some d,op:=.alloc T,type:=ty,pos,after:=af,guard:=none }::rest) l M K:=L_alloc hn hz.h hk
theorem bx {x:Operand} {T:TypeId} {v:Value} (hk:∀ b,L Γ rest ((d,.pointer (some ⟨b,0,none⟩))::l) (blk b v.cells.toList T::M) K) (hn:Nat.blt d Γ.n=true:=by exact rfl) (hx:ev l x=some v:=by exact rfl) :
  L Γ ({ dst:=some d,op:=.box T x,type:=ty,pos,after:=af,guard:=none }::rest) l M K:=L_box hn hx hk
end
section
variable {w0 w:World} {S0:List Nat} {M M' M1 M2:List HP}
def Own {τ δ:Type} [GT τ δ] (M:List HP) (t:τ) (M':List HP):Prop:=∀ (w0:World) (S0:List Nat) (w:World) (F:List HP),Holds w0 S0 (M++F) w→Holds w0 S0 (treeH t::(M'++F)) w
theorem own_pick {τ δ:Type} [GT τ δ] {t:τ} (p:Pick (treeH t) M M'):Own M t M':=fun _ _ _ F h=>h.perm (p.perm.append_right F)
theorem own_flat {τ δ:Type} [GT τ δ] {t:τ} (p:Flat t):Own M t M:=fun _ _ _ _ h=>h.addFlat p
theorem own_int {n:Int}:Own M n M:=own_flat (flat_int trivial)
theorem own_bool {n:Bool}:Own M n M:=own_flat (flat_bool _)
theorem own_str {n:ByteArray}:Own M n M:=own_flat (flat_str trivial)
theorem own_nil {τ δ:Type} [GT τ δ] {e:TypeId}:Own M (TL.nil τ e) M:=own_flat (flat_nil e)
theorem own_pair {α β δ ε:Type} [GT α δ] [GT β ε] {a:α} {b:β} (ha:Own M a M1) (hb:Own M1 b M2):Own M (a,b) M2:=fun w0 S0 w F h=>by
 have h1:=ha w0 S0 w F h
 have h2:Holds w0 S0 (M1++(treeH a::F)) w:=h1.perm List.perm_middle.symm
 have h3:=hb w0 S0 w _ h2
 have h4:Holds w0 S0 (treeH a::treeH b::(M2++F)) w:=h3.perm ((List.perm_middle.cons _).trans (List.Perm.swap _ _ _))
 exact pair_tree h4
theorem ow {τ δ:Type} [GT τ δ] {t:τ} (o:Own M t M':=by repeat (first | (with_reducible exact own_int) | (with_reducible exact own_bool) | (with_reducible exact own_str) | (with_reducible exact own_nil) | (with_reducible apply own_pair) | ((with_reducible apply own_pick);exact pk))):Own M t M':=o
theorem Own.h {τ δ:Type} [GT τ δ] {t:τ} (o:Own M t M') (h:Holds w0 S0 M w):Holds w0 S0 (treeH t::M') w:=by
 have:=o w0 S0 w [] (by simpa using h)
 simpa using this
def Exp {τ δ:Type} [GT τ δ] (t:τ) (M M':List HP):Prop:=∀ (w0:World) (S0:List Nat) (w:World) (F:List HP),Holds w0 S0 (treeH t::(M++F)) w→Holds w0 S0 (M'++F) w
theorem exp_flat {τ δ:Type} [GT τ δ] {t:τ}:Exp t M M:=fun _ _ _ F h=>h.sub ⟨[treeH t],List.perm_append_comm (l₁:=[treeH t]) (l₂:=M++F)⟩
theorem exp_int {n:Int}:Exp n M M:=exp_flat
theorem exp_bool {n:Bool}:Exp n M M:=exp_flat
theorem exp_str {n:ByteArray}:Exp n M M:=exp_flat
theorem exp_leaf {τ δ:Type} [GT τ δ] {t:TL τ}:Exp t M (treeH t::M):=fun _ _ _ _ h=>h
theorem exp_pair {α β δ ε:Type} [GT α δ] [GT β ε] {a:α} {b:β} (hb:Exp b M M1) (ha:Exp a M1 M2):Exp (a,b) M M2:=fun w0 S0 w F h=>by
 have h1:=tree_pair h
 have h2:Holds w0 S0 (treeH b::(M++(treeH a::F))) w:=h1.perm ((List.Perm.swap _ _ _).trans (List.perm_middle.symm.cons _))
 have h3:=hb w0 S0 w _ h2
 exact ha w0 S0 w F (h3.perm List.perm_middle)
theorem ex {τ δ:Type} [GT τ δ] {t:τ} (o:Exp t M M':=by repeat (first | (with_reducible exact exp_int) | (with_reducible exact exp_bool) | (with_reducible exact exp_str) | (with_reducible apply exp_pair) | (with_reducible exact exp_leaf))):Exp t M M':=o
theorem Exp.h {τ δ:Type} [GT τ δ] {t:τ} (o:Exp t M1 M') (p:Pick (treeH t) M M1) (h:Holds w0 S0 M w):Holds w0 S0 M' w:=by
 have:=o w0 S0 w [] (by simpa using h.perm p.perm)
 simpa using this
variable {Γ:Cx} {l:Envl} {Q:Post} {K:Kont} {c:Code} {r:List Oper}
theorem jW {τ δ:Type} [GT τ δ] (t:τ) (k:W Γ c l (treeH t::M') Q) (o:Own M t M':=by exact ow):W Γ c l M Q:=W_conv (fun _ h=>o.h h) k
theorem jL {τ δ:Type} [GT τ δ] (t:τ) (k:L Γ r l (treeH t::M') K) (o:Own M t M':=by exact ow):L Γ r l M K:=L_conv (fun _ h=>o.h h) k
theorem xL {τ δ:Type} [GT τ δ] (t:τ) (k:L Γ r l M' K) (p:Pick (treeH t) M M1:=by exact pk) (o:Exp t M1 M':=by exact ex):L Γ r l M K:=L_conv (fun _ h=>o.h p h) k
end
theorem dd {a b:Prop} (h:a) (e:a→b:=by (intro h;(try dsimp only [dat_pair,dat_int,dat_bool,dat_str,dat_ar] at h);exact h)):b:=e h
theorem sc {p q:Prop} (k:q) (e:q→p:=by (intro k;(simp only [cells_pair,cells_int,cells_bool,cells_str,cells_TL,List.cons_append,List.nil_append]);exact k)):p:=e k
section
variable {ops:Array Oper} {E:Fl}
theorem gc {o:Oper} {c:Prop} (h:GC ops E o c:=by first | exact GC.none | exact GC.some rfl rfl):GC ops E o c:=h
theorem ov {x:Operand} {c:Prop} {v:Value} (h:OpV E x c v:=by first | exact OpV.c | exact OpV.t rfl | exact OpV.s rfl):OpV E x c v:=h
end
theorem L_extractL {Γ:Cx} {l:Envl} {M:List HP} {K:Kont} {rest:List Oper} {d:Nat} {ty:TypeId} {pos:String} {af:Array Edge} {x:Operand} {i:Nat} {vs:List Value} {v:Value} (hn:Nat.blt d Γ.n=true) (hx:ev l x=some (.tuple vs.toArray)) (hv:vs[i]?=some v) (hk:L Γ rest ((d,v)::l) M K) :
  L Γ ({ dst:=some d,op:=.extract x i,type:=ty,pos,after:=af,guard:=none }::rest) l M K:=L_extract hn hx (by simpa using hv) hk
theorem isLen {Γ:Cx} {l:Envl} {M:List HP} {K:Kont} {rest:List Oper} {d:Option Nat} {ty:TypeId} {pos:String} {af:Array Edge} {g:Option (Nat×Bool)} {x:Array Operand} {T:Array TypeId} (h:L Γ ({ dst:=d,op:=.call { callee:=.builtin .len,args:=x,argTypes:=T },type:=ty,pos:=pos,after:=af,guard:=g }::rest) l M K) :
  L Γ ({ dst:=d,op:=.call { callee:=.builtin .len,args:=x,argTypes:=T },type:=ty,pos:=pos,after:=af,guard:=g }::rest) l M K:=h
section
variable {Γ:Cx} {l:Envl} {M:List HP} {K:Kont} {Q:Post} {c:Code} {r:List Oper} {ops:Array Oper} {Msh pool:List HP} {E:Fl} {rs:List (Option Nat×Rel)} {cs0:List Nat} {KD:RKont}
theorem isL (h:L Γ r l M K):L Γ r l M K:=h
theorem isW (h:W Γ c l M Q):W Γ c l M Q:=h
theorem isD (h:DV Γ ops Msh pool E rs cs0 r KD):DV Γ ops Msh pool E rs cs0 r KD:=h
end
theorem s1 {p q:Prop} (k:q) (h:q→p:=by
 intro k
 (first
  | (with_reducible refine isL ?_);(first
   | (with_reducible apply L_move);(· exact rfl);(· exact rfl)
   | (with_reducible apply L_assign);(· exact rfl);(· exact rfl)
   | (with_reducible refine L_nil ?_)
   | (with_reducible apply L_binV);(· exact rfl);(· exact rfl);(· exact rfl);(· exact bv)
   | (with_reducible apply L_fieldAddr);(· exact rfl);(· exact rfl);(· exact FldF.h)
   | (with_reducible apply L_load);(· exact rfl);(· exact rfl);(· exact RdC.blk mm);(· exact OneF.h);(· exact rfl)
   | (with_reducible apply L_loadW);(· exact rfl);(· exact rfl);(· exact RdC.blk mm);(· exact AggF.h)
   | (with_reducible apply L_extractL);(· exact rfl);(· exact rfl);(· exact rfl)
   | (with_reducible apply L_store);(· exact rfl);(· exact rfl);(· exact pk);(· exact OneF.h);(· exact rfl);(· exact rfl)
   | (with_reducible apply L_storeW);(· exact rfl);(· exact rfl);(· exact pk);(· exact AggF.h);(· exact rfl);(· exact ocs)
   | (with_reducible refine isLen ?_);(first | refine L_lenT rfl rfl StrF.h ?_ | refine L_lenP rfl rfl ElF.h ?_)
   | (with_reducible apply L_not);(· exact rfl);(· exact rfl)
   | (with_reducible apply L_nilCheck);(· exact rfl);(· exact rfl))
  | (with_reducible refine isW ?_);(first
   | (with_reducible refine W_seq ?_)
   | (with_reducible refine W_region ?_)
   | (with_reducible refine W_skip ?_)
   | (with_reducible refine W_block ?_)
   | (with_reducible refine W_ret ?_))
  | (with_reducible refine isD ?_);(first
   | (with_reducible apply D_move);(· exact gc);(· exact ov)
   | (with_reducible apply D_fieldAddr);(· exact gc);(· exact ov);(· exact FldF.h)
   | (with_reducible apply D_load);(· exact gc);(· exact ov);(· exact fun _=>RdC.blk mm);(· exact OneF.h);(· exact rfl)
   | (with_reducible apply D_bin);(· exact gc);(· exact ov);(· exact ov);(· exact fun _=>bv)
   | (with_reducible apply D_and);(· exact gc);(· exact ov);(· exact ov);(· exact fun h hb=>⟨h,hb⟩)
   | (with_reducible apply D_or);(· exact gc);(· exact ov);(· exact ov);(· exact fun h hb=>⟨h,hb⟩)
   | (with_reducible apply D_loadW);(· exact gc);(· exact ov);(· exact fun _=>RdC.blk mm);(· exact AggF.h)
   | (with_reducible apply D_assign);(· exact gc);(· exact ov)
   | (with_reducible apply D_not);(· exact gc);(· exact ov)
   | (with_reducible apply D_nilCheck);(· exact gc);(· exact ov)
   | (with_reducible refine DV_nil ?_))
  | (with_reducible refine Give_nil ?_)
  | (with_reducible apply Give_drop);(· exact rfl)
  | (with_reducible apply Give_is);(· exact rfl);(· exact rfl)
  | (with_reducible apply Give_cons);(· exact rfl)
  | (with_reducible apply Give_drop')
  | (with_reducible apply Give_st))
 exact k):p:=h k
theorem s2 {p q:Prop} (k:q) (h:q→p:=by (intro k;(iterate 2 (refine s1 ?_));exact k)):p:=h k
theorem s3 {p q:Prop} (k:q) (h:q→p:=by (intro k;(iterate 3 (refine s1 ?_));exact k)):p:=h k
theorem s4 {p q:Prop} (k:q) (h:q→p:=by (intro k;(iterate 4 (refine s1 ?_));exact k)):p:=h k
theorem s5 {p q:Prop} (k:q) (h:q→p:=by (intro k;(iterate 5 (refine s1 ?_));exact k)):p:=h k
theorem s6 {p q:Prop} (k:q) (h:q→p:=by (intro k;(iterate 6 (refine s1 ?_));exact k)):p:=h k
theorem s7 {p q:Prop} (k:q) (h:q→p:=by (intro k;(iterate 7 (refine s1 ?_));exact k)):p:=h k
theorem s8 {p q:Prop} (k:q) (h:q→p:=by (intro k;(iterate 8 (refine s1 ?_));exact k)):p:=h k
theorem s9 {p q:Prop} (k:q) (h:q→p:=by (intro k;(iterate 9 (refine s1 ?_));exact k)):p:=h k
theorem s10 {p q:Prop} (k:q) (h:q→p:=by (intro k;(iterate 10 (refine s1 ?_));exact k)):p:=h k
theorem s11 {p q:Prop} (k:q) (h:q→p:=by (intro k;(iterate 11 (refine s1 ?_));exact k)):p:=h k
theorem s12 {p q:Prop} (k:q) (h:q→p:=by (intro k;(iterate 12 (refine s1 ?_));exact k)):p:=h k
theorem s13 {p q:Prop} (k:q) (h:q→p:=by (intro k;(iterate 13 (refine s1 ?_));exact k)):p:=h k
theorem s14 {p q:Prop} (k:q) (h:q→p:=by (intro k;(iterate 14 (refine s1 ?_));exact k)):p:=h k
theorem s15 {p q:Prop} (k:q) (h:q→p:=by (intro k;(iterate 15 (refine s1 ?_));exact k)):p:=h k
theorem s16 {p q:Prop} (k:q) (h:q→p:=by (intro k;(iterate 16 (refine s1 ?_));exact k)):p:=h k
theorem s17 {p q:Prop} (k:q) (h:q→p:=by (intro k;(iterate 17 (refine s1 ?_));exact k)):p:=h k
theorem s19 {p q:Prop} (k:q) (h:q→p:=by (intro k;(iterate 19 (refine s1 ?_));exact k)):p:=h k
theorem s20 {p q:Prop} (k:q) (h:q→p:=by (intro k;(iterate 20 (refine s1 ?_));exact k)):p:=h k
end Go.Proofs.SL
namespace Go.Proofs.SL
open Go
abbrev T_Id:=Int×Int
abbrev T_Cmd:=Int×Int×Int×ByteArray×ByteArray×ByteArray×Int×(TL ByteArray)
abbrev T_Inst:=T_Id×Int×Int×Int×T_Cmd×Int×(TL T_Id)×Bool
abbrev T_Lead:=T_Id×Int×Int×Int×(TL T_Id)×(TL Int)×Bool
abbrev T_ENode:=Int×Int×(TL T_Inst)×(TL T_Lead)
abbrev T_EMsg:=Int×Int×Int×T_Id×Int×T_Cmd×Int×(TL T_Id)×Int×Int×Bool
end Go.Proofs.SL
namespace Go.Proofs.SL
open Go
set_option maxHeartbeats 2000000
theorem mix:Tryz.prog.follows .mixedOrders=true:=by kernel_rfl
instance fn106:FnF Tryz.prog 106:=⟨_,Tryz.func106,by kernel_rfl,rfl⟩
noncomputable def s_l1In (a0:Int) (a1:Int) (a2:Int):Option Bool :=
 some ((decide (a1≤a0))&&(decide (a0≤a2)))
theorem s_l1In_walk (w:World) (a0:Int) (a1:Int) (a2:Int)  (r:Bool) (hp:s_l1In a0 a1 a2=some r):Spec Tryz.prog 51 [.int .i64 a0,.int .i64 a1,.int .i64 a2].toArray w [] (IsV (.bool r)):=by
 refine Spec.intro Tryz.func51 rfl Tryz.ntmps51 rfl ?_
 unfold s_l1In at hp
 replace hp:=dd hp
 refine s5 ?_
 refine W_D0 [6] mix (by kernel_rfl) rfl ?_
 refine s20 ?_
 obtain rfl:=sj hp
 refine s1 ?_
 refine res1 rfl (ResOK.tmp rfl) ⟨rfl,rfl⟩ ms
noncomputable def i_within (a0:Int) (a1:Int) (a2:Int):Option Bool :=
 some ((decide (a1≤a0))&&(decide (a0≤a2)))
theorem i_within_walk (w:World) (a0:Int) (a1:Int) (a2:Int)  (r:Bool) (hp:i_within a0 a1 a2=some r):Spec Tryz.prog 106 [.int .i64 a0,.int .i64 a1,.int .i64 a2].toArray w [] (IsV (.bool r)):=by
 refine Spec.intro Tryz.func106 rfl Tryz.ntmps106 rfl ?_
 unfold i_within at hp
 replace hp:=dd hp
 refine s5 ?_
 refine W_D0 [6] mix (by kernel_rfl) rfl ?_
 refine s20 ?_
 obtain rfl:=sj hp
 refine s1 ?_
 refine res1 rfl (ResOK.tmp rfl) ⟨rfl,rfl⟩ ms
noncomputable def s_l9Node (a0:Int):Option Bool :=
 some ((decide (0≤a0))&&(decide (a0 < 3)))
theorem s_l9Node_walk (w:World) (a0:Int)  (r:Bool) (hp:s_l9Node a0=some r):Spec Tryz.prog 50 [.int .i64 a0].toArray w [] (IsV (.bool r)):=by
 refine Spec.intro Tryz.func50 rfl Tryz.ntmps50 rfl ?_
 unfold s_l9Node at hp
 replace hp:=dd hp
 refine s5 ?_
 refine W_D0 [2] mix (by kernel_rfl) rfl ?_
 refine s16 ?_
 obtain rfl:=sj hp
 refine s1 ?_
 refine res1 rfl (ResOK.tmp rfl) ⟨rfl,rfl⟩ ms
noncomputable def i_isRep (a0:Int):Option Bool :=
 Option.bind (i_within a0 0 2) (fun y1=>some y1)
theorem i_isRep_walk (w:World) (a0:Int)  (r:Bool) (hp:i_isRep a0=some r):Spec Tryz.prog 105 [.int .i64 a0].toArray w [] (IsV (.bool r)):=by
 refine Spec.intro Tryz.func105 rfl Tryz.ntmps105 rfl ?_
 unfold i_isRep at hp
 replace hp:=dd hp
 refine s7 ?_
 replace hp:=ba hp;obtain ⟨y1,hy1,hp⟩:=hp
 refine L_callX rfl fn106.h rfl (by exact fun w hw=>i_within_walk w a0 0 2  _ hy1) ?_
 refine s2 ?_
 obtain rfl:=sj hp
 refine s1 ?_
 refine res1 rfl (ResOK.tmp rfl) ⟨rfl,rfl⟩ ms
end Go.Proofs.SL
namespace Go.Proofs
open Go.Shelf
def Tryz.laysSF177_ren:Go.Shelf.Ren:=⟨fun | 6=>177 | 15=>195 | 14=>198 | 28=>211 | 29=>212 | 20=>213 | 21=>214 | 22=>215 | 23=>216 | 24=>217 | 25=>218 | 26=>219 | 27=>220 | 46=>237 | 47=>232 | 48=>233 | 49=>238 | 50=>239 | 57=>244 | n=>n,fun | 22=>24 | 24=>45 | 25=>169 | 3=>3 | 39=>175 | 0=>0 | 53=>194 | 55=>196 | 4=>4 | 46=>186 | 45=>185 | 50=>191 | 5=>5 | 9=>9 | 66=>209 | 70=>213 | 76=>219 | 77=>220 | n=>n,fun | n=>n⟩
theorem Tryz.laysSF177:Go.Proofs.SlLaysF0.n6 Tryz.prog Tryz.laysSF177_ren:={
 mixed:=by kernel_rfl
 f6:=⟨Tryz.f177.name,by decide,Tryz.func177.trans (congrArg some (by kernel_rfl))⟩
 f14:=⟨Tryz.f198.name,by decide,Tryz.func198.trans (congrArg some (by kernel_rfl))⟩
 f15:=Tryz.func195.trans (congrArg some (by kernel_rfl))
 f20:=⟨Tryz.f213.name,by decide,Tryz.func213.trans (congrArg some (by kernel_rfl))⟩
 f21:=⟨Tryz.f214.name,by decide,Tryz.func214.trans (congrArg some (by kernel_rfl))⟩
 f22:=⟨Tryz.f215.name,by decide,Tryz.func215.trans (congrArg some (by kernel_rfl))⟩
 f23:=⟨Tryz.f216.name,by decide,Tryz.func216.trans (congrArg some (by kernel_rfl))⟩
 f24:=⟨Tryz.f217.name,by decide,Tryz.func217.trans (congrArg some (by kernel_rfl))⟩
 f25:=⟨Tryz.f218.name,by decide,Tryz.func218.trans (congrArg some (by kernel_rfl))⟩
 f26:=⟨Tryz.f219.name,by decide,Tryz.func219.trans (congrArg some (by kernel_rfl))⟩
 f27:=⟨Tryz.f220.name,by decide,Tryz.func220.trans (congrArg some (by kernel_rfl))⟩
 f28:=Tryz.func211.trans (congrArg some (by kernel_rfl))
 f29:=Tryz.func212.trans (congrArg some (by kernel_rfl))
 f46:=⟨Tryz.f237.name,by decide,Tryz.func237.trans (congrArg some (by kernel_rfl))⟩
 f47:=Tryz.func232.trans (congrArg some (by kernel_rfl))
 f48:=Tryz.func233.trans (congrArg some (by kernel_rfl))
 f49:=⟨Tryz.f238.name,by decide,Tryz.func238.trans (congrArg some (by kernel_rfl))⟩
 f50:=⟨Tryz.f239.name,by decide,Tryz.func239.trans (congrArg some (by kernel_rfl))⟩
 f57:=⟨Tryz.f244.name,by decide,Tryz.func244.trans (congrArg some (by kernel_rfl))⟩
 t0:=Tryz.underlying0
 a0:=Tryz.isAgg0
 z0:=Tryz.sizeOf0
 v0:=Tryz.zeroValue0
 t3:=Tryz.underlying3
 a3:=Tryz.isAgg3
 z3:=Tryz.sizeOf3
 v3:=Tryz.zeroValue3
 t4:=Tryz.underlying4
 a4:=Tryz.isAgg4
 z4:=Tryz.sizeOf4
 v4:=Tryz.zeroValue4
 t5:=Tryz.underlying5
 a5:=Tryz.isAgg5
 z5:=Tryz.sizeOf5
 v5:=Tryz.zeroValue5
 t9:=Tryz.underlying9
 a9:=Tryz.isAgg9
 z9:=Tryz.sizeOf9
 v9:=Tryz.zeroValue9
 t22:=Tryz.underlying24
 a22:=Tryz.isAgg24
 z22:=Tryz.sizeOf24
 v22:=Tryz.zeroValue24
 t25:=Tryz.underlying169
 a25:=Tryz.isAgg169
 z25:=Tryz.sizeOf169
 v25:=Tryz.zeroValue169
 t39:=Tryz.underlying175
 a39:=Tryz.isAgg175
 z39:=Tryz.sizeOf175
 v39:=Tryz.zeroValue175
 t45:=Tryz.underlying185
 a45:=Tryz.isAgg185
 z45:=Tryz.sizeOf185
 v45:=Tryz.zeroValue185
 t46:=Tryz.underlying186
 a46:=Tryz.isAgg186
 z46:=Tryz.sizeOf186
 v46:=Tryz.zeroValue186
 t50:=Tryz.underlying191
 a50:=Tryz.isAgg191
 z50:=Tryz.sizeOf191
 v50:=Tryz.zeroValue191
 t53:=Tryz.underlying194
 a53:=Tryz.isAgg194
 z53:=Tryz.sizeOf194
 v53:=Tryz.zeroValue194
 t55:=Tryz.underlying196
 a55:=Tryz.isAgg196
 z55:=Tryz.sizeOf196
 v55:=Tryz.zeroValue196
 t66:=Tryz.underlying209
 a66:=Tryz.isAgg209
 z66:=Tryz.sizeOf209
 v66:=Tryz.zeroValue209
 t70:=Tryz.underlying213
 a70:=Tryz.isAgg213
 z70:=Tryz.sizeOf213
 v70:=Tryz.zeroValue213
 t76:=Tryz.underlying219
 a76:=Tryz.isAgg219
 z76:=Tryz.sizeOf219
 v76:=Tryz.zeroValue219
 t77:=Tryz.underlying220
 a77:=Tryz.isAgg220
 z77:=Tryz.sizeOf220
 v77:=Tryz.zeroValue220 }
end Go.Proofs
namespace Go.Proofs
open Go.Shelf
end Go.Proofs
namespace Go.Proofs.SL
open Go
section
variable {δ:Type}
def insO (lt:δ→δ→Bool) (x:δ):List δ→List δ
 | []=>[x]
 | y::ys=>if lt y x then y::insO lt x ys else x::y::ys
def isort (lt:δ→δ→Bool) (l:List δ):List δ:=l.foldr (insO lt) []
theorem insO_perm (lt:δ→δ→Bool) (x:δ):∀ l:List δ,(insO lt x l).Perm (x::l)
 | []=>List.Perm.refl _
 | y::ys=>by
  unfold insO
  split
  ·exact ((insO_perm lt x ys).cons y).trans (List.Perm.swap x y ys)
  ·exact List.Perm.refl _
theorem isort_perm (lt:δ→δ→Bool):∀ l:List δ,(isort lt l).Perm l
 | []=>List.Perm.refl _
 | x::l=>(insO_perm lt x _).trans ((isort_perm lt l).cons x)
structure SW0 (lt:δ→δ→Bool):Prop where
 irrefl:∀ x,lt x x=false
 trans:∀ x y z,lt x y=true→lt y z=true→lt x z=true
 ntrans:∀ x y z,lt x y=false→lt y z=false→lt x z=false
theorem insO_sorted {lt:δ→δ→Bool} (h:SW0 lt) {x:δ}:∀ {l:List δ},l.Pairwise (fun a b=>lt b a=false)→(insO lt x l).Pairwise (fun a b=>lt b a=false)
 | [],_=>by unfold insO;simp
 | y::ys,hl=>by
  obtain ⟨h1,h2⟩:=List.pairwise_cons.1 hl
  unfold insO
  split
  ·rename_i hc
   refine List.pairwise_cons.2 ⟨fun z hz=>?_,insO_sorted h h2⟩
   rcases List.mem_cons.1 ((insO_perm lt x ys).mem_iff.1 hz) with rfl | hz
   ·cases hh:lt z y with
    | false=>rfl
    | true=>have:=h.trans _ _ _ hh hc;rw [h.irrefl] at this;cases this
   ·exact h1 z hz
  ·rename_i hc
   have hc:lt y x=false:=by simpa using hc
   refine List.pairwise_cons.2 ⟨fun z hz=>?_,hl⟩
   rcases List.mem_cons.1 hz with rfl | hz
   ·exact hc
   ·exact h.ntrans _ _ _ (h1 z hz) hc
theorem isort_sorted {lt:δ→δ→Bool} (h:SW0 lt):∀ l:List δ,(isort lt l).Pairwise (fun a b=>lt b a=false)
 | []=>List.Pairwise.nil
 | x::l=>insO_sorted h (isort_sorted h l)
theorem sorted_one {lt:δ→δ→Bool}:∀ {l m:List δ},l.Perm m→l.Pairwise (fun a b=>lt b a=false)→m.Pairwise (fun a b=>lt b a=false)→(∀ a b,a∈l→b∈l→lt a b=true∨lt b a=true∨a=b)→l=m
 | [],m,hp,_,_,_=>(List.nil_perm.1 hp).symm
 | a::l,m,hp,hl,hm,ht=>by
  match m,hp,hm with
  | [],hp,_=>exact absurd hp.length_eq (by simp)
  | b::m,hp,hm =>
   obtain ⟨l1,l2⟩:=List.pairwise_cons.1 hl
   obtain ⟨m1,m2⟩:=List.pairwise_cons.1 hm
   have e:a=b:=by
    rcases List.mem_cons.1 (hp.mem_iff.1 (List.mem_cons_self ..)) with e | ha
    ·exact e
    ·rcases List.mem_cons.1 (hp.mem_iff.2 (List.mem_cons_self ..)) with e | hb
     ·exact e.symm
     ·rcases ht a b (List.mem_cons_self ..) (List.mem_cons_of_mem _ hb) with h | h | h
      ·rw [m1 a ha] at h;cases h
      ·rw [l1 b hb] at h;cases h
      ·exact h
   subst e
   rw [sorted_one ((List.perm_cons a).1 hp) l2 m2 fun x y hx hy=>ht x y (List.mem_cons_of_mem _ hx) (List.mem_cons_of_mem _ hy)]
open Classical in
noncomputable def sortD (lt:δ→δ→Bool) (l:List δ):Option (List δ):=if l.length≤4294967296∧∀ a b,a∈l→b∈l→lt a b=true∨lt b a=true∨a=b then some (isort lt l) else none
theorem sortD_some {lt:δ→δ→Bool} {l r:List δ} (h:sortD lt l=some r):l.length≤4294967296∧(∀ a b,a∈l→b∈l→lt a b=true∨lt b a=true∨a=b)∧r=isort lt l:=by
 unfold sortD at h
 split at h
 ·rename_i hc;cases h;exact ⟨hc.1,hc.2,rfl⟩
 ·cases h
theorem sortD_eq {lt:δ→δ→Bool} {l:List δ} (h1:l.length≤4294967296) (h2:∀ a b,a∈l→b∈l→lt a b=true∨lt b a=true∨a=b):sortD lt l=some (isort lt l):=by
 unfold sortD;rw [if_pos ⟨h1,h2⟩]
end
section
variable {τ δ:Type} [GT τ δ]
theorem fp_perm {els ys:List τ} (h:ys.Perm els):(ys.flatMap GT.fp:List Nat).Perm (els.flatMap GT.fp):=h.flatMap_right _
theorem swO {lt:τ→τ→Bool} {ltD:δ→δ→Bool} (hlt:∀ x y,lt x y=ltD (GT.dat x) (GT.dat y)) (hD:SW0 ltD):Sort.SWO lt where
 irrefl x:=by rw [hlt];exact hD.irrefl _
 trans x y z h1 h2:=by rw [hlt] at *;exact hD.trans _ _ _ h1 h2
 ntrans x y z h1 h2:=by rw [hlt] at *;exact hD.ntrans _ _ _ h1 h2
end
theorem extract_all {α:Type} (X:Array α) (n:Nat) (h:X.size=n):X.extract 0 n=X:=by subst h;simp
section
variable {τ δ:Type} [Inhabited τ] [GT τ δ]
theorem rowCells_getO:∀ (ys:List τ) (t:Nat),t < ys.length*GT.sz τ→(rowCells ys)[t]?=(GT.cells (ys.toArray[t / GT.sz τ]!))[t % GT.sz τ]?
 | [],t,h=>by simp at h
 | y::ys,t,h=>by
  have hp:0 < GT.sz τ:=GT.pos
  have hl:(GT.cells y).length=GT.sz τ:=GT.len y
  rw [rowCells_cons]
  rcases Nat.lt_or_ge t (GT.sz τ) with ht | ht
  ·rw [List.getElem?_append_left (by omega),Nat.div_eq_of_lt ht,Nat.mod_eq_of_lt ht];rfl
  ·have h2:t - GT.sz τ < ys.length*GT.sz τ:=by rw [List.length_cons,Nat.add_mul] at h;omega
   rw [List.getElem?_append_right (by omega),hl,rowCells_getO ys _ h2,Nat.mod_eq_sub_mod ht,Nat.div_eq_sub_div hp ht]
   congr 2
   simp
theorem rowCells_flatO (ys:List τ):Sort.flatK (fun x:τ=>GT.cells x) (GT.sz τ) ys.toArray=(rowCells ys).toArray:=by
 have hs:(Sort.flatK (fun x:τ=>GT.cells x) (GT.sz τ) ys.toArray).size=(rowCells ys).toArray.size:=by rw [Sort.size_flatK];simp [length_rowCells]
 refine Sort.ext_get! hs fun t ht=>?_
 have ht':t < ys.toArray.size*GT.sz τ:=by simpa using ht
 have ht2:t < ys.length*GT.sz τ:=by simpa using ht'
 rw [Sort.get_flatK _ _ _ _ ht']
 have h1:=rowCells_getO ys t ht2
 simp only [Array.getElem!_eq_getD,Array.getD_eq_getD_getElem?,List.getElem?_toArray,List.getElem!_eq_getElem?_getD] at h1 ⊢
 rw [h1]
theorem sort_holdsO {w:World} {b:Nat} {e:TypeId} {els:List τ} {tail:List Value} (hb:w.heap[b]?=some (.cells (rowCells els++tail).toArray e (0,0))):Sort.HoldsK (fun x:τ=>GT.cells x) (GT.sz τ) w b 0 els.toArray:=by
 unfold Sort.HoldsK
 rw [rowCells_flatO]
 intro j hj
 have hj':j < (rowCells els).length:=by simpa using hj
 refine ⟨?_,by simp [World.frozen?,hb]⟩
 simp only [World.cell?,hb,Nat.zero_add]
 simp only [Option.isSome_none,Bool.false_eq_true,if_false]
 rw [List.getElem?_toArray,List.getElem?_append_left hj',List.getElem?_eq_getElem hj']
 rw [show (rowCells els).toArray[j]! = (rowCells els)[j] by simp [List.getElem?_eq_getElem hj']];rfl
theorem put_holdsO {w w':World} {b cap n:Nat} {e:TypeId} {els ys:List τ} {tail:List Value} {os:Array Obj}
  (hh:Holds w (fps [treeH (⟨some ⟨b,0,none⟩,cap,e,els,tail⟩:TL τ)]) [treeH (⟨some ⟨b,0,none⟩,cap,e,els,tail⟩:TL τ)] w) (hpm:ys.Perm els)
  (hw:w'=Go.Proofs.sortWorldK (fun x:τ=>GT.cells x) (GT.sz τ) w b 0 n ys.toArray os) :
  Holds w (fps [treeH (⟨some ⟨b,0,none⟩,cap,e,els,tail⟩:TL τ)]) [treeH (⟨some ⟨b,0,none⟩,cap,e,ys,tail⟩:TL τ)] w':=by
 have hlen:ys.length=els.length:=hpm.length_eq
 have ht:GT.ow w (⟨some ⟨b,0,none⟩,cap,e,els,tail⟩:TL τ):=hh.prs _ (List.mem_cons_self ..)
 obtain ⟨h1,h2,h3,h4,h5⟩:=ht
 dsimp only at h1 h2 h3 h4
 obtain ⟨_,_,hb,hl⟩:=h5 _ rfl
 dsimp only at hb hl
 unfold Go.Proofs.sortWorldK Sort.putRowK at hw
 rw [rowCells_flatO] at hw
 have hbl:b < w.heap.size:=(Array.getElem?_eq_some_iff.1 hb).1
 have hw':w'.heap[b]?=some (.cells (rowCells ys++tail).toArray e (0,0)):=by
  subst hw
  rw [Sort.heap_grow_old _ _ (by simpa [Sort.putRow,Sort.mapBlock,Sort.ahead] using hbl)]
  have hp:=put_cells id (rowCells ys) (rowCells els) tail (by rw [length_rowCells,length_rowCells,hlen])
  simp only [Sort.putRow,Sort.mapBlock,Sort.ahead,Array.getElem?_modify,hb,Sort.onCells,if_true,Option.map_some]
  rw [hp,List.map_id]
 have hoth:∀ k,k < w.heap.size→b≠k→w'.heap[k]?=w.heap[k]?:=fun k hk hkb=>by
  subst hw
  rw [Sort.heap_grow_old _ _ (by simpa [Sort.putRow,Sort.mapBlock,Sort.ahead] using hk)]
  simp [Sort.putRow,Sort.mapBlock,Sort.ahead,Array.getElem?_modify,hkb]
 have hsz:w.heap.size≤w'.heap.size:=by subst hw;simp [Sort.putRow,Sort.mapBlock,Sort.ahead]
 have e1:fps [treeH (⟨some ⟨b,0,none⟩,cap,e,els,tail⟩:TL τ)]=b::els.flatMap GT.fp:=by simp only [fps_cons];show ([b]++els.flatMap GT.fp)++fps []=_;simp [fps]
 have e2:fps [treeH (⟨some ⟨b,0,none⟩,cap,e,ys,tail⟩:TL τ)]=b::ys.flatMap GT.fp:=by simp only [fps_cons];show ([b]++ys.flatMap GT.fp)++fps []=_;simp [fps]
 have efp:(fps [treeH (⟨some ⟨b,0,none⟩,cap,e,ys,tail⟩:TL τ)]).Perm (fps [treeH (⟨some ⟨b,0,none⟩,cap,e,els,tail⟩:TL τ)]):=by rw [e1,e2];exact (fp_perm hpm).cons b
 have hnd:=hh.nodup
 rw [e1] at hnd
 refine ⟨by subst hw;rfl,⟨by subst hw;rfl,by subst hw;exact Nat.le_add_right _ _⟩,by subst hw;rfl,hsz,fun k hk hn=>hoth k hk fun e2=>?_,fun x hx=>?_,efp.nodup_iff.2 hh.nodup,fun k hk=>?_⟩
 ·subst e2;exact hn (by rw [e1];exact List.mem_cons_self ..)
 ·obtain rfl:=List.mem_singleton.1 hx
  refine ⟨by dsimp only;omega,h2,fun x hx=>?_,fun h=>(by cases h),fun a ha=>by cases ha;exact ⟨rfl,rfl,hw',by dsimp only;rw [hlen];exact hl⟩⟩
  have hxe:x∈els:=hpm.mem_iff.1 hx
  refine GT.ow_st (fun k hk=>?_) (h3 x hxe)
  have hm:k∈els.flatMap GT.fp:=List.mem_flatMap.2 ⟨x,hxe,hk⟩
  exact hoth k (hh.rng k (by rw [e1];exact List.mem_cons_of_mem _ hm)).2 fun e2=>(List.nodup_cons.1 hnd).1 (by rw [e2];exact hm)
 ·have hk2:=efp.mem_iff.1 hk
  exact ⟨(hh.rng k hk2).1,Nat.lt_of_lt_of_le (hh.rng k hk2).2 hsz⟩
theorem Spec.sortO {P:Program} {f:FuncId} {fv:Value} (w:World) (a0:TL τ) (lt:τ→τ→Bool) (ltD:δ→δ→Bool) (hlt:∀ x y,lt x y=ltD (GT.dat x) (GT.dat y)) (hD:SW0 ltD) (r:List δ) (hp:sortD ltD (GT.dat a0)=some r)
  (h:∀ (b off cap:Nat) (d:Array τ),Sort.HoldsK (fun x:τ=>GT.cells x) (GT.sz τ) w b off d→b < w.heap.size→b∈GT.fp a0→d.size < 4611686018427387904→Calls P f #[.slice (some ⟨b,off,none⟩) d.size cap,fv] w fun e w'=>e=.returned (.tuple #[])∧∃ n os,w'=Go.Proofs.sortWorldK (fun x:τ=>GT.cells x) (GT.sz τ) w b off n (Sort.pdq lt d 0 d.size (Lib.bitLen d.size) true true) os)
  (h0:∀ (p:Option Addr) (cap:Nat),Calls P f #[.slice p 0 cap,fv] w fun e w'=>e=.returned (.tuple #[])∧w'=w) :
  Spec P f #[a0.hdr,fv] w [treeH a0] (fun v M=>∃ y0:TL τ,v=.tuple #[]∧GT.dat y0=r∧M=[treeH y0]∧y0.hdr=a0.hdr):=by
 intro hh
 obtain ⟨hsz,htot,rfl⟩:=sortD_some hp
 have hd:GT.dat a0=a0.els.map GT.dat:=rfl
 rw [hd,List.length_map] at hsz
 have hO:=swO hlt hD
 have hps:=Sort.pdq_sorts lt hO a0.els.toArray 0 a0.els.toArray.size (Lib.bitLen a0.els.length) true true (Nat.zero_le _) (Nat.le_refl _) (Or.inl rfl)
 have hperm:(Sort.pdq lt a0.els.toArray 0 a0.els.length (Lib.bitLen a0.els.length) true true).toList.Perm a0.els:=by
  have h1:=hps.1.2.2
  have h2:=hps.1.1
  simp only [List.size_toArray] at h1 h2
  rw [extract_all _ _ h2,extract_all _ _ (by simp)] at h1
  simpa using h1
 have hsorted:((Sort.pdq lt a0.els.toArray 0 a0.els.length (Lib.bitLen a0.els.length) true true).toList.map GT.dat).Pairwise (fun a b=>ltD b a=false):=by
  rw [List.pairwise_map,List.pairwise_iff_getElem]
  intro i j hi hj hij
  have h2:=hps.2 i j (Nat.zero_le _) hij (by have:=hperm.length_eq;rw [List.size_toArray];omega)
  rw [List.size_toArray] at h2
  rw [hlt] at h2
  have hi':i < (Sort.pdq lt a0.els.toArray 0 a0.els.length (Lib.bitLen a0.els.length) true true).size:=by simpa using hi
  have hj':j < (Sort.pdq lt a0.els.toArray 0 a0.els.length (Lib.bitLen a0.els.length) true true).size:=by simpa using hj
  rw [getElem!_pos _ i hi',getElem!_pos _ j hj'] at h2
  simpa using h2
 have hres:(Sort.pdq lt a0.els.toArray 0 a0.els.length (Lib.bitLen a0.els.length) true true).toList.map GT.dat=isort ltD (GT.dat a0) :=
  sorted_one ((hperm.map GT.dat).trans (isort_perm ltD _).symm) hsorted (isort_sorted hD _) fun a b ha hb=>htot a b ((hperm.map GT.dat).mem_iff.1 ha) ((hperm.map GT.dat).mem_iff.1 hb)
 rcases own_cases hh with ⟨e,tail,rfl⟩ | ⟨b,cap,e,els,tail,rfl,h1,hl,hb,hbl⟩
 ·refine (h0 none 0).mono fun e' w' ⟨he,hw⟩=>?_
  subst hw
  refine ⟨_,_,he,⟨⟨none,0,e,[],tail⟩,rfl,rfl,rfl,rfl⟩,hh⟩
 ·dsimp only at hsz hperm hsorted hres
  have:=h b 0 cap els.toArray (sort_holdsO hb) hbl (by show b∈[b]++_;simp) (by simp;omega)
  rw [List.size_toArray] at this
  generalize Sort.pdq lt els.toArray 0 els.length (Lib.bitLen els.length) true true=ys at this hperm hres
  refine this.mono fun e' w' ⟨he,n,os,hw⟩=>⟨_,_,he,⟨⟨some ⟨b,0,none⟩,cap,e,ys.toList,tail⟩,rfl,hres,rfl,?_⟩,put_holdsO (n:=n) (os:=os) hh hperm hw⟩
  show Value.slice _ ys.toList.length _=Value.slice _ els.length _
  rw [hperm.length_eq]
end
end Go.Proofs.SL
