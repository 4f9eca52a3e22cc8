/- The texts of the proof, part 5: the base, walks of functions, plain Lean. -/
import Derived.Test.YtkfgjljahhgooaaGreatT4
import Derived.Sort.Grow
import Derived.Sort.EncStr
import Derived.Lib.SlicesCompact
import Derived.Laws.StructEq
import Derived.Test.YtkfgjljahhgooaaGreatRows
import Derived.Shelf.SlSortCmp.NoneTotal
import Derived.Ground.SlsfProg
import Derived.Shelf.Sort.Plain
import Derived.Shelf.Slices.In.SortNone
namespace Go.Proofs.SL
open Go
section
variable {α β σ τ:Type}
theorem wrap_succ {k:Nat} (h:k < 9223372036854775807):IntKind.wrap .i64 ((k:Int)+1)=((k+1:Nat):Int):=by rw [wrap64_in (by unfold inR;omega)];omega
theorem gb_true [Inhabited α] {o:Option α} {k:α→Option β}:gb true o k=o.bind k:=rfl
theorem gb_false [Inhabited α] {o:Option α} {k:α→Option β}:gb false o k=k default:=rfl
theorem gb_some [Inhabited α] {g:Bool} {a:α} {k:α→Option β} (h:g=false→k a=k default):gb g (some a) k=k a:=by
 cases g with
 | true=>rfl
 | false=>exact (h rfl).symm
def goE (step:τ→β→τ ⊕ Option α) (fin:τ→Option α):List β→τ→Option α
 | [],t=>fin t
 | x::xs,t=>match step t x with
  | .inl t'=>goE step fin xs t'
  | .inr r=>r
theorem whileP_go {f:σ→Option (σ ⊕ α)} {l:List β} (mk:Nat→τ→σ) (step:τ→β→τ ⊕ Option α) (fin:τ→Option α) (I:Nat→τ→Prop)
  (hs:∀ k t x,l[k]?=some x→I k t→(∃ t',step t x=.inl t'∧f (mk k t)=some (.inl (mk (k+1) t'))∧I (k+1) t')∨(∃ r,step t x=.inr r∧f (mk k t)=r.map .inr))
  (he:∀ t,I l.length t→f (mk l.length t)=(fin t).map .inr):∀ (xs:List β) (k:Nat) (t:τ),l.drop k=xs→I k t→k≤l.length→whileP f (mk k t)=goE step fin xs t
 | [],k,t,hd,hi,hk=>by
  have hlen:k=l.length:=by
   have:=congrArg List.length hd
   simp at this;omega
  subst hlen
  rw [whileP_eq,he t hi]
  show _=fin t
  cases fin t<;>rfl
 | x::xs,k,t,hd,hi,hk=>by
  have hx:l[k]?=some x:=by
   have:=congrArg (fun q=>q[0]?) hd
   simpa [List.getElem?_drop] using this
  have hlt:=(List.getElem?_eq_some_iff.1 hx).1
  have hd':l.drop (k+1)=xs:=by
   have:=congrArg List.tail hd
   simpa [List.tail_drop] using this
  rw [whileP_eq]
  rcases hs k t x hx hi with ⟨t',h1,h2,h3⟩ | ⟨r,h1,h2⟩
  ·rw [h2]
   show whileP f (mk (k+1) t')=_
   rw [whileP_go mk step fin I hs he xs (k+1) t' hd' h3 (by omega)]
   simp only [goE,h1]
  ·rw [h2]
   simp only [goE,h1]
   cases r<;>rfl
theorem whileP_for {f:σ→Option (σ ⊕ α)} {l:List β} (mk:Nat→τ→σ) (step:τ→β→τ ⊕ Option α) (fin:τ→Option α) (I:Nat→τ→Prop) (t0:τ) {s0:σ} (h0:mk 0 t0=s0) (hI:I 0 t0)
  (hs:∀ k t x,l[k]?=some x→I k t→(∃ t',step t x=.inl t'∧f (mk k t)=some (.inl (mk (k+1) t'))∧I (k+1) t')∨(∃ r,step t x=.inr r∧f (mk k t)=r.map .inr))
  (he:∀ t,I l.length t→f (mk l.length t)=(fin t).map .inr):whileP f s0=goE step fin l t0:=by
 subst h0
 exact whileP_go mk step fin I hs he l 0 t0 rfl hI (Nat.zero_le _)
theorem goE_app (xs acc:List β) (g:List β→Option α):goE (fun (t:List β) x=>(.inl (t++[x]):List β ⊕ Option α)) g xs acc=g (acc++xs):=by
 induction xs generalizing acc with
 | nil=>simp [goE]
 | cons x xs ih=>simp only [goE];rw [ih];simp
theorem goE_fold (h:τ→β→τ) (g:τ→Option α):∀ (xs:List β) (t:τ),goE (fun t x=>(.inl (h t x):τ ⊕ Option α)) g xs t=g (xs.foldl h t)
 | [],t=>rfl
 | x::xs,t=>by simp only [goE,List.foldl_cons];exact goE_fold h g xs (h t x)
theorem appP_ok {δ:Type} {a b:List δ} (h:a.length+b.length≤4294967296):appP a b=some (a++b):=if_pos h
theorem lt_dec {k n:Nat} (h:k < n):decide ((k:Int) < (n:Int))=true:=decide_eq_true (by omega)
theorem ge_dec {n:Nat}:decide ((n:Int) < (n:Int))=false:=decide_eq_false (by omega)
theorem whileP_all {f:Int→Option (Int ⊕ α)} {n:Nat} (b:Nat→Bool) (no yes:Option α)
  (h:∀ k,k < n→f (k:Int)=if b k then some (.inl ((k+1:Nat):Int)) else no.map .inr) (hn:f (n:Int)=yes.map .inr):whileP f 0=if (List.range n).all b then yes else no:=by
 have key:∀ m k,n - k=m→k≤n→whileP f (k:Int)=if (List.range' k (n - k)).all b then yes else no:=by
  intro m
  induction m with
  | zero =>
   intro k hm hk
   have:k=n:=by omega
   subst this
   rw [whileP_eq,hn,Nat.sub_self]
   cases yes<;>rfl
  | succ m ih =>
   intro k hm hk
   rw [whileP_eq,h k (by omega),show n - k=(n - (k+1))+1 by omega,List.range'_succ,List.all_cons]
   cases hb:b k with
   | true =>
    simp only [if_true,Bool.true_and]
    exact ih (k+1) (by omega) (by omega)
   | false =>
    simp only [Bool.false_and,Bool.false_eq_true,if_false]
    cases no<;>rfl
 have:=key n 0 (by omega) (by omega)
 rw [Nat.sub_zero,← List.range_eq_range'] at this
 exact this
theorem whileP_find {γ:Type} {f:Int→Option (Int ⊕ γ)} {l:List β} (p:β→Bool) (q:Int→Option γ) (hl:l.length≤9223372036854775807)
  (hs:∀ (k:Nat) x,l[k]?=some x→f (k:Int)=if p x then (q k).map .inr else some (.inl (IntKind.wrap .i64 ((k:Int)+1)))) (he:f (l.length:Int)=(q (-1)).map .inr):whileP f 0=q (firstI p l):=by
 have key:∀ (xs:List β) (k:Nat),l.drop k=xs→k≤l.length→(∀ j x,j < k→l[j]?=some x→p x=false)→whileP f (k:Int)=q (firstI p l):=by
  intro xs
  induction xs with
  | nil =>
   intro k hd hk hf
   have hlen:k=l.length:=by have:=congrArg List.length hd;simp at this;omega
   subst hlen
   rw [whileP_eq,he,firstI_miss (fun x hx=>by
    obtain ⟨j,hj⟩:=List.getElem?_of_mem hx
    exact hf j x (List.getElem?_eq_some_iff.1 hj).1 hj)]
   cases q (-1)<;>rfl
  | cons x xs ih =>
   intro k hd hk hf
   have hx:l[k]?=some x:=by
    have:=congrArg (fun q=>q[0]?) hd
    simpa [List.getElem?_drop] using this
   have hlt:=(List.getElem?_eq_some_iff.1 hx).1
   rw [whileP_eq,hs k x hx]
   cases hp:p x with
   | true =>
    rw [firstI_hit (fun y hy=>by
     obtain ⟨j,hj⟩:=List.getElem?_of_mem hy
     have hjl:=(List.getElem?_eq_some_iff.1 hj).1
     rw [List.length_take] at hjl
     rw [List.getElem?_take_of_lt (by omega)] at hj
     exact hf j y (by omega) hj) hx hp]
    simp only [if_true]
    cases q (k:Int)<;>rfl
   | false =>
    simp only [Bool.false_eq_true,if_false]
    rw [wrap_succ (by omega)]
    refine ih (k+1) ?_ (by omega) (fun j y hj hy=>?_)
    ·have:=congrArg List.tail hd
     simpa [List.tail_drop] using this
    ·rcases Nat.lt_or_ge j k with h1 | h1
     ·exact hf j y h1 hy
     ·have:j=k:=by omega
      subst this
      rw [hx] at hy;cases hy;exact hp
 exact key l 0 rfl (Nat.zero_le _) (fun j x hj=>absurd hj (Nat.not_lt_zero _))
theorem all_range_get {l:List β} {p:β→Bool}:(List.range l.length).all (fun k=>(l[k]?).all p)=l.all p:=by
 rw [Bool.eq_iff_iff,List.all_eq_true,List.all_eq_true]
 constructor
 ·intro h x hx
  obtain ⟨i,hi⟩:=List.getElem?_of_mem hx
  have:=h i (List.mem_range.2 (List.getElem?_eq_some_iff.1 hi).1)
  rw [hi] at this;exact this
 ·intro h k hk
  have hk:=List.mem_range.1 hk
  rw [List.getElem?_eq_getElem hk]
  exact h _ (List.getElem_mem hk)
end
end Go.Proofs.SL
namespace Go.Proofs.SL
open Go
variable {Γ:Cx} {l:Envl} {M M' M1 M2 F:List HP} {Q:Post} {K:Kont} {w0 w:World} {S0:List Nat} {P:Program}
variable {rest:List Oper} {d:Nat} {ty:TypeId} {pos:String} {af:Array Edge}
variable {ops:Array Oper} {Msh pool:List HP} {E:Fl} {rs:List (Option Nat×Rel)} {cs0:List Nat} {KD:List (Option Nat×Rel)→List Nat→List HP→Prop} {gd:Option (Nat×Bool)}
section
variable {τ δ:Type} [GT τ δ]
theorem els_sub {xs ys zs:List τ} (hp:List.Perm xs (ys++zs)) (p:Pick (elsT xs) M M1) (h:Holds w0 S0 M w):Holds w0 S0 (elsT ys::M1) w:=by
 have h1:=h.perm p.perm
 have h2:Holds w0 S0 (elsT ys::elsT zs::M1) w:=by
  refine h1.reFp ?_ fun x hx=>?_
  ·simp only [fps_cons]
   show List.Perm (xs.flatMap GT.fp++fps M1) (ys.flatMap GT.fp++(zs.flatMap GT.fp++fps M1))
   rw [← List.append_assoc,← List.flatMap_append]
   exact (hp.flatMap_right _).append_right _
  ·have h3:=h1.prs (elsT xs) (List.mem_cons_self ..)
   rcases List.mem_cons.1 hx with rfl | hx
   ·exact fun y hy=>h3 y (hp.mem_iff.2 (List.mem_append_left _ hy))
   rcases List.mem_cons.1 hx with rfl | hx
   ·exact fun y hy=>h3 y (hp.mem_iff.2 (List.mem_append_right _ hy))
   ·exact h1.prs _ (List.mem_cons_of_mem _ hx)
 exact h2.sub ⟨[elsT zs],(List.perm_append_comm (l₁:=[elsT zs]) (l₂:=M1)).cons _⟩
theorem raw_facts {X:TL τ} (h:GT.ow w X) (hx:X.els≠[]):X.a=some ⟨X.g,0,none⟩∧X.els.length≤X.cap∧X.cap≤maxLen∧X.els.length*GT.sz τ+X.tail.length=X.cap*GT.sz τ∧w.heap[X.g]?=some (.cells (rowCells X.els++X.tail).toArray X.e (0,0)):=by
 obtain ⟨r1,r2,r3,r4,r5⟩:=h
 cases ha:X.a with
 | none=>exact (hx (r4 ha).1).elim
 | some a =>
  obtain ⟨h1,h2,h3,h4⟩:=r5 a ha
  have hg:X.g=a.block:=by unfold TL.g;rw [ha];rfl
  obtain ⟨b,o,s⟩:=a
  have h1:s=none:=h1
  have h2:o=0:=h2
  subst h1;subst h2
  refine ⟨by rw [hg],r1,r2,h4,by rw [hg];exact h3⟩
theorem raw_open {X:TL τ} (hx:X.els≠[]) (p:Pick (treeH X) M M1) (h:Holds w0 S0 M w):Holds w0 S0 (blk X.g (rowCells X.els++X.tail) X.e::elsT X.els::M1) w:=by
 have h1:=h.perm p.perm
 have ht:GT.ow w X:=h1.prs _ (List.mem_cons_self ..)
 obtain ⟨f1,_,_,_,f5⟩:=raw_facts ht hx
 refine h1.reFp (List.Perm.of_eq ?_) fun x hx=>?_
 ·simp only [fps_cons]
  show ((match X.a with | none=>[] | some a=>[a.block])++X.els.flatMap GT.fp)++fps M1=[X.g]++(X.els.flatMap GT.fp++fps M1)
  rw [f1,List.append_assoc]
 ·rcases List.mem_cons.1 hx with rfl | hx
  ·exact f5
  rcases List.mem_cons.1 hx with rfl | hx
  ·exact ht.2.2.1
  ·exact h1.prs _ (List.mem_cons_of_mem _ hx)
theorem raw_close {g cap:Nat} {e:TypeId} {els:List τ} {tail cs:List Value} (hc:cs=rowCells els++tail) (h1:els.length≤cap) (h2:cap≤maxLen) (h3:els.length*GT.sz τ+tail.length=cap*GT.sz τ)
  (p:Pick (blk g cs e) M M1) (q:Pick (elsT els) M1 M2) (h:Holds w0 S0 M w):Holds w0 S0 (treeH (⟨some ⟨g,0,none⟩,cap,e,els,tail⟩:TL τ)::M2) w:=by
 subst hc
 have h4:=h.perm (p.perm.trans (q.perm.cons _))
 refine h4.reFp (List.Perm.of_eq ?_) fun x hx=>?_
 ·simp only [fps_cons]
  show [g]++(els.flatMap GT.fp++fps M2)=([g]++els.flatMap GT.fp)++fps M2
  rw [List.append_assoc]
 ·rcases List.mem_cons.1 hx with rfl | hx
  ·refine ⟨h1,h2,h4.prs (elsT els) (List.mem_cons_of_mem _ (List.mem_cons_self ..)),fun h=>(by cases h),fun a ha=>?_⟩
   cases ha
   exact ⟨rfl,rfl,h4.prs (blk g _ e) (List.mem_cons_self ..),h3⟩
  ·exact h4.prs _ (List.mem_cons_of_mem _ (List.mem_cons_of_mem _ hx))
end
theorem flatten_rep (z:List Value) (n:Nat):((Array.range (n*z.length)).map (fun i=>(z.toArray)[i % z.length]!)).toList=(List.replicate n z).flatten:=by
 refine List.ext_getElem? fun i=>?_
 by_cases hz:z.length=0
 ·have:z=[]:=List.eq_nil_of_length_eq_zero hz
  subst this;simp
 ·have hpos:0 < z.length:=by omega
  by_cases hi:i < n*z.length
  ·have h1:i / z.length < n:=Nat.div_lt_of_lt_mul (by rw [Nat.mul_comm];exact hi)
   have h2:i % z.length < z.length:=Nat.mod_lt _ hpos
   simp only [Array.toList_map,Array.toList_range,List.getElem?_map,List.getElem?_range hi,Option.map_some]
   have key:∀ (n i:Nat),i < n*z.length→((List.replicate n z).flatten)[i]?=z[i % z.length]?:=by
    intro n
    induction n with
    | zero=>intro i h;simp at h
    | succ n ih =>
     intro i h
     rw [List.replicate_succ,List.flatten_cons]
     by_cases hlt:i < z.length
     ·rw [List.getElem?_append_left hlt,Nat.mod_eq_of_lt hlt]
     ·rw [List.getElem?_append_right (by omega),ih (i - z.length) (by rw [Nat.add_mul] at h;omega)]
      rw [← Nat.mod_eq_sub_mod (by omega)]
   rw [key n i hi,getElem!_pos z.toArray (i % z.length) (by simpa using h2)]
   simp [h2]
  ·rw [List.getElem?_eq_none (by simpa using hi),List.getElem?_eq_none (by simp;omega)]
theorem L_val0 {o:Oper} {v:Value} (hg:o.guard=none) (hd:o.dst=none)
  (he:∀ a w,Env a Γ.n l→Holds Γ.w0 Γ.S0 M w→∃ w',(execOp a.eval o).run Γ.P w=.ok (.value v) w'∧Holds Γ.w0 Γ.S0 M' w')
  (hk:L Γ rest l M' K):L Γ (o::rest) l M K:=fun ops a w Q ha hw hq =>
 wpList_plain hg fun K' hK'=>by
  obtain ⟨w',h1,h2⟩:=he a w ha hw
  unfold Oper.wp
  rw [h1,Oper.upon_value,hd]
  exact hK' _ _ (hk ops _ w' Q (by simpa [Act.put] using ha) h2 hq)
theorem run_clr {T e sz by_ g o n c:Nat} {z cs:List Value} {e2:TypeId} (ht:elOf P T=some (e,sz,by_,z)) (hz:z.length=sz) (hone:∀ u,u∈z→u.oneCell'=true)
  (hh:w.heap[g]?=some (.cells cs.toArray e2 (0,0))) (h1:o+n*sz≤cs.length) (hn:n≠0) (ty:TypeId) :
  (Builtin.clear_ #[T] ty #[.slice (some ⟨g,o,none⟩) n c]).run P w=.ok (.tuple #[]) (w.setRow g (cs.take o++(List.replicate n z).flatten++cs.drop (o+n*sz)).toArray):=by
 unfold elOf at ht
 split at ht<;>(try cases ht)
 rename_i e' het
 split at ht<;>(try cases ht)
 rename_i i' hi'
 split at ht<;>cases ht
 rename_i z' hz'
 have hfl:((List.replicate n z'.cells.toList).flatten).length=n*i'.size:=by simp [hz]
 have hs:=run_store_blk (P:=P) (fo:=o) (vs:=(List.replicate n z'.cells.toList).flatten) (ty:=0) hh (by rw [hfl];exact h1) (fun u hu=>by
  obtain ⟨q,hq,hu⟩:=List.mem_flatten.1 hu
  rw [List.eq_of_mem_replicate hq] at hu
  exact hone u hu)
 rw [hfl] at hs
 have hzc:(Builtin.zeroCells z'.cells n).toList=(List.replicate n z'.cells.toList).flatten:=flatten_rep z'.cells.toList n
 obtain ⟨k,rfl⟩:=Nat.exists_eq_succ_of_ne_zero hn
 simp only [Builtin.clear_]
 simp [underlying,het,zeroValue,typeInfo,hi',hz',hzc,hs]
theorem L_clrRaw {x:Operand} {T e sz by_ g o n c:Nat} {z cs:List Value} {e2:TypeId} (hx:ev l x=some (.slice (some ⟨g,o,none⟩) n c)) (ht:elOf Γ.P T=some (e,sz,by_,z)) (hz:z.length=sz) (hone:∀ u,u∈z→u.oneCell'=true)
  (hp:Pick (blk g cs e2) M M1) (h1:o+n*sz≤cs.length) (hn:n≠0)
  (hk:L Γ rest l (blk g (cs.take o++(List.replicate n z).flatten++cs.drop (o+n*sz)) e2::M1) K) :
  L Γ ({ dst:=none,op:=.call { callee:=.builtin .clear,args:=#[x],argTypes:=#[T] },type:=ty,pos,after:=af,guard:=none }::rest) l M K :=
 L_val0 (v:=.tuple #[]) rfl rfl (fun a w ha hw=>by
  have hw1:=hw.perm hp.perm
  have hh:w.heap[g]?=some (.cells cs.toArray e2 (0,0)):=hw1.prs (blk g cs e2) (List.mem_cons_self ..)
  have hr:=run_clr (P:=Γ.P) (c:=c) ht hz hone hh h1 hn ty
  exact ⟨_,by simp [execOp,resolve,invoke,builtin,ha.eval hx,hr],setRow_blk hw1⟩) hk
section
variable {τ δ:Type} [GT τ δ]
theorem row_take (xs:List τ) (i:Nat) (t:List Value) (hi:i≤xs.length):(rowCells xs++t).take (i*GT.sz τ)=rowCells (xs.take i):=by
 have h1:rowCells xs=rowCells (xs.take i)++rowCells (xs.drop i):=by rw [← rowCells_append,List.take_append_drop]
 have h2:(rowCells (xs.take i)).length=i*GT.sz τ:=by rw [length_rowCells,List.length_take,Nat.min_eq_left hi]
 rw [h1,List.append_assoc,← h2,List.take_left]
theorem row_drop (xs:List τ) (i:Nat) (t:List Value) (hi:i≤xs.length):(rowCells xs++t).drop (i*GT.sz τ)=rowCells (xs.drop i)++t:=by
 have h1:rowCells xs=rowCells (xs.take i)++rowCells (xs.drop i):=by rw [← rowCells_append,List.take_append_drop]
 have h2:(rowCells (xs.take i)).length=i*GT.sz τ:=by rw [length_rowCells,List.length_take,Nat.min_eq_left hi]
 rw [h1,List.append_assoc,← h2,List.drop_left]
end
end Go.Proofs.SL
namespace Go.Proofs.SL
open Go
theorem RdT.w0 {Γ:Cx} {τ δ:Type} [GT τ δ] {t:τ} (h:RdT Γ [] t):GT.rd Γ.w0 [] t:=h Γ.w0 ⟨fun _ _ _=>rfl,fun _ h=>by cases h⟩
end Go.Proofs.SL
namespace Go.Proofs.SL
open Go
variable {Γ:Cx} {l:Envl} {M M' M1 M2 F:List HP} {Q:Post} {K:Kont} {w0 w:World} {S0:List Nat} {P:Program}
variable {rest:List Oper} {d:Nat} {ty:TypeId} {pos:String} {af:Array Edge}
def RdX {τ δ:Type} [GT τ δ] (Γ:Cx) (M1 M2:List HP) (t:τ):Prop:=∀ w,Holds Γ.w0 Γ.S0 (M1++M2) w→GT.rd w (fps M1) t
section
variable {τ δ:Type} [GT τ δ] {t:τ}
theorem RdX.old (h:GT.rd Γ.w0 Γ.S0 t):RdX Γ M1 M2 t:=fun _ hw=>GT.rd_mono h fun _ _ ho=>ho.carry hw
theorem RdX.tree (h:treeH t∈M2):RdX Γ M1 M2 t:=fun w hw=>by
 have ho:GT.ow w t:=hw.prs (treeH t) (List.mem_append_right _ h)
 refine GT.ow_rd ho fun k hk hk1=>?_
 have hnd:=hw.nodup
 rw [fps_append] at hnd
 exact (List.nodup_append.1 hnd).2.2 k hk1 k (List.mem_flatMap.2 ⟨_,h,hk⟩) rfl
theorem RdX.fst {α β δ ε:Type} [GT α δ] [GT β ε] {t:α×β} (h:RdX Γ M1 M2 t):RdX Γ M1 M2 t.1:=fun w hw=>(h w hw).1
theorem RdX.snd {α β δ ε:Type} [GT α δ] [GT β ε] {t:α×β} (h:RdX Γ M1 M2 t):RdX Γ M1 M2 t.2:=fun w hw=>(h w hw).2
theorem RdX.of {X:TL τ} {j:Nat} {x:τ} (h:RdX Γ M1 M2 X) (hi:X.els[j]?=some x):RdX Γ M1 M2 x:=fun w hw=>(h w hw).2.2.1 x (List.mem_of_getElem? hi)
theorem RdX.pair {α β δ ε:Type} [GT α δ] [GT β ε] {a:α} {b:β} (h1:RdX Γ M1 M2 a) (h2:RdX Γ M1 M2 b):RdX Γ M1 M2 (a,b):=fun w hw=>⟨h1 w hw,h2 w hw⟩
theorem RdX.int {n:Int}:RdX Γ M1 M2 n:=fun _ _=>trivial
theorem RdX.bool {n:Bool}:RdX Γ M1 M2 n:=fun _ _=>trivial
theorem RdX.str {n:ByteArray}:RdX Γ M1 M2 n:=fun _ _=>trivial
theorem RdX.u8 {n:UInt8}:RdX Γ M1 M2 n:=fun _ _=>trivial
theorem nil_rd {w:World} {S:List Nat} (e:TypeId):GT.rd w S (TL.nil τ e):=⟨Nat.le_refl _,by simp [TL.nil,maxLen],fun x hx=>by simp [TL.nil] at hx,fun _=>rfl,fun a ha=>by simp [TL.nil] at ha⟩
theorem RdX.nil (e:TypeId):RdX Γ M1 M2 (TL.nil τ e):=fun _ _=>nil_rd e
theorem RdX.map {α δ':Type} [GT α δ'] {a:α} (f:∀ w S,GT.rd w S a→GT.rd w S t) (h:RdX Γ M1 M2 a):RdX Γ M1 M2 t:=fun w hw=>f w _ (h w hw)
theorem RdT.map {α δ':Type} [GT α δ'] {a:α} (f:∀ w S,GT.rd w S a→GT.rd w S t) (h:RdT Γ M a):RdT Γ M t:=fun w hw=>f w _ (h w hw)
end
def RdO {τ δ:Type} [GT τ δ] (w:World) (S:List Nat) (t:τ):Prop:=GT.rd w S t
section
variable {τ δ:Type} [GT τ δ] {t:τ} {S:List Nat}
theorem RdO.old (h:GT.rd w S t):RdO w S t:=h
theorem RdO.fst {α β δ ε:Type} [GT α δ] [GT β ε] {t:α×β} (h:RdO w S t):RdO w S t.1:=h.1
theorem RdO.snd {α β δ ε:Type} [GT α δ] [GT β ε] {t:α×β} (h:RdO w S t):RdO w S t.2:=h.2
theorem RdO.of {X:TL τ} {j:Nat} {x:τ} (h:RdO w S X) (hi:X.els[j]?=some x):RdO w S x:=h.2.2.1 x (List.mem_of_getElem? hi)
theorem RdO.pair {α β δ ε:Type} [GT α δ] [GT β ε] {a:α} {b:β} (h1:RdO w S a) (h2:RdO w S b):RdO w S (a,b):=⟨h1,h2⟩
theorem RdO.int {n:Int}:RdO w S n:=trivial
theorem RdO.bool {n:Bool}:RdO w S n:=trivial
theorem RdO.str {n:ByteArray}:RdO w S n:=trivial
theorem RdO.u8 {n:UInt8}:RdO w S n:=trivial
theorem RdO.nil (e:TypeId):RdO w S (TL.nil τ e):=nil_rd e
theorem RdO.map {α δ':Type} [GT α δ'] {a:α} (f:∀ w S,GT.rd w S a→GT.rd w S t) (h:RdO w S a):RdO w S t:=f w _ h
end
theorem L_callM {f:Nat} {xs:List Operand} {ats:Array TypeId} {vs:List Value} {R:Value→List HP→Prop} (M1 M2:List HP)
  (hn:Nat.blt d Γ.n=true) (hf:IsFn Γ.P f) (hx:evs l xs=some vs) (hp:List.Perm M (M1++M2)) (hc:∀ w,Holds Γ.w0 Γ.S0 (M1++M2) w→Spec Γ.P f vs.toArray w M1 R)
  (hk:∀ v M',R v M'→L Γ rest ((d,v)::l) (M'++M2) K):L Γ ({ dst:=some d,op:=.call { callee:=.value (.func f),args:=xs.toArray,argTypes:=ats },type:=ty,pos:=pos,after:=af,guard:=none }::rest) l M K :=
 L_call (M1:=M1) (M2:=M2) (R:=R) rfl rfl rfl (Nat.le_of_ble_eq_true hn) hf hx hp hc hk
theorem res0n {P:Program} {fn:Func} {R:Value→List HP→Prop} {M':List HP} (hr:fn.results=#[]) (hR:R (.tuple #[]) M') (hm:MSub M' M):retQ P fn w0 S0 R .normal l M :=
 ⟨.tuple #[],M',fun a w ha hw=>by
  rw [results_eq,hr]
  simp,hR,hm⟩
end Go.Proofs.SL
namespace Go.Proofs.SL
open Go
variable {Γ:Cx} {l:Envl} {M M' M1 M2 F:List HP} {Q:Post} {K:Kont} {w0 w:World} {S0:List Nat} {P:Program}
variable {rest:List Oper} {d:Nat} {ty:TypeId} {pos:String} {af:Array Edge}
section
variable {τ δ:Type} [GT τ δ]
def chkP (b:Bool):Option Unit:=if b then some () else none
theorem chkP_some {b:Bool} {u:Unit} (h:chkP b=some u):b=true:=by
 unfold chkP at h;split at h
 ·assumption
 ·cases h
theorem slcP_some {α:Type} {l r:List α} {a b:Int} (h:slcP l a b=some r):0≤a∧a≤b∧b≤l.length∧r=(l.drop a.toNat).take (b.toNat - a.toNat):=by
 unfold slcP at h;split at h
 ·rename_i hb;cases h;exact ⟨hb.1,hb.2.1,hb.2.2,rfl⟩
 ·cases h
end
end Go.Proofs.SL
namespace Go.Proofs.SL
open Go
variable {Γ:Cx} {l:Envl} {M M' M1 M2 F:List HP} {Q:Post} {K:Kont} {w0 w:World} {S0:List Nat}
variable {rest:List Oper} {d:Nat} {ty:TypeId} {pos:String} {af:Array Edge}
variable {ops:Array Oper} {Msh pool pool':List HP} {E:Fl} {rs:List (Option Nat×Rel)} {cs0:List Nat} {KD:List (Option Nat×Rel)→List Nat→List HP→Prop}
section
variable {τ δ:Type} [GT τ δ]
def AggO (f:Value→Value) (r:List δ):Rel:=fun v M=>∃ X:TL τ,v=f X.hdr∧GT.dat X=r∧M=[treeH X]
def OpVp (E:Fl):List (Nat×Operand)→List (Nat×Value)→Prop
 | [],[]=>True
 | x::xs,v::vs=>(x.1=v.1∧OpV E x.2 True v.2)∧OpVp E xs vs
 | _,_=>False
theorem OpVp.nil:OpVp E [] []:=trivial
theorem OpVp.cons {i:Nat} {x:Operand} {v:Value} {xs:List (Nat×Operand)} {vs:List (Nat×Value)} (h:OpV E x True v) (hs:OpVp E xs vs):OpVp E ((i,x)::xs) ((i,v)::vs):=⟨⟨rfl,h⟩,hs⟩
theorem OpVp.evals {a:Act} {F:List HP} {o:Oper} (hf:Facts E (o.looksAt ops) F a):∀ (xs:List (Nat×Operand)) (vs:List (Nat×Value)),OpVp E xs vs→(∀ x,x∈xs→x.2∈o.op.operands.toList)→xs.map (fun p=>(p.1,a.eval p.2))=vs
 | [],[],_,_=>rfl
 | x::xs,v::vs,h,hm=>by
  rw [List.map_cons,h.1.2.eval hf (hm x (by simp)) trivial,OpVp.evals hf xs vs h.2 (fun y hy=>hm y (List.mem_cons_of_mem _ hy)),h.1.1]
 | [],_::_,h,_=>h.elim
 | _::_,[],h,_=>h.elim
theorem D_buildO {T:TypeId} {t:Nat} {xs:List (Nat×Operand)} {ps:Value→List (Nat×Value)} {pl:List (Nat×Nat)} {z:List Value} {cs:Value→List Value} {r:List δ}
  (hR:E.lookup t=some (OwnV (τ:=τ) r)) (hx:∀ u,OpVp ((t,FC True u)::dropE [t] E) xs (ps u)) (ht:bldOf Γ.P T=some (pl,z)) (hf:∀ X:TL τ,fillL (pl[·]?) z (ps X.hdr)=some (cs X.hdr))
  (hlin:linB ops { dst:=some d,op:=.build T xs.toArray,type:=ty,pos:=pos,after:=af,guard:=none } [t]=true)
  (hk:DV Γ ops Msh pool ((d,AggO (τ:=τ) (fun u=>.agg (cs u).toArray) r)::dropE [t] E) ((some d,AggO (τ:=τ) (fun u=>.agg (cs u).toArray) r)::rs) ([t]++cs0) rest KD) :
  DV Γ ops Msh pool E rs cs0 ({ dst:=some d,op:=.build T xs.toArray,type:=ty,pos:=pos,after:=af,guard:=none }::rest) KD:=by
 refine DV.mk (AggO (τ:=τ) (fun u=>.agg (cs u).toArray) r) [] pool ([t]) (by simp) hlin ?_ hk
 intro a w F Mk _ _ hw hm hfa hcf
 obtain ⟨Mx,Mk',rfl,hRR,hnil⟩:=hcf
 have hnil:Mk'=[]:=hnil
 subst hnil
 obtain ⟨X,hv,hd,rfl⟩:=hRR _ hR
 rw [if_pos (by simp [Region.wanted])]
 have hf2:Facts ((t,FC True X.hdr)::dropE [t] E) (Oper.looksAt ops { dst:=some d,op:=.build T xs.toArray,type:=ty,pos:=pos,after:=af,guard:=none }) F a:=by
  intro t' R' h1 h2
  rw [List.lookup_cons] at h2
  cases hb:t' == t with
  | true =>
   rw [hb] at h2
   cases h2
   have:t'=t:=by simpa using hb
   subst this
   exact ⟨[],⟨rfl,fun _=>hv,fun hn=>(hn trivial).elim⟩,fun _ h=>by cases h⟩
  | false=>rw [hb] at h2;exact hfa t' R' h1 h2
 have h1:xs.toArray.map (fun (i,x)=>(i,a.eval x))=(ps X.hdr).toArray:=by
  have:=OpVp.evals (o:={ dst:=some d,op:=.build T xs.toArray,type:=ty,pos:=pos,after:=af,guard:=none }) hf2 xs (ps X.hdr) (hx X.hdr) (fun x hx=>by simp [Op.operands];exact ⟨_,hx⟩)
  rw [← this];simp
 have h3:(execOp a.eval { dst:=some d,op:=.build T xs.toArray,type:=ty,pos:=pos,after:=af,guard:=none }).run Γ.P w=.ok (.value (.agg (cs X.hdr).toArray)) w:=by
  simp only [execOp,h1]
  simp [run_build ht (hf X)]
 rw [h3]
 exact ⟨[treeH X],⟨X,rfl,hd,rfl⟩,by simpa using hw⟩
end
end Go.Proofs.SL
namespace Go.Proofs.SL
open Go
variable {M M1:List HP} {w0 w:World} {S0:List Nat}
end Go.Proofs.SL
namespace Go.Proofs.SL
open Go
end Go.Proofs.SL
namespace Go.Proofs.SL
open Go
variable {Γ:Cx} {l:Envl} {M M' M1 M2 F:List HP} {Q:Post} {K:Kont} {w0 w:World} {S0:List Nat} {P:Program}
variable {rest:List Oper} {d:Nat} {ty:TypeId} {pos:String} {af:Array Edge}
section
variable {τ δ:Type} [GT τ δ]
theorem L_slcE {x:Operand} {lo hi:Option Operand} {T e sz by_:Nat} {z:List Value} {X:TL τ} {a b:Int} {r:List δ} (hn:Nat.blt d Γ.n=true) (hx:ev l x=some X.hdr) (hlo:optI l lo 0=some a) (hhi:optI l hi ((GT.dat X).length:Int)=some b)
  (ht:elOf Γ.P T=some (e,sz,by_,z)) (hsz:GT.sz τ=sz) (hR:RdT Γ M X) (hr:slcP (GT.dat X) a b=some r)
  (hk:∀ X':TL τ,GT.dat X'=r→X'=slc X a.toNat b.toNat→L Γ rest ((d,X'.hdr)::l) M K) :
  L Γ ({ dst:=some d,op:=.slice T x lo hi none,type:=ty,pos:=pos,after:=af,guard:=none }::rest) l M K:=by
 unfold slcP at hr
 split at hr
 ·rename_i hb
  cases hr
  rw [dat_els,List.length_map] at hb hhi
  obtain ⟨h0,h1,h2⟩:=hb
  have h1':a.toNat≤b.toNat:=by omega
  have h2':b.toNat≤X.els.length:=by omega
  refine L_pure hn (v:=(slc X a.toNat b.toNat).hdr) (fun a' w ha hw=>?_) (hk (slc X a.toNat b.toNat) (by rw [dat_els,dat_els];simp [slc,List.map_take,List.map_drop]) rfl)
  have hcap:X.els.length≤X.cap:=(hR w hw.sees).1
  unfold elOf at ht
  split at ht<;>(try cases ht)
  rename_i e' het
  split at ht<;>(try cases ht)
  rename_i i' hi'
  split at ht<;>cases ht
  have hlen:((X.els.drop a.toNat).take (b.toNat - a.toNat)).length=b.toNat - a.toNat:=by simp;omega
  have hv:(slc X a.toNat b.toNat).hdr=.slice (if X.cap=a.toNat then X.a else X.a.map (·.add (a.toNat*i'.size))) (b.toNat - a.toNat) (X.cap - a.toNat):=by
   show Value.slice _ ((X.els.drop a.toNat).take (b.toNat - a.toNat)).length _=_
   rw [hlen];simp only [slc,hsz]
  rw [hv]
  have e1:a'.eval x=.slice X.a X.els.length X.cap:=ha.eval hx
  cases lo with
  | none =>
   cases hlo
   cases hi with
   | none =>
    cases hhi
    simp only [execOp,Option.map_none,e1,Instr.sliceAt,Instr.slice,underlying,Sem.run_bind,run_program,Result.andThen_ok,het,Instr.sliceBounds,Sem.run_pure,sizeOf,typeInfo,hi']
    simp
   | some o =>
    obtain ⟨k,h5⟩:=optI_some hhi
    have e2:=ha.eval h5
    have e4:=fun w=>run_sliceBound (P:=Γ.P) (k:=k) (code:=.sliceAcap) (show 0≤b by omega) (show b≤((X.cap:Nat):Int) by omega) w
    simp [execOp,e1,e2,Instr.sliceAt,Instr.slice,underlying,het,Instr.sliceBounds,sizeOf,typeInfo,hi',e4]
  | some o1 =>
   obtain ⟨k1,h6⟩:=optI_some hlo
   have e3:=ha.eval h6
   cases hi with
   | none =>
    cases hhi
    have e4:=fun w=>run_sliceBound (P:=Γ.P) (k:=k1) (code:=.sliceB) h0 (show a≤((X.els.length:Nat):Int) by omega) w
    simp [execOp,e1,e3,Instr.sliceAt,Instr.slice,underlying,het,Instr.sliceBounds,sizeOf,typeInfo,hi',e4]
   | some o =>
    obtain ⟨k,h5⟩:=optI_some hhi
    have e2:=ha.eval h5
    have e4:=fun w=>run_sliceBound (P:=Γ.P) (k:=k) (code:=.sliceAcap) (show 0≤b by omega) (show b≤((X.cap:Nat):Int) by omega) w
    have e5:=fun w=>run_sliceBound (P:=Γ.P) (k:=k1) (code:=.sliceB) h0 (show a≤((b.toNat:Nat):Int) by omega) w
    simp [execOp,e1,e2,e3,Instr.sliceAt,Instr.slice,underlying,het,Instr.sliceBounds,sizeOf,typeInfo,hi',e4,e5]
 ·cases hr
def trunc (X:TL τ) (b:Nat):TL τ:=⟨X.a,X.cap,X.e,X.els.take b,rowCells (X.els.drop b)++X.tail⟩
theorem trunc_own {X:TL τ} {b:Nat} (hb:b≤X.els.length) (p:Pick (treeH X) M M1) (h:Holds w0 S0 M w):Holds w0 S0 (treeH (trunc X b)::M1) w:=by
 have h1:=tree_row (h.perm p.perm)
 have h2:Holds w0 S0 (elsT (X.els.take b)::rowH X::M1) w:=els_sub (zs:=X.els.drop b) (List.Perm.of_eq (List.take_append_drop b X.els).symm) (by apply Pick.there;exact Pick.here _) h1
 have h3:=h2.perm (List.Perm.swap _ _ _)
 refine row_tree ?_
 show Holds w0 S0 (rowH (trunc X b)::elsT (X.els.take b)::M1) w
 refine h3.reFp (List.Perm.of_eq rfl) fun x hx=>?_
 rcases List.mem_cons.1 hx with rfl | hx
 ·obtain ⟨r1,r2,r3,r4⟩:=h3.prs (rowH X) (List.mem_cons_self ..)
  have hl:(X.els.take b).length=b:=by rw [List.length_take,Nat.min_eq_left hb]
  refine ⟨by show (X.els.take b).length≤X.cap;omega,r2,fun ha=>⟨by show X.els.take b=[];rw [(r3 ha).1];simp,(r3 ha).2⟩,fun a ha=>?_⟩
  obtain ⟨g1,g2,g3,g4⟩:=r4 a ha
  refine ⟨g1,g2,?_,?_⟩
  ·show w.heap[a.block]?=some (.cells (rowCells (X.els.take b)++(rowCells (X.els.drop b)++X.tail)).toArray X.e (0,0))
   rw [← List.append_assoc,← rowCells_append,List.take_append_drop];exact g3
  ·show (X.els.take b).length*GT.sz τ+(rowCells (X.els.drop b)++X.tail).length=X.cap*GT.sz τ
   rw [List.length_append,length_rowCells,List.length_drop,hl,← g4,← Nat.add_assoc,← Nat.add_mul]
   congr 2;omega
 ·exact h3.prs _ (List.mem_cons_of_mem _ hx)
theorem trunc_hdr {X Y:TL τ} {a b:Nat} (he:Y=slc X a b) (ha:a=0) (hb:b≤X.els.length):(trunc X b).hdr=Y.hdr:=by
 subst ha;subst he
 show Value.slice X.a (X.els.take b).length X.cap=Value.slice (if X.cap=0 then X.a else X.a.map (·.add (0*GT.sz τ))) ((X.els.drop 0).take (b - 0)).length (X.cap - 0)
 have h2:X.a.map (fun q:Addr=>q.add (0*GT.sz τ))=X.a:=by
  cases X.a with
  | none=>rfl
  | some q=>simp [Addr.add]
 rw [h2];simp
theorem W_trunc {c:Code} {X Y:TL τ} {a b:Int} {r':List δ} {u:Unit} (he:Y=slc X a.toNat b.toNat) (hsl:slcP (GT.dat X) a b=some r') (h0:chkP (decide (a=0))=some u) (p:Pick (treeH X) M M1)
  (hk:∀ Z:TL τ,GT.dat Z=GT.dat Y→Z.hdr=Y.hdr→W Γ c l (treeH Z::M1) Q):W Γ c l M Q:=by
 obtain ⟨s0,s1,s2,-⟩:=slcP_some hsl
 rw [dat_els,List.length_map] at s2
 have h0:a=0:=of_decide_eq_true (chkP_some h0)
 refine W_conv (fun w h=>trunc_own (b:=b.toNat) (by omega) p h) (hk _ ?_ (trunc_hdr he (by omega) (by omega)))
 rw [he,h0,dat_els,dat_els]
 simp [trunc,slc]
def clrD {δ:Type} (l:List δ) (a b:Int) (z:δ):List δ:=l.take a.toNat++(List.replicate (b.toNat - a.toNat) z++l.drop b.toNat)
theorem rowCells_rep (n:Nat) (z0:τ):rowCells (List.replicate n z0)=(List.replicate n (GT.cells z0)).flatten:=by
 induction n with
 | zero=>rfl
 | succ n ih=>rw [List.replicate_succ,rowCells_cons,ih,List.replicate_succ,List.flatten_cons]
theorem L_clrV [FlatT τ] {x:Operand} {T e sz by_:Nat} {z:List Value} {X Y:TL τ} {a b:Int} {r' r:List δ} {u:Unit} (z0:τ) (hx:ev l x=some Y.hdr) (ht:elOf Γ.P T=some (e,sz,by_,z)) (hz:z.length=sz) (hsz:GT.sz τ=sz) (hz0:GT.cells z0=z)
  (p:Pick (treeH X) M M1) (he:Y=slc X a.toNat b.toNat) (hsl:slcP (GT.dat X) a b=some r') (hc:chkP (decide (a < b))=some u) (hr:some (clrD (GT.dat X) a b (GT.dat z0))=some r)
  (hk:∀ X':TL τ,GT.dat X'=r→X'.hdr=X.hdr→L Γ rest l (treeH X'::M1) K) :
  L Γ ({ dst:=none,op:=.call { callee:=.builtin .clear,args:=#[x],argTypes:=#[T] },type:=ty,pos,after:=af,guard:=none }::rest) l M K:=by
 have hab:a < b:=of_decide_eq_true (chkP_some hc)
 obtain ⟨s0,s1,s2,-⟩:=slcP_some hsl
 rw [dat_els,List.length_map] at s2
 have hne:X.els≠[]:=fun h=>by rw [h] at s2;simp at s2;omega
 subst hsz
 refine L_fact (φ:=X.a=some ⟨X.g,0,none⟩∧X.els.length≤X.cap∧X.cap≤maxLen∧X.els.length*GT.sz τ+X.tail.length=X.cap*GT.sz τ)
  (fun w h=>by obtain ⟨f1,f2,f3,f4,_⟩:=raw_facts ((h.perm p.perm).prs (treeH X) (List.mem_cons_self ..)) hne;exact ⟨f1,f2,f3,f4⟩) (fun ⟨f1,f2,f3,f4⟩=>?_)
 refine L_conv (fun w h=>raw_open hne p h) ?_
 have hyh:Y.hdr=.slice (some ⟨X.g,a.toNat*GT.sz τ,none⟩) (b.toNat - a.toNat) (X.cap - a.toNat):=by
  subst he
  show Value.slice (if X.cap=a.toNat then X.a else X.a.map (·.add (a.toNat*GT.sz τ))) ((X.els.drop a.toNat).take (b.toNat - a.toNat)).length (X.cap - a.toNat)=_
  rw [if_neg (by omega),f1,List.length_take,List.length_drop,Nat.min_eq_left (by omega)]
  simp [addr_add]
 rw [hyh] at hx
 have hcl:(rowCells X.els++X.tail).length=X.cap*GT.sz τ:=by rw [List.length_append,length_rowCells];exact f4
 have hseg:a.toNat*GT.sz τ+(b.toNat - a.toNat)*GT.sz τ=b.toNat*GT.sz τ:=by rw [← Nat.add_mul];congr 1;omega
 refine L_clrRaw hx ht hz (fun u hu=>by rw [← hz0] at hu;exact GT.one z0 u hu) (.here _) (by rw [hcl,hseg];exact Nat.mul_le_mul_right _ (by omega)) (by omega) ?_
 generalize hels:X.els.take a.toNat++(List.replicate (b.toNat - a.toNat) z0++X.els.drop b.toNat)=els'
 have hlen:els'.length=X.els.length:=by
  rw [← hels];simp only [List.length_append,List.length_take,List.length_replicate,List.length_drop];omega
 have hcs:(rowCells X.els++X.tail).take (a.toNat*GT.sz τ)++(List.replicate (b.toNat - a.toNat) z).flatten++(rowCells X.els++X.tail).drop (a.toNat*GT.sz τ+(b.toNat - a.toNat)*GT.sz τ)=rowCells els'++X.tail:=by
  rw [hseg,row_take _ _ _ (by omega),row_drop _ _ _ (by omega),← hels,rowCells_append,rowCells_append,rowCells_rep,hz0]
  simp only [List.append_assoc]
 rw [hcs]
 refine L_conv (M':=treeH (⟨some ⟨X.g,0,none⟩,X.cap,X.e,els',X.tail⟩:TL τ)::M1) (fun w h=>?_) (hk _ ?_ ?_)
 ·have h2:Holds Γ.w0 Γ.S0 (blk X.g (rowCells els'++X.tail) X.e::M1) w:=h.sub ⟨[elsT X.els],(List.perm_append_comm (l₁:=[elsT X.els]) (l₂:=M1)).cons _⟩
  have h3:=elsT_flat (xs:=els') h2 (fun x _=>FlatT.flat x)
  exact raw_close rfl (by omega) f3 (by rw [hlen];exact f4) (by apply Pick.there;exact Pick.here _) (.here _) h3
 ·have:=Option.some.inj hr
  rw [← this,dat_els,dat_els,← hels]
  simp [clrD,List.map_take,List.map_drop]
 ·show Value.slice (some ⟨X.g,0,none⟩) els'.length X.cap=Value.slice X.a X.els.length X.cap
  rw [hlen,f1]
end
end Go.Proofs.SL
namespace Go.Proofs.SL
open Go
variable {Γ:Cx} {ops:Array Oper} {Msh pool pool':List HP} {E:Fl} {rs:List (Option Nat×Rel)} {rest:List Oper} {KD:RKont} {cs0:List Nat}
variable {d:Nat} {ty:TypeId} {pos:String} {af:Array Edge}
variable {gd:Option (Nat×Bool)}
end Go.Proofs.SL
namespace Go.Proofs.SL
open Go
section
variable {τ δ κ:Type} [GT τ δ]
variable [Inhabited κ]
theorem put_cells (enc:κ→Value) (ds:List κ) (a b:List Value) (h:a.length=ds.length):Sort.putCells enc 0 ds.toArray (a++b).toArray=(ds.map enc++b).toArray:=by
 apply Array.ext_getElem?
 intro j
 simp only [Sort.putCells,Array.getElem?_mapIdx,List.getElem?_toArray,List.size_toArray,Nat.zero_add,Nat.zero_le,true_and,Nat.sub_zero]
 rcases Nat.lt_or_ge j ds.length with hj | hj
 ·rw [List.getElem?_append_left (by omega),List.getElem?_append_left (by simpa using hj),List.getElem?_eq_getElem (show j < a.length by omega)]
  simp [hj,List.getElem?_map]
 ·rw [List.getElem?_append_right (by omega),List.getElem?_append_right (by simpa using hj),List.length_map,h]
  cases b[j - ds.length]? with
  | none=>rfl
  | some v=>simp [Nat.not_lt.2 hj]
theorem own_cases {w:World} {a0:TL τ} (hh:Holds w (fps [treeH a0]) [treeH a0] w):(∃ e tail,a0=⟨none,0,e,[],tail⟩)∨∃ b cap e els tail,a0=⟨some ⟨b,0,none⟩,cap,e,els,tail⟩∧els.length≤cap∧els.length*GT.sz τ+tail.length=cap*GT.sz τ∧w.heap[b]?=some (.cells (rowCells els++tail).toArray e (0,0))∧b < w.heap.size:=by
 have ht:GT.ow w a0:=hh.prs _ (List.mem_cons_self ..)
 obtain ⟨h1,h2,h3,h4,h5⟩:=ht
 obtain ⟨a,cap,e,els,tail⟩:=a0
 dsimp only at h1 h2 h3 h4 h5
 cases a with
 | none =>
  obtain ⟨rfl,rfl⟩:=h4 rfl
  exact .inl ⟨e,tail,rfl⟩
 | some ad =>
  obtain ⟨hs,ho,hb,hl⟩:=h5 ad rfl
  obtain ⟨b,o,sp⟩:=ad
  dsimp only at hs ho hb
  subst hs;subst ho
  exact .inr ⟨b,cap,e,els,tail,rfl,h1,hl,hb,(Array.getElem?_eq_some_iff.1 hb).1⟩
end
end Go.Proofs.SL
namespace Go.Proofs.SL
open Go
def eqShape (P:Program) (T:TypeId):Option (List (TypeId×Nat)):=match P.underlying T with
 | some (.struct fs)=>if P.stoodInHeld T||P.eqGuardType P.depth T then none else some ((fs.toList.filter fun f=>decide (f.name≠"_")).map fun f=>(f.type,f.offset))
 | _=>none
inductive EqS (P:Program) (d:Nat) (xs ys:Array Value):List (TypeId×Nat)→Bool→Prop
 | nil:EqS P d xs ys [] true
 | cons {t:TypeId} {o:Nat} {a b:Value} {r r':Bool} {fs:List (TypeId×Nat)} (ht:oneOf P t=true) (ha:xs[o]?=some a) (hb:ys[o]?=some b) (he:∀ w,(Op.equalIn d t a b).run P w=.ok r w) (hs:EqS P d xs ys fs r'):EqS P d xs ys ((t,o)::fs) (r&&r')
theorem run_part_one {P:Program} {T:TypeId} (h:oneOf P T=true) {xs:Array Value} {o:Nat} {v:Value} (hx:xs[o]?=some v) (w:World):(part T xs o).run P w=.ok v w:=by
 simp [part,run_isAgg_one h,hx]
theorem run_eqS {P:Program} {d:Nat} {xs ys:Array Value}:∀ {fs:List Field} {r:Bool},EqS P d xs ys ((fs.filter fun f=>decide (f.name≠"_")).map fun f=>(f.type,f.offset)) r→∀ w,(Op.eqFields d xs ys fs).run P w=.ok r w
 | [],r,h,w=>by cases h;simp [Op.eqFields]
 | f::fs,r,h,w=>by
  unfold Op.eqFields
  by_cases hn:f.name≠"_"
  ·rw [List.filter_cons,if_pos (by simp [hn])] at h
   rw [if_pos hn]
   cases h with
   | cons ht ha hb he hs =>
    rename_i a b r r'
    simp only [Sem.run_bind,run_part_one ht ha,run_part_one ht hb,Result.andThen_ok,he]
    cases r
    ·simp
    ·simp only [Bool.not_true,Bool.false_eq_true,if_false,Bool.true_and]
     exact run_eqS hs w
  ·rw [List.filter_cons,if_neg (by simpa using hn)] at h
   rw [if_neg hn]
   exact run_eqS h w
theorem eqShape_some {P:Program} {T:TypeId} {sh:List (TypeId×Nat)} (h:eqShape P T=some sh):P.underlying T=some (.struct (P.fieldsOf T))∧P.stoodInHeld T=false∧P.eqGuardType P.depth T=false∧sh=((P.fieldsOf T).toList.filter fun f=>decide (f.name≠"_")).map fun f=>(f.type,f.offset):=by
 unfold eqShape at h
 split at h
 ·rename_i fs hu
  have hf:P.fieldsOf T=fs:=by unfold Program.fieldsOf;rw [hu]
  split at h
  ·cases h
  ·rename_i hn
   simp only [Bool.or_eq_true,not_or,Bool.not_eq_true] at hn
   exact ⟨by rw [hf];exact hu,hn.1,hn.2,by rw [hf];exact (Option.some.inj h).symm⟩
 ·cases h
theorem bv_aeql {P:Program} {T:TypeId} {x y:Operand} {xs ys:Array Value} {sh:List (TypeId×Nat)} {r:Bool} (h:eqShape P T=some sh) (he:EqS P 9999 xs ys sh r):BinV P .eql T x y (.agg xs) (.agg ys) (.bool r):=fun w=>by
 obtain ⟨h1,h2,h3,rfl⟩:=eqShape_some h
 simp only [Sem.run_bind,run_eqGuard_agg w _ _ _ _ _ _ h3,Result.andThen_ok,run_eql_struct]
 rw [show (10000:Nat)=9999+1 from rfl,run_equalIn_struct w 9999 T xs ys h1 h2,run_eqS he w];rfl
theorem bv_aneq {P:Program} {T:TypeId} {x y:Operand} {xs ys:Array Value} {sh:List (TypeId×Nat)} {r:Bool} (h:eqShape P T=some sh) (he:EqS P 9999 xs ys sh r):BinV P .neq T x y (.agg xs) (.agg ys) (.bool (!r)):=fun w=>by
 obtain ⟨h1,h2,h3,rfl⟩:=eqShape_some h
 simp only [Sem.run_bind,run_eqGuard_agg w _ _ _ _ _ _ h3,Result.andThen_ok,run_neq_struct]
 rw [show (10000:Nat)=9999+1 from rfl,run_equalIn_struct w 9999 T xs ys h1 h2,run_eqS he w];rfl
theorem EqS.consI {P:Program} {d:Nat} {xs ys:Array Value} {t:TypeId} {o:Nat} {k:IntKind} {a b:Int} {r':Bool} {fs:List (TypeId×Nat)} {k':IntKind} (ht:oneOf P t=true) (hu:P.underlying t=some (.int k')) (ha:xs[o]?=some (.int k a)) (hb:ys[o]?=some (.int k b)) (hs:EqS P (d+1) xs ys fs r'):EqS P (d+1) xs ys ((t,o)::fs) (decide (a=b)&&r') :=
 EqS.cons ht ha hb (fun w=>run_equalIn_int w d t k k' a b hu) hs
end Go.Proofs.SL
namespace Go.Proofs.SL
open Go
section
variable {Γ:Cx} {l:Envl} {M:List HP} {K:Kont} {w0 w:World} {S0:List Nat}
variable {rest:List Oper} {d:Nat} {ty:TypeId} {pos:String} {af:Array Edge}
theorem L_storeA {x y:Operand} {T b fo:Nat} {T':TypeId} {cs cs' r:List Value} {M':List HP} (hx:ev l x=some (.pointer (some ⟨b,fo,none⟩))) (hy:ev l y=some (.agg cs'.toArray)) (hp:Pick (blk b cs T') M M')
  (ht:aggOf Γ.P T=some cs'.length) (hl:fo+cs'.length≤cs.length) (h1:∀ v,v∈cs'→v.oneCell'=true) (hr:cs.take fo++cs'++cs.drop (fo+cs'.length)=r) (hk:L Γ rest l (blk b r T'::M') K) :
  L Γ ({ dst:=none,op:=.store T x y,type:=ty,pos,after:=af,guard:=none }::rest) l M K :=
 L_skip rfl rfl (fun a w ha hw=>by
  subst hr
  have hw':=hw.perm hp.perm
  have hh:w.heap[b]?=some (.cells cs.toArray T' (0,0)):=hw'.prs (blk b cs T') (by simp)
  have hs:=run_store_blk (P:=Γ.P) (fo:=fo) (vs:=cs') (ty:=T) hh hl h1
  refine ⟨_,?_,setRow_blk (cs':=cs.take fo++cs'++cs.drop (fo+cs'.length)) hw'⟩
  simp [execOp,ha.eval hx,ha.eval hy,Instr.storeAt,Instr.sureAddr,storeVar,run_isAgg_agg ht,Value.cells,hs]) hk
end
section
variable {Γ:Cx} {rest:List Oper} {d:Nat} {ty:TypeId} {pos:String} {af:Array Edge}
variable {ops:Array Oper} {Msh pool:List HP} {E:Fl} {rs:List (Option Nat×Rel)} {cs0:List Nat} {KD:List (Option Nat×Rel)→List Nat→List HP→Prop}
def PtrNew (z:List Value) (T:TypeId):Rel:=fun v M=>∃ b,v=.pointer (some ⟨b,0,none⟩)∧M=[blk b z T]
theorem D_alloc {T:TypeId} {z:List Value} (hz:zeroOf Γ.P T=some z)
  (hk:DV Γ ops Msh pool ((d,PtrNew z T)::E) ((some d,PtrNew z T)::rs) cs0 rest KD) :
  DV Γ ops Msh pool E rs cs0 ({ dst:=some d,op:=.alloc T,type:=ty,pos:=pos,after:=af,guard:=none }::rest) KD:=by
 refine DV.mk (PtrNew z T) [] pool [] (by simp) rfl ?_ (by rw [dropE_nil];exact hk)
 intro a w F Mk _ _ hw hm hfa hcf
 have hMk:Mk=[]:=hcf
 subst hMk
 rw [dropE_nil] at hfa
 simp only [List.nil_append] at hw ⊢
 rw [if_pos (by simp [Region.wanted])]
 have h1:(execOp a.eval { dst:=some d,op:=.alloc T,type:=ty,pos:=pos,after:=af,guard:=none }).run Γ.P w=.ok (.value (.pointer (some ⟨w.heap.size,0,none⟩))) (w.alloc (.cells z.toArray T (0,0))):=by
  unfold zeroOf at hz
  split at hz<;>(try cases hz)
  rename_i i hi
  split at hz<;>cases hz
  rename_i z' hz'
  simp [execOp,Instr.alloc,zeroValue,typeInfo,hi,hz',newVar,newRow]
 rw [h1]
 exact ⟨[blk w.heap.size z T],⟨_,rfl,rfl⟩,Holds.new (show Holds Γ.w0 Γ.S0 F w by simpa using hw) rfl⟩
end
theorem eqB_nf {α:Type} {a b:α}:((!eqB a b)=false)↔a=b:=by
 cases h:eqB a b with
 | true=>simp [eqB_true.1 h]
 | false=>simp [eqB_false.1 h]
theorem eqB_nt {α:Type} {a b:α}:((!eqB a b)=true)↔¬ a=b:=by
 cases h:eqB a b with
 | true=>simp [eqB_true.1 h]
 | false=>simp [eqB_false.1 h]
end Go.Proofs.SL
namespace Go.Proofs.SL
open Go
instance:Mk Bool:=⟨fun _=>1,fun k _=>decide (((k:Int)).tmod 3=0)⟩
instance:Bm Bool:=⟨1,fun x=>by show 1≤1*(1+0);omega⟩
theorem mk_bool (k:Nat) (a:Bool):Mk.mkd k a=decide (((k:Int)).tmod 3=0):=rfl
theorem cnt_bool (a:Bool):Mk.cnt a=1:=rfl
end Go.Proofs.SL
namespace Go.Proofs.SL
open Go
variable {Γ:Cx} {l:Envl} {M M1:List HP} {K:Kont} {w0 w:World} {S0:List Nat}
variable {rest:List Oper} {d:Nat} {ty:TypeId} {pos:String} {af:Array Edge}
section
variable {τ δ:Type} [GT τ δ]
end
end Go.Proofs.SL
namespace Go.Proofs.SL
open Go
section
variable {Γ:Cx} {rest:List Oper} {d:Nat} {ty:TypeId} {pos:String} {af:Array Edge} {gd:Option (Nat×Bool)}
variable {ops:Array Oper} {Msh pool:List HP} {E:Fl} {rs:List (Option Nat×Rel)} {cs0:List Nat} {KD:List (Option Nat×Rel)→List Nat→List HP→Prop}
end
end Go.Proofs.SL
namespace Go.Proofs.SL
open Go
structure AR where
 l:List Int
instance:GT AR (List Int) where
 sz:=1
 pos:=by decide
 cells _:=[.int .i64 0]
 len _:=rfl
 one _ v hv:=by simp at hv;subst hv;rfl
 rd _ _ _:=True
 fp _:=[]
 ow _ _:=True
 dat t:=t.l
 rd_mono h _:=h
 ow_st _ h:=h
 ow_rd _ _:=trivial
theorem dat_ar (x:AR):GT.dat x=x.l:=rfl
def aC (k:IntKind) (l:List Int):List Value:=l.map (Value.int k)
variable {Γ:Cx} {l:Envl} {M:List HP} {K:Kont} {w0 w:World} {S0:List Nat} {rest:List Oper} {d:Nat} {ty:TypeId} {pos:String} {af:Array Edge}
section
variable {k:IntKind} {A A':List Int}
end
structure GA (g:Nat) (k:IntKind) (A:List Int) where mk ::
instance (g:Nat) (k:IntKind) (A:List Int):GT (GA g k A) Unit where
 sz:=1
 pos:=by decide
 cells _:=[.int .i64 0]
 len _:=rfl
 one _ v hv:=by simp at hv;subst hv;rfl
 rd w S _:=∀ j v,(aC k A)[j]?=some v→Old w S ⟨g,j,none⟩ v
 fp _:=[]
 ow _ _:=False
 dat _:=()
 rd_mono h hm:=fun j v hv=>hm _ _ (h j v hv)
 ow_st _ h:=h
 ow_rd h _:=h.elim
variable {ops:Array Oper} {Msh pool:List HP} {E:Fl} {rs:List (Option Nat×Rel)} {cs0:List Nat} {KD:List (Option Nat×Rel)→List Nat→List HP→Prop} {gd:Option (Nat×Bool)}
section
variable {k:IntKind} {A A':List Int} {c:Prop}
end
end Go.Proofs.SL
namespace Go.Proofs.SL
open Go
variable {Γ:Cx} {rest:List Oper} {d:Nat} {ty:TypeId} {pos:String} {af:Array Edge}
variable {ops:Array Oper} {Msh pool:List HP} {E:Fl} {rs:List (Option Nat×Rel)} {cs0:List Nat} {KD:List (Option Nat×Rel)→List Nat→List HP→Prop}
end Go.Proofs.SL
namespace Go.Proofs.SL
open Go
variable {Γ:Cx} {rest:List Oper} {d:Nat} {ty:TypeId} {pos:String} {af:Array Edge}
variable {ops:Array Oper} {Msh pool pool':List HP} {E:Fl} {rs:List (Option Nat×Rel)} {cs0:List Nat} {KD:List (Option Nat×Rel)→List Nat→List HP→Prop}
variable {τ δ:Type} [GT τ δ]
end Go.Proofs.SL
namespace Go.Proofs.SL
open Go
variable {Γ:Cx} {rest:List Oper} {d:Nat} {ty:TypeId} {pos:String} {af:Array Edge} {l:Envl} {M:List HP} {K:Kont}
end Go.Proofs.SL
namespace Go.Proofs.SL
open Go
variable {Γ:Cx} {rest:List Oper} {d:Nat} {ty:TypeId} {pos:String} {af:Array Edge} {gd:Option (Nat×Bool)}
variable {ops:Array Oper} {Msh pool:List HP} {E:Fl} {rs:List (Option Nat×Rel)} {cs0:List Nat} {KD:RKont}
end Go.Proofs.SL
namespace Go.Proofs.SL
open Go
section
variable {Γ:Cx} {rest:List Oper} {d:Nat} {ty:TypeId} {pos:String} {af:Array Edge}
variable {ops:Array Oper} {Msh pool:List HP} {E:Fl} {rs:List (Option Nat×Rel)} {cs0:List Nat} {KD:RKont}
end
section
variable {Γ:Cx} {rest:List Oper} {d:Nat} {ty:TypeId} {pos:String} {af:Array Edge} {gd:Option (Nat×Bool)}
variable {ops:Array Oper} {Msh pool:List HP} {E:Fl} {rs:List (Option Nat×Rel)} {cs0:List Nat} {KD:RKont}
end
end Go.Proofs.SL
namespace Go.Proofs.SL
open Go
section
variable {Γ:Cx} {l:Envl} {M M1 M2 F:List HP} {Q:Post} {K:Kont} {w0 w:World} {S0:List Nat}
variable {rest:List Oper} {d:Nat} {ty:TypeId} {pos:String} {af:Array Edge}
variable {τ δ:Type} [GT τ δ]
end
section
variable {Γ:Cx} {rest:List Oper} {d:Nat} {ty:TypeId} {pos:String} {af:Array Edge}
variable {ops:Array Oper} {Msh pool pool':List HP} {E:Fl} {rs:List (Option Nat×Rel)} {cs0:List Nat} {KD:RKont}
variable {τ τ' δ δ':Type} [GT τ δ] [GT τ' δ']
end
section
variable {Γ:Cx} {rest:List Oper} {d:Nat} {ty:TypeId} {pos:String} {af:Array Edge}
variable {ops:Array Oper} {Msh pool pool':List HP} {E:Fl} {rs:List (Option Nat×Rel)} {cs0:List Nat} {KD:RKont}
variable {τ δ:Type} [GT τ δ]
end
section
variable {Γ:Cx} {rest:List Oper} {d:Nat} {ty:TypeId} {pos:String} {af:Array Edge} {gd:Option (Nat×Bool)}
variable {ops:Array Oper} {Msh pool pool':List HP} {E:Fl} {rs:List (Option Nat×Rel)} {cs0:List Nat} {KD:RKont}
def gm {α:Type} (g:Bool) (d:α) (o:Option α):Option α:=cond g o (some d)
@[simp] theorem gm_true {α:Type} {d:α} {o:Option α}:gm true d o=o:=rfl
@[simp] theorem gm_false {α:Type} {d:α} {o:Option α}:gm false d o=some d:=rfl
end
section
variable {Γ:Cx} {rest:List Oper} {d:Nat} {ty:TypeId} {pos:String} {af:Array Edge}
variable {ops:Array Oper} {Msh pool pool':List HP} {E:Fl} {rs:List (Option Nat×Rel)} {cs0:List Nat} {KD:RKont}
variable {τ δ:Type} [GT τ δ]
end
section
variable {Γ:Cx} {rest:List Oper} {d:Nat} {ty:TypeId} {pos:String} {af:Array Edge} {gd:Option (Nat×Bool)}
variable {ops:Array Oper} {Msh pool pool':List HP} {E:Fl} {rs:List (Option Nat×Rel)} {cs0:List Nat} {KD:RKont}
variable {τ δ:Type} [GT τ δ]
end
end Go.Proofs.SL
namespace Go.Proofs.SL
open Go
class FldF (P:Program) (T f:Nat) (o:outParam Nat):Prop where h:fldOf P T f=some o
class OneF (P:Program) (T:Nat):Prop where h:oneOf P T=true
class AggF (P:Program) (T:Nat) (n:outParam Nat):Prop where h:aggOf P T=some n
class ElF (P:Program) (T:Nat) (e sz by_:outParam Nat) (z:outParam (List Value)):Prop where h:elOf P T=some (e,sz,by_,z)
class ZerF (P:Program) (T:Nat) (z:outParam (List Value)):Prop where h:zeroOf P T=some z
class StrF (P:Program) (T:Nat):Prop where h:isStr P T=true
class FnF (P:Program) (f:Nat):Prop where h:IsFn P f
class BldF (P:Program) (T:Nat) (pl:outParam (List (Nat×Nat))) (z:outParam (List Value)):Prop where h:bldOf P T=some (pl,z)
class UndF (P:Program) (T:Nat) (d:outParam TypeDesc):Prop where h:P.underlying T=some d
theorem sj {α:Type} {a b:α} (h:some a=some b):a=b:=Option.some.inj h
theorem ba {α β:Type} {o:Option α} {k:α→Option β} {r:β} (h:Option.bind o k=some r):∃ y,o=some y∧k y=some r:=bind_any h
theorem pk {h:HP} {M M':List HP} (p:Pick h M M':=by first | (with_reducible repeat (first | exact Pick.here _ | apply Pick.there));done | (repeat (first | exact Pick.here _ | apply Pick.there))):Pick h M M':=p
theorem mm {h:HP} {M:List HP} (p:h∈M:=by first | (with_reducible repeat (first | exact List.Mem.head _ | apply List.Mem.tail));done | (repeat (first | exact List.Mem.head _ | apply List.Mem.tail))):h∈M:=p
theorem sb {l' l:Envl} (h:Sub l' l:=by repeat (first | exact Sub.nil _ | (apply Sub.cons;(· exact rfl)))):Sub l' l:=h
theorem ms {M' M:List HP} (h:MSub M' M:=by repeat (first | exact MSub.nil _ | (apply MSub.cons;(· exact pk)))):MSub M' M:=h
theorem pc {M Ms R:List HP} (h:List.Perm M (Ms++R):=by repeat (first | exact perm_nil_left _ | (apply perm_cons;(· exact pk)))):List.Perm M (Ms++R):=h
theorem bv {P:Program} {op:BinOp} {T:TypeId} {x y:Operand} {u v r:Value} (h:BinV P op T x y u v r:=by
 first
  | (with_reducible first | exact bv_add | exact bv_eql | exact bv_lss | exact bv_sub | exact bv_neq | exact bv_geq | exact bv_gtr | exact bv_leq | exact bv_seql | exact bv_sneq | exact bv_slss | exact bv_sgeq | exact bv_sgtr | exact bv_sleq | exact bv_mul | exact bv_and | exact bv_or | exact bv_xor)
  | ((with_reducible refine bv_beql ?_);exact UndF.h) | ((with_reducible refine bv_bneq ?_);exact UndF.h) | ((with_reducible refine bv_quo ?_);decide) | ((with_reducible refine bv_rem ?_);decide)
  | ((with_reducible refine bv_shl ?_ ?_)<;>decide) | ((with_reducible refine bv_shr ?_ ?_)<;>decide)):BinV P op T x y u v r:=h
theorem ocs {cs:List Value} (h:∀ v,v∈cs→v.oneCell'=true:=by first | exact allOne rfl | exact fun v hv=>GT.one _ v hv | (simp [Value.oneCell',TL.hdr,Value.cells];done)):∀ v,v∈cs→v.oneCell'=true:=h
section
variable {Γ:Cx} {l:Envl} {M M':List HP} {Q:Post} {K:Kont} {rest:List Oper} {d:Nat} {ty:TypeId} {pos:String} {af:Array Edge}
inductive Kp:List Nat→Envl→Envl→Prop
 | nil (l:Envl):Kp [] l []
 | cons {t:Nat} {v:Value} {ts:List Nat} {l l':Envl} (h:l.lookup t=some v) (hk:Kp ts l l'):Kp (t::ts) l ((t,v)::l')
theorem Kp.sub {ts:List Nat} {l l':Envl} (h:Kp ts l l'):Sub l' l:=by
 induction h with
 | nil l=>exact Sub.nil _
 | cons h _ ih=>exact Sub.cons h ih
theorem kp (ts:List Nat) {c:Code} {l':Envl} (k:W Γ c l' M Q) (h:Kp ts l l':=by repeat (first | exact Kp.nil _ | (apply Kp.cons;(· exact rfl)))):W Γ c l M Q:=W_weaken h.sub (MSub.refl _) k
theorem kq (ts:List Nat) {c:Code} {l':Envl} (k:W Γ c l' M' Q) (h:Kp ts l l':=by repeat (first | exact Kp.nil _ | (apply Kp.cons;(· exact rfl)))) (hm:M=M':=by (try simp only [List.cons_append,List.nil_append]);exact rfl):W Γ c l M Q:=W_weaken h.sub (hm ▸ MSub.refl _) k
theorem al {T:TypeId} {z:List Value} [hz:ZerF Γ.P T z] (hk:∀ b,L Γ rest ((d,.pointer (some ⟨b,0,none⟩))::l) (blk b z T::M) K) (hn:Nat.blt d Γ.n=true:=by exact rfl) :
  L Γ ({ dst:=some d,op:=.alloc T,type:=ty,pos,after:=af,guard:=none }::rest) l M K:=L_alloc hn hz.h hk
theorem bx {x:Operand} {T:TypeId} {v:Value} (hk:∀ b,L Γ rest ((d,.pointer (some ⟨b,0,none⟩))::l) (blk b v.cells.toList T::M) K) (hn:Nat.blt d Γ.n=true:=by exact rfl) (hx:ev l x=some v:=by exact rfl) :
  L Γ ({ dst:=some d,op:=.box T x,type:=ty,pos,after:=af,guard:=none }::rest) l M K:=L_box hn hx hk
end
section
variable {w0 w:World} {S0:List Nat} {M M' M1 M2:List HP}
def Own {τ δ:Type} [GT τ δ] (M:List HP) (t:τ) (M':List HP):Prop:=∀ (w0:World) (S0:List Nat) (w:World) (F:List HP),Holds w0 S0 (M++F) w→Holds w0 S0 (treeH t::(M'++F)) w
theorem own_pick {τ δ:Type} [GT τ δ] {t:τ} (p:Pick (treeH t) M M'):Own M t M':=fun _ _ _ F h=>h.perm (p.perm.append_right F)
theorem own_flat {τ δ:Type} [GT τ δ] {t:τ} (p:Flat t):Own M t M:=fun _ _ _ _ h=>h.addFlat p
theorem own_int {n:Int}:Own M n M:=own_flat (flat_int trivial)
theorem own_bool {n:Bool}:Own M n M:=own_flat (flat_bool _)
theorem own_str {n:ByteArray}:Own M n M:=own_flat (flat_str trivial)
theorem own_nil {τ δ:Type} [GT τ δ] {e:TypeId}:Own M (TL.nil τ e) M:=own_flat (flat_nil e)
theorem own_pair {α β δ ε:Type} [GT α δ] [GT β ε] {a:α} {b:β} (ha:Own M a M1) (hb:Own M1 b M2):Own M (a,b) M2:=fun w0 S0 w F h=>by
 have h1:=ha w0 S0 w F h
 have h2:Holds w0 S0 (M1++(treeH a::F)) w:=h1.perm List.perm_middle.symm
 have h3:=hb w0 S0 w _ h2
 have h4:Holds w0 S0 (treeH a::treeH b::(M2++F)) w:=h3.perm ((List.perm_middle.cons _).trans (List.Perm.swap _ _ _))
 exact pair_tree h4
theorem ow {τ δ:Type} [GT τ δ] {t:τ} (o:Own M t M':=by repeat (first | (with_reducible exact own_int) | (with_reducible exact own_bool) | (with_reducible exact own_str) | (with_reducible exact own_nil) | (with_reducible apply own_pair) | ((with_reducible apply own_pick);exact pk))):Own M t M':=o
theorem Own.h {τ δ:Type} [GT τ δ] {t:τ} (o:Own M t M') (h:Holds w0 S0 M w):Holds w0 S0 (treeH t::M') w:=by
 have:=o w0 S0 w [] (by simpa using h)
 simpa using this
def Exp {τ δ:Type} [GT τ δ] (t:τ) (M M':List HP):Prop:=∀ (w0:World) (S0:List Nat) (w:World) (F:List HP),Holds w0 S0 (treeH t::(M++F)) w→Holds w0 S0 (M'++F) w
theorem exp_flat {τ δ:Type} [GT τ δ] {t:τ}:Exp t M M:=fun _ _ _ F h=>h.sub ⟨[treeH t],List.perm_append_comm (l₁:=[treeH t]) (l₂:=M++F)⟩
theorem exp_int {n:Int}:Exp n M M:=exp_flat
theorem exp_bool {n:Bool}:Exp n M M:=exp_flat
theorem exp_str {n:ByteArray}:Exp n M M:=exp_flat
theorem exp_leaf {τ δ:Type} [GT τ δ] {t:TL τ}:Exp t M (treeH t::M):=fun _ _ _ _ h=>h
theorem exp_pair {α β δ ε:Type} [GT α δ] [GT β ε] {a:α} {b:β} (hb:Exp b M M1) (ha:Exp a M1 M2):Exp (a,b) M M2:=fun w0 S0 w F h=>by
 have h1:=tree_pair h
 have h2:Holds w0 S0 (treeH b::(M++(treeH a::F))) w:=h1.perm ((List.Perm.swap _ _ _).trans (List.perm_middle.symm.cons _))
 have h3:=hb w0 S0 w _ h2
 exact ha w0 S0 w F (h3.perm List.perm_middle)
theorem ex {τ δ:Type} [GT τ δ] {t:τ} (o:Exp t M M':=by repeat (first | (with_reducible exact exp_int) | (with_reducible exact exp_bool) | (with_reducible exact exp_str) | (with_reducible apply exp_pair) | (with_reducible exact exp_leaf))):Exp t M M':=o
theorem Exp.h {τ δ:Type} [GT τ δ] {t:τ} (o:Exp t M1 M') (p:Pick (treeH t) M M1) (h:Holds w0 S0 M w):Holds w0 S0 M' w:=by
 have:=o w0 S0 w [] (by simpa using h.perm p.perm)
 simpa using this
variable {Γ:Cx} {l:Envl} {Q:Post} {K:Kont} {c:Code} {r:List Oper}
theorem jW {τ δ:Type} [GT τ δ] (t:τ) (k:W Γ c l (treeH t::M') Q) (o:Own M t M':=by exact ow):W Γ c l M Q:=W_conv (fun _ h=>o.h h) k
theorem jL {τ δ:Type} [GT τ δ] (t:τ) (k:L Γ r l (treeH t::M') K) (o:Own M t M':=by exact ow):L Γ r l M K:=L_conv (fun _ h=>o.h h) k
theorem xL {τ δ:Type} [GT τ δ] (t:τ) (k:L Γ r l M' K) (p:Pick (treeH t) M M1:=by exact pk) (o:Exp t M1 M':=by exact ex):L Γ r l M K:=L_conv (fun _ h=>o.h p h) k
end
theorem dd {a b:Prop} (h:a) (e:a→b:=by (intro h;(try dsimp only [dat_pair,dat_int,dat_bool,dat_str,dat_ar] at h);exact h)):b:=e h
theorem sc {p q:Prop} (k:q) (e:q→p:=by (intro k;(simp only [cells_pair,cells_int,cells_bool,cells_str,cells_TL,List.cons_append,List.nil_append]);exact k)):p:=e k
section
variable {ops:Array Oper} {E:Fl}
theorem gc {o:Oper} {c:Prop} (h:GC ops E o c:=by first | exact GC.none | exact GC.some rfl rfl):GC ops E o c:=h
theorem ov {x:Operand} {c:Prop} {v:Value} (h:OpV E x c v:=by first | exact OpV.c | exact OpV.t rfl | exact OpV.s rfl):OpV E x c v:=h
end
theorem L_extractL {Γ:Cx} {l:Envl} {M:List HP} {K:Kont} {rest:List Oper} {d:Nat} {ty:TypeId} {pos:String} {af:Array Edge} {x:Operand} {i:Nat} {vs:List Value} {v:Value} (hn:Nat.blt d Γ.n=true) (hx:ev l x=some (.tuple vs.toArray)) (hv:vs[i]?=some v) (hk:L Γ rest ((d,v)::l) M K) :
  L Γ ({ dst:=some d,op:=.extract x i,type:=ty,pos,after:=af,guard:=none }::rest) l M K:=L_extract hn hx (by simpa using hv) hk
theorem isLen {Γ:Cx} {l:Envl} {M:List HP} {K:Kont} {rest:List Oper} {d:Option Nat} {ty:TypeId} {pos:String} {af:Array Edge} {g:Option (Nat×Bool)} {x:Array Operand} {T:Array TypeId} (h:L Γ ({ dst:=d,op:=.call { callee:=.builtin .len,args:=x,argTypes:=T },type:=ty,pos:=pos,after:=af,guard:=g }::rest) l M K) :
  L Γ ({ dst:=d,op:=.call { callee:=.builtin .len,args:=x,argTypes:=T },type:=ty,pos:=pos,after:=af,guard:=g }::rest) l M K:=h
section
variable {Γ:Cx} {l:Envl} {M:List HP} {K:Kont} {Q:Post} {c:Code} {r:List Oper} {ops:Array Oper} {Msh pool:List HP} {E:Fl} {rs:List (Option Nat×Rel)} {cs0:List Nat} {KD:RKont}
theorem isL (h:L Γ r l M K):L Γ r l M K:=h
theorem isW (h:W Γ c l M Q):W Γ c l M Q:=h
theorem isD (h:DV Γ ops Msh pool E rs cs0 r KD):DV Γ ops Msh pool E rs cs0 r KD:=h
end
theorem s1 {p q:Prop} (k:q) (h:q→p:=by
 intro k
 (first
  | (with_reducible refine isL ?_);(first
   | (with_reducible apply L_move);(· exact rfl);(· exact rfl)
   | (with_reducible apply L_assign);(· exact rfl);(· exact rfl)
   | (with_reducible refine L_nil ?_)
   | (with_reducible apply L_binV);(· exact rfl);(· exact rfl);(· exact rfl);(· exact bv)
   | (with_reducible apply L_fieldAddr);(· exact rfl);(· exact rfl);(· exact FldF.h)
   | (with_reducible apply L_load);(· exact rfl);(· exact rfl);(· exact RdC.blk mm);(· exact OneF.h);(· exact rfl)
   | (with_reducible apply L_loadW);(· exact rfl);(· exact rfl);(· exact RdC.blk mm);(· exact AggF.h)
   | (with_reducible apply L_extractL);(· exact rfl);(· exact rfl);(· exact rfl)
   | (with_reducible apply L_store);(· exact rfl);(· exact rfl);(· exact pk);(· exact OneF.h);(· exact rfl);(· exact rfl)
   | (with_reducible apply L_storeW);(· exact rfl);(· exact rfl);(· exact pk);(· exact AggF.h);(· exact rfl);(· exact ocs)
   | (with_reducible refine isLen ?_);(first | refine L_lenT rfl rfl StrF.h ?_ | refine L_lenP rfl rfl ElF.h ?_)
   | (with_reducible apply L_not);(· exact rfl);(· exact rfl)
   | (with_reducible apply L_nilCheck);(· exact rfl);(· exact rfl))
  | (with_reducible refine isW ?_);(first
   | (with_reducible refine W_seq ?_)
   | (with_reducible refine W_region ?_)
   | (with_reducible refine W_skip ?_)
   | (with_reducible refine W_block ?_)
   | (with_reducible refine W_ret ?_))
  | (with_reducible refine isD ?_);(first
   | (with_reducible apply D_move);(· exact gc);(· exact ov)
   | (with_reducible apply D_fieldAddr);(· exact gc);(· exact ov);(· exact FldF.h)
   | (with_reducible apply D_load);(· exact gc);(· exact ov);(· exact fun _=>RdC.blk mm);(· exact OneF.h);(· exact rfl)
   | (with_reducible apply D_bin);(· exact gc);(· exact ov);(· exact ov);(· exact fun _=>bv)
   | (with_reducible apply D_and);(· exact gc);(· exact ov);(· exact ov);(· exact fun h hb=>⟨h,hb⟩)
   | (with_reducible apply D_or);(· exact gc);(· exact ov);(· exact ov);(· exact fun h hb=>⟨h,hb⟩)
   | (with_reducible apply D_loadW);(· exact gc);(· exact ov);(· exact fun _=>RdC.blk mm);(· exact AggF.h)
   | (with_reducible apply D_assign);(· exact gc);(· exact ov)
   | (with_reducible apply D_not);(· exact gc);(· exact ov)
   | (with_reducible apply D_nilCheck);(· exact gc);(· exact ov)
   | (with_reducible refine DV_nil ?_))
  | (with_reducible refine Give_nil ?_)
  | (with_reducible apply Give_drop);(· exact rfl)
  | (with_reducible apply Give_is);(· exact rfl);(· exact rfl)
  | (with_reducible apply Give_cons);(· exact rfl)
  | (with_reducible apply Give_drop')
  | (with_reducible apply Give_st))
 exact k):p:=h k
theorem s2 {p q:Prop} (k:q) (h:q→p:=by (intro k;(iterate 2 (refine s1 ?_));exact k)):p:=h k
theorem s3 {p q:Prop} (k:q) (h:q→p:=by (intro k;(iterate 3 (refine s1 ?_));exact k)):p:=h k
theorem s4 {p q:Prop} (k:q) (h:q→p:=by (intro k;(iterate 4 (refine s1 ?_));exact k)):p:=h k
theorem s5 {p q:Prop} (k:q) (h:q→p:=by (intro k;(iterate 5 (refine s1 ?_));exact k)):p:=h k
theorem s6 {p q:Prop} (k:q) (h:q→p:=by (intro k;(iterate 6 (refine s1 ?_));exact k)):p:=h k
theorem s7 {p q:Prop} (k:q) (h:q→p:=by (intro k;(iterate 7 (refine s1 ?_));exact k)):p:=h k
theorem s8 {p q:Prop} (k:q) (h:q→p:=by (intro k;(iterate 8 (refine s1 ?_));exact k)):p:=h k
theorem s9 {p q:Prop} (k:q) (h:q→p:=by (intro k;(iterate 9 (refine s1 ?_));exact k)):p:=h k
theorem s10 {p q:Prop} (k:q) (h:q→p:=by (intro k;(iterate 10 (refine s1 ?_));exact k)):p:=h k
theorem s11 {p q:Prop} (k:q) (h:q→p:=by (intro k;(iterate 11 (refine s1 ?_));exact k)):p:=h k
theorem s12 {p q:Prop} (k:q) (h:q→p:=by (intro k;(iterate 12 (refine s1 ?_));exact k)):p:=h k
theorem s13 {p q:Prop} (k:q) (h:q→p:=by (intro k;(iterate 13 (refine s1 ?_));exact k)):p:=h k
theorem s14 {p q:Prop} (k:q) (h:q→p:=by (intro k;(iterate 14 (refine s1 ?_));exact k)):p:=h k
theorem s15 {p q:Prop} (k:q) (h:q→p:=by (intro k;(iterate 15 (refine s1 ?_));exact k)):p:=h k
theorem s16 {p q:Prop} (k:q) (h:q→p:=by (intro k;(iterate 16 (refine s1 ?_));exact k)):p:=h k
theorem s17 {p q:Prop} (k:q) (h:q→p:=by (intro k;(iterate 17 (refine s1 ?_));exact k)):p:=h k
theorem s18 {p q:Prop} (k:q) (h:q→p:=by (intro k;(iterate 18 (refine s1 ?_));exact k)):p:=h k
theorem s19 {p q:Prop} (k:q) (h:q→p:=by (intro k;(iterate 19 (refine s1 ?_));exact k)):p:=h k
theorem s20 {p q:Prop} (k:q) (h:q→p:=by (intro k;(iterate 20 (refine s1 ?_));exact k)):p:=h k
end Go.Proofs.SL
namespace Go.Proofs.SL
open Go
abbrev T_Id:=Int×Int
abbrev T_Cmd:=Int×Int×Int×ByteArray×ByteArray×ByteArray×Int×(TL ByteArray)
abbrev T_Inst:=T_Id×Int×Int×Int×T_Cmd×Int×(TL T_Id)×Bool
abbrev T_Lead:=T_Id×Int×Int×Int×(TL T_Id)×(TL Int)×Bool
abbrev T_ENode:=Int×Int×(TL T_Inst)×(TL T_Lead)
abbrev T_EMsg:=Int×Int×Int×T_Id×Int×T_Cmd×Int×(TL T_Id)×Int×Int×Bool
end Go.Proofs.SL
namespace Go.Proofs.SL
open Go
set_option maxHeartbeats 2000000
theorem mix:Tryz.prog.follows .mixedOrders=true:=by kernel_rfl
instance fn106:FnF Tryz.prog 106:=⟨_,Tryz.func106,by kernel_rfl,rfl⟩
noncomputable def s_l1In (a0:Int) (a1:Int) (a2:Int):Option Bool :=
 some ((decide (a1≤a0))&&(decide (a0≤a2)))
theorem s_l1In_walk (w:World) (a0:Int) (a1:Int) (a2:Int)  (r:Bool) (hp:s_l1In a0 a1 a2=some r):Spec Tryz.prog 51 [.int .i64 a0,.int .i64 a1,.int .i64 a2].toArray w [] (IsV (.bool r)):=by
 refine Spec.intro Tryz.func51 rfl Tryz.ntmps51 rfl ?_
 unfold s_l1In at hp
 replace hp:=dd hp
 refine s5 ?_
 refine W_D0 [6] mix (by kernel_rfl) rfl ?_
 refine s20 ?_
 obtain rfl:=sj hp
 refine s1 ?_
 refine res1 rfl (ResOK.tmp rfl) ⟨rfl,rfl⟩ ms
noncomputable def i_within (a0:Int) (a1:Int) (a2:Int):Option Bool :=
 some ((decide (a1≤a0))&&(decide (a0≤a2)))
theorem i_within_walk (w:World) (a0:Int) (a1:Int) (a2:Int)  (r:Bool) (hp:i_within a0 a1 a2=some r):Spec Tryz.prog 106 [.int .i64 a0,.int .i64 a1,.int .i64 a2].toArray w [] (IsV (.bool r)):=by
 refine Spec.intro Tryz.func106 rfl Tryz.ntmps106 rfl ?_
 unfold i_within at hp
 replace hp:=dd hp
 refine s5 ?_
 refine W_D0 [6] mix (by kernel_rfl) rfl ?_
 refine s20 ?_
 obtain rfl:=sj hp
 refine s1 ?_
 refine res1 rfl (ResOK.tmp rfl) ⟨rfl,rfl⟩ ms
noncomputable def s_l9Node (a0:Int):Option Bool :=
 some ((decide (0≤a0))&&(decide (a0 < 3)))
theorem s_l9Node_walk (w:World) (a0:Int)  (r:Bool) (hp:s_l9Node a0=some r):Spec Tryz.prog 50 [.int .i64 a0].toArray w [] (IsV (.bool r)):=by
 refine Spec.intro Tryz.func50 rfl Tryz.ntmps50 rfl ?_
 unfold s_l9Node at hp
 replace hp:=dd hp
 refine s5 ?_
 refine W_D0 [2] mix (by kernel_rfl) rfl ?_
 refine s16 ?_
 obtain rfl:=sj hp
 refine s1 ?_
 refine res1 rfl (ResOK.tmp rfl) ⟨rfl,rfl⟩ ms
noncomputable def i_isRep (a0:Int):Option Bool :=
 Option.bind (i_within a0 0 2) (fun y1=>some y1)
theorem i_isRep_walk (w:World) (a0:Int)  (r:Bool) (hp:i_isRep a0=some r):Spec Tryz.prog 105 [.int .i64 a0].toArray w [] (IsV (.bool r)):=by
 refine Spec.intro Tryz.func105 rfl Tryz.ntmps105 rfl ?_
 unfold i_isRep at hp
 replace hp:=dd hp
 refine s7 ?_
 replace hp:=ba hp;obtain ⟨y1,hy1,hp⟩:=hp
 refine L_callX rfl fn106.h rfl (by exact fun w hw=>i_within_walk w a0 0 2  _ hy1) ?_
 refine s2 ?_
 obtain rfl:=sj hp
 refine s1 ?_
 refine res1 rfl (ResOK.tmp rfl) ⟨rfl,rfl⟩ ms
end Go.Proofs.SL
namespace Go.Proofs
open Go.Shelf
def Tryz.laysSF177_ren:Go.Shelf.Ren:=⟨fun | 6=>177 | 15=>195 | 14=>198 | 28=>211 | 29=>212 | 20=>213 | 21=>214 | 22=>215 | 23=>216 | 24=>217 | 25=>218 | 26=>219 | 27=>220 | 46=>237 | 47=>232 | 48=>233 | 49=>238 | 50=>239 | 57=>244 | n=>n,fun | 22=>24 | 24=>45 | 25=>169 | 3=>3 | 39=>175 | 0=>0 | 53=>194 | 55=>196 | 4=>4 | 46=>186 | 45=>185 | 50=>191 | 5=>5 | 9=>9 | 66=>209 | 70=>213 | 76=>219 | 77=>220 | n=>n,fun | n=>n⟩
theorem Tryz.laysSF177:Go.Proofs.SlLaysF0.n6 Tryz.prog Tryz.laysSF177_ren:={
 mixed:=by kernel_rfl
 f6:=⟨Tryz.f177.name,by decide,Tryz.func177.trans (congrArg some (by kernel_rfl))⟩
 f14:=⟨Tryz.f198.name,by decide,Tryz.func198.trans (congrArg some (by kernel_rfl))⟩
 f15:=Tryz.func195.trans (congrArg some (by kernel_rfl))
 f20:=⟨Tryz.f213.name,by decide,Tryz.func213.trans (congrArg some (by kernel_rfl))⟩
 f21:=⟨Tryz.f214.name,by decide,Tryz.func214.trans (congrArg some (by kernel_rfl))⟩
 f22:=⟨Tryz.f215.name,by decide,Tryz.func215.trans (congrArg some (by kernel_rfl))⟩
 f23:=⟨Tryz.f216.name,by decide,Tryz.func216.trans (congrArg some (by kernel_rfl))⟩
 f24:=⟨Tryz.f217.name,by decide,Tryz.func217.trans (congrArg some (by kernel_rfl))⟩
 f25:=⟨Tryz.f218.name,by decide,Tryz.func218.trans (congrArg some (by kernel_rfl))⟩
 f26:=⟨Tryz.f219.name,by decide,Tryz.func219.trans (congrArg some (by kernel_rfl))⟩
 f27:=⟨Tryz.f220.name,by decide,Tryz.func220.trans (congrArg some (by kernel_rfl))⟩
 f28:=Tryz.func211.trans (congrArg some (by kernel_rfl))
 f29:=Tryz.func212.trans (congrArg some (by kernel_rfl))
 f46:=⟨Tryz.f237.name,by decide,Tryz.func237.trans (congrArg some (by kernel_rfl))⟩
 f47:=Tryz.func232.trans (congrArg some (by kernel_rfl))
 f48:=Tryz.func233.trans (congrArg some (by kernel_rfl))
 f49:=⟨Tryz.f238.name,by decide,Tryz.func238.trans (congrArg some (by kernel_rfl))⟩
 f50:=⟨Tryz.f239.name,by decide,Tryz.func239.trans (congrArg some (by kernel_rfl))⟩
 f57:=⟨Tryz.f244.name,by decide,Tryz.func244.trans (congrArg some (by kernel_rfl))⟩
 t0:=Tryz.underlying0
 a0:=Tryz.isAgg0
 z0:=Tryz.sizeOf0
 v0:=Tryz.zeroValue0
 t3:=Tryz.underlying3
 a3:=Tryz.isAgg3
 z3:=Tryz.sizeOf3
 v3:=Tryz.zeroValue3
 t4:=Tryz.underlying4
 a4:=Tryz.isAgg4
 z4:=Tryz.sizeOf4
 v4:=Tryz.zeroValue4
 t5:=Tryz.underlying5
 a5:=Tryz.isAgg5
 z5:=Tryz.sizeOf5
 v5:=Tryz.zeroValue5
 t9:=Tryz.underlying9
 a9:=Tryz.isAgg9
 z9:=Tryz.sizeOf9
 v9:=Tryz.zeroValue9
 t22:=Tryz.underlying24
 a22:=Tryz.isAgg24
 z22:=Tryz.sizeOf24
 v22:=Tryz.zeroValue24
 t25:=Tryz.underlying169
 a25:=Tryz.isAgg169
 z25:=Tryz.sizeOf169
 v25:=Tryz.zeroValue169
 t39:=Tryz.underlying175
 a39:=Tryz.isAgg175
 z39:=Tryz.sizeOf175
 v39:=Tryz.zeroValue175
 t45:=Tryz.underlying185
 a45:=Tryz.isAgg185
 z45:=Tryz.sizeOf185
 v45:=Tryz.zeroValue185
 t46:=Tryz.underlying186
 a46:=Tryz.isAgg186
 z46:=Tryz.sizeOf186
 v46:=Tryz.zeroValue186
 t50:=Tryz.underlying191
 a50:=Tryz.isAgg191
 z50:=Tryz.sizeOf191
 v50:=Tryz.zeroValue191
 t53:=Tryz.underlying194
 a53:=Tryz.isAgg194
 z53:=Tryz.sizeOf194
 v53:=Tryz.zeroValue194
 t55:=Tryz.underlying196
 a55:=Tryz.isAgg196
 z55:=Tryz.sizeOf196
 v55:=Tryz.zeroValue196
 t66:=Tryz.underlying209
 a66:=Tryz.isAgg209
 z66:=Tryz.sizeOf209
 v66:=Tryz.zeroValue209
 t70:=Tryz.underlying213
 a70:=Tryz.isAgg213
 z70:=Tryz.sizeOf213
 v70:=Tryz.zeroValue213
 t76:=Tryz.underlying219
 a76:=Tryz.isAgg219
 z76:=Tryz.sizeOf219
 v76:=Tryz.zeroValue219
 t77:=Tryz.underlying220
 a77:=Tryz.isAgg220
 z77:=Tryz.sizeOf220
 v77:=Tryz.zeroValue220 }
end Go.Proofs
namespace Go.Proofs
open Go.Shelf
end Go.Proofs
