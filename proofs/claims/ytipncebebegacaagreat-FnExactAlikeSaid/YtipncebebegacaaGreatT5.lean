/- The texts of the proof, part 5: the base, walks of functions, plain Lean. -/
import Derived.Test.YtipncebebegacaaGreatT4
import Derived.Sort.Grow
import Derived.Sort.EncStr
import Derived.Lib.SlicesCompact
import Derived.Laws.StructEq
namespace Go.Proofs.SL
open Go
variable {Γ:Cx} {l:Envl} {M M' M1 M2 F:List HP} {Q:Post} {K:Kont} {w0 w:World} {S0:List Nat}
variable {rest:List Oper} {d:Nat} {ty:TypeId} {pos:String} {af:Array Edge}
variable {ops:Array Oper} {Msh pool pool':List HP} {E:Fl} {rs:List (Option Nat×Rel)} {cs0:List Nat} {KD:List (Option Nat×Rel)→List Nat→List HP→Prop}
def RowV (cs:List Value) (e:TypeId):Rel:=fun v M=>∃ b,v=.slice (some ⟨b,0,none⟩) 1 1∧M=[blk b cs e]
theorem run_bs1 {P:Program} {T e sz by_:Nat} {z:List Value} {v:Value} (ht:elOf P T=some (e,sz,by_,z)) (hz:z.length=sz) (hsz:0 < sz) (hns:sz≤65536) (hv:v.cells.toList.length=sz) (w:World) :
  (Instr.buildSlice T 1 #[(0,v)]).run P w=.ok (.slice (some ⟨w.heap.size,0,none⟩) 1 1) (w.alloc (.cells v.cells.toList.toArray e (0,0))) :=
 run_buildSlice (w:=w) (n:=1) (ps:=[(0,v)]) (cs:=v.cells.toList) ht hz hsz (by omega) (by omega) (by
  simp only [fillL,Nat.zero_mul,Nat.one_mul,Nat.zero_add,hv,Nat.beq_refl,Bool.true_and,List.length_map,List.length_range,List.take_zero,List.nil_append]
  rw [show Nat.ble sz sz=true from Nat.ble_eq_true_of_le (Nat.le_refl _)]
  simp only []
  rw [List.drop_of_length_le (by simp),List.append_nil])
theorem D_bs1 {x:Operand} {T e sz by_:Nat} {z:List Value} {v:Value} (hx:OpV E x True v) (ht:elOf Γ.P T=some (e,sz,by_,z)) (hz:z.length=sz) (hsz:0 < sz) (hns:sz≤65536) (hv:v.cells.toList.length=sz)
  (hk:DV Γ ops Msh pool ((d,RowV v.cells.toList e)::E) ((some d,RowV v.cells.toList e)::rs) cs0 rest KD) :
  DV Γ ops Msh pool E rs cs0 ({ dst:=some d,op:=.buildSlice T 1 #[(0,x)],type:=ty,pos:=pos,after:=af,guard:=none }::rest) KD:=by
 refine DV.mk (RowV v.cells.toList e) [] pool [] (by simp) rfl ?_ (by rw [dropE_nil];exact hk)
 intro a w F Mk _ _ hw hm hfa hcf
 have hMk:Mk=[]:=hcf
 subst hMk
 rw [dropE_nil] at hfa
 simp only [List.nil_append] at hw ⊢
 rw [if_pos (by simp [Region.wanted])]
 have e1:=hx.eval hfa (by simp [Op.operands]) trivial
 have h1:(execOp a.eval { dst:=some d,op:=.buildSlice T 1 #[(0,x)],type:=ty,pos:=pos,after:=af,guard:=none }).run Γ.P w=.ok (.value (.slice (some ⟨w.heap.size,0,none⟩) 1 1)) (w.alloc (.cells v.cells.toList.toArray e (0,0))):=by
  simp only [execOp]
  have:(#[(0,x)]:Array (Nat×Operand)).map (fun (i,x)=>(i,a.eval x))=#[(0,v)]:=by simp [e1]
  rw [this]
  simp [run_bs1 ht hz hsz hns hv]
 rw [h1]
 exact ⟨[blk w.heap.size v.cells.toList e],⟨_,rfl,rfl⟩,Holds.new (show Holds Γ.w0 Γ.S0 F w by simpa using hw) rfl⟩
section
variable {τ δ:Type} [GT τ δ]
def OwnV (r:List δ):Rel:=fun v M=>∃ X:TL τ,v=X.hdr∧GT.dat X=r∧M=[treeH X]
theorem RdC.row {X:TL τ} {j:Nat} {x:τ} (h:rowH X∈M) (hi:X.els[j]?=some x):RdC Γ M X.g (X.o+j*GT.sz τ) (GT.cells x):=fun w hw k v hv=>by
 obtain ⟨r1,r2,r3,r4⟩:=hw.prs _ h
 have hlt:=(List.getElem?_eq_some_iff.1 hi).1
 have hk:k < GT.sz τ:=by rw [← GT.len x];exact (List.getElem?_eq_some_iff.1 hv).1
 cases ha:X.a with
 | none=>have:=(r3 ha).1;rw [this] at hlt;simp at hlt
 | some a =>
  obtain ⟨h1,h2,h3,h4⟩:=r4 a ha
  have hg:X.g=a.block:=by unfold TL.g;rw [ha];rfl
  have ho:X.o=0:=by unfold TL.o;rw [ha];exact h2
  rw [hg,ho,Nat.zero_add,cell_of_row _ _ _ _ _ _ h3]
  simp only [List.getElem?_toArray]
  have hc:=rowCells_get X.els j k x hi hk
  rw [List.getElem?_append_left (by rw [hv] at hc;exact (List.getElem?_eq_some_iff.1 hc).1),hc]
  exact hv
theorem row_adr {X:TL τ} {j:Nat} {u:τ} (h:(rowH X).pr w) (hi:X.els[j]?=some u):X.hdr=.slice (some ⟨X.g,X.o,none⟩) X.els.length X.cap:=by
 obtain ⟨r1,r2,r3,r4⟩:=h
 have hlt:=(List.getElem?_eq_some_iff.1 hi).1
 show Value.slice X.a X.els.length X.cap=_
 cases ha:X.a with
 | none=>have:=(r3 ha).1;rw [this] at hlt;simp at hlt
 | some a =>
  obtain ⟨h1,h2,h3,h4⟩:=r4 a ha
  obtain ⟨b,o,s⟩:=a
  have h1:s=none:=h1
  subst h1
  simp [TL.g,TL.o,ha]
theorem L_idxR {x y:Operand} {T e sz by_:Nat} {z:List Value} {k:IntKind} {i:Int} {X:TL τ} {u:τ} (hn:Nat.blt d Γ.n=true) (hx:ev l x=some X.hdr) (hy:ev l y=some (.int k i))
  (ht:elOf Γ.P T=some (e,sz,by_,z)) (hm:rowH X∈M) (hi:0≤i∧X.els[i.toNat]?=some u) (hk:L Γ rest ((d,.pointer (some ⟨X.g,X.o+i.toNat*sz,none⟩))::l) M K) :
  L Γ ({ dst:=some d,op:=.indexAddr T x y,type:=ty,pos:=pos,after:=af,guard:=none }::rest) l M K :=
 L_pure hn (fun a' w ha hw=>by
  have h1:=ha.eval hx
  rw [row_adr (hw.prs _ hm) hi.2] at h1
  simp [execOp,h1,ha.eval hy,run_indexAt ht X.g X.o X.els.length X.cap k i i.toNat (by omega) (List.getElem?_eq_some_iff.1 hi.2).1 w]) hk
theorem els_next {X:TL τ} {i:Nat} {u:τ} (hi:X.els[i]?=some u) (p:Pick (elsT (X.els.drop i)) M M1) (h:Holds w0 S0 M w):Holds w0 S0 (treeH u::elsT (X.els.drop (i+1))::M1) w:=by
 have h1:=h.perm p.perm
 obtain ⟨hlt,hx⟩:=List.getElem?_eq_some_iff.1 hi
 have he:X.els.drop i=u::X.els.drop (i+1):=by rw [← hx,← List.drop_eq_getElem_cons hlt]
 rw [he] at h1
 refine h1.reFp (List.Perm.of_eq ?_) fun y hy=>?_
 ·simp only [fps_cons]
  show (u::X.els.drop (i+1)).flatMap GT.fp++fps M1=GT.fp u++((X.els.drop (i+1)).flatMap GT.fp++fps M1)
  rw [List.flatMap_cons,List.append_assoc]
 ·have h2:=h1.prs (elsT (u::X.els.drop (i+1))) (List.mem_cons_self ..)
  rcases List.mem_cons.1 hy with rfl | hy
  ·exact h2 u (List.mem_cons_self ..)
  rcases List.mem_cons.1 hy with rfl | hy
  ·exact fun x hx=>h2 x (List.mem_cons_of_mem _ hx)
  ·exact h1.prs _ (List.mem_cons_of_mem _ hy)
theorem els_start {X:TL τ} (p:Pick (treeH X) M M1) (h:Holds w0 S0 M w):Holds w0 S0 (rowH X::elsT (X.els.drop 0)::M1) w:=tree_row (h.perm p.perm)
theorem els_step {X:TL τ} {i:Int} {u:τ} (hi:0≤i∧X.els[i.toNat]?=some u) (hm:rowH X∈M) (p:Pick (elsT (X.els.drop (i.toNat+1))) M M1) (h:Holds w0 S0 M w) :
  Holds w0 S0 (elsT (X.els.drop (IntKind.wrap .i64 (i+1)).toNat)::M1) w:=by
 have h1:=h.perm p.perm
 have hlt:=(List.getElem?_eq_some_iff.1 hi.2).1
 obtain ⟨r1,r2,_⟩:=h.prs _ hm
 simp only [maxLen] at r2
 rw [wrap64_in (by unfold inR;omega),show (i+1).toNat=i.toNat+1 by omega]
 exact h1
end
end Go.Proofs.SL
namespace Go.Proofs.SL
open Go
variable {Γ:Cx} {l:Envl} {M M' M1 M2 F:List HP} {Q:Post} {K:Kont} {rest:List Oper}
section
variable {τ δ:Type} [GT τ δ]
theorem L_close {X:TL τ} {i:Nat} {cs:List Value} (x':τ) {r:List δ} (hc:cs=GT.cells x') (p:Pick (holeH X i cs) M M1) (q:Pick (treeH x') M1 M2) (hr:some ((GT.dat X).set i (GT.dat x'))=some r)
  (hk:∀ X2:TL τ,GT.dat X2=r→X2.hdr=X.hdr→L Γ rest l (treeH X2::M2) K):L Γ rest l M K :=
 L_conv (fun w h=>hole_close hc p q h) (hk _ (by rw [dat_set];exact Option.some.inj hr) (by show Value.slice X.a (X.els.set i x').length X.cap=Value.slice X.a X.els.length X.cap;rw [List.length_set]))
end
end Go.Proofs.SL
namespace Go.Proofs.SL
open Go
variable {Γ:Cx} {rest:List Oper} {d:Nat} {ty:TypeId} {pos:String} {af:Array Edge} {gd:Option (Nat×Bool)}
variable {ops:Array Oper} {Msh pool:List HP} {E:Fl} {rs:List (Option Nat×Rel)} {cs0:List Nat} {KD:List (Option Nat×Rel)→List Nat→List HP→Prop}
theorem D_idxH {τ δ:Type} [GT τ δ] {x y:Operand} {T e sz by_ j:Nat} {z cs:List Value} {k:IntKind} {i:Int} {X:TL τ} {u:τ} {c:Prop} (hg:GC ops E { dst:=some d,op:=.indexAddr T x y,type:=ty,pos:=pos,after:=af,guard:=gd } c)
  (hx:OpV E x c X.hdr) (hy:OpV E y c (.int k i)) (ht:elOf Γ.P T=some (e,sz,by_,z)) (hm:holeH X j cs∈Msh) (hi:c→0≤i∧X.els[i.toNat]?=some u)
  (hk:DV Γ ops Msh pool ((d,FC c (.pointer (some ⟨X.g,X.o+i.toNat*sz,none⟩)))::E) ((some d,FC c (.pointer (some ⟨X.g,X.o+i.toNat*sz,none⟩)))::rs) cs0 rest KD) :
  DV Γ ops Msh pool E rs cs0 ({ dst:=some d,op:=.indexAddr T x y,type:=ty,pos:=pos,after:=af,guard:=gd }::rest) KD :=
 DV_pure c _ hg (fun a w F hc hf hs=>by
  have e1:=hx.eval hf (by simp [Op.operands]) hc
  have e2:=hy.eval hf (by simp [Op.operands]) hc
  obtain ⟨h0,h1⟩:=hi hc
  obtain ⟨r1,r2,r3,r4,r5,r6,r7,r8⟩:=hs.prs _ hm
  have ho:X.o=0:=by unfold TL.o;rw [r5];rfl
  have h2:X.hdr=.slice (some ⟨X.g,X.o,none⟩) X.els.length X.cap:=by show Value.slice X.a X.els.length X.cap=_;rw [ho,← r5]
  rw [h2] at e1
  simp [execOp,e1,e2,run_indexAt ht X.g X.o X.els.length X.cap k i i.toNat (by omega) (List.getElem?_eq_some_iff.1 h1).1 w]) hk
end Go.Proofs.SL
namespace Go.Proofs.SL
open Go
variable {Γ:Cx} {rest:List Oper} {d:Nat} {ty:TypeId} {pos:String} {af:Array Edge} {gd:Option (Nat×Bool)}
variable {ops:Array Oper} {Msh pool:List HP} {E:Fl} {rs:List (Option Nat×Rel)} {cs0:List Nat} {KD:List (Option Nat×Rel)→List Nat→List HP→Prop}
theorem D_idxR {τ δ:Type} [GT τ δ] {x y:Operand} {T e sz by_:Nat} {z:List Value} {k:IntKind} {i:Int} {X:TL τ} {u:τ} {c:Prop} (hg:GC ops E { dst:=some d,op:=.indexAddr T x y,type:=ty,pos:=pos,after:=af,guard:=gd } c)
  (hx:OpV E x c X.hdr) (hy:OpV E y c (.int k i)) (ht:elOf Γ.P T=some (e,sz,by_,z)) (hm:rowH X∈Msh) (hi:c→0≤i∧X.els[i.toNat]?=some u)
  (hk:DV Γ ops Msh pool ((d,FC c (.pointer (some ⟨X.g,X.o+i.toNat*sz,none⟩)))::E) ((some d,FC c (.pointer (some ⟨X.g,X.o+i.toNat*sz,none⟩)))::rs) cs0 rest KD) :
  DV Γ ops Msh pool E rs cs0 ({ dst:=some d,op:=.indexAddr T x y,type:=ty,pos:=pos,after:=af,guard:=gd }::rest) KD :=
 DV_pure c _ hg (fun a w F hc hf hs=>by
  have e1:=hx.eval hf (by simp [Op.operands]) hc
  have e2:=hy.eval hf (by simp [Op.operands]) hc
  obtain ⟨h0,h1⟩:=hi hc
  rw [row_adr (hs.prs _ hm) h1] at e1
  simp [execOp,e1,e2,run_indexAt ht X.g X.o X.els.length X.cap k i i.toNat (by omega) (List.getElem?_eq_some_iff.1 h1).1 w]) hk
end Go.Proofs.SL
namespace Go.Proofs.SL
open Go
section
variable {α β σ τ:Type}
theorem wrap_succ {k:Nat} (h:k < 9223372036854775807):IntKind.wrap .i64 ((k:Int)+1)=((k+1:Nat):Int):=by rw [wrap64_in (by unfold inR;omega)];omega
theorem gb_true [Inhabited α] {o:Option α} {k:α→Option β}:gb true o k=o.bind k:=rfl
theorem gb_false [Inhabited α] {o:Option α} {k:α→Option β}:gb false o k=k default:=rfl
theorem gb_some [Inhabited α] {g:Bool} {a:α} {k:α→Option β} (h:g=false→k a=k default):gb g (some a) k=k a:=by
 cases g with
 | true=>rfl
 | false=>exact (h rfl).symm
def goE (step:τ→β→τ ⊕ Option α) (fin:τ→Option α):List β→τ→Option α
 | [],t=>fin t
 | x::xs,t=>match step t x with
  | .inl t'=>goE step fin xs t'
  | .inr r=>r
theorem whileP_go {f:σ→Option (σ ⊕ α)} {l:List β} (mk:Nat→τ→σ) (step:τ→β→τ ⊕ Option α) (fin:τ→Option α) (I:Nat→τ→Prop)
  (hs:∀ k t x,l[k]?=some x→I k t→(∃ t',step t x=.inl t'∧f (mk k t)=some (.inl (mk (k+1) t'))∧I (k+1) t')∨(∃ r,step t x=.inr r∧f (mk k t)=r.map .inr))
  (he:∀ t,I l.length t→f (mk l.length t)=(fin t).map .inr):∀ (xs:List β) (k:Nat) (t:τ),l.drop k=xs→I k t→k≤l.length→whileP f (mk k t)=goE step fin xs t
 | [],k,t,hd,hi,hk=>by
  have hlen:k=l.length:=by
   have:=congrArg List.length hd
   simp at this;omega
  subst hlen
  rw [whileP_eq,he t hi]
  show _=fin t
  cases fin t<;>rfl
 | x::xs,k,t,hd,hi,hk=>by
  have hx:l[k]?=some x:=by
   have:=congrArg (fun q=>q[0]?) hd
   simpa [List.getElem?_drop] using this
  have hlt:=(List.getElem?_eq_some_iff.1 hx).1
  have hd':l.drop (k+1)=xs:=by
   have:=congrArg List.tail hd
   simpa [List.tail_drop] using this
  rw [whileP_eq]
  rcases hs k t x hx hi with ⟨t',h1,h2,h3⟩ | ⟨r,h1,h2⟩
  ·rw [h2]
   show whileP f (mk (k+1) t')=_
   rw [whileP_go mk step fin I hs he xs (k+1) t' hd' h3 (by omega)]
   simp only [goE,h1]
  ·rw [h2]
   simp only [goE,h1]
   cases r<;>rfl
theorem whileP_for {f:σ→Option (σ ⊕ α)} {l:List β} (mk:Nat→τ→σ) (step:τ→β→τ ⊕ Option α) (fin:τ→Option α) (I:Nat→τ→Prop) (t0:τ) {s0:σ} (h0:mk 0 t0=s0) (hI:I 0 t0)
  (hs:∀ k t x,l[k]?=some x→I k t→(∃ t',step t x=.inl t'∧f (mk k t)=some (.inl (mk (k+1) t'))∧I (k+1) t')∨(∃ r,step t x=.inr r∧f (mk k t)=r.map .inr))
  (he:∀ t,I l.length t→f (mk l.length t)=(fin t).map .inr):whileP f s0=goE step fin l t0:=by
 subst h0
 exact whileP_go mk step fin I hs he l 0 t0 rfl hI (Nat.zero_le _)
theorem goE_fold (h:τ→β→τ) (g:τ→Option α):∀ (xs:List β) (t:τ),goE (fun t x=>(.inl (h t x):τ ⊕ Option α)) g xs t=g (xs.foldl h t)
 | [],t=>rfl
 | x::xs,t=>by simp only [goE,List.foldl_cons];exact goE_fold h g xs (h t x)
theorem appP_ok {δ:Type} {a b:List δ} (h:a.length+b.length≤4294967296):appP a b=some (a++b):=if_pos h
theorem catP_ok {a b:ByteArray} (h:a.size+b.size≤9223372036854775807):catP a b=some (a++b):=if_pos h
theorem lt_dec {k n:Nat} (h:k < n):decide ((k:Int) < (n:Int))=true:=decide_eq_true (by omega)
theorem ge_dec {n:Nat}:decide ((n:Int) < (n:Int))=false:=decide_eq_false (by omega)
theorem whileP_all {f:Int→Option (Int ⊕ α)} {n:Nat} (b:Nat→Bool) (no yes:Option α)
  (h:∀ k,k < n→f (k:Int)=if b k then some (.inl ((k+1:Nat):Int)) else no.map .inr) (hn:f (n:Int)=yes.map .inr):whileP f 0=if (List.range n).all b then yes else no:=by
 have key:∀ m k,n - k=m→k≤n→whileP f (k:Int)=if (List.range' k (n - k)).all b then yes else no:=by
  intro m
  induction m with
  | zero =>
   intro k hm hk
   have:k=n:=by omega
   subst this
   rw [whileP_eq,hn,Nat.sub_self]
   cases yes<;>rfl
  | succ m ih =>
   intro k hm hk
   rw [whileP_eq,h k (by omega),show n - k=(n - (k+1))+1 by omega,List.range'_succ,List.all_cons]
   cases hb:b k with
   | true =>
    simp only [if_true,Bool.true_and]
    exact ih (k+1) (by omega) (by omega)
   | false =>
    simp only [Bool.false_and,Bool.false_eq_true,if_false]
    cases no<;>rfl
 have:=key n 0 (by omega) (by omega)
 rw [Nat.sub_zero,← List.range_eq_range'] at this
 exact this
theorem whileP_find {γ:Type} {f:Int→Option (Int ⊕ γ)} {l:List β} (p:β→Bool) (q:Int→Option γ) (hl:l.length≤9223372036854775807)
  (hs:∀ (k:Nat) x,l[k]?=some x→f (k:Int)=if p x then (q k).map .inr else some (.inl (IntKind.wrap .i64 ((k:Int)+1)))) (he:f (l.length:Int)=(q (-1)).map .inr):whileP f 0=q (firstI p l):=by
 have key:∀ (xs:List β) (k:Nat),l.drop k=xs→k≤l.length→(∀ j x,j < k→l[j]?=some x→p x=false)→whileP f (k:Int)=q (firstI p l):=by
  intro xs
  induction xs with
  | nil =>
   intro k hd hk hf
   have hlen:k=l.length:=by have:=congrArg List.length hd;simp at this;omega
   subst hlen
   rw [whileP_eq,he,firstI_miss (fun x hx=>by
    obtain ⟨j,hj⟩:=List.getElem?_of_mem hx
    exact hf j x (List.getElem?_eq_some_iff.1 hj).1 hj)]
   cases q (-1)<;>rfl
  | cons x xs ih =>
   intro k hd hk hf
   have hx:l[k]?=some x:=by
    have:=congrArg (fun q=>q[0]?) hd
    simpa [List.getElem?_drop] using this
   have hlt:=(List.getElem?_eq_some_iff.1 hx).1
   rw [whileP_eq,hs k x hx]
   cases hp:p x with
   | true =>
    rw [firstI_hit (fun y hy=>by
     obtain ⟨j,hj⟩:=List.getElem?_of_mem hy
     have hjl:=(List.getElem?_eq_some_iff.1 hj).1
     rw [List.length_take] at hjl
     rw [List.getElem?_take_of_lt (by omega)] at hj
     exact hf j y (by omega) hj) hx hp]
    simp only [if_true]
    cases q (k:Int)<;>rfl
   | false =>
    simp only [Bool.false_eq_true,if_false]
    rw [wrap_succ (by omega)]
    refine ih (k+1) ?_ (by omega) (fun j y hj hy=>?_)
    ·have:=congrArg List.tail hd
     simpa [List.tail_drop] using this
    ·rcases Nat.lt_or_ge j k with h1 | h1
     ·exact hf j y h1 hy
     ·have:j=k:=by omega
      subst this
      rw [hx] at hy;cases hy;exact hp
 exact key l 0 rfl (Nat.zero_le _) (fun j x hj=>absurd hj (Nat.not_lt_zero _))
theorem all_range_get {l:List β} {p:β→Bool}:(List.range l.length).all (fun k=>(l[k]?).all p)=l.all p:=by
 rw [Bool.eq_iff_iff,List.all_eq_true,List.all_eq_true]
 constructor
 ·intro h x hx
  obtain ⟨i,hi⟩:=List.getElem?_of_mem hx
  have:=h i (List.mem_range.2 (List.getElem?_eq_some_iff.1 hi).1)
  rw [hi] at this;exact this
 ·intro h k hk
  have hk:=List.mem_range.1 hk
  rw [List.getElem?_eq_getElem hk]
  exact h _ (List.getElem_mem hk)
end
end Go.Proofs.SL
namespace Go.Proofs.SL
open Go
variable {Γ:Cx} {l:Envl} {M M' M1 M2 F:List HP} {Q:Post} {K:Kont} {w0 w:World} {S0:List Nat} {P:Program}
variable {rest:List Oper} {d:Nat} {ty:TypeId} {pos:String} {af:Array Edge}
variable {ops:Array Oper} {Msh pool:List HP} {E:Fl} {rs:List (Option Nat×Rel)} {cs0:List Nat} {KD:List (Option Nat×Rel)→List Nat→List HP→Prop} {gd:Option (Nat×Bool)}
section
variable {τ δ:Type} [GT τ δ]
theorem els_sub {xs ys zs:List τ} (hp:List.Perm xs (ys++zs)) (p:Pick (elsT xs) M M1) (h:Holds w0 S0 M w):Holds w0 S0 (elsT ys::M1) w:=by
 have h1:=h.perm p.perm
 have h2:Holds w0 S0 (elsT ys::elsT zs::M1) w:=by
  refine h1.reFp ?_ fun x hx=>?_
  ·simp only [fps_cons]
   show List.Perm (xs.flatMap GT.fp++fps M1) (ys.flatMap GT.fp++(zs.flatMap GT.fp++fps M1))
   rw [← List.append_assoc,← List.flatMap_append]
   exact (hp.flatMap_right _).append_right _
  ·have h3:=h1.prs (elsT xs) (List.mem_cons_self ..)
   rcases List.mem_cons.1 hx with rfl | hx
   ·exact fun y hy=>h3 y (hp.mem_iff.2 (List.mem_append_left _ hy))
   rcases List.mem_cons.1 hx with rfl | hx
   ·exact fun y hy=>h3 y (hp.mem_iff.2 (List.mem_append_right _ hy))
   ·exact h1.prs _ (List.mem_cons_of_mem _ hx)
 exact h2.sub ⟨[elsT zs],(List.perm_append_comm (l₁:=[elsT zs]) (l₂:=M1)).cons _⟩
theorem raw_facts {X:TL τ} (h:GT.ow w X) (hx:X.els≠[]):X.a=some ⟨X.g,0,none⟩∧X.els.length≤X.cap∧X.cap≤maxLen∧X.els.length*GT.sz τ+X.tail.length=X.cap*GT.sz τ∧w.heap[X.g]?=some (.cells (rowCells X.els++X.tail).toArray X.e (0,0)):=by
 obtain ⟨r1,r2,r3,r4,r5⟩:=h
 cases ha:X.a with
 | none=>exact (hx (r4 ha).1).elim
 | some a =>
  obtain ⟨h1,h2,h3,h4⟩:=r5 a ha
  have hg:X.g=a.block:=by unfold TL.g;rw [ha];rfl
  obtain ⟨b,o,s⟩:=a
  have h1:s=none:=h1
  have h2:o=0:=h2
  subst h1;subst h2
  refine ⟨by rw [hg],r1,r2,h4,by rw [hg];exact h3⟩
theorem raw_open {X:TL τ} (hx:X.els≠[]) (p:Pick (treeH X) M M1) (h:Holds w0 S0 M w):Holds w0 S0 (blk X.g (rowCells X.els++X.tail) X.e::elsT X.els::M1) w:=by
 have h1:=h.perm p.perm
 have ht:GT.ow w X:=h1.prs _ (List.mem_cons_self ..)
 obtain ⟨f1,_,_,_,f5⟩:=raw_facts ht hx
 refine h1.reFp (List.Perm.of_eq ?_) fun x hx=>?_
 ·simp only [fps_cons]
  show ((match X.a with | none=>[] | some a=>[a.block])++X.els.flatMap GT.fp)++fps M1=[X.g]++(X.els.flatMap GT.fp++fps M1)
  rw [f1,List.append_assoc]
 ·rcases List.mem_cons.1 hx with rfl | hx
  ·exact f5
  rcases List.mem_cons.1 hx with rfl | hx
  ·exact ht.2.2.1
  ·exact h1.prs _ (List.mem_cons_of_mem _ hx)
theorem W_raw {c:Code} {X:TL τ} (hx:X.els≠[]) (p:Pick (treeH X) M M1)
  (hk:X.a=some ⟨X.g,0,none⟩→X.els.length≤X.cap→X.cap≤maxLen→X.els.length*GT.sz τ+X.tail.length=X.cap*GT.sz τ→W Γ c l (blk X.g (rowCells X.els++X.tail) X.e::elsT X.els::M1) Q):W Γ c l M Q :=
 W_fact (φ:=X.a=some ⟨X.g,0,none⟩∧X.els.length≤X.cap∧X.cap≤maxLen∧X.els.length*GT.sz τ+X.tail.length=X.cap*GT.sz τ)
  (fun w h=>by obtain ⟨f1,f2,f3,f4,_⟩:=raw_facts ((h.perm p.perm).prs (treeH X) (List.mem_cons_self ..)) hx;exact ⟨f1,f2,f3,f4⟩)
  (fun ⟨f1,f2,f3,f4⟩=>W_conv (fun w h=>raw_open hx p h) (hk f1 f2 f3 f4))
theorem raw_close {g cap:Nat} {e:TypeId} {els:List τ} {tail cs:List Value} (hc:cs=rowCells els++tail) (h1:els.length≤cap) (h2:cap≤maxLen) (h3:els.length*GT.sz τ+tail.length=cap*GT.sz τ)
  (p:Pick (blk g cs e) M M1) (q:Pick (elsT els) M1 M2) (h:Holds w0 S0 M w):Holds w0 S0 (treeH (⟨some ⟨g,0,none⟩,cap,e,els,tail⟩:TL τ)::M2) w:=by
 subst hc
 have h4:=h.perm (p.perm.trans (q.perm.cons _))
 refine h4.reFp (List.Perm.of_eq ?_) fun x hx=>?_
 ·simp only [fps_cons]
  show [g]++(els.flatMap GT.fp++fps M2)=([g]++els.flatMap GT.fp)++fps M2
  rw [List.append_assoc]
 ·rcases List.mem_cons.1 hx with rfl | hx
  ·refine ⟨h1,h2,h4.prs (elsT els) (List.mem_cons_of_mem _ (List.mem_cons_self ..)),fun h=>(by cases h),fun a ha=>?_⟩
   cases ha
   exact ⟨rfl,rfl,h4.prs (blk g _ e) (List.mem_cons_self ..),h3⟩
  ·exact h4.prs _ (List.mem_cons_of_mem _ (List.mem_cons_of_mem _ hx))
end
def slA (o c lo sz:Nat):Nat:=if c=lo then o else o+lo*sz
theorem run_slV {T e sz by_:Nat} {z:List Value} {g o n c:Nat} {vlo vhi:Option Value} {a b:Int} (ht:elOf P T=some (e,sz,by_,z)) (hlo:(vlo=none∧a=0)∨∃ k,vlo=some (.int k a)) (hhi:(vhi=none∧b=(n:Int))∨∃ k,vhi=some (.int k b))
  (h0:0≤a) (h1:a≤b) (h2:b≤(c:Int)) (w:World):(Instr.sliceAt T (.slice (some ⟨g,o,none⟩) n c) vlo vhi none).run P w=.ok (.slice (some ⟨g,slA o c a.toNat sz,none⟩) (b.toNat - a.toNat) (c - a.toNat)) w:=by
 unfold elOf at ht
 split at ht<;>(try cases ht)
 rename_i e' het
 split at ht<;>(try cases ht)
 rename_i i' hi'
 split at ht<;>cases ht
 have e1:=fun k w=>run_sliceBound (P:=P) (k:=k) (code:=.sliceAcap) (show 0≤b by omega) (show b≤((c:Nat):Int) by omega) w
 have e2:=fun k w=>run_sliceBound (P:=P) (k:=k) (code:=.sliceB) h0 (show a≤((b.toNat:Nat):Int) by omega) w
 have hv:(if c=a.toNat then (⟨g,o,none⟩:Addr) else (⟨g,o,none⟩:Addr).add (a.toNat*i'.size))=⟨g,slA o c a.toNat i'.size,none⟩:=by
  unfold slA;split
  ·rfl
  ·rw [addr_add]
 rw [← hv]
 rcases hlo with ⟨rfl,rfl⟩ | ⟨k1,rfl⟩<;>rcases hhi with ⟨rfl,rfl⟩ | ⟨k2,rfl⟩
 ·simp [Instr.sliceAt,Instr.slice,underlying,het,Instr.sliceBounds,sizeOf,typeInfo,hi']
  split<;>rfl
 ·simp [Instr.sliceAt,Instr.slice,underlying,het,Instr.sliceBounds,sizeOf,typeInfo,hi',e1]
  split<;>rfl
 ·have e3:=fun k w=>run_sliceBound (P:=P) (k:=k) (code:=.sliceB) h0 (show a≤((n:Nat):Int) by omega) w
  simp [Instr.sliceAt,Instr.slice,underlying,het,Instr.sliceBounds,sizeOf,typeInfo,hi',e3]
  split<;>rfl
 ·simp [Instr.sliceAt,Instr.slice,underlying,het,Instr.sliceBounds,sizeOf,typeInfo,hi',e1,e2]
  split<;>rfl
theorem L_slV {x:Operand} {lo hi:Option Operand} {T e sz by_:Nat} {z:List Value} {g o n c:Nat} {a b:Int} (hn:Nat.blt d Γ.n=true) (hx:ev l x=some (.slice (some ⟨g,o,none⟩) n c)) (hlo:optI l lo 0=some a) (hhi:optI l hi (n:Int)=some b)
  (ht:elOf Γ.P T=some (e,sz,by_,z)) (h0:0≤a) (h1:a≤b) (h2:b≤(c:Int)) (hk:L Γ rest ((d,.slice (some ⟨g,slA o c a.toNat sz,none⟩) (b.toNat - a.toNat) (c - a.toNat))::l) M K) :
  L Γ ({ dst:=some d,op:=.slice T x lo hi none,type:=ty,pos:=pos,after:=af,guard:=none }::rest) l M K :=
 L_pure hn (fun a' w ha hw=>by
  have h3:=run_slV (P:=Γ.P) (T:=T) (g:=g) (o:=o) (n:=n) (c:=c) (vlo:=lo.map a'.eval) (vhi:=hi.map a'.eval) (a:=a) (b:=b) ht (by
   cases lo with
   | none=>cases hlo;exact .inl ⟨rfl,rfl⟩
   | some q=>obtain ⟨k,h⟩:=optI_some hlo;exact .inr ⟨k,by simp [ha.eval h]⟩) (by
   cases hi with
   | none=>cases hhi;exact .inl ⟨rfl,rfl⟩
   | some q=>obtain ⟨k,h⟩:=optI_some hhi;exact .inr ⟨k,by simp [ha.eval h]⟩) h0 h1 h2 w
  simp [execOp,ha.eval hx,h3]) hk
theorem D_slV {x:Operand} {lo hi:Option Operand} {T e sz by_:Nat} {z:List Value} {g o n c:Nat} {a b:Int} {cc:Prop} (hg:GC ops E { dst:=some d,op:=.slice T x lo hi none,type:=ty,pos:=pos,after:=af,guard:=gd } cc)
  (hx:OpV E x cc (.slice (some ⟨g,o,none⟩) n c)) (hlo:optD E lo cc 0 a) (hhi:optD E hi cc (n:Int) b) (ht:elOf Γ.P T=some (e,sz,by_,z)) (h0:0≤a) (h1:a≤b) (h2:b≤(c:Int))
  (hk:DV Γ ops Msh pool ((d,FC cc (.slice (some ⟨g,slA o c a.toNat sz,none⟩) (b.toNat - a.toNat) (c - a.toNat)))::E) ((some d,FC cc (.slice (some ⟨g,slA o c a.toNat sz,none⟩) (b.toNat - a.toNat) (c - a.toNat)))::rs) cs0 rest KD) :
  DV Γ ops Msh pool E rs cs0 ({ dst:=some d,op:=.slice T x lo hi none,type:=ty,pos:=pos,after:=af,guard:=gd }::rest) KD :=
 DV_pure cc _ hg (fun a' w F hc hf hs=>by
  have e0:=hx.eval hf (by simp [Op.operands]) hc
  have h3:=run_slV (P:=Γ.P) (T:=T) (g:=g) (o:=o) (n:=n) (c:=c) (vlo:=lo.map a'.eval) (vhi:=hi.map a'.eval) (a:=a) (b:=b) ht (by
   cases lo with
   | none=>cases hlo;exact .inl ⟨rfl,rfl⟩
   | some q=>obtain ⟨k,h⟩:=hlo;exact .inr ⟨k,by simp [OpV.eval h hf (by simp [Op.operands]) hc]⟩) (by
   cases hi with
   | none=>cases hhi;exact .inl ⟨rfl,rfl⟩
   | some q=>obtain ⟨k,h⟩:=hhi;exact .inr ⟨k,by simp [OpV.eval h hf (by simp [Op.operands]) hc]⟩) h0 h1 h2 w
  simp [execOp,e0,h3]) hk
theorem L_sl3 {x lo hi mx:Operand} {T e sz by_:Nat} {z:List Value} {g o n c:Nat} {a b m:Int} {k1 k2 k3:IntKind} (hn:Nat.blt d Γ.n=true) (hx:ev l x=some (.slice (some ⟨g,o,none⟩) n c)) (hlo:ev l lo=some (.int k1 a)) (hhi:ev l hi=some (.int k2 b)) (hmx:ev l mx=some (.int k3 m))
  (ht:elOf Γ.P T=some (e,sz,by_,z)) (h0:0≤a) (h1:a≤b) (h2:b≤m) (h3:m≤(c:Int)) (hk:∀ v,L Γ rest ((d,v)::l) M K) :
  L Γ ({ dst:=some d,op:=.slice T x (some lo) (some hi) (some mx),type:=ty,pos:=pos,after:=af,guard:=none }::rest) l M K:=by
 unfold elOf at ht
 split at ht<;>(try cases ht)
 rename_i e' het
 split at ht<;>(try cases ht)
 rename_i i' hi'
 split at ht<;>cases ht
 refine L_pure hn (v:=.slice (if m.toNat=a.toNat then some ⟨g,o,none⟩ else some ((⟨g,o,none⟩:Addr).add (a.toNat*i'.size))) (b.toNat - a.toNat) (m.toNat - a.toNat)) (fun a' w ha hw=>?_) (hk _)
 have e1:=fun w=>run_sliceBound (P:=Γ.P) (k:=k3) (code:=.slice3Acap) (show 0≤m by omega) (show m≤((c:Nat):Int) by omega) w
 have e2:=fun w=>run_sliceBound (P:=Γ.P) (k:=k2) (code:=.slice3B) (show 0≤b by omega) (show b≤((m.toNat:Nat):Int) by omega) w
 have e3:=fun w=>run_sliceBound (P:=Γ.P) (k:=k1) (code:=.slice3C) h0 (show a≤((b.toNat:Nat):Int) by omega) w
 simp [execOp,ha.eval hx,ha.eval hlo,ha.eval hhi,ha.eval hmx,Instr.sliceAt,Instr.slice,underlying,het,Instr.sliceBounds,sizeOf,typeInfo,hi',e1,e2,e3]
theorem cells_at {b:Nat} {cs:List Value} {T:TypeId} (hp:w.heap[b]?=some (.cells cs.toArray T (0,0))) (o n:Nat):∀ j v,((cs.drop o).take n)[j]?=some v→w.cell? ⟨b,o+j,none⟩=some v:=fun j v hv=>by
 rw [cell_of_row _ _ _ _ _ _ hp]
 simp only [List.getElem?_toArray]
 rw [List.getElem?_take] at hv
 split at hv
 ·rw [List.getElem?_drop] at hv;exact hv
 ·cases hv
theorem L_appRaw {s x:Operand} {T e sz by_ g n m c c2 o:Nat} {z cs:List Value} {e2:TypeId} (hn:Nat.blt d Γ.n=true) (hs:ev l s=some (.slice (some ⟨g,0,none⟩) n c)) (hx:ev l x=some (.slice (some ⟨g,o,none⟩) m c2))
  (ht:elOf Γ.P T=some (e,sz,by_,z)) (hp:Pick (blk g cs e2) M M1) (hroom:n+m≤c) (h1:o+m*sz≤cs.length) (h2:n*sz+m*sz≤cs.length) (hone:∀ u,u∈(cs.drop o).take (m*sz)→u.oneCell'=true)
  (hk:L Γ rest ((d,.slice (some ⟨g,0,none⟩) (n+m) c)::l) (blk g (cs.take (n*sz)++(cs.drop o).take (m*sz)++cs.drop (n*sz+m*sz)) e2::M1) K) :
  L Γ ({ dst:=some d,op:=.call { callee:=.builtin .append,args:=#[s,x],argTypes:=#[T,T] },type:=ty,pos,after:=af,guard:=none }::rest) l M K:=by
 refine L_step rfl rfl (Nat.le_of_ble_eq_true hn) (fun a w ha hw=>?_) hk
 unfold elOf at ht
 split at ht<;>(try cases ht)
 rename_i e' het
 split at ht<;>(try cases ht)
 rename_i i' hi'
 split at ht<;>cases ht
 have hw1:=hw.perm hp.perm
 have hh:w.heap[g]?=some (.cells cs.toArray e2 (0,0)):=hw1.prs (blk g cs e2) (List.mem_cons_self ..)
 have hl:((cs.drop o).take (m*i'.size)).length=m*i'.size:=by rw [List.length_take,List.length_drop];omega
 have hr:=run_append_roomE (P:=Γ.P) w T ty e e2 i' het hi' g n c cs.toArray hh ⟨g,o,none⟩ m c2 ((cs.drop o).take (m*i'.size)) hl
  (fun j u hu=>by rw [addr_add];exact cells_at hh o (m*i'.size) j u hu) hone hroom (by rw [hl];simpa using h2)
 rw [hl] at hr
 exact ⟨_,by simp [execOp,resolve,invoke,builtin,ha.eval hs,ha.eval hx,hr],setRow_blk hw1⟩
theorem flatten_rep (z:List Value) (n:Nat):((Array.range (n*z.length)).map (fun i=>(z.toArray)[i % z.length]!)).toList=(List.replicate n z).flatten:=by
 refine List.ext_getElem? fun i=>?_
 by_cases hz:z.length=0
 ·have:z=[]:=List.eq_nil_of_length_eq_zero hz
  subst this;simp
 ·have hpos:0 < z.length:=by omega
  by_cases hi:i < n*z.length
  ·have h1:i / z.length < n:=Nat.div_lt_of_lt_mul (by rw [Nat.mul_comm];exact hi)
   have h2:i % z.length < z.length:=Nat.mod_lt _ hpos
   simp only [Array.toList_map,Array.toList_range,List.getElem?_map,List.getElem?_range hi,Option.map_some]
   have key:∀ (n i:Nat),i < n*z.length→((List.replicate n z).flatten)[i]?=z[i % z.length]?:=by
    intro n
    induction n with
    | zero=>intro i h;simp at h
    | succ n ih =>
     intro i h
     rw [List.replicate_succ,List.flatten_cons]
     by_cases hlt:i < z.length
     ·rw [List.getElem?_append_left hlt,Nat.mod_eq_of_lt hlt]
     ·rw [List.getElem?_append_right (by omega),ih (i - z.length) (by rw [Nat.add_mul] at h;omega)]
      rw [← Nat.mod_eq_sub_mod (by omega)]
   rw [key n i hi,getElem!_pos z.toArray (i % z.length) (by simpa using h2)]
   simp [h2]
  ·rw [List.getElem?_eq_none (by simpa using hi),List.getElem?_eq_none (by simp;omega)]
theorem L_val0 {o:Oper} {v:Value} (hg:o.guard=none) (hd:o.dst=none)
  (he:∀ a w,Env a Γ.n l→Holds Γ.w0 Γ.S0 M w→∃ w',(execOp a.eval o).run Γ.P w=.ok (.value v) w'∧Holds Γ.w0 Γ.S0 M' w')
  (hk:L Γ rest l M' K):L Γ (o::rest) l M K:=fun ops a w Q ha hw hq =>
 wpList_plain hg fun K' hK'=>by
  obtain ⟨w',h1,h2⟩:=he a w ha hw
  unfold Oper.wp
  rw [h1,Oper.upon_value,hd]
  exact hK' _ _ (hk ops _ w' Q (by simpa [Act.put] using ha) h2 hq)
theorem run_clr {T e sz by_ g o n c:Nat} {z cs:List Value} {e2:TypeId} (ht:elOf P T=some (e,sz,by_,z)) (hz:z.length=sz) (hone:∀ u,u∈z→u.oneCell'=true)
  (hh:w.heap[g]?=some (.cells cs.toArray e2 (0,0))) (h1:o+n*sz≤cs.length) (hn:n≠0) (ty:TypeId) :
  (Builtin.clear_ #[T] ty #[.slice (some ⟨g,o,none⟩) n c]).run P w=.ok (.tuple #[]) (w.setRow g (cs.take o++(List.replicate n z).flatten++cs.drop (o+n*sz)).toArray):=by
 unfold elOf at ht
 split at ht<;>(try cases ht)
 rename_i e' het
 split at ht<;>(try cases ht)
 rename_i i' hi'
 split at ht<;>cases ht
 rename_i z' hz'
 have hfl:((List.replicate n z'.cells.toList).flatten).length=n*i'.size:=by simp [hz]
 have hs:=run_store_blk (P:=P) (fo:=o) (vs:=(List.replicate n z'.cells.toList).flatten) (ty:=0) hh (by rw [hfl];exact h1) (fun u hu=>by
  obtain ⟨q,hq,hu⟩:=List.mem_flatten.1 hu
  rw [List.eq_of_mem_replicate hq] at hu
  exact hone u hu)
 rw [hfl] at hs
 have hzc:(Builtin.zeroCells z'.cells n).toList=(List.replicate n z'.cells.toList).flatten:=flatten_rep z'.cells.toList n
 obtain ⟨k,rfl⟩:=Nat.exists_eq_succ_of_ne_zero hn
 simp only [Builtin.clear_]
 simp [underlying,het,zeroValue,typeInfo,hi',hz',hzc,hs]
theorem L_clrRaw {x:Operand} {T e sz by_ g o n c:Nat} {z cs:List Value} {e2:TypeId} (hx:ev l x=some (.slice (some ⟨g,o,none⟩) n c)) (ht:elOf Γ.P T=some (e,sz,by_,z)) (hz:z.length=sz) (hone:∀ u,u∈z→u.oneCell'=true)
  (hp:Pick (blk g cs e2) M M1) (h1:o+n*sz≤cs.length) (hn:n≠0)
  (hk:L Γ rest l (blk g (cs.take o++(List.replicate n z).flatten++cs.drop (o+n*sz)) e2::M1) K) :
  L Γ ({ dst:=none,op:=.call { callee:=.builtin .clear,args:=#[x],argTypes:=#[T] },type:=ty,pos,after:=af,guard:=none }::rest) l M K :=
 L_val0 (v:=.tuple #[]) rfl rfl (fun a w ha hw=>by
  have hw1:=hw.perm hp.perm
  have hh:w.heap[g]?=some (.cells cs.toArray e2 (0,0)):=hw1.prs (blk g cs e2) (List.mem_cons_self ..)
  have hr:=run_clr (P:=Γ.P) (c:=c) ht hz hone hh h1 hn ty
  exact ⟨_,by simp [execOp,resolve,invoke,builtin,ha.eval hx,hr],setRow_blk hw1⟩) hk
def delP {δ:Type} (xs:List δ) (i j:Int):Option (List δ):=if 0≤i∧i < j∧j≤xs.length then some (xs.take i.toNat++xs.drop j.toNat) else none
section
variable {τ δ:Type} [GT τ δ]
theorem perm_del (xs:List τ) (i j:Nat) (h:i≤j):List.Perm xs ((xs.take i++xs.drop j)++(xs.drop i).take (j - i)):=by
 have h1:xs=xs.take i++((xs.drop i).take (j - i)++xs.drop j):=by
  have h2:(xs.drop i).drop (j - i)=xs.drop j:=by rw [List.drop_drop];congr 1;omega
  rw [← h2,List.take_append_drop,List.take_append_drop]
 conv=>lhs;rw [h1]
 rw [List.append_assoc]
 exact (List.perm_append_comm).append_left _
theorem sl0 (c sz:Nat):slA 0 c 0 sz=0:=by unfold slA;split<;>simp
theorem slLt {c lo sz:Nat} (h:lo < c):slA 0 c lo sz=lo*sz:=by unfold slA;rw [if_neg (by omega)];simp
theorem seg_drop {X:TL τ} {j sz:Nat} (hsz:GT.sz τ=sz) (hj:j≤X.els.length) (hc:X.els.length≤X.cap):((rowCells X.els++X.tail).drop (slA 0 X.cap j sz)).take ((X.els.length - j)*sz)=rowCells (X.els.drop j):=by
 subst hsz
 rcases Nat.lt_or_ge j X.cap with h | h
 ·rw [slLt h]
  have h1:rowCells X.els=rowCells (X.els.take j)++rowCells (X.els.drop j):=by rw [← rowCells_append,List.take_append_drop]
  have h2:(rowCells (X.els.take j)).length=j*GT.sz τ:=by rw [length_rowCells,List.length_take,Nat.min_eq_left hj]
  have h3:(rowCells (X.els.drop j)).length=(X.els.length - j)*GT.sz τ:=by rw [length_rowCells,List.length_drop]
  rw [h1,List.append_assoc,← h2,List.drop_left,← h3,List.take_left]
 ·have:X.els.length - j=0:=by omega
  rw [this,Nat.zero_mul,List.take_zero,List.drop_of_length_le (by omega)];rfl
theorem del_cells {xs:List τ} {t:List Value} {i j n sz:Nat} (z:List Value) (hsz:GT.sz τ=sz) (hn:n=xs.length) (hij:i < j) (hj:j≤n) (cs:List Value) (hcs:cs=(rowCells xs++t).take (i*sz)++rowCells (xs.drop j)++(rowCells xs++t).drop (i*sz+(n - j)*sz)) :
  cs.take ((i+(n - j))*sz)++z++cs.drop ((i+(n - j))*sz+(n - (i+(n - j)))*sz)=rowCells (xs.take i++xs.drop j)++(z++t):=by
 subst hsz;subst hn;subst hcs
 have h1:(rowCells xs++t).take (i*GT.sz τ)=rowCells (xs.take i):=by
  have h1:rowCells xs=rowCells (xs.take i)++rowCells (xs.drop i):=by rw [← rowCells_append,List.take_append_drop]
  have h2:(rowCells (xs.take i)).length=i*GT.sz τ:=by rw [length_rowCells,List.length_take,Nat.min_eq_left (by omega)]
  rw [h1,List.append_assoc,← h2,List.take_left]
 have h2:(rowCells (xs.take i)++rowCells (xs.drop j)).length=(i+(xs.length - j))*GT.sz τ:=by
  rw [← rowCells_append,length_rowCells,List.length_append,List.length_take,List.length_drop,Nat.min_eq_left (by omega)]
 rw [h1,← h2,List.take_left,rowCells_append]
 have h3:(xs.length - (i+(xs.length - j)))*GT.sz τ+(i*GT.sz τ+(xs.length - j)*GT.sz τ)=xs.length*GT.sz τ:=by
  rw [← Nat.add_mul,← Nat.add_mul];congr 1;omega
 rw [List.drop_append,List.drop_of_length_le (Nat.le_add_right _ _),List.nil_append,Nat.add_sub_cancel_left,List.drop_drop]
 rw [show i*GT.sz τ+(xs.length - j)*GT.sz τ+(xs.length - (i+(xs.length - j)))*GT.sz τ=xs.length*GT.sz τ by omega]
 have h4:(rowCells xs).length=xs.length*GT.sz τ:=length_rowCells _
 rw [← h4,List.drop_left]
 simp only [List.append_assoc]
theorem row_drop (xs:List τ) (i:Nat) (t:List Value) (hi:i≤xs.length):(rowCells xs++t).drop (i*GT.sz τ)=rowCells (xs.drop i)++t:=by
 have h1:rowCells xs=rowCells (xs.take i)++rowCells (xs.drop i):=by rw [← rowCells_append,List.take_append_drop]
 have h2:(rowCells (xs.take i)).length=i*GT.sz τ:=by rw [length_rowCells,List.length_take,Nat.min_eq_left hi]
 rw [h1,List.append_assoc,← h2,List.drop_left]
end
end Go.Proofs.SL
namespace Go.Proofs.SL
open Go
theorem RdT.w0 {Γ:Cx} {τ δ:Type} [GT τ δ] {t:τ} (h:RdT Γ [] t):GT.rd Γ.w0 [] t:=h Γ.w0 ⟨fun _ _ _=>rfl,fun _ h=>by cases h⟩
end Go.Proofs.SL
namespace Go.Proofs.SL
open Go
variable {Γ:Cx} {l:Envl} {M M' M1 M2 F:List HP} {Q:Post} {K:Kont} {w0 w:World} {S0:List Nat} {P:Program}
variable {rest:List Oper} {d:Nat} {ty:TypeId} {pos:String} {af:Array Edge}
def RdX {τ δ:Type} [GT τ δ] (Γ:Cx) (M1 M2:List HP) (t:τ):Prop:=∀ w,Holds Γ.w0 Γ.S0 (M1++M2) w→GT.rd w (fps M1) t
section
variable {τ δ:Type} [GT τ δ] {t:τ}
theorem RdX.old (h:GT.rd Γ.w0 Γ.S0 t):RdX Γ M1 M2 t:=fun _ hw=>GT.rd_mono h fun _ _ ho=>ho.carry hw
theorem RdX.tree (h:treeH t∈M2):RdX Γ M1 M2 t:=fun w hw=>by
 have ho:GT.ow w t:=hw.prs (treeH t) (List.mem_append_right _ h)
 refine GT.ow_rd ho fun k hk hk1=>?_
 have hnd:=hw.nodup
 rw [fps_append] at hnd
 exact (List.nodup_append.1 hnd).2.2 k hk1 k (List.mem_flatMap.2 ⟨_,h,hk⟩) rfl
theorem RdX.fst {α β δ ε:Type} [GT α δ] [GT β ε] {t:α×β} (h:RdX Γ M1 M2 t):RdX Γ M1 M2 t.1:=fun w hw=>(h w hw).1
theorem RdX.snd {α β δ ε:Type} [GT α δ] [GT β ε] {t:α×β} (h:RdX Γ M1 M2 t):RdX Γ M1 M2 t.2:=fun w hw=>(h w hw).2
theorem RdX.of {X:TL τ} {j:Nat} {x:τ} (h:RdX Γ M1 M2 X) (hi:X.els[j]?=some x):RdX Γ M1 M2 x:=fun w hw=>(h w hw).2.2.1 x (List.mem_of_getElem? hi)
theorem RdX.pair {α β δ ε:Type} [GT α δ] [GT β ε] {a:α} {b:β} (h1:RdX Γ M1 M2 a) (h2:RdX Γ M1 M2 b):RdX Γ M1 M2 (a,b):=fun w hw=>⟨h1 w hw,h2 w hw⟩
theorem RdX.int {n:Int}:RdX Γ M1 M2 n:=fun _ _=>trivial
theorem RdX.bool {n:Bool}:RdX Γ M1 M2 n:=fun _ _=>trivial
theorem RdX.str {n:ByteArray}:RdX Γ M1 M2 n:=fun _ _=>trivial
theorem RdX.u8 {n:UInt8}:RdX Γ M1 M2 n:=fun _ _=>trivial
theorem nil_rd {w:World} {S:List Nat} (e:TypeId):GT.rd w S (TL.nil τ e):=⟨Nat.le_refl _,by simp [TL.nil,maxLen],fun x hx=>by simp [TL.nil] at hx,fun _=>rfl,fun a ha=>by simp [TL.nil] at ha⟩
theorem RdX.nil (e:TypeId):RdX Γ M1 M2 (TL.nil τ e):=fun _ _=>nil_rd e
theorem RdX.map {α δ':Type} [GT α δ'] {a:α} (f:∀ w S,GT.rd w S a→GT.rd w S t) (h:RdX Γ M1 M2 a):RdX Γ M1 M2 t:=fun w hw=>f w _ (h w hw)
theorem RdX.map2 {α β δ' ε:Type} [GT α δ'] [GT β ε] {a:α} {b:β} (f:∀ w S,GT.rd w S a→GT.rd w S b→GT.rd w S t) (h:RdX Γ M1 M2 a) (h2:RdX Γ M1 M2 b):RdX Γ M1 M2 t:=fun w hw=>f w _ (h w hw) (h2 w hw)
theorem RdT.map {α δ':Type} [GT α δ'] {a:α} (f:∀ w S,GT.rd w S a→GT.rd w S t) (h:RdT Γ M a):RdT Γ M t:=fun w hw=>f w _ (h w hw)
theorem RdT.map2 {α β δ' ε:Type} [GT α δ'] [GT β ε] {a:α} {b:β} (f:∀ w S,GT.rd w S a→GT.rd w S b→GT.rd w S t) (h:RdT Γ M a) (h2:RdT Γ M b):RdT Γ M t:=fun w hw=>f w _ (h w hw) (h2 w hw)
end
def RdO {τ δ:Type} [GT τ δ] (w:World) (S:List Nat) (t:τ):Prop:=GT.rd w S t
section
variable {τ δ:Type} [GT τ δ] {t:τ} {S:List Nat}
theorem RdO.old (h:GT.rd w S t):RdO w S t:=h
theorem RdO.fst {α β δ ε:Type} [GT α δ] [GT β ε] {t:α×β} (h:RdO w S t):RdO w S t.1:=h.1
theorem RdO.snd {α β δ ε:Type} [GT α δ] [GT β ε] {t:α×β} (h:RdO w S t):RdO w S t.2:=h.2
theorem RdO.of {X:TL τ} {j:Nat} {x:τ} (h:RdO w S X) (hi:X.els[j]?=some x):RdO w S x:=h.2.2.1 x (List.mem_of_getElem? hi)
theorem RdO.pair {α β δ ε:Type} [GT α δ] [GT β ε] {a:α} {b:β} (h1:RdO w S a) (h2:RdO w S b):RdO w S (a,b):=⟨h1,h2⟩
theorem RdO.int {n:Int}:RdO w S n:=trivial
theorem RdO.bool {n:Bool}:RdO w S n:=trivial
theorem RdO.str {n:ByteArray}:RdO w S n:=trivial
theorem RdO.u8 {n:UInt8}:RdO w S n:=trivial
theorem RdO.nil (e:TypeId):RdO w S (TL.nil τ e):=nil_rd e
theorem RdO.map {α δ':Type} [GT α δ'] {a:α} (f:∀ w S,GT.rd w S a→GT.rd w S t) (h:RdO w S a):RdO w S t:=f w _ h
theorem RdO.map2 {α β δ' ε:Type} [GT α δ'] [GT β ε] {a:α} {b:β} (f:∀ w S,GT.rd w S a→GT.rd w S b→GT.rd w S t) (h:RdO w S a) (h2:RdO w S b):RdO w S t:=f w _ h h2
end
theorem L_callM {f:Nat} {xs:List Operand} {ats:Array TypeId} {vs:List Value} {R:Value→List HP→Prop} (M1 M2:List HP)
  (hn:Nat.blt d Γ.n=true) (hf:IsFn Γ.P f) (hx:evs l xs=some vs) (hp:List.Perm M (M1++M2)) (hc:∀ w,Holds Γ.w0 Γ.S0 (M1++M2) w→Spec Γ.P f vs.toArray w M1 R)
  (hk:∀ v M',R v M'→L Γ rest ((d,v)::l) (M'++M2) K):L Γ ({ dst:=some d,op:=.call { callee:=.value (.func f),args:=xs.toArray,argTypes:=ats },type:=ty,pos:=pos,after:=af,guard:=none }::rest) l M K :=
 L_call (M1:=M1) (M2:=M2) (R:=R) rfl rfl rfl (Nat.le_of_ble_eq_true hn) hf hx hp hc hk
end Go.Proofs.SL
namespace Go.Proofs.SL
open Go
variable {Γ:Cx} {l:Envl} {M M' M1 M2 F:List HP} {Q:Post} {K:Kont} {w0 w:World} {S0:List Nat} {P:Program}
variable {rest:List Oper} {d:Nat} {ty:TypeId} {pos:String} {af:Array Edge}
section
variable {τ δ:Type} [GT τ δ]
theorem L_slM {x:Operand} {lo hi:Option Operand} {T e sz by_:Nat} {z:List Value} {X:TL τ} {a b:Int} {r:List δ} (hn:Nat.blt d Γ.n=true) (hx:ev l x=some X.hdr) (hlo:optI l lo 0=some a) (hhi:optI l hi ((GT.dat X).length:Int)=some b)
  (ht:elOf Γ.P T=some (e,sz,by_,z)) (hsz:GT.sz τ=sz) (hm:rowH X∈M) (hr:slcP (GT.dat X) a b=some r)
  (hk:∀ X':TL τ,GT.dat X'=r→X'=slc X a.toNat b.toNat→L Γ rest ((d,X'.hdr)::l) M K) :
  L Γ ({ dst:=some d,op:=.slice T x lo hi none,type:=ty,pos:=pos,after:=af,guard:=none }::rest) l M K:=by
 unfold slcP at hr
 split at hr
 ·rename_i hb
  cases hr
  rw [dat_els,List.length_map] at hb hhi
  obtain ⟨h0,h1,h2⟩:=hb
  have h1':a.toNat≤b.toNat:=by omega
  have h2':b.toNat≤X.els.length:=by omega
  refine L_pure hn (v:=(slc X a.toNat b.toNat).hdr) (fun a' w ha hw=>?_) (hk (slc X a.toNat b.toNat) (by rw [dat_els,dat_els];simp [slc,List.map_take,List.map_drop]) rfl)
  have hcap:X.els.length≤X.cap:=(hw.prs _ hm).1
  unfold elOf at ht
  split at ht<;>(try cases ht)
  rename_i e' het
  split at ht<;>(try cases ht)
  rename_i i' hi'
  split at ht<;>cases ht
  have hlen:((X.els.drop a.toNat).take (b.toNat - a.toNat)).length=b.toNat - a.toNat:=by simp;omega
  have hv:(slc X a.toNat b.toNat).hdr=.slice (if X.cap=a.toNat then X.a else X.a.map (·.add (a.toNat*i'.size))) (b.toNat - a.toNat) (X.cap - a.toNat):=by
   show Value.slice _ ((X.els.drop a.toNat).take (b.toNat - a.toNat)).length _=_
   rw [hlen];simp only [slc,hsz]
  rw [hv]
  have e1:a'.eval x=.slice X.a X.els.length X.cap:=ha.eval hx
  cases lo with
  | none =>
   cases hlo
   cases hi with
   | none =>
    cases hhi
    simp only [execOp,Option.map_none,e1,Instr.sliceAt,Instr.slice,underlying,Sem.run_bind,run_program,Result.andThen_ok,het,Instr.sliceBounds,Sem.run_pure,sizeOf,typeInfo,hi']
    simp
   | some o =>
    obtain ⟨k,h5⟩:=optI_some hhi
    have e2:=ha.eval h5
    have e4:=fun w=>run_sliceBound (P:=Γ.P) (k:=k) (code:=.sliceAcap) (show 0≤b by omega) (show b≤((X.cap:Nat):Int) by omega) w
    simp [execOp,e1,e2,Instr.sliceAt,Instr.slice,underlying,het,Instr.sliceBounds,sizeOf,typeInfo,hi',e4]
  | some o1 =>
   obtain ⟨k1,h6⟩:=optI_some hlo
   have e3:=ha.eval h6
   cases hi with
   | none =>
    cases hhi
    have e4:=fun w=>run_sliceBound (P:=Γ.P) (k:=k1) (code:=.sliceB) h0 (show a≤((X.els.length:Nat):Int) by omega) w
    simp [execOp,e1,e3,Instr.sliceAt,Instr.slice,underlying,het,Instr.sliceBounds,sizeOf,typeInfo,hi',e4]
   | some o =>
    obtain ⟨k,h5⟩:=optI_some hhi
    have e2:=ha.eval h5
    have e4:=fun w=>run_sliceBound (P:=Γ.P) (k:=k) (code:=.sliceAcap) (show 0≤b by omega) (show b≤((X.cap:Nat):Int) by omega) w
    have e5:=fun w=>run_sliceBound (P:=Γ.P) (k:=k1) (code:=.sliceB) h0 (show a≤((b.toNat:Nat):Int) by omega) w
    simp [execOp,e1,e2,e3,Instr.sliceAt,Instr.slice,underlying,het,Instr.sliceBounds,sizeOf,typeInfo,hi',e4,e5]
 ·cases hr
def chkP (b:Bool):Option Unit:=if b then some () else none
theorem chkP_some {b:Bool} {u:Unit} (h:chkP b=some u):b=true:=by
 unfold chkP at h;split at h
 ·assumption
 ·cases h
theorem slcP_some {α:Type} {l r:List α} {a b:Int} (h:slcP l a b=some r):0≤a∧a≤b∧b≤l.length∧r=(l.drop a.toNat).take (b.toNat - a.toNat):=by
 unfold slcP at h;split at h
 ·rename_i hb;cases h;exact ⟨hb.1,hb.2.1,hb.2.2,rfl⟩
 ·cases h
theorem els_split2 {xs ys zs us:List τ} (hp:List.Perm xs (us++(ys++zs))) (h:Holds w0 S0 (elsT xs::M) w):Holds w0 S0 (elsT ys::elsT zs::M) w:=by
 have h2:Holds w0 S0 (elsT ys::elsT zs::elsT us::M) w:=by
  refine h.reFp ?_ fun x hx=>?_
  ·simp only [fps_cons]
   show List.Perm (xs.flatMap GT.fp++fps M) (ys.flatMap GT.fp++(zs.flatMap GT.fp++(us.flatMap GT.fp++fps M)))
   rw [← List.append_assoc,← List.append_assoc,← List.flatMap_append,← List.flatMap_append]
   exact ((hp.trans List.perm_append_comm).flatMap_right _).append_right _
  ·have h3:=h.prs (elsT xs) (List.mem_cons_self ..)
   rcases List.mem_cons.1 hx with rfl | hx
   ·exact fun y hy=>h3 y (hp.mem_iff.2 (List.mem_append_right _ (List.mem_append_left _ hy)))
   rcases List.mem_cons.1 hx with rfl | hx
   ·exact fun y hy=>h3 y (hp.mem_iff.2 (List.mem_append_right _ (List.mem_append_right _ hy)))
   rcases List.mem_cons.1 hx with rfl | hx
   ·exact fun y hy=>h3 y (hp.mem_iff.2 (List.mem_append_left _ hy))
   ·exact h.prs _ (List.mem_cons_of_mem _ hx)
 exact h2.sub ⟨[elsT us],by
  refine ((List.perm_append_comm (l₁:=[elsT us]) (l₂:=M)).cons _).cons _⟩
theorem drop_cut (xs:List τ) {k a b:Nat} (h1:k≤a) (h2:a≤b):xs.drop k=(xs.drop k).take (a - k)++((xs.drop a).take (b - a)++xs.drop b):=by
 have e1:xs.drop a=(xs.drop k).drop (a - k):=by rw [List.drop_drop];congr 1;omega
 have e2:xs.drop b=(xs.drop a).drop (b - a):=by rw [List.drop_drop];congr 1;omega
 rw [e2,List.take_append_drop,e1,List.take_append_drop]
theorem L_appM {s x:Operand} {T e sz by_ k:Nat} {z:List Value} {X V Y:TL τ} {a b:Int} {r r':List δ} {u:Unit} (hn:Nat.blt d Γ.n=true)
  (hs:ev l s=some X.hdr) (hx:ev l x=some Y.hdr) (ht:elOf Γ.P T=some (e,sz,by_,z)) (hsz:GT.sz τ=sz) (hz:z.length=sz)
  (hp:Pick (treeH X) M M1) (he:Y=slc V a.toNat b.toNat) (hsl:slcP (GT.dat V) a b=some r') (hm:rowH V∈M1) (hq:Pick (elsT (V.els.drop k)) M1 M2)
  (hka:chkP (decide (k≤a.toNat))=some u) (hr:appP (GT.dat X) (GT.dat Y)=some r) (hb:by_≤32768)
  (hk:∀ X':TL τ,GT.dat X'=r→L Γ rest ((d,X'.hdr)::l) (treeH X'::elsT (V.els.drop b.toNat)::M2) K) :
  L Γ ({ dst:=some d,op:=.call { callee:=.builtin .append,args:=#[s,x],argTypes:=#[T,T] },type:=ty,pos,after:=af,guard:=none }::rest) l M K:=by
 have hka:=of_decide_eq_true (chkP_some hka)
 obtain ⟨h1,rfl⟩:=appP_some hr
 obtain ⟨s0,s1,s2,-⟩:=slcP_some hsl
 rw [dat_els,List.length_map] at s2
 have hab:a.toNat≤b.toNat:=by omega
 have hbl:b.toNat≤V.els.length:=by omega
 have hye:Y.els=(V.els.drop a.toNat).take (b.toNat - a.toNat):=by rw [he];rfl
 have hcut:=drop_cut V.els hka hab
 rw [← hye] at hcut
 simp only [dat_els,List.length_map] at h1
 cases hya:Y.a with
 | some ad =>
  refine L_appA (ys:=Y.els) (M2:=elsT (V.els.drop b.toNat)::M2) hn hs (by rw [hx];show some (Value.slice Y.a _ _)=_;rw [hya]) ht hsz hz hp rfl (fun w hw j v hv=>?_) (fun w R h=>?_) h1 hb
   (fun X' h=>hk X' (by rw [dat_els,h,List.map_append];rfl))
  ·have hmm:rowH V∈M:=by
    have:=hp.perm.mem_iff (a:=rowH V)
    exact this.2 (List.mem_cons_of_mem _ hm)
   obtain ⟨r1,r2,r3,r4⟩:=hw.prs _ hmm
   have hlt:a.toNat < V.els.length:=by
    rcases Nat.lt_or_ge a.toNat V.els.length with h | h
    ·exact h
    ·rw [hye,List.drop_of_length_le h] at hv;simp [rowCells] at hv
   cases hva:V.a with
   | none=>have:=(r3 hva).1;rw [this] at hlt;simp at hlt
   | some va =>
    obtain ⟨g1,g2,g3,g4⟩:=r4 va hva
    have had:ad=va.add (a.toNat*GT.sz τ):=by
     have:Y.a=some (va.add (a.toNat*GT.sz τ)):=by
      rw [he];unfold slc
      have hne:¬ V.cap=a.toNat:=by omega
      simp only [if_neg hne,hva];rfl
     rw [hya] at this;exact Option.some.inj this
    obtain ⟨vb,vo,vs⟩:=va
    have g1:vs=none:=g1
    have g2:vo=0:=g2
    subst g1;subst g2
    rw [had]
    have e3:(Addr.add (Addr.add ⟨vb,0,none⟩ (a.toNat*GT.sz τ)) j)=⟨vb,a.toNat*GT.sz τ+j,none⟩:=by rw [addr_add,addr_add,Nat.zero_add]
    rw [e3,cell_of_row _ _ _ _ _ _ g3]
    simp only [List.getElem?_toArray]
    have e4:(rowCells V.els++V.tail)[a.toNat*GT.sz τ+j]?=((rowCells V.els++V.tail).drop (a.toNat*GT.sz τ))[j]?:=by rw [List.getElem?_drop]
    rw [e4,row_drop _ _ _ (by omega)]
    have e5:V.els.drop a.toNat=Y.els++V.els.drop b.toNat:=by
     have:=drop_cut V.els (Nat.le_refl a.toNat) hab
     rw [← hye] at this;simpa using this
    rw [e5,rowCells_append,List.append_assoc,List.getElem?_append_left (List.getElem?_eq_some_iff.1 hv).1]
    exact hv
  ·have h2:=h.perm (List.Perm.append_right R hq.perm)
   exact els_split2 (List.Perm.of_eq hcut) h2
 | none =>
  intro ops a' w Q ha hw
  have hm':rowH V∈treeH X::M1:=List.mem_cons_of_mem _ hm
  have hw1:=hw.perm hp.perm
  obtain ⟨r1,r2,r3,r4⟩:=hw1.prs _ hm'
  have hye0:Y.els=[]:=by
   rcases Nat.lt_or_ge a.toNat V.cap with h | h
   ·have hne:¬ V.cap=a.toNat:=by omega
    have:Y.a=V.a.map (·.add (a.toNat*GT.sz τ)):=by rw [he];unfold slc;simp only [if_neg hne]
    rw [hya] at this
    cases hva:V.a with
    | none=>rw [hye,(r3 hva).1];simp
    | some va=>rw [hva] at this;cases this
   ·rw [hye,List.drop_of_length_le (by omega)];simp
  have hk':=hk X (by rw [dat_els Y,hye0];simp)
  have hr:GT.ow w X:=hw1.prs _ (List.mem_cons_self ..)
  refine L_step rfl rfl (Nat.le_of_ble_eq_true hn) (fun a' w ha hw=>⟨w,?_,?_⟩) hk' ops a' w Q ha hw
  ·have hr:GT.ow w X:=(hw.perm hp.perm).prs _ (List.mem_cons_self ..)
   have h3:=append_none (P:=Γ.P) (w:=w) (a:=X.a) (n:=X.els.length) (c:=X.cap) (c2:=Y.cap) ht hr.1 ty
   have h5:(Builtin.append_ #[T,T] ty #[X.hdr,.slice none 0 Y.cap]).run Γ.P w=.ok X.hdr w:=h3
   have h6:=ha.eval hx
   have h7:Y.hdr=.slice none 0 Y.cap:=by show Value.slice Y.a _ _=_;rw [hya,hye0];rfl
   rw [h7] at h6
   generalize X.hdr=uu at *
   simp [execOp,resolve,invoke,builtin,ha.eval hs,h6,h5]
  ·have h2:=(hw.perm hp.perm).perm (hq.perm.cons _)
   have h4:=h2.perm (List.Perm.swap _ _ _)
   have h5:=els_split2 (List.Perm.of_eq hcut) h4
   have h6:Holds Γ.w0 Γ.S0 (elsT Y.els::treeH X::elsT (V.els.drop b.toNat)::M2) w:=h5.perm (((List.Perm.swap _ _ _)).cons _)
   exact h6.sub ⟨[elsT Y.els],(List.perm_append_comm (l₁:=[elsT Y.els]) (l₂:=treeH X::elsT (V.els.drop b.toNat)::M2))⟩
end
end Go.Proofs.SL
namespace Go.Proofs.SL
open Go
variable {Γ:Cx} {l:Envl} {M M' M1 M2 F:List HP} {Q:Post} {K:Kont} {w0 w:World} {S0:List Nat}
variable {rest:List Oper} {d:Nat} {ty:TypeId} {pos:String} {af:Array Edge}
variable {ops:Array Oper} {Msh pool pool':List HP} {E:Fl} {rs:List (Option Nat×Rel)} {cs0:List Nat} {KD:List (Option Nat×Rel)→List Nat→List HP→Prop}
section
variable {τ δ:Type} [GT τ δ]
def AggO (f:Value→Value) (r:List δ):Rel:=fun v M=>∃ X:TL τ,v=f X.hdr∧GT.dat X=r∧M=[treeH X]
def RowO (f:Value→Value) (e:TypeId) (r:List δ):Rel:=fun v M=>∃ (X:TL τ) (b:Nat),v=.slice (some ⟨b,0,none⟩) 1 1∧GT.dat X=r∧M=[blk b (f X.hdr).cells.toList e,treeH X]
def OpVp (E:Fl):List (Nat×Operand)→List (Nat×Value)→Prop
 | [],[]=>True
 | x::xs,v::vs=>(x.1=v.1∧OpV E x.2 True v.2)∧OpVp E xs vs
 | _,_=>False
theorem OpVp.nil:OpVp E [] []:=trivial
theorem OpVp.cons {i:Nat} {x:Operand} {v:Value} {xs:List (Nat×Operand)} {vs:List (Nat×Value)} (h:OpV E x True v) (hs:OpVp E xs vs):OpVp E ((i,x)::xs) ((i,v)::vs):=⟨⟨rfl,h⟩,hs⟩
theorem OpVp.evals {a:Act} {F:List HP} {o:Oper} (hf:Facts E (o.looksAt ops) F a):∀ (xs:List (Nat×Operand)) (vs:List (Nat×Value)),OpVp E xs vs→(∀ x,x∈xs→x.2∈o.op.operands.toList)→xs.map (fun p=>(p.1,a.eval p.2))=vs
 | [],[],_,_=>rfl
 | x::xs,v::vs,h,hm=>by
  rw [List.map_cons,h.1.2.eval hf (hm x (by simp)) trivial,OpVp.evals hf xs vs h.2 (fun y hy=>hm y (List.mem_cons_of_mem _ hy)),h.1.1]
 | [],_::_,h,_=>h.elim
 | _::_,[],h,_=>h.elim
theorem D_buildO {T:TypeId} {t:Nat} {xs:List (Nat×Operand)} {ps:Value→List (Nat×Value)} {pl:List (Nat×Nat)} {z:List Value} {cs:Value→List Value} {r:List δ}
  (hR:E.lookup t=some (OwnV (τ:=τ) r)) (hx:∀ u,OpVp ((t,FC True u)::dropE [t] E) xs (ps u)) (ht:bldOf Γ.P T=some (pl,z)) (hf:∀ X:TL τ,fillL (pl[·]?) z (ps X.hdr)=some (cs X.hdr))
  (hlin:linB ops { dst:=some d,op:=.build T xs.toArray,type:=ty,pos:=pos,after:=af,guard:=none } [t]=true)
  (hk:DV Γ ops Msh pool ((d,AggO (τ:=τ) (fun u=>.agg (cs u).toArray) r)::dropE [t] E) ((some d,AggO (τ:=τ) (fun u=>.agg (cs u).toArray) r)::rs) ([t]++cs0) rest KD) :
  DV Γ ops Msh pool E rs cs0 ({ dst:=some d,op:=.build T xs.toArray,type:=ty,pos:=pos,after:=af,guard:=none }::rest) KD:=by
 refine DV.mk (AggO (τ:=τ) (fun u=>.agg (cs u).toArray) r) [] pool ([t]) (by simp) hlin ?_ hk
 intro a w F Mk _ _ hw hm hfa hcf
 obtain ⟨Mx,Mk',rfl,hRR,hnil⟩:=hcf
 have hnil:Mk'=[]:=hnil
 subst hnil
 obtain ⟨X,hv,hd,rfl⟩:=hRR _ hR
 rw [if_pos (by simp [Region.wanted])]
 have hf2:Facts ((t,FC True X.hdr)::dropE [t] E) (Oper.looksAt ops { dst:=some d,op:=.build T xs.toArray,type:=ty,pos:=pos,after:=af,guard:=none }) F a:=by
  intro t' R' h1 h2
  rw [List.lookup_cons] at h2
  cases hb:t' == t with
  | true =>
   rw [hb] at h2
   cases h2
   have:t'=t:=by simpa using hb
   subst this
   exact ⟨[],⟨rfl,fun _=>hv,fun hn=>(hn trivial).elim⟩,fun _ h=>by cases h⟩
  | false=>rw [hb] at h2;exact hfa t' R' h1 h2
 have h1:xs.toArray.map (fun (i,x)=>(i,a.eval x))=(ps X.hdr).toArray:=by
  have:=OpVp.evals (o:={ dst:=some d,op:=.build T xs.toArray,type:=ty,pos:=pos,after:=af,guard:=none }) hf2 xs (ps X.hdr) (hx X.hdr) (fun x hx=>by simp [Op.operands];exact ⟨_,hx⟩)
  rw [← this];simp
 have h3:(execOp a.eval { dst:=some d,op:=.build T xs.toArray,type:=ty,pos:=pos,after:=af,guard:=none }).run Γ.P w=.ok (.value (.agg (cs X.hdr).toArray)) w:=by
  simp only [execOp,h1]
  simp [run_build ht (hf X)]
 rw [h3]
 exact ⟨[treeH X],⟨X,rfl,hd,rfl⟩,by simpa using hw⟩
theorem D_bs1O {t T e sz by_:Nat} {z:List Value} {f:Value→Value} {r:List δ} (hR:E.lookup t=some (AggO (τ:=τ) f r)) (ht:elOf Γ.P T=some (e,sz,by_,z)) (hz:z.length=sz) (hsz:0 < sz) (hns:sz≤65536)
  (hv:∀ X:TL τ,(f X.hdr).cells.toList.length=sz)
  (hlin:linB ops { dst:=some d,op:=.buildSlice T 1 #[(0,.tmp t)],type:=ty,pos:=pos,after:=af,guard:=none } [t]=true)
  (hk:DV Γ ops Msh pool ((d,RowO (τ:=τ) f e r)::dropE [t] E) ((some d,RowO (τ:=τ) f e r)::rs) ([t]++cs0) rest KD) :
  DV Γ ops Msh pool E rs cs0 ({ dst:=some d,op:=.buildSlice T 1 #[(0,.tmp t)],type:=ty,pos:=pos,after:=af,guard:=none }::rest) KD:=by
 refine DV.mk (RowO (τ:=τ) f e r) [] pool ([t]) (by simp) hlin ?_ hk
 intro a w F Mk _ _ hw hm hfa hcf
 obtain ⟨Mx,Mk',rfl,hRR,hnil⟩:=hcf
 have hnil:Mk'=[]:=hnil
 subst hnil
 obtain ⟨X,hx,hd,rfl⟩:=hRR _ hR
 rw [if_pos (by simp [Region.wanted])]
 have e1:a.eval (.tmp t)=f X.hdr:=hx
 have h1:(execOp a.eval { dst:=some d,op:=.buildSlice T 1 #[(0,.tmp t)],type:=ty,pos:=pos,after:=af,guard:=none }).run Γ.P w=.ok (.value (.slice (some ⟨w.heap.size,0,none⟩) 1 1)) (w.alloc (.cells (f X.hdr).cells.toList.toArray e (0,0))):=by
  simp only [execOp]
  have:(#[(0,Operand.tmp t)]:Array (Nat×Operand)).map (fun (i,x)=>(i,a.eval x))=#[(0,f X.hdr)]:=by simp [e1]
  rw [this]
  simp [run_bs1 ht hz hsz hns (hv X)]
 rw [h1]
 exact ⟨[blk w.heap.size (f X.hdr).cells.toList e,treeH X],⟨X,_,rfl,hd,rfl⟩,Holds.new (show Holds Γ.w0 Γ.S0 (treeH X::F) w by simpa using hw) rfl⟩
end
end Go.Proofs.SL
namespace Go.Proofs.SL
open Go
variable {M M1:List HP} {w0 w:World} {S0:List Nat}
end Go.Proofs.SL
namespace Go.Proofs.SL
open Go
theorem els_skip {M M1:List HP} {w0 w:World} {S0:List Nat} {τ δ:Type} [GT τ δ] {X:TL τ} {i:Int} {u:τ} (hi:0≤i∧X.els[i.toNat]?=some u) (hm:rowH X∈M) (p:Pick (elsT (X.els.drop i.toNat)) M M1) (h:Holds w0 S0 M w) :
  Holds w0 S0 (elsT (X.els.drop (IntKind.wrap .i64 (i+1)).toNat)::M1) w:=by
 have h1:=els_next hi.2 p h
 have h2:Holds w0 S0 (elsT (X.els.drop (i.toNat+1))::M1) w:=h1.sub ⟨[treeH u],List.perm_append_comm (l₁:=[treeH u])⟩
 have hlt:=(List.getElem?_eq_some_iff.1 hi.2).1
 obtain ⟨r1,r2,_⟩:=h.prs _ hm
 simp only [maxLen] at r2
 rw [wrap64_in (by unfold inR;omega),show (i+1).toNat=i.toNat+1 by omega]
 exact h2
end Go.Proofs.SL
namespace Go.Proofs.SL
open Go
variable {Γ:Cx} {l:Envl} {M M' M1 M2 F:List HP} {Q:Post} {K:Kont} {w0 w:World} {S0:List Nat} {P:Program}
variable {rest:List Oper} {d:Nat} {ty:TypeId} {pos:String} {af:Array Edge}
section
variable {τ δ:Type} [GT τ δ]
theorem L_slcE {x:Operand} {lo hi:Option Operand} {T e sz by_:Nat} {z:List Value} {X:TL τ} {a b:Int} {r:List δ} (hn:Nat.blt d Γ.n=true) (hx:ev l x=some X.hdr) (hlo:optI l lo 0=some a) (hhi:optI l hi ((GT.dat X).length:Int)=some b)
  (ht:elOf Γ.P T=some (e,sz,by_,z)) (hsz:GT.sz τ=sz) (hR:RdT Γ M X) (hr:slcP (GT.dat X) a b=some r)
  (hk:∀ X':TL τ,GT.dat X'=r→X'=slc X a.toNat b.toNat→L Γ rest ((d,X'.hdr)::l) M K) :
  L Γ ({ dst:=some d,op:=.slice T x lo hi none,type:=ty,pos:=pos,after:=af,guard:=none }::rest) l M K:=by
 unfold slcP at hr
 split at hr
 ·rename_i hb
  cases hr
  rw [dat_els,List.length_map] at hb hhi
  obtain ⟨h0,h1,h2⟩:=hb
  have h1':a.toNat≤b.toNat:=by omega
  have h2':b.toNat≤X.els.length:=by omega
  refine L_pure hn (v:=(slc X a.toNat b.toNat).hdr) (fun a' w ha hw=>?_) (hk (slc X a.toNat b.toNat) (by rw [dat_els,dat_els];simp [slc,List.map_take,List.map_drop]) rfl)
  have hcap:X.els.length≤X.cap:=(hR w hw.sees).1
  unfold elOf at ht
  split at ht<;>(try cases ht)
  rename_i e' het
  split at ht<;>(try cases ht)
  rename_i i' hi'
  split at ht<;>cases ht
  have hlen:((X.els.drop a.toNat).take (b.toNat - a.toNat)).length=b.toNat - a.toNat:=by simp;omega
  have hv:(slc X a.toNat b.toNat).hdr=.slice (if X.cap=a.toNat then X.a else X.a.map (·.add (a.toNat*i'.size))) (b.toNat - a.toNat) (X.cap - a.toNat):=by
   show Value.slice _ ((X.els.drop a.toNat).take (b.toNat - a.toNat)).length _=_
   rw [hlen];simp only [slc,hsz]
  rw [hv]
  have e1:a'.eval x=.slice X.a X.els.length X.cap:=ha.eval hx
  cases lo with
  | none =>
   cases hlo
   cases hi with
   | none =>
    cases hhi
    simp only [execOp,Option.map_none,e1,Instr.sliceAt,Instr.slice,underlying,Sem.run_bind,run_program,Result.andThen_ok,het,Instr.sliceBounds,Sem.run_pure,sizeOf,typeInfo,hi']
    simp
   | some o =>
    obtain ⟨k,h5⟩:=optI_some hhi
    have e2:=ha.eval h5
    have e4:=fun w=>run_sliceBound (P:=Γ.P) (k:=k) (code:=.sliceAcap) (show 0≤b by omega) (show b≤((X.cap:Nat):Int) by omega) w
    simp [execOp,e1,e2,Instr.sliceAt,Instr.slice,underlying,het,Instr.sliceBounds,sizeOf,typeInfo,hi',e4]
  | some o1 =>
   obtain ⟨k1,h6⟩:=optI_some hlo
   have e3:=ha.eval h6
   cases hi with
   | none =>
    cases hhi
    have e4:=fun w=>run_sliceBound (P:=Γ.P) (k:=k1) (code:=.sliceB) h0 (show a≤((X.els.length:Nat):Int) by omega) w
    simp [execOp,e1,e3,Instr.sliceAt,Instr.slice,underlying,het,Instr.sliceBounds,sizeOf,typeInfo,hi',e4]
   | some o =>
    obtain ⟨k,h5⟩:=optI_some hhi
    have e2:=ha.eval h5
    have e4:=fun w=>run_sliceBound (P:=Γ.P) (k:=k) (code:=.sliceAcap) (show 0≤b by omega) (show b≤((X.cap:Nat):Int) by omega) w
    have e5:=fun w=>run_sliceBound (P:=Γ.P) (k:=k1) (code:=.sliceB) h0 (show a≤((b.toNat:Nat):Int) by omega) w
    simp [execOp,e1,e2,e3,Instr.sliceAt,Instr.slice,underlying,het,Instr.sliceBounds,sizeOf,typeInfo,hi',e4,e5]
 ·cases hr
theorem slcE_rd {X Y:TL τ} {a b:Int} {r:List δ} (he:Y=slc X a.toNat b.toNat) (hs:slcP (GT.dat X) a b=some r):∀ w S,GT.rd w S X→GT.rd w S Y:=by
 intro w S h
 obtain ⟨s0,s1,s2,-⟩:=slcP_some hs
 rw [dat_els,List.length_map] at s2
 subst he
 exact slc_rd h (by omega) (by omega)
def trunc (X:TL τ) (b:Nat):TL τ:=⟨X.a,X.cap,X.e,X.els.take b,rowCells (X.els.drop b)++X.tail⟩
theorem trunc_own {X:TL τ} {b:Nat} (hb:b≤X.els.length) (p:Pick (treeH X) M M1) (h:Holds w0 S0 M w):Holds w0 S0 (treeH (trunc X b)::M1) w:=by
 have h1:=tree_row (h.perm p.perm)
 have h2:Holds w0 S0 (elsT (X.els.take b)::rowH X::M1) w:=els_sub (zs:=X.els.drop b) (List.Perm.of_eq (List.take_append_drop b X.els).symm) (by apply Pick.there;exact Pick.here _) h1
 have h3:=h2.perm (List.Perm.swap _ _ _)
 refine row_tree ?_
 show Holds w0 S0 (rowH (trunc X b)::elsT (X.els.take b)::M1) w
 refine h3.reFp (List.Perm.of_eq rfl) fun x hx=>?_
 rcases List.mem_cons.1 hx with rfl | hx
 ·obtain ⟨r1,r2,r3,r4⟩:=h3.prs (rowH X) (List.mem_cons_self ..)
  have hl:(X.els.take b).length=b:=by rw [List.length_take,Nat.min_eq_left hb]
  refine ⟨by show (X.els.take b).length≤X.cap;omega,r2,fun ha=>⟨by show X.els.take b=[];rw [(r3 ha).1];simp,(r3 ha).2⟩,fun a ha=>?_⟩
  obtain ⟨g1,g2,g3,g4⟩:=r4 a ha
  refine ⟨g1,g2,?_,?_⟩
  ·show w.heap[a.block]?=some (.cells (rowCells (X.els.take b)++(rowCells (X.els.drop b)++X.tail)).toArray X.e (0,0))
   rw [← List.append_assoc,← rowCells_append,List.take_append_drop];exact g3
  ·show (X.els.take b).length*GT.sz τ+(rowCells (X.els.drop b)++X.tail).length=X.cap*GT.sz τ
   rw [List.length_append,length_rowCells,List.length_drop,hl,← g4,← Nat.add_assoc,← Nat.add_mul]
   congr 2;omega
 ·exact h3.prs _ (List.mem_cons_of_mem _ hx)
theorem trunc_hdr {X Y:TL τ} {a b:Nat} (he:Y=slc X a b) (ha:a=0) (hb:b≤X.els.length):(trunc X b).hdr=Y.hdr:=by
 subst ha;subst he
 show Value.slice X.a (X.els.take b).length X.cap=Value.slice (if X.cap=0 then X.a else X.a.map (·.add (0*GT.sz τ))) ((X.els.drop 0).take (b - 0)).length (X.cap - 0)
 have h2:X.a.map (fun q:Addr=>q.add (0*GT.sz τ))=X.a:=by
  cases X.a with
  | none=>rfl
  | some q=>simp [Addr.add]
 rw [h2];simp
theorem L_trunc {X Y:TL τ} {a b:Int} {r':List δ} {u:Unit} (he:Y=slc X a.toNat b.toNat) (hsl:slcP (GT.dat X) a b=some r') (h0:chkP (decide (a=0))=some u) (p:Pick (treeH X) M M1)
  (hk:∀ Z:TL τ,GT.dat Z=GT.dat Y→Z.hdr=Y.hdr→L Γ rest l (treeH Z::M1) K):L Γ rest l M K:=by
 obtain ⟨s0,s1,s2,-⟩:=slcP_some hsl
 rw [dat_els,List.length_map] at s2
 have h0:a=0:=of_decide_eq_true (chkP_some h0)
 refine L_conv (fun w h=>trunc_own (b:=b.toNat) (by omega) p h) (hk _ ?_ (trunc_hdr he (by omega) (by omega)))
 rw [he,h0,dat_els,dat_els]
 simp [trunc,slc]
end
end Go.Proofs.SL
namespace Go.Proofs.SL
open Go
variable {Γ:Cx} {ops:Array Oper} {Msh pool pool':List HP} {E:Fl} {rs:List (Option Nat×Rel)} {rest:List Oper} {KD:RKont} {cs0:List Nat}
variable {d:Nat} {ty:TypeId} {pos:String} {af:Array Edge}
variable {gd:Option (Nat×Bool)}
end Go.Proofs.SL
namespace Go.Proofs.SL
open Go
section
variable {τ δ κ:Type} [GT τ δ]
variable [Inhabited κ]
theorem put_cells (enc:κ→Value) (ds:List κ) (a b:List Value) (h:a.length=ds.length):Sort.putCells enc 0 ds.toArray (a++b).toArray=(ds.map enc++b).toArray:=by
 apply Array.ext_getElem?
 intro j
 simp only [Sort.putCells,Array.getElem?_mapIdx,List.getElem?_toArray,List.size_toArray,Nat.zero_add,Nat.zero_le,true_and,Nat.sub_zero]
 rcases Nat.lt_or_ge j ds.length with hj | hj
 ·rw [List.getElem?_append_left (by omega),List.getElem?_append_left (by simpa using hj),List.getElem?_eq_getElem (show j < a.length by omega)]
  simp [hj,List.getElem?_map]
 ·rw [List.getElem?_append_right (by omega),List.getElem?_append_right (by simpa using hj),List.length_map,h]
  cases b[j - ds.length]? with
  | none=>rfl
  | some v=>simp [Nat.not_lt.2 hj]
theorem own_cases {w:World} {a0:TL τ} (hh:Holds w (fps [treeH a0]) [treeH a0] w):(∃ e tail,a0=⟨none,0,e,[],tail⟩)∨∃ b cap e els tail,a0=⟨some ⟨b,0,none⟩,cap,e,els,tail⟩∧els.length≤cap∧els.length*GT.sz τ+tail.length=cap*GT.sz τ∧w.heap[b]?=some (.cells (rowCells els++tail).toArray e (0,0))∧b < w.heap.size:=by
 have ht:GT.ow w a0:=hh.prs _ (List.mem_cons_self ..)
 obtain ⟨h1,h2,h3,h4,h5⟩:=ht
 obtain ⟨a,cap,e,els,tail⟩:=a0
 dsimp only at h1 h2 h3 h4 h5
 cases a with
 | none =>
  obtain ⟨rfl,rfl⟩:=h4 rfl
  exact .inl ⟨e,tail,rfl⟩
 | some ad =>
  obtain ⟨hs,ho,hb,hl⟩:=h5 ad rfl
  obtain ⟨b,o,sp⟩:=ad
  dsimp only at hs ho hb
  subst hs;subst ho
  exact .inr ⟨b,cap,e,els,tail,rfl,h1,hl,hb,(Array.getElem?_eq_some_iff.1 hb).1⟩
end
theorem map_id' {α:Type} (l:List α):l.map (fun x=>x)=l:=by simp
end Go.Proofs.SL
namespace Go.Proofs.SL
open Go
def eqShape (P:Program) (T:TypeId):Option (List (TypeId×Nat)):=match P.underlying T with
 | some (.struct fs)=>if P.stoodInHeld T||P.eqGuardType P.depth T then none else some ((fs.toList.filter fun f=>decide (f.name≠"_")).map fun f=>(f.type,f.offset))
 | _=>none
inductive EqS (P:Program) (d:Nat) (xs ys:Array Value):List (TypeId×Nat)→Bool→Prop
 | nil:EqS P d xs ys [] true
 | cons {t:TypeId} {o:Nat} {a b:Value} {r r':Bool} {fs:List (TypeId×Nat)} (ht:oneOf P t=true) (ha:xs[o]?=some a) (hb:ys[o]?=some b) (he:∀ w,(Op.equalIn d t a b).run P w=.ok r w) (hs:EqS P d xs ys fs r'):EqS P d xs ys ((t,o)::fs) (r&&r')
theorem run_part_one {P:Program} {T:TypeId} (h:oneOf P T=true) {xs:Array Value} {o:Nat} {v:Value} (hx:xs[o]?=some v) (w:World):(part T xs o).run P w=.ok v w:=by
 simp [part,run_isAgg_one h,hx]
theorem run_eqS {P:Program} {d:Nat} {xs ys:Array Value}:∀ {fs:List Field} {r:Bool},EqS P d xs ys ((fs.filter fun f=>decide (f.name≠"_")).map fun f=>(f.type,f.offset)) r→∀ w,(Op.eqFields d xs ys fs).run P w=.ok r w
 | [],r,h,w=>by cases h;simp [Op.eqFields]
 | f::fs,r,h,w=>by
  unfold Op.eqFields
  by_cases hn:f.name≠"_"
  ·rw [List.filter_cons,if_pos (by simp [hn])] at h
   rw [if_pos hn]
   cases h with
   | cons ht ha hb he hs =>
    rename_i a b r r'
    simp only [Sem.run_bind,run_part_one ht ha,run_part_one ht hb,Result.andThen_ok,he]
    cases r
    ·simp
    ·simp only [Bool.not_true,Bool.false_eq_true,if_false,Bool.true_and]
     exact run_eqS hs w
  ·rw [List.filter_cons,if_neg (by simpa using hn)] at h
   rw [if_neg hn]
   exact run_eqS h w
theorem eqShape_some {P:Program} {T:TypeId} {sh:List (TypeId×Nat)} (h:eqShape P T=some sh):P.underlying T=some (.struct (P.fieldsOf T))∧P.stoodInHeld T=false∧P.eqGuardType P.depth T=false∧sh=((P.fieldsOf T).toList.filter fun f=>decide (f.name≠"_")).map fun f=>(f.type,f.offset):=by
 unfold eqShape at h
 split at h
 ·rename_i fs hu
  have hf:P.fieldsOf T=fs:=by unfold Program.fieldsOf;rw [hu]
  split at h
  ·cases h
  ·rename_i hn
   simp only [Bool.or_eq_true,not_or,Bool.not_eq_true] at hn
   exact ⟨by rw [hf];exact hu,hn.1,hn.2,by rw [hf];exact (Option.some.inj h).symm⟩
 ·cases h
theorem bv_aeql {P:Program} {T:TypeId} {x y:Operand} {xs ys:Array Value} {sh:List (TypeId×Nat)} {r:Bool} (h:eqShape P T=some sh) (he:EqS P 9999 xs ys sh r):BinV P .eql T x y (.agg xs) (.agg ys) (.bool r):=fun w=>by
 obtain ⟨h1,h2,h3,rfl⟩:=eqShape_some h
 simp only [Sem.run_bind,run_eqGuard_agg w _ _ _ _ _ _ h3,Result.andThen_ok,run_eql_struct]
 rw [show (10000:Nat)=9999+1 from rfl,run_equalIn_struct w 9999 T xs ys h1 h2,run_eqS he w];rfl
theorem bv_aneq {P:Program} {T:TypeId} {x y:Operand} {xs ys:Array Value} {sh:List (TypeId×Nat)} {r:Bool} (h:eqShape P T=some sh) (he:EqS P 9999 xs ys sh r):BinV P .neq T x y (.agg xs) (.agg ys) (.bool (!r)):=fun w=>by
 obtain ⟨h1,h2,h3,rfl⟩:=eqShape_some h
 simp only [Sem.run_bind,run_eqGuard_agg w _ _ _ _ _ _ h3,Result.andThen_ok,run_neq_struct]
 rw [show (10000:Nat)=9999+1 from rfl,run_equalIn_struct w 9999 T xs ys h1 h2,run_eqS he w];rfl
theorem EqS.consI {P:Program} {d:Nat} {xs ys:Array Value} {t:TypeId} {o:Nat} {k:IntKind} {a b:Int} {r':Bool} {fs:List (TypeId×Nat)} {k':IntKind} (ht:oneOf P t=true) (hu:P.underlying t=some (.int k')) (ha:xs[o]?=some (.int k a)) (hb:ys[o]?=some (.int k b)) (hs:EqS P (d+1) xs ys fs r'):EqS P (d+1) xs ys ((t,o)::fs) (decide (a=b)&&r') :=
 EqS.cons ht ha hb (fun w=>run_equalIn_int w d t k k' a b hu) hs
end Go.Proofs.SL
