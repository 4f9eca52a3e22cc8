/- The texts of the proof, part 4: the base, walks of functions, plain Lean. -/
import Derived.Test.YtkfgjljahhgooaaGreatT3
import Derived.Laws.StructEq
import Derived.Laws.BytesString
namespace Go.Proofs.SL
open Go
variable {Γ:Cx} {l:Envl} {M M' M1 M2:List HP} {Q:Post} {K:Kont} {w0 w:World} {S0:List Nat}
variable {rest:List Oper} {d:Nat} {ty:TypeId} {pos:String} {af:Array Edge}
class Bk (τ:Type) where
 bulk:τ→Nat
instance:Bk Int:=⟨fun _=>0⟩
instance:Bk Bool:=⟨fun _=>0⟩
instance:Bk UInt8:=⟨fun _=>0⟩
instance:Bk ByteArray:=⟨fun s=>s.size⟩
instance {α β:Type} [Bk α] [Bk β]:Bk (α×β):=⟨fun p=>Bk.bulk p.1+Bk.bulk p.2⟩
def bulks {τ:Type} [Bk τ]:List τ→Nat
 | []=>0
 | x::xs=>Bk.bulk x+bulks xs
instance {τ:Type} [Bk τ]:Bk (TL τ):=⟨fun L=>L.els.length+bulks L.els⟩
theorem bulk_int (n:Int):Bk.bulk n=0:=rfl
theorem bulk_bool (n:Bool):Bk.bulk n=0:=rfl
theorem bulk_str (s:ByteArray):Bk.bulk s=s.size:=rfl
theorem bulk_pair {α β:Type} [Bk α] [Bk β] (a:α) (b:β):Bk.bulk (a,b)=Bk.bulk a+Bk.bulk b:=rfl
theorem bulk_TL {τ:Type} [Bk τ] (a:Option Addr) (c e:Nat) (x:List τ) (y:List Value):Bk.bulk (⟨a,c,e,x,y⟩:TL τ)=x.length+bulks x:=rfl
section
variable {τ:Type} [Bk τ]
theorem bulks_append (xs ys:List τ):bulks (xs++ys)=bulks xs+bulks ys:=by
 induction xs with
 | nil=>simp [bulks]
 | cons x xs ih=>simp only [List.cons_append,bulks,ih];omega
theorem bulks_take_succ {xs:List τ} {k:Nat} {x:τ} (h:xs[k]?=some x):bulks (xs.take (k+1))=bulks (xs.take k)+Bk.bulk x:=by
 rw [List.take_add_one,h,bulks_append];simp [bulks]
theorem bulks_take_le (xs:List τ) (k:Nat):bulks (xs.take k)≤bulks xs:=by
 conv=>rhs;rw [← List.take_append_drop k xs]
 rw [bulks_append];omega
theorem bulk_mem {xs:List τ} {x:τ} (h:x∈xs):Bk.bulk x≤bulks xs:=by
 induction xs with
 | nil=>cases h
 | cons y ys ih =>
  rcases List.mem_cons.1 h with rfl | h
  ·simp only [bulks];omega
  ·have:=ih h;simp only [bulks];omega
end
theorem dat_int (n:Int):GT.dat n=n:=rfl
theorem dat_bool (n:Bool):GT.dat n=n:=rfl
theorem dat_str (s:ByteArray):GT.dat s=s:=rfl
theorem dat_pair {α β δ ε:Type} [GT α δ] [GT β ε] (a:α) (b:β):GT.dat (a,b)=(GT.dat a,GT.dat b):=rfl
theorem dat_TL {τ δ:Type} [GT τ δ] (a:Option Addr) (c e:Nat) (x:List τ) (y:List Value):GT.dat (⟨a,c,e,x,y⟩:TL τ)=x.map GT.dat:=rfl
theorem tree_snd {α β δ ε:Type} [GT α δ] [GT β ε] {a:α} {b:β} (hf:Flat a) (h:Holds w0 S0 (treeH b::M) w):Holds w0 S0 (treeH (a,b)::M) w:=pair_tree (h.addFlat hf)
theorem frontPick {x:HP} (p:Pick x M M') (h:Holds w0 S0 M w):Holds w0 S0 (x::M') w:=h.perm p.perm
theorem pairPick {α β δ ε:Type} [GT α δ] [GT β ε] {a:α} {b:β} (p:Pick (treeH a) M M') (h:Holds w0 S0 (treeH b::M) w):Holds w0 S0 (treeH (a,b)::M') w :=
 pair_tree (h.perm ((p.perm.cons _).trans (List.Perm.swap _ _ _)))
section
variable {τ δ:Type} [GT τ δ]
theorem L_storeElV {p y:Operand} {T g i Lc n:Nat} {Lx:List τ} {Lt:List Value} {Le:TypeId} {v:Value} {x:τ} (x':τ) (hp0:ev l p=some (.pointer (some ⟨g,0+i*n,none⟩))) (hy:ev l y=some v)
  (hp:Pick (treeH (⟨some ⟨g,0,none⟩,Lc,Le,Lx,Lt⟩:TL τ)) M M1) (hn:GT.sz τ=n) (hi:Lx[i]?=some x) (hv:v.cells.toList=GT.cells x') (hf:Flat x')
  (hT:aggOf Γ.P T=some n∨(oneOf Γ.P T=true∧n=1)) (hk:L Γ rest l (treeH (⟨some ⟨g,0,none⟩,Lc,Le,Lx.set i x',Lt⟩:TL τ)::M1) K) :
  L Γ ({ dst:=none,op:=.store T p y,type:=ty,pos,after:=af,guard:=none }::rest) l M K :=
 L_conv (M':=treeH x'::M) (fun _ h=>h.addFlat hf) (L_storeEl x' hp0 hy (Pick.there _ hp) hn hi hv (Pick.here _) hT hk)
end
theorem set_take {α:Type} {xs:List α} {k:Nat} {x:α} (h:k < xs.length):(xs.set k x).take (k+1)=xs.take k++[x]:=by
 rw [List.set_eq_take_append_cons_drop,if_pos h,List.take_append,List.length_take,Nat.min_eq_left (Nat.le_of_lt h),List.take_of_length_le (by rw [List.length_take];omega),show k+1 - k=1 by omega]
 rfl
theorem map_take_set {α β γ:Type} (f:α→γ) (g:β→γ) {xs:List α} {ys:List β} {k:Nat} {x:α} {y:β} (h:(xs.take k).map f=(ys.take k).map g) (hk:k < xs.length) (hy:ys[k]?=some y) (e:f x=g y) :
  ((xs.set k x).take (k+1)).map f=(ys.take (k+1)).map g:=by
 rw [set_take hk,List.take_add_one,hy,List.map_append,List.map_append,h];simp [e]
noncomputable def eqB {α:Type} (a b:α):Bool:=@decide (a=b) (Classical.propDecidable _)
@[simp] theorem eqB_true {α:Type} {a b:α}:eqB a b=true↔a=b:=by unfold eqB;exact @decide_eq_true_iff _ (Classical.propDecidable _)
@[simp] theorem eqB_false {α:Type} {a b:α}:eqB a b=false↔¬ a=b:=by unfold eqB;exact @decide_eq_false_iff_not _ (Classical.propDecidable _)
end Go.Proofs.SL
namespace Go.Proofs.SL
open Go
variable {Γ:Cx} {l:Envl} {M M' M1 M2:List HP} {Q:Post} {K:Kont} {w0 w:World} {S0:List Nat} {P:Program}
variable {rest:List Oper} {d:Nat} {ty:TypeId} {pos:String} {af:Array Edge}
theorem run_equal_bool {T:TypeId} (h:P.underlying T=some .bool) (a b:Bool):(Op.equal T (.bool a) (.bool b)).run P w=.ok (a == b) w:=run_equalIn_bool' w 9999 T a b h
theorem bv_beql {x y:Operand} {T:TypeId} {a b:Bool} (h:P.underlying T=some .bool):BinV P .eql T x y (.bool a) (.bool b) (.bool (a == b)):=fun w=>by simp [eqGuard,binOp,run_equal_bool h]
theorem bv_bneq {x y:Operand} {T:TypeId} {a b:Bool} (h:P.underlying T=some .bool):BinV P .neq T x y (.bool a) (.bool b) (.bool (!(a == b))):=fun w=>by simp [eqGuard,binOp,run_equal_bool h]
theorem Spec.to {f:FuncId} {args:Array Value} {R R':Value→List HP→Prop} (h:Spec P f args w M R) (hr:∀ v M,R v M→R' v M):Spec P f args w M R':=fun hw =>
 (h hw).mono fun e w' ⟨v,M',h1,h2,h3⟩=>⟨v,M',h1,hr v M' h2,h3⟩
theorem Spec.toFC {f:FuncId} {args:Array Value} {x:Value} (h:Spec P f args w M (IsV x)):Spec P f args w M (FC True x):=h.to fun v M' h=>⟨h.2,fun _=>h.1,fun hn=>(hn trivial).elim⟩
section
variable {ops:Array Oper} {Msh pool:List HP} {E:Fl} {rs:List (Option Nat×Rel)} {cs0:List Nat} {KD:List (Option Nat×Rel)→List Nat→List HP→Prop}
theorem D_call1R {f:Nat} {xs:List Operand} {ats:Array TypeId} {vs:List Value} (R:Rel)
  (hf:IsFn Γ.P f) (hx:OpVs E True xs vs) (hc:∀ w F,Holds Γ.w0 Γ.S0 F w→(∀ h,h∈Msh→h∈F)→Spec Γ.P f vs.toArray w [] R)
  (hk:DV Γ ops Msh pool ((d,R)::E) ((some d,R)::rs) cs0 rest KD) :
  DV Γ ops Msh pool E rs cs0 ({ dst:=some d,op:=.call { callee:=.value (.func f),args:=xs.toArray,argTypes:=ats },type:=ty,pos:=pos,after:=af,guard:=none }::rest) KD:=by
 refine DV.mk R [] pool [] (by simp) rfl ?_ (by rw [dropE_nil];exact hk)
 intro a w F Mk _ _ hw hm hfa hcf
 have hMk:Mk=[]:=hcf
 subst hMk
 rw [dropE_nil] at hfa
 simp only [List.nil_append] at hw ⊢
 rw [if_pos (by simp [Region.wanted])]
 have hw':Holds Γ.w0 Γ.S0 F w:=by simpa using hw
 have h2:(#[]++xs.toArray.map a.eval++#[]:Array Value)=vs.toArray:=by
  simp [OpVs.evals (o:={ dst:=some d,op:=.call { callee:=.value (.func f),args:=xs.toArray,argTypes:=ats },type:=ty,pos:=pos,after:=af,guard:=none }) trivial hfa xs vs hx (fun x hx=>by simp [Op.operands,Call.operands,hx])]
 rw [execOp_call_go,h2,hf.run]
 exact (hc w F hw' hm (Holds.split (M1:=[]) (M2:=F) hw)).mono fun e w'' ⟨v,M',h1,h3,h4⟩=>⟨v,M',h1,h3,Holds.frame (M1:=[]) (M2:=F) hw h4⟩
end
theorem cells_of_blk {F:List HP} {b:Nat} {cs:List Value} {T:TypeId} (h:blk b cs T∈F) (hw:Sees w0 S0 F w):Cells w [] b 0 cs:=fun j v hv=>by
 have hp:w.heap[b]?=some (.cells cs.toArray T (0,0)):=hw.prs _ h
 refine ⟨?_,by simp⟩
 rw [cell_of_row _ _ _ _ _ _ hp,Nat.zero_add]
 simpa using hv
theorem Cells.carry {F:List HP} {g o:Nat} {cs:List Value} (h:Cells w0 S0 g o cs) (hw:Holds w0 S0 F w):Cells w [] g o cs:=fun j v hv=>(h j v hv).carry (M1:=[]) (M2:=F) hw
def firstI {α:Type} (p:α→Bool) (xs:List α):Int:=match xs.findIdx? p with | some i=>(i:Int) | none=>-1
theorem firstI_hit {α:Type} {p:α→Bool} {xs:List α} {k:Nat} {u:α} (h:∀ x,x∈xs.take k→p x=false) (hu:xs[k]?=some u) (hp:p u=true):firstI p xs=k:=by
 unfold firstI
 have hk:=(List.getElem?_eq_some_iff.1 hu)
 obtain ⟨hlt,hk⟩:=hk
 have:xs.findIdx? p=some k:=by
  rw [List.findIdx?_eq_some_iff_getElem]
  refine ⟨hlt,by rw [hk];exact hp,fun j hj=>?_⟩
  have:=h (xs[j]) (List.mem_iff_getElem?.2 ⟨j,by rw [List.getElem?_take_of_lt hj];exact List.getElem?_eq_getElem _⟩)
  simp [this]
 rw [this]
theorem firstI_miss {α:Type} {p:α→Bool} {xs:List α} (h:∀ x,x∈xs→p x=false):firstI p xs=-1:=by
 unfold firstI
 rw [List.findIdx?_eq_none_iff.2 h]
theorem firstI_find {α:Type} (p:α→Bool) (xs:List α):(firstI p xs=-1∧xs.find? p=none)∨∃ (k:Nat) (u:α),firstI p xs=(k:Int)∧xs[k]?=some u∧xs.find? p=some u∧k < xs.length:=by
 unfold firstI
 cases h:xs.findIdx? p with
 | none =>
  refine .inl ⟨rfl,?_⟩
  rw [List.find?_eq_none]
  intro x hx
  have:=List.findIdx?_eq_none_iff.1 h x hx
  simp [this]
 | some i =>
  obtain ⟨h1,h2,h3⟩:=List.findIdx?_eq_some_iff_getElem.1 h
  refine .inr ⟨i,xs[i],rfl,List.getElem?_eq_getElem h1,?_,h1⟩
  rw [List.find?_eq_some_iff_getElem]
  exact ⟨h2,i,h1,rfl,fun j hj=>by have:=h3 j hj;simpa using this⟩
noncomputable def pB (p:Prop):Bool:=@decide p (Classical.propDecidable p)
theorem pB_iff {p:Prop}:pB p=true↔p:=by unfold pB;exact @decide_eq_true_iff p (Classical.propDecidable p)
end Go.Proofs.SL
namespace Go.Proofs.SL
open Go
variable {Γ:Cx} {l:Envl} {M M' M1 M2:List HP} {Q:Post} {K:Kont} {w0 w:World} {S0:List Nat} {P:Program}
variable {rest:List Oper} {d:Nat} {ty:TypeId} {pos:String} {af:Array Edge}
def strOf (ns:List Int):ByteArray:=ns.foldl (fun r n=>r.push (UInt8.ofNat n.toNat)) ByteArray.empty
theorem size_push (s:ByteArray) (b:UInt8):(s.push b).size=s.size+1:=ByteArray.size_push
theorem strOf_size1 (n:Int):(strOf [n]).size=1:=by unfold strOf;simp only [List.foldl_cons,List.foldl_nil,size_push];rfl
theorem L_bytesToStr {x:Operand} {S T e g off n c:Nat} {ns:List Int} {cs:List Value} (hn:Nat.blt d Γ.n=true) (hx:ev l x=some (.slice (some ⟨g,off,none⟩) n c)) (hS:Γ.P.underlying S=some (.slice e)) (he:Γ.P.underlying e=some (.int .u8)) (hT:Γ.P.underlying T=some .string)
  (hc:RdC Γ M g off cs) (hcs:cs=ns.map (Value.int .u8)) (hln:n=ns.length) (hk:L Γ rest ((d,.string (strOf ns))::l) M K) :
  L Γ ({ dst:=some d,op:=.convert S T x,type:=ty,pos:=pos,after:=af,guard:=none }::rest) l M K :=
 L_pure hn (fun a' w ha hw=>by
  subst hcs;subst hln
  have hl:=run_loadCells_at (P:=Γ.P) (hc w hw.sees)
  rw [List.length_map] at hl
  have h2:=run_bytesToString (P:=Γ.P) w ⟨g,off,none⟩ ns.length c ns hl
  simp only [execOp,ha.eval hx,Sem.run_bind,run_convert_bytes_string w S T e _ _ _ hS he hT,h2,Result.andThen_ok,Sem.run_pure]
  rfl) hk
theorem bv_remN {x y:Operand} {T:TypeId} (k n:Nat) (hn:n≠0):BinV P .rem T x y (.int .i64 (k:Int)) (.int .i64 (n:Int)) (.int .i64 ((k % n:Nat):Int)):=by
 have:=@bv_rem P T x y .i64 (k:Int) (n:Int) (by omega)
 rwa [show ((k:Int).tmod (n:Int))=((k % n:Nat):Int) from rfl] at this
theorem bv_quoN {x y:Operand} {T:TypeId} (k n:Nat) (hn:n≠0) (hk:k≤9223372036854775807):BinV P .quo T x y (.int .i64 (k:Int)) (.int .i64 (n:Int)) (.int .i64 ((k / n:Nat):Int)):=by
 have:=@bv_quo P T x y .i64 (k:Int) (n:Int) (by omega)
 rw [show ((k:Int).tdiv (n:Int))=((k / n:Nat):Int) from rfl] at this
 have h2:=Nat.div_le_self k n
 generalize k / n=q at *
 rwa [wrap64_in (by unfold inR;omega)] at this
def dg (k:Nat):ByteArray:=strOf [IntKind.u8.wrap (48+((k % 10:Nat):Int))]
def mtxN (k:Nat) (s:ByteArray):ByteArray:=if h:k=0 then s else mtxN (k / 10) (dg k++s)
 termination_by k
 decreasing_by omega
def mtx (k:Nat):ByteArray:=ByteArray.mk #[109]++mtxN k (ByteArray.mk #[])
theorem mtxN_zero (s:ByteArray):mtxN 0 s=s:=by rw [mtxN];simp
theorem mtxN_step {k:Nat} (s:ByteArray) (h:0 < k):mtxN k s=mtxN (k / 10) (dg k++s):=by rw [mtxN,dif_neg (by omega)]
theorem dg_size (k:Nat):(dg k).size=1:=strOf_size1 _
class Mk (τ:Type) where
 cnt:τ→Nat
 mkd:Nat→τ→τ
instance:Mk Int:=⟨fun _=>1,fun k _=>(k:Int)⟩
instance:Mk ByteArray:=⟨fun _=>1,fun k _=>mtx k⟩
instance {α β:Type} [Mk α] [Mk β]:Mk (α×β):=⟨fun p=>Mk.cnt p.1+Mk.cnt p.2,fun k p=>(Mk.mkd k p.1,Mk.mkd (k+Mk.cnt p.1) p.2)⟩
section
variable {τ:Type} [Mk τ]
def cnts:List τ→Nat
 | []=>0
 | x::xs=>Mk.cnt x+cnts xs
def mks (k:Nat):List τ→List τ
 | []=>[]
 | x::xs=>Mk.mkd k x::mks (k+Mk.cnt x) xs
instance:Mk (TL τ):=⟨fun L=>cnts L.els,fun k L=>{ L with els:=mks k L.els }⟩
theorem mks_length (xs:List τ):∀ k,(mks k xs).length=xs.length:=by
 induction xs with
 | nil=>intro k;rfl
 | cons x xs ih=>intro k;simp [mks,ih]
theorem cnts_append (xs ys:List τ):cnts (xs++ys)=cnts xs+cnts ys:=by
 induction xs with
 | nil=>simp [cnts]
 | cons x xs ih=>simp only [List.cons_append,cnts,ih];omega
theorem cnts_take_succ {xs:List τ} {i:Nat} {x:τ} (h:xs[i]?=some x):cnts (xs.take (i+1))=cnts (xs.take i)+Mk.cnt x:=by
 rw [List.take_add_one,h,cnts_append];simp [cnts]
theorem cnts_take_le (xs:List τ) (i:Nat):cnts (xs.take i)≤cnts xs:=by
 conv=>rhs;rw [← List.take_append_drop i xs]
 rw [cnts_append];omega
theorem mks_get {xs:List τ}:∀ {k i:Nat} {x:τ},xs[i]?=some x→(mks k xs)[i]?=some (Mk.mkd (k+cnts (xs.take i)) x):=by
 induction xs with
 | nil=>intro k i x h;simp at h
 | cons y ys ih =>
  intro k i x h
  cases i with
  | zero=>simp at h;subst h;simp [mks,cnts]
  | succ i =>
   simp only [mks,List.getElem?_cons_succ,List.take_succ_cons,cnts] at h ⊢
   rw [ih h,Nat.add_assoc]
def half (k i:Nat) (xs:List τ):List τ:=(mks k xs).take i++xs.drop i
theorem half_zero (k:Nat) (xs:List τ):half k 0 xs=xs:=by simp [half]
theorem half_all (k:Nat) {i:Nat} {xs:List τ} (h:xs.length≤i):half k i xs=mks k xs:=by
 unfold half
 rw [List.take_of_length_le (by rw [mks_length];exact h),List.drop_of_length_le h,List.append_nil]
theorem half_length (k i:Nat) (xs:List τ):(half k i xs).length=xs.length:=by
 unfold half
 rw [List.length_append,List.length_take,List.length_drop,mks_length];omega
theorem half_get {k i:Nat} {xs:List τ} {x:τ} (h:xs[i]?=some x):(half k i xs)[i]?=some x:=by
 unfold half
 have hlt:=(List.getElem?_eq_some_iff.1 h).1
 rw [List.getElem?_append_right (by rw [List.length_take,mks_length];omega),List.length_take,mks_length,Nat.min_eq_left (by omega),Nat.sub_self,List.getElem?_drop]
 simpa using h
theorem half_set {k i:Nat} {xs:List τ} {x:τ} (h:xs[i]?=some x):(half k i xs).set i (Mk.mkd (k+cnts (xs.take i)) x)=half k (i+1) xs:=by
 have hlt:=(List.getElem?_eq_some_iff.1 h).1
 apply List.ext_getElem?
 intro j
 rw [List.getElem?_set]
 unfold half
 by_cases hj:i=j
 ·subst hj
  rw [if_pos rfl,if_pos (by rw [List.length_append,List.length_take,List.length_drop,mks_length];omega),List.getElem?_append_left (by rw [List.length_take,mks_length];omega),List.getElem?_take_of_lt (by omega),mks_get h]
 ·rw [if_neg hj]
  rcases Nat.lt_or_ge j i with h1 | h1
  ·rw [List.getElem?_append_left (by rw [List.length_take,mks_length];omega),List.getElem?_append_left (by rw [List.length_take,mks_length];omega),List.getElem?_take_of_lt h1,List.getElem?_take_of_lt (by omega)]
  ·rw [List.getElem?_append_right (by rw [List.length_take,mks_length];omega),List.getElem?_append_right (by rw [List.length_take,mks_length];omega),List.length_take,List.length_take,mks_length,Nat.min_eq_left (by omega),Nat.min_eq_left (by omega),List.getElem?_drop,List.getElem?_drop]
   congr 1;omega
end
class Mv (τ:Type) where
 cnt:τ→Nat
 mkd:Nat→τ→τ
instance:Mv Int:=⟨fun _=>0,fun _ t=>t⟩
instance:Mv Bool:=⟨fun _=>0,fun _ t=>t⟩
instance:Mv ByteArray:=⟨fun _=>0,fun _ t=>t⟩
instance {τ:Type} [Mk τ]:Mv (TL τ):=⟨Mk.cnt,Mk.mkd⟩
instance {α β:Type} [Mv α] [Mv β]:Mv (α×β):=⟨fun p=>Mv.cnt p.1+Mv.cnt p.2,fun k p=>(Mv.mkd k p.1,Mv.mkd (k+Mv.cnt p.1) p.2)⟩
section
variable {τ δ:Type} [GT τ δ]
theorem el_out {L:TL τ} {i:Nat} {x:τ} (hi:L.els[i]?=some x) (h:Holds w0 S0 (treeH L::M) w):Holds w0 S0 (treeH x::rowH L::elsT (L.els.eraseIdx i)::M) w :=
 (elsT_pick hi ((tree_row h).perm (List.Perm.swap _ _ _))).perm (((List.Perm.swap _ _ _).cons _).trans (List.Perm.refl _))
theorem el_in {L:TL τ} {i:Nat} {x x':τ} (hi:L.els[i]?=some x) (hc:GT.cells x'=GT.cells x) (h:Holds w0 S0 (treeH x'::rowH L::elsT (L.els.eraseIdx i)::M) w):Holds w0 S0 (treeH ({ L with els:=L.els.set i x' }:TL τ)::M) w:=by
 have hlt:=(List.getElem?_eq_some_iff.1 hi).1
 have hx:=(List.getElem?_eq_some_iff.1 hi).2
 have h2:=h.perm (List.Perm.swap (rowH L) (treeH x') _)
 have h3:Holds w0 S0 (treeH x'::elsT (L.els.eraseIdx i)::(rowH L::M)) w:=h.perm ((List.Perm.swap _ _ _).cons _)
 have h4:=elsT_put hlt h3
 have hrow:rowCells (L.els.set i x')=rowCells L.els:=by
  rw [rowCells_set _ _ _ hlt,hc]
  have h5:=rowCells_set L.els i x hlt
  rw [← h5]
  congr 1
  rw [← hx];exact List.set_getElem_self hlt
 have h6:=h4.perm (List.Perm.swap (rowH L) _ _)
 refine row_tree (h6.reFp (List.Perm.of_eq rfl) fun y hy=>?_)
 rcases List.mem_cons.1 hy with rfl | hy
 ·have hp:=h6.prs (rowH L) (List.mem_cons_self ..)
  refine ⟨by rw [List.length_set];exact hp.1,hp.2.1,fun ha=>?_,fun a ha=>?_⟩
  ·obtain ⟨h7,h8⟩:=hp.2.2.1 ha
   rw [h7] at hlt;simp at hlt
  ·obtain ⟨h7,h8,h9,h10⟩:=hp.2.2.2 a ha
   exact ⟨h7,h8,by rw [hrow];exact h9,by rw [List.length_set];exact h10⟩
 ·exact h6.prs y (List.mem_cons_of_mem _ hy)
theorem ow_facts {L:TL τ} (h:GT.ow w L):L.els.length≤9223372036854775807∧(0 < L.els.length→∃ g,L.a=some ⟨g,0,none⟩):=by
 have h1:=h.1;have h2:=h.2.1;simp only [maxLen] at h2
 refine ⟨by omega,fun hl=>?_⟩
 cases ha:L.a with
 | none=>have:=(h.2.2.2.1 ha).1;rw [this] at hl;simp at hl
 | some a =>
  obtain ⟨h3,h4,_⟩:=h.2.2.2.2 _ ha
  obtain ⟨b,o,s⟩:=a
  exact ⟨b,by simp at h3 h4;rw [h3,h4]⟩
end
theorem set_get {α:Type} {xs:List α} {i:Nat} {x y:α} (h:xs[i]?=some y):(xs.set i x)[i]?=some x:=by
 rw [List.getElem?_set_self (List.getElem?_eq_some_iff.1 h).1]
theorem W_fact {c:Code} {φ:Prop} (h:∀ w,Holds Γ.w0 Γ.S0 M w→φ) (hk:φ→W Γ c l M Q):W Γ c l M Q:=fun a w ha hw=>hk (h w hw) a w ha hw
theorem mk_pair {α β:Type} [Mk α] [Mk β] (k:Nat) (a:α) (b:β):Mk.mkd k (a,b)=(Mk.mkd k a,Mk.mkd (k+Mk.cnt a) b):=rfl
theorem mk_int (k:Nat) (a:Int):Mk.mkd k a=(k:Int):=rfl
theorem mk_str (k:Nat) (a:ByteArray):Mk.mkd k a=mtx k:=rfl
theorem cnt_int (a:Int):Mk.cnt a=1:=rfl
theorem cnt_str (a:ByteArray):Mk.cnt a=1:=rfl
theorem cnt_pair {α β:Type} [Mk α] [Mk β] (a:α) (b:β):Mk.cnt (a,b)=Mk.cnt a+Mk.cnt b:=rfl
theorem mk_TL {τ:Type} [Mk τ] (k:Nat) (a:Option Addr) (c e:Nat) (x:List τ) (y:List Value):Mk.mkd k (⟨a,c,e,x,y⟩:TL τ)=⟨a,c,e,mks k x,y⟩:=rfl
theorem L_call1 {f:Nat} {xs:List Operand} {ats:Array TypeId} {vs:List Value} {h:HP} {M2:List HP} {R:Value→List HP→Prop}
  (hn:Nat.blt d Γ.n=true) (hf:IsFn Γ.P f) (hx:evs l xs=some vs) (hp:Pick h M M2) (hc:∀ w,Holds Γ.w0 Γ.S0 M w→Spec Γ.P f vs.toArray w [h] R)
  (hk:∀ v M',R v M'→L Γ rest ((d,v)::l) (M'++M2) K):L Γ ({ dst:=some d,op:=.call { callee:=.value (.func f),args:=xs.toArray,argTypes:=ats },type:=ty,pos:=pos,after:=af,guard:=none }::rest) l M K :=
 L_call (M1:=[h]) (M2:=M2) (R:=R) rfl rfl rfl (Nat.le_of_ble_eq_true hn) hf hx hp.perm (fun w hw=>hc w (hw.perm hp.perm.symm)) hk
theorem cells_pair {α β δ ε:Type} [GT α δ] [GT β ε] (a:α) (b:β):GT.cells (a,b)=GT.cells a++GT.cells b:=rfl
theorem cells_mkTL {τ δ:Type} [GT τ δ] [Mk τ] (k:Nat) (L:TL τ):GT.cells (Mk.mkd k L:TL τ)=GT.cells L:=by
 show [Value.slice L.a (mks k L.els).length L.cap]=[Value.slice L.a L.els.length L.cap]
 rw [mks_length]
theorem pairFront {α β δ ε:Type} [GT α δ] [GT β ε] {a:α} {b:β} (p:Pick (treeH b) M M') (h:Holds w0 S0 (treeH a::M) w):Holds w0 S0 (treeH (a,b)::M') w:=pair_tree (h.perm (p.perm.cons _))
theorem mv_pair {α β:Type} [Mv α] [Mv β] (k:Nat) (a:α) (b:β):Mv.mkd k (a,b)=(Mv.mkd k a,Mv.mkd (k+Mv.cnt a) b):=rfl
theorem mv_int (k:Nat) (a:Int):Mv.mkd k a=a:=rfl
theorem mv_bool (k:Nat) (a:Bool):Mv.mkd k a=a:=rfl
theorem mv_str (k:Nat) (a:ByteArray):Mv.mkd k a=a:=rfl
theorem mv_TL {τ:Type} [Mk τ] (k:Nat) (a:TL τ):Mv.mkd k a=Mk.mkd k a:=rfl
theorem mv_cnt_pair {α β:Type} [Mv α] [Mv β] (a:α) (b:β):Mv.cnt (a,b)=Mv.cnt a+Mv.cnt b:=rfl
theorem mv_cnt_int (a:Int):Mv.cnt a=0:=rfl
theorem mv_cnt_bool (a:Bool):Mv.cnt a=0:=rfl
theorem mv_cnt_str (a:ByteArray):Mv.cnt a=0:=rfl
theorem mv_cnt_TL {τ:Type} [Mk τ] (a:TL τ):Mv.cnt a=Mk.cnt a:=rfl
end Go.Proofs.SL
namespace Go.Proofs.SL
open Go
variable {Γ:Cx} {l:Envl} {M M' M1 M2:List HP} {Q:Post} {K:Kont} {w0 w:World} {S0:List Nat} {P:Program}
variable {rest:List Oper} {d:Nat} {ty:TypeId} {pos:String} {af:Array Edge}
theorem run_buildSlice0 {T e sz by_:Nat} {z:List Value} (ht:elOf P T=some (e,sz,by_,z)) (w:World) :
  (Instr.buildSlice T 0 #[]).run P w=.ok (.slice (some ⟨w.heap.size,0,none⟩) 0 0) (w.alloc (.cells (#[]:Array Value) e (0,0))):=by
 unfold elOf at ht
 split at ht<;>(try cases ht)
 rename_i e' het
 split at ht<;>(try cases ht)
 rename_i i' hi'
 split at ht<;>cases ht
 simp [Instr.buildSlice,underlying,het,sizeOf,typeInfo,hi',newRow,Instr.fill]
 rw [show (Array.map (fun _:Nat=>(default:Value)) (Array.range 0))=#[] from Array.eq_empty_of_size_eq_zero (by simp)]
theorem L_buildSlice0 (τ:Type) {δ:Type} [GT τ δ] {T e sz by_:Nat} {z:List Value} (hn:Nat.blt d Γ.n=true) (ht:elOf Γ.P T=some (e,sz,by_,z))
  (hk:∀ b,L Γ rest ((d,.slice (some ⟨b,0,none⟩) 0 0)::l) (treeH (⟨some ⟨b,0,none⟩,0,e,[],[]⟩:TL τ)::M) K) :
  L Γ ({ dst:=some d,op:=.buildSlice T 0 #[],type:=ty,pos,after:=af,guard:=none }::rest) l M K :=
 L_stepR (fun v M'=>∃ b,v=.slice (some ⟨b,0,none⟩) 0 0∧M'=treeH (⟨some ⟨b,0,none⟩,0,e,[],[]⟩:TL τ)::M) rfl rfl (Nat.le_of_ble_eq_true hn)
  (fun a w ha hw=>by
   refine ⟨_,_,w.alloc (.cells ([]:List Value).toArray e (0,0)),⟨w.heap.size,rfl,rfl⟩,?_,?_⟩
   ·have:=run_buildSlice0 ht w
    simp only [execOp]
    simp [this]
   ·have h2:=hw.new (cs:=[]) (T:=e) (b:=w.heap.size) rfl
    refine h2.reFp (List.Perm.of_eq rfl) fun x hx=>?_
    rcases List.mem_cons.1 hx with rfl | hx
    ·have hp:=h2.prs (blk w.heap.size [] e) (List.mem_cons_self ..)
     refine ⟨Nat.le_refl _,by simp [maxLen],fun x hx=>(by cases hx),fun ha=>(by cases ha),fun a ha=>?_⟩
     cases ha
     exact ⟨rfl,rfl,hp,by simp⟩
    ·exact h2.prs x (List.mem_cons_of_mem _ hx))
  (fun v M' ⟨b,h1,h2⟩=>by subst h1;subst h2;exact hk b)
class Bd (τ:Type) {δ:outParam Type} [GT τ δ] [Bk τ] where
 bd:δ→Nat
 eq:∀ x:τ,Bk.bulk x=bd (GT.dat x)
class Bm (τ:Type) [Bk τ] [Mk τ] where
 A:Nat
 le:∀ x:τ,Mk.cnt x≤A*(1+Bk.bulk x)
instance:Bd Int:=⟨fun _=>0,fun _=>rfl⟩
instance:Bd Bool:=⟨fun _=>0,fun _=>rfl⟩
instance:Bd ByteArray:=⟨fun s=>s.size,fun _=>rfl⟩
instance {α β δ ε:Type} [GT α δ] [GT β ε] [Bk α] [Bk β] [Bd α] [Bd β]:Bd (α×β):=⟨fun p=>Bd.bd (τ:=α) p.1+Bd.bd (τ:=β) p.2,fun x=>by
 obtain ⟨a,b⟩:=x
 simp only [bulk_pair,dat_pair,Bd.eq]⟩
def bds (τ:Type) {δ:Type} [GT τ δ] [Bk τ] [Bd τ]:List δ→Nat
 | []=>0
 | x::xs=>Bd.bd (τ:=τ) x+bds τ xs
theorem bulks_eq {τ δ:Type} [GT τ δ] [Bk τ] [Bd τ] (xs:List τ):bulks xs=bds τ (xs.map GT.dat):=by
 induction xs with
 | nil=>rfl
 | cons x xs ih=>simp only [List.map_cons,bulks,bds,Bd.eq,ih]
instance {τ δ:Type} [GT τ δ] [Bk τ] [Bd τ]:Bd (TL τ):=⟨fun xs=>xs.length+bds τ xs,fun L=>by
 obtain ⟨_,_,_,xs,_⟩:=L
 simp only [bulk_TL,dat_TL,bulks_eq,List.length_map]⟩
theorem bulk_dat {τ δ:Type} [GT τ δ] [Bk τ] [Bd τ] {x y:τ} (h:GT.dat x=GT.dat y):Bk.bulk x=Bk.bulk y:=by rw [Bd.eq,Bd.eq,h]
instance:Bm Int:=⟨1,fun x=>by show 1≤1*(1+0);omega⟩
instance:Bm ByteArray:=⟨1,fun x=>by show 1≤1*(1+x.size);omega⟩
instance {α β:Type} [Bk α] [Bk β] [Mk α] [Mk β] [Bm α] [Bm β]:Bm (α×β):=⟨Bm.A α+Bm.A β,fun x=>by
 obtain ⟨a,b⟩:=x
 have h1:=Bm.le a;have h2:=Bm.le b
 simp only [cnt_pair,bulk_pair]
 have h3:Bm.A α*(1+Bk.bulk a)≤Bm.A α*(1+(Bk.bulk a+Bk.bulk b)):=Nat.mul_le_mul_left _ (by omega)
 have h4:Bm.A β*(1+Bk.bulk b)≤Bm.A β*(1+(Bk.bulk a+Bk.bulk b)):=Nat.mul_le_mul_left _ (by omega)
 rw [Nat.add_mul];omega⟩
theorem cnts_le {τ:Type} [Bk τ] [Mk τ] [Bm τ] (xs:List τ):cnts xs≤Bm.A τ*(xs.length+bulks xs):=by
 induction xs with
 | nil=>simp [cnts]
 | cons x xs ih =>
  have h:=Bm.le x
  simp only [cnts,List.length_cons,bulks]
  rw [show xs.length+1+(Bk.bulk x+bulks xs)=(1+Bk.bulk x)+(xs.length+bulks xs) by omega,Nat.mul_add]
  omega
theorem cntTL_le {τ:Type} [Bk τ] [Mk τ] [Bm τ] (L:TL τ):Mk.cnt L≤Bm.A τ*Bk.bulk L:=cnts_le L.els
instance {τ:Type} [Bk τ] [Mk τ] [Bm τ]:Bm (TL τ):=⟨Bm.A τ,fun L=>Nat.le_trans (cntTL_le L) (Nat.mul_le_mul_left _ (by omega))⟩
class Bv (τ:Type) [Bk τ] [Mv τ] where
 A:Nat
 le:∀ x:τ,Mv.cnt x≤A*Bk.bulk x
instance:Bv Int:=⟨0,fun x=>by show 0≤0*0;omega⟩
instance:Bv Bool:=⟨0,fun x=>by show 0≤0*0;omega⟩
instance:Bv ByteArray:=⟨0,fun x=>by show 0≤0*x.size;omega⟩
instance {τ:Type} [Bk τ] [Mk τ] [Bm τ]:Bv (TL τ):=⟨Bm.A τ,cntTL_le⟩
instance {α β:Type} [Bk α] [Bk β] [Mv α] [Mv β] [Bv α] [Bv β]:Bv (α×β):=⟨Bv.A α+Bv.A β,fun x=>by
 obtain ⟨a,b⟩:=x
 have h1:=Bv.le a;have h2:=Bv.le b
 simp only [mv_cnt_pair,bulk_pair]
 have h3:Bv.A α*Bk.bulk a≤Bv.A α*(Bk.bulk a+Bk.bulk b):=Nat.mul_le_mul_left _ (by omega)
 have h4:Bv.A β*Bk.bulk b≤Bv.A β*(Bk.bulk a+Bk.bulk b):=Nat.mul_le_mul_left _ (by omega)
 rw [Nat.add_mul];omega⟩
theorem hdr_mk {τ:Type} [Mk τ] (k:Nat) (L:TL τ):(Mk.mkd k L:TL τ).hdr=L.hdr:=by
 show Value.slice L.a (mks k L.els).length L.cap=Value.slice L.a L.els.length L.cap
 rw [mks_length]
class Cv (τ:Type) {δ:outParam Type} [GT τ δ] [Mv τ]:Prop where
 eq:∀ (k:Nat) (x:τ),GT.cells (Mv.mkd k x)=GT.cells x
instance:Cv Int:=⟨fun _ _=>rfl⟩
instance:Cv Bool:=⟨fun _ _=>rfl⟩
instance:Cv ByteArray:=⟨fun _ _=>rfl⟩
instance {τ δ:Type} [GT τ δ] [Mk τ]:Cv (TL τ):=⟨fun k L=>cells_mkTL k L⟩
instance {α β δ ε:Type} [GT α δ] [GT β ε] [Mv α] [Mv β] [Cv α] [Cv β]:Cv (α×β):=⟨fun k x=>by
 obtain ⟨a,b⟩:=x
 rw [mv_pair,cells_pair,cells_pair,Cv.eq,Cv.eq]⟩
theorem cntv_le {τ δ:Type} [GT τ δ] [Bk τ] [Mv τ] [Bv τ] (x:τ) (hA:Nat.ble (Bv.A τ) 1000=true) (hb:Bk.bulk x≤1000000000):Mv.cnt x≤1000000000000 :=
 Nat.le_trans (Bv.le x) (Nat.le_trans (Nat.mul_le_mul (Nat.le_of_ble_eq_true hA) hb) (by omega))
theorem cntk_le {τ δ:Type} [GT τ δ] [Bk τ] [Mk τ] [Bm τ] (x:TL τ) (hA:Nat.ble (Bm.A τ) 1000=true) (hb:Bk.bulk x≤1000000000):Mk.cnt x≤1000000000000 :=
 Nat.le_trans (cntTL_le x) (Nat.le_trans (Nat.mul_le_mul (Nat.le_of_ble_eq_true hA) hb) (by omega))
end Go.Proofs.SL
namespace Go.Proofs.SL
open Go
variable {P:Program} {T:TypeId} {x y:Operand} {k:IntKind} {a b:Int}
theorem bv_and:BinV P .and T x y (.int k a) (.int k b) (.int k (bits .and k a b)):=fun w=>by simp [eqGuard,binOp,intBits_and]
theorem bv_or:BinV P .or T x y (.int k a) (.int k b) (.int k (bits .or k a b)):=fun w=>by simp [eqGuard,binOp,intBits_or]
theorem bv_xor:BinV P .xor T x y (.int k a) (.int k b) (.int k (bits .xor k a b)):=fun w=>by simp [eqGuard,binOp,intBits_xor]
theorem bv_shr {yk:IntKind} (h0:0≤b) (h1:b≤k.bits):BinV P .shr T x y (.int k a) (.int yk b) (.int k (a / 2 ^ b.toNat)):=fun w=>by simp [eqGuard,binOp,shift_shr k yk a b h0 h1]
theorem bv_shl {yk:IntKind} (h0:0≤b) (h1:b≤k.bits):BinV P .shl T x y (.int k a) (.int yk b) (.int k (k.wrap (a*2 ^ b.toNat))):=fun w=>by simp [eqGuard,binOp,shift_shl k yk a b h0 h1]
end Go.Proofs.SL
namespace Go.Proofs.SL
open Go
variable {Γ:Cx} {rest:List Oper} {d:Nat} {ty:TypeId} {pos:String} {af:Array Edge} {gd:Option (Nat×Bool)}
variable {ops:Array Oper} {Msh pool:List HP} {E:Fl} {rs:List (Option Nat×Rel)} {cs0:List Nat} {KD:List (Option Nat×Rel)→List Nat→List HP→Prop}
end Go.Proofs.SL
namespace Go.Proofs.SL
open Go
section
variable {α β σ:Type}
def idx (l:List α) (i:Int):Option α:=if i < 0 then none else l[i.toNat]?
theorem idx_some {l:List α} {i:Int} {x:α}:idx l i=some x↔0≤i∧l[i.toNat]?=some x:=by
 unfold idx
 split
 ·constructor
  ·intro h;cases h
  ·intro h;omega
 ·constructor
  ·intro h;exact ⟨by omega,h⟩
  ·intro h;exact h.2
theorem idx_nat {l:List α} {k:Nat}:idx l (k:Int)=l[k]?:=by
 unfold idx
 rw [if_neg (by omega)];simp
def sidx (s:ByteArray) (i:Int):Option Int:=if h:0≤i∧i.toNat < s.size then some ((s[i.toNat]'h.2).toNat:Int) else none
theorem sidx_some {s:ByteArray} {i n:Int} (h:sidx s i=some n):∃ h:0≤i∧i.toNat < s.size,n=((s[i.toNat]'h.2).toNat:Int):=by
 unfold sidx at h
 split at h
 ·rename_i hh;cases h;exact ⟨hh,rfl⟩
 ·cases h
def gb [Inhabited α] (g:Bool) (o:Option α) (k:α→Option β):Option β:=match g with | true=>o.bind k | false=>k default
theorem gb_any [Inhabited α] {g:Bool} {o:Option α} {k:α→Option β} {r:β} (h:gb g o k=some r):∃ y,(g=true→o=some y)∧k y=some r:=by
 cases g with
 | true=>obtain ⟨y,h1,h2⟩:=Option.bind_eq_some_iff.1 h;exact ⟨y,fun _=>h1,h2⟩
 | false=>exact ⟨default,(fun hh=>(by cases hh)),h⟩
theorem bind_any {o:Option α} {k:α→Option β} {r:β} (h:Option.bind o k=some r):∃ y,o=some y∧k y=some r:=Option.bind_eq_some_iff.1 h
theorem cond_t {c:Bool} {A B o:Option α} (hc:c=true) (h:cond c A B=o):A=o:=by subst hc;exact h
theorem cond_f {c:Bool} {A B o:Option α} (hc:c=false) (h:cond c A B=o):B=o:=by subst hc;exact h
theorem map_any {o:Option α} {f:α→β} {r:β} (h:Option.map f o=some r):∃ a,o=some a∧r=f a:=by
 obtain ⟨a,h1,h2⟩:=Option.map_eq_some_iff.1 h;exact ⟨a,h1,h2.symm⟩
theorem some_eq {a b:α} (h:some a=some b):b=a:=(Option.some.inj h).symm
def iterW (f:σ→Option (σ ⊕ α)):Nat→σ→Option α
 | 0,_=>none
 | n+1,s=>match f s with
  | none=>none
  | some (.inl s')=>iterW f n s'
  | some (.inr a)=>some a
theorem iterW_mono {f:σ→Option (σ ⊕ α)} {a:α}:∀ {n:Nat} {s:σ} (m:Nat),n≤m→iterW f n s=some a→iterW f m s=some a
 | 0,s,m,_,h=>by cases h
 | n+1,s,0,hm,_=>by omega
 | n+1,s,m+1,hm,h=>by
  simp only [iterW] at h ⊢
  split at h
  ·cases h
  ·exact iterW_mono m (by omega) h
  ·exact h
noncomputable def whileP (f:σ→Option (σ ⊕ α)) (s:σ):Option α :=
 @dite _ (∃ n a,iterW f n s=some a) (Classical.propDecidable _) (fun h=>some h.choose_spec.choose) (fun _=>none)
theorem whileP_iff {f:σ→Option (σ ⊕ α)} {s:σ} {a:α}:whileP f s=some a↔∃ n,iterW f n s=some a:=by
 unfold whileP
 constructor
 ·intro h
  split at h
  ·rename_i hh
   cases h
   exact ⟨hh.choose,hh.choose_spec.choose_spec⟩
  ·cases h
 ·rintro ⟨n,hn⟩
  have hh:∃ n a,iterW f n s=some a:=⟨n,a,hn⟩
  rw [dif_pos hh]
  have h2:=hh.choose_spec.choose_spec
  have key:∀ m b,iterW f m s=some b→some b=some a:=by
   intro m b h2
   rcases Nat.le_total n m with hle | hle
   ·rw [iterW_mono m hle hn] at h2;exact h2.symm
   ·rw [iterW_mono n hle h2] at hn;exact hn
  exact key _ _ h2
theorem whileP_eq (f:σ→Option (σ ⊕ α)) (s:σ):whileP f s=match f s with | none=>none | some (.inl s')=>whileP f s' | some (.inr a)=>some a:=by
 have key:∀ a,whileP f s=some a↔(match f s with | none=>none | some (.inl s')=>whileP f s' | some (.inr a)=>some a)=some a:=by
  intro a
  rw [whileP_iff]
  constructor
  ·rintro ⟨n,h⟩
   cases n with
   | zero=>cases h
   | succ n =>
    simp only [iterW] at h
    split at h
    ·cases h
    ·exact whileP_iff.2 ⟨n,h⟩
    ·exact h
  ·intro h
   split at h
   ·cases h
   ·rename_i s' hs
    obtain ⟨n,h⟩:=whileP_iff.1 h
    exact ⟨n+1,by simp only [iterW,hs];exact h⟩
   ·rename_i b hs
    exact ⟨1,by simp only [iterW,hs];exact h⟩
 exact Option.ext key
theorem whileP_rule {f:σ→Option (σ ⊕ α)} (I:σ→Prop) (μ:σ→Nat) (Q:α→Prop)
  (h:∀ s,I s→(∃ s',f s=some (.inl s')∧I s'∧μ s' < μ s)∨∃ a,f s=some (.inr a)∧Q a) (s:σ) (hs:I s):∃ a,whileP f s=some a∧Q a:=by
 generalize hn:μ s=n
 induction n using Nat.strongRecOn generalizing s with
 | _ n ih =>
  rw [whileP_eq]
  rcases h s hs with ⟨s',h1,h2,h3⟩ | ⟨a,h1,h2⟩
  ·rw [h1];exact ih (μ s') (hn ▸ h3) s' h2 rfl
  ·rw [h1];exact ⟨a,rfl,h2⟩
def jbind (o:Option (σ ⊕ α)) (k:σ→Option α):Option α:=match o with
 | none=>none
 | some (.inl s)=>k s
 | some (.inr a)=>some a
theorem jbind_any {o:Option (σ ⊕ α)} {k:σ→Option α} {r:α} (h:jbind o k=some r):∃ e,o=some e∧(∀ a,e=.inr a→a=r)∧(∀ s,e=.inl s→k s=some r):=by
 unfold jbind at h
 split at h
 ·cases h
 ·exact ⟨_,rfl,fun a ha=>by (cases ha),fun s hs=>by cases hs;exact h⟩
 ·exact ⟨_,rfl,fun a ha=>by cases ha;cases h;rfl,fun s hs=>by cases hs⟩
end
variable {Γ:Cx} {l:Envl} {M M1 M2 F:List HP} {Q:Post} {K:Kont} {w0 w:World} {S0:List Nat}
variable {rest:List Oper} {d:Nat} {ty:TypeId} {pos:String} {af:Array Edge}
theorem W_post {c:Code} {Q':Post} (h:W Γ c l M Q) (hq:∀ e l M,Q e l M→∃ M',(∀ w,Holds Γ.w0 Γ.S0 M w→Holds Γ.w0 Γ.S0 M' w)∧Q' e l M'):W Γ c l M Q':=fun a w ha hw =>
  Code.wp_mono (fun e a w q=>by
    cases e<;>first
      | exact q.elim
      | (obtain ⟨l,M,h1,h2,h3⟩:=q
         obtain ⟨M',h4,h5⟩:=hq _ _ _ h3
         exact ⟨l,M',h1,h4 _ h2,h5⟩)) (h a w ha hw)
def Arr (Γ:Cx) (M M':List HP):Prop:=∃ M2,(∀ w,Holds Γ.w0 Γ.S0 M w→Holds Γ.w0 Γ.S0 M2 w)∧MSub M' M2
theorem Arr.sub {M M':List HP} (h:MSub M' M):Arr Γ M M':=⟨M,fun _ h=>h,h⟩
theorem W_while {σ δ A:Type} {c:Code} {f:δ→Option (δ ⊕ A)} {r:A} (dat:σ→δ) (Ev:σ→Envl) (Mv:σ→List HP) (Ec:Envl) (Mc:List HP) (s0:σ) (h0:whileP f (dat s0)=some r)
    (hl:Sub (Ev s0++Ec) l) (hm:MSub (Mv s0++Mc) M)
    (round:∀ s x,f (dat s)=some x→(∀ a,x=.inr a→a=r)→W Γ c (Ev s++Ec) (Mv s++Mc) (thenQ (fun l' M'=>∃ s',Sub (Ev s'++Ec) l'∧Arr Γ M' (Mv s'++Mc)∧x=.inl (dat s')) Q)) :
    W Γ (.loop c) l M Q:=by
  obtain ⟨n,hn⟩:=whileP_iff.1 h0
  refine W_loop (σ:=σ×Nat) (fun s=>Ev s.1++Ec) (fun s=>Mv s.1++Mc) (fun s=>iterW f s.2 (dat s.1)=some r) (fun s=>s.2) (s0,n) hn hl hm ?_
  rintro ⟨s,n⟩ hI
  dsimp only at hI ⊢
  cases n with
  | zero=>cases hI
  | succ n =>
    simp only [iterW] at hI
    split at hI
    · cases hI
    · rename_i s' hs
      refine W_post (round s _ hs (fun a ha=>by cases ha)) fun e l' M' hq=>?_
      cases e<;>first
        | exact ⟨M',fun _ h=>h,hq⟩
        | (obtain ⟨s2,h1,⟨M2,h2,h2'⟩,h3⟩:=hq
           have e:s'=dat s2:=by simpa using h3
           subst e
           exact ⟨M2,h2,(s2,n),h1,h2',hI,Nat.lt_succ_self n⟩)
    · rename_i a ha
      cases hI
      refine W_mono (round s _ ha (fun a ha=>by cases ha;rfl)) fun e l' M' hq=>?_
      cases e<;>first
        | exact hq
        | (obtain ⟨s2,h1,h2,h3⟩:=hq;cases h3)
theorem W_jn {σ δ A:Type} {x y:Code} {o:Option (δ ⊕ A)} {k:δ→Option A} {r:A} (dat:σ→δ) (Ev:σ→Envl) (Mv:σ→List HP) (Ec:Envl) (Mc:List HP) (h0:jbind o k=some r)
  (h:∀ e,o=some e→(∀ a,e=.inr a→a=r)→W Γ x l M (thenQ (fun l' M'=>∃ s,Sub (Ev s++Ec) l'∧Arr Γ M' (Mv s++Mc)∧e=.inl (dat s)) Q))
  (hk:∀ s,k (dat s)=some r→W Γ y (Ev s++Ec) (Mv s++Mc) Q):W Γ (.seq x y) l M Q:=by
 obtain ⟨e,h1,h2,h3⟩:=jbind_any h0
 exact W_seq (W_post (h e h1 h2) fun ex l' M' hq=>by
  cases ex<;>first
   | exact ⟨M',fun _ h=>h,hq⟩
   | (obtain ⟨s,h4,⟨M2,h5,h5'⟩,h6⟩:=hq;exact ⟨M2,h5,W_weaken h4 h5' (hk s (h3 _ h6))⟩))
end Go.Proofs.SL
namespace Go.Proofs.SL
open Go
variable {Γ:Cx} {l:Envl} {M M1 M2 F:List HP} {Q:Post} {K:Kont} {w0 w:World} {S0:List Nat}
variable {rest:List Oper} {d:Nat} {ty:TypeId} {pos:String} {af:Array Edge}
theorem run_append_roomE {P:Program} (w:World) (t ty e e2:TypeId) (i:TypeInfo) (ht:P.underlying t=some (.slice e)) (hi:P.info? e=some i)
  (g sLen sCap:Nat) (cur:Array Value) (hg:w.heap[g]?=some (.cells cur e2 (0,0)))
  (a:Addr) (m c:Nat) (news:List Value) (hl:news.length=m*i.size) (hnews:∀ j u,news[j]?=some u→w.cell? (a.add j)=some u) (h1:∀ u∈news,u.oneCell'=true)
  (hroom:sLen+m≤sCap) (hfit:sLen*i.size+news.length≤cur.size) :
  (Builtin.append_ #[t,t] ty #[.slice (some ⟨g,0,none⟩) sLen sCap,.slice (some a) m c]).run P w =
   .ok (.slice (some ⟨g,0,none⟩) (sLen+m) sCap) (w.setRow g (cur.toList.take (sLen*i.size)++news++cur.toList.drop (sLen*i.size+news.length)).toArray):=by
 have hf:=run_firstCells_some (P:=P) w i.size m a m c news hl hnews
 have hst:=run_storeCells_at P g (sLen*i.size) e2 news 0 cur w hg (by simpa using hfit) h1
 simp only [Nat.add_zero] at hst
 simp [Builtin.append_,run_underlying ht,sizeOf,typeInfo,hi,Builtin.lenOf,hroom,hf,Addr.add_lit,hst]
section
variable {τ δ:Type} [GT τ δ]
theorem append_rowE {P:Program} {T e sz by_:Nat} {z:List Value} {L:TL τ} {ys:List τ} (ht:elOf P T=some (e,sz,by_,z)) (hsz:GT.sz τ=sz) (hz:z.length=sz) (hw:Holds w0 S0 (rowH L::F) w)
  {a:Addr} {c:Nat} (hsrc:∀ j v,(rowCells ys)[j]?=some v→w.cell? (a.add j)=some v) (hm:L.els.length+ys.length≤4294967296) (hb:by_≤32768) (ty:TypeId) :
  ∃ a' c' e' tl w',(Builtin.append_ #[T,T] ty #[L.hdr,.slice (some a) ys.length c]).run P w=.ok (.slice a' (L.els++ys).length c') w'∧Holds w0 S0 (rowH (⟨a',c',e',L.els++ys,tl⟩:TL τ)::F) w':=by
 unfold elOf at ht
 split at ht<;>(try cases ht)
 rename_i e' het
 split at ht<;>(try cases ht)
 rename_i i' hi'
 split at ht<;>cases ht
 rename_i z' hz'
 have hzs:z'.cells.size=i'.size:=by rw [← Array.length_toList];exact hz
 have hpos:0 < i'.size:=hsz ▸ GT.pos (τ:=τ)
 obtain ⟨La,Lc,Le,Lx,Lt⟩:=L
 have hr:=hw.prs (rowH _) (List.mem_cons_self ..)
 obtain ⟨hr1,hr2,hr3,hr4⟩:=hr
 dsimp only at hr1 hr2 hr3 hr4 hm ⊢
 have hlx:(rowCells Lx).length=Lx.length*i'.size:=by rw [length_rowCells,hsz]
 have hly:(rowCells ys).length=ys.length*i'.size:=by rw [length_rowCells,hsz]
 have hby:(Lx.length+ys.length)*i'.bytes≤140737488355328:=by
  have:=Nat.mul_le_mul hm hb
  omega
 have hone:∀ u,u∈rowCells ys→u.oneCell'=true:=fun u hu=>rowCells_one ys u hu
 have hgrow:∀ (old:Nat) (h:HP),h=rowH (⟨La,Lc,Le,Lx,Lt⟩:TL τ)→Holds w0 S0 (rowH (⟨some ⟨w.heap.size,0,none⟩,grownCap w (Lx.length+ys.length) old e,e,Lx++ys,(Builtin.zeroCells z'.cells (grownCap w (Lx.length+ys.length) old e - (Lx.length+ys.length))).toList⟩:TL τ)::F)
   (w.drew.alloc (.cells ((rowCells Lx).toArray++(rowCells ys).toArray++Builtin.zeroCells z'.cells (grownCap w (Lx.length+ys.length) old e - (Lx.length+ys.length))) e)):=by
  intro old h hh
  have hge:=grownCap_ge w (Lx.length+ys.length) old e
  have hcm:grownCap w (Lx.length+ys.length) old e≤maxLen:=grownCap_le_maxLen w (Lx.length+ys.length) old e (by simp only [maxLen];omega)
  refine Holds.swap (w':=w.drew.alloc _) (hh ▸ hw:Holds w0 S0 (h::F) w) rfl ⟨rfl,Nat.le_succ _⟩ rfl (by simp) (fun k hk _=>?_) (fun k hk=>?_) (by simp [rowH]) ?_
  ·rw [heap_alloc_old _ _ (by simpa using hk)];rfl
  ·simp [rowH] at hk;subst hk;exact ⟨.inr (Nat.le_refl _),by simp⟩
  ·refine ⟨by simpa using hge,hcm,fun h=>(by cases h),fun a ha=>?_⟩
   cases ha
   refine ⟨rfl,rfl,?_,?_⟩
   ·have:=heap_alloc_new w.drew (.cells ((rowCells Lx).toArray++(rowCells ys).toArray++Builtin.zeroCells z'.cells (grownCap w (Lx.length+ys.length) old e - (Lx.length+ys.length))) e)
    simp only [World.size_drew] at this
    rw [this]
    congr 2
    apply Array.ext'
    simp [rowCells_append]
   ·simp only [Array.length_toList,size_zc,hzs,List.length_append,hsz]
    rw [← Nat.add_mul];congr 1;omega
 cases La with
 | none =>
  obtain ⟨hx0,q0⟩:=hr3 rfl
  subst hx0;subst q0
  by_cases hy0:ys=[]
  ·subst hy0
   refine ⟨none,0,e,[],w,?_,Holds.swap hw rfl ⟨rfl,Nat.le_refl _⟩ rfl (Nat.le_refl _) (fun _ _ _=>rfl) (fun k hk=>by simp [rowH] at hk) (by simp [rowH]) ⟨by simp,by simp [maxLen],fun _=>⟨rfl,rfl⟩,fun a ha=>by cases ha⟩⟩
   simp [TL.hdr,Builtin.append_,run_underlying het,sizeOf,typeInfo,hi',Builtin.lenOf,Builtin.firstCells,loadCells,loadCellsFrom]
  ·have hyl:0 < ys.length:=List.length_pos_iff.2 hy0
   have hrun:=run_append_nil (P:=P) w T ty e i' z' het hi' hz' a ys.length c (rowCells ys) hly hsrc hyl (by omega) (by simp at hby;omega)
   have:=hgrow 0 _ rfl
   simp only [List.length_nil,Nat.zero_add,List.nil_append] at this ⊢
   have e0:(rowCells ([]:List τ)).toArray=#[]:=rfl
   rw [e0,Array.empty_append] at this
   exact ⟨_,_,_,_,_,hrun,this⟩
 | some La =>
  obtain ⟨h1,h2,h3,h4⟩:=hr4 La rfl
  obtain ⟨g,o,s⟩:=La
  dsimp only at h1 h2 h3
  subst h1;subst h2
  have hhd:TL.hdr (⟨some ⟨g,0,none⟩,Lc,Le,Lx,Lt⟩:TL τ)=.slice (some ⟨g,0,none⟩) Lx.length Lc:=rfl
  rw [hhd]
  rw [hsz] at h4
  have hsize:((rowCells Lx++Lt).toArray).size=Lc*i'.size:=by simp [hlx];omega
  by_cases hroom:Lx.length+ys.length≤Lc
  ·have hfit:Lx.length*i'.size+(rowCells ys).length≤((rowCells Lx++Lt).toArray).size:=by rw [hsize,hly,← Nat.add_mul];exact Nat.mul_le_mul_right _ hroom
   have hrun:=run_append_roomE (P:=P) w T ty e Le i' het hi' g Lx.length Lc _ h3 a ys.length c (rowCells ys) hly hsrc hone hroom hfit
   refine ⟨some ⟨g,0,none⟩,Lc,Le,Lt.drop (rowCells ys).length,_,by rw [List.length_append];exact hrun,?_⟩
   have e1:(List.take (Lx.length*i'.size) (rowCells Lx++Lt).toArray.toList++rowCells ys++List.drop (Lx.length*i'.size+(rowCells ys).length) (rowCells Lx++Lt).toArray.toList)=rowCells (Lx++ys)++Lt.drop (rowCells ys).length:=by
    simp only []
    rw [← hlx,List.take_left,List.drop_append,List.drop_of_length_le (by omega),List.nil_append,Nat.add_sub_cancel_left,rowCells_append]
   rw [e1]
   refine Holds.swap hw rfl ⟨rfl,Nat.le_refl _⟩ rfl (by simp) (fun k hk hn=>?_) (fun k hk=>?_) (by simp [rowH]) ?_
   ·exact setRow_other _ _ _ _ (fun e=>hn (by simp [rowH,e]))
   ·simp [rowH] at hk;subst hk;exact ⟨.inl (by simp [rowH]),by simp;exact (Array.getElem?_eq_some_iff.1 h3).1⟩
   ·refine ⟨by simpa using hroom,hr2,fun h=>(by cases h),fun a ha=>?_⟩
    cases ha
    refine ⟨rfl,rfl,setRow_heap _ _ _ _ _ _ h3,?_⟩
    simp only [List.length_append,List.length_drop,hsz,hly]
    have:=Nat.mul_le_mul_right i'.size hroom
    rw [Nat.add_mul] at this ⊢
    omega
  ·have holds:∀ j v,(rowCells Lx)[j]?=some v→w.cell? ((⟨g,0,none⟩:Addr).add j)=some v:=fun j v hv=>by
    rw [addr_add,Nat.zero_add,cell_of_row _ _ _ _ _ _ h3]
    simp only [List.getElem?_toArray]
    rw [List.getElem?_append_left (List.getElem?_eq_some_iff.1 hv).1];exact hv
   have hrun:=run_append_grow (P:=P) w T ty e i' z' het hi' hz' ⟨g,0,none⟩ Lx.length Lc (rowCells Lx) hlx holds a ys.length c (rowCells ys) hly hsrc (by omega) (by omega) (growslice_fits (by omega) hby)
   refine ⟨_,_,_,_,_,by rw [List.length_append];exact hrun,hgrow Lc _ rfl⟩
theorem L_appA {s x:Operand} {T e sz by_ m c:Nat} {ad:Addr} {z:List Value} {X:TL τ} {ys:List τ} (hn:Nat.blt d Γ.n=true)
  (hs:ev l s=some X.hdr) (hx:ev l x=some (.slice (some ad) m c)) (ht:elOf Γ.P T=some (e,sz,by_,z)) (hsz:GT.sz τ=sz) (hz:z.length=sz)
  (hp:Pick (treeH X) M M1) (hmy:m=ys.length) (hsrc:∀ w,Sees Γ.w0 Γ.S0 M w→∀ j v,(rowCells ys)[j]?=some v→w.cell? (ad.add j)=some v)
  (hown:∀ w R,Holds Γ.w0 Γ.S0 (M1++R) w→Holds Γ.w0 Γ.S0 (elsT ys::(M2++R)) w)
  (hlen:X.els.length+ys.length≤4294967296) (hb:by_≤32768)
  (hk:∀ X':TL τ,X'.els=X.els++ys→L Γ rest ((d,X'.hdr)::l) (treeH X'::M2) K) :
  L Γ ({ dst:=some d,op:=.call { callee:=.builtin .append,args:=#[s,x],argTypes:=#[T,T] },type:=ty,pos,after:=af,guard:=none }::rest) l M K:=by
 subst hmy
 refine L_stepR (fun v M'=>∃ X':TL τ,X'.els=X.els++ys∧v=X'.hdr∧M'=treeH X'::M2) rfl rfl (Nat.le_of_ble_eq_true hn)
  (fun a w ha hw=>?_) (fun v M' ⟨X',h0,h1,h2⟩=>by subst h1;subst h2;exact hk X' h0)
 have hw1:=tree_row (hw.perm hp.perm)
 have hsr:=hsrc w hw.sees
 obtain ⟨a',c',e',tl,w',h1,h2⟩:=append_rowE (P:=Γ.P) (c:=c) ht hsz hz hw1 hsr hlen hb ty
 refine ⟨_,_,w',⟨⟨a',c',e',X.els++ys,tl⟩,rfl,rfl,rfl⟩,?_,?_⟩
 ·have h1':(Builtin.append_ #[T,T] ty #[X.hdr,.slice (some ad) ys.length c]).run Γ.P w=.ok (TL.hdr (⟨a',c',e',X.els++ys,tl⟩:TL τ)) w':=h1
  generalize TL.hdr (⟨a',c',e',X.els++ys,tl⟩:TL τ)=vv at *
  generalize X.hdr=uu at *
  simp [execOp,resolve,invoke,builtin,ha.eval hs,ha.eval hx,h1']
 ·have h3:Holds Γ.w0 Γ.S0 (M1++[elsT X.els,rowH (⟨a',c',e',X.els++ys,tl⟩:TL τ)]) w' :=
   h2.perm ((List.Perm.swap _ _ _).trans (List.perm_append_comm (l₁:=[elsT X.els,rowH (⟨a',c',e',X.els++ys,tl⟩:TL τ)]) (l₂:=M1)))
  have h4:=hown w' _ h3
  refine row_tree ?_
  have h5:Holds Γ.w0 Γ.S0 (elsT X.els::elsT ys::rowH (⟨a',c',e',X.els++ys,tl⟩:TL τ)::M2) w':=h4.perm
   (((List.perm_append_comm (l₁:=M2) (l₂:=[elsT X.els,rowH (⟨a',c',e',X.els++ys,tl⟩:TL τ)])).cons _).trans (List.Perm.swap _ _ _))
  exact (elsT_app h5).perm (List.Perm.swap _ _ _)
end
def TL.g {τ:Type} (X:TL τ):Nat:=(X.a.map Addr.block).getD 0
def TL.o {τ:Type} (X:TL τ):Nat:=(X.a.map Addr.off).getD 0
section
variable {τ δ:Type} [GT τ δ]
theorem rd_adr {X:TL τ} {j:Nat} {u:τ} (h:GT.rd w0 S0 X) (hi:X.els[j]?=some u):X.a=some ⟨X.g,X.o,none⟩:=by
 have hlt:=(List.getElem?_eq_some_iff.1 hi).1
 obtain ⟨g,o,ha⟩:=rd_addr h hlt
 unfold TL.g TL.o
 rw [ha];rfl
theorem hdr_adr {X:TL τ} {j:Nat} {u:τ} (h:GT.rd w0 S0 X) (hi:X.els[j]?=some u):X.hdr=.slice (some ⟨X.g,X.o,none⟩) X.els.length X.cap:=by
 show Value.slice X.a X.els.length X.cap=_
 rw [rd_adr h hi]
theorem RdT.at {X:TL τ} {j:Nat} {x:τ} (h:RdT Γ M X) (hi:X.els[j]?=some x):RdC Γ M X.g (X.o+j*GT.sz τ) (GT.cells x):=fun w hw =>
 (RdT.cells (Γ:=Γ) (M:=M) h (rd_adr (h w hw) hi) hi) w hw
theorem RdT.of {X:TL τ} {j:Nat} {x:τ} (h:RdT Γ M X) (hi:X.els[j]?=some x):RdT Γ M x:=h.el (List.mem_of_getElem? hi)
theorem RdT.pair {α β δ ε:Type} [GT α δ] [GT β ε] {a:α} {b:β} (h1:RdT Γ M a) (h2:RdT Γ M b):RdT Γ M (a,b):=fun w hw=>⟨h1 w hw,h2 w hw⟩
theorem RdT.int {n:Int}:RdT Γ M n:=fun _ _=>trivial
theorem RdT.bool {n:Bool}:RdT Γ M n:=fun _ _=>trivial
theorem RdT.str {n:ByteArray}:RdT Γ M n:=fun _ _=>trivial
theorem RdT.u8 {n:UInt8}:RdT Γ M n:=fun _ _=>trivial
theorem RdT.nil (e:TypeId):RdT Γ M (TL.nil τ e):=fun _ _=>⟨Nat.le_refl _,by simp [TL.nil,maxLen],fun x hx=>by simp [TL.nil] at hx,fun _=>rfl,fun a ha=>by simp [TL.nil] at ha⟩
theorem dat_els (X:TL τ):GT.dat X=X.els.map GT.dat:=rfl
theorem idx_dat {X:TL τ} {i:Int} {y:δ} (h:idx (GT.dat X) i=some y):∃ u:τ,(0≤i∧X.els[i.toNat]?=some u)∧GT.dat u=y:=by
 obtain ⟨h1,h2⟩:=idx_some.1 h
 rw [dat_els,List.getElem?_map] at h2
 obtain ⟨u,h3,h4⟩:=Option.map_eq_some_iff.1 h2
 exact ⟨u,⟨h1,h3⟩,h4⟩
theorem idx_bind {β:Type} {X:TL τ} {i:Int} {k:δ→Option β} {r:β} (h:Option.bind (idx (GT.dat X) i) k=some r):∃ u:τ,(0≤i∧X.els[i.toNat]?=some u)∧k (GT.dat u)=some r:=by
 obtain ⟨y,h1,h2⟩:=bind_any h
 obtain ⟨u,h3,rfl⟩:=idx_dat h1
 exact ⟨u,h3,h2⟩
class Df (τ:Type) {δ:outParam Type} [GT τ δ] [Inhabited δ]:Prop where
 df:∃ t:τ,GT.dat t=default
instance:Df Int:=⟨0,rfl⟩
instance:Df Bool:=⟨false,rfl⟩
instance:Df UInt8:=⟨default,rfl⟩
instance:Df ByteArray:=⟨default,rfl⟩
instance {τ δ:Type} [GT τ δ]:Df (TL τ):=⟨TL.nil τ 0,rfl⟩
instance {α β δ ε:Type} [GT α δ] [GT β ε] [Inhabited δ] [Inhabited ε] [Df α] [Df β]:Df (α×β):=⟨by
 obtain ⟨a,ha⟩:=Df.df (τ:=α)
 obtain ⟨b,hb⟩:=Df.df (τ:=β)
 exact ⟨(a,b),by rw [dat_pair,ha,hb];rfl⟩⟩
theorem idx_gb [Inhabited δ] [Df τ] {β:Type} {X:TL τ} {g:Bool} {i:Int} {k:δ→Option β} {r:β} (h:gb g (idx (GT.dat X) i) k=some r):∃ u:τ,(g=true→0≤i∧X.els[i.toNat]?=some u)∧k (GT.dat u)=some r:=by
 cases g with
 | true=>obtain ⟨u,h1,h2⟩:=idx_bind h;exact ⟨u,fun _=>h1,h2⟩
 | false =>
  obtain ⟨t,ht⟩:=Df.df (τ:=τ)
  exact ⟨t,(fun h=>(by cases h)),by rw [ht];exact h⟩
end
section
variable {τ δ:Type} [GT τ δ]
theorem L_lenP {x:Operand} {T:TypeId} {e:TypeId×Nat×Nat×List Value} {X:TL τ} (hn:Nat.blt d Γ.n=true) (hx:ev l x=some X.hdr) (ht:elOf Γ.P T=some e)
  (hk:L Γ rest ((d,.int .i64 ((GT.dat X).length:Int))::l) M K) :
  L Γ ({ dst:=some d,op:=.call { callee:=.builtin .len,args:=#[x],argTypes:=#[T] },type:=ty,pos:=pos,after:=af,guard:=none }::rest) l M K :=
 L_lenS (a:=X.a) (n:=X.els.length) (c:=X.cap) hn hx ht (by rw [dat_els,List.length_map] at hk;exact hk)
theorem L_idxA {x y:Operand} {T e sz by_:Nat} {z:List Value} {k:IntKind} {i:Int} {X:TL τ} {u:τ} (hn:Nat.blt d Γ.n=true) (hx:ev l x=some X.hdr) (hy:ev l y=some (.int k i))
  (ht:elOf Γ.P T=some (e,sz,by_,z)) (hr:RdT Γ M X) (hi:0≤i∧X.els[i.toNat]?=some u) (hk:L Γ rest ((d,.pointer (some ⟨X.g,X.o+i.toNat*sz,none⟩))::l) M K) :
  L Γ ({ dst:=some d,op:=.indexAddr T x y,type:=ty,pos:=pos,after:=af,guard:=none }::rest) l M K :=
 L_pure hn (fun a' w ha hw=>by
  have h1:=ha.eval hx
  rw [hdr_adr (hr w hw.sees) hi.2] at h1
  simp [execOp,h1,ha.eval hy,run_indexAt ht X.g X.o X.els.length X.cap k i i.toNat (by omega) (List.getElem?_eq_some_iff.1 hi.2).1 w]) hk
end
variable {ops:Array Oper} {Msh pool:List HP} {E:Fl} {rs:List (Option Nat×Rel)} {cs0:List Nat} {KD:List (Option Nat×Rel)→List Nat→List HP→Prop} {gd:Option (Nat×Bool)}
section
variable {τ δ:Type} [GT τ δ]
theorem D_lenP {x:Operand} {T:TypeId} {e:TypeId×Nat×Nat×List Value} {X:TL τ} {c:Prop} (hg:GC ops E { dst:=some d,op:=.call { callee:=.builtin .len,args:=#[x],argTypes:=#[T] },type:=ty,pos:=pos,after:=af,guard:=gd } c)
  (hx:OpV E x c X.hdr) (ht:elOf Γ.P T=some e)
  (hk:DV Γ ops Msh pool ((d,FC c (.int .i64 ((GT.dat X).length:Int)))::E) ((some d,FC c (.int .i64 ((GT.dat X).length:Int)))::rs) cs0 rest KD) :
  DV Γ ops Msh pool E rs cs0 ({ dst:=some d,op:=.call { callee:=.builtin .len,args:=#[x],argTypes:=#[T] },type:=ty,pos:=pos,after:=af,guard:=gd }::rest) KD :=
 D_lenS (a:=X.a) (n:=X.els.length) (cp:=X.cap) hg hx ht (by rw [dat_els,List.length_map] at hk;exact hk)
theorem D_idxA {x y:Operand} {T e sz by_:Nat} {z:List Value} {k:IntKind} {i:Int} {X:TL τ} {u:τ} {c:Prop} (hg:GC ops E { dst:=some d,op:=.indexAddr T x y,type:=ty,pos:=pos,after:=af,guard:=gd } c)
  (hx:OpV E x c X.hdr) (hy:OpV E y c (.int k i)) (ht:elOf Γ.P T=some (e,sz,by_,z)) (hr:RdT Γ Msh X) (hi:c→0≤i∧X.els[i.toNat]?=some u)
  (hk:DV Γ ops Msh pool ((d,FC c (.pointer (some ⟨X.g,X.o+i.toNat*sz,none⟩)))::E) ((some d,FC c (.pointer (some ⟨X.g,X.o+i.toNat*sz,none⟩)))::rs) cs0 rest KD) :
  DV Γ ops Msh pool E rs cs0 ({ dst:=some d,op:=.indexAddr T x y,type:=ty,pos:=pos,after:=af,guard:=gd }::rest) KD :=
 DV_pure c _ hg (fun a w F hc hf hs=>by
  have e1:=hx.eval hf (by simp [Op.operands]) hc
  have e2:=hy.eval hf (by simp [Op.operands]) hc
  obtain ⟨h0,h1⟩:=hi hc
  rw [hdr_adr (hr w hs) h1] at e1
  simp [execOp,e1,e2,run_indexAt ht X.g X.o X.els.length X.cap k i i.toNat (by omega) (List.getElem?_eq_some_iff.1 h1).1 w]) hk
theorem D_idxS {x y:Operand} {T:TypeId} {s:ByteArray} {k:IntKind} {i n:Int} {c:Prop} (hg:GC ops E { dst:=some d,op:=.index T x y,type:=ty,pos:=pos,after:=af,guard:=gd } c)
  (hx:OpV E x c (.string s)) (hy:OpV E y c (.int k i)) (ht:isStr Γ.P T=true) (hi:c→sidx s i=some n)
  (hk:DV Γ ops Msh pool ((d,FC c (.int .u8 n))::E) ((some d,FC c (.int .u8 n))::rs) cs0 rest KD) :
  DV Γ ops Msh pool E rs cs0 ({ dst:=some d,op:=.index T x y,type:=ty,pos:=pos,after:=af,guard:=gd }::rest) KD :=
 DV_pure c _ hg (fun a w F hc hf hs=>by
  have e1:=hx.eval hf (by simp [Op.operands]) hc
  have e2:=hy.eval hf (by simp [Op.operands]) hc
  obtain ⟨⟨h1,h2⟩,h3⟩:=sidx_some (hi hc)
  have h4:Γ.P.underlying T=some .string:=by unfold isStr at ht;split at ht<;>simp_all
  obtain ⟨j,rfl⟩:=Int.eq_ofNat_of_zero_le h1
  simp only [Int.toNat_natCast] at h2 h3
  simp [execOp,e1,e2,Instr.index,asIntOf,underlying,h4,h2,h3]) hk
end
end Go.Proofs.SL
namespace Go.Proofs.SL
open Go
variable {Γ:Cx} {l:Envl} {M M' M1 M2 F:List HP} {Q:Post} {K:Kont} {w0 w:World} {S0:List Nat}
variable {rest:List Oper} {d:Nat} {ty:TypeId} {pos:String} {af:Array Edge}
def appP {δ:Type} (a b:List δ):Option (List δ):=if a.length+b.length≤4294967296 then some (a++b) else none
theorem appP_some {δ:Type} {a b r:List δ} (h:appP a b=some r):a.length+b.length≤4294967296∧r=a++b:=by
 unfold appP at h
 split at h
 ·cases h;exact ⟨by assumption,rfl⟩
 ·cases h
theorem bv_sgtr {P:Program} {T:TypeId} {x y:Operand} {s t:ByteArray}:BinV P .gtr T x y (.string s) (.string t) (.bool (!sLt s t&&!decide (s=t))):=fun w=>by simp [eqGuard,binOp,Op.stringOp,sLt,str_eq]
theorem bv_sleq {P:Program} {T:TypeId} {x y:Operand} {s t:ByteArray}:BinV P .leq T x y (.string s) (.string t) (.bool (sLt s t||decide (s=t))):=fun w=>by simp [eqGuard,binOp,Op.stringOp,sLt,str_eq]
class FlatT (τ:Type) {δ:outParam Type} [GT τ δ]:Prop where
 flat:∀ t:τ,Flat t
instance:FlatT Int:=⟨fun _=>flat_int trivial⟩
instance:FlatT Bool:=⟨fun b=>flat_bool b⟩
instance:FlatT UInt8:=⟨fun b=>flat_u8 b⟩
instance:FlatT ByteArray:=⟨fun _=>flat_str trivial⟩
instance {α β δ ε:Type} [GT α δ] [GT β ε] [FlatT α] [FlatT β]:FlatT (α×β):=⟨fun t=>flat_pair (FlatT.flat t.1) (FlatT.flat t.2)⟩
section
variable {τ δ:Type} [GT τ δ]
theorem L_appT [FlatT τ] {s x:Operand} {T e sz by_:Nat} {z:List Value} {X Y:TL τ} {r:List δ} (hn:Nat.blt d Γ.n=true)
  (hs:ev l s=some X.hdr) (hx:ev l x=some Y.hdr) (ht:elOf Γ.P T=some (e,sz,by_,z)) (hsz:GT.sz τ=sz) (hz:z.length=sz)
  (hp:Pick (treeH X) M M1) (hsrc:RdT Γ M Y) (hr:appP (GT.dat X) (GT.dat Y)=some r) (hb:by_≤32768)
  (hk:∀ X':TL τ,GT.dat X'=r→L Γ rest ((d,X'.hdr)::l) (treeH X'::M1) K) :
  L Γ ({ dst:=some d,op:=.call { callee:=.builtin .append,args:=#[s,x],argTypes:=#[T,T] },type:=ty,pos,after:=af,guard:=none }::rest) l M K:=by
 obtain ⟨h1,rfl⟩:=appP_some hr
 simp only [dat_els,List.length_map] at h1
 obtain ⟨a2,c2,e2,x2,tl2⟩:=Y
 cases a2 with
 | some a2 =>
  obtain ⟨b,o,sp⟩:=a2
  refine L_appA (ys:=x2) hn hs hx ht hsz hz hp rfl (fun w hw j v hv=>?_) (fun w R h=>elsT_flat h fun x _=>FlatT.flat x) h1 hb
   (fun X' h=>hk X' (by rw [dat_els,h,List.map_append];rfl))
  have h2:=(hsrc w hw).2.2.2.2 _ rfl
  have hne:x2≠[]:=fun e=>by subst e;simp [rowCells] at hv
  have h3:sp=none:=h2.1 hne
  subst h3
  rw [addr_add];exact (h2.2 j v hv).1
 | none =>
  intro ops a w Q ha hw
  have h2:x2=[]:=(hsrc w hw.sees).2.2.2.1 rfl
  subst h2
  have hk':=hk X (by rw [dat_els];show _=_++[].map GT.dat;simp)
  have hr:GT.ow w X:=(hw.perm hp.perm).prs _ (List.mem_cons_self ..)
  refine L_step rfl rfl (Nat.le_of_ble_eq_true hn) (fun a w ha hw=>⟨w,?_,hw.perm hp.perm⟩) hk' ops a w Q ha hw
  have:=append_none (P:=Γ.P) (w:=w) (a:=X.a) (n:=X.els.length) (c:=X.cap) (c2:=c2) ht hr.1 ty
  have h5:(Builtin.append_ #[T,T] ty #[X.hdr,.slice none 0 c2]).run Γ.P w=.ok X.hdr w:=this
  have h6:=ha.eval hx
  simp only [TL.hdr,List.length_nil] at h6
  generalize X.hdr=uu at *
  simp [execOp,resolve,invoke,builtin,ha.eval hs,h6,h5]
end
end Go.Proofs.SL
namespace Go.Proofs.SL
open Go
variable {Γ:Cx} {l:Envl} {M M' M1 M2 F:List HP} {Q:Post} {K:Kont} {w0 w:World} {S0:List Nat}
variable {rest:List Oper} {d:Nat} {ty:TypeId} {pos:String} {af:Array Edge}
variable {ops:Array Oper} {Msh pool:List HP} {E:Fl} {rs:List (Option Nat×Rel)} {cs0:List Nat} {KD:List (Option Nat×Rel)→List Nat→List HP→Prop} {gd:Option (Nat×Bool)}
def optD (E:Fl) (x:Option Operand) (c:Prop) (n i:Int):Prop:=match x with
 | none=>n=i
 | some o=>∃ k,OpV E o c (.int k i)
theorem optD.none {c:Prop} {n:Int}:optD E Option.none c n n:=rfl
theorem optD.some {o:Operand} {c:Prop} {n i:Int} {k:IntKind} (h:OpV E o c (.int k i)):optD E (Option.some o) c n i:=⟨k,h⟩
section
variable {τ δ:Type} [GT τ δ]
def holeH (X:TL τ) (i:Nat) (cs:List Value):HP:=⟨[X.g]++(X.els.eraseIdx i).flatMap GT.fp,
 fun w=>cs.length=GT.sz τ∧i < X.els.length∧X.els.length≤X.cap∧X.cap≤maxLen∧X.a=some ⟨X.g,0,none⟩∧(∀ x,x∈X.els.eraseIdx i→GT.ow w x) ∧
  w.heap[X.g]?=some (.cells (rowCells (X.els.take i)++(cs++(rowCells (X.els.drop (i+1))++X.tail))).toArray X.e (0,0))∧X.els.length*GT.sz τ+X.tail.length=X.cap*GT.sz τ,
 fun w w' h hp=>⟨hp.1,hp.2.1,hp.2.2.1,hp.2.2.2.1,hp.2.2.2.2.1,fun x hx=>GT.ow_st (fun k hk=>h k (List.mem_append_right _ (List.mem_flatMap.2 ⟨x,hx,hk⟩))) (hp.2.2.2.2.2.1 x hx),by
  rw [h X.g (by simp)];exact hp.2.2.2.2.2.2.1,hp.2.2.2.2.2.2.2⟩⟩
theorem row_parts (xs:List τ) {i:Nat} {x:τ} (hi:xs[i]?=some x):rowCells xs=rowCells (xs.take i)++(GT.cells x++rowCells (xs.drop (i+1))):=by
 obtain ⟨hlt,hx⟩:=List.getElem?_eq_some_iff.1 hi
 have h1:xs=xs.take i++xs[i]::xs.drop (i+1):=by rw [← List.drop_eq_getElem_cons hlt,List.take_append_drop]
 conv=>lhs;rw [h1]
 rw [rowCells_append,rowCells_cons,hx]
theorem perm_el (xs:List τ) {i:Nat} {x:τ} (hi:xs[i]?=some x):List.Perm xs (x::xs.eraseIdx i):=by
 obtain ⟨hlt,hx⟩:=List.getElem?_eq_some_iff.1 hi
 rw [List.eraseIdx_eq_take_drop_succ]
 have:xs=xs.take i++x::xs.drop (i+1):=by rw [← hx,← List.drop_eq_getElem_cons hlt,List.take_append_drop]
 conv=>lhs;rw [this]
 exact List.perm_middle
theorem hole_open {X:TL τ} {i:Nat} {x:τ} (hi:X.els[i]?=some x) (p:Pick (treeH X) M M1) (h:Holds w0 S0 M w):Holds w0 S0 (treeH x::holeH X i (GT.cells x)::M1) w:=by
 have h:=h.perm p.perm
 have ht:GT.ow w X:=h.prs _ (List.mem_cons_self ..)
 have hlt:=(List.getElem?_eq_some_iff.1 hi).1
 obtain ⟨r1,r2,r3,r4,r5⟩:=ht
 obtain ⟨g,ha⟩:=(ow_facts (w:=w) (L:=X) ⟨r1,r2,r3,r4,r5⟩).2 (by omega)
 have hg:X.g=g:=by unfold TL.g;rw [ha];rfl
 subst hg
 obtain ⟨h1,h2,h3,h4⟩:=r5 _ ha
 refine h.reFp ?_ fun y hy=>?_
 ·simp only [fps_cons]
  show List.Perm (((match X.a with | none=>[] | some a=>[a.block])++X.els.flatMap GT.fp)++fps M1) (GT.fp x++(([X.g]++(X.els.eraseIdx i).flatMap GT.fp)++fps M1))
  rw [ha]
  have hp:=(perm_el X.els hi).flatMap_right GT.fp
  rw [List.flatMap_cons] at hp
  show List.Perm (([X.g]++X.els.flatMap GT.fp)++fps M1) _
  rw [← List.append_assoc,← List.append_assoc]
  refine List.Perm.append_right _ ?_
  refine (hp.append_left [X.g]).trans ?_
  rw [← List.append_assoc]
  exact List.perm_append_comm.append_right _
 ·rcases List.mem_cons.1 hy with rfl | hy
  ·exact r3 x (List.mem_of_getElem? hi)
  rcases List.mem_cons.1 hy with rfl | hy
  ·refine ⟨GT.len x,hlt,r1,r2,ha,fun z hz=>r3 z ((perm_el X.els hi).mem_iff.2 (List.mem_cons_of_mem _ hz)),?_,h4⟩
   rw [row_parts X.els hi] at h3
   simpa [List.append_assoc] using h3
  ·exact h.prs _ (List.mem_cons_of_mem _ hy)
theorem hole_close {X:TL τ} {i:Nat} {x':τ} {cs:List Value} (hc:cs=GT.cells x') (p:Pick (holeH X i cs) M M1) (q:Pick (treeH x') M1 M2) (h:Holds w0 S0 M w) :
  Holds w0 S0 (treeH ({ X with els:=X.els.set i x' }:TL τ)::M2) w:=by
 subst hc
 have h:=h.perm (p.perm.trans (q.perm.cons _))
 obtain ⟨r1,r2,r3,r4,r5,r6,r7,r8⟩:=h.prs (holeH X i (GT.cells x')) (List.mem_cons_self ..)
 have hx:=h.prs (treeH x') (List.mem_cons_of_mem _ (List.mem_cons_self ..))
 have hi:(X.els.set i x')[i]?=some x':=by rw [List.getElem?_set_self];exact r2
 have he:(X.els.set i x').eraseIdx i=X.els.eraseIdx i:=by
  rw [List.eraseIdx_eq_take_drop_succ,List.eraseIdx_eq_take_drop_succ,List.take_set_of_le (Nat.le_refl _),List.drop_set_of_lt (Nat.lt_succ_self _)]
 refine h.reFp ?_ fun y hy=>?_
 ·simp only [fps_cons]
  show List.Perm (([X.g]++(X.els.eraseIdx i).flatMap GT.fp)++(GT.fp x'++fps M2)) (((match X.a with | none=>[] | some a=>[a.block])++(X.els.set i x').flatMap GT.fp)++fps M2)
  rw [r5]
  have hp:=(perm_el _ hi).flatMap_right GT.fp
  rw [List.flatMap_cons,he] at hp
  show List.Perm _ (([X.g]++(X.els.set i x').flatMap GT.fp)++fps M2)
  rw [← List.append_assoc]
  refine List.Perm.append_right _ ?_
  rw [List.append_assoc]
  exact ((List.perm_append_comm).trans hp.symm).append_left [X.g]
 ·rcases List.mem_cons.1 hy with rfl | hy
  ·refine ⟨by simpa using r3,r4,fun z hz=>?_,fun ha=>?_,fun a ha=>?_⟩
   ·rcases List.mem_cons.1 ((perm_el _ hi).mem_iff.1 hz) with rfl | hz
    ·exact hx
    ·rw [he] at hz;exact r6 z hz
   ·have ha':X.a=none:=ha
    rw [r5] at ha';cases ha'
   ·have ha':X.a=some a:=ha
    rw [r5] at ha';cases ha'
    refine ⟨rfl,rfl,?_,by simpa using r8⟩
    rw [row_parts _ hi,List.take_set_of_le (Nat.le_refl _),List.drop_set_of_lt (Nat.lt_succ_self _)]
    simpa [List.append_assoc] using r7
  ·exact h.prs _ (List.mem_cons_of_mem _ (List.mem_cons_of_mem _ hy))
theorem dat_set (X:TL τ) (i:Nat) (x':τ):GT.dat ({ X with els:=X.els.set i x' }:TL τ)=(GT.dat X).set i (GT.dat x'):=by
 rw [dat_els,dat_els,List.map_set]
theorem L_stH {x y:Operand} {T sz fo n:Nat} {v:Value} {X:TL τ} {i:Nat} {cs:List Value} (hx:ev l x=some (.pointer (some ⟨X.g,X.o+i*sz+fo,none⟩))) (hy:ev l y=some v)
  (hp:Pick (holeH X i cs) M M1) (hsz:GT.sz τ=sz) (hT:aggOf Γ.P T=some n∨(oneOf Γ.P T=true∧n=1)) (hv:v.cells.toList.length=n) (h1:∀ u,u∈v.cells.toList→u.oneCell'=true) (hfit:fo+n≤cs.length)
  (hk:L Γ rest l (holeH X i (cs.take fo++v.cells.toList++cs.drop (fo+n))::M1) K) :
  L Γ ({ dst:=none,op:=.store T x y,type:=ty,pos,after:=af,guard:=none }::rest) l M K :=
 L_skip rfl rfl (fun a w ha hw=>by
  subst hsz;subst hv
  have hw1:=hw.perm hp.perm
  obtain ⟨r1,r2,r3,r4,r5,r6,r7,r8⟩:=hw1.prs (holeH X i cs) (List.mem_cons_self ..)
  have ho:X.o=0:=by unfold TL.o;rw [r5];rfl
  have hl:(rowCells (X.els.take i)).length=i*GT.sz τ:=by rw [length_rowCells,List.length_take,Nat.min_eq_left (by omega)]
  have hs:=run_store_blk (P:=Γ.P) (fo:=i*GT.sz τ+fo) (vs:=v.cells.toList) (ty:=0) r7 (by
   simp only [List.length_append,hl];omega) h1
  have e:(rowCells (X.els.take i)++(cs++(rowCells (X.els.drop (i+1))++X.tail))).take (i*GT.sz τ+fo)++v.cells.toList++(rowCells (X.els.take i)++(cs++(rowCells (X.els.drop (i+1))++X.tail))).drop (i*GT.sz τ+fo+v.cells.toList.length)
   =rowCells (X.els.take i)++((cs.take fo++v.cells.toList++cs.drop (fo+v.cells.toList.length))++(rowCells (X.els.drop (i+1))++X.tail)):=by
   generalize rowCells (X.els.take i)=A at *
   generalize (rowCells (X.els.drop (i+1))++X.tail)=B at *
   rw [← hl]
   rw [List.take_append,List.take_of_length_le (by omega),Nat.add_sub_cancel_left,List.take_append_of_le_length (by omega)]
   rw [show A.length+fo+v.cells.toList.length=A.length+(fo+v.cells.toList.length) by omega,List.drop_append,List.drop_of_length_le (by omega),List.nil_append,Nat.add_sub_cancel_left,List.drop_append_of_le_length (by omega)]
   simp only [List.append_assoc]
  rw [e] at hs
  refine ⟨w.setRow X.g (rowCells (X.els.take i)++((cs.take fo++v.cells.toList++cs.drop (fo+v.cells.toList.length))++(rowCells (X.els.drop (i+1))++X.tail))).toArray,?_,?_⟩
  ·have hx':=ha.eval hx
   rw [ho,Nat.zero_add] at hx'
   rcases hT with hT | ⟨hT,hn1⟩
   ·have hcs:v.cells.size=v.cells.toList.length:=by simp
    simp [execOp,hx',ha.eval hy,Instr.storeAt,Instr.sureAddr,storeVar,run_isAgg_agg hT,hs]
   ·have hcs:v.cells.size=1:=by rw [← hn1];simp
    simp [execOp,hx',ha.eval hy,Instr.storeAt,Instr.sureAddr,storeVar,run_isAgg_one hT,hcs,hs]
  ·refine Holds.swap hw1 rfl ⟨rfl,Nat.le_refl _⟩ rfl (by simp) (fun k hk hn=>?_) (fun k hk=>?_) ?_ ?_
   ·exact setRow_other _ _ _ _ (fun e=>hn (by simp [holeH,e]))
   ·have hk':k∈(holeH X i cs).fp:=hk
    refine ⟨.inl hk',?_⟩
    rw [size_setRow]
    exact (hw1.rng k (by rw [fps_cons];exact List.mem_append_left _ hk')).2
   ·have:=hw1.nodup
    rw [fps_cons] at this
    exact (List.nodup_append.1 this).1
   ·have hdis:∀ k,k∈(X.els.eraseIdx i).flatMap GT.fp→k≠X.g:=fun k hk e=>by
     have:=hw1.nodup
     rw [fps_cons] at this
     have h2:=(List.nodup_append.1 this).1
     have h3:(X.g::(X.els.eraseIdx i).flatMap GT.fp).Nodup:=h2
     rw [List.nodup_cons] at h3
     exact h3.1 (e ▸ hk)
    refine ⟨?_,r2,r3,r4,r5,fun z hz=>GT.ow_st (fun k hk=>setRow_other _ _ _ _ (fun e=>hdis k (List.mem_flatMap.2 ⟨z,hz,hk⟩) e)) (r6 z hz),setRow_heap _ _ _ _ _ _ r7,r8⟩
    simp only [List.length_append,List.length_take,List.length_drop];omega) hk
end
end Go.Proofs.SL
namespace Go.Proofs.SL
open Go
theorem cells_int (n:Int):GT.cells n=[.int .i64 n]:=rfl
theorem cells_bool (b:Bool):GT.cells b=[.bool b]:=rfl
theorem cells_str (s:ByteArray):GT.cells s=[.string s]:=rfl
theorem cells_TL {τ δ:Type} [GT τ δ] (X:TL τ):GT.cells X=[X.hdr]:=rfl
theorem gnot {b:Bool} (h:b=false):(!b)=true:=by rw [h];rfl
theorem gand {a b:Bool} (h:a=true) (h2:b=true):(a&&b)=true:=by rw [h,h2];rfl
theorem allOne {cs:List Value} (h:cs.all Value.oneCell'=true):∀ v,v∈cs→v.oneCell'=true:=List.all_eq_true.1 h
variable {Γ:Cx} {l:Envl} {M M' M1 M2 F:List HP} {Q:Post} {K:Kont} {w0 w:World} {S0:List Nat}
variable {rest:List Oper} {d:Nat} {ty:TypeId} {pos:String} {af:Array Edge}
theorem RdT.now {τ δ:Type} [GT τ δ] {t:τ} (h:RdT Γ M t) (hw:Holds Γ.w0 Γ.S0 M w):GT.rd w [] t:=h w hw.sees
theorem RdT.nowS {τ δ:Type} [GT τ δ] {t:τ} (h:RdT Γ M t) (hw:Holds Γ.w0 Γ.S0 F w) (hs:∀ x,x∈M→x∈F):GT.rd w [] t:=h w (hw.seesSub hs)
theorem addNilT {τ δ:Type} [GT τ δ] (e:TypeId) (h:Holds w0 S0 M w):Holds w0 S0 (treeH (TL.nil τ e)::M) w:=h.addFlat (flat_nil e)
theorem L_mk0 (τ:Type) {δ:Type} [GT τ δ] {T e sz by_:Nat} {z:List Value} (hn:Nat.blt d Γ.n=true) (ht:elOf Γ.P T=some (e,sz,by_,z))
  (hk:∀ X:TL τ,GT.dat X=[]→L Γ rest ((d,X.hdr)::l) (treeH X::M) K) :
  L Γ ({ dst:=some d,op:=.buildSlice T 0 #[],type:=ty,pos,after:=af,guard:=none }::rest) l M K :=
 L_buildSlice0 τ hn ht (fun b=>hk ⟨some ⟨b,0,none⟩,0,e,[],[]⟩ rfl)
end Go.Proofs.SL
namespace Go.Proofs.SL
open Go
variable {Γ:Cx} {l:Envl} {M M' M1 M2 F:List HP} {Q:Post} {K:Kont} {w0 w:World} {S0:List Nat}
variable {rest:List Oper} {d:Nat} {ty:TypeId} {pos:String} {af:Array Edge}
variable {ops:Array Oper} {Msh pool pool':List HP} {E:Fl} {rs:List (Option Nat×Rel)} {cs0:List Nat} {KD:List (Option Nat×Rel)→List Nat→List HP→Prop}
section
variable {τ δ:Type} [GT τ δ]
def OwnV (r:List δ):Rel:=fun v M=>∃ X:TL τ,v=X.hdr∧GT.dat X=r∧M=[treeH X]
end
end Go.Proofs.SL
namespace Go.Proofs.SL
open Go
variable {Γ:Cx} {l:Envl} {M M' M1 M2 F:List HP} {Q:Post} {K:Kont} {rest:List Oper}
section
variable {τ δ:Type} [GT τ δ]
theorem L_close {X:TL τ} {i:Nat} {cs:List Value} (x':τ) {r:List δ} (hc:cs=GT.cells x') (p:Pick (holeH X i cs) M M1) (q:Pick (treeH x') M1 M2) (hr:some ((GT.dat X).set i (GT.dat x'))=some r)
  (hk:∀ X2:TL τ,GT.dat X2=r→X2.hdr=X.hdr→L Γ rest l (treeH X2::M2) K):L Γ rest l M K :=
 L_conv (fun w h=>hole_close hc p q h) (hk _ (by rw [dat_set];exact Option.some.inj hr) (by show Value.slice X.a (X.els.set i x').length X.cap=Value.slice X.a X.els.length X.cap;rw [List.length_set]))
end
end Go.Proofs.SL
namespace Go.Proofs.SL
open Go
variable {Γ:Cx} {rest:List Oper} {d:Nat} {ty:TypeId} {pos:String} {af:Array Edge} {gd:Option (Nat×Bool)}
variable {ops:Array Oper} {Msh pool:List HP} {E:Fl} {rs:List (Option Nat×Rel)} {cs0:List Nat} {KD:List (Option Nat×Rel)→List Nat→List HP→Prop}
end Go.Proofs.SL
namespace Go.Proofs.SL
open Go
variable {Γ:Cx} {rest:List Oper} {d:Nat} {ty:TypeId} {pos:String} {af:Array Edge} {gd:Option (Nat×Bool)}
variable {ops:Array Oper} {Msh pool:List HP} {E:Fl} {rs:List (Option Nat×Rel)} {cs0:List Nat} {KD:List (Option Nat×Rel)→List Nat→List HP→Prop}
end Go.Proofs.SL
