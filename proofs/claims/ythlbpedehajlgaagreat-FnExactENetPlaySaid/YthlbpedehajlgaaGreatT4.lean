/- The texts of the proof, part 4. -/
import Derived.Test.YthlbpedehajlgaaGreatT3
import Derived.Sort.Grow
import Derived.Sort.EncStr
import Derived.Lib.SlicesCompact
import Derived.Laws.StructEq
import Derived.Test.YthlbpedehajlgaaGreatRows
import Derived.Shelf.SlSortCmp.NoneTotal
import Derived.Ground.SlsfProg
import Derived.Shelf.Sort.Plain
import Derived.Shelf.Slices.In.SortNone
set_option linter.all false
namespace Go.Proofs.SL
open Go
variable {Γ:Cx} {l:Ca} {M M' M1 M2 F:List HP} {Q:Dw} {K:Dp} {w0 w:World} {S0:List Nat} {P:Program}
variable {rest:List Oper} {d:Nat} {ty:TypeId} {pos:String} {af:Array Edge}
variable {ops:Array Oper} {Msh pool:List HP} {E:Fl} {rs:List (Option Nat×Rel)} {cs0:List Nat} {KD:List (Option Nat×Rel)→List Nat→List HP→Prop} {gd:Option (Nat×Bool)}
section
variable {τ δ:Type} [GT τ δ]
theorem kW {xs ys zs:List τ} (hp:List.Perm xs (ys++zs)) (p:Pick (BU xs) M M1) (h:Holds w0 S0 M w):Holds w0 S0 (BU ys::M1) w:=by
 have h1:=h.perm p.perm
 have h2:Holds w0 S0 (BU ys::BU zs::M1) w:=by
  refine h1.reFp ?_ fun x hx=>?_
  ·simp only [Co];show List.Perm (xs.flatMap GT.fp++fps M1) (ys.flatMap GT.fp++(zs.flatMap GT.fp++fps M1));rw [← List.append_assoc,← List.flatMap_append];exact (hp.flatMap_right _).append_right _
  ·have h3:=h1.prs (BU xs) (List.mem_cons_self ..)
   rcases List.mem_cons.1 hx with rfl | hx
   ·exact fun y hy=>h3 y (hp.mem_iff.2 (List.mem_append_left _ hy))
   rcases List.mem_cons.1 hx with rfl | hx
   ·exact fun y hy=>h3 y (hp.mem_iff.2 (List.mem_append_right _ hy))
   ·exact h1.prs _ (List.mem_cons_of_mem _ hx)
 exact h2.sub ⟨[BU zs],(List.perm_append_comm (l₁:=[BU zs]) (l₂:=M1)).cons _⟩
theorem Wi {X:TL τ} (h:GT.ow w X) (hx:X.els≠[]):X.a=some ⟨X.g,0,none⟩∧X.els.length≤X.cap∧X.cap≤maxLen∧X.els.length*GT.sz τ+X.tail.length=X.cap*GT.sz τ∧w.heap[X.g]?=some (.cells (AJ X.els++X.tail).toArray X.e (0,0)):=by
 obtain ⟨r1,r2,r3,r4,r5⟩:=h
 cases ha:X.a with
 | none=>exact (hx (r4 ha).1).elim
 | some a =>
  obtain ⟨h1,h2,h3,h4⟩:=r5 a ha
  have hg:X.g=a.block:=by unfold TL.g;rw [ha];rfl
  obtain ⟨b,o,s⟩:=a
  have h1:s=none:=h1
  have h2:o=0:=h2
  subst h1;subst h2;refine ⟨by rw [hg],r1,r2,h4,by rw [hg];exact h3⟩
theorem gA {X:TL τ} (hx:X.els≠[]) (p:Pick (Af X) M M1) (h:Holds w0 S0 M w):Holds w0 S0 (blk X.g (AJ X.els++X.tail) X.e::BU X.els::M1) w:=by
 have h1:=h.perm p.perm
 have ht:GT.ow w X:=h1.prs _ (List.mem_cons_self ..)
 obtain ⟨f1,_,_,_,f5⟩:=Wi ht hx;refine h1.reFp (List.Perm.of_eq ?_) fun x hx=>?_
 ·simp only [Co];show ((match X.a with | none=>[] | some a=>[a.block])++X.els.flatMap GT.fp)++fps M1=[X.g]++(X.els.flatMap GT.fp++fps M1);rw [f1,List.append_assoc]
 ·rcases List.mem_cons.1 hx with rfl | hx
  ·exact f5
  rcases List.mem_cons.1 hx with rfl | hx
  ·exact ht.2.2.1
  ·exact h1.prs _ (List.mem_cons_of_mem _ hx)
theorem dU {g cap:Nat} {e:TypeId} {els:List τ} {tail cs:List Value} (hc:cs=AJ els++tail) (h1:els.length≤cap) (h2:cap≤maxLen) (h3:els.length*GT.sz τ+tail.length=cap*GT.sz τ)
  (p:Pick (blk g cs e) M M1) (q:Pick (BU els) M1 M2) (h:Holds w0 S0 M w):Holds w0 S0 (Af (⟨some ⟨g,0,none⟩,cap,e,els,tail⟩:TL τ)::M2) w:=by
 subst hc
 have h4:=h.perm (p.perm.trans (q.perm.cons _))
 refine h4.reFp (List.Perm.of_eq ?_) fun x hx=>?_
 ·simp only [Co];show [g]++(els.flatMap GT.fp++fps M2)=([g]++els.flatMap GT.fp)++fps M2;rw [List.append_assoc]
 ·rcases List.mem_cons.1 hx with rfl | hx
  ·refine ⟨h1,h2,h4.prs (BU els) (List.mem_cons_of_mem _ (List.mem_cons_self ..)),fun h=>(by cases h),fun a ha=>?_⟩;cases ha;exact ⟨rfl,rfl,h4.prs (blk g _ e) (List.mem_cons_self ..),h3⟩
  ·exact h4.prs _ (List.mem_cons_of_mem _ (List.mem_cons_of_mem _ hx))
end
def slA (o c lo sz:Nat):Nat:=if c=lo then o else o+lo*sz
theorem Zi (z:List Value) (n:Nat):((Array.range (n*z.length)).map (fun i=>(z.toArray)[i % z.length]!)).toList=(List.replicate n z).flatten:=by
 refine List.ext_getElem? fun i=>?_
 by_cases hz:z.length=0
 ·have:z=[]:=List.eq_nil_of_length_eq_zero hz
  subst this;simp
 ·have hpos:0 < z.length:=by omega
  by_cases hi:i < n*z.length
  ·have h1:i / z.length < n:=Nat.div_lt_of_lt_mul (by rw [Nat.mul_comm];exact hi)
   have h2:i % z.length < z.length:=Nat.mod_lt _ hpos
   simp only [Array.toList_map,Array.toList_range,List.getElem?_map,List.getElem?_range hi,Option.map_some]
   have key:∀ (n i:Nat),i < n*z.length→((List.replicate n z).flatten)[i]?=z[i % z.length]?:=by
    intro n
    induction n with
    | zero=>intro i h;simp at h
    | succ n ih =>
     intro i h;rw [List.replicate_succ,List.flatten_cons]
     by_cases hlt:i < z.length
     ·rw [List.getElem?_append_left hlt,Nat.mod_eq_of_lt hlt]
     ·rw [List.getElem?_append_right om,ih (i - z.length) (by rw [Nat.add_mul] at h;omega)];rw [← Nat.mod_eq_sub_mod om]
   rw [key n i hi,getElem!_pos z.toArray (i % z.length) (by simpa using h2)];simp [h2]
  ·rw [List.getElem?_eq_none (by simpa using hi),List.getElem?_eq_none (by simp;omega)]
theorem nR {o:Oper} {v:Value} (hg:o.guard=none) (hd:o.dst=none)
  (he:∀ a w,Env a Γ.n l→Holds Γ.w0 Γ.S0 M w→∃ w',(execOp a.eval o).run Γ.P w=.ok (.value v) w'∧Holds Γ.w0 Γ.S0 M' w')
  (hk:L Γ rest l M' K):L Γ (o::rest) l M K:=fun ops a w Q ha hw hq =>
 wpList_plain hg fun K' hK'=>by
  obtain ⟨w',h1,h2⟩:=he a w ha hw;unfold Oper.wp;rw [h1,Oper.upon_value,hd];exact hK' _ _ (hk ops _ w' Q (by simpa [Act.put] using ha) h2 hq)
theorem kX {T e sz by_ g o n c:Nat} {z cs:List Value} {e2:TypeId} (ht:elOf P T=some (e,sz,by_,z)) (hz:z.length=sz) (hone:∀ u,u∈z→u.oneCell'=true)
  (hh:w.heap[g]?=some (.cells cs.toArray e2 (0,0))) (h1:o+n*sz≤cs.length) (hn:n≠0) (ty:TypeId) :
  (Builtin.clear_ #[T] ty #[.slice (some ⟨g,o,none⟩) n c]).run P w=.ok (.tuple #[]) (w.setRow g (cs.take o++(List.replicate n z).flatten++cs.drop (o+n*sz)).toArray):=by
 unfold elOf at ht
 split at ht<;>(try cases ht)
 rename_i e' het
 split at ht<;>(try cases ht)
 rename_i i' hi'
 split at ht<;>cases ht
 rename_i z' hz'
 have hfl:((List.replicate n z'.cells.toList).flatten).length=n*i'.size:=by simp [hz]
 have hs:=GU (P:=P) (fo:=o) (vs:=(List.replicate n z'.cells.toList).flatten) (ty:=0) hh (by rw [hfl];exact h1) (fun u hu=>by
  obtain ⟨q,hq,hu⟩:=List.mem_flatten.1 hu;rw [List.eq_of_mem_replicate hq] at hu;exact hone u hu)
 rw [hfl] at hs
 have hzc:(Builtin.zeroCells z'.cells n).toList=(List.replicate n z'.cells.toList).flatten:=Zi z'.cells.toList n
 obtain ⟨k,rfl⟩:=Nat.exists_eq_succ_of_ne_zero hn;simp only [Builtin.clear_];simp [underlying,het,zeroValue,typeInfo,hi',hz',hzc,hs]
theorem gB {x:Operand} {T e sz by_ g o n c:Nat} {z cs:List Value} {e2:TypeId} (hx:ev l x=some (.slice (some ⟨g,o,none⟩) n c)) (ht:elOf Γ.P T=some (e,sz,by_,z)) (hz:z.length=sz) (hone:∀ u,u∈z→u.oneCell'=true)
  (hp:Pick (blk g cs e2) M M1) (h1:o+n*sz≤cs.length) (hn:n≠0)
  (hk:L Γ rest l (blk g (cs.take o++(List.replicate n z).flatten++cs.drop (o+n*sz)) e2::M1) K) :
  L Γ ({ dst:=none,op:=.call { callee:=.builtin .clear,args:=#[x],argTypes:=#[T] },type:=ty,pos,after:=af,guard:=none }::rest) l M K :=
 nR (v:=.tuple #[]) rfl rfl (fun a w ha hw=>by
  have hw1:=hw.perm hp.perm
  have hh:w.heap[g]?=some (.cells cs.toArray e2 (0,0)):=hw1.prs (blk g cs e2) (List.mem_cons_self ..)
  have hr:=kX (P:=Γ.P) (c:=c) ht hz hone hh h1 hn ty
  exact ⟨_,by simp [execOp,resolve,invoke,builtin,ha.eval hx,hr],Ll hw1⟩) hk
section
variable {τ δ:Type} [GT τ δ]
theorem sl0 (c sz:Nat):slA 0 c 0 sz=0:=by unfold slA;split<;>simp
theorem gC (xs:List τ) (i:Nat) (t:List Value) (hi:i≤xs.length):(AJ xs++t).take (i*GT.sz τ)=AJ (xs.take i):=by
 have h1:AJ xs=AJ (xs.take i)++AJ (xs.drop i):=by rw [← DX,List.take_append_drop]
 have h2:(AJ (xs.take i)).length=i*GT.sz τ:=by rw [De,List.length_take,Nat.min_eq_left hi]
 rw [h1,List.append_assoc,← h2,List.take_left]
theorem gD (xs:List τ) (i:Nat) (t:List Value) (hi:i≤xs.length):(AJ xs++t).drop (i*GT.sz τ)=AJ (xs.drop i)++t:=by
 have h1:AJ xs=AJ (xs.take i)++AJ (xs.drop i):=by rw [← DX,List.take_append_drop]
 have h2:(AJ (xs.take i)).length=i*GT.sz τ:=by rw [De,List.length_take,Nat.min_eq_left hi]
 rw [h1,List.append_assoc,← h2,List.drop_left]
end
end Go.Proofs.SL
namespace Go.Proofs.SL
open Go
theorem RdT.w0 {Γ:Cx} {τ δ:Type} [GT τ δ] {t:τ} (h:RdT Γ [] t):GT.rd Γ.w0 [] t:=h Γ.w0 ⟨fun _ _ _=>rfl,fun _ h=>by cases h⟩
end Go.Proofs.SL
namespace Go.Proofs.SL
open Go
variable {Γ:Cx} {l:Ca} {M M' M1 M2 F:List HP} {Q:Dw} {K:Dp} {w0 w:World} {S0:List Nat} {P:Program}
variable {rest:List Oper} {d:Nat} {ty:TypeId} {pos:String} {af:Array Edge}
def RdX {τ δ:Type} [GT τ δ] (Γ:Cx) (M1 M2:List HP) (t:τ):Prop:=∀ w,Holds Γ.w0 Γ.S0 (M1++M2) w→GT.rd w (fps M1) t
section
variable {τ δ:Type} [GT τ δ] {t:τ}
theorem RdX.old (h:GT.rd Γ.w0 Γ.S0 t):RdX Γ M1 M2 t:=fun _ hw=>GT.rd_mono h fun _ _ ho=>ho.carry hw
abbrev Bz:=@RdX.old
theorem FX (h:Af t∈M2):RdX Γ M1 M2 t:=fun w hw=>by
 have ho:GT.ow w t:=hw.prs (Af t) (List.mem_append_right _ h)
 refine GT.ow_rd ho fun k hk hk1=>?_
 have hnd:=hw.nodup
 rw [FW] at hnd;exact (List.nodup_append.1 hnd).2.2 k hk1 k (List.mem_flatMap.2 ⟨_,h,hk⟩) rfl
theorem Ek {α β δ ε:Type} [GT α δ] [GT β ε] {t:α×β} (h:RdX Γ M1 M2 t):RdX Γ M1 M2 t.1:=fun w hw=>(h w hw).1
theorem Bh {α β δ ε:Type} [GT α δ] [GT β ε] {t:α×β} (h:RdX Γ M1 M2 t):RdX Γ M1 M2 t.2:=fun w hw=>(h w hw).2
theorem RdX.of {X:TL τ} {j:Nat} {x:τ} (h:RdX Γ M1 M2 X) (hi:X.els[j]?=some x):RdX Γ M1 M2 x:=fun w hw=>(h w hw).2.2.1 x (List.mem_of_getElem? hi)
theorem Al {α β δ ε:Type} [GT α δ] [GT β ε] {a:α} {b:β} (h1:RdX Γ M1 M2 a) (h2:RdX Γ M1 M2 b):RdX Γ M1 M2 (a,b):=fun w hw=>⟨h1 w hw,h2 w hw⟩
theorem RdX.int {n:Int}:RdX Γ M1 M2 n:=fun _ _=>trivial
abbrev AL:=@RdX.int
theorem RdX.bool {n:Bool}:RdX Γ M1 M2 n:=fun _ _=>trivial
abbrev FY:=@RdX.bool
theorem RdX.str {n:ByteArray}:RdX Γ M1 M2 n:=fun _ _=>trivial
theorem RdX.u8 {n:UInt8}:RdX Γ M1 M2 n:=fun _ _=>trivial
theorem XH {w:World} {S:List Nat} (e:TypeId):GT.rd w S (TL.nil τ e):=⟨Nat.le_refl _,by simp [TL.nil,maxLen],fun x hx=>by simp [TL.nil] at hx,fun _=>rfl,fun a ha=>by simp [TL.nil] at ha⟩
theorem RdX.nil (e:TypeId):RdX Γ M1 M2 (TL.nil τ e):=fun _ _=>XH e
theorem RdX.map {α δ':Type} [GT α δ'] {a:α} (f:∀ w S,GT.rd w S a→GT.rd w S t) (h:RdX Γ M1 M2 a):RdX Γ M1 M2 t:=fun w hw=>f w _ (h w hw)
abbrev Ob:=@RdX.map
theorem GW {α β δ' ε:Type} [GT α δ'] [GT β ε] {a:α} {b:β} (f:∀ w S,GT.rd w S a→GT.rd w S b→GT.rd w S t) (h:RdX Γ M1 M2 a) (h2:RdX Γ M1 M2 b):RdX Γ M1 M2 t:=fun w hw=>f w _ (h w hw) (h2 w hw)
theorem RdT.map {α δ':Type} [GT α δ'] {a:α} (f:∀ w S,GT.rd w S a→GT.rd w S t) (h:RdT Γ M a):RdT Γ M t:=fun w hw=>f w _ (h w hw)
abbrev Fr:=@RdT.map
theorem Eh {α β δ' ε:Type} [GT α δ'] [GT β ε] {a:α} {b:β} (f:∀ w S,GT.rd w S a→GT.rd w S b→GT.rd w S t) (h:RdT Γ M a) (h2:RdT Γ M b):RdT Γ M t:=fun w hw=>f w _ (h w hw) (h2 w hw)
end
def RdO {τ δ:Type} [GT τ δ] (w:World) (S:List Nat) (t:τ):Prop:=GT.rd w S t
section
variable {τ δ:Type} [GT τ δ] {t:τ} {S:List Nat}
theorem RdO.old (h:GT.rd w S t):RdO w S t:=h
abbrev DC:=@RdO.old
theorem uL {α β δ ε:Type} [GT α δ] [GT β ε] {t:α×β} (h:RdO w S t):RdO w S t.1:=h.1
theorem uM {α β δ ε:Type} [GT α δ] [GT β ε] {t:α×β} (h:RdO w S t):RdO w S t.2:=h.2
theorem RdO.of {X:TL τ} {j:Nat} {x:τ} (h:RdO w S X) (hi:X.els[j]?=some x):RdO w S x:=h.2.2.1 x (List.mem_of_getElem? hi)
theorem AO {α β δ ε:Type} [GT α δ] [GT β ε] {a:α} {b:β} (h1:RdO w S a) (h2:RdO w S b):RdO w S (a,b):=⟨h1,h2⟩
theorem RdO.int {n:Int}:RdO w S n:=trivial
abbrev BK:=@RdO.int
theorem RdO.bool {n:Bool}:RdO w S n:=trivial
abbrev Fb:=@RdO.bool
theorem RdO.str {n:ByteArray}:RdO w S n:=trivial
abbrev LP:=@RdO.str
theorem RdO.u8 {n:UInt8}:RdO w S n:=trivial
theorem RdO.nil (e:TypeId):RdO w S (TL.nil τ e):=XH e
abbrev SK:=@RdO.nil
theorem RdO.map {α δ':Type} [GT α δ'] {a:α} (f:∀ w S,GT.rd w S a→GT.rd w S t) (h:RdO w S a):RdO w S t:=f w _ h
theorem sW {α β δ' ε:Type} [GT α δ'] [GT β ε] {a:α} {b:β} (f:∀ w S,GT.rd w S a→GT.rd w S b→GT.rd w S t) (h:RdO w S a) (h2:RdO w S b):RdO w S t:=f w _ h h2
end
theorem Cd {f:Nat} {xs:List Operand} {ats:Array TypeId} {vs:List Value} {R:Value→List HP→Prop} (M1 M2:List HP)
  (hn:Nat.blt d Γ.n=true) (hf:IsFn Γ.P f) (hx:evs l xs=some vs) (hp:List.Perm M (M1++M2)) (hc:∀ w,Holds Γ.w0 Γ.S0 (M1++M2) w→Spec Γ.P f vs.toArray w M1 R)
  (hk:∀ v M',R v M'→L Γ rest ((d,v)::l) (M'++M2) K):L Γ ({ dst:=some d,op:=.call { callee:=.value (.func f),args:=xs.toArray,argTypes:=ats },type:=ty,pos:=pos,after:=af,guard:=none }::rest) l M K :=
 Ue (M1:=M1) (M2:=M2) (R:=R) rfl rfl rfl (Nat.le_of_ble_eq_true hn) hf hx hp hc hk
theorem pM {P:Program} {fn:Func} {R:Value→List HP→Prop} {M':List HP} (hr:fn.results=#[]) (hR:R (.tuple #[]) M') (hm:MSub M' M):Va P fn w0 S0 R .normal l M :=
 ⟨.tuple #[],M',fun a w ha hw=>by
  rw [Lk,hr];simp,hR,hm⟩
end Go.Proofs.SL
namespace Go.Proofs.SL
open Go
variable {Γ:Cx} {l:Ca} {M M' M1 M2 F:List HP} {Q:Dw} {K:Dp} {w0 w:World} {S0:List Nat} {P:Program}
variable {rest:List Oper} {d:Nat} {ty:TypeId} {pos:String} {af:Array Edge}
section
variable {τ δ:Type} [GT τ δ]
def LQ (b:Bool):Option Unit:=if b then some () else none
theorem Pi {b:Bool} {u:Unit} (h:LQ b=some u):b=true:=by
 unfold LQ at h;split at h
 ·assumption
 ·cases h
theorem Pj {α:Type} {l r:List α} {a b:Int} (h:HG l a b=some r):0≤a∧a≤b∧b≤l.length∧r=(l.drop a.toNat).take (b.toNat - a.toNat):=by
 unfold HG at h;split at h
 ·rename_i hb;cases h;exact ⟨hb.1,hb.2.1,hb.2.2,rfl⟩
 ·cases h
end
end Go.Proofs.SL
namespace Go.Proofs.SL
open Go
variable {Γ:Cx} {l:Ca} {M M' M1 M2 F:List HP} {Q:Dw} {K:Dp} {w0 w:World} {S0:List Nat}
variable {rest:List Oper} {d:Nat} {ty:TypeId} {pos:String} {af:Array Edge}
variable {ops:Array Oper} {Msh pool pool':List HP} {E:Fl} {rs:List (Option Nat×Rel)} {cs0:List Nat} {KD:List (Option Nat×Rel)→List Nat→List HP→Prop}
section
variable {τ δ:Type} [GT τ δ]
def aS (f:Value→Value) (r:List δ):Rel:=fun v M=>∃ X:TL τ,v=f X.hdr∧GT.dat X=r∧M=[Af X]
def gE (f:Value→Value) (e:TypeId) (r:List δ):Rel:=fun v M=>∃ (X:TL τ) (b:Nat),v=.slice (some ⟨b,0,none⟩) 1 1∧GT.dat X=r∧M=[blk b (f X.hdr).cells.toList e,Af X]
def OpVp (E:Fl):List (Nat×Operand)→List (Nat×Value)→Prop
 | [],[]=>True
 | x::xs,v::vs=>(x.1=v.1∧OpV E x.2 True v.2)∧OpVp E xs vs
 | _,_=>False
theorem OpVp.nil:OpVp E [] []:=trivial
abbrev GX:=@OpVp.nil
theorem OpVp.cons {i:Nat} {x:Operand} {v:Value} {xs:List (Nat×Operand)} {vs:List (Nat×Value)} (h:OpV E x True v) (hs:OpVp E xs vs):OpVp E ((i,x)::xs) ((i,v)::vs):=⟨⟨rfl,h⟩,hs⟩
abbrev BB:=@OpVp.cons
theorem OpVp.evals {a:Act} {F:List HP} {o:Oper} (hf:Lm E (o.looksAt ops) F a):∀ (xs:List (Nat×Operand)) (vs:List (Nat×Value)),OpVp E xs vs→(∀ x,x∈xs→x.2∈o.op.operands.toList)→xs.map (fun p=>(p.1,a.eval p.2))=vs
 | [],[],_,_=>rfl
 | x::xs,v::vs,h,hm=>by
  rw [List.map_cons,h.1.2.eval hf (hm x (by simp)) trivial,OpVp.evals hf xs vs h.2 (fun y hy=>hm y (List.mem_cons_of_mem _ hy)),h.1.1]
 | [],_::_,h,_=>h.elim
 | _::_,[],h,_=>h.elim
theorem SM {T:TypeId} {xs:List (Nat×Operand)} {ps:List (Nat×Value)} {pl:List (Nat×Nat)} {z cs:List Value} (hx:OpVp E xs ps) (ht:Pe Γ.P T=some (pl,z)) (hf:Jq (pl[·]?) z ps=some cs)
  (hk:DV Γ ops Msh pool ((d,FC True (.agg cs.toArray))::E) ((some d,FC True (.agg cs.toArray))::rs) cs0 rest KD) :
  DV Γ ops Msh pool E rs cs0 ({ dst:=some d,op:=.build T xs.toArray,type:=ty,pos:=pos,after:=af,guard:=none }::rest) KD :=
 Ge True _ Ar (fun a w F _ hfa _=>by
  have h1:xs.toArray.map (fun (i,x)=>(i,a.eval x))=ps.toArray:=by
   have:=OpVp.evals (o:={ dst:=some d,op:=.build T xs.toArray,type:=ty,pos:=pos,after:=af,guard:=none }) hfa xs ps hx (fun x hx=>by simp [Op.operands];exact ⟨_,hx⟩)
   rw [← this];simp
  simp only [execOp,h1];simp [MR ht hf]) hk
theorem QZ {T:TypeId} {t:Nat} {xs:List (Nat×Operand)} {ps:Value→List (Nat×Value)} {pl:List (Nat×Nat)} {z:List Value} {cs:Value→List Value} {r:List δ}
  (hR:E.lookup t=some (Ov (τ:=τ) r)) (hx:∀ u,OpVp ((t,FC True u)::Fq [t] E) xs (ps u)) (ht:Pe Γ.P T=some (pl,z)) (hf:∀ X:TL τ,Jq (pl[·]?) z (ps X.hdr)=some (cs X.hdr))
  (hlin:No ops { dst:=some d,op:=.build T xs.toArray,type:=ty,pos:=pos,after:=af,guard:=none } [t]=true)
  (hk:DV Γ ops Msh pool ((d,aS (τ:=τ) (fun u=>.agg (cs u).toArray) r)::Fq [t] E) ((some d,aS (τ:=τ) (fun u=>.agg (cs u).toArray) r)::rs) ([t]++cs0) rest KD) :
  DV Γ ops Msh pool E rs cs0 ({ dst:=some d,op:=.build T xs.toArray,type:=ty,pos:=pos,after:=af,guard:=none }::rest) KD:=by
 refine DV.mk (aS (τ:=τ) (fun u=>.agg (cs u).toArray) r) [] pool ([t]) (by simp) hlin ?_ hk;intro a w F Mk _ _ hw hm hfa hcf;obtain ⟨Mx,Mk',rfl,hRR,hnil⟩:=hcf
 have hnil:Mk'=[]:=hnil
 subst hnil;obtain ⟨X,hv,hd,rfl⟩:=hRR _ hR;rw [if_pos (by simp [Region.wanted])]
 have hf2:Lm ((t,FC True X.hdr)::Fq [t] E) (Oper.looksAt ops { dst:=some d,op:=.build T xs.toArray,type:=ty,pos:=pos,after:=af,guard:=none }) F a:=by
  intro t' R' h1 h2;rw [List.lookup_cons] at h2
  cases hb:t' == t with
  | true =>
   rw [hb] at h2;cases h2
   have:t'=t:=by simpa using hb
   subst this;exact ⟨[],⟨rfl,fun _=>hv,fun hn=>(hn trivial).elim⟩,fun _ h=>by cases h⟩
  | false=>rw [hb] at h2;exact hfa t' R' h1 h2
 have h1:xs.toArray.map (fun (i,x)=>(i,a.eval x))=(ps X.hdr).toArray:=by
  have:=OpVp.evals (o:={ dst:=some d,op:=.build T xs.toArray,type:=ty,pos:=pos,after:=af,guard:=none }) hf2 xs (ps X.hdr) (hx X.hdr) (fun x hx=>by simp [Op.operands];exact ⟨_,hx⟩)
  rw [← this];simp
 have h3:(execOp a.eval { dst:=some d,op:=.build T xs.toArray,type:=ty,pos:=pos,after:=af,guard:=none }).run Γ.P w=.ok (.value (.agg (cs X.hdr).toArray)) w:=by
  simp only [execOp,h1];simp [MR ht (hf X)]
 rw [h3];exact ⟨[Af X],⟨X,rfl,hd,rfl⟩,by simpa using hw⟩
theorem nS {t T e sz by_:Nat} {z:List Value} {f:Value→Value} {r:List δ} (hR:E.lookup t=some (aS (τ:=τ) f r)) (ht:elOf Γ.P T=some (e,sz,by_,z)) (hz:z.length=sz) (hsz:0 < sz) (hns:sz≤65536)
  (hv:∀ X:TL τ,(f X.hdr).cells.toList.length=sz)
  (hlin:No ops { dst:=some d,op:=.buildSlice T 1 #[(0,.tmp t)],type:=ty,pos:=pos,after:=af,guard:=none } [t]=true)
  (hk:DV Γ ops Msh pool ((d,gE (τ:=τ) f e r)::Fq [t] E) ((some d,gE (τ:=τ) f e r)::rs) ([t]++cs0) rest KD) :
  DV Γ ops Msh pool E rs cs0 ({ dst:=some d,op:=.buildSlice T 1 #[(0,.tmp t)],type:=ty,pos:=pos,after:=af,guard:=none }::rest) KD:=by
 refine DV.mk (gE (τ:=τ) f e r) [] pool ([t]) (by simp) hlin ?_ hk;intro a w F Mk _ _ hw hm hfa hcf;obtain ⟨Mx,Mk',rfl,hRR,hnil⟩:=hcf
 have hnil:Mk'=[]:=hnil
 subst hnil;obtain ⟨X,hx,hd,rfl⟩:=hRR _ hR;rw [if_pos (by simp [Region.wanted])]
 have e1:a.eval (.tmp t)=f X.hdr:=hx
 have h1:(execOp a.eval { dst:=some d,op:=.buildSlice T 1 #[(0,.tmp t)],type:=ty,pos:=pos,after:=af,guard:=none }).run Γ.P w=.ok (.value (.slice (some ⟨w.heap.size,0,none⟩) 1 1)) (w.alloc (.cells (f X.hdr).cells.toList.toArray e (0,0))):=by
  simp only [execOp]
  have:(#[(0,Operand.tmp t)]:Array (Nat×Operand)).map (fun (i,x)=>(i,a.eval x))=#[(0,f X.hdr)]:=by simp [e1]
  rw [this];simp [ZM ht hz hsz hns (hv X)]
 rw [h1];exact ⟨[blk w.heap.size (f X.hdr).cells.toList e,Af X],⟨X,_,rfl,hd,rfl⟩,Holds.new (show Holds Γ.w0 Γ.S0 (Af X::F) w by simpa using hw) rfl⟩
end
end Go.Proofs.SL
namespace Go.Proofs.SL
open Go
variable {M M1:List HP} {w0 w:World} {S0:List Nat}
end Go.Proofs.SL
namespace Go.Proofs.SL
open Go
end Go.Proofs.SL
namespace Go.Proofs.SL
open Go
variable {Γ:Cx} {l:Ca} {M M' M1 M2 F:List HP} {Q:Dw} {K:Dp} {w0 w:World} {S0:List Nat} {P:Program}
variable {rest:List Oper} {d:Nat} {ty:TypeId} {pos:String} {af:Array Edge}
section
variable {τ δ:Type} [GT τ δ]
theorem Sh {x:Operand} {lo hi:Option Operand} {T e sz by_:Nat} {z:List Value} {X:TL τ} {a b:Int} {r:List δ} (hn:Nat.blt d Γ.n=true) (hx:ev l x=some X.hdr) (hlo:Vi l lo 0=some a) (hhi:Vi l hi ((GT.dat X).length:Int)=some b)
  (ht:elOf Γ.P T=some (e,sz,by_,z)) (hsz:GT.sz τ=sz) (hR:RdT Γ M X) (hr:HG (GT.dat X) a b=some r)
  (hk:∀ X':TL τ,GT.dat X'=r→X'=slc X a.toNat b.toNat→L Γ rest ((d,X'.hdr)::l) M K) :
  L Γ ({ dst:=some d,op:=.slice T x lo hi none,type:=ty,pos:=pos,after:=af,guard:=none }::rest) l M K:=by
 unfold HG at hr
 split at hr
 ·rename_i hb
  cases hr;rw [CD,List.length_map] at hb hhi;obtain ⟨h0,h1,h2⟩:=hb
  have h1':a.toNat≤b.toNat:=by omega
  have h2':b.toNat≤X.els.length:=by omega
  refine Fv hn (v:=(slc X a.toNat b.toNat).hdr) (fun a' w ha hw=>?_) (hk (slc X a.toNat b.toNat) (by rw [CD,CD];simp [slc,List.map_take,List.map_drop]) rfl)
  have hcap:X.els.length≤X.cap:=(hR w hw.sees).1
  unfold elOf at ht
  split at ht<;>(try cases ht)
  rename_i e' het
  split at ht<;>(try cases ht)
  rename_i i' hi'
  split at ht<;>cases ht
  have hlen:((X.els.drop a.toNat).take (b.toNat - a.toNat)).length=b.toNat - a.toNat:=by simp;omega
  have hv:(slc X a.toNat b.toNat).hdr=.slice (if X.cap=a.toNat then X.a else X.a.map (·.add (a.toNat*i'.size))) (b.toNat - a.toNat) (X.cap - a.toNat):=by
   show Value.slice _ ((X.els.drop a.toNat).take (b.toNat - a.toNat)).length _=_;rw [hlen];simp only [slc,hsz]
  rw [hv]
  have e1:a'.eval x=.slice X.a X.els.length X.cap:=ha.eval hx
  cases lo with
  | none =>
   cases hlo
   cases hi with
   | none =>
    cases hhi;simp only [execOp,Option.map_none,e1,Instr.sliceAt,Instr.slice,underlying,Sem.run_bind,run_program,Result.andThen_ok,het,Instr.sliceBounds,Sem.run_pure,sizeOf,typeInfo,hi'];simp
   | some o =>
    obtain ⟨k,h5⟩:=KT hhi
    have e2:=ha.eval h5
    have e4:=fun w=>FS (P:=Γ.P) (k:=k) (code:=.sliceAcap) (show 0≤b by omega) (show b≤((X.cap:Nat):Int) by omega) w
    simp [execOp,e1,e2,Instr.sliceAt,Instr.slice,underlying,het,Instr.sliceBounds,sizeOf,typeInfo,hi',e4]
  | some o1 =>
   obtain ⟨k1,h6⟩:=KT hlo
   have e3:=ha.eval h6
   cases hi with
   | none =>
    cases hhi
    have e4:=fun w=>FS (P:=Γ.P) (k:=k1) (code:=.sliceB) h0 (show a≤((X.els.length:Nat):Int) by omega) w
    simp [execOp,e1,e3,Instr.sliceAt,Instr.slice,underlying,het,Instr.sliceBounds,sizeOf,typeInfo,hi',e4]
   | some o =>
    obtain ⟨k,h5⟩:=KT hhi
    have e2:=ha.eval h5
    have e4:=fun w=>FS (P:=Γ.P) (k:=k) (code:=.sliceAcap) (show 0≤b by omega) (show b≤((X.cap:Nat):Int) by omega) w
    have e5:=fun w=>FS (P:=Γ.P) (k:=k1) (code:=.sliceB) h0 (show a≤((b.toNat:Nat):Int) by omega) w
    simp [execOp,e1,e2,e3,Instr.sliceAt,Instr.slice,underlying,het,Instr.sliceBounds,sizeOf,typeInfo,hi',e4,e5]
 ·cases hr
theorem Oc {X Y:TL τ} {a b:Int} {r:List δ} (he:Y=slc X a.toNat b.toNat) (hs:HG (GT.dat X) a b=some r):∀ w S,GT.rd w S X→GT.rd w S Y:=by
 intro w S h;obtain ⟨s0,s1,s2,-⟩:=Pj hs;rw [CD,List.length_map] at s2;subst he;exact dT h om om
def Xj (X:TL τ) (b:Nat):TL τ:=⟨X.a,X.cap,X.e,X.els.take b,AJ (X.els.drop b)++X.tail⟩
theorem dV {X:TL τ} {b:Nat} (hb:b≤X.els.length) (p:Pick (Af X) M M1) (h:Holds w0 S0 M w):Holds w0 S0 (Af (Xj X b)::M1) w:=by
 have h1:=IG (h.perm p.perm)
 have h2:Holds w0 S0 (BU (X.els.take b)::Bf X::M1) w:=kW (zs:=X.els.drop b) (List.Perm.of_eq (List.take_append_drop b X.els).symm) (by apply Pick.there;exact Pick.here _) h1
 have h3:=h2.perm (List.Perm.swap _ _ _)
 refine IH ?_;show Holds w0 S0 (Bf (Xj X b)::BU (X.els.take b)::M1) w;refine h3.reFp (List.Perm.of_eq rfl) fun x hx=>?_;rcases List.mem_cons.1 hx with rfl | hx
 ·obtain ⟨r1,r2,r3,r4⟩:=h3.prs (Bf X) (List.mem_cons_self ..)
  have hl:(X.els.take b).length=b:=by rw [List.length_take,Nat.min_eq_left hb]
  refine ⟨by show (X.els.take b).length≤X.cap;omega,r2,fun ha=>⟨by show X.els.take b=[];rw [(r3 ha).1];simp,(r3 ha).2⟩,fun a ha=>?_⟩;obtain ⟨g1,g2,g3,g4⟩:=r4 a ha;refine ⟨g1,g2,?_,?_⟩
  ·show w.heap[a.block]?=some (.cells (AJ (X.els.take b)++(AJ (X.els.drop b)++X.tail)).toArray X.e (0,0));rw [← List.append_assoc,← DX,List.take_append_drop];exact g3
  ·show (X.els.take b).length*GT.sz τ+(AJ (X.els.drop b)++X.tail).length=X.cap*GT.sz τ;rw [List.length_append,De,List.length_drop,hl,← g4,← Nat.add_assoc,← Nat.add_mul]
   congr 2;omega
 ·exact h3.prs _ (List.mem_cons_of_mem _ hx)
theorem dW {X Y:TL τ} {a b:Nat} (he:Y=slc X a b) (ha:a=0) (hb:b≤X.els.length):(Xj X b).hdr=Y.hdr:=by
 subst ha;subst he;show Value.slice X.a (X.els.take b).length X.cap=Value.slice (if X.cap=0 then X.a else X.a.map (·.add (0*GT.sz τ))) ((X.els.drop 0).take (b - 0)).length (X.cap - 0)
 have h2:X.a.map (fun q:Addr=>q.add (0*GT.sz τ))=X.a:=by
  cases X.a with
  | none=>rfl
  | some q=>simp [Addr.add]
 rw [h2];simp
theorem ZN {c:Code} {X Y:TL τ} {a b:Int} {r':List δ} {u:Unit} (he:Y=slc X a.toNat b.toNat) (hsl:HG (GT.dat X) a b=some r') (h0:LQ (decide (a=0))=some u) (p:Pick (Af X) M M1)
  (hk:∀ Z:TL τ,GT.dat Z=GT.dat Y→Z.hdr=Y.hdr→W Γ c l (Af Z::M1) Q):W Γ c l M Q:=by
 obtain ⟨s0,s1,s2,-⟩:=Pj hsl;rw [CD,List.length_map] at s2
 have h0:a=0:=of_decide_eq_true (Pi h0)
 refine AS (fun w h=>dV (b:=b.toNat) om p h) (hk _ ?_ (dW he om om));rw [he,h0,CD,CD];simp [Xj,slc]
def Np {δ:Type} (l:List δ) (a b:Int) (z:δ):List δ:=l.take a.toNat++(List.replicate (b.toNat - a.toNat) z++l.drop b.toNat)
theorem XI (n:Nat) (z0:τ):AJ (List.replicate n z0)=(List.replicate n (GT.cells z0)).flatten:=by
 induction n with
 | zero=>rfl
 | succ n ih=>rw [List.replicate_succ,Gh,ih,List.replicate_succ,List.flatten_cons]
theorem dX [FlatT τ] {x:Operand} {T e sz by_:Nat} {z:List Value} {X Y:TL τ} {a b:Int} {r' r:List δ} {u:Unit} (z0:τ) (hx:ev l x=some Y.hdr) (ht:elOf Γ.P T=some (e,sz,by_,z)) (hz:z.length=sz) (hsz:GT.sz τ=sz) (hz0:GT.cells z0=z)
  (p:Pick (Af X) M M1) (he:Y=slc X a.toNat b.toNat) (hsl:HG (GT.dat X) a b=some r') (hc:LQ (decide (a < b))=some u) (hr:some (Np (GT.dat X) a b (GT.dat z0))=some r)
  (hk:∀ X':TL τ,GT.dat X'=r→X'.hdr=X.hdr→L Γ rest l (Af X'::M1) K) :
  L Γ ({ dst:=none,op:=.call { callee:=.builtin .clear,args:=#[x],argTypes:=#[T] },type:=ty,pos,after:=af,guard:=none }::rest) l M K:=by
 have hab:a < b:=of_decide_eq_true (Pi hc)
 obtain ⟨s0,s1,s2,-⟩:=Pj hsl;rw [CD,List.length_map] at s2
 have hne:X.els≠[]:=fun h=>by rw [h] at s2;simp at s2;omega
 subst hsz;refine nK (φ:=X.a=some ⟨X.g,0,none⟩∧X.els.length≤X.cap∧X.cap≤maxLen∧X.els.length*GT.sz τ+X.tail.length=X.cap*GT.sz τ)
  (fun w h=>by obtain ⟨f1,f2,f3,f4,_⟩:=Wi ((h.perm p.perm).prs (Af X) (List.mem_cons_self ..)) hne;exact ⟨f1,f2,f3,f4⟩) (fun ⟨f1,f2,f3,f4⟩=>?_)
 refine AA (fun w h=>gA hne p h) ?_
 have hyh:Y.hdr=.slice (some ⟨X.g,a.toNat*GT.sz τ,none⟩) (b.toNat - a.toNat) (X.cap - a.toNat):=by
  subst he;show Value.slice (if X.cap=a.toNat then X.a else X.a.map (·.add (a.toNat*GT.sz τ))) ((X.els.drop a.toNat).take (b.toNat - a.toNat)).length (X.cap - a.toNat)=_;rw [if_neg om,f1,List.length_take,List.length_drop,Nat.min_eq_left om];simp [Fx]
 rw [hyh] at hx
 have hcl:(AJ X.els++X.tail).length=X.cap*GT.sz τ:=by rw [List.length_append,De];exact f4
 have hseg:a.toNat*GT.sz τ+(b.toNat - a.toNat)*GT.sz τ=b.toNat*GT.sz τ:=by rw [← Nat.add_mul];congr 1;omega
 refine gB hx ht hz (fun u hu=>by rw [← hz0] at hu;exact GT.one z0 u hu) (.here _) (by rw [hcl,hseg];exact Nat.mul_le_mul_right _ om) om ?_;generalize hels:X.els.take a.toNat++(List.replicate (b.toNat - a.toNat) z0++X.els.drop b.toNat)=els'
 have hlen:els'.length=X.els.length:=by
  rw [← hels];simp only [List.length_append,List.length_take,List.length_replicate,List.length_drop];omega
 have hcs:(AJ X.els++X.tail).take (a.toNat*GT.sz τ)++(List.replicate (b.toNat - a.toNat) z).flatten++(AJ X.els++X.tail).drop (a.toNat*GT.sz τ+(b.toNat - a.toNat)*GT.sz τ)=AJ els'++X.tail:=by
  rw [hseg,gC _ _ _ om,gD _ _ _ om,← hels,DX,DX,XI,hz0];simp only [List.append_assoc]
 rw [hcs];refine AA (M':=Af (⟨some ⟨X.g,0,none⟩,X.cap,X.e,els',X.tail⟩:TL τ)::M1) (fun w h=>?_) (hk _ ?_ ?_)
 ·have h2:Holds Γ.w0 Γ.S0 (blk X.g (AJ els'++X.tail) X.e::M1) w:=h.sub ⟨[BU X.els],(List.perm_append_comm (l₁:=[BU X.els]) (l₂:=M1)).cons _⟩
  have h3:=MQ (xs:=els') h2 (fun x _=>FlatT.flat x)
  exact dU rfl om f3 (by rw [hlen];exact f4) (by apply Pick.there;exact Pick.here _) (.here _) h3
 ·have:=Option.some.inj hr
  rw [← this,CD,CD,← hels];simp [Np,List.map_take,List.map_drop]
 ·show Value.slice (some ⟨X.g,0,none⟩) els'.length X.cap=Value.slice X.a X.els.length X.cap;rw [hlen,f1]
end
end Go.Proofs.SL
namespace Go.Proofs.SL
open Go
variable {Γ:Cx} {ops:Array Oper} {Msh pool pool':List HP} {E:Fl} {rs:List (Option Nat×Rel)} {rest:List Oper} {KD:Gx} {cs0:List Nat}
variable {d:Nat} {ty:TypeId} {pos:String} {af:Array Edge}
variable {gd:Option (Nat×Bool)}
end Go.Proofs.SL
namespace Go.Proofs.SL
open Go
section
variable {τ δ κ:Type} [GT τ δ]
theorem Lr {key:τ→κ} {enc:κ→Value} (hc:∀ x,GT.cells x=[enc (key x)]) (xs:List τ):AJ xs=xs.map fun x=>enc (key x):=by
 induction xs with
 | nil=>rfl
 | cons x xs ih=>rw [Gh,hc,ih];rfl
variable [Inhabited κ]
theorem Wj (enc:κ→Value) (ds:List κ) (a b:List Value) (h:a.length=ds.length):Sort.putCells enc 0 ds.toArray (a++b).toArray=(ds.map enc++b).toArray:=by
 apply Array.ext_getElem?
 intro j;simp only [Sort.putCells,Array.getElem?_mapIdx,List.getElem?_toArray,List.size_toArray,Nat.zero_add,Nat.zero_le,true_and,Nat.sub_zero];rcases Nat.lt_or_ge j ds.length with hj | hj
 ·rw [List.getElem?_append_left om,List.getElem?_append_left (by simpa using hj),List.getElem?_eq_getElem (show j < a.length by omega)];simp [hj,List.getElem?_map]
 ·rw [List.getElem?_append_right om,List.getElem?_append_right (by simpa using hj),List.length_map,h]
  cases b[j - ds.length]? with
  | none=>rfl
  | some v=>simp [Nat.not_lt.2 hj]
theorem dY {w w':World} {key:τ→κ} {enc:κ→Value} (hc:∀ x:τ,GT.cells x=[enc (key x)]) (hfp:∀ x:τ,GT.fp x=[]) (how:∀ (w:World) (x:τ),GT.ow w x) {b cap n:Nat} {e:TypeId} {els ys:List τ} {tail tail':List Value} {D:List κ} {os:Array Obj}
  (hh:Holds w (fps [Af (⟨some ⟨b,0,none⟩,cap,e,els,tail⟩:TL τ)]) [Af (⟨some ⟨b,0,none⟩,cap,e,els,tail⟩:TL τ)] w) (hD:D.length=els.length) (hrow:D.map enc++tail=AJ ys++tail') (hy:ys.length≤cap) (hl:ys.length*GT.sz τ+tail'.length=cap*GT.sz τ)
  (hw:w'=Sort.grow (Sort.putRow enc (Sort.ahead w n) b 0 D.toArray) os) :
  Holds w (fps [Af (⟨some ⟨b,0,none⟩,cap,e,els,tail⟩:TL τ)]) [Af (⟨some ⟨b,0,none⟩,cap,e,ys,tail'⟩:TL τ)] w':=by
 have ht:GT.ow w (⟨some ⟨b,0,none⟩,cap,e,els,tail⟩:TL τ):=hh.prs _ (List.mem_cons_self ..)
 obtain ⟨h1,h2,h3,h4,h5⟩:=ht;dsimp only at h1 h2 h3 h4;obtain ⟨_,_,hb,_⟩:=h5 _ rfl;dsimp only at hb
 have hbl:b < w.heap.size:=(Array.getElem?_eq_some_iff.1 hb).1
 have hw':w'.heap[b]?=some (.cells (AJ ys++tail').toArray e (0,0)):=by
  subst hw;rw [Sort.heap_grow_old _ _ (by simpa [Sort.putRow,Sort.mapBlock,Sort.ahead] using hbl),← hrow]
  have hp:=Wj enc D (AJ els) tail (by rw [Lr hc];simp [hD])
  simp only [Sort.putRow,Sort.mapBlock,Sort.ahead,Array.getElem?_modify,hb,Sort.onCells,if_true,Option.map_some];rw [hp]
 have hfps:∀ xs:List τ,xs.flatMap GT.fp=[]:=fun xs=>List.flatMap_eq_nil_iff.2 fun x _=>hfp x
 have efp:fps [Af (⟨some ⟨b,0,none⟩,cap,e,ys,tail'⟩:TL τ)]=fps [Af (⟨some ⟨b,0,none⟩,cap,e,els,tail⟩:TL τ)]:=by
  simp only [Co];show ([b]++ys.flatMap GT.fp)++fps []=([b]++els.flatMap GT.fp)++fps [];rw [hfps,hfps]
 refine ⟨by subst hw;rfl,⟨by subst hw;rfl,by subst hw;exact Nat.le_add_right _ _⟩,by subst hw;rfl,by subst hw;simp [Sort.putRow,Sort.mapBlock,Sort.ahead],fun k hk hn=>?_,fun x hx=>?_,by rw [efp];exact hh.nodup,fun k hk=>?_⟩
 ·have hkb:b≠k:=by
   intro e2;subst e2;exact hn (by simp only [Co];show b∈([b]++els.flatMap GT.fp)++fps [];simp)
  subst hw;rw [Sort.heap_grow_old _ _ (by simpa [Sort.putRow,Sort.mapBlock,Sort.ahead] using hk)];simp [Sort.putRow,Sort.mapBlock,Sort.ahead,Array.getElem?_modify,hkb]
 ·obtain rfl:=List.mem_singleton.1 hx;exact ⟨hy,h2,fun x _=>how _ x,fun h=>(by cases h),fun a ha=>by cases ha;exact ⟨rfl,rfl,hw',hl⟩⟩
 ·rw [efp] at hk;refine ⟨(hh.rng k hk).1,Nat.lt_of_lt_of_le (hh.rng k hk).2 ?_⟩;subst hw;simp [Sort.putRow,Sort.mapBlock,Sort.ahead]
theorem Si {w:World} {a0:TL τ} (hh:Holds w (fps [Af a0]) [Af a0] w):(∃ e tail,a0=⟨none,0,e,[],tail⟩)∨∃ b cap e els tail,a0=⟨some ⟨b,0,none⟩,cap,e,els,tail⟩∧els.length≤cap∧els.length*GT.sz τ+tail.length=cap*GT.sz τ∧w.heap[b]?=some (.cells (AJ els++tail).toArray e (0,0))∧b < w.heap.size:=by
 have ht:GT.ow w a0:=hh.prs _ (List.mem_cons_self ..)
 obtain ⟨h1,h2,h3,h4,h5⟩:=ht;obtain ⟨a,cap,e,els,tail⟩:=a0;dsimp only at h1 h2 h3 h4 h5
 cases a with
 | none =>
  obtain ⟨rfl,rfl⟩:=h4 rfl;exact .inl ⟨e,tail,rfl⟩
 | some ad =>
  obtain ⟨hs,ho,hb,hl⟩:=h5 ad rfl;obtain ⟨b,o,sp⟩:=ad;dsimp only at hs ho hb;subst hs;subst ho;exact .inr ⟨b,cap,e,els,tail,rfl,h1,hl,hb,(Array.getElem?_eq_some_iff.1 hb).1⟩
theorem aT {w:World} {key:τ→κ} {enc:κ→Value} (hc:∀ x:τ,GT.cells x=[enc (key x)]) {b:Nat} {e:TypeId} {els:List τ} {tail:List Value} (hb:w.heap[b]?=some (.cells (AJ els++tail).toArray e (0,0))):Sort.Holds enc w b 0 (els.map key).toArray:=by
 intro j hj
 have hj':j < els.length:=by simpa using hj
 refine ⟨?_,by simp [World.frozen?,hb]⟩;simp only [World.cell?,hb,Nat.zero_add];simp only [Option.isSome_none,Bool.false_eq_true,if_false];rw [List.getElem?_toArray,List.getElem?_append_left (by rw [Lr hc];simpa using hj'),Lr hc];simp [hj']
theorem Spec.sort {P:Program} {f:FuncId} {w:World} {a0:TL τ} {key:τ→κ} {enc:κ→Value} (hc:∀ x:τ,GT.cells x=[enc (key x)]) (hfp:∀ x:τ,GT.fp x=[]) (how:∀ (w:World) (x:τ),GT.ow w x) (ys:List τ) (hlen:ys.length=a0.els.length)
  (h:∀ (b cap:Nat) (w:World),Sort.Holds enc w b 0 (a0.els.map key).toArray→b < w.heap.size→(a0.els.map key).length < 4611686018427387904→Calls P f #[.slice (some ⟨b,0,none⟩) (a0.els.map key).length cap] w fun e w'=>e=.returned (.tuple #[])∧∃ n os,w'=Sort.grow (Sort.putRow enc (Sort.ahead w n) b 0 (ys.map key).toArray) os)
  (h0:∀ (p:Option Addr) (cap:Nat) (w:World),Calls P f #[.slice p 0 cap] w fun e w'=>e=.returned (.tuple #[])∧w'=w) (hsz:a0.els.length≤4294967296) :
  Spec P f #[a0.hdr] w [Af a0] (fun v M=>∃ y0:TL τ,v=.tuple #[]∧GT.dat y0=ys.map GT.dat∧M=[Af y0]∧y0.hdr=a0.hdr):=by
 intro hh;rcases Si hh with ⟨e,tail,rfl⟩ | ⟨b,cap,e,els,tail,rfl,h1,hl,hb,hbl⟩
 ·have hy:ys=[]:=List.length_eq_zero_iff.1 hlen
  subst hy;refine (h0 none 0 w).mono fun e' w' ⟨he,hw⟩=>?_;subst hw;exact ⟨_,_,he,⟨⟨none,0,e,[],tail⟩,rfl,rfl,rfl,rfl⟩,hh⟩
 ·dsimp only at hlen h hsz
  have hlm:(els.map key).length=els.length:=List.length_map ..
  have:=h b cap w (aT hc hb) hbl om
  rw [hlm] at this;refine this.mono fun e' w' ⟨he,n,os,hw⟩=>⟨_,_,he,⟨⟨some ⟨b,0,none⟩,cap,e,ys,tail⟩,rfl,rfl,rfl,?_⟩,dY hc hfp how hh (by rw [List.length_map,hlen]) (by rw [Lr hc,List.map_map];rfl) (by rw [hlen];exact h1) (by rw [hlen];exact hl) hw⟩;show Value.slice _ ys.length _=Value.slice _ els.length _;rw [hlen]
end
def PZ (l:List Int):Option (List Int):=if l.length≤4294967296 then some (l.mergeSort fun x y=>decide (x≤y)) else none
theorem Vj {α:Type} (l:List α):l.map (fun x=>x)=l:=by simp
theorem Spec.sortI {P:Program} {f:FuncId} (w:World) (a0:TL Int) (r:List Int) (hp:PZ (GT.dat a0)=some r)
  (h:∀ (b off cap:Nat) (zs:List Int) (w:World),Sort.Holds (Value.int .i64) w b off zs.toArray→b < w.heap.size→zs.length < 4611686018427387904→Calls P f #[.slice (some ⟨b,off,none⟩) zs.length cap] w fun e w'=>e=.returned (.tuple #[])∧∃ n os,w'=Sort.grow (Sort.putRow (Value.int .i64) (Sort.ahead w n) b off (zs.mergeSort fun x y=>decide (x≤y)).toArray) os)
  (h0:∀ (p:Option Addr) (cap:Nat) (w:World),Calls P f #[.slice p 0 cap] w fun e w'=>e=.returned (.tuple #[])∧w'=w) :
  Spec P f #[a0.hdr] w [Af a0] (fun v M=>∃ y0:TL Int,v=.tuple #[]∧GT.dat y0=r∧M=[Af y0]∧y0.hdr=a0.hdr):=by
 unfold PZ at hp
 have hd:GT.dat a0=a0.els:=by show a0.els.map (fun x=>x)=_;simp
 rw [hd] at hp
 split at hp
 ·rename_i hl
  obtain rfl:=sj hp
  have:=Spec.sort (P:=P) (f:=f) (w:=w) (a0:=a0) (key:=fun x:Int=>x) (enc:=Value.int .i64) (fun _=>rfl) (fun _=>rfl) (fun _ _=>trivial) (a0.els.mergeSort fun x y=>decide (x≤y)) (by simp) (by
   intro b cap w h1 h2 h3;rw [Vj] at h1 h3 ⊢;rw [Vj];exact h b 0 cap a0.els w h1 h2 h3) h0 hl
  refine this.mono fun v M ⟨y0,h1,h2,h3⟩=>⟨y0,h1,?_,h3⟩;rw [h2];exact Vj _
 ·cases hp
end Go.Proofs.SL
namespace Go.Proofs.SL
open Go
def Qa (P:Program) (T:TypeId):Option (List (TypeId×Nat)):=match P.underlying T with
 | some (.struct fs)=>if P.stoodInHeld T||P.eqGuardType P.depth T then none else some ((fs.toList.filter fun f=>decide (f.name≠"_")).map fun f=>(f.type,f.offset))
 | _=>none
inductive EqS (P:Program) (d:Nat) (xs ys:Array Value):List (TypeId×Nat)→Bool→Prop
 | nil:EqS P d xs ys [] true
 | cons {t:TypeId} {o:Nat} {a b:Value} {r r':Bool} {fs:List (TypeId×Nat)} (ht:HO P t=true) (ha:xs[o]?=some a) (hb:ys[o]?=some b) (he:∀ w,(Op.equalIn d t a b).run P w=.ok r w) (hs:EqS P d xs ys fs r'):EqS P d xs ys ((t,o)::fs) (r&&r')
theorem Sj {P:Program} {T:TypeId} (h:HO P T=true) {xs:Array Value} {o:Nat} {v:Value} (hx:xs[o]?=some v) (w:World):(part T xs o).run P w=.ok v w:=by
 simp [part,FH h,hx]
theorem SN {P:Program} {d:Nat} {xs ys:Array Value}:∀ {fs:List Field} {r:Bool},EqS P d xs ys ((fs.filter fun f=>decide (f.name≠"_")).map fun f=>(f.type,f.offset)) r→∀ w,(Op.eqFields d xs ys fs).run P w=.ok r w
 | [],r,h,w=>by cases h;simp [Op.eqFields]
 | f::fs,r,h,w=>by
  unfold Op.eqFields
  by_cases hn:f.name≠"_"
  ·rw [List.filter_cons,if_pos (by simp [hn])] at h;rw [if_pos hn]
   cases h with
   | cons ht ha hb he hs =>
    rename_i a b r r'
    simp only [Sem.run_bind,Sj ht ha,Sj ht hb,Result.andThen_ok,he];cases r
    ·simp
    ·simp only [Bool.not_true,Bool.false_eq_true,if_false,Bool.true_and];exact SN hs w
  ·rw [List.filter_cons,if_neg (by simpa using hn)] at h;rw [if_neg hn];exact SN h w
theorem Sk {P:Program} {T:TypeId} {sh:List (TypeId×Nat)} (h:Qa P T=some sh):P.underlying T=some (.struct (P.fieldsOf T))∧P.stoodInHeld T=false∧P.eqGuardType P.depth T=false∧sh=((P.fieldsOf T).toList.filter fun f=>decide (f.name≠"_")).map fun f=>(f.type,f.offset):=by
 unfold Qa at h
 split at h
 ·rename_i fs hu
  have hf:P.fieldsOf T=fs:=by unfold Program.fieldsOf;rw [hu]
  split at h
  ·cases h
  ·rename_i hn
   simp only [Bool.or_eq_true,not_or,Bool.not_eq_true] at hn;exact ⟨by rw [hf];exact hu,hn.1,hn.2,by rw [hf];exact (Option.some.inj h).symm⟩
 ·cases h
theorem Hs {P:Program} {T:TypeId} {x y:Operand} {xs ys:Array Value} {sh:List (TypeId×Nat)} {r:Bool} (h:Qa P T=some sh) (he:EqS P 9999 xs ys sh r):Fh P .eql T x y (.agg xs) (.agg ys) (.bool r):=fun w=>by
 obtain ⟨h1,h2,h3,rfl⟩:=Sk h;simp only [Sem.run_bind,run_eqGuard_agg w _ _ _ _ _ _ h3,Result.andThen_ok,run_eql_struct];rw [show (10000:Nat)=9999+1 from rfl,run_equalIn_struct w 9999 T xs ys h1 h2,SN he w];rfl
theorem LR {P:Program} {T:TypeId} {x y:Operand} {xs ys:Array Value} {sh:List (TypeId×Nat)} {r:Bool} (h:Qa P T=some sh) (he:EqS P 9999 xs ys sh r):Fh P .neq T x y (.agg xs) (.agg ys) (.bool (!r)):=fun w=>by
 obtain ⟨h1,h2,h3,rfl⟩:=Sk h;simp only [Sem.run_bind,run_eqGuard_agg w _ _ _ _ _ _ h3,Result.andThen_ok,run_neq_struct];rw [show (10000:Nat)=9999+1 from rfl,run_equalIn_struct w 9999 T xs ys h1 h2,SN he w];rfl
theorem EqS.consI {P:Program} {d:Nat} {xs ys:Array Value} {t:TypeId} {o:Nat} {k:IntKind} {a b:Int} {r':Bool} {fs:List (TypeId×Nat)} {k':IntKind} (ht:HO P t=true) (hu:P.underlying t=some (.int k')) (ha:xs[o]?=some (.int k a)) (hb:ys[o]?=some (.int k b)) (hs:EqS P (d+1) xs ys fs r'):EqS P (d+1) xs ys ((t,o)::fs) (decide (a=b)&&r') :=
 EqS.cons ht ha hb (fun w=>run_equalIn_int w d t k k' a b hu) hs
end Go.Proofs.SL
namespace Go.Proofs.SL
open Go
section
variable {Γ:Cx} {l:Ca} {M:List HP} {K:Dp} {w0 w:World} {S0:List Nat}
variable {rest:List Oper} {d:Nat} {ty:TypeId} {pos:String} {af:Array Edge}
theorem HY {x y:Operand} {T b fo:Nat} {T':TypeId} {cs cs' r:List Value} {M':List HP} (hx:ev l x=some (.pointer (some ⟨b,fo,none⟩))) (hy:ev l y=some (.agg cs'.toArray)) (hp:Pick (blk b cs T') M M')
  (ht:Jp Γ.P T=some cs'.length) (hl:fo+cs'.length≤cs.length) (h1:∀ v,v∈cs'→v.oneCell'=true) (hr:cs.take fo++cs'++cs.drop (fo+cs'.length)=r) (hk:L Γ rest l (blk b r T'::M') K) :
  L Γ ({ dst:=none,op:=.store T x y,type:=ty,pos,after:=af,guard:=none }::rest) l M K :=
 Ol rfl rfl (fun a w ha hw=>by
  subst hr
  have hw':=hw.perm hp.perm
  have hh:w.heap[b]?=some (.cells cs.toArray T' (0,0)):=hw'.prs (blk b cs T') (by simp)
  have hs:=GU (P:=Γ.P) (fo:=fo) (vs:=cs') (ty:=T) hh hl h1
  refine ⟨_,?_,Ll (cs':=cs.take fo++cs'++cs.drop (fo+cs'.length)) hw'⟩;simp [execOp,ha.eval hx,ha.eval hy,Instr.storeAt,Instr.sureAddr,storeVar,Fo ht,Value.cells,hs]) hk
end
section
variable {Γ:Cx} {rest:List Oper} {d:Nat} {ty:TypeId} {pos:String} {af:Array Edge}
variable {ops:Array Oper} {Msh pool:List HP} {E:Fl} {rs:List (Option Nat×Rel)} {cs0:List Nat} {KD:List (Option Nat×Rel)→List Nat→List HP→Prop}
def XJ (z:List Value) (T:TypeId):Rel:=fun v M=>∃ b,v=.pointer (some ⟨b,0,none⟩)∧M=[blk b z T]
theorem HK {T:TypeId} {z:List Value} (hz:Om Γ.P T=some z)
  (hk:DV Γ ops Msh pool ((d,XJ z T)::E) ((some d,XJ z T)::rs) cs0 rest KD) :
  DV Γ ops Msh pool E rs cs0 ({ dst:=some d,op:=.alloc T,type:=ty,pos:=pos,after:=af,guard:=none }::rest) KD:=by
 refine DV.mk (XJ z T) [] pool [] (by simp) rfl ?_ (by rw [Fi];exact hk);intro a w F Mk _ _ hw hm hfa hcf
 have hMk:Mk=[]:=hcf
 subst hMk;rw [Fi] at hfa;simp only [List.nil_append] at hw ⊢;rw [if_pos (by simp [Region.wanted])]
 have h1:(execOp a.eval { dst:=some d,op:=.alloc T,type:=ty,pos:=pos,after:=af,guard:=none }).run Γ.P w=.ok (.value (.pointer (some ⟨w.heap.size,0,none⟩))) (w.alloc (.cells z.toArray T (0,0))):=by
  unfold Om at hz
  split at hz<;>(try cases hz)
  rename_i i hi
  split at hz<;>cases hz
  rename_i z' hz'
  simp [execOp,Instr.alloc,zeroValue,typeInfo,hi,hz',newVar,newRow]
 rw [h1];exact ⟨[blk w.heap.size z T],⟨_,rfl,rfl⟩,Holds.new (show Holds Γ.w0 Γ.S0 F w by simpa using hw) rfl⟩
end
theorem dZ {α:Type} {a b:α}:((!eqB a b)=false)↔a=b:=by
 cases h:eqB a b with
 | true=>simp [Fj.1 h]
 | false=>simp [DT.1 h]
theorem eA {α:Type} {a b:α}:((!eqB a b)=true)↔¬ a=b:=by
 cases h:eqB a b with
 | true=>simp [Fj.1 h]
 | false=>simp [DT.1 h]
end Go.Proofs.SL
namespace Go.Proofs.SL
open Go
instance:Mk Bool:=⟨fun _=>1,fun k _=>decide (((k:Int)).tmod 3=0)⟩
instance:Bm Bool:=⟨1,fun x=>by show 1≤1*(1+0);omega⟩
theorem CB (k:Nat) (a:Bool):Mk.mkd k a=decide (((k:Int)).tmod 3=0):=rfl
theorem Et (a:Bool):Mk.cnt a=1:=rfl
end Go.Proofs.SL
namespace Go.Proofs.SL
open Go
variable {Γ:Cx} {l:Ca} {M M1:List HP} {K:Dp} {w0 w:World} {S0:List Nat}
variable {rest:List Oper} {d:Nat} {ty:TypeId} {pos:String} {af:Array Edge}
section
variable {τ δ:Type} [GT τ δ]
end
end Go.Proofs.SL
namespace Go.Proofs.SL
open Go
section
variable {Γ:Cx} {rest:List Oper} {d:Nat} {ty:TypeId} {pos:String} {af:Array Edge} {gd:Option (Nat×Bool)}
variable {ops:Array Oper} {Msh pool:List HP} {E:Fl} {rs:List (Option Nat×Rel)} {cs0:List Nat} {KD:List (Option Nat×Rel)→List Nat→List HP→Prop}
end
end Go.Proofs.SL
namespace Go.Proofs.SL
open Go
structure AR where
 l:List Int
instance:GT AR (List Int) where
 sz:=1
 pos:=by decide
 cells _:=[.int .i64 0]
 len _:=rfl
 one _ v hv:=by simp at hv;subst hv;rfl
 rd _ _ _:=True
 fp _:=[]
 ow _ _:=True
 dat t:=t.l
 rd_mono h _:=h
 ow_st _ h:=h
 ow_rd _ _:=trivial
theorem Uu (x:AR):GT.dat x=x.l:=rfl
def aC (k:IntKind) (l:List Int):List Value:=l.map (Value.int k)
variable {Γ:Cx} {l:Ca} {M:List HP} {K:Dp} {w0 w:World} {S0:List Nat} {rest:List Oper} {d:Nat} {ty:TypeId} {pos:String} {af:Array Edge}
section
variable {k:IntKind} {A A':List Int}
end
structure GA (g:Nat) (k:IntKind) (A:List Int) where mk ::
instance (g:Nat) (k:IntKind) (A:List Int):GT (GA g k A) Unit where
 sz:=1
 pos:=by decide
 cells _:=[.int .i64 0]
 len _:=rfl
 one _ v hv:=by simp at hv;subst hv;rfl
 rd w S _:=∀ j v,(aC k A)[j]?=some v→Old w S ⟨g,j,none⟩ v
 fp _:=[]
 ow _ _:=False
 dat _:=()
 rd_mono h hm:=fun j v hv=>hm _ _ (h j v hv)
 ow_st _ h:=h
 ow_rd h _:=h.elim
variable {ops:Array Oper} {Msh pool:List HP} {E:Fl} {rs:List (Option Nat×Rel)} {cs0:List Nat} {KD:List (Option Nat×Rel)→List Nat→List HP→Prop} {gd:Option (Nat×Bool)}
section
variable {k:IntKind} {A A':List Int} {c:Prop}
end
end Go.Proofs.SL
namespace Go.Proofs.SL
open Go
variable {Γ:Cx} {rest:List Oper} {d:Nat} {ty:TypeId} {pos:String} {af:Array Edge}
variable {ops:Array Oper} {Msh pool:List HP} {E:Fl} {rs:List (Option Nat×Rel)} {cs0:List Nat} {KD:List (Option Nat×Rel)→List Nat→List HP→Prop}
end Go.Proofs.SL
namespace Go.Proofs.SL
open Go
variable {Γ:Cx} {rest:List Oper} {d:Nat} {ty:TypeId} {pos:String} {af:Array Edge}
variable {ops:Array Oper} {Msh pool pool':List HP} {E:Fl} {rs:List (Option Nat×Rel)} {cs0:List Nat} {KD:List (Option Nat×Rel)→List Nat→List HP→Prop}
variable {τ δ:Type} [GT τ δ]
end Go.Proofs.SL
namespace Go.Proofs.SL
open Go
variable {Γ:Cx} {rest:List Oper} {d:Nat} {ty:TypeId} {pos:String} {af:Array Edge} {l:Ca} {M:List HP} {K:Dp}
end Go.Proofs.SL
namespace Go.Proofs.SL
open Go
variable {Γ:Cx} {rest:List Oper} {d:Nat} {ty:TypeId} {pos:String} {af:Array Edge} {gd:Option (Nat×Bool)}
variable {ops:Array Oper} {Msh pool:List HP} {E:Fl} {rs:List (Option Nat×Rel)} {cs0:List Nat} {KD:Gx}
end Go.Proofs.SL
namespace Go.Proofs.SL
open Go
section
variable {Γ:Cx} {rest:List Oper} {d:Nat} {ty:TypeId} {pos:String} {af:Array Edge}
variable {ops:Array Oper} {Msh pool:List HP} {E:Fl} {rs:List (Option Nat×Rel)} {cs0:List Nat} {KD:Gx}
end
section
variable {Γ:Cx} {rest:List Oper} {d:Nat} {ty:TypeId} {pos:String} {af:Array Edge} {gd:Option (Nat×Bool)}
variable {ops:Array Oper} {Msh pool:List HP} {E:Fl} {rs:List (Option Nat×Rel)} {cs0:List Nat} {KD:Gx}
theorem pN {x y:Operand} {ats:Array TypeId} {k:IntKind} {a b:Int} {c:Prop} (hg:GC ops E { dst:=some d,op:=.call { callee:=.builtin .max,args:=#[x,y],argTypes:=ats },type:=ty,pos:=pos,after:=af,guard:=gd } c)
  (hx:OpV E x c (.int k a)) (hy:OpV E y c (.int k b))
  (hk:DV Γ ops Msh pool ((d,FC c (.int k (if a < b then b else a)))::E) ((some d,FC c (.int k (if a < b then b else a)))::rs) cs0 rest KD) :
  DV Γ ops Msh pool E rs cs0 ({ dst:=some d,op:=.call { callee:=.builtin .max,args:=#[x,y],argTypes:=ats },type:=ty,pos:=pos,after:=af,guard:=gd }::rest) KD :=
 Ge c _ hg (fun a' w F hc hf _=>by
  have e1:=hx.eval hf (by simp [Op.operands,Call.operands]) hc
  have e2:=hy.eval hf (by simp [Op.operands,Call.operands]) hc
  simp [execOp,resolve,invoke,builtin,e1,e2,run_max_int2]) hk
end
end Go.Proofs.SL
namespace Go.Proofs.SL
open Go
section
variable {Γ:Cx} {l:Ca} {M M1 M2 F:List HP} {Q:Dw} {K:Dp} {w0 w:World} {S0:List Nat}
variable {rest:List Oper} {d:Nat} {ty:TypeId} {pos:String} {af:Array Edge}
variable {τ δ:Type} [GT τ δ]
end
section
variable {Γ:Cx} {rest:List Oper} {d:Nat} {ty:TypeId} {pos:String} {af:Array Edge}
variable {ops:Array Oper} {Msh pool pool':List HP} {E:Fl} {rs:List (Option Nat×Rel)} {cs0:List Nat} {KD:Gx}
variable {τ τ' δ δ':Type} [GT τ δ] [GT τ' δ']
end
section
variable {Γ:Cx} {rest:List Oper} {d:Nat} {ty:TypeId} {pos:String} {af:Array Edge}
variable {ops:Array Oper} {Msh pool pool':List HP} {E:Fl} {rs:List (Option Nat×Rel)} {cs0:List Nat} {KD:Gx}
variable {τ δ:Type} [GT τ δ]
theorem Uv (τ:Type) {δ:Type} [GT τ δ] {T e sz by_:Nat} {z:List Value} (ht:elOf Γ.P T=some (e,sz,by_,z))
  (hk:DV Γ ops Msh pool ((d,Ov (τ:=τ) [])::E) ((some d,Ov (τ:=τ) [])::rs) cs0 rest KD) :
  DV Γ ops Msh pool E rs cs0 ({ dst:=some d,op:=.buildSlice T 0 #[],type:=ty,pos:=pos,after:=af,guard:=none }::rest) KD:=by
 refine DV.mk (Ov (τ:=τ) []) [] pool [] (by simp) rfl ?_ (by rw [Fi];exact hk);intro a w F Mk _ _ hw hm hfa hcf
 have hMk:Mk=[]:=hcf
 subst hMk;rw [Fi] at hfa;rw [if_pos (by simp [Region.wanted])]
 have hw0:Holds Γ.w0 Γ.S0 F w:=by simpa using hw
 have h1:=Pg ht w
 have h2:(execOp a.eval { dst:=some d,op:=.buildSlice T 0 #[],type:=ty,pos:=pos,after:=af,guard:=none }).run Γ.P w=.ok (.value (.slice (some ⟨w.heap.size,0,none⟩) 0 0)) (w.alloc (.cells ([]:List Value).toArray e (0,0))):=by
  simp only [execOp];simp [h1]
 rw [h2];refine ⟨[Af (⟨some ⟨w.heap.size,0,none⟩,0,e,[],[]⟩:TL τ)],⟨_,rfl,rfl,rfl⟩,?_⟩
 have h3:=hw0.new (cs:=[]) (T:=e) (b:=w.heap.size) rfl
 refine h3.reFp (List.Perm.of_eq rfl) fun x hx=>?_;rcases List.mem_cons.1 hx with rfl | hx
 ·have hp:=h3.prs (blk w.heap.size [] e) (List.mem_cons_self ..)
  refine ⟨Nat.le_refl _,by simp [maxLen],fun x hx=>(by cases hx),fun ha=>(by cases ha),fun a ha=>?_⟩;cases ha;exact ⟨rfl,rfl,hp,by simp⟩
 ·exact h3.prs x (List.mem_cons_of_mem _ hx)
theorem SO [FlatT τ] {x:Operand} {t T e sz by_:Nat} {z:List Value} {Y:TL τ} {ra r:List δ}
  (hs:E.lookup t=some (Ov (τ:=τ) ra)) (hx:OpV (Fq [t] E) x True Y.hdr) (ht:elOf Γ.P T=some (e,sz,by_,z)) (hsz:GT.sz τ=sz) (hz:z.length=sz)
  (hsrc:RdT Γ Msh Y) (hr:CO ra (GT.dat Y)=some r) (hb:by_≤32768)
  (hlin:No ops { dst:=some d,op:=.call { callee:=.builtin .append,args:=#[.tmp t,x],argTypes:=#[T,T] },type:=ty,pos:=pos,after:=af,guard:=none } [t]=true)
  (hk:DV Γ ops Msh pool ((d,Ov (τ:=τ) r)::Fq [t] E) ((some d,Ov (τ:=τ) r)::rs) ([t]++cs0) rest KD) :
  DV Γ ops Msh pool E rs cs0 ({ dst:=some d,op:=.call { callee:=.builtin .append,args:=#[.tmp t,x],argTypes:=#[T,T] },type:=ty,pos:=pos,after:=af,guard:=none }::rest) KD:=by
 refine DV.mk (Ov (τ:=τ) r) [] pool [t] (by simp) hlin ?_ hk;intro a w F Mk _ _ hw hm hfa hcf;obtain ⟨Mx,Mk',rfl,hR,hnil⟩:=hcf
 have hnil:Mk'=[]:=hnil
 subst hnil;obtain ⟨X,hv,hd,rfl⟩:=hR _ hs;subst hd;rw [if_pos (by simp [Region.wanted])]
 have e1:a.eval (.tmp t)=X.hdr:=hv
 have e2:=hx.eval hfa (by simp [Op.operands,Call.operands]) trivial
 have hw1:Holds Γ.w0 Γ.S0 (Af X::F) w:=by simpa using hw
 obtain ⟨hl,rfl⟩:=JB hr;simp only [CD,List.length_map] at hl
 have hY:=hsrc w (hw1.seesSub fun h hh=>List.mem_cons_of_mem _ (hm h hh))
 cases hya:Y.a with
 | some ad =>
  have hsp:Y.els≠[]→ad.spot=none:=fun hne=>(hY.2.2.2.2 ad hya).1 hne
  have hsrc2:∀ j v,(AJ Y.els)[j]?=some v→w.cell? (ad.add j)=some v:=fun j v hv=>by
   have hne:Y.els≠[]:=fun e=>by rw [e] at hv;simp [AJ] at hv
   obtain ⟨b,o,sp⟩:=ad
   have h3:sp=none:=hsp hne
   subst h3;rw [Fx];exact ((hY.2.2.2.2 _ hya).2 j v hv).1
  obtain ⟨a',c',e',tl,w',h1,h2⟩:=MG (P:=Γ.P) (c:=Y.cap) ht hsz hz (IG hw1) hsrc2 hl hb ty
  have h1':(Builtin.append_ #[T,T] ty #[X.hdr,Y.hdr]).run Γ.P w=.ok (TL.hdr (⟨a',c',e',X.els++Y.els,tl⟩:TL τ)) w':=by
   have:Y.hdr=.slice (some ad) Y.els.length Y.cap:=by show Value.slice Y.a _ _=_;rw [hya]
   rw [this];exact h1
  have h3:(execOp a.eval { dst:=some d,op:=.call { callee:=.builtin .append,args:=#[.tmp t,x],argTypes:=#[T,T] },type:=ty,pos:=pos,after:=af,guard:=none }).run Γ.P w=.ok (.value (TL.hdr (⟨a',c',e',X.els++Y.els,tl⟩:TL τ))) w':=by
   generalize TL.hdr (⟨a',c',e',X.els++Y.els,tl⟩:TL τ)=vv at *;generalize X.hdr=uu at *;generalize Y.hdr=yy at *;simp [execOp,resolve,invoke,builtin,e1,e2,h1']
  rw [h3];refine ⟨[Af (⟨a',c',e',X.els++Y.els,tl⟩:TL τ)],⟨_,rfl,?_,rfl⟩,?_⟩
  ·rw [CD,List.map_append,CD,CD]
  ·refine IH ?_
   have h5:=MQ (xs:=Y.els) h2 (fun x _=>FlatT.flat x)
   have h4:Holds Γ.w0 Γ.S0 (BU X.els::BU Y.els::Bf (⟨a',c',e',X.els++Y.els,tl⟩:TL τ)::F) w' :=
    h5.perm (perm_cons (Ms:=[BU Y.els,Bf (⟨a',c',e',X.els++Y.els,tl⟩:TL τ)]) (.there _ (.there _ (.here _))) (perm_cons (.here _) (perm_cons (.here _) (RM _))))
   exact (TB h4).perm (List.Perm.swap _ _ _)
 | none =>
  have hye:Y.els=[]:=hY.2.2.2.1 hya
  have hr0:GT.ow w X:=hw1.prs _ (List.mem_cons_self ..)
  have h5:(Builtin.append_ #[T,T] ty #[X.hdr,Y.hdr]).run Γ.P w=.ok X.hdr w:=by
   have:Y.hdr=.slice none 0 Y.cap:=by show Value.slice Y.a _ _=_;rw [hya,hye];rfl
   rw [this];exact PG (P:=Γ.P) (w:=w) (a:=X.a) (n:=X.els.length) (c:=X.cap) (c2:=Y.cap) ht hr0.1 ty
  have h3:(execOp a.eval { dst:=some d,op:=.call { callee:=.builtin .append,args:=#[.tmp t,x],argTypes:=#[T,T] },type:=ty,pos:=pos,after:=af,guard:=none }).run Γ.P w=.ok (.value X.hdr) w:=by
   generalize X.hdr=uu at *;generalize Y.hdr=yy at *;simp [execOp,resolve,invoke,builtin,e1,e2,h5]
  rw [h3];exact ⟨[Af X],⟨X,rfl,by rw [CD Y,hye];simp,rfl⟩,hw1⟩
end
section
variable {Γ:Cx} {rest:List Oper} {d:Nat} {ty:TypeId} {pos:String} {af:Array Edge} {gd:Option (Nat×Bool)}
variable {ops:Array Oper} {Msh pool pool':List HP} {E:Fl} {rs:List (Option Nat×Rel)} {cs0:List Nat} {KD:Gx}
def gm {α:Type} (g:Bool) (d:α) (o:Option α):Option α:=cond g o (some d)
@[simp] theorem uN {α:Type} {d:α} {o:Option α}:gm true d o=o:=rfl
@[simp] theorem sX {α:Type} {d:α} {o:Option α}:gm false d o=some d:=rfl
end
section
variable {Γ:Cx} {rest:List Oper} {d:Nat} {ty:TypeId} {pos:String} {af:Array Edge}
variable {ops:Array Oper} {Msh pool pool':List HP} {E:Fl} {rs:List (Option Nat×Rel)} {cs0:List Nat} {KD:Gx}
variable {τ δ:Type} [GT τ δ]
end
theorem Sl {P:Program} {fn:Func} {r1 r2 r3 r4:ResultVar} {v1 v2 v3 v4:Value} {R:Value→List HP→Prop} {M M':List HP} {l:Ca} {w0:World} {S0:List Nat} (hr:fn.results=#[r1,r2,r3,r4])
  (h1:ResOK P fn.ntmps w0 S0 l M r1 v1) (h2:ResOK P fn.ntmps w0 S0 l M r2 v2) (h3:ResOK P fn.ntmps w0 S0 l M r3 v3) (h4:ResOK P fn.ntmps w0 S0 l M r4 v4) (hR:R (.tuple #[v1,v2,v3,v4]) M') (hm:MSub M' M):Va P fn w0 S0 R .ret l M :=
 ⟨_,M',fun a w ha hw=>by
  rw [Lk,hr];simp [h1 a w ha hw,h2 a w ha hw,h3 a w ha hw,h4 a w ha hw],hR,hm⟩
section
variable {Γ:Cx} {rest:List Oper} {d:Nat} {ty:TypeId} {pos:String} {af:Array Edge} {gd:Option (Nat×Bool)}
variable {ops:Array Oper} {Msh pool pool':List HP} {E:Fl} {rs:List (Option Nat×Rel)} {cs0:List Nat} {KD:Gx}
variable {τ δ:Type} [GT τ δ]
end
end Go.Proofs.SL
namespace Go.Proofs.SL
open Go
class FldF (P:Program) (T f:Nat) (o:outParam Nat):Prop where h:Pb P T f=some o
class OneF (P:Program) (T:Nat):Prop where h:HO P T=true
class AggF (P:Program) (T:Nat) (n:outParam Nat):Prop where h:Jp P T=some n
class ElF (P:Program) (T:Nat) (e sz by_:outParam Nat) (z:outParam (List Value)):Prop where h:elOf P T=some (e,sz,by_,z)
class ZerF (P:Program) (T:Nat) (z:outParam (List Value)):Prop where h:Om P T=some z
class StrF (P:Program) (T:Nat):Prop where h:Uf P T=true
class FnF (P:Program) (f:Nat):Prop where h:IsFn P f
class BldF (P:Program) (T:Nat) (pl:outParam (List (Nat×Nat))) (z:outParam (List Value)):Prop where h:Pe P T=some (pl,z)
class UndF (P:Program) (T:Nat) (d:outParam TypeDesc):Prop where h:P.underlying T=some d
theorem ba {α β:Type} {o:Option α} {k:α→Option β} {r:β} (h:Option.bind o k=some r):∃ y,o=some y∧k y=some r:=TF h
theorem pk {h:HP} {M M':List HP} (p:Pick h M M':=by first | (with_reducible repeat (first | exact Pick.here _ | apply Pick.there));done | (repeat (first | exact Pick.here _ | apply Pick.there))):Pick h M M':=p
theorem mm {h:HP} {M:List HP} (p:h∈M:=by first | (with_reducible repeat (first | exact List.Mem.head _ | apply List.Mem.tail));done | (repeat (first | exact List.Mem.head _ | apply List.Mem.tail))):h∈M:=p
theorem sb {l' l:Ca} (h:Sub l' l:=by repeat (first | exact Sub.nil _ | (apply Sub.cons;(· exact rfl)))):Sub l' l:=h
theorem ms {M' M:List HP} (h:MSub M' M:=by repeat (first | exact MSub.nil _ | (apply MSub.cons;(· exact pk)))):MSub M' M:=h
theorem pc {M Ms R:List HP} (h:List.Perm M (Ms++R):=by repeat (first | exact RM _ | (apply perm_cons;(· exact pk)))):List.Perm M (Ms++R):=h
theorem bv {P:Program} {op:BinOp} {T:TypeId} {x y:Operand} {u v r:Value} (h:Fh P op T x y u v r:=by
 first
  | (with_reducible first | exact cZ | exact Hz | exact nB | exact dA | exact dC | exact nE | exact nD | exact nC | exact jX | exact jY | exact jZ | exact kA | exact kS | exact kT | exact nA | exact nL | exact pJ | exact nM)
  | ((with_reducible refine Vf ?_);exact UndF.h) | ((with_reducible refine kK ?_);exact UndF.h) | ((with_reducible refine dB ?_);decide) | ((with_reducible refine MO ?_);decide)
  | ((with_reducible refine nO ?_ ?_)<;>decide) | ((with_reducible refine nN ?_ ?_)<;>decide)):Fh P op T x y u v r:=h
theorem ocs {cs:List Value} (h:∀ v,v∈cs→v.oneCell'=true:=by first | exact Eg rfl | exact fun v hv=>GT.one _ v hv | (simp [Value.oneCell',TL.hdr,Value.cells];done)):∀ v,v∈cs→v.oneCell'=true:=h
section
variable {Γ:Cx} {l:Ca} {M M':List HP} {Q:Dw} {K:Dp} {rest:List Oper} {d:Nat} {ty:TypeId} {pos:String} {af:Array Edge}
inductive Kp:List Nat→Ca→Ca→Prop
 | nil (l:Ca):Kp [] l []
 | cons {t:Nat} {v:Value} {ts:List Nat} {l l':Ca} (h:l.lookup t=some v) (hk:Kp ts l l'):Kp (t::ts) l ((t,v)::l')
theorem Kp.sub {ts:List Nat} {l l':Ca} (h:Kp ts l l'):Sub l' l:=by
 induction h with
 | nil l=>exact Sub.nil _
 | cons h _ ih=>exact Sub.cons h ih
theorem kp (ts:List Nat) {c:Code} {l':Ca} (k:W Γ c l' M Q) (h:Kp ts l l':=by repeat (first | exact Kp.nil _ | (apply Kp.cons;(· exact rfl)))):W Γ c l M Q:=Ty h.sub (MSub.refl _) k
theorem kq (ts:List Nat) {c:Code} {l':Ca} (k:W Γ c l' M' Q) (h:Kp ts l l':=by repeat (first | exact Kp.nil _ | (apply Kp.cons;(· exact rfl)))) (hm:M=M':=by (try simp only [List.cons_append,List.nil_append]);exact rfl):W Γ c l M Q:=Ty h.sub (hm ▸ MSub.refl _) k
theorem al {T:TypeId} {z:List Value} [hz:ZerF Γ.P T z] (hk:∀ b,L Γ rest ((d,.pointer (some ⟨b,0,none⟩))::l) (blk b z T::M) K) (hn:Nat.blt d Γ.n=true:=by exact rfl) :
  L Γ ({ dst:=some d,op:=.alloc T,type:=ty,pos,after:=af,guard:=none }::rest) l M K:=Ey hn hz.h hk
theorem bx {x:Operand} {T:TypeId} {v:Value} (hk:∀ b,L Γ rest ((d,.pointer (some ⟨b,0,none⟩))::l) (blk b v.cells.toList T::M) K) (hn:Nat.blt d Γ.n=true:=by exact rfl) (hx:ev l x=some v:=by exact rfl) :
  L Γ ({ dst:=some d,op:=.box T x,type:=ty,pos,after:=af,guard:=none }::rest) l M K:=SF hn hx hk
end
section
variable {w0 w:World} {S0:List Nat} {M M' M1 M2:List HP}
def Own {τ δ:Type} [GT τ δ] (M:List HP) (t:τ) (M':List HP):Prop:=∀ (w0:World) (S0:List Nat) (w:World) (F:List HP),Holds w0 S0 (M++F) w→Holds w0 S0 (Af t::(M'++F)) w
theorem gF {τ δ:Type} [GT τ δ] {t:τ} (p:Pick (Af t) M M'):Own M t M':=fun _ _ _ F h=>h.perm (p.perm.append_right F)
theorem Rb {τ δ:Type} [GT τ δ] {t:τ} (p:Flat t):Own M t M:=fun _ _ _ _ h=>h.addFlat p
theorem kY {n:Int}:Own M n M:=Rb (Es trivial)
theorem gG {n:Bool}:Own M n M:=Rb (We _)
theorem kZ {n:ByteArray}:Own M n M:=Rb (HA trivial)
theorem lA {τ δ:Type} [GT τ δ] {e:TypeId}:Own M (TL.nil τ e) M:=Rb (Tz e)
theorem gH {α β δ ε:Type} [GT α δ] [GT β ε] {a:α} {b:β} (ha:Own M a M1) (hb:Own M1 b M2):Own M (a,b) M2:=fun w0 S0 w F h=>by
 have h1:=ha w0 S0 w F h
 have h2:Holds w0 S0 (M1++(Af a::F)) w:=h1.perm List.perm_middle.symm
 have h3:=hb w0 S0 w _ h2
 have h4:Holds w0 S0 (Af a::Af b::(M2++F)) w:=h3.perm ((List.perm_middle.cons _).trans (List.Perm.swap _ _ _))
 exact Pd h4
theorem ow {τ δ:Type} [GT τ δ] {t:τ} (o:Own M t M':=by repeat (first | (with_reducible exact kY) | (with_reducible exact gG) | (with_reducible exact kZ) | (with_reducible exact lA) | (with_reducible apply gH) | ((with_reducible apply gF);exact pk))):Own M t M':=o
theorem Own.h {τ δ:Type} [GT τ δ] {t:τ} (o:Own M t M') (h:Holds w0 S0 M w):Holds w0 S0 (Af t::M') w:=by
 have:=o w0 S0 w [] (by simpa using h)
 simpa using this
def Exp {τ δ:Type} [GT τ δ] (t:τ) (M M':List HP):Prop:=∀ (w0:World) (S0:List Nat) (w:World) (F:List HP),Holds w0 S0 (Af t::(M++F)) w→Holds w0 S0 (M'++F) w
theorem TH {τ δ:Type} [GT τ δ] {t:τ}:Exp t M M:=fun _ _ _ F h=>h.sub ⟨[Af t],List.perm_append_comm (l₁:=[Af t]) (l₂:=M++F)⟩
theorem lB {n:Int}:Exp n M M:=TH
theorem gI {n:Bool}:Exp n M M:=TH
theorem lC {n:ByteArray}:Exp n M M:=TH
theorem gJ {τ δ:Type} [GT τ δ] {t:TL τ}:Exp t M (Af t::M):=fun _ _ _ _ h=>h
theorem gK {α β δ ε:Type} [GT α δ] [GT β ε] {a:α} {b:β} (hb:Exp b M M1) (ha:Exp a M1 M2):Exp (a,b) M M2:=fun w0 S0 w F h=>by
 have h1:=Bx h
 have h2:Holds w0 S0 (Af b::(M++(Af a::F))) w:=h1.perm ((List.Perm.swap _ _ _).trans (List.perm_middle.symm.cons _))
 have h3:=hb w0 S0 w _ h2
 exact ha w0 S0 w F (h3.perm List.perm_middle)
theorem ex {τ δ:Type} [GT τ δ] {t:τ} (o:Exp t M M':=by repeat (first | (with_reducible exact lB) | (with_reducible exact gI) | (with_reducible exact lC) | (with_reducible apply gK) | (with_reducible exact gJ))):Exp t M M':=o
theorem Exp.h {τ δ:Type} [GT τ δ] {t:τ} (o:Exp t M1 M') (p:Pick (Af t) M M1) (h:Holds w0 S0 M w):Holds w0 S0 M' w:=by
 have:=o w0 S0 w [] (by simpa using h.perm p.perm)
 simpa using this
variable {Γ:Cx} {l:Ca} {Q:Dw} {K:Dp} {c:Code} {r:List Oper}
theorem jW {τ δ:Type} [GT τ δ] (t:τ) (k:W Γ c l (Af t::M') Q) (o:Own M t M':=by exact ow):W Γ c l M Q:=AS (fun _ h=>o.h h) k
theorem jL {τ δ:Type} [GT τ δ] (t:τ) (k:L Γ r l (Af t::M') K) (o:Own M t M':=by exact ow):L Γ r l M K:=AA (fun _ h=>o.h h) k
theorem xW {τ δ:Type} [GT τ δ] (t:τ) (k:W Γ c l M' Q) (p:Pick (Af t) M M1:=by exact pk) (o:Exp t M1 M':=by exact ex):W Γ c l M Q:=AS (fun _ h=>o.h p h) k
theorem xL {τ δ:Type} [GT τ δ] (t:τ) (k:L Γ r l M' K) (p:Pick (Af t) M M1:=by exact pk) (o:Exp t M1 M':=by exact ex):L Γ r l M K:=AA (fun _ h=>o.h p h) k
end
theorem dd {a b:Prop} (h:a) (e:a→b:=by (intro h;(try dsimp only [Fy,DU,DD,Ee,Uu] at h);exact h)):b:=e h
theorem sc {p q:Prop} (k:q) (e:q→p:=by (intro k;(simp only [CA,DF,Ds,DG,DZ,List.cons_append,List.nil_append]);exact k)):p:=e k
section
variable {ops:Array Oper} {E:Fl}
theorem gc {o:Oper} {c:Prop} (h:GC ops E o c:=by first | exact Ar | exact Am rfl rfl):GC ops E o c:=h
theorem ov {x:Operand} {c:Prop} {v:Value} (h:OpV E x c v:=by first | exact BP | exact Aj rfl | exact Aq rfl):OpV E x c v:=h
end
theorem aU {Γ:Cx} {l:Ca} {M:List HP} {K:Dp} {rest:List Oper} {d:Nat} {ty:TypeId} {pos:String} {af:Array Edge} {x:Operand} {i:Nat} {vs:List Value} {v:Value} (hn:Nat.blt d Γ.n=true) (hx:ev l x=some (.tuple vs.toArray)) (hv:vs[i]?=some v) (hk:L Γ rest ((d,v)::l) M K) :
  L Γ ({ dst:=some d,op:=.extract x i,type:=ty,pos,after:=af,guard:=none }::rest) l M K:=dG hn hx (by simpa using hv) hk
theorem pO {Γ:Cx} {l:Ca} {M:List HP} {K:Dp} {rest:List Oper} {d:Option Nat} {ty:TypeId} {pos:String} {af:Array Edge} {g:Option (Nat×Bool)} {x:Array Operand} {T:Array TypeId} (h:L Γ ({ dst:=d,op:=.call { callee:=.builtin .len,args:=x,argTypes:=T },type:=ty,pos:=pos,after:=af,guard:=g }::rest) l M K) :
  L Γ ({ dst:=d,op:=.call { callee:=.builtin .len,args:=x,argTypes:=T },type:=ty,pos:=pos,after:=af,guard:=g }::rest) l M K:=h
section
variable {Γ:Cx} {l:Ca} {M:List HP} {K:Dp} {Q:Dw} {c:Code} {r:List Oper} {ops:Array Oper} {Msh pool:List HP} {E:Fl} {rs:List (Option Nat×Rel)} {cs0:List Nat} {KD:Gx}
theorem isL (h:L Γ r l M K):L Γ r l M K:=h
theorem isW (h:W Γ c l M Q):W Γ c l M Q:=h
theorem isD (h:DV Γ ops Msh pool E rs cs0 r KD):DV Γ ops Msh pool E rs cs0 r KD:=h
end
theorem s1 {p q:Prop} (k:q) (h:q→p:=by
 intro k
 (first
  | (with_reducible refine isL ?_);(first
   | (with_reducible apply mZ);(· exact rfl);(· exact rfl)
   | (with_reducible apply By);(· exact rfl);(· exact rfl)
   | (with_reducible refine BZ ?_)
   | (with_reducible apply Be);(· exact rfl);(· exact rfl);(· exact rfl);(· exact bv)
   | (with_reducible apply Ze);(· exact rfl);(· exact rfl);(· exact FldF.h)
   | (with_reducible apply AY);(· exact rfl);(· exact rfl);(· exact Ag mm);(· exact OneF.h);(· exact rfl)
   | (with_reducible apply AW);(· exact rfl);(· exact rfl);(· exact Ag mm);(· exact AggF.h)
   | (with_reducible apply aU);(· exact rfl);(· exact rfl);(· exact rfl)
   | (with_reducible apply kB);(· exact rfl);(· exact rfl);(· exact pk);(· exact OneF.h);(· exact rfl);(· exact rfl)
   | (with_reducible apply Jx);(· exact rfl);(· exact rfl);(· exact pk);(· exact AggF.h);(· exact rfl);(· exact ocs)
   | (with_reducible refine pO ?_);(first | refine nF rfl rfl StrF.h ?_ | refine nP rfl rfl ElF.h ?_)
   | (with_reducible apply pI);(· exact rfl);(· exact rfl)
   | (with_reducible apply aI);(· exact rfl);(· exact rfl))
  | (with_reducible refine isW ?_);(first
   | (with_reducible refine Pa ?_)
   | (with_reducible refine Qz ?_)
   | (with_reducible refine mY ?_)
   | (with_reducible refine jV ?_)
   | (with_reducible refine Xe ?_))
  | (with_reducible refine isD ?_);(first
   | (with_reducible apply DS);(· exact gc);(· exact ov)
   | (with_reducible apply Bw);(· exact gc);(· exact ov);(· exact FldF.h)
   | (with_reducible apply BA);(· exact gc);(· exact ov);(· exact fun _=>Ag mm);(· exact OneF.h);(· exact rfl)
   | (with_reducible apply Ez);(· exact gc);(· exact ov);(· exact ov);(· exact fun _=>bv)
   | (with_reducible apply EI);(· exact gc);(· exact ov);(· exact ov);(· exact fun h hb=>⟨h,hb⟩)
   | (with_reducible apply sV);(· exact gc);(· exact ov);(· exact ov);(· exact fun h hb=>⟨h,hb⟩)
   | (with_reducible apply Bq);(· exact gc);(· exact ov);(· exact fun _=>Ag mm);(· exact AggF.h)
   | (with_reducible apply QQ);(· exact gc);(· exact ov)
   | (with_reducible apply iZ);(· exact gc);(· exact ov)
   | (with_reducible apply aL);(· exact gc);(· exact ov)
   | (with_reducible refine Uo ?_))
  | (with_reducible refine QR ?_)
  | (with_reducible apply As);(· exact rfl)
  | (with_reducible apply SG);(· exact rfl);(· exact rfl)
  | (with_reducible apply dE);(· exact rfl)
  | (with_reducible apply Give_drop')
  | (with_reducible apply kG))
 exact k):p:=h k
theorem s2 {p q:Prop} (k:q) (h:q→p:=by (intro k;(iterate 2 (refine s1 ?_));exact k)):p:=h k
theorem s3 {p q:Prop} (k:q) (h:q→p:=by (intro k;(iterate 3 (refine s1 ?_));exact k)):p:=h k
theorem s4 {p q:Prop} (k:q) (h:q→p:=by (intro k;(iterate 4 (refine s1 ?_));exact k)):p:=h k
theorem s5 {p q:Prop} (k:q) (h:q→p:=by (intro k;(iterate 5 (refine s1 ?_));exact k)):p:=h k
theorem s6 {p q:Prop} (k:q) (h:q→p:=by (intro k;(iterate 6 (refine s1 ?_));exact k)):p:=h k
theorem s7 {p q:Prop} (k:q) (h:q→p:=by (intro k;(iterate 7 (refine s1 ?_));exact k)):p:=h k
theorem s8 {p q:Prop} (k:q) (h:q→p:=by (intro k;(iterate 8 (refine s1 ?_));exact k)):p:=h k
theorem s9 {p q:Prop} (k:q) (h:q→p:=by (intro k;(iterate 9 (refine s1 ?_));exact k)):p:=h k
theorem s10 {p q:Prop} (k:q) (h:q→p:=by (intro k;(iterate 10 (refine s1 ?_));exact k)):p:=h k
theorem s11 {p q:Prop} (k:q) (h:q→p:=by (intro k;(iterate 11 (refine s1 ?_));exact k)):p:=h k
theorem s12 {p q:Prop} (k:q) (h:q→p:=by (intro k;(iterate 12 (refine s1 ?_));exact k)):p:=h k
theorem s13 {p q:Prop} (k:q) (h:q→p:=by (intro k;(iterate 13 (refine s1 ?_));exact k)):p:=h k
theorem s14 {p q:Prop} (k:q) (h:q→p:=by (intro k;(iterate 14 (refine s1 ?_));exact k)):p:=h k
theorem s15 {p q:Prop} (k:q) (h:q→p:=by (intro k;(iterate 15 (refine s1 ?_));exact k)):p:=h k
theorem s16 {p q:Prop} (k:q) (h:q→p:=by (intro k;(iterate 16 (refine s1 ?_));exact k)):p:=h k
theorem s17 {p q:Prop} (k:q) (h:q→p:=by (intro k;(iterate 17 (refine s1 ?_));exact k)):p:=h k
theorem s18 {p q:Prop} (k:q) (h:q→p:=by (intro k;(iterate 18 (refine s1 ?_));exact k)):p:=h k
theorem s19 {p q:Prop} (k:q) (h:q→p:=by (intro k;(iterate 19 (refine s1 ?_));exact k)):p:=h k
theorem s20 {p q:Prop} (k:q) (h:q→p:=by (intro k;(iterate 20 (refine s1 ?_));exact k)):p:=h k
theorem dv {p:Prop} (h:p:=by repeat (first | with_reducible exact Ad | with_reducible exact Ej | with_reducible exact CK | with_reducible refine Aa ?_ ?_ | exact Ba mm | refine Aa ?_ ?_)):p:=h
theorem cW {Γ:Cx} {l:Ca} {M:List HP} {Q:Dw} {t:Operand} {b:Bool} {x y:Code} {α:Type} {A B o:Option α} (ht:ev l t=some (.bool b)) (hp:cond b A B=o) (h1:A=o→W Γ x l M Q) (h2:B=o→W Γ y l M Q):W Γ (.cond t x y) l M Q:=Ai ht (fun h=>h1 (Aw h hp)) (fun h=>h2 (Ax h hp))
theorem bc {α β:Type} {x:Option α} {f:α→Option β} {r:β} {p:Prop} (k:∀ y,x=some y→f y=some r→p) (h:Option.bind x f=some r):p:=by obtain ⟨y,a,b⟩:=ba h;exact k y a b
theorem dx {Γ:Cx} {M1 M2:List HP} {τ δ:Type} [GT τ δ] {t:τ} (h:RdX Γ M1 M2 t:=by repeat (first | with_reducible exact AL | with_reducible exact RdX.str | with_reducible exact FY | with_reducible refine Al ?_ ?_ | exact FX mm | refine Al ?_ ?_)):RdX Γ M1 M2 t:=h
theorem dO {p:Prop} (h:p:=by repeat (first | exact BK | exact LP | exact Fb | refine AO ?_ ?_)):p:=h
theorem sa {P:Program} {f:FuncId} {w:World} {M:List HP} {Q:Value→List HP→Prop} {g g':Array Value} (k:Spec P f g' w M Q) (h:g=g':=by ((try simp only [CA,DF,Ds,DG,DZ,List.cons_append,List.nil_append]);try exact rfl)):Spec P f g w M Q:=by subst h;exact k
end Go.Proofs.SL
namespace Go.Proofs.SL
open Go
abbrev Bj:=Int×Int
abbrev Dg:=Int×Int×Int×ByteArray×ByteArray×ByteArray×Int×(TL ByteArray)
abbrev Av:=Bj×Int×Int×Int×Dg×Int×(TL Bj)×Bool
abbrev Az:=Bj×Int×Int×Int×(TL Bj)×(TL Int)×Bool
abbrev Ao:=Int×Int×(TL Av)×(TL Az)
abbrev Ak:=Int×Int×Int×Bj×Int×Dg×Int×(TL Bj)×Int×Int×Bool
abbrev BD:=(TL Ao)×(TL Ak)
abbrev CF:=Int×Int×Int×Bj×Dg
end Go.Proofs.SL
namespace Go.Proofs.SL
open Go Tryz Go.Proofs.SL.GT
theorem iR {p:Prop} (h:p:=by (unfold inR;omega)):p:=h
theorem ob {α β:Type} (a:α) (f:α→Option β):Option.bind (some a) f=f a:=rfl
variable (w:World)
abbrev Sp (f:FuncId) (a:List Value):=Spec prog f a.toArray
noncomputable section
set_option maxHeartbeats 2000000
theorem mix:prog.follows .mixedOrders=true:=by kernel_rfl
instance HD:FnF prog 66:=⟨_,func66,kr,rfl⟩
def ER (a0:Int) (a1:Int) (a2:Int):Option Bool :=
 some ((decide (a1≤a0))&&(decide (a0≤a2)))
theorem Do (a0:Int) (a1:Int) (a2:Int)  (r) (hp:ER a0 a1 a2=some r):Sp 83 [.int .i64 a0,.int .i64 a1,.int .i64 a2] w [] (IsV (.bool r)):=by
 refine Spec.intro func83 rfl ntmps83 rfl ?_;unfold ER at hp;replace hp:=dd hp;refine s5 ?_;refine BX [6] mix kr rfl (s20 ?_);obtain rfl:=sj hp;refine s1 ?_;refine AE rfl (Ab rfl) ⟨rfl,rfl⟩ ms
def Dz (a0:Int) (a1:Int) (a2:Int):Option Bool :=
 some ((decide (a1≤a0))&&(decide (a0≤a2)))
theorem CN (a0:Int) (a1:Int) (a2:Int)  (r) (hp:Dz a0 a1 a2=some r):Sp 66 [.int .i64 a0,.int .i64 a1,.int .i64 a2] w [] (IsV (.bool r)):=by
 refine Spec.intro func66 rfl ntmps66 rfl ?_;unfold Dz at hp;replace hp:=dd hp;refine s5 ?_;refine BX [6] mix kr rfl (s20 ?_);obtain rfl:=sj hp;refine s1 ?_;refine AE rfl (Ab rfl) ⟨rfl,rfl⟩ ms
def HZ (a0:Int):Option Bool :=
 some ((decide (0≤a0))&&(decide (a0 < 3)))
theorem HL (a0:Int)  (r) (hp:HZ a0=some r):Sp 136 [.int .i64 a0] w [] (IsV (.bool r)):=by
 refine Spec.intro func136 rfl ntmps136 rfl ?_;unfold HZ at hp;replace hp:=dd hp;refine s5 ?_;refine BX [2] mix kr rfl (s16 ?_);obtain rfl:=sj hp;refine s1 ?_;refine AE rfl (Ab rfl) ⟨rfl,rfl⟩ ms
def Ii (a0:Int):Option Bool :=
 (Dz a0 0 2).bind fun y1=>some y1
theorem HE (a0:Int)  (r) (hp:Ii a0=some r):Sp 62 [.int .i64 a0] w [] (IsV (.bool r)):=by
 refine Spec.intro func62 rfl ntmps62 rfl ?_;unfold Ii at hp;replace hp:=dd hp;refine s7 ?_
 revert hp;refine bc fun y1 a1 hp=>?_
 refine Bi rfl HD.h rfl (by exact fun w hw=>CN w a0 0 2  _ a1) (s2 ?_);obtain rfl:=sj hp;refine s1 ?_;refine AE rfl (Ab rfl) ⟨rfl,rfl⟩ ms
end
end Go.Proofs.SL
namespace Go.Proofs
open Go.Shelf
def Tryz.laysSF130_ren:Go.Shelf.Ren:=⟨fun | 6=>130 | 15=>178 | 14=>177 | 28=>213 | 29=>214 | 20=>205 | 21=>206 | 22=>207 | 23=>208 | 24=>209 | 25=>210 | 26=>211 | 27=>212 | 46=>231 | 47=>232 | 48=>233 | 49=>234 | 50=>235 | 57=>257 | n=>n,fun | 22=>31 | 24=>35 | 25=>154 | 3=>3 | 39=>138 | 0=>0 | 53=>201 | 55=>203 | 4=>4 | 46=>194 | 45=>193 | 50=>198 | 5=>5 | 9=>9 | 66=>210 | 70=>214 | 76=>228 | 77=>229 | n=>n,fun | n=>n⟩
theorem Tryz.laysSF130:Go.Proofs.SlLaysF0.n6 Tryz.prog Tryz.laysSF130_ren:={
 mixed:=by kernel_rfl
 f6:=⟨Tryz.f130.name,by decide,Tryz.func130.trans (congrArg some (by kernel_rfl))⟩
 f14:=⟨Tryz.f177.name,by decide,Tryz.func177.trans (congrArg some (by kernel_rfl))⟩
 f15:=Tryz.func178.trans (congrArg some (by kernel_rfl))
 f20:=⟨Tryz.f205.name,by decide,Tryz.func205.trans (congrArg some (by kernel_rfl))⟩
 f21:=⟨Tryz.f206.name,by decide,Tryz.func206.trans (congrArg some (by kernel_rfl))⟩
 f22:=⟨Tryz.f207.name,by decide,Tryz.func207.trans (congrArg some (by kernel_rfl))⟩
 f23:=⟨Tryz.f208.name,by decide,Tryz.func208.trans (congrArg some (by kernel_rfl))⟩
 f24:=⟨Tryz.f209.name,by decide,Tryz.func209.trans (congrArg some (by kernel_rfl))⟩
 f25:=⟨Tryz.f210.name,by decide,Tryz.func210.trans (congrArg some (by kernel_rfl))⟩
 f26:=⟨Tryz.f211.name,by decide,Tryz.func211.trans (congrArg some (by kernel_rfl))⟩
 f27:=⟨Tryz.f212.name,by decide,Tryz.func212.trans (congrArg some (by kernel_rfl))⟩
 f28:=Tryz.func213.trans (congrArg some (by kernel_rfl))
 f29:=Tryz.func214.trans (congrArg some (by kernel_rfl))
 f46:=⟨Tryz.f231.name,by decide,Tryz.func231.trans (congrArg some (by kernel_rfl))⟩
 f47:=Tryz.func232.trans (congrArg some (by kernel_rfl))
 f48:=Tryz.func233.trans (congrArg some (by kernel_rfl))
 f49:=⟨Tryz.f234.name,by decide,Tryz.func234.trans (congrArg some (by kernel_rfl))⟩
 f50:=⟨Tryz.f235.name,by decide,Tryz.func235.trans (congrArg some (by kernel_rfl))⟩
 f57:=⟨Tryz.f257.name,by decide,Tryz.func257.trans (congrArg some (by kernel_rfl))⟩
 t0:=Tryz.underlying0
 a0:=Tryz.isAgg0
 z0:=Tryz.sizeOf0
 v0:=Tryz.zeroValue0
 t3:=Tryz.underlying3
 a3:=Tryz.isAgg3
 z3:=Tryz.sizeOf3
 v3:=Tryz.zeroValue3
 t4:=Tryz.underlying4
 a4:=Tryz.isAgg4
 z4:=Tryz.sizeOf4
 v4:=Tryz.zeroValue4
 t5:=Tryz.underlying5
 a5:=Tryz.isAgg5
 z5:=Tryz.sizeOf5
 v5:=Tryz.zeroValue5
 t9:=Tryz.underlying9
 a9:=Tryz.isAgg9
 z9:=Tryz.sizeOf9
 v9:=Tryz.zeroValue9
 t22:=Tryz.underlying31
 a22:=Tryz.isAgg31
 z22:=Tryz.sizeOf31
 v22:=Tryz.zeroValue31
 t25:=Tryz.underlying154
 a25:=Tryz.isAgg154
 z25:=Tryz.sizeOf154
 v25:=Tryz.zeroValue154
 t39:=Tryz.underlying138
 a39:=Tryz.isAgg138
 z39:=Tryz.sizeOf138
 v39:=Tryz.zeroValue138
 t45:=Tryz.underlying193
 a45:=Tryz.isAgg193
 z45:=Tryz.sizeOf193
 v45:=Tryz.zeroValue193
 t46:=Tryz.underlying194
 a46:=Tryz.isAgg194
 z46:=Tryz.sizeOf194
 v46:=Tryz.zeroValue194
 t50:=Tryz.underlying198
 a50:=Tryz.isAgg198
 z50:=Tryz.sizeOf198
 v50:=Tryz.zeroValue198
 t53:=Tryz.underlying201
 a53:=Tryz.isAgg201
 z53:=Tryz.sizeOf201
 v53:=Tryz.zeroValue201
 t55:=Tryz.underlying203
 a55:=Tryz.isAgg203
 z55:=Tryz.sizeOf203
 v55:=Tryz.zeroValue203
 t66:=Tryz.underlying210
 a66:=Tryz.isAgg210
 z66:=Tryz.sizeOf210
 v66:=Tryz.zeroValue210
 t70:=Tryz.underlying214
 a70:=Tryz.isAgg214
 z70:=Tryz.sizeOf214
 v70:=Tryz.zeroValue214
 t76:=Tryz.underlying228
 a76:=Tryz.isAgg228
 z76:=Tryz.sizeOf228
 v76:=Tryz.zeroValue228
 t77:=Tryz.underlying229
 a77:=Tryz.isAgg229
 z77:=Tryz.sizeOf229
 v77:=Tryz.zeroValue229 }
def Tryz.laysSF195_ren:Go.Shelf.Ren:=⟨fun | 6=>195 | 15=>178 | 14=>226 | 28=>213 | 29=>214 | 20=>240 | 21=>241 | 22=>242 | 23=>243 | 24=>244 | 25=>245 | 26=>246 | 27=>247 | 46=>259 | 47=>232 | 48=>233 | 49=>260 | 50=>261 | 57=>266 | n=>n,fun | 22=>41 | 24=>48 | 25=>182 | 3=>3 | 39=>138 | 0=>0 | 53=>201 | 55=>203 | 4=>4 | 46=>194 | 45=>193 | 50=>198 | 5=>5 | 9=>9 | 66=>210 | 70=>214 | 76=>228 | 77=>229 | n=>n,fun | n=>n⟩
theorem Tryz.laysSF195:Go.Proofs.SlLaysF0.n6 Tryz.prog Tryz.laysSF195_ren:={
 mixed:=by kernel_rfl
 f6:=⟨Tryz.f195.name,by decide,Tryz.func195.trans (congrArg some (by kernel_rfl))⟩
 f14:=⟨Tryz.f226.name,by decide,Tryz.func226.trans (congrArg some (by kernel_rfl))⟩
 f15:=Tryz.func178.trans (congrArg some (by kernel_rfl))
 f20:=⟨Tryz.f240.name,by decide,Tryz.func240.trans (congrArg some (by kernel_rfl))⟩
 f21:=⟨Tryz.f241.name,by decide,Tryz.func241.trans (congrArg some (by kernel_rfl))⟩
 f22:=⟨Tryz.f242.name,by decide,Tryz.func242.trans (congrArg some (by kernel_rfl))⟩
 f23:=⟨Tryz.f243.name,by decide,Tryz.func243.trans (congrArg some (by kernel_rfl))⟩
 f24:=⟨Tryz.f244.name,by decide,Tryz.func244.trans (congrArg some (by kernel_rfl))⟩
 f25:=⟨Tryz.f245.name,by decide,Tryz.func245.trans (congrArg some (by kernel_rfl))⟩
 f26:=⟨Tryz.f246.name,by decide,Tryz.func246.trans (congrArg some (by kernel_rfl))⟩
 f27:=⟨Tryz.f247.name,by decide,Tryz.func247.trans (congrArg some (by kernel_rfl))⟩
 f28:=Tryz.func213.trans (congrArg some (by kernel_rfl))
 f29:=Tryz.func214.trans (congrArg some (by kernel_rfl))
 f46:=⟨Tryz.f259.name,by decide,Tryz.func259.trans (congrArg some (by kernel_rfl))⟩
 f47:=Tryz.func232.trans (congrArg some (by kernel_rfl))
 f48:=Tryz.func233.trans (congrArg some (by kernel_rfl))
 f49:=⟨Tryz.f260.name,by decide,Tryz.func260.trans (congrArg some (by kernel_rfl))⟩
 f50:=⟨Tryz.f261.name,by decide,Tryz.func261.trans (congrArg some (by kernel_rfl))⟩
 f57:=⟨Tryz.f266.name,by decide,Tryz.func266.trans (congrArg some (by kernel_rfl))⟩
 t0:=Tryz.underlying0
 a0:=Tryz.isAgg0
 z0:=Tryz.sizeOf0
 v0:=Tryz.zeroValue0
 t3:=Tryz.underlying3
 a3:=Tryz.isAgg3
 z3:=Tryz.sizeOf3
 v3:=Tryz.zeroValue3
 t4:=Tryz.underlying4
 a4:=Tryz.isAgg4
 z4:=Tryz.sizeOf4
 v4:=Tryz.zeroValue4
 t5:=Tryz.underlying5
 a5:=Tryz.isAgg5
 z5:=Tryz.sizeOf5
 v5:=Tryz.zeroValue5
 t9:=Tryz.underlying9
 a9:=Tryz.isAgg9
 z9:=Tryz.sizeOf9
 v9:=Tryz.zeroValue9
 t22:=Tryz.underlying41
 a22:=Tryz.isAgg41
 z22:=Tryz.sizeOf41
 v22:=Tryz.zeroValue41
 t25:=Tryz.underlying182
 a25:=Tryz.isAgg182
 z25:=Tryz.sizeOf182
 v25:=Tryz.zeroValue182
 t39:=Tryz.underlying138
 a39:=Tryz.isAgg138
 z39:=Tryz.sizeOf138
 v39:=Tryz.zeroValue138
 t45:=Tryz.underlying193
 a45:=Tryz.isAgg193
 z45:=Tryz.sizeOf193
 v45:=Tryz.zeroValue193
 t46:=Tryz.underlying194
 a46:=Tryz.isAgg194
 z46:=Tryz.sizeOf194
 v46:=Tryz.zeroValue194
 t50:=Tryz.underlying198
 a50:=Tryz.isAgg198
 z50:=Tryz.sizeOf198
 v50:=Tryz.zeroValue198
 t53:=Tryz.underlying201
 a53:=Tryz.isAgg201
 z53:=Tryz.sizeOf201
 v53:=Tryz.zeroValue201
 t55:=Tryz.underlying203
 a55:=Tryz.isAgg203
 z55:=Tryz.sizeOf203
 v55:=Tryz.zeroValue203
 t66:=Tryz.underlying210
 a66:=Tryz.isAgg210
 z66:=Tryz.sizeOf210
 v66:=Tryz.zeroValue210
 t70:=Tryz.underlying214
 a70:=Tryz.isAgg214
 z70:=Tryz.sizeOf214
 v70:=Tryz.zeroValue214
 t76:=Tryz.underlying228
 a76:=Tryz.isAgg228
 z76:=Tryz.sizeOf228
 v76:=Tryz.zeroValue228
 t77:=Tryz.underlying229
 a77:=Tryz.isAgg229
 z77:=Tryz.sizeOf229
 v77:=Tryz.zeroValue229 }
end Go.Proofs
namespace Go.Proofs
open Go.Shelf
def Tryz.lays189_ren:Go.Shelf.Ren:=⟨fun | 189=>200 | 125=>178 | 257=>229 | 128=>213 | 129=>214 | 294=>248 | 295=>249 | 296=>250 | 297=>251 | 298=>252 | 299=>253 | 216=>254 | 300=>255 | 301=>256 | 328=>262 | 329=>232 | 330=>233 | 331=>263 | 332=>264 | 215=>265 | 343=>267 | n=>n,fun | 28=>78 | 3=>3 | 46=>138 | 0=>0 | 51=>201 | 53=>203 | 4=>4 | 183=>194 | 182=>193 | 131=>198 | 5=>5 | 9=>9 | 218=>210 | 222=>214 | 228=>228 | 229=>229 | n=>n,fun | n=>n⟩
theorem Tryz.lays189:Go.Proofs.Lays.n189 Tryz.prog Tryz.lays189_ren:={
 mixed:=by kernel_rfl
 f125:=Tryz.func178.trans (congrArg some (by kernel_rfl))
 f128:=Tryz.func213.trans (congrArg some (by kernel_rfl))
 f129:=Tryz.func214.trans (congrArg some (by kernel_rfl))
 f189:=Tryz.func200.trans (congrArg some (by kernel_rfl))
 f215:=Tryz.func265.trans (congrArg some (by kernel_rfl))
 f216:=Tryz.func254.trans (congrArg some (by kernel_rfl))
 f257:=Tryz.func229.trans (congrArg some (by kernel_rfl))
 f294:=Tryz.func248.trans (congrArg some (by kernel_rfl))
 f295:=Tryz.func249.trans (congrArg some (by kernel_rfl))
 f296:=Tryz.func250.trans (congrArg some (by kernel_rfl))
 f297:=Tryz.func251.trans (congrArg some (by kernel_rfl))
 f298:=Tryz.func252.trans (congrArg some (by kernel_rfl))
 f299:=Tryz.func253.trans (congrArg some (by kernel_rfl))
 f300:=Tryz.func255.trans (congrArg some (by kernel_rfl))
 f301:=Tryz.func256.trans (congrArg some (by kernel_rfl))
 f328:=Tryz.func262.trans (congrArg some (by kernel_rfl))
 f329:=Tryz.func232.trans (congrArg some (by kernel_rfl))
 f330:=Tryz.func233.trans (congrArg some (by kernel_rfl))
 f331:=Tryz.func263.trans (congrArg some (by kernel_rfl))
 f332:=Tryz.func264.trans (congrArg some (by kernel_rfl))
 f343:=Tryz.func267.trans (congrArg some (by kernel_rfl))
 t0:=Tryz.underlying0
 a0:=Tryz.isAgg0
 z0:=Tryz.sizeOf0
 v0:=Tryz.zeroValue0
 t3:=Tryz.underlying3
 a3:=Tryz.isAgg3
 z3:=Tryz.sizeOf3
 v3:=Tryz.zeroValue3
 t4:=Tryz.underlying4
 a4:=Tryz.isAgg4
 z4:=Tryz.sizeOf4
 v4:=Tryz.zeroValue4
 t5:=Tryz.underlying5
 a5:=Tryz.isAgg5
 z5:=Tryz.sizeOf5
 v5:=Tryz.zeroValue5
 t9:=Tryz.underlying9
 a9:=Tryz.isAgg9
 z9:=Tryz.sizeOf9
 v9:=Tryz.zeroValue9
 t28:=Tryz.underlying78
 a28:=Tryz.isAgg78
 z28:=Tryz.sizeOf78
 v28:=Tryz.zeroValue78
 t46:=Tryz.underlying138
 a46:=Tryz.isAgg138
 z46:=Tryz.sizeOf138
 v46:=Tryz.zeroValue138
 t51:=Tryz.underlying201
 a51:=Tryz.isAgg201
 z51:=Tryz.sizeOf201
 v51:=Tryz.zeroValue201
 t53:=Tryz.underlying203
 a53:=Tryz.isAgg203
 z53:=Tryz.sizeOf203
 v53:=Tryz.zeroValue203
 t131:=Tryz.underlying198
 a131:=Tryz.isAgg198
 z131:=Tryz.sizeOf198
 v131:=Tryz.zeroValue198
 t182:=Tryz.underlying193
 a182:=Tryz.isAgg193
 z182:=Tryz.sizeOf193
 v182:=Tryz.zeroValue193
 t183:=Tryz.underlying194
 a183:=Tryz.isAgg194
 z183:=Tryz.sizeOf194
 v183:=Tryz.zeroValue194
 t218:=Tryz.underlying210
 a218:=Tryz.isAgg210
 z218:=Tryz.sizeOf210
 v218:=Tryz.zeroValue210
 t222:=Tryz.underlying214
 a222:=Tryz.isAgg214
 z222:=Tryz.sizeOf214
 v222:=Tryz.zeroValue214
 t228:=Tryz.underlying228
 a228:=Tryz.isAgg228
 z228:=Tryz.sizeOf228
 v228:=Tryz.zeroValue228
 t229:=Tryz.underlying229
 a229:=Tryz.isAgg229
 z229:=Tryz.sizeOf229
 v229:=Tryz.zeroValue229 }
end Go.Proofs
namespace Go.Proofs.SL
open Go
section
variable {δ:Type}
def TI (lt:δ→δ→Bool) (x:δ):List δ→List δ
 | []=>[x]
 | y::ys=>if lt y x then y::TI lt x ys else x::y::ys
def Pk (lt:δ→δ→Bool) (l:List δ):List δ:=l.foldr (TI lt) []
theorem Sm (lt:δ→δ→Bool) (x:δ):∀ l:List δ,(TI lt x l).Perm (x::l)
 | []=>List.Perm.refl _
 | y::ys=>by
  unfold TI
  split
  ·exact ((Sm lt x ys).cons y).trans (List.Perm.swap x y ys)
  ·exact List.Perm.refl _
theorem JX (lt:δ→δ→Bool):∀ l:List δ,(Pk lt l).Perm l
 | []=>List.Perm.refl _
 | x::l=>(Sm lt x _).trans ((JX lt l).cons x)
structure SW0 (lt:δ→δ→Bool):Prop where
 irrefl:∀ x,lt x x=false
 trans:∀ x y z,lt x y=true→lt y z=true→lt x z=true
 ntrans:∀ x y z,lt x y=false→lt y z=false→lt x z=false
theorem Tn {lt:δ→δ→Bool} (h:SW0 lt) {x:δ}:∀ {l:List δ},l.Pairwise (fun a b=>lt b a=false)→(TI lt x l).Pairwise (fun a b=>lt b a=false)
 | [],_=>by unfold TI;simp
 | y::ys,hl=>by
  obtain ⟨h1,h2⟩:=List.pairwise_cons.1 hl;unfold TI
  split
  ·rename_i hc
   refine List.pairwise_cons.2 ⟨fun z hz=>?_,Tn h h2⟩;rcases List.mem_cons.1 ((Sm lt x ys).mem_iff.1 hz) with rfl | hz
   ·cases hh:lt z y with
    | false=>rfl
    | true=>have:=h.trans _ _ _ hh hc;rw [h.irrefl] at this;cases this
   ·exact h1 z hz
  ·rename_i hc
   have hc:lt y x=false:=by simpa using hc
   refine List.pairwise_cons.2 ⟨fun z hz=>?_,hl⟩;rcases List.mem_cons.1 hz with rfl | hz
   ·exact hc
   ·exact h.ntrans _ _ _ (h1 z hz) hc
theorem Ls {lt:δ→δ→Bool} (h:SW0 lt):∀ l:List δ,(Pk lt l).Pairwise (fun a b=>lt b a=false)
 | []=>List.Pairwise.nil
 | x::l=>Tn h (Ls h l)
theorem NI {lt:δ→δ→Bool}:∀ {l m:List δ},l.Perm m→l.Pairwise (fun a b=>lt b a=false)→m.Pairwise (fun a b=>lt b a=false)→(∀ a b,a∈l→b∈l→lt a b=true∨lt b a=true∨a=b)→l=m
 | [],m,hp,_,_,_=>(List.nil_perm.1 hp).symm
 | a::l,m,hp,hl,hm,ht=>by
  match m,hp,hm with
  | [],hp,_=>exact absurd hp.length_eq (by simp)
  | b::m,hp,hm =>
   obtain ⟨l1,l2⟩:=List.pairwise_cons.1 hl;obtain ⟨m1,m2⟩:=List.pairwise_cons.1 hm
   have e:a=b:=by
    rcases List.mem_cons.1 (hp.mem_iff.1 (List.mem_cons_self ..)) with e | ha
    ·exact e
    ·rcases List.mem_cons.1 (hp.mem_iff.2 (List.mem_cons_self ..)) with e | hb
     ·exact e.symm
     ·rcases ht a b (List.mem_cons_self ..) (List.mem_cons_of_mem _ hb) with h | h | h
      ·rw [m1 a ha] at h;cases h
      ·rw [l1 b hb] at h;cases h
      ·exact h
   subst e;rw [NI ((List.perm_cons a).1 hp) l2 m2 fun x y hx hy=>ht x y (List.mem_cons_of_mem _ hx) (List.mem_cons_of_mem _ hy)]
open Classical in
noncomputable def Rc (lt:δ→δ→Bool) (l:List δ):Option (List δ):=if l.length≤4294967296∧∀ a b,a∈l→b∈l→lt a b=true∨lt b a=true∨a=b then some (Pk lt l) else none
theorem aV {lt:δ→δ→Bool} {l r:List δ} (h:Rc lt l=some r):l.length≤4294967296∧(∀ a b,a∈l→b∈l→lt a b=true∨lt b a=true∨a=b)∧r=Pk lt l:=by
 unfold Rc at h
 split at h
 ·rename_i hc;cases h;exact ⟨hc.1,hc.2,rfl⟩
 ·cases h
theorem XK {lt:δ→δ→Bool} {l:List δ} (h1:l.length≤4294967296) (h2:∀ a b,a∈l→b∈l→lt a b=true∨lt b a=true∨a=b):Rc lt l=some (Pk lt l):=by
 unfold Rc;rw [if_pos ⟨h1,h2⟩]
end
section
variable {τ δ:Type} [GT τ δ]
theorem lD {els ys:List τ} (h:ys.Perm els):(ys.flatMap GT.fp:List Nat).Perm (els.flatMap GT.fp):=h.flatMap_right _
theorem swO {lt:τ→τ→Bool} {ltD:δ→δ→Bool} (hlt:∀ x y,lt x y=ltD (GT.dat x) (GT.dat y)) (hD:SW0 ltD):Sort.SWO lt where
 irrefl x:=by rw [hlt];exact hD.irrefl _
 trans x y z h1 h2:=by rw [hlt] at *;exact hD.trans _ _ _ h1 h2
 ntrans x y z h1 h2:=by rw [hlt] at *;exact hD.ntrans _ _ _ h1 h2
end
theorem To {α:Type} (X:Array α) (n:Nat) (h:X.size=n):X.extract 0 n=X:=by subst h;simp
section
variable {τ δ:Type} [Inhabited τ] [GT τ δ]
theorem RO:∀ (ys:List τ) (t:Nat),t < ys.length*GT.sz τ→(AJ ys)[t]?=(GT.cells (ys.toArray[t / GT.sz τ]!))[t % GT.sz τ]?
 | [],t,h=>by simp at h
 | y::ys,t,h=>by
  have hp:0 < GT.sz τ:=GT.pos
  have hl:(GT.cells y).length=GT.sz τ:=GT.len y
  rw [Gh];rcases Nat.lt_or_ge t (GT.sz τ) with ht | ht
  ·rw [List.getElem?_append_left om,Nat.div_eq_of_lt ht,Nat.mod_eq_of_lt ht];rfl
  ·have h2:t - GT.sz τ < ys.length*GT.sz τ:=by rw [List.length_cons,Nat.add_mul] at h;omega
   rw [List.getElem?_append_right om,hl,RO ys _ h2,Nat.mod_eq_sub_mod ht,Nat.div_eq_sub_div hp ht]
   congr 2
   simp
theorem Qb (ys:List τ):Sort.flatK (fun x:τ=>GT.cells x) (GT.sz τ) ys.toArray=(AJ ys).toArray:=by
 have hs:(Sort.flatK (fun x:τ=>GT.cells x) (GT.sz τ) ys.toArray).size=(AJ ys).toArray.size:=by rw [Sort.size_flatK];simp [De]
 refine Sort.ext_get! hs fun t ht=>?_
 have ht':t < ys.toArray.size*GT.sz τ:=by simpa using ht
 have ht2:t < ys.length*GT.sz τ:=by simpa using ht'
 rw [Sort.get_flatK _ _ _ _ ht']
 have h1:=RO ys t ht2
 simp only [Array.getElem!_eq_getD,Array.getD_eq_getD_getElem?,List.getElem?_toArray,List.getElem!_eq_getElem?_getD] at h1 ⊢;rw [h1]
theorem Zj {w:World} {b:Nat} {e:TypeId} {els:List τ} {tail:List Value} (hb:w.heap[b]?=some (.cells (AJ els++tail).toArray e (0,0))):Sort.HoldsK (fun x:τ=>GT.cells x) (GT.sz τ) w b 0 els.toArray:=by
 unfold Sort.HoldsK;rw [Qb];intro j hj
 have hj':j < (AJ els).length:=by simpa using hj
 refine ⟨?_,by simp [World.frozen?,hb]⟩;simp only [World.cell?,hb,Nat.zero_add];simp only [Option.isSome_none,Bool.false_eq_true,if_false];rw [List.getElem?_toArray,List.getElem?_append_left hj',List.getElem?_eq_getElem hj'];rw [show (AJ els).toArray[j]! = (AJ els)[j] by simp [List.getElem?_eq_getElem hj']];rfl
theorem aW {w w':World} {b cap n:Nat} {e:TypeId} {els ys:List τ} {tail:List Value} {os:Array Obj}
  (hh:Holds w (fps [Af (⟨some ⟨b,0,none⟩,cap,e,els,tail⟩:TL τ)]) [Af (⟨some ⟨b,0,none⟩,cap,e,els,tail⟩:TL τ)] w) (hpm:ys.Perm els)
  (hw:w'=Go.Proofs.sortWorldK (fun x:τ=>GT.cells x) (GT.sz τ) w b 0 n ys.toArray os) :
  Holds w (fps [Af (⟨some ⟨b,0,none⟩,cap,e,els,tail⟩:TL τ)]) [Af (⟨some ⟨b,0,none⟩,cap,e,ys,tail⟩:TL τ)] w':=by
 have hlen:ys.length=els.length:=hpm.length_eq
 have ht:GT.ow w (⟨some ⟨b,0,none⟩,cap,e,els,tail⟩:TL τ):=hh.prs _ (List.mem_cons_self ..)
 obtain ⟨h1,h2,h3,h4,h5⟩:=ht;dsimp only at h1 h2 h3 h4;obtain ⟨_,_,hb,hl⟩:=h5 _ rfl;dsimp only at hb hl;unfold Go.Proofs.sortWorldK Sort.putRowK at hw;rw [Qb] at hw
 have hbl:b < w.heap.size:=(Array.getElem?_eq_some_iff.1 hb).1
 have hw':w'.heap[b]?=some (.cells (AJ ys++tail).toArray e (0,0)):=by
  subst hw;rw [Sort.heap_grow_old _ _ (by simpa [Sort.putRow,Sort.mapBlock,Sort.ahead] using hbl)]
  have hp:=Wj id (AJ ys) (AJ els) tail (by rw [De,De,hlen])
  simp only [Sort.putRow,Sort.mapBlock,Sort.ahead,Array.getElem?_modify,hb,Sort.onCells,if_true,Option.map_some];rw [hp,List.map_id]
 have hoth:∀ k,k < w.heap.size→b≠k→w'.heap[k]?=w.heap[k]?:=fun k hk hkb=>by
  subst hw;rw [Sort.heap_grow_old _ _ (by simpa [Sort.putRow,Sort.mapBlock,Sort.ahead] using hk)];simp [Sort.putRow,Sort.mapBlock,Sort.ahead,Array.getElem?_modify,hkb]
 have hsz:w.heap.size≤w'.heap.size:=by subst hw;simp [Sort.putRow,Sort.mapBlock,Sort.ahead]
 have e1:fps [Af (⟨some ⟨b,0,none⟩,cap,e,els,tail⟩:TL τ)]=b::els.flatMap GT.fp:=by simp only [Co];show ([b]++els.flatMap GT.fp)++fps []=_;simp [fps]
 have e2:fps [Af (⟨some ⟨b,0,none⟩,cap,e,ys,tail⟩:TL τ)]=b::ys.flatMap GT.fp:=by simp only [Co];show ([b]++ys.flatMap GT.fp)++fps []=_;simp [fps]
 have efp:(fps [Af (⟨some ⟨b,0,none⟩,cap,e,ys,tail⟩:TL τ)]).Perm (fps [Af (⟨some ⟨b,0,none⟩,cap,e,els,tail⟩:TL τ)]):=by rw [e1,e2];exact (lD hpm).cons b
 have hnd:=hh.nodup
 rw [e1] at hnd;refine ⟨by subst hw;rfl,⟨by subst hw;rfl,by subst hw;exact Nat.le_add_right _ _⟩,by subst hw;rfl,hsz,fun k hk hn=>hoth k hk fun e2=>?_,fun x hx=>?_,efp.nodup_iff.2 hh.nodup,fun k hk=>?_⟩
 ·subst e2;exact hn (by rw [e1];exact List.mem_cons_self ..)
 ·obtain rfl:=List.mem_singleton.1 hx;refine ⟨by dsimp only;omega,h2,fun x hx=>?_,fun h=>(by cases h),fun a ha=>by cases ha;exact ⟨rfl,rfl,hw',by dsimp only;rw [hlen];exact hl⟩⟩
  have hxe:x∈els:=hpm.mem_iff.1 hx
  refine GT.ow_st (fun k hk=>?_) (h3 x hxe)
  have hm:k∈els.flatMap GT.fp:=List.mem_flatMap.2 ⟨x,hxe,hk⟩
  exact hoth k (hh.rng k (by rw [e1];exact List.mem_cons_of_mem _ hm)).2 fun e2=>(List.nodup_cons.1 hnd).1 (by rw [e2];exact hm)
 ·have hk2:=efp.mem_iff.1 hk
  exact ⟨(hh.rng k hk2).1,Nat.lt_of_lt_of_le (hh.rng k hk2).2 hsz⟩
theorem Spec.sortO {P:Program} {f:FuncId} {fv:Value} (w:World) (a0:TL τ) (lt:τ→τ→Bool) (ltD:δ→δ→Bool) (hlt:∀ x y,lt x y=ltD (GT.dat x) (GT.dat y)) (hD:SW0 ltD) (r:List δ) (hp:Rc ltD (GT.dat a0)=some r)
  (h:∀ (b off cap:Nat) (d:Array τ),Sort.HoldsK (fun x:τ=>GT.cells x) (GT.sz τ) w b off d→b < w.heap.size→b∈GT.fp a0→d.size < 4611686018427387904→Calls P f #[.slice (some ⟨b,off,none⟩) d.size cap,fv] w fun e w'=>e=.returned (.tuple #[])∧∃ n os,w'=Go.Proofs.sortWorldK (fun x:τ=>GT.cells x) (GT.sz τ) w b off n (Sort.pdq lt d 0 d.size (Lib.bitLen d.size) true true) os)
  (h0:∀ (p:Option Addr) (cap:Nat),Calls P f #[.slice p 0 cap,fv] w fun e w'=>e=.returned (.tuple #[])∧w'=w) :
  Spec P f #[a0.hdr,fv] w [Af a0] (fun v M=>∃ y0:TL τ,v=.tuple #[]∧GT.dat y0=r∧M=[Af y0]∧y0.hdr=a0.hdr):=by
 intro hh;obtain ⟨hsz,htot,rfl⟩:=aV hp
 have hd:GT.dat a0=a0.els.map GT.dat:=rfl
 rw [hd,List.length_map] at hsz
 have hO:=swO hlt hD
 have hps:=Sort.pdq_sorts lt hO a0.els.toArray 0 a0.els.toArray.size (Lib.bitLen a0.els.length) true true (Nat.zero_le _) (Nat.le_refl _) (Or.inl rfl)
 have hperm:(Sort.pdq lt a0.els.toArray 0 a0.els.length (Lib.bitLen a0.els.length) true true).toList.Perm a0.els:=by
  have h1:=hps.1.2.2
  have h2:=hps.1.1
  simp only [List.size_toArray] at h1 h2;rw [To _ _ h2,To _ _ (by simp)] at h1
  simpa using h1
 have hsorted:((Sort.pdq lt a0.els.toArray 0 a0.els.length (Lib.bitLen a0.els.length) true true).toList.map GT.dat).Pairwise (fun a b=>ltD b a=false):=by
  rw [List.pairwise_map,List.pairwise_iff_getElem];intro i j hi hj hij
  have h2:=hps.2 i j (Nat.zero_le _) hij (by have:=hperm.length_eq;rw [List.size_toArray];omega)
  rw [List.size_toArray] at h2;rw [hlt] at h2
  have hi':i < (Sort.pdq lt a0.els.toArray 0 a0.els.length (Lib.bitLen a0.els.length) true true).size:=by simpa using hi
  have hj':j < (Sort.pdq lt a0.els.toArray 0 a0.els.length (Lib.bitLen a0.els.length) true true).size:=by simpa using hj
  rw [getElem!_pos _ i hi',getElem!_pos _ j hj'] at h2
  simpa using h2
 have hres:(Sort.pdq lt a0.els.toArray 0 a0.els.length (Lib.bitLen a0.els.length) true true).toList.map GT.dat=Pk ltD (GT.dat a0) :=
  NI ((hperm.map GT.dat).trans (JX ltD _).symm) hsorted (Ls hD _) fun a b ha hb=>htot a b ((hperm.map GT.dat).mem_iff.1 ha) ((hperm.map GT.dat).mem_iff.1 hb)
 rcases Si hh with ⟨e,tail,rfl⟩ | ⟨b,cap,e,els,tail,rfl,h1,hl,hb,hbl⟩
 ·refine (h0 none 0).mono fun e' w' ⟨he,hw⟩=>?_;subst hw;refine ⟨_,_,he,⟨⟨none,0,e,[],tail⟩,rfl,rfl,rfl,rfl⟩,hh⟩
 ·dsimp only at hsz hperm hsorted hres
  have:=h b 0 cap els.toArray (Zj hb) hbl (by show b∈[b]++_;simp) (by simp;omega)
  rw [List.size_toArray] at this;generalize Sort.pdq lt els.toArray 0 els.length (Lib.bitLen els.length) true true=ys at this hperm hres;refine this.mono fun e' w' ⟨he,n,os,hw⟩=>⟨_,_,he,⟨⟨some ⟨b,0,none⟩,cap,e,ys.toList,tail⟩,rfl,hres,rfl,?_⟩,aW (n:=n) (os:=os) hh hperm hw⟩;show Value.slice _ ys.toList.length _=Value.slice _ els.length _;rw [hperm.length_eq]
end
end Go.Proofs.SL
namespace Go.Proofs.SL
open Go
theorem gL {W w':World} {M:List HP} (h:Holds W [] M w'):∃ q os',w'=Sort.grow (W.drewN q) os':=by
 refine ⟨w'.drawn - W.drawn,w'.heap.extract W.heap.size w'.heap.size,?_⟩
 have hh:w'.heap=W.heap++w'.heap.extract W.heap.size w'.heap.size:=by
  apply Array.ext_getElem?
  intro i;rcases Nat.lt_or_ge i W.heap.size with hi | hi
  ·rw [Array.getElem?_append_left hi];exact h.old i hi (by simp)
  ·rw [Array.getElem?_append_right hi];rcases Nat.lt_or_ge i w'.heap.size with h2 | h2
   ·rw [Array.getElem?_extract,if_pos (by rw [Nat.min_self];omega),show W.heap.size+(i - W.heap.size)=i by omega]
   ·rw [Array.getElem?_eq_none h2,Array.getElem?_eq_none (by simp;omega)]
 have hd:=h.tape.2
 cases w' with
 | mk heap tape drawn os output =>
  have h1:=h.os
  have h2:=h.tape.1
  have h3:=h.output
  dsimp only at h1 h2 h3 hd hh ⊢;unfold Sort.grow World.drewN;dsimp only;rw [← hh,h1,h2,h3,show W.drawn+(drawn - W.drawn)=drawn by omega]
section
variable {τ δ:Type} [Inhabited τ] [GT τ δ]
theorem Spec.sortC {P:Program} {f g:FuncId} (w:World) (a0:TL τ) (cs:List Value) (cfD:δ→δ→Int) (hD:SW0 (fun x y=>decide (cfD x y < 0))) (r:List δ) (hp:Rc (fun x y=>decide (cfD x y < 0)) (GT.dat a0)=some r)
  (hk:∀ (w':World) (F:List HP) (x y:τ),Holds w (fps [Af a0]) F w'→Spec P g ([Value.agg (GT.cells x).toArray,Value.agg (GT.cells y).toArray]++cs).toArray w' [] (IsV (.int .i64 (cfD (GT.dat x) (GT.dat y)))))
  (hs:∀ (b off cap:Nat) (d:Array τ),Sort.SWO (Go.Proofs.ltOf fun x y:τ=>cfD (GT.dat x) (GT.dat y))→Go.Proofs.CmpLays P g cs.toArray (fun x:τ=>GT.cells x) (GT.sz τ) (fun x y=>cfD (GT.dat x) (GT.dat y)) b off d.size w→Sort.HoldsK (fun x:τ=>GT.cells x) (GT.sz τ) w b off d→b < w.heap.size→d.size < 4611686018427387904 →
   Calls P f #[.slice (some ⟨b,off,none⟩) d.size cap,.func (.func g) #[] cs.toArray] w fun e w'=>e=.returned (.tuple #[])∧∃ n os,w'=Go.Proofs.sortWorldK (fun x:τ=>GT.cells x) (GT.sz τ) w b off n (Sort.pdq (Go.Proofs.ltOf fun x y:τ=>cfD (GT.dat x) (GT.dat y)) d 0 d.size (Lib.bitLen d.size) true true) os)
  (h0:∀ (p:Option Addr) (cap:Nat),Calls P f #[.slice p 0 cap,.func (.func g) #[] cs.toArray] w fun e w'=>e=.returned (.tuple #[])∧w'=w) :
  Spec P f #[a0.hdr,.func (.func g) #[] cs.toArray] w [Af a0] (fun v M=>∃ y0:TL τ,v=.tuple #[]∧GT.dat y0=r∧M=[Af y0]∧y0.hdr=a0.hdr):=by
 intro hh;refine Spec.sortO w a0 (Go.Proofs.ltOf fun x y:τ=>cfD (GT.dat x) (GT.dat y)) (fun x y=>decide (cfD x y < 0)) (fun x y=>rfl) hD r hp (fun b off cap d hH hb hba hsz=>?_) h0 hh
 have hO:Sort.SWO (Go.Proofs.ltOf fun x y:τ=>cfD (GT.dat x) (GT.dat y)):=swO (fun x y=>rfl) hD
 refine hs b off cap d hO (fun m os dk hdk x y=>?_) hH hb hsz;obtain ⟨bh,hbh⟩:∃ o,w.heap[b]?=some o:=⟨_,Array.getElem?_eq_getElem hb⟩
 have hW:Holds w (fps [Af a0]) [] (Go.Proofs.sortWorldK (fun x:τ=>GT.cells x) (GT.sz τ) w b off m dk os):=by
  rcases Si hh with ⟨e,tail,rfl⟩ | ⟨b',cap',e,els,tail,rfl,_,_,hb',_⟩
  ·exact absurd hba (by show ¬ b∈([]++[]);simp)
  ·unfold Go.Proofs.sortWorldK Sort.putRowK;refine ⟨rfl,⟨rfl,Nat.le_add_right _ _⟩,rfl,by simp [Sort.putRow,Sort.mapBlock,Sort.ahead],fun k hk' hn=>?_,fun x hx=>(by cases hx),by simp [fps],fun k hk'=>by simp [fps] at hk'⟩
   have hkb:b≠k:=fun e2=>hn (by rw [← e2];simp only [Co];exact List.mem_append_left _ hba)
   rw [Sort.heap_grow_old _ _ (by simpa [Sort.putRow,Sort.mapBlock,Sort.ahead] using hk')];simp [Sort.putRow,Sort.mapBlock,Sort.ahead,Array.getElem?_modify,hkb]
 have hc:=hk _ [] x y hW
 have h0':Holds (Go.Proofs.sortWorldK (fun x:τ=>GT.cells x) (GT.sz τ) w b off m dk os) (fps []) [] (Go.Proofs.sortWorldK (fun x:τ=>GT.cells x) (GT.sz τ) w b off m dk os):=⟨rfl,⟨rfl,Nat.le_refl _⟩,rfl,Nat.le_refl _,fun _ _ _=>rfl,fun x hx=>(by cases hx),by simp [fps],fun k hk=>by simp [fps] at hk⟩
 have hargs:(([Value.agg (GT.cells x).toArray,Value.agg (GT.cells y).toArray]++cs:List Value)).toArray=#[Value.agg (GT.cells x).toArray,Value.agg (GT.cells y).toArray]++cs.toArray:=by simp
 rw [← hargs];refine (hc h0').mono fun e w' ⟨v,M',h1,h2,h3⟩=>?_;obtain ⟨h4,_⟩:=h2;subst h4;exact ⟨h1,gL h3⟩
open Classical in
noncomputable def HQ {δ:Type} (l:List δ) (f:δ→δ→Option Int):Option (List δ):=if (∀ x y,∃ v,f x y=some v)∧SW0 (fun x y=>decide ((f x y).getD 0 < 0)) then Rc (fun x y=>decide ((f x y).getD 0 < 0)) l else none
theorem Spec.sortN {P:Program} {f g:FuncId} (w:World) (a0:TL τ) (cs:List Value) (a1:δ→δ→Option Int) (r:List δ) (hp:HQ (GT.dat a0) a1=some r)
  (hk:∀ (w':World) (F:List HP) (x y:τ) (v:Int),Holds w (fps [Af a0]) F w'→a1 (GT.dat x) (GT.dat y)=some v→Spec P g ([Value.agg (GT.cells x).toArray,Value.agg (GT.cells y).toArray]++cs).toArray w' [] (IsV (.int .i64 v)))
  (hs:∀ (b off cap:Nat) (d:Array τ),Sort.SWO (Go.Proofs.ltOf fun x y:τ=>(a1 (GT.dat x) (GT.dat y)).getD 0)→Go.Proofs.CmpLays P g cs.toArray (fun x:τ=>GT.cells x) (GT.sz τ) (fun x y=>(a1 (GT.dat x) (GT.dat y)).getD 0) b off d.size w→Sort.HoldsK (fun x:τ=>GT.cells x) (GT.sz τ) w b off d→b < w.heap.size→d.size < 4611686018427387904 →
   Calls P f #[.slice (some ⟨b,off,none⟩) d.size cap,.func (.func g) #[] cs.toArray] w fun e w'=>e=.returned (.tuple #[])∧∃ n os,w'=Go.Proofs.sortWorldK (fun x:τ=>GT.cells x) (GT.sz τ) w b off n (Sort.pdq (Go.Proofs.ltOf fun x y:τ=>(a1 (GT.dat x) (GT.dat y)).getD 0) d 0 d.size (Lib.bitLen d.size) true true) os)
  (h0:∀ (p:Option Addr) (cap:Nat),Calls P f #[.slice p 0 cap,.func (.func g) #[] cs.toArray] w fun e w'=>e=.returned (.tuple #[])∧w'=w) :
  Spec P f #[a0.hdr,.func (.func g) #[] cs.toArray] w [Af a0] (fun v M=>∃ y0:TL τ,v=.tuple #[]∧GT.dat y0=r∧M=[Af y0]∧y0.hdr=a0.hdr):=by
 unfold HQ at hp
 split at hp
 ·rename_i hc
  refine Spec.sortC w a0 cs (fun x y=>(a1 x y).getD 0) hc.2 r hp (fun w' F x y hF=>?_) hs h0;obtain ⟨v,hv⟩:=hc.1 (GT.dat x) (GT.dat y);rw [hv];exact hk w' F x y v hF hv
 ·cases hp
end
end Go.Proofs.SL
