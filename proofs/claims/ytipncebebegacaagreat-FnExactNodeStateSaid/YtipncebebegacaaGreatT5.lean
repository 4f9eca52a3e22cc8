/- The texts of the proof, part 5: the base, walks of functions, plain Lean. -/
import Derived.Test.YtipncebebegacaaGreatT4
namespace Go.Proofs.SL
open Go
variable {Γ:Cx} {l:Envl} {M M' M1 M2 F:List HP} {Q:Post} {K:Kont} {w0 w:World} {S0:List Nat}
variable {rest:List Oper} {d:Nat} {ty:TypeId} {pos:String} {af:Array Edge}
def appP {δ:Type} (a b:List δ):Option (List δ):=if a.length+b.length≤4294967296 then some (a++b) else none
theorem appP_some {δ:Type} {a b r:List δ} (h:appP a b=some r):a.length+b.length≤4294967296∧r=a++b:=by
 unfold appP at h
 split at h
 ·cases h;exact ⟨by assumption,rfl⟩
 ·cases h
def catP (a b:ByteArray):Option ByteArray:=if a.size+b.size≤9223372036854775807 then some (a++b) else none
theorem catP_some {a b r:ByteArray} (h:catP a b=some r):a.size+b.size≤9223372036854775807∧a++b=r:=by
 unfold catP at h
 split at h
 ·cases h;exact ⟨by assumption,rfl⟩
 ·cases h
theorem bv_saddP {P:Program} {T:TypeId} {x y:Operand} {s t r:ByteArray} (h:catP s t=some r):BinV P .add T x y (.string s) (.string t) (.string r):=by
 obtain ⟨h1,rfl⟩:=catP_some h
 exact bv_sadd h1
theorem bv_sgtr {P:Program} {T:TypeId} {x y:Operand} {s t:ByteArray}:BinV P .gtr T x y (.string s) (.string t) (.bool (!sLt s t&&!decide (s=t))):=fun w=>by simp [eqGuard,binOp,Op.stringOp,sLt,str_eq]
theorem bv_sleq {P:Program} {T:TypeId} {x y:Operand} {s t:ByteArray}:BinV P .leq T x y (.string s) (.string t) (.bool (sLt s t||decide (s=t))):=fun w=>by simp [eqGuard,binOp,Op.stringOp,sLt,str_eq]
class FlatT (τ:Type) {δ:outParam Type} [GT τ δ]:Prop where
 flat:∀ t:τ,Flat t
instance:FlatT Int:=⟨fun _=>flat_int trivial⟩
instance:FlatT Bool:=⟨fun b=>flat_bool b⟩
instance:FlatT UInt8:=⟨fun b=>flat_u8 b⟩
instance:FlatT ByteArray:=⟨fun _=>flat_str trivial⟩
instance {α β δ ε:Type} [GT α δ] [GT β ε] [FlatT α] [FlatT β]:FlatT (α×β):=⟨fun t=>flat_pair (FlatT.flat t.1) (FlatT.flat t.2)⟩
section
variable {τ δ:Type} [GT τ δ]
theorem L_app1 {s x:Operand} {T e sz by_ c b:Nat} {z:List Value} {X:TL τ} {T':TypeId} (y:τ) {r:List δ} (hn:Nat.blt d Γ.n=true)
  (hs:ev l s=some X.hdr) (hx:ev l x=some (.slice (some ⟨b,0,none⟩) 1 c)) (ht:elOf Γ.P T=some (e,sz,by_,z)) (hsz:GT.sz τ=sz) (hz:z.length=sz)
  (hp:Pick (treeH X) M M1) (hsrc:blk b (GT.cells y) T'∈M) (hy:Pick (treeH y) M1 M2)
  (hr:appP (GT.dat X) [GT.dat y]=some r) (hb:by_≤32768)
  (hk:∀ X':TL τ,GT.dat X'=r→L Γ rest ((d,X'.hdr)::l) (treeH X'::M2) K) :
  L Γ ({ dst:=some d,op:=.call { callee:=.builtin .append,args:=#[s,x],argTypes:=#[T,T] },type:=ty,pos,after:=af,guard:=none }::rest) l M K:=by
 obtain ⟨h1,rfl⟩:=appP_some hr
 refine L_appA (ys:=[y]) hn hs hx ht hsz hz hp rfl (fun w hw j v hv=>?_) (fun w R h=>elsT_one (h.perm (hy.perm.append_right R))) (by simpa [dat_els] using h1) hb
  (fun X' h=>hk X' (by rw [dat_els,h,List.map_append,dat_els];rfl))
 rw [addr_add]
 exact RdC.blk (Γ:=Γ) hsrc w hw j v (by simpa [rowCells] using hv)
theorem L_app1F [FlatT τ] {s x:Operand} {T e sz by_ c b:Nat} {z:List Value} {X:TL τ} {T':TypeId} (y:τ) {r:List δ} (hn:Nat.blt d Γ.n=true)
  (hs:ev l s=some X.hdr) (hx:ev l x=some (.slice (some ⟨b,0,none⟩) 1 c)) (ht:elOf Γ.P T=some (e,sz,by_,z)) (hsz:GT.sz τ=sz) (hz:z.length=sz)
  (hp:Pick (treeH X) M M1) (hsrc:blk b (GT.cells y) T'∈M)
  (hr:appP (GT.dat X) [GT.dat y]=some r) (hb:by_≤32768)
  (hk:∀ X':TL τ,GT.dat X'=r→L Γ rest ((d,X'.hdr)::l) (treeH X'::M1) K) :
  L Γ ({ dst:=some d,op:=.call { callee:=.builtin .append,args:=#[s,x],argTypes:=#[T,T] },type:=ty,pos,after:=af,guard:=none }::rest) l M K:=by
 obtain ⟨h1,rfl⟩:=appP_some hr
 refine L_appA (ys:=[y]) hn hs hx ht hsz hz hp rfl (fun w hw j v hv=>?_) (fun w R h=>elsT_flat h fun x _=>FlatT.flat x) (by simpa [dat_els] using h1) hb
  (fun X' h=>hk X' (by rw [dat_els,h,List.map_append,dat_els];rfl))
 rw [addr_add]
 exact RdC.blk (Γ:=Γ) hsrc w hw j v (by simpa [rowCells] using hv)
theorem L_appT [FlatT τ] {s x:Operand} {T e sz by_:Nat} {z:List Value} {X Y:TL τ} {r:List δ} (hn:Nat.blt d Γ.n=true)
  (hs:ev l s=some X.hdr) (hx:ev l x=some Y.hdr) (ht:elOf Γ.P T=some (e,sz,by_,z)) (hsz:GT.sz τ=sz) (hz:z.length=sz)
  (hp:Pick (treeH X) M M1) (hsrc:RdT Γ M Y) (hr:appP (GT.dat X) (GT.dat Y)=some r) (hb:by_≤32768)
  (hk:∀ X':TL τ,GT.dat X'=r→L Γ rest ((d,X'.hdr)::l) (treeH X'::M1) K) :
  L Γ ({ dst:=some d,op:=.call { callee:=.builtin .append,args:=#[s,x],argTypes:=#[T,T] },type:=ty,pos,after:=af,guard:=none }::rest) l M K:=by
 obtain ⟨h1,rfl⟩:=appP_some hr
 simp only [dat_els,List.length_map] at h1
 obtain ⟨a2,c2,e2,x2,tl2⟩:=Y
 cases a2 with
 | some a2 =>
  obtain ⟨b,o,sp⟩:=a2
  refine L_appA (ys:=x2) hn hs hx ht hsz hz hp rfl (fun w hw j v hv=>?_) (fun w R h=>elsT_flat h fun x _=>FlatT.flat x) h1 hb
   (fun X' h=>hk X' (by rw [dat_els,h,List.map_append];rfl))
  have h2:=(hsrc w hw).2.2.2.2 _ rfl
  have hne:x2≠[]:=fun e=>by subst e;simp [rowCells] at hv
  have h3:sp=none:=h2.1 hne
  subst h3
  rw [addr_add];exact (h2.2 j v hv).1
 | none =>
  intro ops a w Q ha hw
  have h2:x2=[]:=(hsrc w hw.sees).2.2.2.1 rfl
  subst h2
  have hk':=hk X (by rw [dat_els];show _=_++[].map GT.dat;simp)
  have hr:GT.ow w X:=(hw.perm hp.perm).prs _ (List.mem_cons_self ..)
  refine L_step rfl rfl (Nat.le_of_ble_eq_true hn) (fun a w ha hw=>⟨w,?_,hw.perm hp.perm⟩) hk' ops a w Q ha hw
  have:=append_none (P:=Γ.P) (w:=w) (a:=X.a) (n:=X.els.length) (c:=X.cap) (c2:=c2) ht hr.1 ty
  have h5:(Builtin.append_ #[T,T] ty #[X.hdr,.slice none 0 c2]).run Γ.P w=.ok X.hdr w:=this
  have h6:=ha.eval hx
  simp only [TL.hdr,List.length_nil] at h6
  generalize X.hdr=uu at *
  simp [execOp,resolve,invoke,builtin,ha.eval hs,h6,h5]
theorem addF [FlatT τ] (t:τ) (h:Holds w0 S0 M w):Holds w0 S0 (treeH t::M) w:=h.addFlat (FlatT.flat t)
def slc (X:TL τ) (lo hi:Nat):TL τ:=⟨if X.cap=lo then X.a else X.a.map (·.add (lo*GT.sz τ)),X.cap - lo,X.e,(X.els.drop lo).take (hi - lo),[]⟩
theorem slc_rd {X:TL τ} {lo hi:Nat} (h:GT.rd w0 S0 X) (h1:lo≤hi) (h2:hi≤X.els.length):GT.rd w0 S0 (slc X lo hi):=by
 obtain ⟨r1,r2,r3,r4,r5⟩:=h
 have hsub:∀ x,x∈(X.els.drop lo).take (hi - lo)→x∈X.els:=fun x hx=>List.mem_of_mem_drop (List.mem_of_mem_take hx)
 refine ⟨?_,?_,fun x hx=>r3 x (hsub x hx),fun ha=>?_,fun a ha=>?_⟩
 ·show ((X.els.drop lo).take (hi - lo)).length≤X.cap - lo
  simp;omega
 ·show X.cap - lo≤maxLen
  omega
 ·have ha':(if X.cap=lo then X.a else X.a.map (·.add (lo*GT.sz τ)))=none:=ha
  have:X.a=none:=by split at ha'<;>simpa using ha'
  show (X.els.drop lo).take (hi - lo)=[]
  rw [r4 this];simp
 ·have ha':(if X.cap=lo then X.a else X.a.map (·.add (lo*GT.sz τ)))=some a:=ha
  by_cases hcl:X.cap=lo
  ·have he:(X.els.drop lo).take (hi - lo)=[]:=by rw [List.drop_of_length_le (by omega)];simp
   refine ⟨fun hne=>(hne he).elim,fun j v hv=>?_⟩
   have hv':(rowCells ((X.els.drop lo).take (hi - lo)))[j]?=some v:=hv
   rw [he] at hv'
   simp [rowCells] at hv'
  ·rw [if_neg hcl] at ha'
   obtain ⟨a0,h3,h4⟩:=Option.map_eq_some_iff.1 ha'
   obtain ⟨r6,r7⟩:=r5 a0 h3
   have hspot:(X.els.drop lo).take (hi - lo)≠[]→a0.spot=none:=fun hne=>r6 (fun e=>hne (by rw [e];simp))
   have hadd:a0.spot=none→a0.add (lo*GT.sz τ)=⟨a0.block,a0.off+lo*GT.sz τ,none⟩:=fun hs=>by
    obtain ⟨b,o,s⟩:=a0
    have hs':s=none:=hs
    subst hs'
    rw [addr_add]
   refine ⟨fun hne=>?_,fun j v hv=>?_⟩
   ·rw [← h4,hadd (hspot hne)]
   ·have hv':(rowCells ((X.els.drop lo).take (hi - lo)))[j]?=some v:=hv
    have hne:(X.els.drop lo).take (hi - lo)≠[]:=fun e=>by rw [e] at hv';simp [rowCells] at hv'
    rw [← h4,hadd (hspot hne)]
    have hrow:rowCells X.els=rowCells (X.els.take lo)++(rowCells ((X.els.drop lo).take (hi - lo))++rowCells ((X.els.drop lo).drop (hi - lo))):=by
     rw [← rowCells_append,← rowCells_append,List.take_append_drop,List.take_append_drop]
    have hl:(rowCells (X.els.take lo)).length=lo*GT.sz τ:=by rw [length_rowCells,List.length_take,Nat.min_eq_left (by omega)]
    have:=r7 (lo*GT.sz τ+j) v (by
     rw [hrow,List.getElem?_append_right (by omega),hl,Nat.add_sub_cancel_left,List.getElem?_append_left (List.getElem?_eq_some_iff.1 hv').1];exact hv')
    rw [show a0.off+lo*GT.sz τ+j=a0.off+(lo*GT.sz τ+j) by omega];exact this
theorem RdT.slc {X:TL τ} {lo hi:Nat} (h:RdT Γ M X) (h1:lo≤hi) (h2:hi≤X.els.length):RdT Γ M (slc X lo hi):=fun w hw=>slc_rd (h w hw) h1 h2
def slcP {δ:Type} (l:List δ) (a b:Int):Option (List δ):=if 0≤a∧a≤b∧b≤l.length then some ((l.drop a.toNat).take (b.toNat - a.toNat)) else none
def optI (l:Envl) (x:Option Operand) (n:Int):Option Int:=match x with
 | none=>some n
 | some o=>match ev l o with | some (.int _ i)=>some i | _=>none
theorem optI_some {o:Operand} {n i:Int} (h:optI l (some o) n=some i):∃ k,ev l o=some (.int k i):=by
 unfold optI at h
 dsimp only at h
 split at h
 ·cases h;exact ⟨_,by assumption⟩
 ·cases h
theorem run_sliceBound {P:Program} {k:IntKind} {i:Int} {y:Nat} {code:BoundsCode} (h0:0≤i) (h1:i≤(y:Int)) (w:World):(Instr.sliceBound (.int k i) y code).run P w=.ok i.toNat w:=by
 simp [Instr.sliceBound,asIntOf,h0,h1]
theorem L_slc {x:Operand} {lo hi:Option Operand} {T e sz by_:Nat} {z:List Value} {X:TL τ} {a b:Int} {r:List δ} (hn:Nat.blt d Γ.n=true) (hx:ev l x=some X.hdr) (hlo:optI l lo 0=some a) (hhi:optI l hi ((GT.dat X).length:Int)=some b)
  (ht:elOf Γ.P T=some (e,sz,by_,z)) (hsz:GT.sz τ=sz) (hR:RdT Γ M X) (hr:slcP (GT.dat X) a b=some r)
  (hk:∀ X':TL τ,GT.dat X'=r→(∀ w S,GT.rd w S X→GT.rd w S X')→L Γ rest ((d,X'.hdr)::l) M K) :
  L Γ ({ dst:=some d,op:=.slice T x lo hi none,type:=ty,pos:=pos,after:=af,guard:=none }::rest) l M K:=by
 unfold slcP at hr
 split at hr
 ·rename_i hb
  cases hr
  rw [dat_els,List.length_map] at hb hhi
  obtain ⟨h0,h1,h2⟩:=hb
  have h1':a.toNat≤b.toNat:=by omega
  have h2':b.toNat≤X.els.length:=by omega
  refine L_pure hn (v:=(slc X a.toNat b.toNat).hdr) (fun a' w ha hw=>?_) (hk (slc X a.toNat b.toNat) (by rw [dat_els,dat_els];simp [slc,List.map_take,List.map_drop]) (fun w S h=>slc_rd h h1' h2'))
  have hcap:X.els.length≤X.cap:=(hR w hw.sees).1
  unfold elOf at ht
  split at ht<;>(try cases ht)
  rename_i e' het
  split at ht<;>(try cases ht)
  rename_i i' hi'
  split at ht<;>cases ht
  have hlen:((X.els.drop a.toNat).take (b.toNat - a.toNat)).length=b.toNat - a.toNat:=by simp;omega
  have hv:(slc X a.toNat b.toNat).hdr=.slice (if X.cap=a.toNat then X.a else X.a.map (·.add (a.toNat*i'.size))) (b.toNat - a.toNat) (X.cap - a.toNat):=by
   show Value.slice _ ((X.els.drop a.toNat).take (b.toNat - a.toNat)).length _=_
   rw [hlen];simp only [slc,hsz]
  rw [hv]
  have e1:a'.eval x=.slice X.a X.els.length X.cap:=ha.eval hx
  cases lo with
  | none =>
   cases hlo
   cases hi with
   | none =>
    cases hhi
    simp only [execOp,Option.map_none,e1,Instr.sliceAt,Instr.slice,underlying,Sem.run_bind,run_program,Result.andThen_ok,het,Instr.sliceBounds,Sem.run_pure,sizeOf,typeInfo,hi']
    simp
   | some o =>
    obtain ⟨k,h5⟩:=optI_some hhi
    have e2:=ha.eval h5
    have e4:=fun w=>run_sliceBound (P:=Γ.P) (k:=k) (code:=.sliceAcap) (show 0≤b by omega) (show b≤((X.cap:Nat):Int) by omega) w
    simp [execOp,e1,e2,Instr.sliceAt,Instr.slice,underlying,het,Instr.sliceBounds,sizeOf,typeInfo,hi',e4]
  | some o1 =>
   obtain ⟨k1,h6⟩:=optI_some hlo
   have e3:=ha.eval h6
   cases hi with
   | none =>
    cases hhi
    have e4:=fun w=>run_sliceBound (P:=Γ.P) (k:=k1) (code:=.sliceB) h0 (show a≤((X.els.length:Nat):Int) by omega) w
    simp [execOp,e1,e3,Instr.sliceAt,Instr.slice,underlying,het,Instr.sliceBounds,sizeOf,typeInfo,hi',e4]
   | some o =>
    obtain ⟨k,h5⟩:=optI_some hhi
    have e2:=ha.eval h5
    have e4:=fun w=>run_sliceBound (P:=Γ.P) (k:=k) (code:=.sliceAcap) (show 0≤b by omega) (show b≤((X.cap:Nat):Int) by omega) w
    have e5:=fun w=>run_sliceBound (P:=Γ.P) (k:=k1) (code:=.sliceB) h0 (show a≤((b.toNat:Nat):Int) by omega) w
    simp [execOp,e1,e2,e3,Instr.sliceAt,Instr.slice,underlying,het,Instr.sliceBounds,sizeOf,typeInfo,hi',e4,e5]
 ·cases hr
end
end Go.Proofs.SL
namespace Go.Proofs.SL
open Go
variable {Γ:Cx} {l:Envl} {M M' M1 M2 F:List HP} {Q:Post} {K:Kont} {w0 w:World} {S0:List Nat}
variable {rest:List Oper} {d:Nat} {ty:TypeId} {pos:String} {af:Array Edge}
variable {ops:Array Oper} {Msh pool:List HP} {E:Fl} {rs:List (Option Nat×Rel)} {cs0:List Nat} {KD:List (Option Nat×Rel)→List Nat→List HP→Prop} {gd:Option (Nat×Bool)}
def optD (E:Fl) (x:Option Operand) (c:Prop) (n i:Int):Prop:=match x with
 | none=>n=i
 | some o=>∃ k,OpV E o c (.int k i)
theorem optD.none {c:Prop} {n:Int}:optD E Option.none c n n:=rfl
theorem optD.some {o:Operand} {c:Prop} {n i:Int} {k:IntKind} (h:OpV E o c (.int k i)):optD E (Option.some o) c n i:=⟨k,h⟩
section
variable {τ δ:Type} [GT τ δ]
def holeH (X:TL τ) (i:Nat) (cs:List Value):HP:=⟨[X.g]++(X.els.eraseIdx i).flatMap GT.fp,
 fun w=>cs.length=GT.sz τ∧i < X.els.length∧X.els.length≤X.cap∧X.cap≤maxLen∧X.a=some ⟨X.g,0,none⟩∧(∀ x,x∈X.els.eraseIdx i→GT.ow w x) ∧
  w.heap[X.g]?=some (.cells (rowCells (X.els.take i)++(cs++(rowCells (X.els.drop (i+1))++X.tail))).toArray X.e (0,0))∧X.els.length*GT.sz τ+X.tail.length=X.cap*GT.sz τ,
 fun w w' h hp=>⟨hp.1,hp.2.1,hp.2.2.1,hp.2.2.2.1,hp.2.2.2.2.1,fun x hx=>GT.ow_st (fun k hk=>h k (List.mem_append_right _ (List.mem_flatMap.2 ⟨x,hx,hk⟩))) (hp.2.2.2.2.2.1 x hx),by
  rw [h X.g (by simp)];exact hp.2.2.2.2.2.2.1,hp.2.2.2.2.2.2.2⟩⟩
theorem row_parts (xs:List τ) {i:Nat} {x:τ} (hi:xs[i]?=some x):rowCells xs=rowCells (xs.take i)++(GT.cells x++rowCells (xs.drop (i+1))):=by
 obtain ⟨hlt,hx⟩:=List.getElem?_eq_some_iff.1 hi
 have h1:xs=xs.take i++xs[i]::xs.drop (i+1):=by rw [← List.drop_eq_getElem_cons hlt,List.take_append_drop]
 conv=>lhs;rw [h1]
 rw [rowCells_append,rowCells_cons,hx]
theorem perm_el (xs:List τ) {i:Nat} {x:τ} (hi:xs[i]?=some x):List.Perm xs (x::xs.eraseIdx i):=by
 obtain ⟨hlt,hx⟩:=List.getElem?_eq_some_iff.1 hi
 rw [List.eraseIdx_eq_take_drop_succ]
 have:xs=xs.take i++x::xs.drop (i+1):=by rw [← hx,← List.drop_eq_getElem_cons hlt,List.take_append_drop]
 conv=>lhs;rw [this]
 exact List.perm_middle
theorem hole_open {X:TL τ} {i:Nat} {x:τ} (hi:X.els[i]?=some x) (p:Pick (treeH X) M M1) (h:Holds w0 S0 M w):Holds w0 S0 (treeH x::holeH X i (GT.cells x)::M1) w:=by
 have h:=h.perm p.perm
 have ht:GT.ow w X:=h.prs _ (List.mem_cons_self ..)
 have hlt:=(List.getElem?_eq_some_iff.1 hi).1
 obtain ⟨r1,r2,r3,r4,r5⟩:=ht
 obtain ⟨g,ha⟩:=(ow_facts (w:=w) (L:=X) ⟨r1,r2,r3,r4,r5⟩).2 (by omega)
 have hg:X.g=g:=by unfold TL.g;rw [ha];rfl
 subst hg
 obtain ⟨h1,h2,h3,h4⟩:=r5 _ ha
 refine h.reFp ?_ fun y hy=>?_
 ·simp only [fps_cons]
  show List.Perm (((match X.a with | none=>[] | some a=>[a.block])++X.els.flatMap GT.fp)++fps M1) (GT.fp x++(([X.g]++(X.els.eraseIdx i).flatMap GT.fp)++fps M1))
  rw [ha]
  have hp:=(perm_el X.els hi).flatMap_right GT.fp
  rw [List.flatMap_cons] at hp
  show List.Perm (([X.g]++X.els.flatMap GT.fp)++fps M1) _
  rw [← List.append_assoc,← List.append_assoc]
  refine List.Perm.append_right _ ?_
  refine (hp.append_left [X.g]).trans ?_
  rw [← List.append_assoc]
  exact List.perm_append_comm.append_right _
 ·rcases List.mem_cons.1 hy with rfl | hy
  ·exact r3 x (List.mem_of_getElem? hi)
  rcases List.mem_cons.1 hy with rfl | hy
  ·refine ⟨GT.len x,hlt,r1,r2,ha,fun z hz=>r3 z ((perm_el X.els hi).mem_iff.2 (List.mem_cons_of_mem _ hz)),?_,h4⟩
   rw [row_parts X.els hi] at h3
   simpa [List.append_assoc] using h3
  ·exact h.prs _ (List.mem_cons_of_mem _ hy)
theorem hole_close {X:TL τ} {i:Nat} {x':τ} {cs:List Value} (hc:cs=GT.cells x') (p:Pick (holeH X i cs) M M1) (q:Pick (treeH x') M1 M2) (h:Holds w0 S0 M w) :
  Holds w0 S0 (treeH ({ X with els:=X.els.set i x' }:TL τ)::M2) w:=by
 subst hc
 have h:=h.perm (p.perm.trans (q.perm.cons _))
 obtain ⟨r1,r2,r3,r4,r5,r6,r7,r8⟩:=h.prs (holeH X i (GT.cells x')) (List.mem_cons_self ..)
 have hx:=h.prs (treeH x') (List.mem_cons_of_mem _ (List.mem_cons_self ..))
 have hi:(X.els.set i x')[i]?=some x':=by rw [List.getElem?_set_self];exact r2
 have he:(X.els.set i x').eraseIdx i=X.els.eraseIdx i:=by
  rw [List.eraseIdx_eq_take_drop_succ,List.eraseIdx_eq_take_drop_succ,List.take_set_of_le (Nat.le_refl _),List.drop_set_of_lt (Nat.lt_succ_self _)]
 refine h.reFp ?_ fun y hy=>?_
 ·simp only [fps_cons]
  show List.Perm (([X.g]++(X.els.eraseIdx i).flatMap GT.fp)++(GT.fp x'++fps M2)) (((match X.a with | none=>[] | some a=>[a.block])++(X.els.set i x').flatMap GT.fp)++fps M2)
  rw [r5]
  have hp:=(perm_el _ hi).flatMap_right GT.fp
  rw [List.flatMap_cons,he] at hp
  show List.Perm _ (([X.g]++(X.els.set i x').flatMap GT.fp)++fps M2)
  rw [← List.append_assoc]
  refine List.Perm.append_right _ ?_
  rw [List.append_assoc]
  exact ((List.perm_append_comm).trans hp.symm).append_left [X.g]
 ·rcases List.mem_cons.1 hy with rfl | hy
  ·refine ⟨by simpa using r3,r4,fun z hz=>?_,fun ha=>?_,fun a ha=>?_⟩
   ·rcases List.mem_cons.1 ((perm_el _ hi).mem_iff.1 hz) with rfl | hz
    ·exact hx
    ·rw [he] at hz;exact r6 z hz
   ·have ha':X.a=none:=ha
    rw [r5] at ha';cases ha'
   ·have ha':X.a=some a:=ha
    rw [r5] at ha';cases ha'
    refine ⟨rfl,rfl,?_,by simpa using r8⟩
    rw [row_parts _ hi,List.take_set_of_le (Nat.le_refl _),List.drop_set_of_lt (Nat.lt_succ_self _)]
    simpa [List.append_assoc] using r7
  ·exact h.prs _ (List.mem_cons_of_mem _ (List.mem_cons_of_mem _ hy))
theorem dat_set (X:TL τ) (i:Nat) (x':τ):GT.dat ({ X with els:=X.els.set i x' }:TL τ)=(GT.dat X).set i (GT.dat x'):=by
 rw [dat_els,dat_els,List.map_set]
theorem RdC.hole {X:TL τ} {i:Nat} {cs:List Value} (h:holeH X i cs∈M):RdC Γ M X.g (X.o+i*GT.sz τ) cs:=fun w hw j v hv=>by
 obtain ⟨r1,r2,r3,r4,r5,r6,r7,r8⟩:=hw.prs _ h
 have ho:X.o=0:=by unfold TL.o;rw [r5];rfl
 have hj:=(List.getElem?_eq_some_iff.1 hv).1
 have hl:(rowCells (X.els.take i)).length=i*GT.sz τ:=by rw [length_rowCells,List.length_take,Nat.min_eq_left (by omega)]
 rw [ho,Nat.zero_add,cell_of_row _ _ _ _ _ _ r7]
 simp only [List.getElem?_toArray]
 rw [List.getElem?_append_right (by omega),hl,Nat.add_sub_cancel_left,List.getElem?_append_left hj]
 exact hv
theorem L_stH {x y:Operand} {T sz fo n:Nat} {v:Value} {X:TL τ} {i:Nat} {cs:List Value} (hx:ev l x=some (.pointer (some ⟨X.g,X.o+i*sz+fo,none⟩))) (hy:ev l y=some v)
  (hp:Pick (holeH X i cs) M M1) (hsz:GT.sz τ=sz) (hT:aggOf Γ.P T=some n∨(oneOf Γ.P T=true∧n=1)) (hv:v.cells.toList.length=n) (h1:∀ u,u∈v.cells.toList→u.oneCell'=true) (hfit:fo+n≤cs.length)
  (hk:L Γ rest l (holeH X i (cs.take fo++v.cells.toList++cs.drop (fo+n))::M1) K) :
  L Γ ({ dst:=none,op:=.store T x y,type:=ty,pos,after:=af,guard:=none }::rest) l M K :=
 L_skip rfl rfl (fun a w ha hw=>by
  subst hsz;subst hv
  have hw1:=hw.perm hp.perm
  obtain ⟨r1,r2,r3,r4,r5,r6,r7,r8⟩:=hw1.prs (holeH X i cs) (List.mem_cons_self ..)
  have ho:X.o=0:=by unfold TL.o;rw [r5];rfl
  have hl:(rowCells (X.els.take i)).length=i*GT.sz τ:=by rw [length_rowCells,List.length_take,Nat.min_eq_left (by omega)]
  have hs:=run_store_blk (P:=Γ.P) (fo:=i*GT.sz τ+fo) (vs:=v.cells.toList) (ty:=0) r7 (by
   simp only [List.length_append,hl];omega) h1
  have e:(rowCells (X.els.take i)++(cs++(rowCells (X.els.drop (i+1))++X.tail))).take (i*GT.sz τ+fo)++v.cells.toList++(rowCells (X.els.take i)++(cs++(rowCells (X.els.drop (i+1))++X.tail))).drop (i*GT.sz τ+fo+v.cells.toList.length)
   =rowCells (X.els.take i)++((cs.take fo++v.cells.toList++cs.drop (fo+v.cells.toList.length))++(rowCells (X.els.drop (i+1))++X.tail)):=by
   generalize rowCells (X.els.take i)=A at *
   generalize (rowCells (X.els.drop (i+1))++X.tail)=B at *
   rw [← hl]
   rw [List.take_append,List.take_of_length_le (by omega),Nat.add_sub_cancel_left,List.take_append_of_le_length (by omega)]
   rw [show A.length+fo+v.cells.toList.length=A.length+(fo+v.cells.toList.length) by omega,List.drop_append,List.drop_of_length_le (by omega),List.nil_append,Nat.add_sub_cancel_left,List.drop_append_of_le_length (by omega)]
   simp only [List.append_assoc]
  rw [e] at hs
  refine ⟨w.setRow X.g (rowCells (X.els.take i)++((cs.take fo++v.cells.toList++cs.drop (fo+v.cells.toList.length))++(rowCells (X.els.drop (i+1))++X.tail))).toArray,?_,?_⟩
  ·have hx':=ha.eval hx
   rw [ho,Nat.zero_add] at hx'
   rcases hT with hT | ⟨hT,hn1⟩
   ·have hcs:v.cells.size=v.cells.toList.length:=by simp
    simp [execOp,hx',ha.eval hy,Instr.storeAt,Instr.sureAddr,storeVar,run_isAgg_agg hT,hs]
   ·have hcs:v.cells.size=1:=by rw [← hn1];simp
    simp [execOp,hx',ha.eval hy,Instr.storeAt,Instr.sureAddr,storeVar,run_isAgg_one hT,hcs,hs]
  ·refine Holds.swap hw1 rfl ⟨rfl,Nat.le_refl _⟩ rfl (by simp) (fun k hk hn=>?_) (fun k hk=>?_) ?_ ?_
   ·exact setRow_other _ _ _ _ (fun e=>hn (by simp [holeH,e]))
   ·have hk':k∈(holeH X i cs).fp:=hk
    refine ⟨.inl hk',?_⟩
    rw [size_setRow]
    exact (hw1.rng k (by rw [fps_cons];exact List.mem_append_left _ hk')).2
   ·have:=hw1.nodup
    rw [fps_cons] at this
    exact (List.nodup_append.1 this).1
   ·have hdis:∀ k,k∈(X.els.eraseIdx i).flatMap GT.fp→k≠X.g:=fun k hk e=>by
     have:=hw1.nodup
     rw [fps_cons] at this
     have h2:=(List.nodup_append.1 this).1
     have h3:(X.g::(X.els.eraseIdx i).flatMap GT.fp).Nodup:=h2
     rw [List.nodup_cons] at h3
     exact h3.1 (e ▸ hk)
    refine ⟨?_,r2,r3,r4,r5,fun z hz=>GT.ow_st (fun k hk=>setRow_other _ _ _ _ (fun e=>hdis k (List.mem_flatMap.2 ⟨z,hz,hk⟩) e)) (r6 z hz),setRow_heap _ _ _ _ _ _ r7,r8⟩
    simp only [List.length_append,List.length_take,List.length_drop];omega) hk
theorem L_idxH {x y:Operand} {T e sz by_:Nat} {z:List Value} {k:IntKind} {i:Int} {j:Nat} {cs:List Value} {X:TL τ} {u:τ} (hn:Nat.blt d Γ.n=true) (hx:ev l x=some X.hdr) (hy:ev l y=some (.int k i))
  (ht:elOf Γ.P T=some (e,sz,by_,z)) (hm:holeH X j cs∈M) (hi:0≤i∧X.els[i.toNat]?=some u) (hk:L Γ rest ((d,.pointer (some ⟨X.g,X.o+i.toNat*sz,none⟩))::l) M K) :
  L Γ ({ dst:=some d,op:=.indexAddr T x y,type:=ty,pos:=pos,after:=af,guard:=none }::rest) l M K :=
 L_pure hn (fun a' w ha hw=>by
  obtain ⟨r1,r2,r3,r4,r5,r6,r7,r8⟩:=hw.prs _ hm
  have ho:X.o=0:=by unfold TL.o;rw [r5];rfl
  have h1:=ha.eval hx
  have h2:X.hdr=.slice (some ⟨X.g,X.o,none⟩) X.els.length X.cap:=by show Value.slice X.a X.els.length X.cap=_;rw [ho,← r5]
  rw [h2] at h1
  simp [execOp,h1,ha.eval hy,run_indexAt ht X.g X.o X.els.length X.cap k i i.toNat (by omega) (List.getElem?_eq_some_iff.1 hi.2).1 w]) hk
end
end Go.Proofs.SL
namespace Go.Proofs.SL
open Go
theorem cells_int (n:Int):GT.cells n=[.int .i64 n]:=rfl
theorem cells_bool (b:Bool):GT.cells b=[.bool b]:=rfl
theorem cells_str (s:ByteArray):GT.cells s=[.string s]:=rfl
theorem cells_TL {τ δ:Type} [GT τ δ] (X:TL τ):GT.cells X=[X.hdr]:=rfl
theorem gnot {b:Bool} (h:b=false):(!b)=true:=by rw [h];rfl
theorem gand {a b:Bool} (h:a=true) (h2:b=true):(a&&b)=true:=by rw [h,h2];rfl
theorem allOne {cs:List Value} (h:cs.all Value.oneCell'=true):∀ v,v∈cs→v.oneCell'=true:=List.all_eq_true.1 h
variable {Γ:Cx} {l:Envl} {M M' M1 M2 F:List HP} {Q:Post} {K:Kont} {w0 w:World} {S0:List Nat}
variable {rest:List Oper} {d:Nat} {ty:TypeId} {pos:String} {af:Array Edge}
theorem RdT.now {τ δ:Type} [GT τ δ] {t:τ} (h:RdT Γ M t) (hw:Holds Γ.w0 Γ.S0 M w):GT.rd w [] t:=h w hw.sees
theorem RdT.nowS {τ δ:Type} [GT τ δ] {t:τ} (h:RdT Γ M t) (hw:Holds Γ.w0 Γ.S0 F w) (hs:∀ x,x∈M→x∈F):GT.rd w [] t:=h w (hw.seesSub hs)
theorem addNilT {τ δ:Type} [GT τ δ] (e:TypeId) (h:Holds w0 S0 M w):Holds w0 S0 (treeH (TL.nil τ e)::M) w:=h.addFlat (flat_nil e)
theorem L_mk0 (τ:Type) {δ:Type} [GT τ δ] {T e sz by_:Nat} {z:List Value} (hn:Nat.blt d Γ.n=true) (ht:elOf Γ.P T=some (e,sz,by_,z))
  (hk:∀ X:TL τ,GT.dat X=[]→L Γ rest ((d,X.hdr)::l) (treeH X::M) K) :
  L Γ ({ dst:=some d,op:=.buildSlice T 0 #[],type:=ty,pos,after:=af,guard:=none }::rest) l M K :=
 L_buildSlice0 τ hn ht (fun b=>hk ⟨some ⟨b,0,none⟩,0,e,[],[]⟩ rfl)
end Go.Proofs.SL
namespace Go.Proofs.SL
open Go
variable {Γ:Cx} {l:Envl} {M M' M1 M2 F:List HP} {Q:Post} {K:Kont} {w0 w:World} {S0:List Nat}
variable {rest:List Oper} {d:Nat} {ty:TypeId} {pos:String} {af:Array Edge}
variable {ops:Array Oper} {Msh pool pool':List HP} {E:Fl} {rs:List (Option Nat×Rel)} {cs0:List Nat} {KD:List (Option Nat×Rel)→List Nat→List HP→Prop}
def RowV (cs:List Value) (e:TypeId):Rel:=fun v M=>∃ b,v=.slice (some ⟨b,0,none⟩) 1 1∧M=[blk b cs e]
theorem run_bs1 {P:Program} {T e sz by_:Nat} {z:List Value} {v:Value} (ht:elOf P T=some (e,sz,by_,z)) (hz:z.length=sz) (hsz:0 < sz) (hns:sz≤65536) (hv:v.cells.toList.length=sz) (w:World) :
  (Instr.buildSlice T 1 #[(0,v)]).run P w=.ok (.slice (some ⟨w.heap.size,0,none⟩) 1 1) (w.alloc (.cells v.cells.toList.toArray e (0,0))) :=
 run_buildSlice (w:=w) (n:=1) (ps:=[(0,v)]) (cs:=v.cells.toList) ht hz hsz (by omega) (by omega) (by
  simp only [fillL,Nat.zero_mul,Nat.one_mul,Nat.zero_add,hv,Nat.beq_refl,Bool.true_and,List.length_map,List.length_range,List.take_zero,List.nil_append]
  rw [show Nat.ble sz sz=true from Nat.ble_eq_true_of_le (Nat.le_refl _)]
  simp only []
  rw [List.drop_of_length_le (by simp),List.append_nil])
theorem D_bs1 {x:Operand} {T e sz by_:Nat} {z:List Value} {v:Value} (hx:OpV E x True v) (ht:elOf Γ.P T=some (e,sz,by_,z)) (hz:z.length=sz) (hsz:0 < sz) (hns:sz≤65536) (hv:v.cells.toList.length=sz)
  (hk:DV Γ ops Msh pool ((d,RowV v.cells.toList e)::E) ((some d,RowV v.cells.toList e)::rs) cs0 rest KD) :
  DV Γ ops Msh pool E rs cs0 ({ dst:=some d,op:=.buildSlice T 1 #[(0,x)],type:=ty,pos:=pos,after:=af,guard:=none }::rest) KD:=by
 refine DV.mk (RowV v.cells.toList e) [] pool [] (by simp) rfl ?_ (by rw [dropE_nil];exact hk)
 intro a w F Mk _ _ hw hm hfa hcf
 have hMk:Mk=[]:=hcf
 subst hMk
 rw [dropE_nil] at hfa
 simp only [List.nil_append] at hw ⊢
 rw [if_pos (by simp [Region.wanted])]
 have e1:=hx.eval hfa (by simp [Op.operands]) trivial
 have h1:(execOp a.eval { dst:=some d,op:=.buildSlice T 1 #[(0,x)],type:=ty,pos:=pos,after:=af,guard:=none }).run Γ.P w=.ok (.value (.slice (some ⟨w.heap.size,0,none⟩) 1 1)) (w.alloc (.cells v.cells.toList.toArray e (0,0))):=by
  simp only [execOp]
  have:(#[(0,x)]:Array (Nat×Operand)).map (fun (i,x)=>(i,a.eval x))=#[(0,v)]:=by simp [e1]
  rw [this]
  simp [run_bs1 ht hz hsz hns hv]
 rw [h1]
 exact ⟨[blk w.heap.size v.cells.toList e],⟨_,rfl,rfl⟩,Holds.new (show Holds Γ.w0 Γ.S0 F w by simpa using hw) rfl⟩
section
variable {τ δ:Type} [GT τ δ]
def OwnV (r:List δ):Rel:=fun v M=>∃ X:TL τ,v=X.hdr∧GT.dat X=r∧M=[treeH X]
theorem RdC.row {X:TL τ} {j:Nat} {x:τ} (h:rowH X∈M) (hi:X.els[j]?=some x):RdC Γ M X.g (X.o+j*GT.sz τ) (GT.cells x):=fun w hw k v hv=>by
 obtain ⟨r1,r2,r3,r4⟩:=hw.prs _ h
 have hlt:=(List.getElem?_eq_some_iff.1 hi).1
 have hk:k < GT.sz τ:=by rw [← GT.len x];exact (List.getElem?_eq_some_iff.1 hv).1
 cases ha:X.a with
 | none=>have:=(r3 ha).1;rw [this] at hlt;simp at hlt
 | some a =>
  obtain ⟨h1,h2,h3,h4⟩:=r4 a ha
  have hg:X.g=a.block:=by unfold TL.g;rw [ha];rfl
  have ho:X.o=0:=by unfold TL.o;rw [ha];exact h2
  rw [hg,ho,Nat.zero_add,cell_of_row _ _ _ _ _ _ h3]
  simp only [List.getElem?_toArray]
  have hc:=rowCells_get X.els j k x hi hk
  rw [List.getElem?_append_left (by rw [hv] at hc;exact (List.getElem?_eq_some_iff.1 hc).1),hc]
  exact hv
theorem row_adr {X:TL τ} {j:Nat} {u:τ} (h:(rowH X).pr w) (hi:X.els[j]?=some u):X.hdr=.slice (some ⟨X.g,X.o,none⟩) X.els.length X.cap:=by
 obtain ⟨r1,r2,r3,r4⟩:=h
 have hlt:=(List.getElem?_eq_some_iff.1 hi).1
 show Value.slice X.a X.els.length X.cap=_
 cases ha:X.a with
 | none=>have:=(r3 ha).1;rw [this] at hlt;simp at hlt
 | some a =>
  obtain ⟨h1,h2,h3,h4⟩:=r4 a ha
  obtain ⟨b,o,s⟩:=a
  have h1:s=none:=h1
  subst h1
  simp [TL.g,TL.o,ha]
theorem L_idxR {x y:Operand} {T e sz by_:Nat} {z:List Value} {k:IntKind} {i:Int} {X:TL τ} {u:τ} (hn:Nat.blt d Γ.n=true) (hx:ev l x=some X.hdr) (hy:ev l y=some (.int k i))
  (ht:elOf Γ.P T=some (e,sz,by_,z)) (hm:rowH X∈M) (hi:0≤i∧X.els[i.toNat]?=some u) (hk:L Γ rest ((d,.pointer (some ⟨X.g,X.o+i.toNat*sz,none⟩))::l) M K) :
  L Γ ({ dst:=some d,op:=.indexAddr T x y,type:=ty,pos:=pos,after:=af,guard:=none }::rest) l M K :=
 L_pure hn (fun a' w ha hw=>by
  have h1:=ha.eval hx
  rw [row_adr (hw.prs _ hm) hi.2] at h1
  simp [execOp,h1,ha.eval hy,run_indexAt ht X.g X.o X.els.length X.cap k i i.toNat (by omega) (List.getElem?_eq_some_iff.1 hi.2).1 w]) hk
theorem els_next {X:TL τ} {i:Nat} {u:τ} (hi:X.els[i]?=some u) (p:Pick (elsT (X.els.drop i)) M M1) (h:Holds w0 S0 M w):Holds w0 S0 (treeH u::elsT (X.els.drop (i+1))::M1) w:=by
 have h1:=h.perm p.perm
 obtain ⟨hlt,hx⟩:=List.getElem?_eq_some_iff.1 hi
 have he:X.els.drop i=u::X.els.drop (i+1):=by rw [← hx,← List.drop_eq_getElem_cons hlt]
 rw [he] at h1
 refine h1.reFp (List.Perm.of_eq ?_) fun y hy=>?_
 ·simp only [fps_cons]
  show (u::X.els.drop (i+1)).flatMap GT.fp++fps M1=GT.fp u++((X.els.drop (i+1)).flatMap GT.fp++fps M1)
  rw [List.flatMap_cons,List.append_assoc]
 ·have h2:=h1.prs (elsT (u::X.els.drop (i+1))) (List.mem_cons_self ..)
  rcases List.mem_cons.1 hy with rfl | hy
  ·exact h2 u (List.mem_cons_self ..)
  rcases List.mem_cons.1 hy with rfl | hy
  ·exact fun x hx=>h2 x (List.mem_cons_of_mem _ hx)
  ·exact h1.prs _ (List.mem_cons_of_mem _ hy)
theorem els_start {X:TL τ} (p:Pick (treeH X) M M1) (h:Holds w0 S0 M w):Holds w0 S0 (rowH X::elsT (X.els.drop 0)::M1) w:=tree_row (h.perm p.perm)
theorem els_step {X:TL τ} {i:Int} {u:τ} (hi:0≤i∧X.els[i.toNat]?=some u) (hm:rowH X∈M) (p:Pick (elsT (X.els.drop (i.toNat+1))) M M1) (h:Holds w0 S0 M w) :
  Holds w0 S0 (elsT (X.els.drop (IntKind.wrap .i64 (i+1)).toNat)::M1) w:=by
 have h1:=h.perm p.perm
 have hlt:=(List.getElem?_eq_some_iff.1 hi.2).1
 obtain ⟨r1,r2,_⟩:=h.prs _ hm
 simp only [maxLen] at r2
 rw [wrap64_in (by unfold inR;omega),show (i+1).toNat=i.toNat+1 by omega]
 exact h1
end
end Go.Proofs.SL
namespace Go.Proofs.SL
open Go
variable {Γ:Cx} {l:Envl} {M M' M1 M2 F:List HP} {Q:Post} {K:Kont} {rest:List Oper}
section
variable {τ δ:Type} [GT τ δ]
theorem L_close {X:TL τ} {i:Nat} {cs:List Value} (x':τ) {r:List δ} (hc:cs=GT.cells x') (p:Pick (holeH X i cs) M M1) (q:Pick (treeH x') M1 M2) (hr:some ((GT.dat X).set i (GT.dat x'))=some r)
  (hk:∀ X2:TL τ,GT.dat X2=r→X2.hdr=X.hdr→L Γ rest l (treeH X2::M2) K):L Γ rest l M K :=
 L_conv (fun w h=>hole_close hc p q h) (hk _ (by rw [dat_set];exact Option.some.inj hr) (by show Value.slice X.a (X.els.set i x').length X.cap=Value.slice X.a X.els.length X.cap;rw [List.length_set]))
end
end Go.Proofs.SL
namespace Go.Proofs.SL
open Go
variable {Γ:Cx} {rest:List Oper} {d:Nat} {ty:TypeId} {pos:String} {af:Array Edge} {gd:Option (Nat×Bool)}
variable {ops:Array Oper} {Msh pool:List HP} {E:Fl} {rs:List (Option Nat×Rel)} {cs0:List Nat} {KD:List (Option Nat×Rel)→List Nat→List HP→Prop}
theorem D_idxH {τ δ:Type} [GT τ δ] {x y:Operand} {T e sz by_ j:Nat} {z cs:List Value} {k:IntKind} {i:Int} {X:TL τ} {u:τ} {c:Prop} (hg:GC ops E { dst:=some d,op:=.indexAddr T x y,type:=ty,pos:=pos,after:=af,guard:=gd } c)
  (hx:OpV E x c X.hdr) (hy:OpV E y c (.int k i)) (ht:elOf Γ.P T=some (e,sz,by_,z)) (hm:holeH X j cs∈Msh) (hi:c→0≤i∧X.els[i.toNat]?=some u)
  (hk:DV Γ ops Msh pool ((d,FC c (.pointer (some ⟨X.g,X.o+i.toNat*sz,none⟩)))::E) ((some d,FC c (.pointer (some ⟨X.g,X.o+i.toNat*sz,none⟩)))::rs) cs0 rest KD) :
  DV Γ ops Msh pool E rs cs0 ({ dst:=some d,op:=.indexAddr T x y,type:=ty,pos:=pos,after:=af,guard:=gd }::rest) KD :=
 DV_pure c _ hg (fun a w F hc hf hs=>by
  have e1:=hx.eval hf (by simp [Op.operands]) hc
  have e2:=hy.eval hf (by simp [Op.operands]) hc
  obtain ⟨h0,h1⟩:=hi hc
  obtain ⟨r1,r2,r3,r4,r5,r6,r7,r8⟩:=hs.prs _ hm
  have ho:X.o=0:=by unfold TL.o;rw [r5];rfl
  have h2:X.hdr=.slice (some ⟨X.g,X.o,none⟩) X.els.length X.cap:=by show Value.slice X.a X.els.length X.cap=_;rw [ho,← r5]
  rw [h2] at e1
  simp [execOp,e1,e2,run_indexAt ht X.g X.o X.els.length X.cap k i i.toNat (by omega) (List.getElem?_eq_some_iff.1 h1).1 w]) hk
end Go.Proofs.SL
namespace Go.Proofs.SL
open Go
variable {Γ:Cx} {rest:List Oper} {d:Nat} {ty:TypeId} {pos:String} {af:Array Edge} {gd:Option (Nat×Bool)}
variable {ops:Array Oper} {Msh pool:List HP} {E:Fl} {rs:List (Option Nat×Rel)} {cs0:List Nat} {KD:List (Option Nat×Rel)→List Nat→List HP→Prop}
theorem D_idxR {τ δ:Type} [GT τ δ] {x y:Operand} {T e sz by_:Nat} {z:List Value} {k:IntKind} {i:Int} {X:TL τ} {u:τ} {c:Prop} (hg:GC ops E { dst:=some d,op:=.indexAddr T x y,type:=ty,pos:=pos,after:=af,guard:=gd } c)
  (hx:OpV E x c X.hdr) (hy:OpV E y c (.int k i)) (ht:elOf Γ.P T=some (e,sz,by_,z)) (hm:rowH X∈Msh) (hi:c→0≤i∧X.els[i.toNat]?=some u)
  (hk:DV Γ ops Msh pool ((d,FC c (.pointer (some ⟨X.g,X.o+i.toNat*sz,none⟩)))::E) ((some d,FC c (.pointer (some ⟨X.g,X.o+i.toNat*sz,none⟩)))::rs) cs0 rest KD) :
  DV Γ ops Msh pool E rs cs0 ({ dst:=some d,op:=.indexAddr T x y,type:=ty,pos:=pos,after:=af,guard:=gd }::rest) KD :=
 DV_pure c _ hg (fun a w F hc hf hs=>by
  have e1:=hx.eval hf (by simp [Op.operands]) hc
  have e2:=hy.eval hf (by simp [Op.operands]) hc
  obtain ⟨h0,h1⟩:=hi hc
  rw [row_adr (hs.prs _ hm) h1] at e1
  simp [execOp,e1,e2,run_indexAt ht X.g X.o X.els.length X.cap k i i.toNat (by omega) (List.getElem?_eq_some_iff.1 h1).1 w]) hk
end Go.Proofs.SL
namespace Go.Proofs.SL
open Go
section
variable {α β σ τ:Type}
theorem wrap_succ {k:Nat} (h:k < 9223372036854775807):IntKind.wrap .i64 ((k:Int)+1)=((k+1:Nat):Int):=by rw [wrap64_in (by unfold inR;omega)];omega
theorem gb_true [Inhabited α] {o:Option α} {k:α→Option β}:gb true o k=o.bind k:=rfl
theorem gb_false [Inhabited α] {o:Option α} {k:α→Option β}:gb false o k=k default:=rfl
theorem gb_some [Inhabited α] {g:Bool} {a:α} {k:α→Option β} (h:g=false→k a=k default):gb g (some a) k=k a:=by
 cases g with
 | true=>rfl
 | false=>exact (h rfl).symm
def goE (step:τ→β→τ ⊕ Option α) (fin:τ→Option α):List β→τ→Option α
 | [],t=>fin t
 | x::xs,t=>match step t x with
  | .inl t'=>goE step fin xs t'
  | .inr r=>r
theorem whileP_go {f:σ→Option (σ ⊕ α)} {l:List β} (mk:Nat→τ→σ) (step:τ→β→τ ⊕ Option α) (fin:τ→Option α) (I:Nat→τ→Prop)
  (hs:∀ k t x,l[k]?=some x→I k t→(∃ t',step t x=.inl t'∧f (mk k t)=some (.inl (mk (k+1) t'))∧I (k+1) t')∨(∃ r,step t x=.inr r∧f (mk k t)=r.map .inr))
  (he:∀ t,I l.length t→f (mk l.length t)=(fin t).map .inr):∀ (xs:List β) (k:Nat) (t:τ),l.drop k=xs→I k t→k≤l.length→whileP f (mk k t)=goE step fin xs t
 | [],k,t,hd,hi,hk=>by
  have hlen:k=l.length:=by
   have:=congrArg List.length hd
   simp at this;omega
  subst hlen
  rw [whileP_eq,he t hi]
  show _=fin t
  cases fin t<;>rfl
 | x::xs,k,t,hd,hi,hk=>by
  have hx:l[k]?=some x:=by
   have:=congrArg (fun q=>q[0]?) hd
   simpa [List.getElem?_drop] using this
  have hlt:=(List.getElem?_eq_some_iff.1 hx).1
  have hd':l.drop (k+1)=xs:=by
   have:=congrArg List.tail hd
   simpa [List.tail_drop] using this
  rw [whileP_eq]
  rcases hs k t x hx hi with ⟨t',h1,h2,h3⟩ | ⟨r,h1,h2⟩
  ·rw [h2]
   show whileP f (mk (k+1) t')=_
   rw [whileP_go mk step fin I hs he xs (k+1) t' hd' h3 (by omega)]
   simp only [goE,h1]
  ·rw [h2]
   simp only [goE,h1]
   cases r<;>rfl
theorem whileP_for {f:σ→Option (σ ⊕ α)} {l:List β} (mk:Nat→τ→σ) (step:τ→β→τ ⊕ Option α) (fin:τ→Option α) (I:Nat→τ→Prop) (t0:τ) {s0:σ} (h0:mk 0 t0=s0) (hI:I 0 t0)
  (hs:∀ k t x,l[k]?=some x→I k t→(∃ t',step t x=.inl t'∧f (mk k t)=some (.inl (mk (k+1) t'))∧I (k+1) t')∨(∃ r,step t x=.inr r∧f (mk k t)=r.map .inr))
  (he:∀ t,I l.length t→f (mk l.length t)=(fin t).map .inr):whileP f s0=goE step fin l t0:=by
 subst h0
 exact whileP_go mk step fin I hs he l 0 t0 rfl hI (Nat.zero_le _)
theorem goE_fold (h:τ→β→τ) (g:τ→Option α):∀ (xs:List β) (t:τ),goE (fun t x=>(.inl (h t x):τ ⊕ Option α)) g xs t=g (xs.foldl h t)
 | [],t=>rfl
 | x::xs,t=>by simp only [goE,List.foldl_cons];exact goE_fold h g xs (h t x)
theorem appP_ok {δ:Type} {a b:List δ} (h:a.length+b.length≤4294967296):appP a b=some (a++b):=if_pos h
theorem catP_ok {a b:ByteArray} (h:a.size+b.size≤9223372036854775807):catP a b=some (a++b):=if_pos h
theorem lt_dec {k n:Nat} (h:k < n):decide ((k:Int) < (n:Int))=true:=decide_eq_true (by omega)
theorem ge_dec {n:Nat}:decide ((n:Int) < (n:Int))=false:=decide_eq_false (by omega)
theorem whileP_all {f:Int→Option (Int ⊕ α)} {n:Nat} (b:Nat→Bool) (no yes:Option α)
  (h:∀ k,k < n→f (k:Int)=if b k then some (.inl ((k+1:Nat):Int)) else no.map .inr) (hn:f (n:Int)=yes.map .inr):whileP f 0=if (List.range n).all b then yes else no:=by
 have key:∀ m k,n - k=m→k≤n→whileP f (k:Int)=if (List.range' k (n - k)).all b then yes else no:=by
  intro m
  induction m with
  | zero =>
   intro k hm hk
   have:k=n:=by omega
   subst this
   rw [whileP_eq,hn,Nat.sub_self]
   cases yes<;>rfl
  | succ m ih =>
   intro k hm hk
   rw [whileP_eq,h k (by omega),show n - k=(n - (k+1))+1 by omega,List.range'_succ,List.all_cons]
   cases hb:b k with
   | true =>
    simp only [if_true,Bool.true_and]
    exact ih (k+1) (by omega) (by omega)
   | false =>
    simp only [Bool.false_and,Bool.false_eq_true,if_false]
    cases no<;>rfl
 have:=key n 0 (by omega) (by omega)
 rw [Nat.sub_zero,← List.range_eq_range'] at this
 exact this
theorem whileP_find {γ:Type} {f:Int→Option (Int ⊕ γ)} {l:List β} (p:β→Bool) (q:Int→Option γ) (hl:l.length≤9223372036854775807)
  (hs:∀ (k:Nat) x,l[k]?=some x→f (k:Int)=if p x then (q k).map .inr else some (.inl (IntKind.wrap .i64 ((k:Int)+1)))) (he:f (l.length:Int)=(q (-1)).map .inr):whileP f 0=q (firstI p l):=by
 have key:∀ (xs:List β) (k:Nat),l.drop k=xs→k≤l.length→(∀ j x,j < k→l[j]?=some x→p x=false)→whileP f (k:Int)=q (firstI p l):=by
  intro xs
  induction xs with
  | nil =>
   intro k hd hk hf
   have hlen:k=l.length:=by have:=congrArg List.length hd;simp at this;omega
   subst hlen
   rw [whileP_eq,he,firstI_miss (fun x hx=>by
    obtain ⟨j,hj⟩:=List.getElem?_of_mem hx
    exact hf j x (List.getElem?_eq_some_iff.1 hj).1 hj)]
   cases q (-1)<;>rfl
  | cons x xs ih =>
   intro k hd hk hf
   have hx:l[k]?=some x:=by
    have:=congrArg (fun q=>q[0]?) hd
    simpa [List.getElem?_drop] using this
   have hlt:=(List.getElem?_eq_some_iff.1 hx).1
   rw [whileP_eq,hs k x hx]
   cases hp:p x with
   | true =>
    rw [firstI_hit (fun y hy=>by
     obtain ⟨j,hj⟩:=List.getElem?_of_mem hy
     have hjl:=(List.getElem?_eq_some_iff.1 hj).1
     rw [List.length_take] at hjl
     rw [List.getElem?_take_of_lt (by omega)] at hj
     exact hf j y (by omega) hj) hx hp]
    simp only [if_true]
    cases q (k:Int)<;>rfl
   | false =>
    simp only [Bool.false_eq_true,if_false]
    rw [wrap_succ (by omega)]
    refine ih (k+1) ?_ (by omega) (fun j y hj hy=>?_)
    ·have:=congrArg List.tail hd
     simpa [List.tail_drop] using this
    ·rcases Nat.lt_or_ge j k with h1 | h1
     ·exact hf j y h1 hy
     ·have:j=k:=by omega
      subst this
      rw [hx] at hy;cases hy;exact hp
 exact key l 0 rfl (Nat.zero_le _) (fun j x hj=>absurd hj (Nat.not_lt_zero _))
theorem all_range_get {l:List β} {p:β→Bool}:(List.range l.length).all (fun k=>(l[k]?).all p)=l.all p:=by
 rw [Bool.eq_iff_iff,List.all_eq_true,List.all_eq_true]
 constructor
 ·intro h x hx
  obtain ⟨i,hi⟩:=List.getElem?_of_mem hx
  have:=h i (List.mem_range.2 (List.getElem?_eq_some_iff.1 hi).1)
  rw [hi] at this;exact this
 ·intro h k hk
  have hk:=List.mem_range.1 hk
  rw [List.getElem?_eq_getElem hk]
  exact h _ (List.getElem_mem hk)
end
end Go.Proofs.SL
namespace Go.Proofs.SL
open Go
variable {Γ:Cx} {l:Envl} {M M' M1 M2 F:List HP} {Q:Post} {K:Kont} {w0 w:World} {S0:List Nat} {P:Program}
variable {rest:List Oper} {d:Nat} {ty:TypeId} {pos:String} {af:Array Edge}
variable {ops:Array Oper} {Msh pool:List HP} {E:Fl} {rs:List (Option Nat×Rel)} {cs0:List Nat} {KD:List (Option Nat×Rel)→List Nat→List HP→Prop} {gd:Option (Nat×Bool)}
section
variable {τ δ:Type} [GT τ δ]
theorem els_sub {xs ys zs:List τ} (hp:List.Perm xs (ys++zs)) (p:Pick (elsT xs) M M1) (h:Holds w0 S0 M w):Holds w0 S0 (elsT ys::M1) w:=by
 have h1:=h.perm p.perm
 have h2:Holds w0 S0 (elsT ys::elsT zs::M1) w:=by
  refine h1.reFp ?_ fun x hx=>?_
  ·simp only [fps_cons]
   show List.Perm (xs.flatMap GT.fp++fps M1) (ys.flatMap GT.fp++(zs.flatMap GT.fp++fps M1))
   rw [← List.append_assoc,← List.flatMap_append]
   exact (hp.flatMap_right _).append_right _
  ·have h3:=h1.prs (elsT xs) (List.mem_cons_self ..)
   rcases List.mem_cons.1 hx with rfl | hx
   ·exact fun y hy=>h3 y (hp.mem_iff.2 (List.mem_append_left _ hy))
   rcases List.mem_cons.1 hx with rfl | hx
   ·exact fun y hy=>h3 y (hp.mem_iff.2 (List.mem_append_right _ hy))
   ·exact h1.prs _ (List.mem_cons_of_mem _ hx)
 exact h2.sub ⟨[elsT zs],(List.perm_append_comm (l₁:=[elsT zs]) (l₂:=M1)).cons _⟩
theorem raw_facts {X:TL τ} (h:GT.ow w X) (hx:X.els≠[]):X.a=some ⟨X.g,0,none⟩∧X.els.length≤X.cap∧X.cap≤maxLen∧X.els.length*GT.sz τ+X.tail.length=X.cap*GT.sz τ∧w.heap[X.g]?=some (.cells (rowCells X.els++X.tail).toArray X.e (0,0)):=by
 obtain ⟨r1,r2,r3,r4,r5⟩:=h
 cases ha:X.a with
 | none=>exact (hx (r4 ha).1).elim
 | some a =>
  obtain ⟨h1,h2,h3,h4⟩:=r5 a ha
  have hg:X.g=a.block:=by unfold TL.g;rw [ha];rfl
  obtain ⟨b,o,s⟩:=a
  have h1:s=none:=h1
  have h2:o=0:=h2
  subst h1;subst h2
  refine ⟨by rw [hg],r1,r2,h4,by rw [hg];exact h3⟩
theorem raw_open {X:TL τ} (hx:X.els≠[]) (p:Pick (treeH X) M M1) (h:Holds w0 S0 M w):Holds w0 S0 (blk X.g (rowCells X.els++X.tail) X.e::elsT X.els::M1) w:=by
 have h1:=h.perm p.perm
 have ht:GT.ow w X:=h1.prs _ (List.mem_cons_self ..)
 obtain ⟨f1,_,_,_,f5⟩:=raw_facts ht hx
 refine h1.reFp (List.Perm.of_eq ?_) fun x hx=>?_
 ·simp only [fps_cons]
  show ((match X.a with | none=>[] | some a=>[a.block])++X.els.flatMap GT.fp)++fps M1=[X.g]++(X.els.flatMap GT.fp++fps M1)
  rw [f1,List.append_assoc]
 ·rcases List.mem_cons.1 hx with rfl | hx
  ·exact f5
  rcases List.mem_cons.1 hx with rfl | hx
  ·exact ht.2.2.1
  ·exact h1.prs _ (List.mem_cons_of_mem _ hx)
theorem W_raw {c:Code} {X:TL τ} (hx:X.els≠[]) (p:Pick (treeH X) M M1)
  (hk:X.a=some ⟨X.g,0,none⟩→X.els.length≤X.cap→X.cap≤maxLen→X.els.length*GT.sz τ+X.tail.length=X.cap*GT.sz τ→W Γ c l (blk X.g (rowCells X.els++X.tail) X.e::elsT X.els::M1) Q):W Γ c l M Q :=
 W_fact (φ:=X.a=some ⟨X.g,0,none⟩∧X.els.length≤X.cap∧X.cap≤maxLen∧X.els.length*GT.sz τ+X.tail.length=X.cap*GT.sz τ)
  (fun w h=>by obtain ⟨f1,f2,f3,f4,_⟩:=raw_facts ((h.perm p.perm).prs (treeH X) (List.mem_cons_self ..)) hx;exact ⟨f1,f2,f3,f4⟩)
  (fun ⟨f1,f2,f3,f4⟩=>W_conv (fun w h=>raw_open hx p h) (hk f1 f2 f3 f4))
theorem raw_close {g cap:Nat} {e:TypeId} {els:List τ} {tail cs:List Value} (hc:cs=rowCells els++tail) (h1:els.length≤cap) (h2:cap≤maxLen) (h3:els.length*GT.sz τ+tail.length=cap*GT.sz τ)
  (p:Pick (blk g cs e) M M1) (q:Pick (elsT els) M1 M2) (h:Holds w0 S0 M w):Holds w0 S0 (treeH (⟨some ⟨g,0,none⟩,cap,e,els,tail⟩:TL τ)::M2) w:=by
 subst hc
 have h4:=h.perm (p.perm.trans (q.perm.cons _))
 refine h4.reFp (List.Perm.of_eq ?_) fun x hx=>?_
 ·simp only [fps_cons]
  show [g]++(els.flatMap GT.fp++fps M2)=([g]++els.flatMap GT.fp)++fps M2
  rw [List.append_assoc]
 ·rcases List.mem_cons.1 hx with rfl | hx
  ·refine ⟨h1,h2,h4.prs (elsT els) (List.mem_cons_of_mem _ (List.mem_cons_self ..)),fun h=>(by cases h),fun a ha=>?_⟩
   cases ha
   exact ⟨rfl,rfl,h4.prs (blk g _ e) (List.mem_cons_self ..),h3⟩
  ·exact h4.prs _ (List.mem_cons_of_mem _ (List.mem_cons_of_mem _ hx))
end
def slA (o c lo sz:Nat):Nat:=if c=lo then o else o+lo*sz
theorem run_slV {T e sz by_:Nat} {z:List Value} {g o n c:Nat} {vlo vhi:Option Value} {a b:Int} (ht:elOf P T=some (e,sz,by_,z)) (hlo:(vlo=none∧a=0)∨∃ k,vlo=some (.int k a)) (hhi:(vhi=none∧b=(n:Int))∨∃ k,vhi=some (.int k b))
  (h0:0≤a) (h1:a≤b) (h2:b≤(c:Int)) (w:World):(Instr.sliceAt T (.slice (some ⟨g,o,none⟩) n c) vlo vhi none).run P w=.ok (.slice (some ⟨g,slA o c a.toNat sz,none⟩) (b.toNat - a.toNat) (c - a.toNat)) w:=by
 unfold elOf at ht
 split at ht<;>(try cases ht)
 rename_i e' het
 split at ht<;>(try cases ht)
 rename_i i' hi'
 split at ht<;>cases ht
 have e1:=fun k w=>run_sliceBound (P:=P) (k:=k) (code:=.sliceAcap) (show 0≤b by omega) (show b≤((c:Nat):Int) by omega) w
 have e2:=fun k w=>run_sliceBound (P:=P) (k:=k) (code:=.sliceB) h0 (show a≤((b.toNat:Nat):Int) by omega) w
 have hv:(if c=a.toNat then (⟨g,o,none⟩:Addr) else (⟨g,o,none⟩:Addr).add (a.toNat*i'.size))=⟨g,slA o c a.toNat i'.size,none⟩:=by
  unfold slA;split
  ·rfl
  ·rw [addr_add]
 rw [← hv]
 rcases hlo with ⟨rfl,rfl⟩ | ⟨k1,rfl⟩<;>rcases hhi with ⟨rfl,rfl⟩ | ⟨k2,rfl⟩
 ·simp [Instr.sliceAt,Instr.slice,underlying,het,Instr.sliceBounds,sizeOf,typeInfo,hi']
  split<;>rfl
 ·simp [Instr.sliceAt,Instr.slice,underlying,het,Instr.sliceBounds,sizeOf,typeInfo,hi',e1]
  split<;>rfl
 ·have e3:=fun k w=>run_sliceBound (P:=P) (k:=k) (code:=.sliceB) h0 (show a≤((n:Nat):Int) by omega) w
  simp [Instr.sliceAt,Instr.slice,underlying,het,Instr.sliceBounds,sizeOf,typeInfo,hi',e3]
  split<;>rfl
 ·simp [Instr.sliceAt,Instr.slice,underlying,het,Instr.sliceBounds,sizeOf,typeInfo,hi',e1,e2]
  split<;>rfl
theorem L_slV {x:Operand} {lo hi:Option Operand} {T e sz by_:Nat} {z:List Value} {g o n c:Nat} {a b:Int} (hn:Nat.blt d Γ.n=true) (hx:ev l x=some (.slice (some ⟨g,o,none⟩) n c)) (hlo:optI l lo 0=some a) (hhi:optI l hi (n:Int)=some b)
  (ht:elOf Γ.P T=some (e,sz,by_,z)) (h0:0≤a) (h1:a≤b) (h2:b≤(c:Int)) (hk:L Γ rest ((d,.slice (some ⟨g,slA o c a.toNat sz,none⟩) (b.toNat - a.toNat) (c - a.toNat))::l) M K) :
  L Γ ({ dst:=some d,op:=.slice T x lo hi none,type:=ty,pos:=pos,after:=af,guard:=none }::rest) l M K :=
 L_pure hn (fun a' w ha hw=>by
  have h3:=run_slV (P:=Γ.P) (T:=T) (g:=g) (o:=o) (n:=n) (c:=c) (vlo:=lo.map a'.eval) (vhi:=hi.map a'.eval) (a:=a) (b:=b) ht (by
   cases lo with
   | none=>cases hlo;exact .inl ⟨rfl,rfl⟩
   | some q=>obtain ⟨k,h⟩:=optI_some hlo;exact .inr ⟨k,by simp [ha.eval h]⟩) (by
   cases hi with
   | none=>cases hhi;exact .inl ⟨rfl,rfl⟩
   | some q=>obtain ⟨k,h⟩:=optI_some hhi;exact .inr ⟨k,by simp [ha.eval h]⟩) h0 h1 h2 w
  simp [execOp,ha.eval hx,h3]) hk
theorem D_slV {x:Operand} {lo hi:Option Operand} {T e sz by_:Nat} {z:List Value} {g o n c:Nat} {a b:Int} {cc:Prop} (hg:GC ops E { dst:=some d,op:=.slice T x lo hi none,type:=ty,pos:=pos,after:=af,guard:=gd } cc)
  (hx:OpV E x cc (.slice (some ⟨g,o,none⟩) n c)) (hlo:optD E lo cc 0 a) (hhi:optD E hi cc (n:Int) b) (ht:elOf Γ.P T=some (e,sz,by_,z)) (h0:0≤a) (h1:a≤b) (h2:b≤(c:Int))
  (hk:DV Γ ops Msh pool ((d,FC cc (.slice (some ⟨g,slA o c a.toNat sz,none⟩) (b.toNat - a.toNat) (c - a.toNat)))::E) ((some d,FC cc (.slice (some ⟨g,slA o c a.toNat sz,none⟩) (b.toNat - a.toNat) (c - a.toNat)))::rs) cs0 rest KD) :
  DV Γ ops Msh pool E rs cs0 ({ dst:=some d,op:=.slice T x lo hi none,type:=ty,pos:=pos,after:=af,guard:=gd }::rest) KD :=
 DV_pure cc _ hg (fun a' w F hc hf hs=>by
  have e0:=hx.eval hf (by simp [Op.operands]) hc
  have h3:=run_slV (P:=Γ.P) (T:=T) (g:=g) (o:=o) (n:=n) (c:=c) (vlo:=lo.map a'.eval) (vhi:=hi.map a'.eval) (a:=a) (b:=b) ht (by
   cases lo with
   | none=>cases hlo;exact .inl ⟨rfl,rfl⟩
   | some q=>obtain ⟨k,h⟩:=hlo;exact .inr ⟨k,by simp [OpV.eval h hf (by simp [Op.operands]) hc]⟩) (by
   cases hi with
   | none=>cases hhi;exact .inl ⟨rfl,rfl⟩
   | some q=>obtain ⟨k,h⟩:=hhi;exact .inr ⟨k,by simp [OpV.eval h hf (by simp [Op.operands]) hc]⟩) h0 h1 h2 w
  simp [execOp,e0,h3]) hk
theorem L_sl3 {x lo hi mx:Operand} {T e sz by_:Nat} {z:List Value} {g o n c:Nat} {a b m:Int} {k1 k2 k3:IntKind} (hn:Nat.blt d Γ.n=true) (hx:ev l x=some (.slice (some ⟨g,o,none⟩) n c)) (hlo:ev l lo=some (.int k1 a)) (hhi:ev l hi=some (.int k2 b)) (hmx:ev l mx=some (.int k3 m))
  (ht:elOf Γ.P T=some (e,sz,by_,z)) (h0:0≤a) (h1:a≤b) (h2:b≤m) (h3:m≤(c:Int)) (hk:∀ v,L Γ rest ((d,v)::l) M K) :
  L Γ ({ dst:=some d,op:=.slice T x (some lo) (some hi) (some mx),type:=ty,pos:=pos,after:=af,guard:=none }::rest) l M K:=by
 unfold elOf at ht
 split at ht<;>(try cases ht)
 rename_i e' het
 split at ht<;>(try cases ht)
 rename_i i' hi'
 split at ht<;>cases ht
 refine L_pure hn (v:=.slice (if m.toNat=a.toNat then some ⟨g,o,none⟩ else some ((⟨g,o,none⟩:Addr).add (a.toNat*i'.size))) (b.toNat - a.toNat) (m.toNat - a.toNat)) (fun a' w ha hw=>?_) (hk _)
 have e1:=fun w=>run_sliceBound (P:=Γ.P) (k:=k3) (code:=.slice3Acap) (show 0≤m by omega) (show m≤((c:Nat):Int) by omega) w
 have e2:=fun w=>run_sliceBound (P:=Γ.P) (k:=k2) (code:=.slice3B) (show 0≤b by omega) (show b≤((m.toNat:Nat):Int) by omega) w
 have e3:=fun w=>run_sliceBound (P:=Γ.P) (k:=k1) (code:=.slice3C) h0 (show a≤((b.toNat:Nat):Int) by omega) w
 simp [execOp,ha.eval hx,ha.eval hlo,ha.eval hhi,ha.eval hmx,Instr.sliceAt,Instr.slice,underlying,het,Instr.sliceBounds,sizeOf,typeInfo,hi',e1,e2,e3]
theorem cells_at {b:Nat} {cs:List Value} {T:TypeId} (hp:w.heap[b]?=some (.cells cs.toArray T (0,0))) (o n:Nat):∀ j v,((cs.drop o).take n)[j]?=some v→w.cell? ⟨b,o+j,none⟩=some v:=fun j v hv=>by
 rw [cell_of_row _ _ _ _ _ _ hp]
 simp only [List.getElem?_toArray]
 rw [List.getElem?_take] at hv
 split at hv
 ·rw [List.getElem?_drop] at hv;exact hv
 ·cases hv
theorem L_appRaw {s x:Operand} {T e sz by_ g n m c c2 o:Nat} {z cs:List Value} {e2:TypeId} (hn:Nat.blt d Γ.n=true) (hs:ev l s=some (.slice (some ⟨g,0,none⟩) n c)) (hx:ev l x=some (.slice (some ⟨g,o,none⟩) m c2))
  (ht:elOf Γ.P T=some (e,sz,by_,z)) (hp:Pick (blk g cs e2) M M1) (hroom:n+m≤c) (h1:o+m*sz≤cs.length) (h2:n*sz+m*sz≤cs.length) (hone:∀ u,u∈(cs.drop o).take (m*sz)→u.oneCell'=true)
  (hk:L Γ rest ((d,.slice (some ⟨g,0,none⟩) (n+m) c)::l) (blk g (cs.take (n*sz)++(cs.drop o).take (m*sz)++cs.drop (n*sz+m*sz)) e2::M1) K) :
  L Γ ({ dst:=some d,op:=.call { callee:=.builtin .append,args:=#[s,x],argTypes:=#[T,T] },type:=ty,pos,after:=af,guard:=none }::rest) l M K:=by
 refine L_step rfl rfl (Nat.le_of_ble_eq_true hn) (fun a w ha hw=>?_) hk
 unfold elOf at ht
 split at ht<;>(try cases ht)
 rename_i e' het
 split at ht<;>(try cases ht)
 rename_i i' hi'
 split at ht<;>cases ht
 have hw1:=hw.perm hp.perm
 have hh:w.heap[g]?=some (.cells cs.toArray e2 (0,0)):=hw1.prs (blk g cs e2) (List.mem_cons_self ..)
 have hl:((cs.drop o).take (m*i'.size)).length=m*i'.size:=by rw [List.length_take,List.length_drop];omega
 have hr:=run_append_roomE (P:=Γ.P) w T ty e e2 i' het hi' g n c cs.toArray hh ⟨g,o,none⟩ m c2 ((cs.drop o).take (m*i'.size)) hl
  (fun j u hu=>by rw [addr_add];exact cells_at hh o (m*i'.size) j u hu) hone hroom (by rw [hl];simpa using h2)
 rw [hl] at hr
 exact ⟨_,by simp [execOp,resolve,invoke,builtin,ha.eval hs,ha.eval hx,hr],setRow_blk hw1⟩
theorem flatten_rep (z:List Value) (n:Nat):((Array.range (n*z.length)).map (fun i=>(z.toArray)[i % z.length]!)).toList=(List.replicate n z).flatten:=by
 refine List.ext_getElem? fun i=>?_
 by_cases hz:z.length=0
 ·have:z=[]:=List.eq_nil_of_length_eq_zero hz
  subst this;simp
 ·have hpos:0 < z.length:=by omega
  by_cases hi:i < n*z.length
  ·have h1:i / z.length < n:=Nat.div_lt_of_lt_mul (by rw [Nat.mul_comm];exact hi)
   have h2:i % z.length < z.length:=Nat.mod_lt _ hpos
   simp only [Array.toList_map,Array.toList_range,List.getElem?_map,List.getElem?_range hi,Option.map_some]
   have key:∀ (n i:Nat),i < n*z.length→((List.replicate n z).flatten)[i]?=z[i % z.length]?:=by
    intro n
    induction n with
    | zero=>intro i h;simp at h
    | succ n ih =>
     intro i h
     rw [List.replicate_succ,List.flatten_cons]
     by_cases hlt:i < z.length
     ·rw [List.getElem?_append_left hlt,Nat.mod_eq_of_lt hlt]
     ·rw [List.getElem?_append_right (by omega),ih (i - z.length) (by rw [Nat.add_mul] at h;omega)]
      rw [← Nat.mod_eq_sub_mod (by omega)]
   rw [key n i hi,getElem!_pos z.toArray (i % z.length) (by simpa using h2)]
   simp [h2]
  ·rw [List.getElem?_eq_none (by simpa using hi),List.getElem?_eq_none (by simp;omega)]
theorem L_val0 {o:Oper} {v:Value} (hg:o.guard=none) (hd:o.dst=none)
  (he:∀ a w,Env a Γ.n l→Holds Γ.w0 Γ.S0 M w→∃ w',(execOp a.eval o).run Γ.P w=.ok (.value v) w'∧Holds Γ.w0 Γ.S0 M' w')
  (hk:L Γ rest l M' K):L Γ (o::rest) l M K:=fun ops a w Q ha hw hq =>
 wpList_plain hg fun K' hK'=>by
  obtain ⟨w',h1,h2⟩:=he a w ha hw
  unfold Oper.wp
  rw [h1,Oper.upon_value,hd]
  exact hK' _ _ (hk ops _ w' Q (by simpa [Act.put] using ha) h2 hq)
theorem run_clr {T e sz by_ g o n c:Nat} {z cs:List Value} {e2:TypeId} (ht:elOf P T=some (e,sz,by_,z)) (hz:z.length=sz) (hone:∀ u,u∈z→u.oneCell'=true)
  (hh:w.heap[g]?=some (.cells cs.toArray e2 (0,0))) (h1:o+n*sz≤cs.length) (hn:n≠0) (ty:TypeId) :
  (Builtin.clear_ #[T] ty #[.slice (some ⟨g,o,none⟩) n c]).run P w=.ok (.tuple #[]) (w.setRow g (cs.take o++(List.replicate n z).flatten++cs.drop (o+n*sz)).toArray):=by
 unfold elOf at ht
 split at ht<;>(try cases ht)
 rename_i e' het
 split at ht<;>(try cases ht)
 rename_i i' hi'
 split at ht<;>cases ht
 rename_i z' hz'
 have hfl:((List.replicate n z'.cells.toList).flatten).length=n*i'.size:=by simp [hz]
 have hs:=run_store_blk (P:=P) (fo:=o) (vs:=(List.replicate n z'.cells.toList).flatten) (ty:=0) hh (by rw [hfl];exact h1) (fun u hu=>by
  obtain ⟨q,hq,hu⟩:=List.mem_flatten.1 hu
  rw [List.eq_of_mem_replicate hq] at hu
  exact hone u hu)
 rw [hfl] at hs
 have hzc:(Builtin.zeroCells z'.cells n).toList=(List.replicate n z'.cells.toList).flatten:=flatten_rep z'.cells.toList n
 obtain ⟨k,rfl⟩:=Nat.exists_eq_succ_of_ne_zero hn
 simp only [Builtin.clear_]
 simp [underlying,het,zeroValue,typeInfo,hi',hz',hzc,hs]
theorem L_clrRaw {x:Operand} {T e sz by_ g o n c:Nat} {z cs:List Value} {e2:TypeId} (hx:ev l x=some (.slice (some ⟨g,o,none⟩) n c)) (ht:elOf Γ.P T=some (e,sz,by_,z)) (hz:z.length=sz) (hone:∀ u,u∈z→u.oneCell'=true)
  (hp:Pick (blk g cs e2) M M1) (h1:o+n*sz≤cs.length) (hn:n≠0)
  (hk:L Γ rest l (blk g (cs.take o++(List.replicate n z).flatten++cs.drop (o+n*sz)) e2::M1) K) :
  L Γ ({ dst:=none,op:=.call { callee:=.builtin .clear,args:=#[x],argTypes:=#[T] },type:=ty,pos,after:=af,guard:=none }::rest) l M K :=
 L_val0 (v:=.tuple #[]) rfl rfl (fun a w ha hw=>by
  have hw1:=hw.perm hp.perm
  have hh:w.heap[g]?=some (.cells cs.toArray e2 (0,0)):=hw1.prs (blk g cs e2) (List.mem_cons_self ..)
  have hr:=run_clr (P:=Γ.P) (c:=c) ht hz hone hh h1 hn ty
  exact ⟨_,by simp [execOp,resolve,invoke,builtin,ha.eval hx,hr],setRow_blk hw1⟩) hk
def delP {δ:Type} (xs:List δ) (i j:Int):Option (List δ):=if 0≤i∧i < j∧j≤xs.length then some (xs.take i.toNat++xs.drop j.toNat) else none
section
variable {τ δ:Type} [GT τ δ]
theorem perm_del (xs:List τ) (i j:Nat) (h:i≤j):List.Perm xs ((xs.take i++xs.drop j)++(xs.drop i).take (j - i)):=by
 have h1:xs=xs.take i++((xs.drop i).take (j - i)++xs.drop j):=by
  have h2:(xs.drop i).drop (j - i)=xs.drop j:=by rw [List.drop_drop];congr 1;omega
  rw [← h2,List.take_append_drop,List.take_append_drop]
 conv=>lhs;rw [h1]
 rw [List.append_assoc]
 exact (List.perm_append_comm).append_left _
theorem sl0 (c sz:Nat):slA 0 c 0 sz=0:=by unfold slA;split<;>simp
theorem slLt {c lo sz:Nat} (h:lo < c):slA 0 c lo sz=lo*sz:=by unfold slA;rw [if_neg (by omega)];simp
theorem seg_drop {X:TL τ} {j sz:Nat} (hsz:GT.sz τ=sz) (hj:j≤X.els.length) (hc:X.els.length≤X.cap):((rowCells X.els++X.tail).drop (slA 0 X.cap j sz)).take ((X.els.length - j)*sz)=rowCells (X.els.drop j):=by
 subst hsz
 rcases Nat.lt_or_ge j X.cap with h | h
 ·rw [slLt h]
  have h1:rowCells X.els=rowCells (X.els.take j)++rowCells (X.els.drop j):=by rw [← rowCells_append,List.take_append_drop]
  have h2:(rowCells (X.els.take j)).length=j*GT.sz τ:=by rw [length_rowCells,List.length_take,Nat.min_eq_left hj]
  have h3:(rowCells (X.els.drop j)).length=(X.els.length - j)*GT.sz τ:=by rw [length_rowCells,List.length_drop]
  rw [h1,List.append_assoc,← h2,List.drop_left,← h3,List.take_left]
 ·have:X.els.length - j=0:=by omega
  rw [this,Nat.zero_mul,List.take_zero,List.drop_of_length_le (by omega)];rfl
theorem del_cells {xs:List τ} {t:List Value} {i j n sz:Nat} (z:List Value) (hsz:GT.sz τ=sz) (hn:n=xs.length) (hij:i < j) (hj:j≤n) (cs:List Value) (hcs:cs=(rowCells xs++t).take (i*sz)++rowCells (xs.drop j)++(rowCells xs++t).drop (i*sz+(n - j)*sz)) :
  cs.take ((i+(n - j))*sz)++z++cs.drop ((i+(n - j))*sz+(n - (i+(n - j)))*sz)=rowCells (xs.take i++xs.drop j)++(z++t):=by
 subst hsz;subst hn;subst hcs
 have h1:(rowCells xs++t).take (i*GT.sz τ)=rowCells (xs.take i):=by
  have h1:rowCells xs=rowCells (xs.take i)++rowCells (xs.drop i):=by rw [← rowCells_append,List.take_append_drop]
  have h2:(rowCells (xs.take i)).length=i*GT.sz τ:=by rw [length_rowCells,List.length_take,Nat.min_eq_left (by omega)]
  rw [h1,List.append_assoc,← h2,List.take_left]
 have h2:(rowCells (xs.take i)++rowCells (xs.drop j)).length=(i+(xs.length - j))*GT.sz τ:=by
  rw [← rowCells_append,length_rowCells,List.length_append,List.length_take,List.length_drop,Nat.min_eq_left (by omega)]
 rw [h1,← h2,List.take_left,rowCells_append]
 have h3:(xs.length - (i+(xs.length - j)))*GT.sz τ+(i*GT.sz τ+(xs.length - j)*GT.sz τ)=xs.length*GT.sz τ:=by
  rw [← Nat.add_mul,← Nat.add_mul];congr 1;omega
 rw [List.drop_append,List.drop_of_length_le (Nat.le_add_right _ _),List.nil_append,Nat.add_sub_cancel_left,List.drop_drop]
 rw [show i*GT.sz τ+(xs.length - j)*GT.sz τ+(xs.length - (i+(xs.length - j)))*GT.sz τ=xs.length*GT.sz τ by omega]
 have h4:(rowCells xs).length=xs.length*GT.sz τ:=length_rowCells _
 rw [← h4,List.drop_left]
 simp only [List.append_assoc]
theorem row_drop (xs:List τ) (i:Nat) (t:List Value) (hi:i≤xs.length):(rowCells xs++t).drop (i*GT.sz τ)=rowCells (xs.drop i)++t:=by
 have h1:rowCells xs=rowCells (xs.take i)++rowCells (xs.drop i):=by rw [← rowCells_append,List.take_append_drop]
 have h2:(rowCells (xs.take i)).length=i*GT.sz τ:=by rw [length_rowCells,List.length_take,Nat.min_eq_left hi]
 rw [h1,List.append_assoc,← h2,List.drop_left]
end
end Go.Proofs.SL
namespace Go.Proofs.SL
open Go
theorem RdT.w0 {Γ:Cx} {τ δ:Type} [GT τ δ] {t:τ} (h:RdT Γ [] t):GT.rd Γ.w0 [] t:=h Γ.w0 ⟨fun _ _ _=>rfl,fun _ h=>by cases h⟩
end Go.Proofs.SL
namespace Go.Proofs.SL
open Go
variable {Γ:Cx} {l:Envl} {M M' M1 M2 F:List HP} {Q:Post} {K:Kont} {w0 w:World} {S0:List Nat} {P:Program}
variable {rest:List Oper} {d:Nat} {ty:TypeId} {pos:String} {af:Array Edge}
def RdX {τ δ:Type} [GT τ δ] (Γ:Cx) (M1 M2:List HP) (t:τ):Prop:=∀ w,Holds Γ.w0 Γ.S0 (M1++M2) w→GT.rd w (fps M1) t
section
variable {τ δ:Type} [GT τ δ] {t:τ}
theorem RdX.old (h:GT.rd Γ.w0 Γ.S0 t):RdX Γ M1 M2 t:=fun _ hw=>GT.rd_mono h fun _ _ ho=>ho.carry hw
theorem RdX.tree (h:treeH t∈M2):RdX Γ M1 M2 t:=fun w hw=>by
 have ho:GT.ow w t:=hw.prs (treeH t) (List.mem_append_right _ h)
 refine GT.ow_rd ho fun k hk hk1=>?_
 have hnd:=hw.nodup
 rw [fps_append] at hnd
 exact (List.nodup_append.1 hnd).2.2 k hk1 k (List.mem_flatMap.2 ⟨_,h,hk⟩) rfl
theorem RdX.fst {α β δ ε:Type} [GT α δ] [GT β ε] {t:α×β} (h:RdX Γ M1 M2 t):RdX Γ M1 M2 t.1:=fun w hw=>(h w hw).1
theorem RdX.snd {α β δ ε:Type} [GT α δ] [GT β ε] {t:α×β} (h:RdX Γ M1 M2 t):RdX Γ M1 M2 t.2:=fun w hw=>(h w hw).2
theorem RdX.of {X:TL τ} {j:Nat} {x:τ} (h:RdX Γ M1 M2 X) (hi:X.els[j]?=some x):RdX Γ M1 M2 x:=fun w hw=>(h w hw).2.2.1 x (List.mem_of_getElem? hi)
theorem RdX.pair {α β δ ε:Type} [GT α δ] [GT β ε] {a:α} {b:β} (h1:RdX Γ M1 M2 a) (h2:RdX Γ M1 M2 b):RdX Γ M1 M2 (a,b):=fun w hw=>⟨h1 w hw,h2 w hw⟩
theorem RdX.int {n:Int}:RdX Γ M1 M2 n:=fun _ _=>trivial
theorem RdX.bool {n:Bool}:RdX Γ M1 M2 n:=fun _ _=>trivial
theorem RdX.str {n:ByteArray}:RdX Γ M1 M2 n:=fun _ _=>trivial
theorem RdX.u8 {n:UInt8}:RdX Γ M1 M2 n:=fun _ _=>trivial
theorem nil_rd {w:World} {S:List Nat} (e:TypeId):GT.rd w S (TL.nil τ e):=⟨Nat.le_refl _,by simp [TL.nil,maxLen],fun x hx=>by simp [TL.nil] at hx,fun _=>rfl,fun a ha=>by simp [TL.nil] at ha⟩
theorem RdX.nil (e:TypeId):RdX Γ M1 M2 (TL.nil τ e):=fun _ _=>nil_rd e
theorem RdX.map {α δ':Type} [GT α δ'] {a:α} (f:∀ w S,GT.rd w S a→GT.rd w S t) (h:RdX Γ M1 M2 a):RdX Γ M1 M2 t:=fun w hw=>f w _ (h w hw)
theorem RdX.map2 {α β δ' ε:Type} [GT α δ'] [GT β ε] {a:α} {b:β} (f:∀ w S,GT.rd w S a→GT.rd w S b→GT.rd w S t) (h:RdX Γ M1 M2 a) (h2:RdX Γ M1 M2 b):RdX Γ M1 M2 t:=fun w hw=>f w _ (h w hw) (h2 w hw)
theorem RdT.map {α δ':Type} [GT α δ'] {a:α} (f:∀ w S,GT.rd w S a→GT.rd w S t) (h:RdT Γ M a):RdT Γ M t:=fun w hw=>f w _ (h w hw)
theorem RdT.map2 {α β δ' ε:Type} [GT α δ'] [GT β ε] {a:α} {b:β} (f:∀ w S,GT.rd w S a→GT.rd w S b→GT.rd w S t) (h:RdT Γ M a) (h2:RdT Γ M b):RdT Γ M t:=fun w hw=>f w _ (h w hw) (h2 w hw)
end
def RdO {τ δ:Type} [GT τ δ] (w:World) (S:List Nat) (t:τ):Prop:=GT.rd w S t
section
variable {τ δ:Type} [GT τ δ] {t:τ} {S:List Nat}
theorem RdO.old (h:GT.rd w S t):RdO w S t:=h
theorem RdO.fst {α β δ ε:Type} [GT α δ] [GT β ε] {t:α×β} (h:RdO w S t):RdO w S t.1:=h.1
theorem RdO.snd {α β δ ε:Type} [GT α δ] [GT β ε] {t:α×β} (h:RdO w S t):RdO w S t.2:=h.2
theorem RdO.of {X:TL τ} {j:Nat} {x:τ} (h:RdO w S X) (hi:X.els[j]?=some x):RdO w S x:=h.2.2.1 x (List.mem_of_getElem? hi)
theorem RdO.pair {α β δ ε:Type} [GT α δ] [GT β ε] {a:α} {b:β} (h1:RdO w S a) (h2:RdO w S b):RdO w S (a,b):=⟨h1,h2⟩
theorem RdO.int {n:Int}:RdO w S n:=trivial
theorem RdO.bool {n:Bool}:RdO w S n:=trivial
theorem RdO.str {n:ByteArray}:RdO w S n:=trivial
theorem RdO.u8 {n:UInt8}:RdO w S n:=trivial
theorem RdO.nil (e:TypeId):RdO w S (TL.nil τ e):=nil_rd e
theorem RdO.map {α δ':Type} [GT α δ'] {a:α} (f:∀ w S,GT.rd w S a→GT.rd w S t) (h:RdO w S a):RdO w S t:=f w _ h
theorem RdO.map2 {α β δ' ε:Type} [GT α δ'] [GT β ε] {a:α} {b:β} (f:∀ w S,GT.rd w S a→GT.rd w S b→GT.rd w S t) (h:RdO w S a) (h2:RdO w S b):RdO w S t:=f w _ h h2
end
theorem L_callM {f:Nat} {xs:List Operand} {ats:Array TypeId} {vs:List Value} {R:Value→List HP→Prop} (M1 M2:List HP)
  (hn:Nat.blt d Γ.n=true) (hf:IsFn Γ.P f) (hx:evs l xs=some vs) (hp:List.Perm M (M1++M2)) (hc:∀ w,Holds Γ.w0 Γ.S0 (M1++M2) w→Spec Γ.P f vs.toArray w M1 R)
  (hk:∀ v M',R v M'→L Γ rest ((d,v)::l) (M'++M2) K):L Γ ({ dst:=some d,op:=.call { callee:=.value (.func f),args:=xs.toArray,argTypes:=ats },type:=ty,pos:=pos,after:=af,guard:=none }::rest) l M K :=
 L_call (M1:=M1) (M2:=M2) (R:=R) rfl rfl rfl (Nat.le_of_ble_eq_true hn) hf hx hp hc hk
end Go.Proofs.SL
