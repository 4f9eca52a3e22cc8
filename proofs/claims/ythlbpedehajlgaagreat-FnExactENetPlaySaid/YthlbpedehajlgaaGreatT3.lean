/- The texts of the proof, part 3. -/
import Derived.Test.YthlbpedehajlgaaGreatT2
import Derived.ProofKit
import Derived.Deep.Slices
import Derived.OpenShut
import Derived.ChangeOld
import Derived.Laws.StructEq
import Derived.Laws.BytesString
set_option linter.all false
namespace Go.Proofs.SL
open Go
variable {Γ:Cx} {l:Ca} {M M1 M2 F:List HP} {Q:Dw} {K:Dp} {w0 w:World} {S0:List Nat}
variable {rest:List Oper} {d:Nat} {ty:TypeId} {pos:String} {af:Array Edge}
def RdT {τ δ:Type} [GT τ δ] (Γ:Cx) (M:List HP) (t:τ):Prop:=∀ w,Sees Γ.w0 Γ.S0 M w→GT.rd w [] t
section
variable {τ δ:Type} [GT τ δ] {t:τ}
theorem RdT.old (h:GT.rd Γ.w0 Γ.S0 t):RdT Γ M t:=fun _ hw=>GT.rd_mono h fun _ _ ho=>⟨ho.now hw,by simp⟩
abbrev Ac:=@RdT.old
theorem Ba (h:Af t∈M):RdT Γ M t:=fun _ hw=>Fc h hw
theorem Bn {α β δ ε:Type} [GT α δ] [GT β ε] {t:α×β} (h:RdT Γ M t):RdT Γ M t.1:=fun w hw=>(h w hw).1
theorem Ae {α β δ ε:Type} [GT α δ] [GT β ε] {t:α×β} (h:RdT Γ M t):RdT Γ M t.2:=fun w hw=>(h w hw).2
theorem RdT.el {L:TL τ} {x:τ} (h:RdT Γ M L) (hx:x∈L.els):RdT Γ M x:=fun w hw=>(h w hw).2.2.1 x hx
theorem RdT.cells {L:TL τ} {g o i:Nat} {x:τ} (h:RdT Γ M L) (ha:L.a=some ⟨g,o,none⟩) (hi:L.els[i]?=some x):RdC Γ M g (o+i*GT.sz τ) (GT.cells x):=fun w hw j v hv =>
 ((Cells.el (h w hw) ha hi) j v hv).1
theorem uK {L:TL τ} {g o:Nat} (h:RdT Γ M L) (ha:L.a=some ⟨g,o,none⟩):RdC Γ M g o (AJ L.els):=fun w hw j v hv=>(((h w hw).2.2.2.2 _ ha).2 j v hv).1
theorem RdT.sub {M':List HP} (h:RdT Γ M t) (hm:∀ x,x∈M→x∈M'):RdT Γ M' t:=fun w hw=>h w ⟨hw.old,fun x hx=>hw.prs x (hm x hx)⟩
end
theorem Pick.sub {h:HP} {M M':List HP} (p:Pick h M M'):∀ x,x∈M'→x∈M:=fun x hx=>p.perm.mem_iff.2 (List.mem_cons_of_mem _ hx)
section
variable {τ δ:Type} [GT τ δ]
theorem Wf {p y:Operand} {T g i Lc n:Nat} {Lx:List τ} {Lt:List Value} {Le:TypeId} {v:Value} {x:τ} (x':τ) (hp0:ev l p=some (.pointer (some ⟨g,0+i*n,none⟩))) (hy:ev l y=some v)
  (hp:Pick (Af (⟨some ⟨g,0,none⟩,Lc,Le,Lx,Lt⟩:TL τ)) M M1) (hn:GT.sz τ=n) (hi:Lx[i]?=some x) (hv:v.cells.toList=GT.cells x') (hq:Pick (Af x') M1 M2)
  (hT:Jp Γ.P T=some n∨(HO Γ.P T=true∧n=1)) (hk:L Γ rest l (Af (⟨some ⟨g,0,none⟩,Lc,Le,Lx.set i x',Lt⟩:TL τ)::M2) K) :
  L Γ ({ dst:=none,op:=.store T p y,type:=ty,pos,after:=af,guard:=none }::rest) l M K:=by
 subst hn;refine Ol rfl rfl (fun a w ha hw=>?_) hk
 have hw1:=IG (hw.perm hp.perm)
 have hc:v.cells.size=GT.sz τ:=by rw [← Array.length_toList,hv,GT.len]
 obtain ⟨w',h1,h2⟩:=TD (P:=Γ.P) (fo:=0) (vs:=v.cells.toList) (x':=x') hw1 rfl hi (by
  rw [hv,List.take_zero,List.nil_append,Nat.zero_add,List.drop_of_length_le (by rw [GT.len,GT.len];exact Nat.le_refl _),List.append_nil]) (by rw [hv];exact GT.one x') (by rw [hv,GT.len];omega)
 rw [Nat.add_zero] at h1;refine ⟨w',?_,?_⟩
 ·simp only [Nat.zero_add] at h1 hp0;rcases hT with hT | ⟨hT,a0⟩
  ·simp [execOp,ha.eval hp0,ha.eval hy,Instr.storeAt,Instr.sureAddr,storeVar,Fo hT,hc,h1]
  ·simp [execOp,ha.eval hp0,ha.eval hy,Instr.storeAt,Instr.sureAddr,storeVar,FH hT,hc,a0] at h1 ⊢;simp [h1]
 ·refine IH ?_
  have h3:=h2.perm (List.Perm.swap _ _ _)
  have h4:=Se hi h3
  have h5:Holds Γ.w0 Γ.S0 (Af x'::BU (Lx.eraseIdx i)::Bf (⟨some ⟨g,0,none⟩,Lc,Le,Lx.set i x',Lt⟩:TL τ)::M2) w':=by
   have h6:=h4.sub (M':=BU (Lx.eraseIdx i)::Bf (⟨some ⟨g,0,none⟩,Lc,Le,Lx.set i x',Lt⟩:TL τ)::M1) ⟨[Af x],(List.perm_append_comm (l₁:=[Af x]))⟩
   refine h6.perm ?_;refine ((hq.perm.cons _).cons _).trans ?_;exact ((List.Perm.swap _ _ _).cons _).trans (List.Perm.swap _ _ _)
  exact (TC (List.getElem?_eq_some_iff.1 hi).1 h5).perm (List.Perm.swap _ _ _)
theorem aM {p y:Operand} {T g i Lc n fo:Nat} {Lx:List τ} {Lt:List Value} {Le:TypeId} {v:Value} {x:τ} (x':τ) (hp0:ev l p=some (.pointer (some ⟨g,0+i*n+fo,none⟩))) (hy:ev l y=some v)
  (hp:Pick (Af (⟨some ⟨g,0,none⟩,Lc,Le,Lx,Lt⟩:TL τ)) M M1) (hn:GT.sz τ=n) (hi:Lx[i]?=some x) (hv:GT.cells x'=(GT.cells x).set fo v) (h1:v.oneCell'=true) (hfo:fo < n)
  (hfp:GT.fp x'=GT.fp x) (how:∀ w,GT.ow w x→GT.ow w x')
  (hT:HO Γ.P T=true) (hk:L Γ rest l (Af (⟨some ⟨g,0,none⟩,Lc,Le,Lx.set i x',Lt⟩:TL τ)::M1) K) :
  L Γ ({ dst:=none,op:=.store T p y,type:=ty,pos,after:=af,guard:=none }::rest) l M K:=by
 subst hn;refine Ol rfl rfl (fun a w ha hw=>?_) hk
 have hw1:=IG (hw.perm hp.perm)
 have hc:v.cells=#[v]:=by cases v<;>first | rfl | cases h1
 obtain ⟨w',h2,h3⟩:=TD (P:=Γ.P) (fo:=fo) (vs:=[v]) (x':=x') hw1 rfl hi (by
  rw [hv,List.set_eq_take_append_cons_drop,if_pos (by rw [GT.len];exact hfo)];simp) (by simpa using h1) (by simp only [List.length_cons,List.length_nil];omega)
 refine ⟨w',?_,?_⟩
 ·simp only [Nat.zero_add] at h2 hp0;simp [execOp,ha.eval hp0,ha.eval hy,Instr.storeAt,Instr.sureAddr,storeVar,FH hT,hc,h2]
 ·refine IH ?_
  have h4:=Se hi (h3.perm (List.Perm.swap _ _ _))
  have h5:Holds Γ.w0 Γ.S0 (Af x'::BU (Lx.eraseIdx i)::Bf (⟨some ⟨g,0,none⟩,Lc,Le,Lx.set i x',Lt⟩:TL τ)::M1) w':=by
   refine h4.reFp (List.Perm.of_eq ?_) fun z hz=>?_
   ·simp only [Co];show GT.fp x++_=GT.fp x'++_;rw [hfp]
   ·rcases List.mem_cons.1 hz with rfl | hz
    ·exact how _ (h4.prs (Af x) (List.mem_cons_self ..))
    ·exact h4.prs _ (List.mem_cons_of_mem _ hz)
  exact (TC (List.getElem?_eq_some_iff.1 hi).1 h5).perm (List.Perm.swap _ _ _)
end
end Go.Proofs.SL
namespace Go.Proofs.SL
open Go
variable {Γ:Cx} {l:Ca} {M M1 M2 F:List HP} {Q:Dw} {K:Dp} {w0 w:World} {S0:List Nat}
variable {rest:List Oper} {d:Nat} {ty:TypeId} {pos:String} {af:Array Edge}
theorem dG {x:Operand} {i:Nat} {vs:Array Value} {v:Value} (hn:Nat.blt d Γ.n=true) (hx:ev l x=some (.tuple vs)) (hv:vs[i]?=some v) (hk:L Γ rest ((d,v)::l) M K) :
  L Γ ({ dst:=some d,op:=.extract x i,type:=ty,pos,after:=af,guard:=none }::rest) l M K :=
 Fv hn (fun a w ha _=>by simp [execOp,ha.eval hx,Instr.extract,hv]) hk
theorem NF {fn:Fn} {fs cs:List Operand} {us vs:List Value} (hn:Nat.blt d Γ.n=true) (hf:evs l fs=some us) (hc:evs l cs=some vs) (hk:L Γ rest ((d,.func fn us.toArray vs.toArray)::l) M K) :
  L Γ ({ dst:=some d,op:=.makeFunc fn fs.toArray cs.toArray,type:=ty,pos,after:=af,guard:=none }::rest) l M K :=
 Fv hn (fun a w ha _=>by simp [execOp,Instr.makeFunc,ha.evals _ _ hf,ha.evals _ _ hc]) hk
theorem aN {x y:Operand} {ats:Array TypeId} {k:IntKind} {a b:Int} (hn:Nat.blt d Γ.n=true) (hx:ev l x=some (.int k a)) (hy:ev l y=some (.int k b)) (hk:L Γ rest ((d,.int k (if b > a then b else a))::l) M K) :
  L Γ ({ dst:=some d,op:=.call { callee:=.builtin .max,args:=#[x,y],argTypes:=ats },type:=ty,pos,after:=af,guard:=none }::rest) l M K :=
 Fv hn (fun a' w ha _=>by simp [execOp,resolve,invoke,builtin,ha.eval hx,ha.eval hy,run_max_int2]) hk
theorem kJ {o:Oper} {t d' f:Nat} {xs:List Operand} {ats:Array TypeId} {vs cs:List Value} {M1 M2:List HP} {R:Value→List HP→Prop}
  (ho:o.op=.call { callee:=.value (.tmp t),args:=xs.toArray,argTypes:=ats }) (hg:o.guard=none) (hd:o.dst=some d') (hn:d' < Γ.n) (ht:l.lookup t=some (.func (.func f) #[] cs.toArray))
  (hf:IsFn Γ.P f) (hx:evs l xs=some vs) (hp:List.Perm M (M1++M2))
  (hc:∀ w,Holds Γ.w0 Γ.S0 (M1++M2) w→Spec Γ.P f (vs++cs).toArray w M1 R)
  (hk:∀ v M',R v M'→L Γ rest ((d',v)::l) (M'++M2) K):L Γ (o::rest) l M K:=fun ops a w Q ha hw hq =>
 wpList_plain hg fun K' hK'=>by
  have hw':=hw.perm hp
  have ht':a.eval (.tmp t)=.func (.func f) #[] cs.toArray:=ha.eval (x:=.tmp t) ht
  have he:(execOp a.eval o).run Γ.P w=.ok (.enter f (vs++cs).toArray) w:=by
   unfold execOp;rw [ho];simp [resolve,Deferred.ofValue,ht',invoke,ha.evals xs vs hx,hf.run]
  unfold Oper.wp;rw [he,Oper.upon_enter];refine (hc w hw' hw'.split).mono fun e w'' ⟨v,M',h1,h2,h3⟩=>?_;subst h1;simp only [hd];exact hK' _ _ (hk v M' h2 ops _ w'' Q (ha.put hn) (hw'.frame h3) hq)
theorem QS {t f:Nat} {xs:List Operand} {ats:Array TypeId} {vs cs:List Value} {x:Value} (hn:Nat.blt d Γ.n=true) (ht:l.lookup t=some (.func (.func f) #[] cs.toArray))
  (hf:IsFn Γ.P f) (hx:evs l xs=some vs) (hc:∀ w,Holds Γ.w0 Γ.S0 M w→Spec Γ.P f (vs++cs).toArray w [] (IsV x))
  (hk:L Γ rest ((d,x)::l) M K):L Γ ({ dst:=some d,op:=.call { callee:=.value (.tmp t),args:=xs.toArray,argTypes:=ats },type:=ty,pos:=pos,after:=af,guard:=none }::rest) l M K :=
 kJ (M1:=[]) (M2:=M) (R:=IsV x) rfl rfl rfl (Nat.le_of_ble_eq_true hn) ht hf hx (by simp) (fun w hw=>hc w hw) (fun v M' ⟨h1,h2⟩=>by subst h1;subst h2;exact hk)
def Jq (place:Nat→Option (Nat×Nat)) (cells:List Value):List (Nat×Value)→Option (List Value)
 | []=>some cells
 | (i,v)::rest =>
  match place i with
  | none=>none
  | some (off,size) =>
   match Nat.beq v.cells.toList.length size&&Nat.ble (off+v.cells.toList.length) cells.length with
   | true=>Jq place (cells.take off++v.cells.toList++cells.drop (off+v.cells.toList.length)) rest
   | false=>none
theorem dH (off:Nat):∀ (vs:List Value) (k:Nat) (cs:Array Value),off+k+vs.length≤cs.size →
  ((vs.zipIdx k).foldl (fun cs (p:Value×Nat)=>cs.setIfInBounds (off+p.2) p.1) cs).toList=cs.toList.take (off+k)++vs++cs.toList.drop (off+k+vs.length)
 | [],k,cs,h=>by simp
 | v::vs,k,cs,h=>by
  rw [List.zipIdx_cons,List.foldl_cons];rw [dH off vs (k+1) _ (by simp at h ⊢;omega)]
  have hlt:off+k < cs.toList.length:=by simp at h ⊢;omega
  have e1:(cs.setIfInBounds (off+k) v).toList=cs.toList.set (off+k) v:=by simp
  simp only [] at e1 ⊢;rw [e1,List.set_eq_take_append_cons_drop,if_pos hlt]
  have l1:(cs.toList.take (off+k)).length=off+k:=by rw [List.length_take];omega
  have t1:(cs.toList.take (off+k)++v::cs.toList.drop (off+k+1)).take (off+(k+1))=cs.toList.take (off+k)++[v]:=by
   rw [List.take_append,List.take_of_length_le om,l1,show off+(k+1) - (off+k)=1 by omega];rfl
  have t2:(cs.toList.take (off+k)++v::cs.toList.drop (off+k+1)).drop (off+(k+1)+vs.length)=cs.toList.drop (off+k+(v::vs).length):=by
   rw [List.drop_append,List.drop_of_length_le om,List.nil_append,l1,show off+(k+1)+vs.length - (off+k)=vs.length+1 by omega,List.drop_succ_cons,List.drop_drop,List.length_cons]
   congr 1;omega
  rw [t1,t2];simp
theorem Ve (place:Nat→Option (Nat×Nat)):∀ (parts:List (Nat×Value)) (cells:Array Value) (cs:List Value),Jq place cells.toList parts=some cs→Instr.fill place cells parts=some cs.toArray
 | [],cells,cs,h=>by
  simp only [Jq,Option.some.injEq] at h;subst h;simp [Instr.fill]
 | (i,v)::rest,cells,cs,h=>by
  unfold Jq at h;unfold Instr.fill
  cases hp:place i with
  | none=>rw [hp] at h;cases h
  | some os =>
   obtain ⟨off,size⟩:=os;rw [hp] at h;simp only [] at h ⊢
   cases hb:(Nat.beq v.cells.toList.length size&&Nat.ble (off+v.cells.toList.length) cells.toList.length) with
   | false=>rw [hb] at h;cases h
   | true =>
    rw [hb] at h;simp only [Bool.and_eq_true] at hb
    have h1:v.cells.size=size:=by have:=Nat.eq_of_beq_eq_true hb.1;simpa using this
    have h2:off+v.cells.size≤cells.size:=by have:=Nat.le_of_ble_eq_true hb.2;simpa using this
    rw [if_neg (by simp [h1];omega)];refine Ve place rest _ cs ?_;rw [← h]
    congr 1
    have e:(v.cells.zipIdx.foldl (fun cs (p:Value×Nat)=>cs.setIfInBounds (off+p.2) p.1) cells)=(v.cells.toList.zipIdx.foldl (fun cs (p:Value×Nat)=>cs.setIfInBounds (off+p.2) p.1) cells):=by
     rw [← Array.foldl_toList];simp
    have:=dH off v.cells.toList 0 cells (by simpa using h2)
    simp only [Nat.add_zero] at this;rw [← this,← e]
def Pe (P:Program) (T:TypeId):Option (List (Nat×Nat)×List Value) :=
 match P.underlying T,Om P T with
 | some (.struct fs),some z=>match fs.toList.mapM fun f=>(P.info? f.type).map fun i=>(f.offset,i.size) with
  | some pl=>some (pl,z)
  | none=>none
 | _,_=>none
theorem aO {P:Program} {fs:List Field}:∀ {pl:List (Nat×Nat)},fs.mapM (fun f=>(P.info? f.type).map fun i=>(f.offset,i.size))=some pl→(fs.mapM (fun f=>Prod.mk f.offset <$> sizeOf f.type:Field→Sem (Nat×Nat))).run P w=.ok pl w:=by
 induction fs with
 | nil=>intro pl h;simp at h;subst h;simp
 | cons f fs ih =>
  intro pl h;rw [List.mapM_cons] at h
  cases hf:P.info? f.type with
  | none=>rw [hf] at h;simp at h
  | some i =>
   rw [hf] at h
   cases hfs:fs.mapM (fun f=>(P.info? f.type).map fun i=>(f.offset,i.size)) with
   | none=>rw [hfs] at h;simp at h
   | some pl' =>
    rw [hfs] at h;simp at h;subst h
    have:=ih hfs
    simp [List.mapM_cons,sizeOf,typeInfo,hf] at this ⊢;simp [this]
def evp (l:Ca):List (Nat×Operand)→Option (List (Nat×Value))
 | []=>some []
 | (i,x)::xs=>match ev l x,evp l xs with
  | some v,some vs=>some ((i,v)::vs)
  | _,_=>none
theorem Env.evalp {a:Act} {n:Nat} (h:Env a n l):∀ (xs:List (Nat×Operand)) (vs:List (Nat×Value)),evp l xs=some vs→xs.map (fun (i,x)=>(i,a.eval x))=vs
 | [],vs,hx=>by simp [evp] at hx;simp [hx]
 | (i,x)::xs,vs,hx=>by
  simp only [evp] at hx
  split at hx
  ·rename_i v us h1 h2
   cases hx;simp [h.eval h1,h.evalp xs us h2]
  ·cases hx
theorem MR {P:Program} {T:TypeId} {pl:List (Nat×Nat)} {z cs:List Value} {ps:List (Nat×Value)} (ht:Pe P T=some (pl,z)) (hf:Jq (pl[·]?) z ps=some cs) :
  (Instr.build T ps.toArray).run P w=.ok (.agg cs.toArray) w:=by
 unfold Pe at ht
 split at ht<;>(try cases ht)
 rename_i fs z' hu hz
 split at ht<;>cases ht
 rename_i hpl
 have hp:=aO (w:=w) hpl
 unfold Om at hz
 split at hz<;>(try cases hz)
 rename_i i hi
 split at hz<;>cases hz
 rename_i zz hzz
 have h1:(fs.mapM (fun f=>do pure (f.offset,← sizeOf f.type):Field→Sem (Nat×Nat))).run P w=.ok pl.toArray w:=by
  have:fs=fs.toList.toArray:=by simp
  rw [this,List.mapM_toArray];simp only [bind_pure_comp,Sem.run_map];rw [hp];rfl
 have h2:=Ve (pl[·]?) ps zz.cells cs (by simpa using hf)
 have h3:(fun x:Nat=>pl.toArray[x]?)=(fun x:Nat=>pl[x]?):=by funext x;simp
 simp only [Instr.build,zeroValue,typeInfo,underlying,Sem.run_bind,run_program,Result.andThen_ok,hi,hzz,hu,Sem.run_pure,h1,h3,h2]
theorem Cz {T:TypeId} {xs:List (Nat×Operand)} {ps:List (Nat×Value)} {pl:List (Nat×Nat)} {z cs:List Value} (hn:Nat.blt d Γ.n=true) (hx:evp l xs=some ps) (ht:Pe Γ.P T=some (pl,z))
  (hf:Jq (pl[·]?) z ps=some cs) (hk:L Γ rest ((d,.agg cs.toArray)::l) M K) :
  L Γ ({ dst:=some d,op:=.build T xs.toArray,type:=ty,pos,after:=af,guard:=none }::rest) l M K :=
 Fv hn (fun a w ha _=>by
  have h1:xs.toArray.map (fun (i,x)=>(i,a.eval x))=ps.toArray:=by simp [ha.evalp xs ps hx]
  simp only [execOp,h1];simp [MR ht hf]) hk
theorem PV {P:Program} {T e sz by_:Nat} {z cs:List Value} {ps:List (Nat×Value)} {n:Nat} (ht:elOf P T=some (e,sz,by_,z)) (hz:z.length=sz) (hsz:0 < sz) (hn:n*sz≤65536) (a0:0 < n)
  (hf:Jq (fun i=>some (i*sz,sz)) ((List.range (n*sz)).map fun i=>z.getD (i % sz) undef) ps=some cs) :
  (Instr.buildSlice T n ps.toArray).run P w=.ok (.slice (some ⟨w.heap.size,0,none⟩) n n) (w.alloc (.cells cs.toArray e (0,0))):=by
 unfold elOf at ht
 split at ht<;>(try cases ht)
 rename_i e' het
 split at ht<;>(try cases ht)
 rename_i i' hi'
 split at ht<;>cases ht
 rename_i z' hz'
 have hzs:z'.cells.size=i'.size:=by rw [← Array.length_toList];exact hz
 have hne:¬ (n*i'.size=0):=by intro h;rcases Nat.mul_eq_zero.1 h with h | h<;>omega
 have hle:¬ (2 ^ 24 < n*i'.size):=by
  have:(2:Nat) ^ 24=16777216:=by decide
  omega
 have e0:((Array.range (n*i'.size)).map (z'.cells[· % z'.cells.size]!)).toList=(List.range (n*i'.size)).map fun i=>z'.cells.toList.getD (i % i'.size) undef:=by
  rw [Array.toList_map,Array.toList_range];refine List.map_congr_left fun i _=>?_
  have h2:i % i'.size < z'.cells.size:=by rw [hzs];exact Nat.mod_lt _ hsz
  rw [hzs,getElem!_pos z'.cells (i % i'.size) h2];simp [List.getD_eq_getElem?_getD,h2]
 have h2:=Ve (fun i=>some (i*i'.size,i'.size)) ps ((Array.range (n*i'.size)).map (z'.cells[· % z'.cells.size]!)) cs (by rw [e0];exact hf)
 simp only [Instr.buildSlice,underlying,het,sizeOf,typeInfo,hi',Sem.run_bind,run_program,Result.andThen_ok,Sem.run_pure,gt_iff_lt,hle,if_false,hne,zeroValue,hz',newRow,run_newObj];simp only [h2,Sem.run_bind,Result.andThen_ok,Sem.run_pure,newRow,run_newObj,Sem.run_map];rfl
theorem XD {T e sz by_ n:Nat} {z cs:List Value} {xs:List (Nat×Operand)} {ps:List (Nat×Value)} (hn:Nat.blt d Γ.n=true) (hx:evp l xs=some ps) (ht:elOf Γ.P T=some (e,sz,by_,z)) (hz:z.length=sz)
  (hsz:0 < sz) (hns:n*sz≤65536) (a0:0 < n) (hf:Jq (fun i=>some (i*sz,sz)) ((List.range (n*sz)).map fun i=>z.getD (i % sz) undef) ps=some cs)
  (hk:∀ b,L Γ rest ((d,.slice (some ⟨b,0,none⟩) n n)::l) (blk b cs e::M) K) :
  L Γ ({ dst:=some d,op:=.buildSlice T n xs.toArray,type:=ty,pos,after:=af,guard:=none }::rest) l M K :=
 NX (fun v M'=>∃ b,v=.slice (some ⟨b,0,none⟩) n n∧M'=blk b cs e::M) rfl rfl (Nat.le_of_ble_eq_true hn)
  (fun a w ha hw=>by
   have h1:xs.toArray.map (fun (i,x)=>(i,a.eval x))=ps.toArray:=by simp [ha.evalp xs ps hx]
   refine ⟨_,_,_,⟨w.heap.size,rfl,rfl⟩,?_,hw.new rfl⟩;simp only [execOp,h1];simp [PV ht hz hsz hns a0 hf]) (fun v M' ⟨b,h1,h2⟩=>by subst h1;subst h2;exact hk b)
theorem BQ {T e sz by_:Nat} {z:List Value} {x:Operand} {v:Value} (hn:Nat.blt d Γ.n=true) (hx:ev l x=some v) (ht:elOf Γ.P T=some (e,sz,by_,z)) (hz:z.length=sz)
  (hsz:0 < sz) (hns:sz≤65536) (hv:v.cells.toList.length=sz)
  (hk:∀ b,L Γ rest ((d,.slice (some ⟨b,0,none⟩) 1 1)::l) (blk b v.cells.toList e::M) K) :
  L Γ ({ dst:=some d,op:=.buildSlice T 1 #[(0,x)],type:=ty,pos,after:=af,guard:=none }::rest) l M K :=
 XD (xs:=[(0,x)]) (ps:=[(0,v)]) (cs:=v.cells.toList) hn (by simp [evp,hx]) ht hz hsz om om (by
  simp only [Jq,Nat.zero_mul,Nat.one_mul,Nat.zero_add,hv,Nat.beq_refl,Bool.true_and,List.length_map,List.length_range,List.take_zero,List.nil_append];rw [show Nat.ble sz sz=true from Nat.ble_eq_true_of_le (Nat.le_refl _)];simp only [];rw [List.drop_of_length_le (by simp),List.append_nil]) hk
end Go.Proofs.SL
namespace Go.Proofs.SL
open Go Go.Deep
class Ok (δ:Type) where
 ok:δ→Prop
instance:Ok Int:=⟨inR⟩
instance:Ok Bool:=⟨fun _=>True⟩
instance:Ok UInt8:=⟨fun _=>True⟩
instance:Ok ByteArray:=⟨fun s=>s.size≤9223372036854775807⟩
instance {δ ε:Type} [Ok δ] [Ok ε]:Ok (δ×ε):=⟨fun p=>Ok.ok p.1∧Ok.ok p.2⟩
instance {δ:Type} [Ok δ]:Ok (List δ):=⟨fun l=>l.length≤9223372036854775807∧∀ x,x∈l→Ok.ok x⟩
def Opn (P:Program) (T:TypeId) (τ:Type) {δ:Type} [GT τ δ] [Ok δ]:Prop :=
 ∀ {H:Type} (enc:TypeId×Value→H) (w:World) (spare:Nat→Bool) (held:Bool) (fuel:Nat) (cs:List Value) (x:DataW H×List MemPlace),DataW.trod enc P w 0 spare held fuel T cs=some x →
  ∃ t:τ,cs=GT.cells t∧GT.rd w [] t∧Ok.ok (GT.dat t)
variable {P:Program} {T:TypeId}
theorem dI {n:Int} (h:(Lit.int .i64 n).wf=true):inR n:=bounds_i64 h
theorem Opn.int (ht:P.underlying T=some (.int .i64)):Opn P T Int:=fun enc w spare held fuel cs x h=>by
 obtain ⟨n,h1,_,h3⟩:=DataW.trod_int ht h;exact ⟨n,h1,trivial,dI h3⟩
theorem Opn.u8 (ht:P.underlying T=some (.int .u8)):Opn P T UInt8:=fun enc w spare held fuel cs x h=>by
 obtain ⟨n,h1,_,h3⟩:=DataW.trod_int ht h;obtain ⟨h4,h5⟩:=bounds_u8 h3;obtain ⟨k,rfl⟩:=Int.eq_ofNat_of_zero_le h4;refine ⟨UInt8.ofNat k,?_,trivial,trivial⟩;rw [h1];show _=[Value.int .u8 ((UInt8.ofNat k).toNat:Int)]
 have:(UInt8.ofNat k).toNat=k:=by simp;omega
 rw [this]
theorem Opn.bool (ht:P.underlying T=some .bool):Opn P T Bool:=fun enc w spare held fuel cs x h=>by
 obtain ⟨b,h1,_⟩:=DataW.trod_bool ht h;exact ⟨b,h1,trivial,trivial⟩
theorem Opn.str (ht:P.underlying T=some .string):Opn P T ByteArray:=fun enc w spare held fuel cs x h=>by
 obtain ⟨s,h1,_,h3⟩:=DataW.trod_string ht h;refine ⟨s,h1,trivial,?_⟩;show s.size≤9223372036854775807
 have:s.size≤maxLen:=h3
 simp only [maxLen] at this;omega
theorem ZJ {α:Type} {p:Nat→α→Prop}:∀ (len:Nat),(∀ i,i < len→∃ t,p i t)→∃ ts:List α,ts.length=len∧∀ i t,ts[i]?=some t→p i t
 | 0,_=>⟨[],rfl,fun i t h=>by simp at h⟩
 | len+1,h=>by
  obtain ⟨ts,h1,h2⟩:=ZJ len (fun i hi=>h i om);obtain ⟨t,h3⟩:=h len om;refine ⟨ts++[t],by simp [h1],fun i t' hi=>?_⟩
  by_cases hlt:i < ts.length
  ·rw [List.getElem?_append_left hlt] at hi;exact h2 i t' hi
  ·rw [List.getElem?_append_right om] at hi
   have:i=len:=by
    have:=(List.getElem?_eq_some_iff.1 hi).1
    simp at this;omega
   subst this;rw [h1,Nat.sub_self] at hi;simp at hi;subst hi;exact h3
section
variable {τ δ:Type} [GT τ δ] [Ok δ]
theorem Opn.slice {e:TypeId} (ht:P.underlying T=some (.slice e)) (hc:P.cellsOf e=GT.sz τ) (he:Opn P e τ):Opn P T (TL τ):=fun enc w spare held fuel cs x h=>by
 rcases DataW.trod_slice ht h with ⟨h1,_⟩ | ⟨a,len,cap,elems,rest,n,_,h1,_,hb,hl,hm,hlen,hel,_,_⟩
 ·exact ⟨⟨none,0,0,[],[]⟩,h1,⟨Nat.le_refl _,by simp [maxLen],fun x hx=>(by cases hx),fun _=>rfl,fun a ha=>by cases ha⟩,Nat.zero_le _,fun x hx=>by cases hx⟩
 ·rw [hc] at hel
  have key:∀ i,i < len→∃ t:τ,w.cells? 0 (a.add (i*GT.sz τ)) (GT.sz τ)=some (GT.cells t)∧GT.rd w [] t∧Ok.ok (GT.dat t):=by
   intro i hi
   have h2:=hel i hi
   have h3:i < elems.length:=by omega
   rw [List.getElem?_eq_getElem h3] at h2;obtain ⟨cs',h4,h5⟩:=Option.bind_eq_some_iff.1 h2;obtain ⟨t,h6,h7⟩:=he enc w spare held n cs' _ h5;subst h6;exact ⟨t,h4,h7⟩
  have key2:=ZJ (p:=fun i (t:τ)=>w.cells? 0 (a.add (i*GT.sz τ)) (GT.sz τ)=some (GT.cells t)∧GT.rd w [] t∧Ok.ok (GT.dat t)) len key
  obtain ⟨ts,hts,hts2⟩:=key2
  have hcell:∀ i t k v,ts[i]?=some t→(GT.cells t)[k]?=some v→w.cell? ((a.add (i*GT.sz τ)).add k)=some v:=by
   intro i t k v hi hk
   have h2:=(hts2 i t hi).1
   unfold World.cells? at h2
   split at h2
   ·have hkl:k < GT.sz τ:=by rw [← GT.len t];exact (List.getElem?_eq_some_iff.1 hk).1
    have:=mapM_some_get h2 k k (by simp [hkl])
    rw [this,hk]
   ·cases h2
  refine ⟨⟨some a,cap,0,ts,[]⟩,?_,⟨by show ts.length≤cap;omega,hm,fun t ht=>?_,fun h=>(by cases h),fun a' ha'=>?_⟩,?_,fun x hx=>?_⟩
  ·rw [h1];show _=[Value.slice (some a) ts.length cap];rw [hts]
  ·obtain ⟨i,hi⟩:=List.getElem?_of_mem ht;exact (hts2 i t hi).2.1
  rotate_left
  ·show (ts.map GT.dat).length≤9223372036854775807;rw [List.length_map]
   have:cap≤maxLen:=hm
   simp only [maxLen] at this;omega
  ·obtain ⟨t,ht,rfl⟩:=List.mem_map.1 hx;obtain ⟨i,hi⟩:=List.getElem?_of_mem ht;exact (hts2 i t hi).2.2
  ·have ha2:a=a':=by simpa using ha'
   subst ha2
   have hspot:ts≠[]→a.spot=none:=by
    intro hne
    have h0:0 < ts.length:=List.length_pos_iff.2 hne
    have hpos:=GT.pos (τ:=τ)
    have h2:ts[0]?=some ts[0]:=List.getElem?_eq_getElem h0
    have hl0:0 < (GT.cells ts[0]).length:=by rw [GT.len];exact hpos
    have h3:(GT.cells ts[0])[0]?=some ((GT.cells ts[0])[0]'hl0):=List.getElem?_eq_getElem hl0
    have h4:=hcell 0 _ 0 _ h2 h3
    simp only [Nat.zero_mul,Addr.add,if_true] at h4;unfold World.cell? at h4
    split at h4
    ·split at h4
     ·cases h4
     ·rename_i hs;simpa using hs
    ·cases h4
   refine ⟨hspot,fun j v hv=>⟨?_,by simp⟩⟩
   have hpos:=GT.pos (τ:=τ)
   have hj:j < ts.length*GT.sz τ:=by rw [← De];exact (List.getElem?_eq_some_iff.1 hv).1
   have h5:j / GT.sz τ < ts.length:=Nat.div_lt_of_lt_mul (by rw [Nat.mul_comm];exact hj)
   have h6:ts[j / GT.sz τ]?=some ts[j / GT.sz τ]:=List.getElem?_eq_getElem h5
   have h7:=Hx ts (j / GT.sz τ) (j % GT.sz τ) _ h6 (Nat.mod_lt _ hpos)
   rw [Nat.div_add_mod' j (GT.sz τ)] at h7;rw [h7] at hv
   have h8:=hcell _ _ _ _ h6 hv
   have hs:=hspot (fun e=>by subst e;simp at h5)
   obtain ⟨b,o,s⟩:=a
   have hs':s=none:=hs
   subst hs';rw [Fx,Fx,Nat.add_assoc,Nat.div_add_mod' j (GT.sz τ)] at h8;exact h8
end
def OpnFs (P:Program) (off:Nat) (fs:List Field) (τ:Type) {δ:Type} [GT τ δ] [Ok δ]:Prop :=
 ∀ {H:Type} (enc:TypeId×Value→H) (w:World) (spare:Nat→Bool) (held:Bool) (n:Nat) (cs:List Value),
  (∀ f,f∈fs→∃ x,DataW.trod enc P w 0 spare held n f.type ((cs.drop f.offset).take (P.cellsOf f.type))=some x)→∃ t:τ,(cs.drop off).take (GT.sz τ)=GT.cells t∧GT.rd w [] t∧Ok.ok (GT.dat t)
section
variable {τ τ' δ δ':Type} [GT τ δ] [GT τ' δ'] [Ok δ] [Ok δ']
theorem OpnFs.one {f:Field} {off:Nat} (ho:f.offset=off) (hc:P.cellsOf f.type=GT.sz τ) (h:Opn P f.type τ):OpnFs P off [f] τ:=fun enc w spare held n cs hh=>by
 obtain ⟨x,hx⟩:=hh f (by simp);obtain ⟨t,h1,h2⟩:=h enc w spare held n _ _ hx;rw [ho,hc] at h1;exact ⟨t,h1,h2⟩
theorem OpnFs.cons {f:Field} {fs:List Field} {off:Nat} (ho:f.offset=off) (hc:P.cellsOf f.type=GT.sz τ) (h:Opn P f.type τ) (hr:OpnFs P (off+GT.sz τ) fs τ'):OpnFs P off (f::fs) (τ×τ'):=fun enc w spare held n cs hh=>by
 obtain ⟨x,hx⟩:=hh f (by simp);obtain ⟨t,h1,h2,h2'⟩:=h enc w spare held n _ _ hx;obtain ⟨t',h3,h4,h4'⟩:=hr enc w spare held n cs (fun g hg=>hh g (List.mem_cons_of_mem _ hg));rw [ho,hc] at h1;refine ⟨(t,t'),?_,⟨h2,h4⟩,h2',h4'⟩;show (cs.drop off).take (GT.sz τ+GT.sz τ')=GT.cells t++GT.cells t';rw [List.take_add,h1,List.drop_drop,h3]
theorem Opn.struct {fs:List Field} (ht:P.underlying T=some (.struct fs.toArray)) (hc:P.cellsOf T=GT.sz τ) (h:OpnFs P 0 fs τ):Opn P T τ:=fun enc w spare held fuel cs x hx=>by
 obtain ⟨xs,n,_,_,hl,hxl,hf⟩:=DataW.trod_struct ht hx;obtain ⟨t,h1,h2⟩:=h enc w spare held n cs (fun f hfm=>by
  obtain ⟨i,hi⟩:=List.getElem?_of_mem hfm
  have h3:=hf i f (by simpa using hi)
  have h4:i < xs.length:=by rw [hxl];have:=(List.getElem?_eq_some_iff.1 hi).1;simpa using this
  rw [List.getElem?_eq_getElem h4] at h3;exact ⟨_,h3⟩)
 refine ⟨t,?_,h2⟩;rw [← h1,List.drop_zero,List.take_of_length_le (by rw [hl,hc];exact Nat.le_refl _)]
end
theorem Holds.below {W W':World} {M:List HP} (h:Holds W [] M W'):RowKit.Below W.heap.size W W':=⟨h.os,h.tape.1,h.output,h.size,fun k hk=>h.old k hk (by simp)⟩
theorem Spec.top {f:FuncId} {args:Array Value} {W:World} {R:Value→List HP→Prop} (h:Spec P f args W [] R):Calls P f args W fun e W'=>∃ v M',e=.returned v∧R v M'∧RowKit.Below W.heap.size W W' :=
 (h ⟨rfl,⟨rfl,Nat.le_refl _⟩,rfl,Nat.le_refl _,fun _ _ _=>rfl,fun x hx=>(by cases hx),by simp,fun k hk=>by simp at hk⟩).mono fun e W' ⟨v,M',h1,h2,h3⟩=>⟨v,M',h1,h2,h3.below⟩
end Go.Proofs.SL
namespace Go.Proofs.SL
open Go
variable {Γ:Cx} {l:Ca} {M M' M1 M2:List HP} {Q:Dw} {K:Dp} {w0 w:World} {S0:List Nat}
variable {rest:List Oper} {d:Nat} {ty:TypeId} {pos:String} {af:Array Edge}
class Bk (τ:Type) where
 bulk:τ→Nat
instance:Bk Int:=⟨fun _=>0⟩
instance:Bk Bool:=⟨fun _=>0⟩
instance:Bk UInt8:=⟨fun _=>0⟩
instance:Bk ByteArray:=⟨fun s=>s.size⟩
instance {α β:Type} [Bk α] [Bk β]:Bk (α×β):=⟨fun p=>Bk.bulk p.1+Bk.bulk p.2⟩
def DI {τ:Type} [Bk τ]:List τ→Nat
 | []=>0
 | x::xs=>Bk.bulk x+DI xs
instance {τ:Type} [Bk τ]:Bk (TL τ):=⟨fun L=>L.els.length+DI L.els⟩
theorem HW (n:Int):Bk.bulk n=0:=rfl
theorem Hj (n:Bool):Bk.bulk n=0:=rfl
theorem HB (s:ByteArray):Bk.bulk s=s.size:=rfl
theorem FR {α β:Type} [Bk α] [Bk β] (a:α) (b:β):Bk.bulk (a,b)=Bk.bulk a+Bk.bulk b:=rfl
theorem PW {τ:Type} [Bk τ] (a:Option Addr) (c e:Nat) (x:List τ) (y:List Value):Bk.bulk (⟨a,c,e,x,y⟩:TL τ)=x.length+DI x:=rfl
section
variable {τ:Type} [Bk τ]
theorem Sf (xs ys:List τ):DI (xs++ys)=DI xs+DI ys:=by
 induction xs with
 | nil=>simp [DI]
 | cons x xs ih=>simp only [List.cons_append,DI,ih];omega
theorem Pf {xs:List τ} {k:Nat} {x:τ} (h:xs[k]?=some x):DI (xs.take (k+1))=DI (xs.take k)+Bk.bulk x:=by
 rw [List.take_add_one,h,Sf];simp [DI]
theorem Gi (xs:List τ) (k:Nat):DI (xs.take k)≤DI xs:=by
 conv=>rhs;rw [← List.take_append_drop k xs]
 rw [Sf];omega
theorem XE {xs:List τ} {x:τ} (h:x∈xs):Bk.bulk x≤DI xs:=by
 induction xs with
 | nil=>cases h
 | cons y ys ih =>
  rcases List.mem_cons.1 h with rfl | h
  ·simp only [DI];omega
  ·have:=ih h;simp only [DI];omega
end
theorem DU (n:Int):GT.dat n=n:=rfl
theorem DD (n:Bool):GT.dat n=n:=rfl
theorem Ee (s:ByteArray):GT.dat s=s:=rfl
theorem Fy {α β δ ε:Type} [GT α δ] [GT β ε] (a:α) (b:β):GT.dat (a,b)=(GT.dat a,GT.dat b):=rfl
theorem Ln {τ δ:Type} [GT τ δ] (a:Option Addr) (c e:Nat) (x:List τ) (y:List Value):GT.dat (⟨a,c,e,x,y⟩:TL τ)=x.map GT.dat:=rfl
theorem HC {α β δ ε:Type} [GT α δ] [GT β ε] {a:α} {b:β} (hf:Flat a) (h:Holds w0 S0 (Af b::M) w):Holds w0 S0 (Af (a,b)::M) w:=Pd (h.addFlat hf)
theorem Bt {x:HP} (p:Pick x M M') (h:Holds w0 S0 M w):Holds w0 S0 (x::M') w:=h.perm p.perm
theorem BS {α β δ ε:Type} [GT α δ] [GT β ε] {a:α} {b:β} (p:Pick (Af a) M M') (h:Holds w0 S0 (Af b::M) w):Holds w0 S0 (Af (a,b)::M') w :=
 Pd (h.perm ((p.perm.cons _).trans (List.Perm.swap _ _ _)))
section
variable {τ δ:Type} [GT τ δ]
theorem QT {p y:Operand} {T g i Lc n:Nat} {Lx:List τ} {Lt:List Value} {Le:TypeId} {v:Value} {x:τ} (x':τ) (hp0:ev l p=some (.pointer (some ⟨g,0+i*n,none⟩))) (hy:ev l y=some v)
  (hp:Pick (Af (⟨some ⟨g,0,none⟩,Lc,Le,Lx,Lt⟩:TL τ)) M M1) (hn:GT.sz τ=n) (hi:Lx[i]?=some x) (hv:v.cells.toList=GT.cells x') (hf:Flat x')
  (hT:Jp Γ.P T=some n∨(HO Γ.P T=true∧n=1)) (hk:L Γ rest l (Af (⟨some ⟨g,0,none⟩,Lc,Le,Lx.set i x',Lt⟩:TL τ)::M1) K) :
  L Γ ({ dst:=none,op:=.store T p y,type:=ty,pos,after:=af,guard:=none }::rest) l M K :=
 AA (M':=Af x'::M) (fun _ h=>h.addFlat hf) (Wf x' hp0 hy (Pick.there _ hp) hn hi hv (Pick.here _) hT hk)
end
theorem fV {α:Type} {xs:List α} {k:Nat} {x:α} (h:k < xs.length):(xs.set k x).take (k+1)=xs.take k++[x]:=by
 rw [List.set_eq_take_append_cons_drop,if_pos h,List.take_append,List.length_take,Nat.min_eq_left (Nat.le_of_lt h),List.take_of_length_le (by rw [List.length_take];omega),show k+1 - k=1 by omega];rfl
theorem Sg {α β γ:Type} (f:α→γ) (g:β→γ) {xs:List α} {ys:List β} {k:Nat} {x:α} {y:β} (h:(xs.take k).map f=(ys.take k).map g) (hk:k < xs.length) (hy:ys[k]?=some y) (e:f x=g y) :
  ((xs.set k x).take (k+1)).map f=(ys.take (k+1)).map g:=by
 rw [fV hk,List.take_add_one,hy,List.map_append,List.map_append,h];simp [e]
noncomputable def eqB {α:Type} (a b:α):Bool:=@decide (a=b) (Classical.propDecidable _)
@[simp] theorem Fj {α:Type} {a b:α}:eqB a b=true↔a=b:=by unfold eqB;exact @decide_eq_true_iff _ (Classical.propDecidable _)
@[simp] theorem DT {α:Type} {a b:α}:eqB a b=false↔¬ a=b:=by unfold eqB;exact @decide_eq_false_iff_not _ (Classical.propDecidable _)
end Go.Proofs.SL
namespace Go.Proofs.SL
open Go
variable {Γ:Cx} {l:Ca} {M M' M1 M2:List HP} {Q:Dw} {K:Dp} {w0 w:World} {S0:List Nat} {P:Program}
variable {rest:List Oper} {d:Nat} {ty:TypeId} {pos:String} {af:Array Edge}
theorem PX {T:TypeId} (h:P.underlying T=some .bool) (a b:Bool):(Op.equal T (.bool a) (.bool b)).run P w=.ok (a == b) w:=run_equalIn_bool' w 9999 T a b h
theorem Vf {x y:Operand} {T:TypeId} {a b:Bool} (h:P.underlying T=some .bool):Fh P .eql T x y (.bool a) (.bool b) (.bool (a == b)):=fun w=>by simp [eqGuard,binOp,PX h]
theorem kK {x y:Operand} {T:TypeId} {a b:Bool} (h:P.underlying T=some .bool):Fh P .neq T x y (.bool a) (.bool b) (.bool (!(a == b))):=fun w=>by simp [eqGuard,binOp,PX h]
theorem Spec.to {f:FuncId} {args:Array Value} {R R':Value→List HP→Prop} (h:Spec P f args w M R) (hr:∀ v M,R v M→R' v M):Spec P f args w M R':=fun hw =>
 (h hw).mono fun e w' ⟨v,M',h1,h2,h3⟩=>⟨v,M',h1,hr v M' h2,h3⟩
section
variable {ops:Array Oper} {Msh pool:List HP} {E:Fl} {rs:List (Option Nat×Rel)} {cs0:List Nat} {KD:List (Option Nat×Rel)→List Nat→List HP→Prop}
theorem Dr {f:Nat} {xs:List Operand} {ats:Array TypeId} {vs:List Value} (R:Rel)
  (hf:IsFn Γ.P f) (hx:OpVs E True xs vs) (hc:∀ w F,Holds Γ.w0 Γ.S0 F w→(∀ h,h∈Msh→h∈F)→Spec Γ.P f vs.toArray w [] R)
  (hk:DV Γ ops Msh pool ((d,R)::E) ((some d,R)::rs) cs0 rest KD) :
  DV Γ ops Msh pool E rs cs0 ({ dst:=some d,op:=.call { callee:=.value (.func f),args:=xs.toArray,argTypes:=ats },type:=ty,pos:=pos,after:=af,guard:=none }::rest) KD:=by
 refine DV.mk R [] pool [] (by simp) rfl ?_ (by rw [Fi];exact hk);intro a w F Mk _ _ hw hm hfa hcf
 have hMk:Mk=[]:=hcf
 subst hMk;rw [Fi] at hfa;simp only [List.nil_append] at hw ⊢;rw [if_pos (by simp [Region.wanted])]
 have hw':Holds Γ.w0 Γ.S0 F w:=by simpa using hw
 have h2:(#[]++xs.toArray.map a.eval++#[]:Array Value)=vs.toArray:=by
  simp [OpVs.evals (o:={ dst:=some d,op:=.call { callee:=.value (.func f),args:=xs.toArray,argTypes:=ats },type:=ty,pos:=pos,after:=af,guard:=none }) trivial hfa xs vs hx (fun x hx=>by simp [Op.operands,Call.operands,hx])]
 rw [execOp_call_go,h2,hf.run];exact (hc w F hw' hm (Holds.split (M1:=[]) (M2:=F) hw)).mono fun e w'' ⟨v,M',h1,h3,h4⟩=>⟨v,M',h1,h3,Holds.frame (M1:=[]) (M2:=F) hw h4⟩
end
theorem CP {F:List HP} {b:Nat} {cs:List Value} {T:TypeId} (h:blk b cs T∈F) (hw:Sees w0 S0 F w):Cells w [] b 0 cs:=fun j v hv=>by
 have hp:w.heap[b]?=some (.cells cs.toArray T (0,0)):=hw.prs _ h
 refine ⟨?_,by simp⟩;rw [cell_of_row _ _ _ _ _ _ hp,Nat.zero_add]
 simpa using hv
theorem Cells.carry {F:List HP} {g o:Nat} {cs:List Value} (h:Cells w0 S0 g o cs) (hw:Holds w0 S0 F w):Cells w [] g o cs:=fun j v hv=>(h j v hv).carry (M1:=[]) (M2:=F) hw
def DE {α:Type} (p:α→Bool) (xs:List α):Int:=match xs.findIdx? p with | some i=>(i:Int) | none=>-1
theorem aP {α:Type} {p:α→Bool} {xs:List α} {k:Nat} {u:α} (h:∀ x,x∈xs.take k→p x=false) (hu:xs[k]?=some u) (hp:p u=true):DE p xs=k:=by
 unfold DE
 have hk:=(List.getElem?_eq_some_iff.1 hu)
 obtain ⟨hlt,hk⟩:=hk
 have:xs.findIdx? p=some k:=by
  rw [List.findIdx?_eq_some_iff_getElem];refine ⟨hlt,by rw [hk];exact hp,fun j hj=>?_⟩
  have:=h (xs[j]) (List.mem_iff_getElem?.2 ⟨j,by rw [List.getElem?_take_of_lt hj];exact List.getElem?_eq_getElem _⟩)
  simp [this]
 rw [this]
theorem Zg {α:Type} {p:α→Bool} {xs:List α} (h:∀ x,x∈xs→p x=false):DE p xs=-1:=by
 unfold DE;rw [List.findIdx?_eq_none_iff.2 h]
theorem Zh {α:Type} (p:α→Bool) (xs:List α):(DE p xs=-1∧xs.find? p=none)∨∃ (k:Nat) (u:α),DE p xs=(k:Int)∧xs[k]?=some u∧xs.find? p=some u∧k < xs.length:=by
 unfold DE
 cases h:xs.findIdx? p with
 | none =>
  refine .inl ⟨rfl,?_⟩;rw [List.find?_eq_none];intro x hx
  have:=List.findIdx?_eq_none_iff.1 h x hx
  simp [this]
 | some i =>
  obtain ⟨h1,h2,h3⟩:=List.findIdx?_eq_some_iff_getElem.1 h;refine .inr ⟨i,xs[i],rfl,List.getElem?_eq_getElem h1,?_,h1⟩;rw [List.find?_eq_some_iff_getElem];exact ⟨h2,i,h1,rfl,fun j hj=>by have:=h3 j hj;simpa using this⟩
noncomputable def pB (p:Prop):Bool:=@decide p (Classical.propDecidable p)
theorem dJ {p:Prop}:pB p=true↔p:=by unfold pB;exact @decide_eq_true_iff p (Classical.propDecidable p)
end Go.Proofs.SL
namespace Go.Proofs.SL
open Go
variable {Γ:Cx} {l:Ca} {M M' M1 M2:List HP} {Q:Dw} {K:Dp} {w0 w:World} {S0:List Nat} {P:Program}
variable {rest:List Oper} {d:Nat} {ty:TypeId} {pos:String} {af:Array Edge}
def Xi (ns:List Int):ByteArray:=ns.foldl (fun r n=>r.push (UInt8.ofNat n.toNat)) ByteArray.empty
theorem size_push (s:ByteArray) (b:UInt8):(s.push b).size=s.size+1:=ByteArray.size_push
theorem Tk (n:Int):(Xi [n]).size=1:=by unfold Xi;simp only [List.foldl_cons,List.foldl_nil,size_push];rfl
theorem XF {x:Operand} {S T e g off n c:Nat} {ns:List Int} {cs:List Value} (hn:Nat.blt d Γ.n=true) (hx:ev l x=some (.slice (some ⟨g,off,none⟩) n c)) (hS:Γ.P.underlying S=some (.slice e)) (he:Γ.P.underlying e=some (.int .u8)) (hT:Γ.P.underlying T=some .string)
  (hc:RdC Γ M g off cs) (hcs:cs=ns.map (Value.int .u8)) (hln:n=ns.length) (hk:L Γ rest ((d,.string (Xi ns))::l) M K) :
  L Γ ({ dst:=some d,op:=.convert S T x,type:=ty,pos:=pos,after:=af,guard:=none }::rest) l M K :=
 Fv hn (fun a' w ha hw=>by
  subst hcs;subst hln
  have hl:=Hy (P:=Γ.P) (hc w hw.sees)
  rw [List.length_map] at hl
  have h2:=run_bytesToString (P:=Γ.P) w ⟨g,off,none⟩ ns.length c ns hl
  simp only [execOp,ha.eval hx,Sem.run_bind,run_convert_bytes_string w S T e _ _ _ hS he hT,h2,Result.andThen_ok,Sem.run_pure]
  rfl) hk
theorem kL {x y:Operand} {T:TypeId} (k n:Nat) (hn:n≠0):Fh P .rem T x y (.int .i64 (k:Int)) (.int .i64 (n:Int)) (.int .i64 ((k % n:Nat):Int)):=by
 have:=@MO P T x y .i64 (k:Int) (n:Int) om
 rwa [show ((k:Int).tmod (n:Int))=((k % n:Nat):Int) from rfl] at this
theorem kM {x y:Operand} {T:TypeId} (k n:Nat) (hn:n≠0) (hk:k≤9223372036854775807):Fh P .quo T x y (.int .i64 (k:Int)) (.int .i64 (n:Int)) (.int .i64 ((k / n:Nat):Int)):=by
 have:=@dB P T x y .i64 (k:Int) (n:Int) om
 rw [show ((k:Int).tdiv (n:Int))=((k / n:Nat):Int) from rfl] at this
 have h2:=Nat.div_le_self k n
 generalize k / n=q at *
 rwa [CE (by unfold inR;omega)] at this
def dg (k:Nat):ByteArray:=Xi [IntKind.u8.wrap (48+((k % 10:Nat):Int))]
def QU (k:Nat) (s:ByteArray):ByteArray:=if h:k=0 then s else QU (k / 10) (dg k++s)
 termination_by k
 decreasing_by omega
def mtx (k:Nat):ByteArray:=ByteArray.mk #[109]++QU k (ByteArray.mk #[])
theorem dK (s:ByteArray):QU 0 s=s:=by rw [QU];simp
theorem dL {k:Nat} (s:ByteArray) (h:0 < k):QU k s=QU (k / 10) (dg k++s):=by rw [QU,dif_neg om]
theorem kN (k:Nat):(dg k).size=1:=Tk _
class Mk (τ:Type) where
 cnt:τ→Nat
 mkd:Nat→τ→τ
instance:Mk Int:=⟨fun _=>1,fun k _=>(k:Int)⟩
instance:Mk ByteArray:=⟨fun _=>1,fun k _=>mtx k⟩
instance {α β:Type} [Mk α] [Mk β]:Mk (α×β):=⟨fun p=>Mk.cnt p.1+Mk.cnt p.2,fun k p=>(Mk.mkd k p.1,Mk.mkd (k+Mk.cnt p.1) p.2)⟩
section
variable {τ:Type} [Mk τ]
def CL:List τ→Nat
 | []=>0
 | x::xs=>Mk.cnt x+CL xs
def mks (k:Nat):List τ→List τ
 | []=>[]
 | x::xs=>Mk.mkd k x::mks (k+Mk.cnt x) xs
instance:Mk (TL τ):=⟨fun L=>CL L.els,fun k L=>{ L with els:=mks k L.els }⟩
theorem DQ (xs:List τ):∀ k,(mks k xs).length=xs.length:=by
 induction xs with
 | nil=>intro k;rfl
 | cons x xs ih=>intro k;simp [mks,ih]
theorem Tl (xs ys:List τ):CL (xs++ys)=CL xs+CL ys:=by
 induction xs with
 | nil=>simp [CL]
 | cons x xs ih=>simp only [List.cons_append,CL,ih];omega
theorem Dy {xs:List τ} {i:Nat} {x:τ} (h:xs[i]?=some x):CL (xs.take (i+1))=CL (xs.take i)+Mk.cnt x:=by
 rw [List.take_add_one,h,Tl];simp [CL]
theorem DY (xs:List τ) (i:Nat):CL (xs.take i)≤CL xs:=by
 conv=>rhs;rw [← List.take_append_drop i xs]
 rw [Tl];omega
theorem KR {xs:List τ}:∀ {k i:Nat} {x:τ},xs[i]?=some x→(mks k xs)[i]?=some (Mk.mkd (k+CL (xs.take i)) x):=by
 induction xs with
 | nil=>intro k i x h;simp at h
 | cons y ys ih =>
  intro k i x h
  cases i with
  | zero=>simp at h;subst h;simp [mks,CL]
  | succ i =>
   simp only [mks,List.getElem?_cons_succ,List.take_succ_cons,CL] at h ⊢;rw [ih h,Nat.add_assoc]
def Cr (k i:Nat) (xs:List τ):List τ:=(mks k xs).take i++xs.drop i
theorem IC (k:Nat) (xs:List τ):Cr k 0 xs=xs:=by simp [Cr]
theorem Jy (k:Nat) {i:Nat} {xs:List τ} (h:xs.length≤i):Cr k i xs=mks k xs:=by
 unfold Cr;rw [List.take_of_length_le (by rw [DQ];exact h),List.drop_of_length_le h,List.append_nil]
theorem Hk (k i:Nat) (xs:List τ):(Cr k i xs).length=xs.length:=by
 unfold Cr;rw [List.length_append,List.length_take,List.length_drop,DQ];omega
theorem CW {k i:Nat} {xs:List τ} {x:τ} (h:xs[i]?=some x):(Cr k i xs)[i]?=some x:=by
 unfold Cr
 have hlt:=(List.getElem?_eq_some_iff.1 h).1
 rw [List.getElem?_append_right (by rw [List.length_take,DQ];omega),List.length_take,DQ,Nat.min_eq_left om,Nat.sub_self,List.getElem?_drop]
 simpa using h
theorem Jz {k i:Nat} {xs:List τ} {x:τ} (h:xs[i]?=some x):(Cr k i xs).set i (Mk.mkd (k+CL (xs.take i)) x)=Cr k (i+1) xs:=by
 have hlt:=(List.getElem?_eq_some_iff.1 h).1
 apply List.ext_getElem?
 intro j;rw [List.getElem?_set];unfold Cr
 by_cases hj:i=j
 ·subst hj;rw [if_pos rfl,if_pos (by rw [List.length_append,List.length_take,List.length_drop,DQ];omega),List.getElem?_append_left (by rw [List.length_take,DQ];omega),List.getElem?_take_of_lt om,KR h]
 ·rw [if_neg hj];rcases Nat.lt_or_ge j i with h1 | h1
  ·rw [List.getElem?_append_left (by rw [List.length_take,DQ];omega),List.getElem?_append_left (by rw [List.length_take,DQ];omega),List.getElem?_take_of_lt h1,List.getElem?_take_of_lt om]
  ·rw [List.getElem?_append_right (by rw [List.length_take,DQ];omega),List.getElem?_append_right (by rw [List.length_take,DQ];omega),List.length_take,List.length_take,DQ,Nat.min_eq_left om,Nat.min_eq_left om,List.getElem?_drop,List.getElem?_drop]
   congr 1;omega
end
class Mv (τ:Type) where
 cnt:τ→Nat
 mkd:Nat→τ→τ
instance:Mv Int:=⟨fun _=>0,fun _ t=>t⟩
instance:Mv Bool:=⟨fun _=>0,fun _ t=>t⟩
instance:Mv ByteArray:=⟨fun _=>0,fun _ t=>t⟩
instance {τ:Type} [Mk τ]:Mv (TL τ):=⟨Mk.cnt,Mk.mkd⟩
instance {α β:Type} [Mv α] [Mv β]:Mv (α×β):=⟨fun p=>Mv.cnt p.1+Mv.cnt p.2,fun k p=>(Mv.mkd k p.1,Mv.mkd (k+Mv.cnt p.1) p.2)⟩
section
variable {τ δ:Type} [GT τ δ]
theorem Lo {L:TL τ} {i:Nat} {x:τ} (hi:L.els[i]?=some x) (h:Holds w0 S0 (Af L::M) w):Holds w0 S0 (Af x::Bf L::BU (L.els.eraseIdx i)::M) w :=
 (Se hi ((IG h).perm (List.Perm.swap _ _ _))).perm (((List.Perm.swap _ _ _).cons _).trans (List.Perm.refl _))
theorem NG {L:TL τ} {i:Nat} {x x':τ} (hi:L.els[i]?=some x) (hc:GT.cells x'=GT.cells x) (h:Holds w0 S0 (Af x'::Bf L::BU (L.els.eraseIdx i)::M) w):Holds w0 S0 (Af ({ L with els:=L.els.set i x' }:TL τ)::M) w:=by
 have hlt:=(List.getElem?_eq_some_iff.1 hi).1
 have hx:=(List.getElem?_eq_some_iff.1 hi).2
 have h2:=h.perm (List.Perm.swap (Bf L) (Af x') _)
 have h3:Holds w0 S0 (Af x'::BU (L.els.eraseIdx i)::(Bf L::M)) w:=h.perm ((List.Perm.swap _ _ _).cons _)
 have h4:=TC hlt h3
 have hrow:AJ (L.els.set i x')=AJ L.els:=by
  rw [Ot _ _ _ hlt,hc]
  have h5:=Ot L.els i x hlt
  rw [← h5]
  congr 1
  rw [← hx];exact List.set_getElem_self hlt
 have h6:=h4.perm (List.Perm.swap (Bf L) _ _)
 refine IH (h6.reFp (List.Perm.of_eq rfl) fun y hy=>?_);rcases List.mem_cons.1 hy with rfl | hy
 ·have hp:=h6.prs (Bf L) (List.mem_cons_self ..)
  refine ⟨by rw [List.length_set];exact hp.1,hp.2.1,fun ha=>?_,fun a ha=>?_⟩
  ·obtain ⟨h7,h8⟩:=hp.2.2.1 ha;rw [h7] at hlt;simp at hlt
  ·obtain ⟨h7,h8,h9,h10⟩:=hp.2.2.2 a ha;exact ⟨h7,h8,by rw [hrow];exact h9,by rw [List.length_set];exact h10⟩
 ·exact h6.prs y (List.mem_cons_of_mem _ hy)
theorem II {L:TL τ} (h:GT.ow w L):L.els.length≤9223372036854775807∧(0 < L.els.length→∃ g,L.a=some ⟨g,0,none⟩):=by
 have h1:=h.1;have h2:=h.2.1;simp only [maxLen] at h2
 refine ⟨by omega,fun hl=>?_⟩
 cases ha:L.a with
 | none=>have:=(h.2.2.2.1 ha).1;rw [this] at hl;simp at hl
 | some a =>
  obtain ⟨h3,h4,_⟩:=h.2.2.2.2 _ ha;obtain ⟨b,o,s⟩:=a;exact ⟨b,by simp at h3 h4;rw [h3,h4]⟩
end
theorem DW {α:Type} {xs:List α} {i:Nat} {x y:α} (h:xs[i]?=some y):(xs.set i x)[i]?=some x:=by
 rw [List.getElem?_set_self (List.getElem?_eq_some_iff.1 h).1]
theorem Lp {c:Code} {φ:Prop} (h:∀ w,Holds Γ.w0 Γ.S0 M w→φ) (hk:φ→W Γ c l M Q):W Γ c l M Q:=fun a w ha hw=>hk (h w hw) a w ha hw
theorem nK {φ:Prop} (h:∀ w,Holds Γ.w0 Γ.S0 M w→φ) (hk:φ→L Γ rest l M K):L Γ rest l M K:=fun ops a w Q ha hw hq=>hk (h w hw) ops a w Q ha hw hq
theorem EX {α β:Type} [Mk α] [Mk β] (k:Nat) (a:α) (b:β):Mk.mkd k (a,b)=(Mk.mkd k a,Mk.mkd (k+Mk.cnt a) b):=rfl
theorem Cg (k:Nat) (a:Int):Mk.mkd k a=(k:Int):=rfl
theorem Ch (k:Nat) (a:ByteArray):Mk.mkd k a=mtx k:=rfl
theorem CI (a:Int):Mk.cnt a=1:=rfl
theorem CJ (a:ByteArray):Mk.cnt a=1:=rfl
theorem Cw {α β:Type} [Mk α] [Mk β] (a:α) (b:β):Mk.cnt (a,b)=Mk.cnt a+Mk.cnt b:=rfl
theorem QV {τ:Type} [Mk τ] (k:Nat) (a:Option Addr) (c e:Nat) (x:List τ) (y:List Value):Mk.mkd k (⟨a,c,e,x,y⟩:TL τ)=⟨a,c,e,mks k x,y⟩:=rfl
theorem Hr {f:Nat} {xs:List Operand} {ats:Array TypeId} {vs:List Value} {h:HP} {M2:List HP} {R:Value→List HP→Prop}
  (hn:Nat.blt d Γ.n=true) (hf:IsFn Γ.P f) (hx:evs l xs=some vs) (hp:Pick h M M2) (hc:∀ w,Holds Γ.w0 Γ.S0 M w→Spec Γ.P f vs.toArray w [h] R)
  (hk:∀ v M',R v M'→L Γ rest ((d,v)::l) (M'++M2) K):L Γ ({ dst:=some d,op:=.call { callee:=.value (.func f),args:=xs.toArray,argTypes:=ats },type:=ty,pos:=pos,after:=af,guard:=none }::rest) l M K :=
 Ue (M1:=[h]) (M2:=M2) (R:=R) rfl rfl rfl (Nat.le_of_ble_eq_true hn) hf hx hp.perm (fun w hw=>hc w (hw.perm hp.perm.symm)) hk
theorem CA {α β δ ε:Type} [GT α δ] [GT β ε] (a:α) (b:β):GT.cells (a,b)=GT.cells a++GT.cells b:=rfl
theorem Gy {τ δ:Type} [GT τ δ] [Mk τ] (k:Nat) (L:TL τ):GT.cells (Mk.mkd k L:TL τ)=GT.cells L:=by
 show [Value.slice L.a (mks k L.els).length L.cap]=[Value.slice L.a L.els.length L.cap];rw [DQ]
theorem ID {α β δ ε:Type} [GT α δ] [GT β ε] {a:α} {b:β} (p:Pick (Af b) M M') (h:Holds w0 S0 (Af a::M) w):Holds w0 S0 (Af (a,b)::M') w:=Pd (h.perm (p.perm.cons _))
theorem Vg {α β:Type} [Mv α] [Mv β] (k:Nat) (a:α) (b:β):Mv.mkd k (a,b)=(Mv.mkd k a,Mv.mkd (k+Mv.cnt a) b):=rfl
theorem dM (k:Nat) (a:Int):Mv.mkd k a=a:=rfl
theorem ZK (k:Nat) (a:Bool):Mv.mkd k a=a:=rfl
theorem dN (k:Nat) (a:ByteArray):Mv.mkd k a=a:=rfl
theorem jA {τ:Type} [Mk τ] (k:Nat) (a:TL τ):Mv.mkd k a=Mk.mkd k a:=rfl
theorem PH {α β:Type} [Mv α] [Mv β] (a:α) (b:β):Mv.cnt (a,b)=Mv.cnt a+Mv.cnt b:=rfl
theorem Uq (a:Int):Mv.cnt a=0:=rfl
theorem Tm (a:Bool):Mv.cnt a=0:=rfl
theorem Ur (a:ByteArray):Mv.cnt a=0:=rfl
theorem KS {τ:Type} [Mk τ] (a:TL τ):Mv.cnt a=Mk.cnt a:=rfl
end Go.Proofs.SL
namespace Go.Proofs.SL
open Go
variable {Γ:Cx} {l:Ca} {M M' M1 M2:List HP} {Q:Dw} {K:Dp} {w0 w:World} {S0:List Nat} {P:Program}
variable {rest:List Oper} {d:Nat} {ty:TypeId} {pos:String} {af:Array Edge}
theorem Pg {T e sz by_:Nat} {z:List Value} (ht:elOf P T=some (e,sz,by_,z)) (w:World) :
  (Instr.buildSlice T 0 #[]).run P w=.ok (.slice (some ⟨w.heap.size,0,none⟩) 0 0) (w.alloc (.cells (#[]:Array Value) e (0,0))):=by
 unfold elOf at ht
 split at ht<;>(try cases ht)
 rename_i e' het
 split at ht<;>(try cases ht)
 rename_i i' hi'
 split at ht<;>cases ht
 simp [Instr.buildSlice,underlying,het,sizeOf,typeInfo,hi',newRow,Instr.fill];rw [show (Array.map (fun _:Nat=>(default:Value)) (Array.range 0))=#[] from Array.eq_empty_of_size_eq_zero (by simp)]
theorem Wy (τ:Type) {δ:Type} [GT τ δ] {T e sz by_:Nat} {z:List Value} (hn:Nat.blt d Γ.n=true) (ht:elOf Γ.P T=some (e,sz,by_,z))
  (hk:∀ b,L Γ rest ((d,.slice (some ⟨b,0,none⟩) 0 0)::l) (Af (⟨some ⟨b,0,none⟩,0,e,[],[]⟩:TL τ)::M) K) :
  L Γ ({ dst:=some d,op:=.buildSlice T 0 #[],type:=ty,pos,after:=af,guard:=none }::rest) l M K :=
 NX (fun v M'=>∃ b,v=.slice (some ⟨b,0,none⟩) 0 0∧M'=Af (⟨some ⟨b,0,none⟩,0,e,[],[]⟩:TL τ)::M) rfl rfl (Nat.le_of_ble_eq_true hn)
  (fun a w ha hw=>by
   refine ⟨_,_,w.alloc (.cells ([]:List Value).toArray e (0,0)),⟨w.heap.size,rfl,rfl⟩,?_,?_⟩
   ·have:=Pg ht w
    simp only [execOp];simp [this]
   ·have h2:=hw.new (cs:=[]) (T:=e) (b:=w.heap.size) rfl
    refine h2.reFp (List.Perm.of_eq rfl) fun x hx=>?_;rcases List.mem_cons.1 hx with rfl | hx
    ·have hp:=h2.prs (blk w.heap.size [] e) (List.mem_cons_self ..)
     refine ⟨Nat.le_refl _,by simp [maxLen],fun x hx=>(by cases hx),fun ha=>(by cases ha),fun a ha=>?_⟩;cases ha;exact ⟨rfl,rfl,hp,by simp⟩
    ·exact h2.prs x (List.mem_cons_of_mem _ hx))
  (fun v M' ⟨b,h1,h2⟩=>by subst h1;subst h2;exact hk b)
class Bd (τ:Type) {δ:outParam Type} [GT τ δ] [Bk τ] where
 bd:δ→Nat
 eq:∀ x:τ,Bk.bulk x=bd (GT.dat x)
class Bm (τ:Type) [Bk τ] [Mk τ] where
 A:Nat
 le:∀ x:τ,Mk.cnt x≤A*(1+Bk.bulk x)
instance:Bd Int:=⟨fun _=>0,fun _=>rfl⟩
instance:Bd Bool:=⟨fun _=>0,fun _=>rfl⟩
instance:Bd ByteArray:=⟨fun s=>s.size,fun _=>rfl⟩
instance {α β δ ε:Type} [GT α δ] [GT β ε] [Bk α] [Bk β] [Bd α] [Bd β]:Bd (α×β):=⟨fun p=>Bd.bd (τ:=α) p.1+Bd.bd (τ:=β) p.2,fun x=>by
 obtain ⟨a,b⟩:=x;simp only [FR,Fy,Bd.eq]⟩
def bds (τ:Type) {δ:Type} [GT τ δ] [Bk τ] [Bd τ]:List δ→Nat
 | []=>0
 | x::xs=>Bd.bd (τ:=τ) x+bds τ xs
theorem fW {τ δ:Type} [GT τ δ] [Bk τ] [Bd τ] (xs:List τ):DI xs=bds τ (xs.map GT.dat):=by
 induction xs with
 | nil=>rfl
 | cons x xs ih=>simp only [List.map_cons,DI,bds,Bd.eq,ih]
instance {τ δ:Type} [GT τ δ] [Bk τ] [Bd τ]:Bd (TL τ):=⟨fun xs=>xs.length+bds τ xs,fun L=>by
 obtain ⟨_,_,_,xs,_⟩:=L;simp only [PW,Ln,fW,List.length_map]⟩
theorem fX {τ δ:Type} [GT τ δ] [Bk τ] [Bd τ] {x y:τ} (h:GT.dat x=GT.dat y):Bk.bulk x=Bk.bulk y:=by rw [Bd.eq,Bd.eq,h]
instance:Bm Int:=⟨1,fun x=>by show 1≤1*(1+0);omega⟩
instance:Bm ByteArray:=⟨1,fun x=>by show 1≤1*(1+x.size);omega⟩
instance {α β:Type} [Bk α] [Bk β] [Mk α] [Mk β] [Bm α] [Bm β]:Bm (α×β):=⟨Bm.A α+Bm.A β,fun x=>by
 obtain ⟨a,b⟩:=x
 have h1:=Bm.le a;have h2:=Bm.le b
 simp only [Cw,FR]
 have h3:Bm.A α*(1+Bk.bulk a)≤Bm.A α*(1+(Bk.bulk a+Bk.bulk b)):=Nat.mul_le_mul_left _ om
 have h4:Bm.A β*(1+Bk.bulk b)≤Bm.A β*(1+(Bk.bulk a+Bk.bulk b)):=Nat.mul_le_mul_left _ om
 rw [Nat.add_mul];omega⟩
theorem kO {τ:Type} [Bk τ] [Mk τ] [Bm τ] (xs:List τ):CL xs≤Bm.A τ*(xs.length+DI xs):=by
 induction xs with
 | nil=>simp [CL]
 | cons x xs ih =>
  have h:=Bm.le x
  simp only [CL,List.length_cons,DI];rw [show xs.length+1+(Bk.bulk x+DI xs)=(1+Bk.bulk x)+(xs.length+DI xs) by omega,Nat.mul_add];omega
theorem TE {τ:Type} [Bk τ] [Mk τ] [Bm τ] (L:TL τ):Mk.cnt L≤Bm.A τ*Bk.bulk L:=kO L.els
instance {τ:Type} [Bk τ] [Mk τ] [Bm τ]:Bm (TL τ):=⟨Bm.A τ,fun L=>Nat.le_trans (TE L) (Nat.mul_le_mul_left _ om)⟩
class Bv (τ:Type) [Bk τ] [Mv τ] where
 A:Nat
 le:∀ x:τ,Mv.cnt x≤A*Bk.bulk x
instance:Bv Int:=⟨0,fun x=>by show 0≤0*0;omega⟩
instance:Bv Bool:=⟨0,fun x=>by show 0≤0*0;omega⟩
instance:Bv ByteArray:=⟨0,fun x=>by show 0≤0*x.size;omega⟩
instance {τ:Type} [Bk τ] [Mk τ] [Bm τ]:Bv (TL τ):=⟨Bm.A τ,TE⟩
instance {α β:Type} [Bk α] [Bk β] [Mv α] [Mv β] [Bv α] [Bv β]:Bv (α×β):=⟨Bv.A α+Bv.A β,fun x=>by
 obtain ⟨a,b⟩:=x
 have h1:=Bv.le a;have h2:=Bv.le b
 simp only [PH,FR]
 have h3:Bv.A α*Bk.bulk a≤Bv.A α*(Bk.bulk a+Bk.bulk b):=Nat.mul_le_mul_left _ om
 have h4:Bv.A β*Bk.bulk b≤Bv.A β*(Bk.bulk a+Bk.bulk b):=Nat.mul_le_mul_left _ om
 rw [Nat.add_mul];omega⟩
class Cv (τ:Type) {δ:outParam Type} [GT τ δ] [Mv τ]:Prop where
 eq:∀ (k:Nat) (x:τ),GT.cells (Mv.mkd k x)=GT.cells x
instance:Cv Int:=⟨fun _ _=>rfl⟩
instance:Cv Bool:=⟨fun _ _=>rfl⟩
instance:Cv ByteArray:=⟨fun _ _=>rfl⟩
instance {τ δ:Type} [GT τ δ] [Mk τ]:Cv (TL τ):=⟨fun k L=>Gy k L⟩
instance {α β δ ε:Type} [GT α δ] [GT β ε] [Mv α] [Mv β] [Cv α] [Cv β]:Cv (α×β):=⟨fun k x=>by
 obtain ⟨a,b⟩:=x;rw [Vg,CA,CA,Cv.eq,Cv.eq]⟩
theorem kP {τ δ:Type} [GT τ δ] [Bk τ] [Mv τ] [Bv τ] (x:τ) (hA:Nat.ble (Bv.A τ) 1000=true) (hb:Bk.bulk x≤1000000000):Mv.cnt x≤1000000000000 :=
 Nat.le_trans (Bv.le x) (Nat.le_trans (Nat.mul_le_mul (Nat.le_of_ble_eq_true hA) hb) om)
theorem kQ {τ δ:Type} [GT τ δ] [Bk τ] [Mk τ] [Bm τ] (x:TL τ) (hA:Nat.ble (Bm.A τ) 1000=true) (hb:Bk.bulk x≤1000000000):Mk.cnt x≤1000000000000 :=
 Nat.le_trans (TE x) (Nat.le_trans (Nat.mul_le_mul (Nat.le_of_ble_eq_true hA) hb) om)
end Go.Proofs.SL
namespace Go.Proofs.SL
open Go
variable {P:Program} {T:TypeId} {x y:Operand} {k:IntKind} {a b:Int}
theorem nL:Fh P .and T x y (.int k a) (.int k b) (.int k (bits .and k a b)):=fun w=>by simp [eqGuard,binOp,intBits_and]
theorem pJ:Fh P .or T x y (.int k a) (.int k b) (.int k (bits .or k a b)):=fun w=>by simp [eqGuard,binOp,intBits_or]
theorem nM:Fh P .xor T x y (.int k a) (.int k b) (.int k (bits .xor k a b)):=fun w=>by simp [eqGuard,binOp,intBits_xor]
theorem nN {yk:IntKind} (h0:0≤b) (h1:b≤k.bits):Fh P .shr T x y (.int k a) (.int yk b) (.int k (a / 2 ^ b.toNat)):=fun w=>by simp [eqGuard,binOp,shift_shr k yk a b h0 h1]
theorem nO {yk:IntKind} (h0:0≤b) (h1:b≤k.bits):Fh P .shl T x y (.int k a) (.int yk b) (.int k (k.wrap (a*2 ^ b.toNat))):=fun w=>by simp [eqGuard,binOp,shift_shl k yk a b h0 h1]
end Go.Proofs.SL
namespace Go.Proofs.SL
open Go
variable {Γ:Cx} {rest:List Oper} {d:Nat} {ty:TypeId} {pos:String} {af:Array Edge} {gd:Option (Nat×Bool)}
variable {ops:Array Oper} {Msh pool:List HP} {E:Fl} {rs:List (Option Nat×Rel)} {cs0:List Nat} {KD:List (Option Nat×Rel)→List Nat→List HP→Prop}
end Go.Proofs.SL
namespace Go.Proofs.SL
open Go
section
variable {α β σ:Type}
def idx (l:List α) (i:Int):Option α:=if i < 0 then none else l[i.toNat]?
theorem fY {l:List α} {i:Int} {x:α}:idx l i=some x↔0≤i∧l[i.toNat]?=some x:=by
 unfold idx
 split
 ·constructor
  ·intro h;cases h
  ·intro h;omega
 ·constructor
  ·intro h;exact ⟨by omega,h⟩
  ·intro h;exact h.2
theorem BV {l:List α} {k:Nat}:idx l (k:Int)=l[k]?:=by
 unfold idx;rw [if_neg om];simp
def Ou (s:ByteArray) (i:Int):Option Int:=if h:0≤i∧i.toNat < s.size then some ((s[i.toNat]'h.2).toNat:Int) else none
theorem dP {s:ByteArray} {i n:Int} (h:Ou s i=some n):∃ h:0≤i∧i.toNat < s.size,n=((s[i.toNat]'h.2).toNat:Int):=by
 unfold Ou at h
 split at h
 ·rename_i hh;cases h;exact ⟨hh,rfl⟩
 ·cases h
def gb [Inhabited α] (g:Bool) (o:Option α) (k:α→Option β):Option β:=match g with | true=>o.bind k | false=>k default
theorem BJ [Inhabited α] {g:Bool} {o:Option α} {k:α→Option β} {r:β} (h:gb g o k=some r):∃ y,(g=true→o=some y)∧k y=some r:=by
 cases g with
 | true=>obtain ⟨y,h1,h2⟩:=Option.bind_eq_some_iff.1 h;exact ⟨y,fun _=>h1,h2⟩
 | false=>exact ⟨default,(fun hh=>(by cases hh)),h⟩
theorem TF {o:Option α} {k:α→Option β} {r:β} (h:Option.bind o k=some r):∃ y,o=some y∧k y=some r:=Option.bind_eq_some_iff.1 h
theorem Aw {c:Bool} {A B o:Option α} (hc:c=true) (h:cond c A B=o):A=o:=by subst hc;exact h
theorem Ax {c:Bool} {A B o:Option α} (hc:c=false) (h:cond c A B=o):B=o:=by subst hc;exact h
theorem Bu {o:Option α} {f:α→β} {r:β} (h:Option.map f o=some r):∃ a,o=some a∧r=f a:=by
 obtain ⟨a,h1,h2⟩:=Option.map_eq_some_iff.1 h;exact ⟨a,h1,h2.symm⟩
theorem Bo {a b:α} (h:some a=some b):b=a:=(Option.some.inj h).symm
def JW (f:σ→Option (σ ⊕ α)):Nat→σ→Option α
 | 0,_=>none
 | n+1,s=>match f s with
  | none=>none
  | some (.inl s')=>JW f n s'
  | some (.inr a)=>some a
theorem QW {f:σ→Option (σ ⊕ α)} {a:α}:∀ {n:Nat} {s:σ} (m:Nat),n≤m→JW f n s=some a→JW f m s=some a
 | 0,s,m,_,h=>by cases h
 | n+1,s,0,hm,_=>by omega
 | n+1,s,m+1,hm,h=>by
  simp only [JW] at h ⊢
  split at h
  ·cases h
  ·exact QW m om h
  ·exact h
noncomputable def BH (f:σ→Option (σ ⊕ α)) (s:σ):Option α :=
 @dite _ (∃ n a,JW f n s=some a) (Classical.propDecidable _) (fun h=>some h.choose_spec.choose) (fun _=>none)
theorem NH {f:σ→Option (σ ⊕ α)} {s:σ} {a:α}:BH f s=some a↔∃ n,JW f n s=some a:=by
 unfold BH
 constructor
 ·intro h
  split at h
  ·rename_i hh
   cases h;exact ⟨hh.choose,hh.choose_spec.choose_spec⟩
  ·cases h
 ·rintro ⟨n,hn⟩
  have hh:∃ n a,JW f n s=some a:=⟨n,a,hn⟩
  rw [dif_pos hh]
  have h2:=hh.choose_spec.choose_spec
  have key:∀ m b,JW f m s=some b→some b=some a:=by
   intro m b h2;rcases Nat.le_total n m with hle | hle
   ·rw [QW m hle hn] at h2;exact h2.symm
   ·rw [QW n hle h2] at hn;exact hn
  exact key _ _ h2
theorem JA (f:σ→Option (σ ⊕ α)) (s:σ):BH f s=match f s with | none=>none | some (.inl s')=>BH f s' | some (.inr a)=>some a:=by
 have key:∀ a,BH f s=some a↔(match f s with | none=>none | some (.inl s')=>BH f s' | some (.inr a)=>some a)=some a:=by
  intro a;rw [NH]
  constructor
  ·rintro ⟨n,h⟩
   cases n with
   | zero=>cases h
   | succ n =>
    simp only [JW] at h
    split at h
    ·cases h
    ·exact NH.2 ⟨n,h⟩
    ·exact h
  ·intro h
   split at h
   ·cases h
   ·rename_i s' hs
    obtain ⟨n,h⟩:=NH.1 h;exact ⟨n+1,by simp only [JW,hs];exact h⟩
   ·rename_i b hs
    exact ⟨1,by simp only [JW,hs];exact h⟩
 exact Option.ext key
theorem Kg {f:σ→Option (σ ⊕ α)} (I:σ→Prop) (μ:σ→Nat) (Q:α→Prop)
  (h:∀ s,I s→(∃ s',f s=some (.inl s')∧I s'∧μ s' < μ s)∨∃ a,f s=some (.inr a)∧Q a) (s:σ) (hs:I s):∃ a,BH f s=some a∧Q a:=by
 generalize hn:μ s=n
 induction n using Nat.strongRecOn generalizing s with
 | _ n ih =>
  rw [JA];rcases h s hs with ⟨s',h1,h2,h3⟩ | ⟨a,h1,h2⟩
  ·rw [h1];exact ih (μ s') (hn ▸ h3) s' h2 rfl
  ·rw [h1];exact ⟨a,rfl,h2⟩
def Ph (o:Option (σ ⊕ α)) (k:σ→Option α):Option α:=match o with
 | none=>none
 | some (.inl s)=>k s
 | some (.inr a)=>some a
theorem dQ {o:Option (σ ⊕ α)} {k:σ→Option α} {r:α} (h:Ph o k=some r):∃ e,o=some e∧(∀ a,e=.inr a→a=r)∧(∀ s,e=.inl s→k s=some r):=by
 unfold Ph at h
 split at h
 ·cases h
 ·exact ⟨_,rfl,fun a ha=>by (cases ha),fun s hs=>by cases hs;exact h⟩
 ·exact ⟨_,rfl,fun a ha=>by cases ha;cases h;rfl,fun s hs=>by cases hs⟩
end
variable {Γ:Cx} {l:Ca} {M M1 M2 F:List HP} {Q:Dw} {K:Dp} {w0 w:World} {S0:List Nat}
variable {rest:List Oper} {d:Nat} {ty:TypeId} {pos:String} {af:Array Edge}
theorem dR {c:Code} {Q':Dw} (h:W Γ c l M Q) (hq:∀ e l M,Q e l M→∃ M',(∀ w,Holds Γ.w0 Γ.S0 M w→Holds Γ.w0 Γ.S0 M' w)∧Q' e l M'):W Γ c l M Q':=fun a w ha hw =>
  Code.wp_mono (fun e a w q=>by
    cases e<;>first
      | exact q.elim
      | (obtain ⟨l,M,h1,h2,h3⟩:=q
         obtain ⟨M',h4,h5⟩:=hq _ _ _ h3;exact ⟨l,M',h1,h4 _ h2,h5⟩)) (h a w ha hw)
def Arr (Γ:Cx) (M M':List HP):Prop:=∃ M2,(∀ w,Holds Γ.w0 Γ.S0 M w→Holds Γ.w0 Γ.S0 M2 w)∧MSub M' M2
theorem Arr.sub {M M':List HP} (h:MSub M' M):Arr Γ M M':=⟨M,fun _ h=>h,h⟩
theorem BW {σ δ A:Type} {c:Code} {f:δ→Option (δ ⊕ A)} {r:A} (dat:σ→δ) (Ev:σ→Ca) (Mv:σ→List HP) (Ec:Ca) (Mc:List HP) (s0:σ) (h0:BH f (dat s0)=some r)
    (hl:Sub (Ev s0++Ec) l) (hm:MSub (Mv s0++Mc) M)
    (round:∀ s x,f (dat s)=some x→(∀ a,x=.inr a→a=r)→W Γ c (Ev s++Ec) (Mv s++Mc) (Ud (fun l' M'=>∃ s',Sub (Ev s'++Ec) l'∧Arr Γ M' (Mv s'++Mc)∧x=.inl (dat s')) Q)) :
    W Γ (.loop c) l M Q:=by
  obtain ⟨n,hn⟩:=NH.1 h0;refine cY (σ:=σ×Nat) (fun s=>Ev s.1++Ec) (fun s=>Mv s.1++Mc) (fun s=>JW f s.2 (dat s.1)=some r) (fun s=>s.2) (s0,n) hn hl hm ?_;rintro ⟨s,n⟩ hI;dsimp only at hI ⊢
  cases n with
  | zero=>cases hI
  | succ n =>
    simp only [JW] at hI
    split at hI
    · cases hI
    · rename_i s' hs
      refine dR (round s _ hs (fun a ha=>by cases ha)) fun e l' M' hq=>?_
      cases e<;>first
        | exact ⟨M',fun _ h=>h,hq⟩
        | (obtain ⟨s2,h1,⟨M2,h2,h2'⟩,h3⟩:=hq
           have e:s'=dat s2:=by simpa using h3
           subst e;exact ⟨M2,h2,(s2,n),h1,h2',hI,Nat.lt_succ_self n⟩)
    · rename_i a ha
      cases hI;refine mX (round s _ ha (fun a ha=>by cases ha;rfl)) fun e l' M' hq=>?_
      cases e<;>first
        | exact hq
        | (obtain ⟨s2,h1,h2,h3⟩:=hq;cases h3)
theorem aQ {σ δ A:Type} {x y:Code} {o:Option (δ ⊕ A)} {k:δ→Option A} {r:A} (dat:σ→δ) (Ev:σ→Ca) (Mv:σ→List HP) (Ec:Ca) (Mc:List HP) (h0:Ph o k=some r)
  (h:∀ e,o=some e→(∀ a,e=.inr a→a=r)→W Γ x l M (Ud (fun l' M'=>∃ s,Sub (Ev s++Ec) l'∧Arr Γ M' (Mv s++Mc)∧e=.inl (dat s)) Q))
  (hk:∀ s,k (dat s)=some r→W Γ y (Ev s++Ec) (Mv s++Mc) Q):W Γ (.seq x y) l M Q:=by
 obtain ⟨e,h1,h2,h3⟩:=dQ h0;exact Pa (dR (h e h1 h2) fun ex l' M' hq=>by
  cases ex<;>first
   | exact ⟨M',fun _ h=>h,hq⟩
   | (obtain ⟨s,h4,⟨M2,h5,h5'⟩,h6⟩:=hq;exact ⟨M2,h5,Ty h4 h5' (hk s (h3 _ h6))⟩))
end Go.Proofs.SL
namespace Go.Proofs.SL
open Go
variable {Γ:Cx} {l:Ca} {M M1 M2 F:List HP} {Q:Dw} {K:Dp} {w0 w:World} {S0:List Nat}
variable {rest:List Oper} {d:Nat} {ty:TypeId} {pos:String} {af:Array Edge}
theorem TG {P:Program} (w:World) (t ty e e2:TypeId) (i:TypeInfo) (ht:P.underlying t=some (.slice e)) (hi:P.info? e=some i)
  (g sLen sCap:Nat) (cur:Array Value) (hg:w.heap[g]?=some (.cells cur e2 (0,0)))
  (a:Addr) (m c:Nat) (news:List Value) (hl:news.length=m*i.size) (hnews:∀ j u,news[j]?=some u→w.cell? (a.add j)=some u) (h1:∀ u∈news,u.oneCell'=true)
  (hroom:sLen+m≤sCap) (hfit:sLen*i.size+news.length≤cur.size) :
  (Builtin.append_ #[t,t] ty #[.slice (some ⟨g,0,none⟩) sLen sCap,.slice (some a) m c]).run P w =
   .ok (.slice (some ⟨g,0,none⟩) (sLen+m) sCap) (w.setRow g (cur.toList.take (sLen*i.size)++news++cur.toList.drop (sLen*i.size+news.length)).toArray):=by
 have hf:=run_firstCells_some (P:=P) w i.size m a m c news hl hnews
 have hst:=run_storeCells_at P g (sLen*i.size) e2 news 0 cur w hg (by simpa using hfit) h1
 simp only [Nat.add_zero] at hst;simp [Builtin.append_,run_underlying ht,sizeOf,typeInfo,hi,Builtin.lenOf,hroom,hf,Addr.add_lit,hst]
section
variable {τ δ:Type} [GT τ δ]
theorem MG {P:Program} {T e sz by_:Nat} {z:List Value} {L:TL τ} {ys:List τ} (ht:elOf P T=some (e,sz,by_,z)) (hsz:GT.sz τ=sz) (hz:z.length=sz) (hw:Holds w0 S0 (Bf L::F) w)
  {a:Addr} {c:Nat} (hsrc:∀ j v,(AJ ys)[j]?=some v→w.cell? (a.add j)=some v) (hm:L.els.length+ys.length≤4294967296) (hb:by_≤32768) (ty:TypeId) :
  ∃ a' c' e' tl w',(Builtin.append_ #[T,T] ty #[L.hdr,.slice (some a) ys.length c]).run P w=.ok (.slice a' (L.els++ys).length c') w'∧Holds w0 S0 (Bf (⟨a',c',e',L.els++ys,tl⟩:TL τ)::F) w':=by
 unfold elOf at ht
 split at ht<;>(try cases ht)
 rename_i e' het
 split at ht<;>(try cases ht)
 rename_i i' hi'
 split at ht<;>cases ht
 rename_i z' hz'
 have hzs:z'.cells.size=i'.size:=by rw [← Array.length_toList];exact hz
 have hpos:0 < i'.size:=hsz ▸ GT.pos (τ:=τ)
 obtain ⟨La,Lc,Le,Lx,Lt⟩:=L
 have hr:=hw.prs (Bf _) (List.mem_cons_self ..)
 obtain ⟨hr1,hr2,hr3,hr4⟩:=hr;dsimp only at hr1 hr2 hr3 hr4 hm ⊢
 have hlx:(AJ Lx).length=Lx.length*i'.size:=by rw [De,hsz]
 have hly:(AJ ys).length=ys.length*i'.size:=by rw [De,hsz]
 have hby:(Lx.length+ys.length)*i'.bytes≤140737488355328:=by
  have:=Nat.mul_le_mul hm hb
  omega
 have hone:∀ u,u∈AJ ys→u.oneCell'=true:=fun u hu=>Xy ys u hu
 have hgrow:∀ (old:Nat) (h:HP),h=Bf (⟨La,Lc,Le,Lx,Lt⟩:TL τ)→Holds w0 S0 (Bf (⟨some ⟨w.heap.size,0,none⟩,grownCap w (Lx.length+ys.length) old e,e,Lx++ys,(Builtin.zeroCells z'.cells (grownCap w (Lx.length+ys.length) old e - (Lx.length+ys.length))).toList⟩:TL τ)::F)
   (w.drew.alloc (.cells ((AJ Lx).toArray++(AJ ys).toArray++Builtin.zeroCells z'.cells (grownCap w (Lx.length+ys.length) old e - (Lx.length+ys.length))) e)):=by
  intro old h hh
  have hge:=grownCap_ge w (Lx.length+ys.length) old e
  have hcm:grownCap w (Lx.length+ys.length) old e≤maxLen:=grownCap_le_maxLen w (Lx.length+ys.length) old e (by simp only [maxLen];omega)
  refine Holds.swap (w':=w.drew.alloc _) (hh ▸ hw:Holds w0 S0 (h::F) w) rfl ⟨rfl,Nat.le_succ _⟩ rfl (by simp) (fun k hk _=>?_) (fun k hk=>?_) (by simp [Bf]) ?_
  ·rw [heap_alloc_old _ _ (by simpa using hk)];rfl
  ·simp [Bf] at hk;subst hk;exact ⟨.inr (Nat.le_refl _),by simp⟩
  ·refine ⟨by simpa using hge,hcm,fun h=>(by cases h),fun a ha=>?_⟩;cases ha;refine ⟨rfl,rfl,?_,?_⟩
   ·have:=heap_alloc_new w.drew (.cells ((AJ Lx).toArray++(AJ ys).toArray++Builtin.zeroCells z'.cells (grownCap w (Lx.length+ys.length) old e - (Lx.length+ys.length))) e)
    simp only [World.size_drew] at this;rw [this]
    congr 2
    apply Array.ext'
    simp [DX]
   ·simp only [Array.length_toList,kI,hzs,List.length_append,hsz];rw [← Nat.add_mul];congr 1;omega
 cases La with
 | none =>
  obtain ⟨a1,q0⟩:=hr3 rfl;subst a1;subst q0
  by_cases a0:ys=[]
  ·subst a0;refine ⟨none,0,e,[],w,?_,Holds.swap hw rfl ⟨rfl,Nat.le_refl _⟩ rfl (Nat.le_refl _) (fun _ _ _=>rfl) (fun k hk=>by simp [Bf] at hk) (by simp [Bf]) ⟨by simp,by simp [maxLen],fun _=>⟨rfl,rfl⟩,fun a ha=>by cases ha⟩⟩;simp [TL.hdr,Builtin.append_,run_underlying het,sizeOf,typeInfo,hi',Builtin.lenOf,Builtin.firstCells,loadCells,loadCellsFrom]
  ·have hyl:0 < ys.length:=List.length_pos_iff.2 a0
   have hrun:=run_append_nil (P:=P) w T ty e i' z' het hi' hz' a ys.length c (AJ ys) hly hsrc hyl om (by simp at hby;omega)
   have:=hgrow 0 _ rfl
   simp only [List.length_nil,Nat.zero_add,List.nil_append] at this ⊢
   have e0:(AJ ([]:List τ)).toArray=#[]:=rfl
   rw [e0,Array.empty_append] at this;exact ⟨_,_,_,_,_,hrun,this⟩
 | some La =>
  obtain ⟨h1,h2,h3,h4⟩:=hr4 La rfl;obtain ⟨g,o,s⟩:=La;dsimp only at h1 h2 h3;subst h1;subst h2
  have hhd:TL.hdr (⟨some ⟨g,0,none⟩,Lc,Le,Lx,Lt⟩:TL τ)=.slice (some ⟨g,0,none⟩) Lx.length Lc:=rfl
  rw [hhd];rw [hsz] at h4
  have hsize:((AJ Lx++Lt).toArray).size=Lc*i'.size:=by simp [hlx];omega
  by_cases hroom:Lx.length+ys.length≤Lc
  ·have hfit:Lx.length*i'.size+(AJ ys).length≤((AJ Lx++Lt).toArray).size:=by rw [hsize,hly,← Nat.add_mul];exact Nat.mul_le_mul_right _ hroom
   have hrun:=TG (P:=P) w T ty e Le i' het hi' g Lx.length Lc _ h3 a ys.length c (AJ ys) hly hsrc hone hroom hfit
   refine ⟨some ⟨g,0,none⟩,Lc,Le,Lt.drop (AJ ys).length,_,by rw [List.length_append];exact hrun,?_⟩
   have e1:(List.take (Lx.length*i'.size) (AJ Lx++Lt).toArray.toList++AJ ys++List.drop (Lx.length*i'.size+(AJ ys).length) (AJ Lx++Lt).toArray.toList)=AJ (Lx++ys)++Lt.drop (AJ ys).length:=by
    simp only [];rw [← hlx,List.take_left,List.drop_append,List.drop_of_length_le om,List.nil_append,Nat.add_sub_cancel_left,DX]
   rw [e1];refine Holds.swap hw rfl ⟨rfl,Nat.le_refl _⟩ rfl (by simp) (fun k hk hn=>?_) (fun k hk=>?_) (by simp [Bf]) ?_
   ·exact setRow_other _ _ _ _ (fun e=>hn (by simp [Bf,e]))
   ·simp [Bf] at hk;subst hk;exact ⟨.inl (by simp [Bf]),by simp;exact (Array.getElem?_eq_some_iff.1 h3).1⟩
   ·refine ⟨by simpa using hroom,hr2,fun h=>(by cases h),fun a ha=>?_⟩;cases ha;refine ⟨rfl,rfl,setRow_heap _ _ _ _ _ _ h3,?_⟩;simp only [List.length_append,List.length_drop,hsz,hly]
    have:=Nat.mul_le_mul_right i'.size hroom
    rw [Nat.add_mul] at this ⊢;omega
  ·have holds:∀ j v,(AJ Lx)[j]?=some v→w.cell? ((⟨g,0,none⟩:Addr).add j)=some v:=fun j v hv=>by
    rw [Fx,Nat.zero_add,cell_of_row _ _ _ _ _ _ h3];simp only [List.getElem?_toArray];rw [List.getElem?_append_left (List.getElem?_eq_some_iff.1 hv).1];exact hv
   have hrun:=run_append_grow (P:=P) w T ty e i' z' het hi' hz' ⟨g,0,none⟩ Lx.length Lc (AJ Lx) hlx holds a ys.length c (AJ ys) hly hsrc om om (growslice_fits om hby)
   refine ⟨_,_,_,_,_,by rw [List.length_append];exact hrun,hgrow Lc _ rfl⟩
theorem XG {s x:Operand} {T e sz by_ m c:Nat} {ad:Addr} {z:List Value} {X:TL τ} {ys:List τ} (hn:Nat.blt d Γ.n=true)
  (hs:ev l s=some X.hdr) (hx:ev l x=some (.slice (some ad) m c)) (ht:elOf Γ.P T=some (e,sz,by_,z)) (hsz:GT.sz τ=sz) (hz:z.length=sz)
  (hp:Pick (Af X) M M1) (hmy:m=ys.length) (hsrc:∀ w,Sees Γ.w0 Γ.S0 M w→∀ j v,(AJ ys)[j]?=some v→w.cell? (ad.add j)=some v)
  (hown:∀ w R,Holds Γ.w0 Γ.S0 (M1++R) w→Holds Γ.w0 Γ.S0 (BU ys::(M2++R)) w)
  (hlen:X.els.length+ys.length≤4294967296) (hb:by_≤32768)
  (hk:∀ X':TL τ,X'.els=X.els++ys→L Γ rest ((d,X'.hdr)::l) (Af X'::M2) K) :
  L Γ ({ dst:=some d,op:=.call { callee:=.builtin .append,args:=#[s,x],argTypes:=#[T,T] },type:=ty,pos,after:=af,guard:=none }::rest) l M K:=by
 subst hmy;refine NX (fun v M'=>∃ X':TL τ,X'.els=X.els++ys∧v=X'.hdr∧M'=Af X'::M2) rfl rfl (Nat.le_of_ble_eq_true hn)
  (fun a w ha hw=>?_) (fun v M' ⟨X',h0,h1,h2⟩=>by subst h1;subst h2;exact hk X' h0)
 have hw1:=IG (hw.perm hp.perm)
 have hsr:=hsrc w hw.sees
 obtain ⟨a',c',e',tl,w',h1,h2⟩:=MG (P:=Γ.P) (c:=c) ht hsz hz hw1 hsr hlen hb ty;refine ⟨_,_,w',⟨⟨a',c',e',X.els++ys,tl⟩,rfl,rfl,rfl⟩,?_,?_⟩
 ·have h1':(Builtin.append_ #[T,T] ty #[X.hdr,.slice (some ad) ys.length c]).run Γ.P w=.ok (TL.hdr (⟨a',c',e',X.els++ys,tl⟩:TL τ)) w':=h1
  generalize TL.hdr (⟨a',c',e',X.els++ys,tl⟩:TL τ)=vv at *;generalize X.hdr=uu at *;simp [execOp,resolve,invoke,builtin,ha.eval hs,ha.eval hx,h1']
 ·have h3:Holds Γ.w0 Γ.S0 (M1++[BU X.els,Bf (⟨a',c',e',X.els++ys,tl⟩:TL τ)]) w' :=
   h2.perm ((List.Perm.swap _ _ _).trans (List.perm_append_comm (l₁:=[BU X.els,Bf (⟨a',c',e',X.els++ys,tl⟩:TL τ)]) (l₂:=M1)))
  have h4:=hown w' _ h3
  refine IH ?_
  have h5:Holds Γ.w0 Γ.S0 (BU X.els::BU ys::Bf (⟨a',c',e',X.els++ys,tl⟩:TL τ)::M2) w':=h4.perm
   (((List.perm_append_comm (l₁:=M2) (l₂:=[BU X.els,Bf (⟨a',c',e',X.els++ys,tl⟩:TL τ)])).cons _).trans (List.Perm.swap _ _ _))
  exact (TB h5).perm (List.Perm.swap _ _ _)
end
def TL.g {τ:Type} (X:TL τ):Nat:=(X.a.map Addr.block).getD 0
def TL.o {τ:Type} (X:TL τ):Nat:=(X.a.map Addr.off).getD 0
section
variable {τ δ:Type} [GT τ δ]
theorem dS {X:TL τ} {j:Nat} {u:τ} (h:GT.rd w0 S0 X) (hi:X.els[j]?=some u):X.a=some ⟨X.g,X.o,none⟩:=by
 have hlt:=(List.getElem?_eq_some_iff.1 hi).1
 obtain ⟨g,o,ha⟩:=DP h hlt;unfold TL.g TL.o;rw [ha];rfl
theorem Vh {X:TL τ} {j:Nat} {u:τ} (h:GT.rd w0 S0 X) (hi:X.els[j]?=some u):X.hdr=.slice (some ⟨X.g,X.o,none⟩) X.els.length X.cap:=by
 show Value.slice X.a X.els.length X.cap=_;rw [dS h hi]
theorem RdT.at {X:TL τ} {j:Nat} {x:τ} (h:RdT Γ M X) (hi:X.els[j]?=some x):RdC Γ M X.g (X.o+j*GT.sz τ) (GT.cells x):=fun w hw =>
 (RdT.cells (Γ:=Γ) (M:=M) h (dS (h w hw) hi) hi) w hw
abbrev Bl:=@RdT.at
theorem RdT.of {X:TL τ} {j:Nat} {x:τ} (h:RdT Γ M X) (hi:X.els[j]?=some x):RdT Γ M x:=h.el (List.mem_of_getElem? hi)
abbrev Ci:=@RdT.of
theorem Aa {α β δ ε:Type} [GT α δ] [GT β ε] {a:α} {b:β} (h1:RdT Γ M a) (h2:RdT Γ M b):RdT Γ M (a,b):=fun w hw=>⟨h1 w hw,h2 w hw⟩
theorem RdT.int {n:Int}:RdT Γ M n:=fun _ _=>trivial
abbrev Ad:=@RdT.int
theorem RdT.bool {n:Bool}:RdT Γ M n:=fun _ _=>trivial
abbrev CK:=@RdT.bool
theorem RdT.str {n:ByteArray}:RdT Γ M n:=fun _ _=>trivial
abbrev Ej:=@RdT.str
theorem RdT.u8 {n:UInt8}:RdT Γ M n:=fun _ _=>trivial
theorem RdT.nil (e:TypeId):RdT Γ M (TL.nil τ e):=fun _ _=>⟨Nat.le_refl _,by simp [TL.nil,maxLen],fun x hx=>by simp [TL.nil] at hx,fun _=>rfl,fun a ha=>by simp [TL.nil] at ha⟩
abbrev EA:=@RdT.nil
theorem CD (X:TL τ):GT.dat X=X.els.map GT.dat:=rfl
theorem kR {X:TL τ} {i:Int} {y:δ} (h:idx (GT.dat X) i=some y):∃ u:τ,(0≤i∧X.els[i.toNat]?=some u)∧GT.dat u=y:=by
 obtain ⟨h1,h2⟩:=fY.1 h;rw [CD,List.getElem?_map] at h2;obtain ⟨u,h3,h4⟩:=Option.map_eq_some_iff.1 h2;exact ⟨u,⟨h1,h3⟩,h4⟩
theorem AX {β:Type} {X:TL τ} {i:Int} {k:δ→Option β} {r:β} (h:Option.bind (idx (GT.dat X) i) k=some r):∃ u:τ,(0≤i∧X.els[i.toNat]?=some u)∧k (GT.dat u)=some r:=by
 obtain ⟨y,h1,h2⟩:=TF h;obtain ⟨u,h3,rfl⟩:=kR h1;exact ⟨u,h3,h2⟩
class Df (τ:Type) {δ:outParam Type} [GT τ δ] [Inhabited δ]:Prop where
 df:∃ t:τ,GT.dat t=default
instance:Df Int:=⟨0,rfl⟩
instance:Df Bool:=⟨false,rfl⟩
instance:Df UInt8:=⟨default,rfl⟩
instance:Df ByteArray:=⟨default,rfl⟩
instance {τ δ:Type} [GT τ δ]:Df (TL τ):=⟨TL.nil τ 0,rfl⟩
instance {α β δ ε:Type} [GT α δ] [GT β ε] [Inhabited δ] [Inhabited ε] [Df α] [Df β]:Df (α×β):=⟨by
 obtain ⟨a,ha⟩:=Df.df (τ:=α);obtain ⟨b,hb⟩:=Df.df (τ:=β);exact ⟨(a,b),by rw [Fy,ha,hb];rfl⟩⟩
theorem DB [Inhabited δ] [Df τ] {β:Type} {X:TL τ} {g:Bool} {i:Int} {k:δ→Option β} {r:β} (h:gb g (idx (GT.dat X) i) k=some r):∃ u:τ,(g=true→0≤i∧X.els[i.toNat]?=some u)∧k (GT.dat u)=some r:=by
 cases g with
 | true=>obtain ⟨u,h1,h2⟩:=AX h;exact ⟨u,fun _=>h1,h2⟩
 | false =>
  obtain ⟨t,ht⟩:=Df.df (τ:=τ);exact ⟨t,(fun h=>(by cases h)),by rw [ht];exact h⟩
end
section
variable {τ δ:Type} [GT τ δ]
theorem nP {x:Operand} {T:TypeId} {e:TypeId×Nat×Nat×List Value} {X:TL τ} (hn:Nat.blt d Γ.n=true) (hx:ev l x=some X.hdr) (ht:elOf Γ.P T=some e)
  (hk:L Γ rest ((d,.int .i64 ((GT.dat X).length:Int))::l) M K) :
  L Γ ({ dst:=some d,op:=.call { callee:=.builtin .len,args:=#[x],argTypes:=#[T] },type:=ty,pos:=pos,after:=af,guard:=none }::rest) l M K :=
 CT (a:=X.a) (n:=X.els.length) (c:=X.cap) hn hx ht (by rw [CD,List.length_map] at hk;exact hk)
theorem Cj {x y:Operand} {T e sz by_:Nat} {z:List Value} {k:IntKind} {i:Int} {X:TL τ} {u:τ} (hn:Nat.blt d Γ.n=true) (hx:ev l x=some X.hdr) (hy:ev l y=some (.int k i))
  (ht:elOf Γ.P T=some (e,sz,by_,z)) (hr:RdT Γ M X) (hi:0≤i∧X.els[i.toNat]?=some u) (hk:L Γ rest ((d,.pointer (some ⟨X.g,X.o+i.toNat*sz,none⟩))::l) M K) :
  L Γ ({ dst:=some d,op:=.indexAddr T x y,type:=ty,pos:=pos,after:=af,guard:=none }::rest) l M K :=
 Fv hn (fun a' w ha hw=>by
  have h1:=ha.eval hx
  rw [Vh (hr w hw.sees) hi.2] at h1;simp [execOp,h1,ha.eval hy,Jd ht X.g X.o X.els.length X.cap k i i.toNat om (List.getElem?_eq_some_iff.1 hi.2).1 w]) hk
end
variable {ops:Array Oper} {Msh pool:List HP} {E:Fl} {rs:List (Option Nat×Rel)} {cs0:List Nat} {KD:List (Option Nat×Rel)→List Nat→List HP→Prop} {gd:Option (Nat×Bool)}
section
variable {τ δ:Type} [GT τ δ]
theorem GF {x:Operand} {T:TypeId} {e:TypeId×Nat×Nat×List Value} {X:TL τ} {c:Prop} (hg:GC ops E { dst:=some d,op:=.call { callee:=.builtin .len,args:=#[x],argTypes:=#[T] },type:=ty,pos:=pos,after:=af,guard:=gd } c)
  (hx:OpV E x c X.hdr) (ht:elOf Γ.P T=some e)
  (hk:DV Γ ops Msh pool ((d,FC c (.int .i64 ((GT.dat X).length:Int)))::E) ((some d,FC c (.int .i64 ((GT.dat X).length:Int)))::rs) cs0 rest KD) :
  DV Γ ops Msh pool E rs cs0 ({ dst:=some d,op:=.call { callee:=.builtin .len,args:=#[x],argTypes:=#[T] },type:=ty,pos:=pos,after:=af,guard:=gd }::rest) KD :=
 nI (a:=X.a) (n:=X.els.length) (cp:=X.cap) hg hx ht (by rw [CD,List.length_map] at hk;exact hk)
theorem Cn {x y:Operand} {T e sz by_:Nat} {z:List Value} {k:IntKind} {i:Int} {X:TL τ} {u:τ} {c:Prop} (hg:GC ops E { dst:=some d,op:=.indexAddr T x y,type:=ty,pos:=pos,after:=af,guard:=gd } c)
  (hx:OpV E x c X.hdr) (hy:OpV E y c (.int k i)) (ht:elOf Γ.P T=some (e,sz,by_,z)) (hr:RdT Γ Msh X) (hi:c→0≤i∧X.els[i.toNat]?=some u)
  (hk:DV Γ ops Msh pool ((d,FC c (.pointer (some ⟨X.g,X.o+i.toNat*sz,none⟩)))::E) ((some d,FC c (.pointer (some ⟨X.g,X.o+i.toNat*sz,none⟩)))::rs) cs0 rest KD) :
  DV Γ ops Msh pool E rs cs0 ({ dst:=some d,op:=.indexAddr T x y,type:=ty,pos:=pos,after:=af,guard:=gd }::rest) KD :=
 Ge c _ hg (fun a w F hc hf hs=>by
  have e1:=hx.eval hf (by simp [Op.operands]) hc
  have e2:=hy.eval hf (by simp [Op.operands]) hc
  obtain ⟨h0,h1⟩:=hi hc;rw [Vh (hr w hs) h1] at e1;simp [execOp,e1,e2,Jd ht X.g X.o X.els.length X.cap k i i.toNat om (List.getElem?_eq_some_iff.1 h1).1 w]) hk
theorem Us {x y:Operand} {T:TypeId} {s:ByteArray} {k:IntKind} {i n:Int} {c:Prop} (hg:GC ops E { dst:=some d,op:=.index T x y,type:=ty,pos:=pos,after:=af,guard:=gd } c)
  (hx:OpV E x c (.string s)) (hy:OpV E y c (.int k i)) (ht:Uf Γ.P T=true) (hi:c→Ou s i=some n)
  (hk:DV Γ ops Msh pool ((d,FC c (.int .u8 n))::E) ((some d,FC c (.int .u8 n))::rs) cs0 rest KD) :
  DV Γ ops Msh pool E rs cs0 ({ dst:=some d,op:=.index T x y,type:=ty,pos:=pos,after:=af,guard:=gd }::rest) KD :=
 Ge c _ hg (fun a w F hc hf hs=>by
  have e1:=hx.eval hf (by simp [Op.operands]) hc
  have e2:=hy.eval hf (by simp [Op.operands]) hc
  obtain ⟨⟨h1,h2⟩,h3⟩:=dP (hi hc)
  have h4:Γ.P.underlying T=some .string:=by unfold Uf at ht;split at ht<;>simp_all
  obtain ⟨j,rfl⟩:=Int.eq_ofNat_of_zero_le h1;simp only [Int.toNat_natCast] at h2 h3;simp [execOp,e1,e2,Instr.index,asIntOf,underlying,h4,h2,h3]) hk
end
end Go.Proofs.SL
namespace Go.Proofs.SL
open Go
variable {Γ:Cx} {l:Ca} {M M' M1 M2 F:List HP} {Q:Dw} {K:Dp} {w0 w:World} {S0:List Nat}
variable {rest:List Oper} {d:Nat} {ty:TypeId} {pos:String} {af:Array Edge}
def CO {δ:Type} (a b:List δ):Option (List δ):=if a.length+b.length≤4294967296 then some (a++b) else none
theorem JB {δ:Type} {a b r:List δ} (h:CO a b=some r):a.length+b.length≤4294967296∧r=a++b:=by
 unfold CO at h
 split at h
 ·cases h;exact ⟨by assumption,rfl⟩
 ·cases h
theorem kS {P:Program} {T:TypeId} {x y:Operand} {s t:ByteArray}:Fh P .gtr T x y (.string s) (.string t) (.bool (!sLt s t&&!decide (s=t))):=fun w=>by simp [eqGuard,binOp,Op.stringOp,sLt,Uh]
theorem kT {P:Program} {T:TypeId} {x y:Operand} {s t:ByteArray}:Fh P .leq T x y (.string s) (.string t) (.bool (sLt s t||decide (s=t))):=fun w=>by simp [eqGuard,binOp,Op.stringOp,sLt,Uh]
class FlatT (τ:Type) {δ:outParam Type} [GT τ δ]:Prop where
 flat:∀ t:τ,Flat t
instance:FlatT Int:=⟨fun _=>Es trivial⟩
instance:FlatT Bool:=⟨fun b=>We b⟩
instance:FlatT UInt8:=⟨fun b=>kH b⟩
instance:FlatT ByteArray:=⟨fun _=>HA trivial⟩
instance {α β δ ε:Type} [GT α δ] [GT β ε] [FlatT α] [FlatT β]:FlatT (α×β):=⟨fun t=>FQ (FlatT.flat t.1) (FlatT.flat t.2)⟩
section
variable {τ δ:Type} [GT τ δ]
theorem Oa [FlatT τ] {s x:Operand} {T e sz by_ c b:Nat} {z:List Value} {X:TL τ} {T':TypeId} (y:τ) {r:List δ} (hn:Nat.blt d Γ.n=true)
  (hs:ev l s=some X.hdr) (hx:ev l x=some (.slice (some ⟨b,0,none⟩) 1 c)) (ht:elOf Γ.P T=some (e,sz,by_,z)) (hsz:GT.sz τ=sz) (hz:z.length=sz)
  (hp:Pick (Af X) M M1) (hsrc:blk b (GT.cells y) T'∈M)
  (hr:CO (GT.dat X) [GT.dat y]=some r) (hb:by_≤32768)
  (hk:∀ X':TL τ,GT.dat X'=r→L Γ rest ((d,X'.hdr)::l) (Af X'::M1) K) :
  L Γ ({ dst:=some d,op:=.call { callee:=.builtin .append,args:=#[s,x],argTypes:=#[T,T] },type:=ty,pos,after:=af,guard:=none }::rest) l M K:=by
 obtain ⟨h1,rfl⟩:=JB hr;refine XG (ys:=[y]) hn hs hx ht hsz hz hp rfl (fun w hw j v hv=>?_) (fun w R h=>MQ h fun x _=>FlatT.flat x) (by simpa [CD] using h1) hb
  (fun X' h=>hk X' (by rw [CD,h,List.map_append,CD];rfl))
 rw [Fx];exact Ag (Γ:=Γ) hsrc w hw j v (by simpa [AJ] using hv)
theorem GG [FlatT τ] {s x:Operand} {T e sz by_:Nat} {z:List Value} {X Y:TL τ} {r:List δ} (hn:Nat.blt d Γ.n=true)
  (hs:ev l s=some X.hdr) (hx:ev l x=some Y.hdr) (ht:elOf Γ.P T=some (e,sz,by_,z)) (hsz:GT.sz τ=sz) (hz:z.length=sz)
  (hp:Pick (Af X) M M1) (hsrc:RdT Γ M Y) (hr:CO (GT.dat X) (GT.dat Y)=some r) (hb:by_≤32768)
  (hk:∀ X':TL τ,GT.dat X'=r→L Γ rest ((d,X'.hdr)::l) (Af X'::M1) K) :
  L Γ ({ dst:=some d,op:=.call { callee:=.builtin .append,args:=#[s,x],argTypes:=#[T,T] },type:=ty,pos,after:=af,guard:=none }::rest) l M K:=by
 obtain ⟨h1,rfl⟩:=JB hr;simp only [CD,List.length_map] at h1;obtain ⟨a2,c2,e2,x2,tl2⟩:=Y
 cases a2 with
 | some a2 =>
  obtain ⟨b,o,sp⟩:=a2;refine XG (ys:=x2) hn hs hx ht hsz hz hp rfl (fun w hw j v hv=>?_) (fun w R h=>MQ h fun x _=>FlatT.flat x) h1 hb
   (fun X' h=>hk X' (by rw [CD,h,List.map_append];rfl))
  have h2:=(hsrc w hw).2.2.2.2 _ rfl
  have hne:x2≠[]:=fun e=>by subst e;simp [AJ] at hv
  have h3:sp=none:=h2.1 hne
  subst h3;rw [Fx];exact (h2.2 j v hv).1
 | none =>
  intro ops a w Q ha hw
  have h2:x2=[]:=(hsrc w hw.sees).2.2.2.1 rfl
  subst h2
  have hk':=hk X (by rw [CD];show _=_++[].map GT.dat;simp)
  have hr:GT.ow w X:=(hw.perm hp.perm).prs _ (List.mem_cons_self ..)
  refine Xx rfl rfl (Nat.le_of_ble_eq_true hn) (fun a w ha hw=>⟨w,?_,hw.perm hp.perm⟩) hk' ops a w Q ha hw
  have:=PG (P:=Γ.P) (w:=w) (a:=X.a) (n:=X.els.length) (c:=X.cap) (c2:=c2) ht hr.1 ty
  have h5:(Builtin.append_ #[T,T] ty #[X.hdr,.slice none 0 c2]).run Γ.P w=.ok X.hdr w:=this
  have h6:=ha.eval hx
  simp only [TL.hdr,List.length_nil] at h6;generalize X.hdr=uu at *;simp [execOp,resolve,invoke,builtin,ha.eval hs,h6,h5]
theorem nQ [FlatT τ] (t:τ) (h:Holds w0 S0 M w):Holds w0 S0 (Af t::M) w:=h.addFlat (FlatT.flat t)
def slc (X:TL τ) (lo hi:Nat):TL τ:=⟨if X.cap=lo then X.a else X.a.map (·.add (lo*GT.sz τ)),X.cap - lo,X.e,(X.els.drop lo).take (hi - lo),[]⟩
theorem dT {X:TL τ} {lo hi:Nat} (h:GT.rd w0 S0 X) (h1:lo≤hi) (h2:hi≤X.els.length):GT.rd w0 S0 (slc X lo hi):=by
 obtain ⟨r1,r2,r3,r4,r5⟩:=h
 have hsub:∀ x,x∈(X.els.drop lo).take (hi - lo)→x∈X.els:=fun x hx=>List.mem_of_mem_drop (List.mem_of_mem_take hx)
 refine ⟨?_,?_,fun x hx=>r3 x (hsub x hx),fun ha=>?_,fun a ha=>?_⟩
 ·show ((X.els.drop lo).take (hi - lo)).length≤X.cap - lo;simp;omega
 ·show X.cap - lo≤maxLen;omega
 ·have ha':(if X.cap=lo then X.a else X.a.map (·.add (lo*GT.sz τ)))=none:=ha
  have:X.a=none:=by split at ha'<;>simpa using ha'
  show (X.els.drop lo).take (hi - lo)=[];rw [r4 this];simp
 ·have ha':(if X.cap=lo then X.a else X.a.map (·.add (lo*GT.sz τ)))=some a:=ha
  by_cases hcl:X.cap=lo
  ·have he:(X.els.drop lo).take (hi - lo)=[]:=by rw [List.drop_of_length_le om];simp
   refine ⟨fun hne=>(hne he).elim,fun j v hv=>?_⟩
   have hv':(AJ ((X.els.drop lo).take (hi - lo)))[j]?=some v:=hv
   rw [he] at hv';simp [AJ] at hv'
  ·rw [if_neg hcl] at ha';obtain ⟨a0,h3,h4⟩:=Option.map_eq_some_iff.1 ha';obtain ⟨r6,r7⟩:=r5 a0 h3
   have hspot:(X.els.drop lo).take (hi - lo)≠[]→a0.spot=none:=fun hne=>r6 (fun e=>hne (by rw [e];simp))
   have hadd:a0.spot=none→a0.add (lo*GT.sz τ)=⟨a0.block,a0.off+lo*GT.sz τ,none⟩:=fun hs=>by
    obtain ⟨b,o,s⟩:=a0
    have hs':s=none:=hs
    subst hs';rw [Fx]
   refine ⟨fun hne=>?_,fun j v hv=>?_⟩
   ·rw [← h4,hadd (hspot hne)]
   ·have hv':(AJ ((X.els.drop lo).take (hi - lo)))[j]?=some v:=hv
    have hne:(X.els.drop lo).take (hi - lo)≠[]:=fun e=>by rw [e] at hv';simp [AJ] at hv'
    rw [← h4,hadd (hspot hne)]
    have hrow:AJ X.els=AJ (X.els.take lo)++(AJ ((X.els.drop lo).take (hi - lo))++AJ ((X.els.drop lo).drop (hi - lo))):=by
     rw [← DX,← DX,List.take_append_drop,List.take_append_drop]
    have hl:(AJ (X.els.take lo)).length=lo*GT.sz τ:=by rw [De,List.length_take,Nat.min_eq_left om]
    have:=r7 (lo*GT.sz τ+j) v (by
     rw [hrow,List.getElem?_append_right om,hl,Nat.add_sub_cancel_left,List.getElem?_append_left (List.getElem?_eq_some_iff.1 hv').1];exact hv')
    rw [show a0.off+lo*GT.sz τ+j=a0.off+(lo*GT.sz τ+j) by omega];exact this
def HG {δ:Type} (l:List δ) (a b:Int):Option (List δ):=if 0≤a∧a≤b∧b≤l.length then some ((l.drop a.toNat).take (b.toNat - a.toNat)) else none
def Vi (l:Ca) (x:Option Operand) (n:Int):Option Int:=match x with
 | none=>some n
 | some o=>match ev l o with | some (.int _ i)=>some i | _=>none
theorem KT {o:Operand} {n i:Int} (h:Vi l (some o) n=some i):∃ k,ev l o=some (.int k i):=by
 unfold Vi at h;dsimp only at h
 split at h
 ·cases h;exact ⟨_,by assumption⟩
 ·cases h
theorem FS {P:Program} {k:IntKind} {i:Int} {y:Nat} {code:BoundsCode} (h0:0≤i) (h1:i≤(y:Int)) (w:World):(Instr.sliceBound (.int k i) y code).run P w=.ok i.toNat w:=by
 simp [Instr.sliceBound,asIntOf,h0,h1]
theorem pK {x:Operand} {lo hi:Option Operand} {T e sz by_:Nat} {z:List Value} {X:TL τ} {a b:Int} {r:List δ} (hn:Nat.blt d Γ.n=true) (hx:ev l x=some X.hdr) (hlo:Vi l lo 0=some a) (hhi:Vi l hi ((GT.dat X).length:Int)=some b)
  (ht:elOf Γ.P T=some (e,sz,by_,z)) (hsz:GT.sz τ=sz) (hR:RdT Γ M X) (hr:HG (GT.dat X) a b=some r)
  (hk:∀ X':TL τ,GT.dat X'=r→(∀ w S,GT.rd w S X→GT.rd w S X')→L Γ rest ((d,X'.hdr)::l) M K) :
  L Γ ({ dst:=some d,op:=.slice T x lo hi none,type:=ty,pos:=pos,after:=af,guard:=none }::rest) l M K:=by
 unfold HG at hr
 split at hr
 ·rename_i hb
  cases hr;rw [CD,List.length_map] at hb hhi;obtain ⟨h0,h1,h2⟩:=hb
  have h1':a.toNat≤b.toNat:=by omega
  have h2':b.toNat≤X.els.length:=by omega
  refine Fv hn (v:=(slc X a.toNat b.toNat).hdr) (fun a' w ha hw=>?_) (hk (slc X a.toNat b.toNat) (by rw [CD,CD];simp [slc,List.map_take,List.map_drop]) (fun w S h=>dT h h1' h2'))
  have hcap:X.els.length≤X.cap:=(hR w hw.sees).1
  unfold elOf at ht
  split at ht<;>(try cases ht)
  rename_i e' het
  split at ht<;>(try cases ht)
  rename_i i' hi'
  split at ht<;>cases ht
  have hlen:((X.els.drop a.toNat).take (b.toNat - a.toNat)).length=b.toNat - a.toNat:=by simp;omega
  have hv:(slc X a.toNat b.toNat).hdr=.slice (if X.cap=a.toNat then X.a else X.a.map (·.add (a.toNat*i'.size))) (b.toNat - a.toNat) (X.cap - a.toNat):=by
   show Value.slice _ ((X.els.drop a.toNat).take (b.toNat - a.toNat)).length _=_;rw [hlen];simp only [slc,hsz]
  rw [hv]
  have e1:a'.eval x=.slice X.a X.els.length X.cap:=ha.eval hx
  cases lo with
  | none =>
   cases hlo
   cases hi with
   | none =>
    cases hhi;simp only [execOp,Option.map_none,e1,Instr.sliceAt,Instr.slice,underlying,Sem.run_bind,run_program,Result.andThen_ok,het,Instr.sliceBounds,Sem.run_pure,sizeOf,typeInfo,hi'];simp
   | some o =>
    obtain ⟨k,h5⟩:=KT hhi
    have e2:=ha.eval h5
    have e4:=fun w=>FS (P:=Γ.P) (k:=k) (code:=.sliceAcap) (show 0≤b by omega) (show b≤((X.cap:Nat):Int) by omega) w
    simp [execOp,e1,e2,Instr.sliceAt,Instr.slice,underlying,het,Instr.sliceBounds,sizeOf,typeInfo,hi',e4]
  | some o1 =>
   obtain ⟨k1,h6⟩:=KT hlo
   have e3:=ha.eval h6
   cases hi with
   | none =>
    cases hhi
    have e4:=fun w=>FS (P:=Γ.P) (k:=k1) (code:=.sliceB) h0 (show a≤((X.els.length:Nat):Int) by omega) w
    simp [execOp,e1,e3,Instr.sliceAt,Instr.slice,underlying,het,Instr.sliceBounds,sizeOf,typeInfo,hi',e4]
   | some o =>
    obtain ⟨k,h5⟩:=KT hhi
    have e2:=ha.eval h5
    have e4:=fun w=>FS (P:=Γ.P) (k:=k) (code:=.sliceAcap) (show 0≤b by omega) (show b≤((X.cap:Nat):Int) by omega) w
    have e5:=fun w=>FS (P:=Γ.P) (k:=k1) (code:=.sliceB) h0 (show a≤((b.toNat:Nat):Int) by omega) w
    simp [execOp,e1,e2,e3,Instr.sliceAt,Instr.slice,underlying,het,Instr.sliceBounds,sizeOf,typeInfo,hi',e4,e5]
 ·cases hr
end
end Go.Proofs.SL
namespace Go.Proofs.SL
open Go
variable {Γ:Cx} {l:Ca} {M M' M1 M2 F:List HP} {Q:Dw} {K:Dp} {w0 w:World} {S0:List Nat}
variable {rest:List Oper} {d:Nat} {ty:TypeId} {pos:String} {af:Array Edge}
variable {ops:Array Oper} {Msh pool:List HP} {E:Fl} {rs:List (Option Nat×Rel)} {cs0:List Nat} {KD:List (Option Nat×Rel)→List Nat→List HP→Prop} {gd:Option (Nat×Bool)}
def optD (E:Fl) (x:Option Operand) (c:Prop) (n i:Int):Prop:=match x with
 | none=>n=i
 | some o=>∃ k,OpV E o c (.int k i)
theorem optD.none {c:Prop} {n:Int}:optD E Option.none c n n:=rfl
theorem optD.some {o:Operand} {c:Prop} {n i:Int} {k:IntKind} (h:OpV E o c (.int k i)):optD E (Option.some o) c n i:=⟨k,h⟩
section
variable {τ δ:Type} [GT τ δ]
def Lq (X:TL τ) (i:Nat) (cs:List Value):HP:=⟨[X.g]++(X.els.eraseIdx i).flatMap GT.fp,
 fun w=>cs.length=GT.sz τ∧i < X.els.length∧X.els.length≤X.cap∧X.cap≤maxLen∧X.a=some ⟨X.g,0,none⟩∧(∀ x,x∈X.els.eraseIdx i→GT.ow w x) ∧
  w.heap[X.g]?=some (.cells (AJ (X.els.take i)++(cs++(AJ (X.els.drop (i+1))++X.tail))).toArray X.e (0,0))∧X.els.length*GT.sz τ+X.tail.length=X.cap*GT.sz τ,
 fun w w' h hp=>⟨hp.1,hp.2.1,hp.2.2.1,hp.2.2.2.1,hp.2.2.2.2.1,fun x hx=>GT.ow_st (fun k hk=>h k (List.mem_append_right _ (List.mem_flatMap.2 ⟨x,hx,hk⟩))) (hp.2.2.2.2.2.1 x hx),by
  rw [h X.g (by simp)];exact hp.2.2.2.2.2.2.1,hp.2.2.2.2.2.2.2⟩⟩
theorem Wg (xs:List τ) {i:Nat} {x:τ} (hi:xs[i]?=some x):AJ xs=AJ (xs.take i)++(GT.cells x++AJ (xs.drop (i+1))):=by
 obtain ⟨hlt,hx⟩:=List.getElem?_eq_some_iff.1 hi
 have h1:xs=xs.take i++xs[i]::xs.drop (i+1):=by rw [← List.drop_eq_getElem_cons hlt,List.take_append_drop]
 conv=>lhs;rw [h1]
 rw [DX,Gh,hx]
theorem SH (xs:List τ) {i:Nat} {x:τ} (hi:xs[i]?=some x):List.Perm xs (x::xs.eraseIdx i):=by
 obtain ⟨hlt,hx⟩:=List.getElem?_eq_some_iff.1 hi;rw [List.eraseIdx_eq_take_drop_succ]
 have:xs=xs.take i++x::xs.drop (i+1):=by rw [← hx,← List.drop_eq_getElem_cons hlt,List.take_append_drop]
 conv=>lhs;rw [this]
 exact List.perm_middle
theorem CX {X:TL τ} {i:Nat} {x:τ} (hi:X.els[i]?=some x) (p:Pick (Af X) M M1) (h:Holds w0 S0 M w):Holds w0 S0 (Af x::Lq X i (GT.cells x)::M1) w:=by
 have h:=h.perm p.perm
 have ht:GT.ow w X:=h.prs _ (List.mem_cons_self ..)
 have hlt:=(List.getElem?_eq_some_iff.1 hi).1
 obtain ⟨r1,r2,r3,r4,r5⟩:=ht;obtain ⟨g,ha⟩:=(II (w:=w) (L:=X) ⟨r1,r2,r3,r4,r5⟩).2 om
 have hg:X.g=g:=by unfold TL.g;rw [ha];rfl
 subst hg;obtain ⟨h1,h2,h3,h4⟩:=r5 _ ha;refine h.reFp ?_ fun y hy=>?_
 ·simp only [Co];show List.Perm (((match X.a with | none=>[] | some a=>[a.block])++X.els.flatMap GT.fp)++fps M1) (GT.fp x++(([X.g]++(X.els.eraseIdx i).flatMap GT.fp)++fps M1));rw [ha]
  have hp:=(SH X.els hi).flatMap_right GT.fp
  rw [List.flatMap_cons] at hp;show List.Perm (([X.g]++X.els.flatMap GT.fp)++fps M1) _;rw [← List.append_assoc,← List.append_assoc];refine List.Perm.append_right _ ?_;refine (hp.append_left [X.g]).trans ?_;rw [← List.append_assoc];exact List.perm_append_comm.append_right _
 ·rcases List.mem_cons.1 hy with rfl | hy
  ·exact r3 x (List.mem_of_getElem? hi)
  rcases List.mem_cons.1 hy with rfl | hy
  ·refine ⟨GT.len x,hlt,r1,r2,ha,fun z hz=>r3 z ((SH X.els hi).mem_iff.2 (List.mem_cons_of_mem _ hz)),?_,h4⟩;rw [Wg X.els hi] at h3
   simpa [List.append_assoc] using h3
  ·exact h.prs _ (List.mem_cons_of_mem _ hy)
theorem Ut {X:TL τ} {i:Nat} {x':τ} {cs:List Value} (hc:cs=GT.cells x') (p:Pick (Lq X i cs) M M1) (q:Pick (Af x') M1 M2) (h:Holds w0 S0 M w) :
  Holds w0 S0 (Af ({ X with els:=X.els.set i x' }:TL τ)::M2) w:=by
 subst hc
 have h:=h.perm (p.perm.trans (q.perm.cons _))
 obtain ⟨r1,r2,r3,r4,r5,r6,r7,r8⟩:=h.prs (Lq X i (GT.cells x')) (List.mem_cons_self ..)
 have hx:=h.prs (Af x') (List.mem_cons_of_mem _ (List.mem_cons_self ..))
 have hi:(X.els.set i x')[i]?=some x':=by rw [List.getElem?_set_self];exact r2
 have he:(X.els.set i x').eraseIdx i=X.els.eraseIdx i:=by
  rw [List.eraseIdx_eq_take_drop_succ,List.eraseIdx_eq_take_drop_succ,List.take_set_of_le (Nat.le_refl _),List.drop_set_of_lt (Nat.lt_succ_self _)]
 refine h.reFp ?_ fun y hy=>?_
 ·simp only [Co];show List.Perm (([X.g]++(X.els.eraseIdx i).flatMap GT.fp)++(GT.fp x'++fps M2)) (((match X.a with | none=>[] | some a=>[a.block])++(X.els.set i x').flatMap GT.fp)++fps M2);rw [r5]
  have hp:=(SH _ hi).flatMap_right GT.fp
  rw [List.flatMap_cons,he] at hp;show List.Perm _ (([X.g]++(X.els.set i x').flatMap GT.fp)++fps M2);rw [← List.append_assoc];refine List.Perm.append_right _ ?_;rw [List.append_assoc];exact ((List.perm_append_comm).trans hp.symm).append_left [X.g]
 ·rcases List.mem_cons.1 hy with rfl | hy
  ·refine ⟨by simpa using r3,r4,fun z hz=>?_,fun ha=>?_,fun a ha=>?_⟩
   ·rcases List.mem_cons.1 ((SH _ hi).mem_iff.1 hz) with rfl | hz
    ·exact hx
    ·rw [he] at hz;exact r6 z hz
   ·have ha':X.a=none:=ha
    rw [r5] at ha';cases ha'
   ·have ha':X.a=some a:=ha
    rw [r5] at ha';cases ha';refine ⟨rfl,rfl,?_,by simpa using r8⟩;rw [Wg _ hi,List.take_set_of_le (Nat.le_refl _),List.drop_set_of_lt (Nat.lt_succ_self _)]
    simpa [List.append_assoc] using r7
  ·exact h.prs _ (List.mem_cons_of_mem _ (List.mem_cons_of_mem _ hy))
theorem ZL (X:TL τ) (i:Nat) (x':τ):GT.dat ({ X with els:=X.els.set i x' }:TL τ)=(GT.dat X).set i (GT.dat x'):=by
 rw [CD,CD,List.map_set]
theorem fZ {X:TL τ} {i:Nat} {cs:List Value} (h:Lq X i cs∈M):RdC Γ M X.g (X.o+i*GT.sz τ) cs:=fun w hw j v hv=>by
 obtain ⟨r1,r2,r3,r4,r5,r6,r7,r8⟩:=hw.prs _ h
 have ho:X.o=0:=by unfold TL.o;rw [r5];rfl
 have hj:=(List.getElem?_eq_some_iff.1 hv).1
 have hl:(AJ (X.els.take i)).length=i*GT.sz τ:=by rw [De,List.length_take,Nat.min_eq_left om]
 rw [ho,Nat.zero_add,cell_of_row _ _ _ _ _ _ r7];simp only [List.getElem?_toArray];rw [List.getElem?_append_right om,hl,Nat.add_sub_cancel_left,List.getElem?_append_left hj];exact hv
theorem EV {x y:Operand} {T sz fo n:Nat} {v:Value} {X:TL τ} {i:Nat} {cs:List Value} (hx:ev l x=some (.pointer (some ⟨X.g,X.o+i*sz+fo,none⟩))) (hy:ev l y=some v)
  (hp:Pick (Lq X i cs) M M1) (hsz:GT.sz τ=sz) (hT:Jp Γ.P T=some n∨(HO Γ.P T=true∧n=1)) (hv:v.cells.toList.length=n) (h1:∀ u,u∈v.cells.toList→u.oneCell'=true) (hfit:fo+n≤cs.length)
  (hk:L Γ rest l (Lq X i (cs.take fo++v.cells.toList++cs.drop (fo+n))::M1) K) :
  L Γ ({ dst:=none,op:=.store T x y,type:=ty,pos,after:=af,guard:=none }::rest) l M K :=
 Ol rfl rfl (fun a w ha hw=>by
  subst hsz;subst hv
  have hw1:=hw.perm hp.perm
  obtain ⟨r1,r2,r3,r4,r5,r6,r7,r8⟩:=hw1.prs (Lq X i cs) (List.mem_cons_self ..)
  have ho:X.o=0:=by unfold TL.o;rw [r5];rfl
  have hl:(AJ (X.els.take i)).length=i*GT.sz τ:=by rw [De,List.length_take,Nat.min_eq_left om]
  have hs:=GU (P:=Γ.P) (fo:=i*GT.sz τ+fo) (vs:=v.cells.toList) (ty:=0) r7 (by
   simp only [List.length_append,hl];omega) h1
  have e:(AJ (X.els.take i)++(cs++(AJ (X.els.drop (i+1))++X.tail))).take (i*GT.sz τ+fo)++v.cells.toList++(AJ (X.els.take i)++(cs++(AJ (X.els.drop (i+1))++X.tail))).drop (i*GT.sz τ+fo+v.cells.toList.length)
   =AJ (X.els.take i)++((cs.take fo++v.cells.toList++cs.drop (fo+v.cells.toList.length))++(AJ (X.els.drop (i+1))++X.tail)):=by
   generalize AJ (X.els.take i)=A at *;generalize (AJ (X.els.drop (i+1))++X.tail)=B at *;rw [← hl];rw [List.take_append,List.take_of_length_le om,Nat.add_sub_cancel_left,List.take_append_of_le_length om];rw [show A.length+fo+v.cells.toList.length=A.length+(fo+v.cells.toList.length) by omega,List.drop_append,List.drop_of_length_le om,List.nil_append,Nat.add_sub_cancel_left,List.drop_append_of_le_length om];simp only [List.append_assoc]
  rw [e] at hs;refine ⟨w.setRow X.g (AJ (X.els.take i)++((cs.take fo++v.cells.toList++cs.drop (fo+v.cells.toList.length))++(AJ (X.els.drop (i+1))++X.tail))).toArray,?_,?_⟩
  ·have hx':=ha.eval hx
   rw [ho,Nat.zero_add] at hx';rcases hT with hT | ⟨hT,a0⟩
   ·have hcs:v.cells.size=v.cells.toList.length:=by simp
    simp [execOp,hx',ha.eval hy,Instr.storeAt,Instr.sureAddr,storeVar,Fo hT,hs]
   ·have hcs:v.cells.size=1:=by rw [← a0];simp
    simp [execOp,hx',ha.eval hy,Instr.storeAt,Instr.sureAddr,storeVar,FH hT,hcs,hs]
  ·refine Holds.swap hw1 rfl ⟨rfl,Nat.le_refl _⟩ rfl (by simp) (fun k hk hn=>?_) (fun k hk=>?_) ?_ ?_
   ·exact setRow_other _ _ _ _ (fun e=>hn (by simp [Lq,e]))
   ·have hk':k∈(Lq X i cs).fp:=hk
    refine ⟨.inl hk',?_⟩;rw [size_setRow];exact (hw1.rng k (by rw [Co];exact List.mem_append_left _ hk')).2
   ·have:=hw1.nodup
    rw [Co] at this;exact (List.nodup_append.1 this).1
   ·have hdis:∀ k,k∈(X.els.eraseIdx i).flatMap GT.fp→k≠X.g:=fun k hk e=>by
     have:=hw1.nodup
     rw [Co] at this
     have h2:=(List.nodup_append.1 this).1
     have h3:(X.g::(X.els.eraseIdx i).flatMap GT.fp).Nodup:=h2
     rw [List.nodup_cons] at h3;exact h3.1 (e ▸ hk)
    refine ⟨?_,r2,r3,r4,r5,fun z hz=>GT.ow_st (fun k hk=>setRow_other _ _ _ _ (fun e=>hdis k (List.mem_flatMap.2 ⟨z,hz,hk⟩) e)) (r6 z hz),setRow_heap _ _ _ _ _ _ r7,r8⟩;simp only [List.length_append,List.length_take,List.length_drop];omega) hk
end
end Go.Proofs.SL
namespace Go.Proofs.SL
open Go
theorem DF (n:Int):GT.cells n=[.int .i64 n]:=rfl
theorem Ds (b:Bool):GT.cells b=[.bool b]:=rfl
theorem DG (s:ByteArray):GT.cells s=[.string s]:=rfl
theorem DZ {τ δ:Type} [GT τ δ] (X:TL τ):GT.cells X=[X.hdr]:=rfl
theorem BY {b:Bool} (h:b=false):(!b)=true:=by rw [h];rfl
theorem GV {a b:Bool} (h:a=true) (h2:b=true):(a&&b)=true:=by rw [h,h2];rfl
theorem Eg {cs:List Value} (h:cs.all Value.oneCell'=true):∀ v,v∈cs→v.oneCell'=true:=List.all_eq_true.1 h
variable {Γ:Cx} {l:Ca} {M M' M1 M2 F:List HP} {Q:Dw} {K:Dp} {w0 w:World} {S0:List Nat}
variable {rest:List Oper} {d:Nat} {ty:TypeId} {pos:String} {af:Array Edge}
theorem RdT.now {τ δ:Type} [GT τ δ] {t:τ} (h:RdT Γ M t) (hw:Holds Γ.w0 Γ.S0 M w):GT.rd w [] t:=h w hw.sees
abbrev Ap:=@RdT.now
theorem AK {τ δ:Type} [GT τ δ] {t:τ} (h:RdT Γ M t) (hw:Holds Γ.w0 Γ.S0 F w) (hs:∀ x,x∈M→x∈F):GT.rd w [] t:=h w (hw.seesSub hs)
theorem Bs {τ δ:Type} [GT τ δ] (e:TypeId) (h:Holds w0 S0 M w):Holds w0 S0 (Af (TL.nil τ e)::M) w:=h.addFlat (Tz e)
theorem GM (τ:Type) {δ:Type} [GT τ δ] {T e sz by_:Nat} {z:List Value} (hn:Nat.blt d Γ.n=true) (ht:elOf Γ.P T=some (e,sz,by_,z))
  (hk:∀ X:TL τ,GT.dat X=[]→L Γ rest ((d,X.hdr)::l) (Af X::M) K) :
  L Γ ({ dst:=some d,op:=.buildSlice T 0 #[],type:=ty,pos,after:=af,guard:=none }::rest) l M K :=
 Wy τ hn ht (fun b=>hk ⟨some ⟨b,0,none⟩,0,e,[],[]⟩ rfl)
end Go.Proofs.SL
namespace Go.Proofs.SL
open Go
variable {Γ:Cx} {l:Ca} {M M' M1 M2 F:List HP} {Q:Dw} {K:Dp} {w0 w:World} {S0:List Nat}
variable {rest:List Oper} {d:Nat} {ty:TypeId} {pos:String} {af:Array Edge}
variable {ops:Array Oper} {Msh pool pool':List HP} {E:Fl} {rs:List (Option Nat×Rel)} {cs0:List Nat} {KD:List (Option Nat×Rel)→List Nat→List HP→Prop}
def aR (cs:List Value) (e:TypeId):Rel:=fun v M=>∃ b,v=.slice (some ⟨b,0,none⟩) 1 1∧M=[blk b cs e]
theorem ZM {P:Program} {T e sz by_:Nat} {z:List Value} {v:Value} (ht:elOf P T=some (e,sz,by_,z)) (hz:z.length=sz) (hsz:0 < sz) (hns:sz≤65536) (hv:v.cells.toList.length=sz) (w:World) :
  (Instr.buildSlice T 1 #[(0,v)]).run P w=.ok (.slice (some ⟨w.heap.size,0,none⟩) 1 1) (w.alloc (.cells v.cells.toList.toArray e (0,0))) :=
 PV (w:=w) (n:=1) (ps:=[(0,v)]) (cs:=v.cells.toList) ht hz hsz om om (by
  simp only [Jq,Nat.zero_mul,Nat.one_mul,Nat.zero_add,hv,Nat.beq_refl,Bool.true_and,List.length_map,List.length_range,List.take_zero,List.nil_append];rw [show Nat.ble sz sz=true from Nat.ble_eq_true_of_le (Nat.le_refl _)];simp only [];rw [List.drop_of_length_le (by simp),List.append_nil])
theorem pL {x:Operand} {T e sz by_:Nat} {z:List Value} {v:Value} (hx:OpV E x True v) (ht:elOf Γ.P T=some (e,sz,by_,z)) (hz:z.length=sz) (hsz:0 < sz) (hns:sz≤65536) (hv:v.cells.toList.length=sz)
  (hk:DV Γ ops Msh pool ((d,aR v.cells.toList e)::E) ((some d,aR v.cells.toList e)::rs) cs0 rest KD) :
  DV Γ ops Msh pool E rs cs0 ({ dst:=some d,op:=.buildSlice T 1 #[(0,x)],type:=ty,pos:=pos,after:=af,guard:=none }::rest) KD:=by
 refine DV.mk (aR v.cells.toList e) [] pool [] (by simp) rfl ?_ (by rw [Fi];exact hk);intro a w F Mk _ _ hw hm hfa hcf
 have hMk:Mk=[]:=hcf
 subst hMk;rw [Fi] at hfa;simp only [List.nil_append] at hw ⊢;rw [if_pos (by simp [Region.wanted])]
 have e1:=hx.eval hfa (by simp [Op.operands]) trivial
 have h1:(execOp a.eval { dst:=some d,op:=.buildSlice T 1 #[(0,x)],type:=ty,pos:=pos,after:=af,guard:=none }).run Γ.P w=.ok (.value (.slice (some ⟨w.heap.size,0,none⟩) 1 1)) (w.alloc (.cells v.cells.toList.toArray e (0,0))):=by
  simp only [execOp]
  have:(#[(0,x)]:Array (Nat×Operand)).map (fun (i,x)=>(i,a.eval x))=#[(0,v)]:=by simp [e1]
  rw [this];simp [ZM ht hz hsz hns hv]
 rw [h1];exact ⟨[blk w.heap.size v.cells.toList e],⟨_,rfl,rfl⟩,Holds.new (show Holds Γ.w0 Γ.S0 F w by simpa using hw) rfl⟩
section
variable {τ δ:Type} [GT τ δ]
def Ov (r:List δ):Rel:=fun v M=>∃ X:TL τ,v=X.hdr∧GT.dat X=r∧M=[Af X]
theorem kU [FlatT τ] {s:Operand} {t T e sz by_:Nat} {z:List Value} {X:TL τ} {T':TypeId} (y:τ) {r:List δ}
  (hs:OpV (Fq [t] E) s True X.hdr) (hx:E.lookup t=some (aR (GT.cells y) T')) (ht:elOf Γ.P T=some (e,sz,by_,z)) (hsz:GT.sz τ=sz) (hz:z.length=sz)
  (hp:Pick (Af X) pool pool') (hr:CO (GT.dat X) [GT.dat y]=some r) (hb:by_≤32768)
  (hlin:No ops { dst:=some d,op:=.call { callee:=.builtin .append,args:=#[s,.tmp t],argTypes:=#[T,T] },type:=ty,pos:=pos,after:=af,guard:=none } [t]=true)
  (hk:DV Γ ops Msh pool' ((d,Ov (τ:=τ) r)::Fq [t] E) ((some d,Ov (τ:=τ) r)::rs) ([t]++cs0) rest KD) :
  DV Γ ops Msh pool E rs cs0 ({ dst:=some d,op:=.call { callee:=.builtin .append,args:=#[s,.tmp t],argTypes:=#[T,T] },type:=ty,pos:=pos,after:=af,guard:=none }::rest) KD:=by
 refine DV.mk (Ov (τ:=τ) r) ([Af X]) pool' ([t]) hp.perm hlin ?_ hk;intro a w F Mk _ _ hw hm hfa hcf;obtain ⟨Mx,Mk',rfl,hR,hnil⟩:=hcf
 have hnil:Mk'=[]:=hnil
 subst hnil;obtain ⟨b,hv,rfl⟩:=hR _ hx;rw [if_pos (by simp [Region.wanted])]
 have e1:=hs.eval hfa (by simp [Op.operands,Call.operands]) trivial
 have e2:a.eval (.tmp t)=.slice (some ⟨b,0,none⟩) 1 1:=hv
 obtain ⟨hl,rfl⟩:=JB hr;simp only [CD,List.length_map,List.length_cons,List.length_nil] at hl
 have hw1:Holds Γ.w0 Γ.S0 (Af X::blk b (GT.cells y) T'::F) w:=by simpa using hw
 have hsrc:∀ j v,(AJ [y])[j]?=some v→w.cell? ((⟨b,0,none⟩:Addr).add j)=some v:=fun j v hv=>by
  rw [Fx];exact Ag (Γ:=Γ) (M:=Af X::blk b (GT.cells y) T'::F) (List.mem_cons_of_mem _ (List.mem_cons_self ..)) w hw1.sees j v (by simpa [AJ] using hv)
 obtain ⟨a',c',e',tl,w',h1,h2⟩:=MG (P:=Γ.P) (c:=1) ht hsz hz (IG hw1) hsrc (by simpa using hl) hb ty
 have h1':(Builtin.append_ #[T,T] ty #[X.hdr,.slice (some ⟨b,0,none⟩) 1 1]).run Γ.P w=.ok (TL.hdr (⟨a',c',e',X.els++[y],tl⟩:TL τ)) w':=h1
 have h3:(execOp a.eval { dst:=some d,op:=.call { callee:=.builtin .append,args:=#[s,.tmp t],argTypes:=#[T,T] },type:=ty,pos:=pos,after:=af,guard:=none }).run Γ.P w=.ok (.value (TL.hdr (⟨a',c',e',X.els++[y],tl⟩:TL τ))) w':=by
  generalize TL.hdr (⟨a',c',e',X.els++[y],tl⟩:TL τ)=vv at *;generalize X.hdr=uu at *;simp [execOp,resolve,invoke,builtin,e1,e2,h1']
 rw [h3];refine ⟨[Af (⟨a',c',e',X.els++[y],tl⟩:TL τ)],⟨_,rfl,?_,rfl⟩,?_⟩
 ·rw [CD,List.map_append];rfl
 ·refine IH ?_
  have h4:Holds Γ.w0 Γ.S0 (BU X.els::BU [y]::Bf (⟨a',c',e',X.els++[y],tl⟩:TL τ)::F) w':=by
   have h5:=MQ (xs:=[y]) h2 (fun x _=>FlatT.flat x)
   have h6:Holds Γ.w0 Γ.S0 (BU X.els::BU [y]::Bf (⟨a',c',e',X.els++[y],tl⟩:TL τ)::blk b (GT.cells y) T'::F) w' :=
    h5.perm (((List.Perm.swap _ _ _).cons _).trans (List.Perm.swap _ _ _))
   exact h6.sub ⟨[blk b (GT.cells y) T'],by
    show List.Perm _ (([BU X.els,BU [y],Bf (⟨a',c',e',X.els++[y],tl⟩:TL τ)]++F)++[blk b (GT.cells y) T']);rw [List.append_assoc];exact (List.perm_append_comm (l₁:=[blk b (GT.cells y) T']) (l₂:=F)).append_left [BU X.els,BU [y],Bf (⟨a',c',e',X.els++[y],tl⟩:TL τ)]⟩
  exact (TB h4).perm (List.Perm.swap _ _ _)
theorem Je {X:TL τ} {j:Nat} {x:τ} (h:Bf X∈M) (hi:X.els[j]?=some x):RdC Γ M X.g (X.o+j*GT.sz τ) (GT.cells x):=fun w hw k v hv=>by
 obtain ⟨r1,r2,r3,r4⟩:=hw.prs _ h
 have hlt:=(List.getElem?_eq_some_iff.1 hi).1
 have hk:k < GT.sz τ:=by rw [← GT.len x];exact (List.getElem?_eq_some_iff.1 hv).1
 cases ha:X.a with
 | none=>have:=(r3 ha).1;rw [this] at hlt;simp at hlt
 | some a =>
  obtain ⟨h1,h2,h3,h4⟩:=r4 a ha
  have hg:X.g=a.block:=by unfold TL.g;rw [ha];rfl
  have ho:X.o=0:=by unfold TL.o;rw [ha];exact h2
  rw [hg,ho,Nat.zero_add,cell_of_row _ _ _ _ _ _ h3];simp only [List.getElem?_toArray]
  have hc:=Hx X.els j k x hi hk
  rw [List.getElem?_append_left (by rw [hv] at hc;exact (List.getElem?_eq_some_iff.1 hc).1),hc];exact hv
theorem kV {X:TL τ} {j:Nat} {u:τ} (h:(Bf X).pr w) (hi:X.els[j]?=some u):X.hdr=.slice (some ⟨X.g,X.o,none⟩) X.els.length X.cap:=by
 obtain ⟨r1,r2,r3,r4⟩:=h
 have hlt:=(List.getElem?_eq_some_iff.1 hi).1
 show Value.slice X.a X.els.length X.cap=_
 cases ha:X.a with
 | none=>have:=(r3 ha).1;rw [this] at hlt;simp at hlt
 | some a =>
  obtain ⟨h1,h2,h3,h4⟩:=r4 a ha;obtain ⟨b,o,s⟩:=a
  have h1:s=none:=h1
  subst h1;simp [TL.g,TL.o,ha]
theorem Kh {x y:Operand} {T e sz by_:Nat} {z:List Value} {k:IntKind} {i:Int} {X:TL τ} {u:τ} (hn:Nat.blt d Γ.n=true) (hx:ev l x=some X.hdr) (hy:ev l y=some (.int k i))
  (ht:elOf Γ.P T=some (e,sz,by_,z)) (hm:Bf X∈M) (hi:0≤i∧X.els[i.toNat]?=some u) (hk:L Γ rest ((d,.pointer (some ⟨X.g,X.o+i.toNat*sz,none⟩))::l) M K) :
  L Γ ({ dst:=some d,op:=.indexAddr T x y,type:=ty,pos:=pos,after:=af,guard:=none }::rest) l M K :=
 Fv hn (fun a' w ha hw=>by
  have h1:=ha.eval hx
  rw [kV (hw.prs _ hm) hi.2] at h1;simp [execOp,h1,ha.eval hy,Jd ht X.g X.o X.els.length X.cap k i i.toNat om (List.getElem?_eq_some_iff.1 hi.2).1 w]) hk
theorem HX {X:TL τ} {i:Nat} {u:τ} (hi:X.els[i]?=some u) (p:Pick (BU (X.els.drop i)) M M1) (h:Holds w0 S0 M w):Holds w0 S0 (Af u::BU (X.els.drop (i+1))::M1) w:=by
 have h1:=h.perm p.perm
 obtain ⟨hlt,hx⟩:=List.getElem?_eq_some_iff.1 hi
 have he:X.els.drop i=u::X.els.drop (i+1):=by rw [← hx,← List.drop_eq_getElem_cons hlt]
 rw [he] at h1;refine h1.reFp (List.Perm.of_eq ?_) fun y hy=>?_
 ·simp only [Co];show (u::X.els.drop (i+1)).flatMap GT.fp++fps M1=GT.fp u++((X.els.drop (i+1)).flatMap GT.fp++fps M1);rw [List.flatMap_cons,List.append_assoc]
 ·have h2:=h1.prs (BU (u::X.els.drop (i+1))) (List.mem_cons_self ..)
  rcases List.mem_cons.1 hy with rfl | hy
  ·exact h2 u (List.mem_cons_self ..)
  rcases List.mem_cons.1 hy with rfl | hy
  ·exact fun x hx=>h2 x (List.mem_cons_of_mem _ hx)
  ·exact h1.prs _ (List.mem_cons_of_mem _ hy)
theorem Hl {X:TL τ} (p:Pick (Af X) M M1) (h:Holds w0 S0 M w):Holds w0 S0 (Bf X::BU (X.els.drop 0)::M1) w:=IG (h.perm p.perm)
theorem EC {X:TL τ} {i:Int} {u:τ} (hi:0≤i∧X.els[i.toNat]?=some u) (hm:Bf X∈M) (p:Pick (BU (X.els.drop (i.toNat+1))) M M1) (h:Holds w0 S0 M w) :
  Holds w0 S0 (BU (X.els.drop (IntKind.wrap .i64 (i+1)).toNat)::M1) w:=by
 have h1:=h.perm p.perm
 have hlt:=(List.getElem?_eq_some_iff.1 hi.2).1
 obtain ⟨r1,r2,_⟩:=h.prs _ hm;simp only [maxLen] at r2;rw [CE (by unfold inR;omega),show (i+1).toNat=i.toNat+1 by omega];exact h1
end
end Go.Proofs.SL
namespace Go.Proofs.SL
open Go
variable {Γ:Cx} {l:Ca} {M M' M1 M2 F:List HP} {Q:Dw} {K:Dp} {rest:List Oper}
section
variable {τ δ:Type} [GT τ δ]
theorem DJ {X:TL τ} {i:Nat} {cs:List Value} (x':τ) {r:List δ} (hc:cs=GT.cells x') (p:Pick (Lq X i cs) M M1) (q:Pick (Af x') M1 M2) (hr:some ((GT.dat X).set i (GT.dat x'))=some r)
  (hk:∀ X2:TL τ,GT.dat X2=r→X2.hdr=X.hdr→L Γ rest l (Af X2::M2) K):L Γ rest l M K :=
 AA (fun w h=>Ut hc p q h) (hk _ (by rw [ZL];exact Option.some.inj hr) (by show Value.slice X.a (X.els.set i x').length X.cap=Value.slice X.a X.els.length X.cap;rw [List.length_set]))
end
end Go.Proofs.SL
namespace Go.Proofs.SL
open Go
variable {Γ:Cx} {rest:List Oper} {d:Nat} {ty:TypeId} {pos:String} {af:Array Edge} {gd:Option (Nat×Bool)}
variable {ops:Array Oper} {Msh pool:List HP} {E:Fl} {rs:List (Option Nat×Rel)} {cs0:List Nat} {KD:List (Option Nat×Rel)→List Nat→List HP→Prop}
end Go.Proofs.SL
namespace Go.Proofs.SL
open Go
variable {Γ:Cx} {rest:List Oper} {d:Nat} {ty:TypeId} {pos:String} {af:Array Edge} {gd:Option (Nat×Bool)}
variable {ops:Array Oper} {Msh pool:List HP} {E:Fl} {rs:List (Option Nat×Rel)} {cs0:List Nat} {KD:List (Option Nat×Rel)→List Nat→List HP→Prop}
end Go.Proofs.SL
namespace Go.Proofs.SL
open Go
section
variable {α β σ τ:Type}
theorem Dc {k:Nat} (h:k < 9223372036854775807):IntKind.wrap .i64 ((k:Int)+1)=((k+1:Nat):Int):=by rw [CE (by unfold inR;omega)];omega
theorem Dn [Inhabited α] {o:Option α} {k:α→Option β}:gb true o k=o.bind k:=rfl
theorem QX [Inhabited α] {o:Option α} {k:α→Option β}:gb false o k=k default:=rfl
theorem PY [Inhabited α] {g:Bool} {a:α} {k:α→Option β} (h:g=false→k a=k default):gb g (some a) k=k a:=by
 cases g with
 | true=>rfl
 | false=>exact (h rfl).symm
def goE (step:τ→β→τ ⊕ Option α) (fin:τ→Option α):List β→τ→Option α
 | [],t=>fin t
 | x::xs,t=>match step t x with
  | .inl t'=>goE step fin xs t'
  | .inr r=>r
theorem Wh {f:σ→Option (σ ⊕ α)} {l:List β} (mk:Nat→τ→σ) (step:τ→β→τ ⊕ Option α) (fin:τ→Option α) (I:Nat→τ→Prop)
  (hs:∀ k t x,l[k]?=some x→I k t→(∃ t',step t x=.inl t'∧f (mk k t)=some (.inl (mk (k+1) t'))∧I (k+1) t')∨(∃ r,step t x=.inr r∧f (mk k t)=r.map .inr))
  (he:∀ t,I l.length t→f (mk l.length t)=(fin t).map .inr):∀ (xs:List β) (k:Nat) (t:τ),l.drop k=xs→I k t→k≤l.length→BH f (mk k t)=goE step fin xs t
 | [],k,t,hd,hi,hk=>by
  have hlen:k=l.length:=by
   have:=congrArg List.length hd
   simp at this;omega
  subst hlen;rw [JA,he t hi];show _=fin t
  cases fin t<;>rfl
 | x::xs,k,t,hd,hi,hk=>by
  have hx:l[k]?=some x:=by
   have:=congrArg (fun q=>q[0]?) hd
   simpa [List.getElem?_drop] using this
  have hlt:=(List.getElem?_eq_some_iff.1 hx).1
  have hd':l.drop (k+1)=xs:=by
   have:=congrArg List.tail hd
   simpa [List.tail_drop] using this
  rw [JA];rcases hs k t x hx hi with ⟨t',h1,h2,h3⟩ | ⟨r,h1,h2⟩
  ·rw [h2];show BH f (mk (k+1) t')=_;rw [Wh mk step fin I hs he xs (k+1) t' hd' h3 om];simp only [goE,h1]
  ·rw [h2];simp only [goE,h1]
   cases r<;>rfl
theorem IJ {f:σ→Option (σ ⊕ α)} {l:List β} (mk:Nat→τ→σ) (step:τ→β→τ ⊕ Option α) (fin:τ→Option α) (I:Nat→τ→Prop) (t0:τ) {s0:σ} (h0:mk 0 t0=s0) (hI:I 0 t0)
  (hs:∀ k t x,l[k]?=some x→I k t→(∃ t',step t x=.inl t'∧f (mk k t)=some (.inl (mk (k+1) t'))∧I (k+1) t')∨(∃ r,step t x=.inr r∧f (mk k t)=r.map .inr))
  (he:∀ t,I l.length t→f (mk l.length t)=(fin t).map .inr):BH f s0=goE step fin l t0:=by
 subst h0;exact Wh mk step fin I hs he l 0 t0 rfl hI (Nat.zero_le _)
theorem SJ (xs acc:List β) (g:List β→Option α):goE (fun (t:List β) x=>(.inl (t++[x]):List β ⊕ Option α)) g xs acc=g (acc++xs):=by
 induction xs generalizing acc with
 | nil=>simp [goE]
 | cons x xs ih=>simp only [goE];rw [ih];simp
theorem QY (h:τ→β→τ) (g:τ→Option α):∀ (xs:List β) (t:τ),goE (fun t x=>(.inl (h t x):τ ⊕ Option α)) g xs t=g (xs.foldl h t)
 | [],t=>rfl
 | x::xs,t=>by simp only [goE,List.foldl_cons];exact QY h g xs (h t x)
theorem Cp {δ:Type} {a b:List δ} (h:a.length+b.length≤4294967296):CO a b=some (a++b):=if_pos h
theorem En {k n:Nat} (h:k < n):decide ((k:Int) < (n:Int))=true:=decide_eq_true om
theorem Eo {n:Nat}:decide ((n:Int) < (n:Int))=false:=decide_eq_false om
theorem Gz {f:Int→Option (Int ⊕ α)} {n:Nat} (b:Nat→Bool) (no yes:Option α)
  (h:∀ k,k < n→f (k:Int)=if b k then some (.inl ((k+1:Nat):Int)) else no.map .inr) (hn:f (n:Int)=yes.map .inr):BH f 0=if (List.range n).all b then yes else no:=by
 have key:∀ m k,n - k=m→k≤n→BH f (k:Int)=if (List.range' k (n - k)).all b then yes else no:=by
  intro m
  induction m with
  | zero =>
   intro k hm hk
   have:k=n:=by omega
   subst this;rw [JA,hn,Nat.sub_self]
   cases yes<;>rfl
  | succ m ih =>
   intro k hm hk;rw [JA,h k om,show n - k=(n - (k+1))+1 by omega,List.range'_succ,List.all_cons]
   cases hb:b k with
   | true =>
    simp only [if_true,Bool.true_and];exact ih (k+1) om om
   | false =>
    simp only [Bool.false_and,Bool.false_eq_true,if_false]
    cases no<;>rfl
 have:=key n 0 om om
 rw [Nat.sub_zero,← List.range_eq_range'] at this;exact this
theorem Jf {γ:Type} {f:Int→Option (Int ⊕ γ)} {l:List β} (p:β→Bool) (q:Int→Option γ) (hl:l.length≤9223372036854775807)
  (hs:∀ (k:Nat) x,l[k]?=some x→f (k:Int)=if p x then (q k).map .inr else some (.inl (IntKind.wrap .i64 ((k:Int)+1)))) (he:f (l.length:Int)=(q (-1)).map .inr):BH f 0=q (DE p l):=by
 have key:∀ (xs:List β) (k:Nat),l.drop k=xs→k≤l.length→(∀ j x,j < k→l[j]?=some x→p x=false)→BH f (k:Int)=q (DE p l):=by
  intro xs
  induction xs with
  | nil =>
   intro k hd hk hf
   have hlen:k=l.length:=by have:=congrArg List.length hd;simp at this;omega
   subst hlen;rw [JA,he,Zg (fun x hx=>by
    obtain ⟨j,hj⟩:=List.getElem?_of_mem hx;exact hf j x (List.getElem?_eq_some_iff.1 hj).1 hj)]
   cases q (-1)<;>rfl
  | cons x xs ih =>
   intro k hd hk hf
   have hx:l[k]?=some x:=by
    have:=congrArg (fun q=>q[0]?) hd
    simpa [List.getElem?_drop] using this
   have hlt:=(List.getElem?_eq_some_iff.1 hx).1
   rw [JA,hs k x hx]
   cases hp:p x with
   | true =>
    rw [aP (fun y hy=>by
     obtain ⟨j,hj⟩:=List.getElem?_of_mem hy
     have hjl:=(List.getElem?_eq_some_iff.1 hj).1
     rw [List.length_take] at hjl;rw [List.getElem?_take_of_lt om] at hj;exact hf j y om hj) hx hp]
    simp only [if_true]
    cases q (k:Int)<;>rfl
   | false =>
    simp only [Bool.false_eq_true,if_false];rw [Dc om];refine ih (k+1) ?_ om (fun j y hj hy=>?_)
    ·have:=congrArg List.tail hd
     simpa [List.tail_drop] using this
    ·rcases Nat.lt_or_ge j k with h1 | h1
     ·exact hf j y h1 hy
     ·have:j=k:=by omega
      subst this;rw [hx] at hy;cases hy;exact hp
 exact key l 0 rfl (Nat.zero_le _) (fun j x hj=>absurd hj (Nat.not_lt_zero _))
theorem Wz {l:List β} {p:β→Bool}:(List.range l.length).all (fun k=>(l[k]?).all p)=l.all p:=by
 rw [Bool.eq_iff_iff,List.all_eq_true,List.all_eq_true]
 constructor
 ·intro h x hx;obtain ⟨i,hi⟩:=List.getElem?_of_mem hx
  have:=h i (List.mem_range.2 (List.getElem?_eq_some_iff.1 hi).1)
  rw [hi] at this;exact this
 ·intro h k hk
  have hk:=List.mem_range.1 hk
  rw [List.getElem?_eq_getElem hk];exact h _ (List.getElem_mem hk)
end
end Go.Proofs.SL
