/- The texts of the proof, part 3: the base, walks of functions, plain Lean. -/
import Derived.Test.YthlbpedehajlgaaGreatT2
import Derived.ProofKit
import Derived.Deep.Slices
import Derived.OpenShut
import Derived.ChangeOld
import Derived.Laws.StructEq
import Derived.Laws.BytesString
namespace Go.Proofs.SL
open Go
variable {Γ:Cx} {ops:Array Oper} {Msh pool:List HP} {E:Fl} {rs:List (Option Nat×Rel)} {rest:List Oper} {KD:RKont} {cs0:List Nat}
variable {d:Nat} {ty:TypeId} {pos:String} {af:Array Edge} {gd:Option (Nat×Bool)}
theorem dropE_nil:∀ (E:Fl),dropE [] E=E
 | []=>rfl
 | (t,R)::E=>by simp only [dropE,List.elem_nil];rw [dropE_nil E]
theorem DV_nil (h:KD rs cs0 pool):DV Γ ops Msh pool E rs cs0 [] KD:=h
def OpV (E:Fl) (x:Operand) (c:Prop) (v:Value):Prop :=
 match x with
 | .tmp t=>∃ R,E.lookup t=some R∧∀ u M,R u M→c→u=v
 | .const u=>u=v
 | .func f=>.func (.func f) #[] #[]=v
 | .global g=>.pointer (some ⟨g,0,none⟩)=v
theorem OpV.c {c:Prop} {v:Value}:OpV E (.const v) c v:=rfl
theorem OpV.g {t:Nat} {c c':Prop} {v:Value} (h:E.lookup t=some (FC c' v)) (hc:c→c'):OpV E (.tmp t) c v:=⟨_,h,fun _ _ hR hcc=>hR.2.1 (hc hcc)⟩
theorem OpV.t {t:Nat} {c:Prop} {v:Value} (h:E.lookup t=some (FC True v)):OpV E (.tmp t) c v:=.g h fun _=>trivial
theorem OpV.s {t:Nat} {c:Prop} {v:Value} (h:E.lookup t=some (FC c v)):OpV E (.tmp t) c v:=.g h id
theorem OpV.eval {a:Act} {F:List HP} {o:Oper} {x:Operand} {c:Prop} {v:Value} (h:OpV E x c v) (hf:Facts E (o.looksAt ops) F a) (hx:x∈o.op.operands.toList) (hc:c):a.eval x=v:=by
 cases x with
 | tmp t =>
  obtain ⟨R,h1,h2⟩:=h
  obtain ⟨M,h3,_⟩:=hf t R (List.mem_append_left _ (List.mem_filterMap.2 ⟨_,hx,rfl⟩)) h1
  exact h2 _ _ h3 hc
 | const u=>exact h
 | func f=>exact h
 | global g=>exact h
def GC (ops:Array Oper) (E:Fl) (o:Oper) (c:Prop):Prop:=∀ a F,Facts E (o.looksAt ops) F a→(Region.wanted o (yielded ops a.tmps)=true↔c)
theorem GC.none {op:Op}:GC ops E { dst:=some d,op,type:=ty,pos,after:=af,guard:=Option.none } True:=fun a F _=>by simp [Region.wanted]
theorem GC.some {op:Op} {g tg:Nat} {want b:Bool} {c0:Prop} {dd:Option Nat} (h1:(ops[g]?).bind (·.dst)=some tg) (h2:E.lookup tg=Option.some (FC c0 (.bool b))) :
  GC ops E { dst:=dd,op,type:=ty,pos,after:=af,guard:=Option.some (g,want) } (c0∧b=want):=fun a F hf=>by
 obtain ⟨M,⟨_,h4,h5⟩,_⟩:=hf tg _ (List.mem_append_right _ (by simp [h1])) h2
 simp only [Region.wanted,yielded,h1,Option.bind_some]
 by_cases hc:c0
 ·have h6:=h4 hc
  by_cases hlt:tg < a.tmps.size
  ·simp only [Array.getD_eq_getD_getElem?,Array.getElem?_eq_getElem hlt,Option.getD_some] at h6
   rw [Array.getElem?_eq_getElem hlt,h6]
   simp [hc]
  ·simp only [Array.getD_eq_getD_getElem?,Array.getElem?_eq_none (Nat.le_of_not_lt hlt),Option.getD_none] at h6
   cases h6
 ·have h6:=h5 hc
  by_cases hlt:tg < a.tmps.size
  ·simp only [Array.getD_eq_getD_getElem?,Array.getElem?_eq_getElem hlt,Option.getD_some] at h6
   rw [Array.getElem?_eq_getElem hlt,h6]
   simp [hc,undef]
  ·rw [Array.getElem?_eq_none (Nat.le_of_not_lt hlt)]
   simp [hc]
theorem DV_pure {op:Op} (c:Prop) (x:Value) (hg:GC ops E { dst:=some d,op,type:=ty,pos,after:=af,guard:=gd } c)
  (he:∀ a w F,c→Facts E (Oper.looksAt ops { dst:=some d,op,type:=ty,pos,after:=af,guard:=gd }) F a→Sees Γ.w0 Γ.S0 Msh w →
   (execOp a.eval { dst:=some d,op,type:=ty,pos,after:=af,guard:=gd }).run Γ.P w=.ok (.value x) w)
  (hk:DV Γ ops Msh pool ((d,FC c x)::E) ((some d,FC c x)::rs) cs0 rest KD) :
  DV Γ ops Msh pool E rs cs0 ({ dst:=some d,op,type:=ty,pos,after:=af,guard:=gd }::rest) KD:=by
 refine DV.mk (FC c x) [] pool [] (by simp) rfl ?_ (by rw [dropE_nil];exact hk)
 intro a w F Mk _ _ hw hm hf hcf
 have hMk:Mk=[]:=hcf
 subst hMk
 rw [dropE_nil] at hf
 simp only [List.nil_append] at hw ⊢
 have hgc:=hg a F hf
 split
 ·rename_i hwt
  have hc:=hgc.1 hwt
  rw [he a w F hc hf ((show Holds Γ.w0 Γ.S0 F w by simpa using hw).seesSub hm)]
  exact ⟨[],⟨rfl,fun _=>rfl,fun hn=>(hn hc).elim⟩,hw⟩
 ·rename_i hwt
  exact ⟨rfl,fun hc=>(hwt (hgc.2 hc)).elim,fun _=>rfl⟩
theorem D_move {x:Operand} {c:Prop} {v:Value} (hg:GC ops E { dst:=some d,op:=.move x,type:=ty,pos,after:=af,guard:=gd } c) (hx:OpV E x c v)
  (hk:DV Γ ops Msh pool ((d,FC c v)::E) ((some d,FC c v)::rs) cs0 rest KD):DV Γ ops Msh pool E rs cs0 ({ dst:=some d,op:=.move x,type:=ty,pos,after:=af,guard:=gd }::rest) KD :=
 DV_pure c v hg (fun a w F hc hf _=>by have e:=hx.eval hf (by simp [Op.operands]) hc;simp [execOp,e]) hk
theorem D_assign {x:Operand} {c:Prop} {v:Value} (hg:GC ops E { dst:=some d,op:=.assign x,type:=ty,pos,after:=af,guard:=gd } c) (hx:OpV E x c v)
  (hk:DV Γ ops Msh pool ((d,FC c v)::E) ((some d,FC c v)::rs) cs0 rest KD):DV Γ ops Msh pool E rs cs0 ({ dst:=some d,op:=.assign x,type:=ty,pos,after:=af,guard:=gd }::rest) KD :=
 DV_pure c v hg (fun a w F hc hf _=>by have e:=hx.eval hf (by simp [Op.operands]) hc;simp [execOp,e]) hk
theorem D_not {x:Operand} {T:TypeId} {c:Prop} {b:Bool} (hg:GC ops E { dst:=some d,op:=.unOp .not T x,type:=ty,pos,after:=af,guard:=gd } c) (hx:OpV E x c (.bool b))
  (hk:DV Γ ops Msh pool ((d,FC c (.bool (!b)))::E) ((some d,FC c (.bool (!b)))::rs) cs0 rest KD):DV Γ ops Msh pool E rs cs0 ({ dst:=some d,op:=.unOp .not T x,type:=ty,pos,after:=af,guard:=gd }::rest) KD :=
 DV_pure c _ hg (fun a w F hc hf _=>by have e:=hx.eval hf (by simp [Op.operands]) hc;simp [execOp,e,Op.unary]) hk
theorem D_bin {op:BinOp} {T U:TypeId} {x y:Operand} {c:Prop} {u v r:Value} (hg:GC ops E { dst:=some d,op:=.binOp op T x y U,type:=ty,pos,after:=af,guard:=gd } c)
  (hx:OpV E x c u) (hy:OpV E y c v) (he:c→BinV Γ.P op T x y u v r)
  (hk:DV Γ ops Msh pool ((d,FC c r)::E) ((some d,FC c r)::rs) cs0 rest KD):DV Γ ops Msh pool E rs cs0 ({ dst:=some d,op:=.binOp op T x y U,type:=ty,pos,after:=af,guard:=gd }::rest) KD :=
 DV_pure c r hg (fun a w F hc hf _=>by
  have e1:=hx.eval hf (by simp [Op.operands]) hc
  have e2:=hy.eval hf (by simp [Op.operands]) hc
  simp only [execOp,e1,e2]
  rw [Sem.run_bind,he hc w];rfl) hk
theorem eval_const (a:Act) (v:Value):a.eval (.const v)=v:=rfl
theorem D_or {x y:Operand} {c cy:Prop} {b b':Bool} (hg:GC ops E { dst:=some d,op:=.pick x (.const (.bool true)) y,type:=ty,pos,after:=af,guard:=gd } c) (hx:OpV E x c (.bool b))
  (hy:OpV E y cy (.bool b')) (hcy:c→b=false→cy)
  (hk:DV Γ ops Msh pool ((d,FC c (.bool (b||b')))::E) ((some d,FC c (.bool (b||b')))::rs) cs0 rest KD):DV Γ ops Msh pool E rs cs0 ({ dst:=some d,op:=.pick x (.const (.bool true)) y,type:=ty,pos,after:=af,guard:=gd }::rest) KD :=
 DV_pure c _ hg (fun a w F hc hf _=>by
  have e:=hx.eval hf (by simp [Op.operands]) hc
  cases hb:b with
  | true=>subst hb;simp [execOp,e,asBool,eval_const]
  | false =>
   have e2:=hy.eval hf (by simp [Op.operands]) (hcy hc hb)
   subst hb;simp [execOp,e,e2,asBool,eval_const]) hk
theorem D_and {x y:Operand} {c cy:Prop} {b b':Bool} (hg:GC ops E { dst:=some d,op:=.pick x y (.const (.bool false)),type:=ty,pos,after:=af,guard:=gd } c) (hx:OpV E x c (.bool b))
  (hy:OpV E y cy (.bool b')) (hcy:c→b=true→cy)
  (hk:DV Γ ops Msh pool ((d,FC c (.bool (b&&b')))::E) ((some d,FC c (.bool (b&&b')))::rs) cs0 rest KD):DV Γ ops Msh pool E rs cs0 ({ dst:=some d,op:=.pick x y (.const (.bool false)),type:=ty,pos,after:=af,guard:=gd }::rest) KD :=
 DV_pure c _ hg (fun a w F hc hf _=>by
  have e:=hx.eval hf (by simp [Op.operands]) hc
  cases hb:b with
  | false=>subst hb;simp [execOp,e,asBool,eval_const]
  | true =>
   have e2:=hy.eval hf (by simp [Op.operands]) (hcy hc hb)
   subst hb;simp [execOp,e,e2,asBool,eval_const]) hk
theorem D_lenS {x:Operand} {T:TypeId} {e:TypeId×Nat×Nat×List Value} {a:Option Addr} {n cp:Nat} {c:Prop} (hg:GC ops E { dst:=some d,op:=.call { callee:=.builtin .len,args:=#[x],argTypes:=#[T] },type:=ty,pos:=pos,after:=af,guard:=gd } c)
  (hx:OpV E x c (.slice a n cp)) (ht:elOf Γ.P T=some e)
  (hk:DV Γ ops Msh pool ((d,FC c (.int .i64 n))::E) ((some d,FC c (.int .i64 n))::rs) cs0 rest KD) :
  DV Γ ops Msh pool E rs cs0 ({ dst:=some d,op:=.call { callee:=.builtin .len,args:=#[x],argTypes:=#[T] },type:=ty,pos:=pos,after:=af,guard:=gd }::rest) KD :=
 DV_pure c _ hg (fun a' w F hc hf _=>by
  have e1:=hx.eval hf (by simp [Op.operands,Call.operands]) hc
  have:=run_len_slice (z:=e) ht a n cp ty w
  simp [execOp,resolve,invoke,builtin,e1,this]) hk
theorem run_fieldAt {P:Program} {T f fo:Nat} (ht:fldOf P T f=some fo) (g o:Nat) (w:World):(Instr.fieldAt T (.pointer (some ⟨g,o,none⟩)) f).run P w=.ok (.pointer (some ⟨g,o+fo,none⟩)) w:=by
 unfold fldOf at ht
 split at ht<;>(try cases ht)
 rename_i fs hfs
 split at ht<;>(try cases ht)
 rename_i x' hx'
 split at ht<;>(try cases ht)
 rename_i i hi
 split at ht<;>cases ht
 rename_i hsz
 simp [Instr.fieldAt,underlying,hfs,hx',Instr.sureAddr,fieldPlace,sizeOf,typeInfo,hi,hsz,addr_add]
theorem D_fieldAddr {x:Operand} {T f fo g o:Nat} {c:Prop} (hg:GC ops E { dst:=some d,op:=.fieldAddr T x f,type:=ty,pos:=pos,after:=af,guard:=gd } c)
  (hx:OpV E x c (.pointer (some ⟨g,o,none⟩))) (ht:fldOf Γ.P T f=some fo)
  (hk:DV Γ ops Msh pool ((d,FC c (.pointer (some ⟨g,o+fo,none⟩)))::E) ((some d,FC c (.pointer (some ⟨g,o+fo,none⟩)))::rs) cs0 rest KD) :
  DV Γ ops Msh pool E rs cs0 ({ dst:=some d,op:=.fieldAddr T x f,type:=ty,pos:=pos,after:=af,guard:=gd }::rest) KD :=
 DV_pure c _ hg (fun a' w F hc hf _=>by
  have e1:=hx.eval hf (by simp [Op.operands]) hc
  simp [execOp,e1,run_fieldAt ht]) hk
theorem D_nilCheck {x:Operand} {a:Addr} {c:Prop} (hg:GC ops E { dst:=some d,op:=.nilCheck x,type:=ty,pos:=pos,after:=af,guard:=gd } c)
  (hx:OpV E x c (.pointer (some a)))
  (hk:DV Γ ops Msh pool ((d,FC c (.pointer (some a)))::E) ((some d,FC c (.pointer (some a)))::rs) cs0 rest KD) :
  DV Γ ops Msh pool E rs cs0 ({ dst:=some d,op:=.nilCheck x,type:=ty,pos:=pos,after:=af,guard:=gd }::rest) KD :=
 DV_pure c _ hg (fun a' w F hc hf _=>by
  have e1:=hx.eval hf (by simp [Op.operands]) hc
  simp [execOp,e1]) hk
theorem D_load {x:Operand} {T g off fo:Nat} {cs:List Value} {v:Value} {c:Prop} (hg:GC ops E { dst:=some d,op:=.load T x,type:=ty,pos:=pos,after:=af,guard:=gd } c)
  (hx:OpV E x c (.pointer (some ⟨g,off+fo,none⟩))) (hc:c→RdC Γ Msh g off cs) (ht:oneOf Γ.P T=true) (hv:cs[fo]?=some v)
  (hk:DV Γ ops Msh pool ((d,FC c v)::E) ((some d,FC c v)::rs) cs0 rest KD) :
  DV Γ ops Msh pool E rs cs0 ({ dst:=some d,op:=.load T x,type:=ty,pos:=pos,after:=af,guard:=gd }::rest) KD :=
 DV_pure c _ hg (fun a' w F hcc hf hw=>by
  have e1:=hx.eval hf (by simp [Op.operands]) hcc
  simp [execOp,e1,Instr.loadAt,Instr.sureAddr,loadVar,run_isAgg_one ht,hc hcc w hw fo v hv]) hk
theorem D_load0 {x:Operand} {T g off:Nat} {cs:List Value} {v:Value} {c:Prop} (hg:GC ops E { dst:=some d,op:=.load T x,type:=ty,pos:=pos,after:=af,guard:=gd } c)
  (hx:OpV E x c (.pointer (some ⟨g,off,none⟩))) (hc:c→RdC Γ Msh g off cs) (ht:oneOf Γ.P T=true) (hv:cs[0]?=some v)
  (hk:DV Γ ops Msh pool ((d,FC c v)::E) ((some d,FC c v)::rs) cs0 rest KD) :
  DV Γ ops Msh pool E rs cs0 ({ dst:=some d,op:=.load T x,type:=ty,pos:=pos,after:=af,guard:=gd }::rest) KD :=
 D_load (fo:=0) hg hx hc ht hv hk
theorem D_loadW {x:Operand} {T g off:Nat} {cs:List Value} {c:Prop} (hg:GC ops E { dst:=some d,op:=.load T x,type:=ty,pos:=pos,after:=af,guard:=gd } c)
  (hx:OpV E x c (.pointer (some ⟨g,off,none⟩))) (hc:c→RdC Γ Msh g off cs) (ht:aggOf Γ.P T=some cs.length)
  (hk:DV Γ ops Msh pool ((d,FC c (.agg cs.toArray))::E) ((some d,FC c (.agg cs.toArray))::rs) cs0 rest KD) :
  DV Γ ops Msh pool E rs cs0 ({ dst:=some d,op:=.load T x,type:=ty,pos:=pos,after:=af,guard:=gd }::rest) KD :=
 DV_pure c _ hg (fun a' w F hcc hf hw=>by
  have e1:=hx.eval hf (by simp [Op.operands]) hcc
  have hl:=run_loadCells_at (P:=Γ.P) (hc hcc w hw)
  simp [execOp,e1,Instr.loadAt,Instr.sureAddr,loadVar,run_isAgg_agg ht,hl]) hk
def IsV (x:Value):Rel:=fun v M=>v=x∧M=[]
def OpVs (E:Fl) (c:Prop):List Operand→List Value→Prop
 | [],[]=>True
 | x::xs,v::vs=>OpV E x c v∧OpVs E c xs vs
 | _,_=>False
theorem OpVs.nil {c:Prop}:OpVs E c [] []:=trivial
theorem OpVs.cons {c:Prop} {x:Operand} {v:Value} {xs:List Operand} {vs:List Value} (h:OpV E x c v) (hs:OpVs E c xs vs):OpVs E c (x::xs) (v::vs):=⟨h,hs⟩
theorem OpVs.evals {a:Act} {F:List HP} {o:Oper} {c:Prop} (hc:c) (hf:Facts E (o.looksAt ops) F a):∀ (xs:List Operand) (vs:List Value),OpVs E c xs vs→(∀ x,x∈xs→x∈o.op.operands.toList)→xs.map a.eval=vs
 | [],[],_,_=>rfl
 | x::xs,v::vs,h,hm=>by
  rw [List.map_cons,h.1.eval hf (hm x (by simp)) hc,OpVs.evals hc hf xs vs h.2 (fun y hy=>hm y (List.mem_cons_of_mem _ hy))]
 | [],_::_,h,_=>h.elim
 | _::_,[],h,_=>h.elim
theorem D_callX {f:Nat} {xs:List Operand} {ats:Array TypeId} {vs:List Value} {c:Prop} {x:Value}
  (hg:GC ops E { dst:=some d,op:=.call { callee:=.value (.func f),args:=xs.toArray,argTypes:=ats },type:=ty,pos:=pos,after:=af,guard:=gd } c)
  (hf:IsFn Γ.P f) (hx:OpVs E c xs vs) (hc:c→∀ w F,Holds Γ.w0 Γ.S0 F w→(∀ h,h∈Msh→h∈F)→Spec Γ.P f vs.toArray w [] (IsV x))
  (hk:DV Γ ops Msh pool ((d,FC c x)::E) ((some d,FC c x)::rs) cs0 rest KD) :
  DV Γ ops Msh pool E rs cs0 ({ dst:=some d,op:=.call { callee:=.value (.func f),args:=xs.toArray,argTypes:=ats },type:=ty,pos:=pos,after:=af,guard:=gd }::rest) KD:=by
 refine DV.mk (FC c x) [] pool [] (by simp) rfl ?_ (by rw [dropE_nil];exact hk)
 intro a w F Mk _ _ hw hm hfa hcf
 have hMk:Mk=[]:=hcf
 subst hMk
 rw [dropE_nil] at hfa
 simp only [List.nil_append] at hw ⊢
 have hgc:=hg a F hfa
 split
 ·rename_i hwt
  have hcc:=hgc.1 hwt
  have hw':Holds Γ.w0 Γ.S0 F w:=by simpa using hw
  have h2:(#[]++xs.toArray.map a.eval++#[]:Array Value)=vs.toArray:=by
   simp [OpVs.evals (o:={ dst:=some d,op:=.call { callee:=.value (.func f),args:=xs.toArray,argTypes:=ats },type:=ty,pos:=pos,after:=af,guard:=gd }) hcc hfa xs vs hx (fun x hx=>by simp [Op.operands,Call.operands,hx])]
  rw [execOp_call_go,h2,hf.run]
  exact (hc hcc w F hw' hm (Holds.split (M1:=[]) (M2:=F) hw)).mono fun e w'' ⟨v,M',h1,h3,h4⟩=>⟨v,M',h1,⟨h3.2,fun _=>h3.1,fun hn=>(hn hcc).elim⟩,Holds.frame (M1:=[]) (M2:=F) hw h4⟩
 ·rename_i hwt
  exact ⟨rfl,fun hc=>(hwt (hgc.2 hc)).elim,fun _=>rfl⟩
def OpRs (E:Fl):List Operand→List Rel→Prop
 | [],[]=>True
 | x::xs,R::Rs=>(match x with | .tmp t=>∃ R',E.lookup t=some R'∧∀ v M,R' v M→R v M | .const u=>R u [] | .func f=>R (.func (.func f) #[] #[]) [] | .global g=>R (.pointer (some ⟨g,0,none⟩)) [])∧OpRs E xs Rs
 | _,_=>False
def AllR (F:List HP):List Rel→List Value→Prop
 | [],vs=>vs=[]
 | R::Rs,vs=>∃ v us M,vs=v::us∧R v M∧(∀ h,h∈M→h∈F)∧AllR F Rs us
theorem OpRs.evals {a:Act} {F:List HP} {o:Oper} (hf:Facts E (o.looksAt ops) F a):∀ (xs:List Operand) (Rs:List Rel),OpRs E xs Rs→(∀ x,x∈xs→x∈o.op.operands.toList)→AllR F Rs (xs.map a.eval)
 | [],[],_,_=>rfl
 | x::xs,R::Rs,h,hm=>by
  have h2:=OpRs.evals hf xs Rs h.2 (fun y hy=>hm y (List.mem_cons_of_mem _ hy))
  have h1:=h.1
  cases x with
  | tmp t =>
   obtain ⟨R',h3,h4⟩:=h1
   obtain ⟨M,h5,h6⟩:=hf t R' (List.mem_append_left _ (List.mem_filterMap.2 ⟨_,hm _ (List.mem_cons_self ..),rfl⟩)) h3
   exact ⟨_,_,M,rfl,h4 _ _ h5,h6,h2⟩
  | const u=>exact ⟨_,_,[],rfl,h1,fun x hx=>(by cases hx),h2⟩
  | func f=>exact ⟨_,_,[],rfl,h1,fun x hx=>(by cases hx),h2⟩
  | global g=>exact ⟨_,_,[],rfl,h1,fun x hx=>(by cases hx),h2⟩
 | [],_::_,h,_=>h.elim
 | _::_,[],h,_=>h.elim
theorem Give_is {ts:List Nat} {t:Nat} {x:Value} {l:Envl} {M:List HP} {K:Kont} (hc:cs0.elem t=false) (ht:ts.elem t=true) (h:Give (rmN t ts) cs0 rs ((t,x)::l) M K):Give ts cs0 ((some t,FC True x)::rs) l M K:=by
 simp only [Give,ht,hc]
 rintro v Mr ⟨rfl,h1,_⟩
 rw [h1 trivial];exact h
theorem Give_drop {ts:List Nat} {t:Nat} {R:Rel} {l:Envl} {M:List HP} {K:Kont} (ht:ts.elem t=false) (h:Give ts cs0 rs l M K):Give ts cs0 ((some t,R)::rs) l M K:=by
 simp only [Give,ht];split<;>exact h
theorem Give_cons {ts:List Nat} {t:Nat} {R:Rel} {l:Envl} {M:List HP} {K:Kont} (hc:cs0.elem t=true) (h:Give ts cs0 rs l M K):Give ts cs0 ((some t,R)::rs) l M K:=by
 simp only [Give,hc];exact h
theorem Give_R {ts:List Nat} {t:Nat} {R:Rel} {l:Envl} {M:List HP} {K:Kont} (hc:cs0.elem t=false) (ht:ts.elem t=true) (h:∀ v Mr,R v Mr→Give (rmN t ts) cs0 rs ((t,v)::l) (Mr++M) K):Give ts cs0 ((some t,R)::rs) l M K:=by
 simp only [Give,ht,hc];exact h
theorem Give_st {ts:List Nat} {b:List HP} {l:Envl} {M:List HP} {K:Kont} (h:Give ts cs0 rs l (b++M) K):Give ts cs0 ((none,fun _ M=>M=b)::rs) l M K:=by
 rintro Mr rfl;exact h
theorem Give_nil {ts:List Nat} {l:Envl} {M:List HP} {K:Kont} (h:K l M):Give ts cs0 [] l M K:=h
theorem L_callX {l:Envl} {M:List HP} {K:Kont} {f:Nat} {xs:List Operand} {ats:Array TypeId} {vs:List Value} {x:Value}
  (hn:Nat.blt d Γ.n=true) (hf:IsFn Γ.P f) (hx:evs l xs=some vs) (hc:∀ w,Holds Γ.w0 Γ.S0 M w→Spec Γ.P f vs.toArray w [] (IsV x))
  (hk:L Γ rest ((d,x)::l) M K):L Γ ({ dst:=some d,op:=.call { callee:=.value (.func f),args:=xs.toArray,argTypes:=ats },type:=ty,pos:=pos,after:=af,guard:=none }::rest) l M K :=
 L_call (M1:=[]) (M2:=M) (R:=IsV x) rfl rfl rfl (Nat.le_of_ble_eq_true hn) hf hx (by simp) (fun w hw=>hc w hw) (fun v M' ⟨h1,h2⟩=>by subst h1;subst h2;exact hk)
theorem L_callR {l:Envl} {M:List HP} {K:Kont} {f:Nat} {xs:List Operand} {ats:Array TypeId} {vs:List Value} {R:Rel}
  (hn:Nat.blt d Γ.n=true) (hf:IsFn Γ.P f) (hx:evs l xs=some vs) (hc:∀ w,Holds Γ.w0 Γ.S0 M w→Spec Γ.P f vs.toArray w [] R)
  (hk:∀ v M',R v M'→L Γ rest ((d,v)::l) (M'++M) K):L Γ ({ dst:=some d,op:=.call { callee:=.value (.func f),args:=xs.toArray,argTypes:=ats },type:=ty,pos:=pos,after:=af,guard:=none }::rest) l M K :=
 L_call (M1:=[]) (M2:=M) (R:=R) rfl rfl rfl (Nat.le_of_ble_eq_true hn) hf hx (by simp) (fun w hw=>hc w hw) hk
section
variable {τ δ:Type} [GT τ δ] {w0 w:World} {S0:List Nat} {F:List HP} {t:τ}
theorem rd_carry (h:GT.rd w0 S0 t) (hw:Holds w0 S0 F w):GT.rd w [] t:=GT.rd_mono h fun _ _ ho=>ho.carry (M1:=[]) (M2:=F) hw
theorem rd_of_tree (hm:treeH t∈F) (hw:Sees w0 S0 F w):GT.rd w [] t:=GT.ow_rd (hw.prs _ hm) fun _ _ h=>by cases h
end
theorem rd_addr {τ δ:Type} [GT τ δ] {w0:World} {S0:List Nat} {L:TL τ} {k:Nat} (h:GT.rd w0 S0 L) (hk:k < L.els.length):∃ g o,L.a=some ⟨g,o,none⟩:=by
 cases ha:L.a with
 | none=>have:=h.2.2.2.1 ha;rw [this] at hk;simp at hk
 | some a =>
  obtain ⟨b,o,s⟩:=a
  have:=(h.2.2.2.2 _ ha).1 (fun e=>by rw [e] at hk;simp at hk)
  exact ⟨b,o,by simp at this;rw [this]⟩
theorem W_DS {l:Envl} {M:List HP} {Q:Post} {id:Nat} {draw:Bool} {pre suf:List Oper} (ts:List Nat) (pool Msh:List HP) (hp:List.Perm M (pool++Msh)) (hm:Γ.P.follows .mixedOrders=true)
  (hd:dagB Γ.n (pre++suf).toArray=true) (hsb:sufB (pre++suf).toArray pre.length=true) (hc:checkTs ts l (pre++suf).toArray pre=true)
  (h:DV Γ (pre++suf).toArray Msh pool (initE l) [] [] pre (fun rs cs pool'=>Give ts cs rs l (pool'++Msh) fun l' M'=>L Γ suf l' M' fun l M=>Q .normal l M)):W Γ (.region id (pre++suf).toArray draw) l M Q :=
 W_D ts Msh pool (hp.trans List.perm_append_comm) hm hd hsb hc h
end Go.Proofs.SL
namespace Go.Proofs.SL
open Go
variable {Γ:Cx} {l:Envl} {M:List HP} {Q:Post} {K:Kont} {w0 w:World} {S0:List Nat}
variable {rest:List Oper} {d:Nat} {ty:TypeId} {pos:String} {af:Array Edge}
section
variable {τ δ:Type} [GT τ δ]
structure Flat (t:τ):Prop where
 fp:GT.fp t=[]
 ow:∀ w,GT.ow w t
theorem flat_int {n:Int} (_:True):Flat n:=⟨rfl,fun _=>trivial⟩
theorem flat_bool (b:Bool):Flat b:=⟨rfl,fun _=>trivial⟩
theorem flat_u8 (b:UInt8):Flat b:=⟨rfl,fun _=>trivial⟩
theorem flat_str {s:ByteArray} (_:True):Flat s:=⟨rfl,fun _=>trivial⟩
theorem flat_pair {α β δ ε:Type} [GT α δ] [GT β ε] {a:α} {b:β} (ha:Flat a) (hb:Flat b):Flat (a,b):=⟨by show GT.fp a++GT.fp b=[];rw [ha.fp,hb.fp];rfl,fun w=>⟨ha.ow w,hb.ow w⟩⟩
def TL.nil (τ:Type) (e:TypeId):TL τ:=⟨none,0,e,[],[]⟩
theorem flat_nil (e:TypeId):Flat (TL.nil τ e):=⟨rfl,fun _=>⟨Nat.le_refl _,by simp [TL.nil,maxLen],fun x hx=>by simp [TL.nil] at hx,fun _=>⟨rfl,rfl⟩,fun a ha=>by simp [TL.nil] at ha⟩⟩
theorem fps_flat (xs:List τ) (h:∀ x,x∈xs→Flat x):xs.flatMap GT.fp=[]:=List.flatMap_eq_nil_iff.2 fun x hx=>(h x hx).fp
def rowH (L:TL τ):HP:=⟨(match L.a with | none=>[] | some a=>[a.block]),fun w=>L.els.length≤L.cap∧L.cap≤maxLen∧(L.a=none→L.els=[]∧L.cap=0) ∧
  ∀ a,L.a=some a→a.spot=none∧a.off=0∧w.heap[a.block]?=some (.cells (rowCells L.els++L.tail).toArray L.e (0,0))∧L.els.length*GT.sz τ+L.tail.length=L.cap*GT.sz τ,
 fun w w' hh h=>⟨h.1,h.2.1,h.2.2.1,fun a ha=>by
  obtain ⟨h1,h2,h3,h4⟩:=h.2.2.2 a ha
  exact ⟨h1,h2,by rw [hh a.block (by rw [ha];simp)];exact h3,h4⟩⟩⟩
theorem Holds.addFlat {t:τ} (h:Holds w0 S0 M w) (hf:Flat t):Holds w0 S0 (treeH t::M) w:=by
 have e:fps (treeH t::M)=fps M:=by rw [fps_cons];show GT.fp t++fps M=_;rw [hf.fp];rfl
 refine ⟨h.os,h.tape,h.output,h.size,h.old,fun x hx=>?_,by rw [e];exact h.nodup,fun k hk=>h.rng k (by rw [← e];exact hk)⟩
 rcases List.mem_cons.1 hx with rfl | hx
 ·exact hf.ow w
 ·exact h.prs _ hx
theorem tree_pair {α β δ ε:Type} [GT α δ] [GT β ε] {a:α} {b:β} (h:Holds w0 S0 (treeH (a,b)::M) w):Holds w0 S0 (treeH a::treeH b::M) w:=by
 have ht:GT.ow w (a,b):=h.prs _ (List.mem_cons_self ..)
 have e:fps (treeH a::treeH b::M)=fps (treeH (a,b)::M):=by
  simp only [fps_cons];show GT.fp a++(GT.fp b++fps M)=(GT.fp a++GT.fp b)++fps M;rw [List.append_assoc]
 refine ⟨h.os,h.tape,h.output,h.size,h.old,fun x hx=>?_,by rw [e];exact h.nodup,fun k hk=>h.rng k (by rw [← e];exact hk)⟩
 rcases List.mem_cons.1 hx with rfl | hx
 ·exact ht.1
 rcases List.mem_cons.1 hx with rfl | hx
 ·exact ht.2
 ·exact h.prs _ (List.mem_cons_of_mem _ hx)
theorem pair_tree {α β δ ε:Type} [GT α δ] [GT β ε] {a:α} {b:β} (h:Holds w0 S0 (treeH a::treeH b::M) w):Holds w0 S0 (treeH (a,b)::M) w:=by
 have ha:GT.ow w a:=h.prs _ (List.mem_cons_self ..)
 have hb:GT.ow w b:=h.prs _ (List.mem_cons_of_mem _ (List.mem_cons_self ..))
 have e:fps (treeH (a,b)::M)=fps (treeH a::treeH b::M):=by
  simp only [fps_cons];show (GT.fp a++GT.fp b)++fps M=GT.fp a++(GT.fp b++fps M);rw [List.append_assoc]
 refine ⟨h.os,h.tape,h.output,h.size,h.old,fun x hx=>?_,by rw [e];exact h.nodup,fun k hk=>h.rng k (by rw [← e];exact hk)⟩
 rcases List.mem_cons.1 hx with rfl | hx
 ·exact ⟨ha,hb⟩
 ·exact h.prs _ (List.mem_cons_of_mem _ (List.mem_cons_of_mem _ hx))
theorem W_conv {c:Code} {M':List HP} (h:∀ w,Holds Γ.w0 Γ.S0 M w→Holds Γ.w0 Γ.S0 M' w) (hk:W Γ c l M' Q):W Γ c l M Q:=fun a w ha hw=>hk a w ha (h w hw)
theorem L_conv {M':List HP} (h:∀ w,Holds Γ.w0 Γ.S0 M w→Holds Γ.w0 Γ.S0 M' w) (hk:L Γ rest l M' K):L Γ rest l M K:=fun ops a w Q ha hw hq=>hk ops a w Q ha (h w hw) hq
end
end Go.Proofs.SL
namespace Go.Proofs.SL
open Go
variable {Γ:Cx} {l:Envl} {M F:List HP} {Q:Post} {K:Kont} {w0 w:World} {S0:List Nat}
variable {rest:List Oper} {d:Nat} {ty:TypeId} {pos:String} {af:Array Edge}
theorem Holds.drew (h:Holds w0 S0 M w):Holds w0 S0 M w.drew:=⟨h.os,⟨h.tape.1,Nat.le_succ_of_le h.tape.2⟩,h.output,h.size,h.old,fun x hx=>x.st w _ (fun _ _=>rfl) (h.prs x hx),h.nodup,h.rng⟩
theorem Holds.swap {h h':HP} {w':World} (hw:Holds w0 S0 (h::F) w) (hos:w'.os=w.os) (htape:w'.tape=w.tape∧w.drawn≤w'.drawn) (hout:w'.output=w.output) (hsz:w.heap.size≤w'.heap.size)
  (hsame:∀ k,k < w.heap.size→k ∉ h.fp→w'.heap[k]?=w.heap[k]?) (hfp:∀ k,k∈h'.fp→(k∈h.fp∨w.heap.size≤k)∧k < w'.heap.size) (hnd:h'.fp.Nodup) (hpr:h'.pr w'):Holds w0 S0 (h'::F) w':=by
 have hnd0:=hw.nodup
 rw [fps_cons] at hnd0
 obtain ⟨_,hn2,hdis⟩:=List.nodup_append.1 hnd0
 have hr1:∀ k,k∈h.fp→(k∈S0∨w0.heap.size≤k)∧k < w.heap.size:=fun k hk=>hw.rng k (by rw [fps_cons];exact List.mem_append_left _ hk)
 have hr2:∀ k,k∈fps F→(k∈S0∨w0.heap.size≤k)∧k < w.heap.size:=fun k hk=>hw.rng k (by rw [fps_cons];exact List.mem_append_right _ hk)
 have hno:∀ k,k∈fps F→k ∉ h.fp:=fun k h2 h1=>hdis k h1 k h2 rfl
 refine ⟨hos.trans hw.os,⟨htape.1.trans hw.tape.1,Nat.le_trans hw.tape.2 htape.2⟩,hout.trans hw.output,Nat.le_trans hw.size hsz,fun k hk hs=>?_,fun x hx=>?_,?_,fun k hk=>?_⟩
 ·rw [hsame k (Nat.lt_of_lt_of_le hk hw.size) (fun hm=>by
   rcases (hr1 k hm).1 with h3 | h3
   ·exact hs h3
   ·omega)]
  exact hw.old k hk hs
 ·rcases List.mem_cons.1 hx with rfl | hx
  ·exact hpr
  ·refine x.st w w' (fun k hk=>?_) (hw.prs x (List.mem_cons_of_mem _ hx))
   have hm:k∈fps F:=List.mem_flatMap.2 ⟨x,hx,hk⟩
   exact hsame k (hr2 k hm).2 (hno k hm)
 ·rw [fps_cons]
  refine List.nodup_append.2 ⟨hnd,hn2,fun a ha b hb e=>?_⟩
  subst e
  rcases (hfp a ha).1 with h3 | h3
  ·exact hno a hb h3
  ·have:=(hr2 a hb).2;omega
 ·rw [fps_cons] at hk
  rcases List.mem_append.1 hk with hk | hk
  ·obtain ⟨h3,h4⟩:=hfp k hk
   refine ⟨?_,h4⟩
   rcases h3 with h3 | h3
   ·exact (hr1 k h3).1
   ·exact .inr (Nat.le_trans hw.size h3)
  ·exact ⟨(hr2 k hk).1,Nat.lt_of_lt_of_le (hr2 k hk).2 hsz⟩
section
variable {τ δ:Type} [GT τ δ]
theorem size_zc (z:Array Value) (n:Nat):(Builtin.zeroCells z n).size=n*z.size:=by simp [Builtin.zeroCells]
theorem append_none {P:Program} {T e sz by_:Nat} {z:List Value} (ht:elOf P T=some (e,sz,by_,z)) {a:Option Addr} {n c c2:Nat} (hnc:n≤c) (ty:TypeId) :
  (Builtin.append_ #[T,T] ty #[.slice a n c,.slice none 0 c2]).run P w=.ok (.slice a n c) w:=by
 unfold elOf at ht
 split at ht<;>(try cases ht)
 rename_i e' het
 split at ht<;>(try cases ht)
 rename_i i' hi'
 cases a<;>simp [Builtin.append_,run_underlying het,sizeOf,typeInfo,hi',Builtin.lenOf,Builtin.firstCells,hnc,storeCells]
def elsT (xs:List τ):HP:=⟨xs.flatMap GT.fp,fun w=>∀ x,x∈xs→GT.ow w x,fun w w' h hp x hx=>GT.ow_st (fun k hk=>h k (List.mem_flatMap.2 ⟨x,hx,hk⟩)) (hp x hx)⟩
theorem Holds.reFp {h1 h2:List HP} {w:World} (hw:Holds w0 S0 h1 w) (he:List.Perm (fps h1) (fps h2)) (hp:∀ x,x∈h2→x.pr w):Holds w0 S0 h2 w :=
 ⟨hw.os,hw.tape,hw.output,hw.size,hw.old,hp,he.nodup_iff.1 hw.nodup,fun k hk=>hw.rng k (he.mem_iff.2 hk)⟩
theorem tree_row {L:TL τ} (h:Holds w0 S0 (treeH L::M) w):Holds w0 S0 (rowH L::elsT L.els::M) w:=by
 have ht:GT.ow w L:=h.prs _ (List.mem_cons_self ..)
 refine h.reFp (List.Perm.of_eq ?_) fun x hx=>?_
 ·simp only [fps_cons]
  show ((match L.a with | none=>[] | some a=>[a.block])++L.els.flatMap GT.fp)++fps M=_
  rw [List.append_assoc];rfl
 ·rcases List.mem_cons.1 hx with rfl | hx
  ·exact ⟨ht.1,ht.2.1,ht.2.2.2.1,ht.2.2.2.2⟩
  rcases List.mem_cons.1 hx with rfl | hx
  ·exact ht.2.2.1
  ·exact h.prs _ (List.mem_cons_of_mem _ hx)
theorem row_tree {L:TL τ} (h:Holds w0 S0 (rowH L::elsT L.els::M) w):Holds w0 S0 (treeH L::M) w:=by
 have hr:=h.prs (rowH L) (List.mem_cons_self ..)
 have he:=h.prs (elsT L.els) (List.mem_cons_of_mem _ (List.mem_cons_self ..))
 refine h.reFp (List.Perm.of_eq ?_) fun x hx=>?_
 ·simp only [fps_cons]
  show _=((match L.a with | none=>[] | some a=>[a.block])++L.els.flatMap GT.fp)++fps M
  rw [List.append_assoc];rfl
 ·rcases List.mem_cons.1 hx with rfl | hx
  ·exact ⟨hr.1,hr.2.1,he,hr.2.2.1,hr.2.2.2⟩
  ·exact h.prs _ (List.mem_cons_of_mem _ (List.mem_cons_of_mem _ hx))
theorem elsT_app {xs ys:List τ} (h:Holds w0 S0 (elsT xs::elsT ys::M) w):Holds w0 S0 (elsT (xs++ys)::M) w:=by
 refine h.reFp (List.Perm.of_eq ?_) fun x hx=>?_
 ·simp only [fps_cons];show _=(xs++ys).flatMap GT.fp++fps M;rw [List.flatMap_append,List.append_assoc];rfl
 ·rcases List.mem_cons.1 hx with rfl | hx
  ·intro y hy
   rcases List.mem_append.1 hy with hy | hy
   ·exact h.prs (elsT xs) (List.mem_cons_self ..) y hy
   ·exact h.prs (elsT ys) (List.mem_cons_of_mem _ (List.mem_cons_self ..)) y hy
  ·exact h.prs _ (List.mem_cons_of_mem _ (List.mem_cons_of_mem _ hx))
theorem elsT_one {x:τ} (h:Holds w0 S0 (treeH x::M) w):Holds w0 S0 (elsT [x]::M) w:=by
 refine h.reFp (List.Perm.of_eq ?_) fun y hy=>?_
 ·simp only [fps_cons];show _=[x].flatMap GT.fp++fps M;simp [treeH]
 ·rcases List.mem_cons.1 hy with rfl | hy
  ·intro z hz;simp at hz;subst hz;exact h.prs (treeH z) (List.mem_cons_self ..)
  ·exact h.prs _ (List.mem_cons_of_mem _ hy)
theorem elsT_flat {xs:List τ} (h:Holds w0 S0 M w) (hf:∀ x,x∈xs→Flat x):Holds w0 S0 (elsT xs::M) w:=by
 refine h.reFp (List.Perm.of_eq ?_) fun y hy=>?_
 ·rw [fps_cons];show _=xs.flatMap GT.fp++fps M;rw [fps_flat xs hf];rfl
 ·rcases List.mem_cons.1 hy with rfl | hy
  ·exact fun x hx=>(hf x hx).ow w
  ·exact h.prs _ hy
end
end Go.Proofs.SL
namespace Go.Proofs.SL
open Go
variable {Γ:Cx} {l:Envl} {M M1 M2 F:List HP} {Q:Post} {K:Kont} {w0 w:World} {S0:List Nat}
variable {rest:List Oper} {d:Nat} {ty:TypeId} {pos:String} {af:Array Edge}
def RdT {τ δ:Type} [GT τ δ] (Γ:Cx) (M:List HP) (t:τ):Prop:=∀ w,Sees Γ.w0 Γ.S0 M w→GT.rd w [] t
section
variable {τ δ:Type} [GT τ δ] {t:τ}
theorem RdT.old (h:GT.rd Γ.w0 Γ.S0 t):RdT Γ M t:=fun _ hw=>GT.rd_mono h fun _ _ ho=>⟨ho.now hw,by simp⟩
theorem RdT.tree (h:treeH t∈M):RdT Γ M t:=fun _ hw=>rd_of_tree h hw
theorem RdT.fst {α β δ ε:Type} [GT α δ] [GT β ε] {t:α×β} (h:RdT Γ M t):RdT Γ M t.1:=fun w hw=>(h w hw).1
theorem RdT.snd {α β δ ε:Type} [GT α δ] [GT β ε] {t:α×β} (h:RdT Γ M t):RdT Γ M t.2:=fun w hw=>(h w hw).2
theorem RdT.el {L:TL τ} {x:τ} (h:RdT Γ M L) (hx:x∈L.els):RdT Γ M x:=fun w hw=>(h w hw).2.2.1 x hx
theorem RdT.cells {L:TL τ} {g o i:Nat} {x:τ} (h:RdT Γ M L) (ha:L.a=some ⟨g,o,none⟩) (hi:L.els[i]?=some x):RdC Γ M g (o+i*GT.sz τ) (GT.cells x):=fun w hw j v hv =>
 ((Cells.el (h w hw) ha hi) j v hv).1
theorem RdT.row {L:TL τ} {g o:Nat} (h:RdT Γ M L) (ha:L.a=some ⟨g,o,none⟩):RdC Γ M g o (rowCells L.els):=fun w hw j v hv=>(((h w hw).2.2.2.2 _ ha).2 j v hv).1
theorem RdT.sub {M':List HP} (h:RdT Γ M t) (hm:∀ x,x∈M→x∈M'):RdT Γ M' t:=fun w hw=>h w ⟨hw.old,fun x hx=>hw.prs x (hm x hx)⟩
end
theorem Pick.sub {h:HP} {M M':List HP} (p:Pick h M M'):∀ x,x∈M'→x∈M:=fun x hx=>p.perm.mem_iff.2 (List.mem_cons_of_mem _ hx)
section
variable {τ δ:Type} [GT τ δ]
end
end Go.Proofs.SL
namespace Go.Proofs.SL
open Go
variable {Γ:Cx} {l:Envl} {M M1 M2 F:List HP} {Q:Post} {K:Kont} {w0 w:World} {S0:List Nat}
variable {rest:List Oper} {d:Nat} {ty:TypeId} {pos:String} {af:Array Edge}
theorem L_extract {x:Operand} {i:Nat} {vs:Array Value} {v:Value} (hn:Nat.blt d Γ.n=true) (hx:ev l x=some (.tuple vs)) (hv:vs[i]?=some v) (hk:L Γ rest ((d,v)::l) M K) :
  L Γ ({ dst:=some d,op:=.extract x i,type:=ty,pos,after:=af,guard:=none }::rest) l M K :=
 L_pure hn (fun a w ha _=>by simp [execOp,ha.eval hx,Instr.extract,hv]) hk
theorem L_makeFunc {fn:Fn} {fs cs:List Operand} {us vs:List Value} (hn:Nat.blt d Γ.n=true) (hf:evs l fs=some us) (hc:evs l cs=some vs) (hk:L Γ rest ((d,.func fn us.toArray vs.toArray)::l) M K) :
  L Γ ({ dst:=some d,op:=.makeFunc fn fs.toArray cs.toArray,type:=ty,pos,after:=af,guard:=none }::rest) l M K :=
 L_pure hn (fun a w ha _=>by simp [execOp,Instr.makeFunc,ha.evals _ _ hf,ha.evals _ _ hc]) hk
theorem L_max {x y:Operand} {ats:Array TypeId} {k:IntKind} {a b:Int} (hn:Nat.blt d Γ.n=true) (hx:ev l x=some (.int k a)) (hy:ev l y=some (.int k b)) (hk:L Γ rest ((d,.int k (if b > a then b else a))::l) M K) :
  L Γ ({ dst:=some d,op:=.call { callee:=.builtin .max,args:=#[x,y],argTypes:=ats },type:=ty,pos,after:=af,guard:=none }::rest) l M K :=
 L_pure hn (fun a' w ha _=>by simp [execOp,resolve,invoke,builtin,ha.eval hx,ha.eval hy,run_max_int2]) hk
theorem L_callV {o:Oper} {t d' f:Nat} {xs:List Operand} {ats:Array TypeId} {vs cs:List Value} {M1 M2:List HP} {R:Value→List HP→Prop}
  (ho:o.op=.call { callee:=.value (.tmp t),args:=xs.toArray,argTypes:=ats }) (hg:o.guard=none) (hd:o.dst=some d') (hn:d' < Γ.n) (ht:l.lookup t=some (.func (.func f) #[] cs.toArray))
  (hf:IsFn Γ.P f) (hx:evs l xs=some vs) (hp:List.Perm M (M1++M2))
  (hc:∀ w,Holds Γ.w0 Γ.S0 (M1++M2) w→Spec Γ.P f (vs++cs).toArray w M1 R)
  (hk:∀ v M',R v M'→L Γ rest ((d',v)::l) (M'++M2) K):L Γ (o::rest) l M K:=fun ops a w Q ha hw hq =>
 wpList_plain hg fun K' hK'=>by
  have hw':=hw.perm hp
  have ht':a.eval (.tmp t)=.func (.func f) #[] cs.toArray:=ha.eval (x:=.tmp t) ht
  have he:(execOp a.eval o).run Γ.P w=.ok (.enter f (vs++cs).toArray) w:=by
   unfold execOp;rw [ho]
   simp [resolve,Deferred.ofValue,ht',invoke,ha.evals xs vs hx,hf.run]
  unfold Oper.wp
  rw [he,Oper.upon_enter]
  refine (hc w hw' hw'.split).mono fun e w'' ⟨v,M',h1,h2,h3⟩=>?_
  subst h1
  simp only [hd]
  exact hK' _ _ (hk v M' h2 ops _ w'' Q (ha.put hn) (hw'.frame h3) hq)
theorem L_callVX {t f:Nat} {xs:List Operand} {ats:Array TypeId} {vs cs:List Value} {x:Value} (hn:Nat.blt d Γ.n=true) (ht:l.lookup t=some (.func (.func f) #[] cs.toArray))
  (hf:IsFn Γ.P f) (hx:evs l xs=some vs) (hc:∀ w,Holds Γ.w0 Γ.S0 M w→Spec Γ.P f (vs++cs).toArray w [] (IsV x))
  (hk:L Γ rest ((d,x)::l) M K):L Γ ({ dst:=some d,op:=.call { callee:=.value (.tmp t),args:=xs.toArray,argTypes:=ats },type:=ty,pos:=pos,after:=af,guard:=none }::rest) l M K :=
 L_callV (M1:=[]) (M2:=M) (R:=IsV x) rfl rfl rfl (Nat.le_of_ble_eq_true hn) ht hf hx (by simp) (fun w hw=>hc w hw) (fun v M' ⟨h1,h2⟩=>by subst h1;subst h2;exact hk)
def fillL (place:Nat→Option (Nat×Nat)) (cells:List Value):List (Nat×Value)→Option (List Value)
 | []=>some cells
 | (i,v)::rest =>
  match place i with
  | none=>none
  | some (off,size) =>
   match Nat.beq v.cells.toList.length size&&Nat.ble (off+v.cells.toList.length) cells.length with
   | true=>fillL place (cells.take off++v.cells.toList++cells.drop (off+v.cells.toList.length)) rest
   | false=>none
theorem setSeg (off:Nat):∀ (vs:List Value) (k:Nat) (cs:Array Value),off+k+vs.length≤cs.size →
  ((vs.zipIdx k).foldl (fun cs (p:Value×Nat)=>cs.setIfInBounds (off+p.2) p.1) cs).toList=cs.toList.take (off+k)++vs++cs.toList.drop (off+k+vs.length)
 | [],k,cs,h=>by simp
 | v::vs,k,cs,h=>by
  rw [List.zipIdx_cons,List.foldl_cons]
  rw [setSeg off vs (k+1) _ (by simp at h ⊢;omega)]
  have hlt:off+k < cs.toList.length:=by simp at h ⊢;omega
  have e1:(cs.setIfInBounds (off+k) v).toList=cs.toList.set (off+k) v:=by simp
  simp only [] at e1 ⊢
  rw [e1,List.set_eq_take_append_cons_drop,if_pos hlt]
  have l1:(cs.toList.take (off+k)).length=off+k:=by rw [List.length_take];omega
  have t1:(cs.toList.take (off+k)++v::cs.toList.drop (off+k+1)).take (off+(k+1))=cs.toList.take (off+k)++[v]:=by
   rw [List.take_append,List.take_of_length_le (by omega),l1,show off+(k+1) - (off+k)=1 by omega];rfl
  have t2:(cs.toList.take (off+k)++v::cs.toList.drop (off+k+1)).drop (off+(k+1)+vs.length)=cs.toList.drop (off+k+(v::vs).length):=by
   rw [List.drop_append,List.drop_of_length_le (by omega),List.nil_append,l1,show off+(k+1)+vs.length - (off+k)=vs.length+1 by omega,List.drop_succ_cons,List.drop_drop,List.length_cons]
   congr 1;omega
  rw [t1,t2];simp
theorem fill_eq (place:Nat→Option (Nat×Nat)):∀ (parts:List (Nat×Value)) (cells:Array Value) (cs:List Value),fillL place cells.toList parts=some cs→Instr.fill place cells parts=some cs.toArray
 | [],cells,cs,h=>by
  simp only [fillL,Option.some.injEq] at h
  subst h;simp [Instr.fill]
 | (i,v)::rest,cells,cs,h=>by
  unfold fillL at h
  unfold Instr.fill
  cases hp:place i with
  | none=>rw [hp] at h;cases h
  | some os =>
   obtain ⟨off,size⟩:=os
   rw [hp] at h
   simp only [] at h ⊢
   cases hb:(Nat.beq v.cells.toList.length size&&Nat.ble (off+v.cells.toList.length) cells.toList.length) with
   | false=>rw [hb] at h;cases h
   | true =>
    rw [hb] at h
    simp only [Bool.and_eq_true] at hb
    have h1:v.cells.size=size:=by have:=Nat.eq_of_beq_eq_true hb.1;simpa using this
    have h2:off+v.cells.size≤cells.size:=by have:=Nat.le_of_ble_eq_true hb.2;simpa using this
    rw [if_neg (by simp [h1];omega)]
    refine fill_eq place rest _ cs ?_
    rw [← h]
    congr 1
    have e:(v.cells.zipIdx.foldl (fun cs (p:Value×Nat)=>cs.setIfInBounds (off+p.2) p.1) cells)=(v.cells.toList.zipIdx.foldl (fun cs (p:Value×Nat)=>cs.setIfInBounds (off+p.2) p.1) cells):=by
     rw [← Array.foldl_toList];simp
    have:=setSeg off v.cells.toList 0 cells (by simpa using h2)
    simp only [Nat.add_zero] at this
    rw [← this,← e]
def bldOf (P:Program) (T:TypeId):Option (List (Nat×Nat)×List Value) :=
 match P.underlying T,zeroOf P T with
 | some (.struct fs),some z=>match fs.toList.mapM fun f=>(P.info? f.type).map fun i=>(f.offset,i.size) with
  | some pl=>some (pl,z)
  | none=>none
 | _,_=>none
theorem run_places {P:Program} {fs:List Field}:∀ {pl:List (Nat×Nat)},fs.mapM (fun f=>(P.info? f.type).map fun i=>(f.offset,i.size))=some pl→(fs.mapM (fun f=>Prod.mk f.offset <$> sizeOf f.type:Field→Sem (Nat×Nat))).run P w=.ok pl w:=by
 induction fs with
 | nil=>intro pl h;simp at h;subst h;simp
 | cons f fs ih =>
  intro pl h
  rw [List.mapM_cons] at h
  cases hf:P.info? f.type with
  | none=>rw [hf] at h;simp at h
  | some i =>
   rw [hf] at h
   cases hfs:fs.mapM (fun f=>(P.info? f.type).map fun i=>(f.offset,i.size)) with
   | none=>rw [hfs] at h;simp at h
   | some pl' =>
    rw [hfs] at h
    simp at h;subst h
    have:=ih hfs
    simp [List.mapM_cons,sizeOf,typeInfo,hf] at this ⊢
    simp [this]
def evp (l:Envl):List (Nat×Operand)→Option (List (Nat×Value))
 | []=>some []
 | (i,x)::xs=>match ev l x,evp l xs with
  | some v,some vs=>some ((i,v)::vs)
  | _,_=>none
theorem Env.evalp {a:Act} {n:Nat} (h:Env a n l):∀ (xs:List (Nat×Operand)) (vs:List (Nat×Value)),evp l xs=some vs→xs.map (fun (i,x)=>(i,a.eval x))=vs
 | [],vs,hx=>by simp [evp] at hx;simp [hx]
 | (i,x)::xs,vs,hx=>by
  simp only [evp] at hx
  split at hx
  ·rename_i v us h1 h2
   cases hx
   simp [h.eval h1,h.evalp xs us h2]
  ·cases hx
theorem run_build {P:Program} {T:TypeId} {pl:List (Nat×Nat)} {z cs:List Value} {ps:List (Nat×Value)} (ht:bldOf P T=some (pl,z)) (hf:fillL (pl[·]?) z ps=some cs) :
  (Instr.build T ps.toArray).run P w=.ok (.agg cs.toArray) w:=by
 unfold bldOf at ht
 split at ht<;>(try cases ht)
 rename_i fs z' hu hz
 split at ht<;>cases ht
 rename_i hpl
 have hp:=run_places (w:=w) hpl
 unfold zeroOf at hz
 split at hz<;>(try cases hz)
 rename_i i hi
 split at hz<;>cases hz
 rename_i zz hzz
 have h1:(fs.mapM (fun f=>do pure (f.offset,← sizeOf f.type):Field→Sem (Nat×Nat))).run P w=.ok pl.toArray w:=by
  have:fs=fs.toList.toArray:=by simp
  rw [this,List.mapM_toArray]
  simp only [bind_pure_comp,Sem.run_map]
  rw [hp];rfl
 have h2:=fill_eq (pl[·]?) ps zz.cells cs (by simpa using hf)
 have h3:(fun x:Nat=>pl.toArray[x]?)=(fun x:Nat=>pl[x]?):=by funext x;simp
 simp only [Instr.build,zeroValue,typeInfo,underlying,Sem.run_bind,run_program,Result.andThen_ok,hi,hzz,hu,Sem.run_pure,h1,h3,h2]
theorem L_build {T:TypeId} {xs:List (Nat×Operand)} {ps:List (Nat×Value)} {pl:List (Nat×Nat)} {z cs:List Value} (hn:Nat.blt d Γ.n=true) (hx:evp l xs=some ps) (ht:bldOf Γ.P T=some (pl,z))
  (hf:fillL (pl[·]?) z ps=some cs) (hk:L Γ rest ((d,.agg cs.toArray)::l) M K) :
  L Γ ({ dst:=some d,op:=.build T xs.toArray,type:=ty,pos,after:=af,guard:=none }::rest) l M K :=
 L_pure hn (fun a w ha _=>by
  have h1:xs.toArray.map (fun (i,x)=>(i,a.eval x))=ps.toArray:=by simp [ha.evalp xs ps hx]
  simp only [execOp,h1]
  simp [run_build ht hf]) hk
theorem run_buildSlice {P:Program} {T e sz by_:Nat} {z cs:List Value} {ps:List (Nat×Value)} {n:Nat} (ht:elOf P T=some (e,sz,by_,z)) (hz:z.length=sz) (hsz:0 < sz) (hn:n*sz≤65536) (hn0:0 < n)
  (hf:fillL (fun i=>some (i*sz,sz)) ((List.range (n*sz)).map fun i=>z.getD (i % sz) undef) ps=some cs) :
  (Instr.buildSlice T n ps.toArray).run P w=.ok (.slice (some ⟨w.heap.size,0,none⟩) n n) (w.alloc (.cells cs.toArray e (0,0))):=by
 unfold elOf at ht
 split at ht<;>(try cases ht)
 rename_i e' het
 split at ht<;>(try cases ht)
 rename_i i' hi'
 split at ht<;>cases ht
 rename_i z' hz'
 have hzs:z'.cells.size=i'.size:=by rw [← Array.length_toList];exact hz
 have hne:¬ (n*i'.size=0):=by intro h;rcases Nat.mul_eq_zero.1 h with h | h<;>omega
 have hle:¬ (2 ^ 24 < n*i'.size):=by
  have:(2:Nat) ^ 24=16777216:=by decide
  omega
 have e0:((Array.range (n*i'.size)).map (z'.cells[· % z'.cells.size]!)).toList=(List.range (n*i'.size)).map fun i=>z'.cells.toList.getD (i % i'.size) undef:=by
  rw [Array.toList_map,Array.toList_range]
  refine List.map_congr_left fun i _=>?_
  have h2:i % i'.size < z'.cells.size:=by rw [hzs];exact Nat.mod_lt _ hsz
  rw [hzs,getElem!_pos z'.cells (i % i'.size) h2]
  simp [List.getD_eq_getElem?_getD,h2]
 have h2:=fill_eq (fun i=>some (i*i'.size,i'.size)) ps ((Array.range (n*i'.size)).map (z'.cells[· % z'.cells.size]!)) cs (by rw [e0];exact hf)
 simp only [Instr.buildSlice,underlying,het,sizeOf,typeInfo,hi',Sem.run_bind,run_program,Result.andThen_ok,Sem.run_pure,gt_iff_lt,hle,if_false,hne,zeroValue,hz',newRow,run_newObj]
 simp only [h2,Sem.run_bind,Result.andThen_ok,Sem.run_pure,newRow,run_newObj,Sem.run_map]
 rfl
theorem L_buildSlice {T e sz by_ n:Nat} {z cs:List Value} {xs:List (Nat×Operand)} {ps:List (Nat×Value)} (hn:Nat.blt d Γ.n=true) (hx:evp l xs=some ps) (ht:elOf Γ.P T=some (e,sz,by_,z)) (hz:z.length=sz)
  (hsz:0 < sz) (hns:n*sz≤65536) (hn0:0 < n) (hf:fillL (fun i=>some (i*sz,sz)) ((List.range (n*sz)).map fun i=>z.getD (i % sz) undef) ps=some cs)
  (hk:∀ b,L Γ rest ((d,.slice (some ⟨b,0,none⟩) n n)::l) (blk b cs e::M) K) :
  L Γ ({ dst:=some d,op:=.buildSlice T n xs.toArray,type:=ty,pos,after:=af,guard:=none }::rest) l M K :=
 L_stepR (fun v M'=>∃ b,v=.slice (some ⟨b,0,none⟩) n n∧M'=blk b cs e::M) rfl rfl (Nat.le_of_ble_eq_true hn)
  (fun a w ha hw=>by
   have h1:xs.toArray.map (fun (i,x)=>(i,a.eval x))=ps.toArray:=by simp [ha.evalp xs ps hx]
   refine ⟨_,_,_,⟨w.heap.size,rfl,rfl⟩,?_,hw.new rfl⟩
   simp only [execOp,h1]
   simp [run_buildSlice ht hz hsz hns hn0 hf]) (fun v M' ⟨b,h1,h2⟩=>by subst h1;subst h2;exact hk b)
theorem L_buildSlice1 {T e sz by_:Nat} {z:List Value} {x:Operand} {v:Value} (hn:Nat.blt d Γ.n=true) (hx:ev l x=some v) (ht:elOf Γ.P T=some (e,sz,by_,z)) (hz:z.length=sz)
  (hsz:0 < sz) (hns:sz≤65536) (hv:v.cells.toList.length=sz)
  (hk:∀ b,L Γ rest ((d,.slice (some ⟨b,0,none⟩) 1 1)::l) (blk b v.cells.toList e::M) K) :
  L Γ ({ dst:=some d,op:=.buildSlice T 1 #[(0,x)],type:=ty,pos,after:=af,guard:=none }::rest) l M K :=
 L_buildSlice (xs:=[(0,x)]) (ps:=[(0,v)]) (cs:=v.cells.toList) hn (by simp [evp,hx]) ht hz hsz (by omega) (by omega) (by
  simp only [fillL,Nat.zero_mul,Nat.one_mul,Nat.zero_add,hv,Nat.beq_refl,Bool.true_and,List.length_map,List.length_range,List.take_zero,List.nil_append]
  rw [show Nat.ble sz sz=true from Nat.ble_eq_true_of_le (Nat.le_refl _)]
  simp only []
  rw [List.drop_of_length_le (by simp),List.append_nil]) hk
end Go.Proofs.SL
namespace Go.Proofs.SL
open Go Go.Deep
class Ok (δ:Type) where
 ok:δ→Prop
instance:Ok Int:=⟨inR⟩
instance:Ok Bool:=⟨fun _=>True⟩
instance:Ok UInt8:=⟨fun _=>True⟩
instance:Ok ByteArray:=⟨fun s=>s.size≤9223372036854775807⟩
instance {δ ε:Type} [Ok δ] [Ok ε]:Ok (δ×ε):=⟨fun p=>Ok.ok p.1∧Ok.ok p.2⟩
instance {δ:Type} [Ok δ]:Ok (List δ):=⟨fun l=>l.length≤9223372036854775807∧∀ x,x∈l→Ok.ok x⟩
def Opn (P:Program) (T:TypeId) (τ:Type) {δ:Type} [GT τ δ] [Ok δ]:Prop :=
 ∀ {H:Type} (enc:TypeId×Value→H) (w:World) (spare:Nat→Bool) (held:Bool) (fuel:Nat) (cs:List Value) (x:DataW H×List MemPlace),DataW.trod enc P w 0 spare held fuel T cs=some x →
  ∃ t:τ,cs=GT.cells t∧GT.rd w [] t∧Ok.ok (GT.dat t)
variable {P:Program} {T:TypeId}
theorem inR_of_wf {n:Int} (h:(Lit.int .i64 n).wf=true):inR n:=bounds_i64 h
theorem Opn.int (ht:P.underlying T=some (.int .i64)):Opn P T Int:=fun enc w spare held fuel cs x h=>by
 obtain ⟨n,h1,_,h3⟩:=DataW.trod_int ht h
 exact ⟨n,h1,trivial,inR_of_wf h3⟩
theorem Opn.u8 (ht:P.underlying T=some (.int .u8)):Opn P T UInt8:=fun enc w spare held fuel cs x h=>by
 obtain ⟨n,h1,_,h3⟩:=DataW.trod_int ht h
 obtain ⟨h4,h5⟩:=bounds_u8 h3
 obtain ⟨k,rfl⟩:=Int.eq_ofNat_of_zero_le h4
 refine ⟨UInt8.ofNat k,?_,trivial,trivial⟩
 rw [h1]
 show _=[Value.int .u8 ((UInt8.ofNat k).toNat:Int)]
 have:(UInt8.ofNat k).toNat=k:=by simp;omega
 rw [this]
theorem Opn.bool (ht:P.underlying T=some .bool):Opn P T Bool:=fun enc w spare held fuel cs x h=>by
 obtain ⟨b,h1,_⟩:=DataW.trod_bool ht h
 exact ⟨b,h1,trivial,trivial⟩
theorem Opn.str (ht:P.underlying T=some .string):Opn P T ByteArray:=fun enc w spare held fuel cs x h=>by
 obtain ⟨s,h1,_,h3⟩:=DataW.trod_string ht h
 refine ⟨s,h1,trivial,?_⟩
 show s.size≤9223372036854775807
 have:s.size≤maxLen:=h3
 simp only [maxLen] at this;omega
theorem chooseL {α:Type} {p:Nat→α→Prop}:∀ (len:Nat),(∀ i,i < len→∃ t,p i t)→∃ ts:List α,ts.length=len∧∀ i t,ts[i]?=some t→p i t
 | 0,_=>⟨[],rfl,fun i t h=>by simp at h⟩
 | len+1,h=>by
  obtain ⟨ts,h1,h2⟩:=chooseL len (fun i hi=>h i (by omega))
  obtain ⟨t,h3⟩:=h len (by omega)
  refine ⟨ts++[t],by simp [h1],fun i t' hi=>?_⟩
  by_cases hlt:i < ts.length
  ·rw [List.getElem?_append_left hlt] at hi;exact h2 i t' hi
  ·rw [List.getElem?_append_right (by omega)] at hi
   have:i=len:=by
    have:=(List.getElem?_eq_some_iff.1 hi).1
    simp at this;omega
   subst this
   rw [h1,Nat.sub_self] at hi
   simp at hi;subst hi
   exact h3
section
variable {τ δ:Type} [GT τ δ] [Ok δ]
theorem Opn.slice {e:TypeId} (ht:P.underlying T=some (.slice e)) (hc:P.cellsOf e=GT.sz τ) (he:Opn P e τ):Opn P T (TL τ):=fun enc w spare held fuel cs x h=>by
 rcases DataW.trod_slice ht h with ⟨h1,_⟩ | ⟨a,len,cap,elems,rest,n,_,h1,_,hb,hl,hm,hlen,hel,_,_⟩
 ·exact ⟨⟨none,0,0,[],[]⟩,h1,⟨Nat.le_refl _,by simp [maxLen],fun x hx=>(by cases hx),fun _=>rfl,fun a ha=>by cases ha⟩,Nat.zero_le _,fun x hx=>by cases hx⟩
 ·rw [hc] at hel
  have key:∀ i,i < len→∃ t:τ,w.cells? 0 (a.add (i*GT.sz τ)) (GT.sz τ)=some (GT.cells t)∧GT.rd w [] t∧Ok.ok (GT.dat t):=by
   intro i hi
   have h2:=hel i hi
   have h3:i < elems.length:=by omega
   rw [List.getElem?_eq_getElem h3] at h2
   obtain ⟨cs',h4,h5⟩:=Option.bind_eq_some_iff.1 h2
   obtain ⟨t,h6,h7⟩:=he enc w spare held n cs' _ h5
   subst h6
   exact ⟨t,h4,h7⟩
  have key2:=chooseL (p:=fun i (t:τ)=>w.cells? 0 (a.add (i*GT.sz τ)) (GT.sz τ)=some (GT.cells t)∧GT.rd w [] t∧Ok.ok (GT.dat t)) len key
  obtain ⟨ts,hts,hts2⟩:=key2
  have hcell:∀ i t k v,ts[i]?=some t→(GT.cells t)[k]?=some v→w.cell? ((a.add (i*GT.sz τ)).add k)=some v:=by
   intro i t k v hi hk
   have h2:=(hts2 i t hi).1
   unfold World.cells? at h2
   split at h2
   ·have hkl:k < GT.sz τ:=by rw [← GT.len t];exact (List.getElem?_eq_some_iff.1 hk).1
    have:=mapM_some_get h2 k k (by simp [hkl])
    rw [this,hk]
   ·cases h2
  refine ⟨⟨some a,cap,0,ts,[]⟩,?_,⟨by show ts.length≤cap;omega,hm,fun t ht=>?_,fun h=>(by cases h),fun a' ha'=>?_⟩,?_,fun x hx=>?_⟩
  ·rw [h1];show _=[Value.slice (some a) ts.length cap];rw [hts]
  ·obtain ⟨i,hi⟩:=List.getElem?_of_mem ht
   exact (hts2 i t hi).2.1
  rotate_left
  ·show (ts.map GT.dat).length≤9223372036854775807
   rw [List.length_map]
   have:cap≤maxLen:=hm
   simp only [maxLen] at this;omega
  ·obtain ⟨t,ht,rfl⟩:=List.mem_map.1 hx
   obtain ⟨i,hi⟩:=List.getElem?_of_mem ht
   exact (hts2 i t hi).2.2
  ·have ha2:a=a':=by simpa using ha'
   subst ha2
   have hspot:ts≠[]→a.spot=none:=by
    intro hne
    have h0:0 < ts.length:=List.length_pos_iff.2 hne
    have hpos:=GT.pos (τ:=τ)
    have h2:ts[0]?=some ts[0]:=List.getElem?_eq_getElem h0
    have hl0:0 < (GT.cells ts[0]).length:=by rw [GT.len];exact hpos
    have h3:(GT.cells ts[0])[0]?=some ((GT.cells ts[0])[0]'hl0):=List.getElem?_eq_getElem hl0
    have h4:=hcell 0 _ 0 _ h2 h3
    simp only [Nat.zero_mul,Addr.add,if_true] at h4
    unfold World.cell? at h4
    split at h4
    ·split at h4
     ·cases h4
     ·rename_i hs;simpa using hs
    ·cases h4
   refine ⟨hspot,fun j v hv=>⟨?_,by simp⟩⟩
   have hpos:=GT.pos (τ:=τ)
   have hj:j < ts.length*GT.sz τ:=by rw [← length_rowCells];exact (List.getElem?_eq_some_iff.1 hv).1
   have h5:j / GT.sz τ < ts.length:=Nat.div_lt_of_lt_mul (by rw [Nat.mul_comm];exact hj)
   have h6:ts[j / GT.sz τ]?=some ts[j / GT.sz τ]:=List.getElem?_eq_getElem h5
   have h7:=rowCells_get ts (j / GT.sz τ) (j % GT.sz τ) _ h6 (Nat.mod_lt _ hpos)
   rw [Nat.div_add_mod' j (GT.sz τ)] at h7
   rw [h7] at hv
   have h8:=hcell _ _ _ _ h6 hv
   have hs:=hspot (fun e=>by subst e;simp at h5)
   obtain ⟨b,o,s⟩:=a
   have hs':s=none:=hs
   subst hs'
   rw [addr_add,addr_add,Nat.add_assoc,Nat.div_add_mod' j (GT.sz τ)] at h8
   exact h8
end
def OpnFs (P:Program) (off:Nat) (fs:List Field) (τ:Type) {δ:Type} [GT τ δ] [Ok δ]:Prop :=
 ∀ {H:Type} (enc:TypeId×Value→H) (w:World) (spare:Nat→Bool) (held:Bool) (n:Nat) (cs:List Value),
  (∀ f,f∈fs→∃ x,DataW.trod enc P w 0 spare held n f.type ((cs.drop f.offset).take (P.cellsOf f.type))=some x)→∃ t:τ,(cs.drop off).take (GT.sz τ)=GT.cells t∧GT.rd w [] t∧Ok.ok (GT.dat t)
section
variable {τ τ' δ δ':Type} [GT τ δ] [GT τ' δ'] [Ok δ] [Ok δ']
theorem OpnFs.one {f:Field} {off:Nat} (ho:f.offset=off) (hc:P.cellsOf f.type=GT.sz τ) (h:Opn P f.type τ):OpnFs P off [f] τ:=fun enc w spare held n cs hh=>by
 obtain ⟨x,hx⟩:=hh f (by simp)
 obtain ⟨t,h1,h2⟩:=h enc w spare held n _ _ hx
 rw [ho,hc] at h1
 exact ⟨t,h1,h2⟩
theorem OpnFs.cons {f:Field} {fs:List Field} {off:Nat} (ho:f.offset=off) (hc:P.cellsOf f.type=GT.sz τ) (h:Opn P f.type τ) (hr:OpnFs P (off+GT.sz τ) fs τ'):OpnFs P off (f::fs) (τ×τ'):=fun enc w spare held n cs hh=>by
 obtain ⟨x,hx⟩:=hh f (by simp)
 obtain ⟨t,h1,h2,h2'⟩:=h enc w spare held n _ _ hx
 obtain ⟨t',h3,h4,h4'⟩:=hr enc w spare held n cs (fun g hg=>hh g (List.mem_cons_of_mem _ hg))
 rw [ho,hc] at h1
 refine ⟨(t,t'),?_,⟨h2,h4⟩,h2',h4'⟩
 show (cs.drop off).take (GT.sz τ+GT.sz τ')=GT.cells t++GT.cells t'
 rw [List.take_add,h1,List.drop_drop,h3]
theorem Opn.struct {fs:List Field} (ht:P.underlying T=some (.struct fs.toArray)) (hc:P.cellsOf T=GT.sz τ) (h:OpnFs P 0 fs τ):Opn P T τ:=fun enc w spare held fuel cs x hx=>by
 obtain ⟨xs,n,_,_,hl,hxl,hf⟩:=DataW.trod_struct ht hx
 obtain ⟨t,h1,h2⟩:=h enc w spare held n cs (fun f hfm=>by
  obtain ⟨i,hi⟩:=List.getElem?_of_mem hfm
  have h3:=hf i f (by simpa using hi)
  have h4:i < xs.length:=by rw [hxl];have:=(List.getElem?_eq_some_iff.1 hi).1;simpa using this
  rw [List.getElem?_eq_getElem h4] at h3
  exact ⟨_,h3⟩)
 refine ⟨t,?_,h2⟩
 rw [← h1,List.drop_zero,List.take_of_length_le (by rw [hl,hc];exact Nat.le_refl _)]
end
theorem Holds.below {W W':World} {M:List HP} (h:Holds W [] M W'):RowKit.Below W.heap.size W W':=⟨h.os,h.tape.1,h.output,h.size,fun k hk=>h.old k hk (by simp)⟩
theorem Spec.top {f:FuncId} {args:Array Value} {W:World} {R:Value→List HP→Prop} (h:Spec P f args W [] R):Calls P f args W fun e W'=>∃ v M',e=.returned v∧R v M'∧RowKit.Below W.heap.size W W' :=
 (h ⟨rfl,⟨rfl,Nat.le_refl _⟩,rfl,Nat.le_refl _,fun _ _ _=>rfl,fun x hx=>(by cases hx),by simp,fun k hk=>by simp at hk⟩).mono fun e W' ⟨v,M',h1,h2,h3⟩=>⟨v,M',h1,h2,h3.below⟩
end Go.Proofs.SL
namespace Go.Proofs.SL
open Go
variable {Γ:Cx} {l:Envl} {M M' M1 M2:List HP} {Q:Post} {K:Kont} {w0 w:World} {S0:List Nat}
variable {rest:List Oper} {d:Nat} {ty:TypeId} {pos:String} {af:Array Edge}
class Bk (τ:Type) where
 bulk:τ→Nat
instance:Bk Int:=⟨fun _=>0⟩
instance:Bk Bool:=⟨fun _=>0⟩
instance:Bk UInt8:=⟨fun _=>0⟩
instance:Bk ByteArray:=⟨fun s=>s.size⟩
instance {α β:Type} [Bk α] [Bk β]:Bk (α×β):=⟨fun p=>Bk.bulk p.1+Bk.bulk p.2⟩
def bulks {τ:Type} [Bk τ]:List τ→Nat
 | []=>0
 | x::xs=>Bk.bulk x+bulks xs
instance {τ:Type} [Bk τ]:Bk (TL τ):=⟨fun L=>L.els.length+bulks L.els⟩
theorem bulk_pair {α β:Type} [Bk α] [Bk β] (a:α) (b:β):Bk.bulk (a,b)=Bk.bulk a+Bk.bulk b:=rfl
theorem bulk_TL {τ:Type} [Bk τ] (a:Option Addr) (c e:Nat) (x:List τ) (y:List Value):Bk.bulk (⟨a,c,e,x,y⟩:TL τ)=x.length+bulks x:=rfl
section
variable {τ:Type} [Bk τ]
end
theorem dat_int (n:Int):GT.dat n=n:=rfl
theorem dat_bool (n:Bool):GT.dat n=n:=rfl
theorem dat_str (s:ByteArray):GT.dat s=s:=rfl
theorem dat_pair {α β δ ε:Type} [GT α δ] [GT β ε] (a:α) (b:β):GT.dat (a,b)=(GT.dat a,GT.dat b):=rfl
theorem dat_TL {τ δ:Type} [GT τ δ] (a:Option Addr) (c e:Nat) (x:List τ) (y:List Value):GT.dat (⟨a,c,e,x,y⟩:TL τ)=x.map GT.dat:=rfl
section
variable {τ δ:Type} [GT τ δ]
end
noncomputable def eqB {α:Type} (a b:α):Bool:=@decide (a=b) (Classical.propDecidable _)
@[simp] theorem eqB_true {α:Type} {a b:α}:eqB a b=true↔a=b:=by unfold eqB;exact @decide_eq_true_iff _ (Classical.propDecidable _)
@[simp] theorem eqB_false {α:Type} {a b:α}:eqB a b=false↔¬ a=b:=by unfold eqB;exact @decide_eq_false_iff_not _ (Classical.propDecidable _)
end Go.Proofs.SL
namespace Go.Proofs.SL
open Go
variable {Γ:Cx} {l:Envl} {M M' M1 M2:List HP} {Q:Post} {K:Kont} {w0 w:World} {S0:List Nat} {P:Program}
variable {rest:List Oper} {d:Nat} {ty:TypeId} {pos:String} {af:Array Edge}
theorem run_equal_bool {T:TypeId} (h:P.underlying T=some .bool) (a b:Bool):(Op.equal T (.bool a) (.bool b)).run P w=.ok (a == b) w:=run_equalIn_bool' w 9999 T a b h
theorem bv_beql {x y:Operand} {T:TypeId} {a b:Bool} (h:P.underlying T=some .bool):BinV P .eql T x y (.bool a) (.bool b) (.bool (a == b)):=fun w=>by simp [eqGuard,binOp,run_equal_bool h]
theorem bv_bneq {x y:Operand} {T:TypeId} {a b:Bool} (h:P.underlying T=some .bool):BinV P .neq T x y (.bool a) (.bool b) (.bool (!(a == b))):=fun w=>by simp [eqGuard,binOp,run_equal_bool h]
theorem Spec.to {f:FuncId} {args:Array Value} {R R':Value→List HP→Prop} (h:Spec P f args w M R) (hr:∀ v M,R v M→R' v M):Spec P f args w M R':=fun hw =>
 (h hw).mono fun e w' ⟨v,M',h1,h2,h3⟩=>⟨v,M',h1,hr v M' h2,h3⟩
section
variable {ops:Array Oper} {Msh pool:List HP} {E:Fl} {rs:List (Option Nat×Rel)} {cs0:List Nat} {KD:List (Option Nat×Rel)→List Nat→List HP→Prop}
theorem D_call1R {f:Nat} {xs:List Operand} {ats:Array TypeId} {vs:List Value} (R:Rel)
  (hf:IsFn Γ.P f) (hx:OpVs E True xs vs) (hc:∀ w F,Holds Γ.w0 Γ.S0 F w→(∀ h,h∈Msh→h∈F)→Spec Γ.P f vs.toArray w [] R)
  (hk:DV Γ ops Msh pool ((d,R)::E) ((some d,R)::rs) cs0 rest KD) :
  DV Γ ops Msh pool E rs cs0 ({ dst:=some d,op:=.call { callee:=.value (.func f),args:=xs.toArray,argTypes:=ats },type:=ty,pos:=pos,after:=af,guard:=none }::rest) KD:=by
 refine DV.mk R [] pool [] (by simp) rfl ?_ (by rw [dropE_nil];exact hk)
 intro a w F Mk _ _ hw hm hfa hcf
 have hMk:Mk=[]:=hcf
 subst hMk
 rw [dropE_nil] at hfa
 simp only [List.nil_append] at hw ⊢
 rw [if_pos (by simp [Region.wanted])]
 have hw':Holds Γ.w0 Γ.S0 F w:=by simpa using hw
 have h2:(#[]++xs.toArray.map a.eval++#[]:Array Value)=vs.toArray:=by
  simp [OpVs.evals (o:={ dst:=some d,op:=.call { callee:=.value (.func f),args:=xs.toArray,argTypes:=ats },type:=ty,pos:=pos,after:=af,guard:=none }) trivial hfa xs vs hx (fun x hx=>by simp [Op.operands,Call.operands,hx])]
 rw [execOp_call_go,h2,hf.run]
 exact (hc w F hw' hm (Holds.split (M1:=[]) (M2:=F) hw)).mono fun e w'' ⟨v,M',h1,h3,h4⟩=>⟨v,M',h1,h3,Holds.frame (M1:=[]) (M2:=F) hw h4⟩
end
theorem cells_of_blk {F:List HP} {b:Nat} {cs:List Value} {T:TypeId} (h:blk b cs T∈F) (hw:Sees w0 S0 F w):Cells w [] b 0 cs:=fun j v hv=>by
 have hp:w.heap[b]?=some (.cells cs.toArray T (0,0)):=hw.prs _ h
 refine ⟨?_,by simp⟩
 rw [cell_of_row _ _ _ _ _ _ hp,Nat.zero_add]
 simpa using hv
theorem Cells.carry {F:List HP} {g o:Nat} {cs:List Value} (h:Cells w0 S0 g o cs) (hw:Holds w0 S0 F w):Cells w [] g o cs:=fun j v hv=>(h j v hv).carry (M1:=[]) (M2:=F) hw
def firstI {α:Type} (p:α→Bool) (xs:List α):Int:=match xs.findIdx? p with | some i=>(i:Int) | none=>-1
theorem firstI_hit {α:Type} {p:α→Bool} {xs:List α} {k:Nat} {u:α} (h:∀ x,x∈xs.take k→p x=false) (hu:xs[k]?=some u) (hp:p u=true):firstI p xs=k:=by
 unfold firstI
 have hk:=(List.getElem?_eq_some_iff.1 hu)
 obtain ⟨hlt,hk⟩:=hk
 have:xs.findIdx? p=some k:=by
  rw [List.findIdx?_eq_some_iff_getElem]
  refine ⟨hlt,by rw [hk];exact hp,fun j hj=>?_⟩
  have:=h (xs[j]) (List.mem_iff_getElem?.2 ⟨j,by rw [List.getElem?_take_of_lt hj];exact List.getElem?_eq_getElem _⟩)
  simp [this]
 rw [this]
theorem firstI_miss {α:Type} {p:α→Bool} {xs:List α} (h:∀ x,x∈xs→p x=false):firstI p xs=-1:=by
 unfold firstI
 rw [List.findIdx?_eq_none_iff.2 h]
theorem firstI_find {α:Type} (p:α→Bool) (xs:List α):(firstI p xs=-1∧xs.find? p=none)∨∃ (k:Nat) (u:α),firstI p xs=(k:Int)∧xs[k]?=some u∧xs.find? p=some u∧k < xs.length:=by
 unfold firstI
 cases h:xs.findIdx? p with
 | none =>
  refine .inl ⟨rfl,?_⟩
  rw [List.find?_eq_none]
  intro x hx
  have:=List.findIdx?_eq_none_iff.1 h x hx
  simp [this]
 | some i =>
  obtain ⟨h1,h2,h3⟩:=List.findIdx?_eq_some_iff_getElem.1 h
  refine .inr ⟨i,xs[i],rfl,List.getElem?_eq_getElem h1,?_,h1⟩
  rw [List.find?_eq_some_iff_getElem]
  exact ⟨h2,i,h1,rfl,fun j hj=>by have:=h3 j hj;simpa using this⟩
noncomputable def pB (p:Prop):Bool:=@decide p (Classical.propDecidable p)
theorem pB_iff {p:Prop}:pB p=true↔p:=by unfold pB;exact @decide_eq_true_iff p (Classical.propDecidable p)
end Go.Proofs.SL
namespace Go.Proofs.SL
open Go
variable {Γ:Cx} {l:Envl} {M M' M1 M2:List HP} {Q:Post} {K:Kont} {w0 w:World} {S0:List Nat} {P:Program}
variable {rest:List Oper} {d:Nat} {ty:TypeId} {pos:String} {af:Array Edge}
def strOf (ns:List Int):ByteArray:=ns.foldl (fun r n=>r.push (UInt8.ofNat n.toNat)) ByteArray.empty
def dg (k:Nat):ByteArray:=strOf [IntKind.u8.wrap (48+((k % 10:Nat):Int))]
def mtxN (k:Nat) (s:ByteArray):ByteArray:=if h:k=0 then s else mtxN (k / 10) (dg k++s)
 termination_by k
 decreasing_by omega
def mtx (k:Nat):ByteArray:=ByteArray.mk #[109]++mtxN k (ByteArray.mk #[])
class Mk (τ:Type) where
 cnt:τ→Nat
 mkd:Nat→τ→τ
instance:Mk Int:=⟨fun _=>1,fun k _=>(k:Int)⟩
instance:Mk ByteArray:=⟨fun _=>1,fun k _=>mtx k⟩
instance {α β:Type} [Mk α] [Mk β]:Mk (α×β):=⟨fun p=>Mk.cnt p.1+Mk.cnt p.2,fun k p=>(Mk.mkd k p.1,Mk.mkd (k+Mk.cnt p.1) p.2)⟩
section
variable {τ:Type} [Mk τ]
def cnts:List τ→Nat
 | []=>0
 | x::xs=>Mk.cnt x+cnts xs
def mks (k:Nat):List τ→List τ
 | []=>[]
 | x::xs=>Mk.mkd k x::mks (k+Mk.cnt x) xs
instance:Mk (TL τ):=⟨fun L=>cnts L.els,fun k L=>{ L with els:=mks k L.els }⟩
theorem mks_length (xs:List τ):∀ k,(mks k xs).length=xs.length:=by
 induction xs with
 | nil=>intro k;rfl
 | cons x xs ih=>intro k;simp [mks,ih]
end
class Mv (τ:Type) where
 cnt:τ→Nat
 mkd:Nat→τ→τ
instance:Mv Int:=⟨fun _=>0,fun _ t=>t⟩
instance:Mv Bool:=⟨fun _=>0,fun _ t=>t⟩
instance:Mv ByteArray:=⟨fun _=>0,fun _ t=>t⟩
instance {τ:Type} [Mk τ]:Mv (TL τ):=⟨Mk.cnt,Mk.mkd⟩
instance {α β:Type} [Mv α] [Mv β]:Mv (α×β):=⟨fun p=>Mv.cnt p.1+Mv.cnt p.2,fun k p=>(Mv.mkd k p.1,Mv.mkd (k+Mv.cnt p.1) p.2)⟩
section
variable {τ δ:Type} [GT τ δ]
theorem ow_facts {L:TL τ} (h:GT.ow w L):L.els.length≤9223372036854775807∧(0 < L.els.length→∃ g,L.a=some ⟨g,0,none⟩):=by
 have h1:=h.1;have h2:=h.2.1;simp only [maxLen] at h2
 refine ⟨by omega,fun hl=>?_⟩
 cases ha:L.a with
 | none=>have:=(h.2.2.2.1 ha).1;rw [this] at hl;simp at hl
 | some a =>
  obtain ⟨h3,h4,_⟩:=h.2.2.2.2 _ ha
  obtain ⟨b,o,s⟩:=a
  exact ⟨b,by simp at h3 h4;rw [h3,h4]⟩
end
theorem W_fact {c:Code} {φ:Prop} (h:∀ w,Holds Γ.w0 Γ.S0 M w→φ) (hk:φ→W Γ c l M Q):W Γ c l M Q:=fun a w ha hw=>hk (h w hw) a w ha hw
theorem L_fact {φ:Prop} (h:∀ w,Holds Γ.w0 Γ.S0 M w→φ) (hk:φ→L Γ rest l M K):L Γ rest l M K:=fun ops a w Q ha hw hq=>hk (h w hw) ops a w Q ha hw hq
theorem cnt_pair {α β:Type} [Mk α] [Mk β] (a:α) (b:β):Mk.cnt (a,b)=Mk.cnt a+Mk.cnt b:=rfl
theorem cells_pair {α β δ ε:Type} [GT α δ] [GT β ε] (a:α) (b:β):GT.cells (a,b)=GT.cells a++GT.cells b:=rfl
theorem cells_mkTL {τ δ:Type} [GT τ δ] [Mk τ] (k:Nat) (L:TL τ):GT.cells (Mk.mkd k L:TL τ)=GT.cells L:=by
 show [Value.slice L.a (mks k L.els).length L.cap]=[Value.slice L.a L.els.length L.cap]
 rw [mks_length]
theorem mv_pair {α β:Type} [Mv α] [Mv β] (k:Nat) (a:α) (b:β):Mv.mkd k (a,b)=(Mv.mkd k a,Mv.mkd (k+Mv.cnt a) b):=rfl
theorem mv_cnt_pair {α β:Type} [Mv α] [Mv β] (a:α) (b:β):Mv.cnt (a,b)=Mv.cnt a+Mv.cnt b:=rfl
end Go.Proofs.SL
namespace Go.Proofs.SL
open Go
variable {Γ:Cx} {l:Envl} {M M' M1 M2:List HP} {Q:Post} {K:Kont} {w0 w:World} {S0:List Nat} {P:Program}
variable {rest:List Oper} {d:Nat} {ty:TypeId} {pos:String} {af:Array Edge}
theorem run_buildSlice0 {T e sz by_:Nat} {z:List Value} (ht:elOf P T=some (e,sz,by_,z)) (w:World) :
  (Instr.buildSlice T 0 #[]).run P w=.ok (.slice (some ⟨w.heap.size,0,none⟩) 0 0) (w.alloc (.cells (#[]:Array Value) e (0,0))):=by
 unfold elOf at ht
 split at ht<;>(try cases ht)
 rename_i e' het
 split at ht<;>(try cases ht)
 rename_i i' hi'
 split at ht<;>cases ht
 simp [Instr.buildSlice,underlying,het,sizeOf,typeInfo,hi',newRow,Instr.fill]
 rw [show (Array.map (fun _:Nat=>(default:Value)) (Array.range 0))=#[] from Array.eq_empty_of_size_eq_zero (by simp)]
theorem L_buildSlice0 (τ:Type) {δ:Type} [GT τ δ] {T e sz by_:Nat} {z:List Value} (hn:Nat.blt d Γ.n=true) (ht:elOf Γ.P T=some (e,sz,by_,z))
  (hk:∀ b,L Γ rest ((d,.slice (some ⟨b,0,none⟩) 0 0)::l) (treeH (⟨some ⟨b,0,none⟩,0,e,[],[]⟩:TL τ)::M) K) :
  L Γ ({ dst:=some d,op:=.buildSlice T 0 #[],type:=ty,pos,after:=af,guard:=none }::rest) l M K :=
 L_stepR (fun v M'=>∃ b,v=.slice (some ⟨b,0,none⟩) 0 0∧M'=treeH (⟨some ⟨b,0,none⟩,0,e,[],[]⟩:TL τ)::M) rfl rfl (Nat.le_of_ble_eq_true hn)
  (fun a w ha hw=>by
   refine ⟨_,_,w.alloc (.cells ([]:List Value).toArray e (0,0)),⟨w.heap.size,rfl,rfl⟩,?_,?_⟩
   ·have:=run_buildSlice0 ht w
    simp only [execOp]
    simp [this]
   ·have h2:=hw.new (cs:=[]) (T:=e) (b:=w.heap.size) rfl
    refine h2.reFp (List.Perm.of_eq rfl) fun x hx=>?_
    rcases List.mem_cons.1 hx with rfl | hx
    ·have hp:=h2.prs (blk w.heap.size [] e) (List.mem_cons_self ..)
     refine ⟨Nat.le_refl _,by simp [maxLen],fun x hx=>(by cases hx),fun ha=>(by cases ha),fun a ha=>?_⟩
     cases ha
     exact ⟨rfl,rfl,hp,by simp⟩
    ·exact h2.prs x (List.mem_cons_of_mem _ hx))
  (fun v M' ⟨b,h1,h2⟩=>by subst h1;subst h2;exact hk b)
class Bd (τ:Type) {δ:outParam Type} [GT τ δ] [Bk τ] where
 bd:δ→Nat
 eq:∀ x:τ,Bk.bulk x=bd (GT.dat x)
class Bm (τ:Type) [Bk τ] [Mk τ] where
 A:Nat
 le:∀ x:τ,Mk.cnt x≤A*(1+Bk.bulk x)
instance:Bd Int:=⟨fun _=>0,fun _=>rfl⟩
instance:Bd Bool:=⟨fun _=>0,fun _=>rfl⟩
instance:Bd ByteArray:=⟨fun s=>s.size,fun _=>rfl⟩
instance {α β δ ε:Type} [GT α δ] [GT β ε] [Bk α] [Bk β] [Bd α] [Bd β]:Bd (α×β):=⟨fun p=>Bd.bd (τ:=α) p.1+Bd.bd (τ:=β) p.2,fun x=>by
 obtain ⟨a,b⟩:=x
 simp only [bulk_pair,dat_pair,Bd.eq]⟩
def bds (τ:Type) {δ:Type} [GT τ δ] [Bk τ] [Bd τ]:List δ→Nat
 | []=>0
 | x::xs=>Bd.bd (τ:=τ) x+bds τ xs
theorem bulks_eq {τ δ:Type} [GT τ δ] [Bk τ] [Bd τ] (xs:List τ):bulks xs=bds τ (xs.map GT.dat):=by
 induction xs with
 | nil=>rfl
 | cons x xs ih=>simp only [List.map_cons,bulks,bds,Bd.eq,ih]
instance {τ δ:Type} [GT τ δ] [Bk τ] [Bd τ]:Bd (TL τ):=⟨fun xs=>xs.length+bds τ xs,fun L=>by
 obtain ⟨_,_,_,xs,_⟩:=L
 simp only [bulk_TL,dat_TL,bulks_eq,List.length_map]⟩
instance:Bm Int:=⟨1,fun x=>by show 1≤1*(1+0);omega⟩
instance:Bm ByteArray:=⟨1,fun x=>by show 1≤1*(1+x.size);omega⟩
instance {α β:Type} [Bk α] [Bk β] [Mk α] [Mk β] [Bm α] [Bm β]:Bm (α×β):=⟨Bm.A α+Bm.A β,fun x=>by
 obtain ⟨a,b⟩:=x
 have h1:=Bm.le a;have h2:=Bm.le b
 simp only [cnt_pair,bulk_pair]
 have h3:Bm.A α*(1+Bk.bulk a)≤Bm.A α*(1+(Bk.bulk a+Bk.bulk b)):=Nat.mul_le_mul_left _ (by omega)
 have h4:Bm.A β*(1+Bk.bulk b)≤Bm.A β*(1+(Bk.bulk a+Bk.bulk b)):=Nat.mul_le_mul_left _ (by omega)
 rw [Nat.add_mul];omega⟩
theorem cnts_le {τ:Type} [Bk τ] [Mk τ] [Bm τ] (xs:List τ):cnts xs≤Bm.A τ*(xs.length+bulks xs):=by
 induction xs with
 | nil=>simp [cnts]
 | cons x xs ih =>
  have h:=Bm.le x
  simp only [cnts,List.length_cons,bulks]
  rw [show xs.length+1+(Bk.bulk x+bulks xs)=(1+Bk.bulk x)+(xs.length+bulks xs) by omega,Nat.mul_add]
  omega
theorem cntTL_le {τ:Type} [Bk τ] [Mk τ] [Bm τ] (L:TL τ):Mk.cnt L≤Bm.A τ*Bk.bulk L:=cnts_le L.els
instance {τ:Type} [Bk τ] [Mk τ] [Bm τ]:Bm (TL τ):=⟨Bm.A τ,fun L=>Nat.le_trans (cntTL_le L) (Nat.mul_le_mul_left _ (by omega))⟩
class Bv (τ:Type) [Bk τ] [Mv τ] where
 A:Nat
 le:∀ x:τ,Mv.cnt x≤A*Bk.bulk x
instance:Bv Int:=⟨0,fun x=>by show 0≤0*0;omega⟩
instance:Bv Bool:=⟨0,fun x=>by show 0≤0*0;omega⟩
instance:Bv ByteArray:=⟨0,fun x=>by show 0≤0*x.size;omega⟩
instance {τ:Type} [Bk τ] [Mk τ] [Bm τ]:Bv (TL τ):=⟨Bm.A τ,cntTL_le⟩
instance {α β:Type} [Bk α] [Bk β] [Mv α] [Mv β] [Bv α] [Bv β]:Bv (α×β):=⟨Bv.A α+Bv.A β,fun x=>by
 obtain ⟨a,b⟩:=x
 have h1:=Bv.le a;have h2:=Bv.le b
 simp only [mv_cnt_pair,bulk_pair]
 have h3:Bv.A α*Bk.bulk a≤Bv.A α*(Bk.bulk a+Bk.bulk b):=Nat.mul_le_mul_left _ (by omega)
 have h4:Bv.A β*Bk.bulk b≤Bv.A β*(Bk.bulk a+Bk.bulk b):=Nat.mul_le_mul_left _ (by omega)
 rw [Nat.add_mul];omega⟩
class Cv (τ:Type) {δ:outParam Type} [GT τ δ] [Mv τ]:Prop where
 eq:∀ (k:Nat) (x:τ),GT.cells (Mv.mkd k x)=GT.cells x
instance:Cv Int:=⟨fun _ _=>rfl⟩
instance:Cv Bool:=⟨fun _ _=>rfl⟩
instance:Cv ByteArray:=⟨fun _ _=>rfl⟩
instance {τ δ:Type} [GT τ δ] [Mk τ]:Cv (TL τ):=⟨fun k L=>cells_mkTL k L⟩
instance {α β δ ε:Type} [GT α δ] [GT β ε] [Mv α] [Mv β] [Cv α] [Cv β]:Cv (α×β):=⟨fun k x=>by
 obtain ⟨a,b⟩:=x
 rw [mv_pair,cells_pair,cells_pair,Cv.eq,Cv.eq]⟩
end Go.Proofs.SL
namespace Go.Proofs.SL
open Go
variable {P:Program} {T:TypeId} {x y:Operand} {k:IntKind} {a b:Int}
theorem bv_and:BinV P .and T x y (.int k a) (.int k b) (.int k (bits .and k a b)):=fun w=>by simp [eqGuard,binOp,intBits_and]
theorem bv_or:BinV P .or T x y (.int k a) (.int k b) (.int k (bits .or k a b)):=fun w=>by simp [eqGuard,binOp,intBits_or]
theorem bv_xor:BinV P .xor T x y (.int k a) (.int k b) (.int k (bits .xor k a b)):=fun w=>by simp [eqGuard,binOp,intBits_xor]
theorem bv_shr {yk:IntKind} (h0:0≤b) (h1:b≤k.bits):BinV P .shr T x y (.int k a) (.int yk b) (.int k (a / 2 ^ b.toNat)):=fun w=>by simp [eqGuard,binOp,shift_shr k yk a b h0 h1]
theorem bv_shl {yk:IntKind} (h0:0≤b) (h1:b≤k.bits):BinV P .shl T x y (.int k a) (.int yk b) (.int k (k.wrap (a*2 ^ b.toNat))):=fun w=>by simp [eqGuard,binOp,shift_shl k yk a b h0 h1]
end Go.Proofs.SL
namespace Go.Proofs.SL
open Go
variable {Γ:Cx} {rest:List Oper} {d:Nat} {ty:TypeId} {pos:String} {af:Array Edge} {gd:Option (Nat×Bool)}
variable {ops:Array Oper} {Msh pool:List HP} {E:Fl} {rs:List (Option Nat×Rel)} {cs0:List Nat} {KD:List (Option Nat×Rel)→List Nat→List HP→Prop}
end Go.Proofs.SL
