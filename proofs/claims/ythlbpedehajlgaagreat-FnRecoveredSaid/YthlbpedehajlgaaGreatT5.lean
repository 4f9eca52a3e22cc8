/- The texts of the proof, part 5: the base, walks of functions, plain Lean. -/
import Derived.Test.YthlbpedehajlgaaGreatT4
import Derived.Sort.Grow
import Derived.Sort.EncStr
import Derived.Lib.SlicesCompact
import Derived.Laws.StructEq
namespace Go.Proofs.SL
open Go
variable {Γ:Cx} {l:Envl} {M M' M1 M2 F:List HP} {Q:Post} {K:Kont} {w0 w:World} {S0:List Nat} {P:Program}
variable {rest:List Oper} {d:Nat} {ty:TypeId} {pos:String} {af:Array Edge}
def RdX {τ δ:Type} [GT τ δ] (Γ:Cx) (M1 M2:List HP) (t:τ):Prop:=∀ w,Holds Γ.w0 Γ.S0 (M1++M2) w→GT.rd w (fps M1) t
section
variable {τ δ:Type} [GT τ δ] {t:τ}
theorem RdX.old (h:GT.rd Γ.w0 Γ.S0 t):RdX Γ M1 M2 t:=fun _ hw=>GT.rd_mono h fun _ _ ho=>ho.carry hw
theorem RdX.tree (h:treeH t∈M2):RdX Γ M1 M2 t:=fun w hw=>by
 have ho:GT.ow w t:=hw.prs (treeH t) (List.mem_append_right _ h)
 refine GT.ow_rd ho fun k hk hk1=>?_
 have hnd:=hw.nodup
 rw [fps_append] at hnd
 exact (List.nodup_append.1 hnd).2.2 k hk1 k (List.mem_flatMap.2 ⟨_,h,hk⟩) rfl
theorem RdX.fst {α β δ ε:Type} [GT α δ] [GT β ε] {t:α×β} (h:RdX Γ M1 M2 t):RdX Γ M1 M2 t.1:=fun w hw=>(h w hw).1
theorem RdX.snd {α β δ ε:Type} [GT α δ] [GT β ε] {t:α×β} (h:RdX Γ M1 M2 t):RdX Γ M1 M2 t.2:=fun w hw=>(h w hw).2
theorem RdX.of {X:TL τ} {j:Nat} {x:τ} (h:RdX Γ M1 M2 X) (hi:X.els[j]?=some x):RdX Γ M1 M2 x:=fun w hw=>(h w hw).2.2.1 x (List.mem_of_getElem? hi)
theorem RdX.pair {α β δ ε:Type} [GT α δ] [GT β ε] {a:α} {b:β} (h1:RdX Γ M1 M2 a) (h2:RdX Γ M1 M2 b):RdX Γ M1 M2 (a,b):=fun w hw=>⟨h1 w hw,h2 w hw⟩
theorem RdX.int {n:Int}:RdX Γ M1 M2 n:=fun _ _=>trivial
theorem RdX.bool {n:Bool}:RdX Γ M1 M2 n:=fun _ _=>trivial
theorem RdX.str {n:ByteArray}:RdX Γ M1 M2 n:=fun _ _=>trivial
theorem RdX.u8 {n:UInt8}:RdX Γ M1 M2 n:=fun _ _=>trivial
theorem nil_rd {w:World} {S:List Nat} (e:TypeId):GT.rd w S (TL.nil τ e):=⟨Nat.le_refl _,by simp [TL.nil,maxLen],fun x hx=>by simp [TL.nil] at hx,fun _=>rfl,fun a ha=>by simp [TL.nil] at ha⟩
theorem RdX.nil (e:TypeId):RdX Γ M1 M2 (TL.nil τ e):=fun _ _=>nil_rd e
theorem RdX.map {α δ':Type} [GT α δ'] {a:α} (f:∀ w S,GT.rd w S a→GT.rd w S t) (h:RdX Γ M1 M2 a):RdX Γ M1 M2 t:=fun w hw=>f w _ (h w hw)
theorem RdX.map2 {α β δ' ε:Type} [GT α δ'] [GT β ε] {a:α} {b:β} (f:∀ w S,GT.rd w S a→GT.rd w S b→GT.rd w S t) (h:RdX Γ M1 M2 a) (h2:RdX Γ M1 M2 b):RdX Γ M1 M2 t:=fun w hw=>f w _ (h w hw) (h2 w hw)
theorem RdT.map {α δ':Type} [GT α δ'] {a:α} (f:∀ w S,GT.rd w S a→GT.rd w S t) (h:RdT Γ M a):RdT Γ M t:=fun w hw=>f w _ (h w hw)
theorem RdT.map2 {α β δ' ε:Type} [GT α δ'] [GT β ε] {a:α} {b:β} (f:∀ w S,GT.rd w S a→GT.rd w S b→GT.rd w S t) (h:RdT Γ M a) (h2:RdT Γ M b):RdT Γ M t:=fun w hw=>f w _ (h w hw) (h2 w hw)
end
def RdO {τ δ:Type} [GT τ δ] (w:World) (S:List Nat) (t:τ):Prop:=GT.rd w S t
section
variable {τ δ:Type} [GT τ δ] {t:τ} {S:List Nat}
theorem RdO.old (h:GT.rd w S t):RdO w S t:=h
theorem RdO.fst {α β δ ε:Type} [GT α δ] [GT β ε] {t:α×β} (h:RdO w S t):RdO w S t.1:=h.1
theorem RdO.snd {α β δ ε:Type} [GT α δ] [GT β ε] {t:α×β} (h:RdO w S t):RdO w S t.2:=h.2
theorem RdO.of {X:TL τ} {j:Nat} {x:τ} (h:RdO w S X) (hi:X.els[j]?=some x):RdO w S x:=h.2.2.1 x (List.mem_of_getElem? hi)
theorem RdO.pair {α β δ ε:Type} [GT α δ] [GT β ε] {a:α} {b:β} (h1:RdO w S a) (h2:RdO w S b):RdO w S (a,b):=⟨h1,h2⟩
theorem RdO.int {n:Int}:RdO w S n:=trivial
theorem RdO.bool {n:Bool}:RdO w S n:=trivial
theorem RdO.str {n:ByteArray}:RdO w S n:=trivial
theorem RdO.u8 {n:UInt8}:RdO w S n:=trivial
theorem RdO.nil (e:TypeId):RdO w S (TL.nil τ e):=nil_rd e
theorem RdO.map {α δ':Type} [GT α δ'] {a:α} (f:∀ w S,GT.rd w S a→GT.rd w S t) (h:RdO w S a):RdO w S t:=f w _ h
theorem RdO.map2 {α β δ' ε:Type} [GT α δ'] [GT β ε] {a:α} {b:β} (f:∀ w S,GT.rd w S a→GT.rd w S b→GT.rd w S t) (h:RdO w S a) (h2:RdO w S b):RdO w S t:=f w _ h h2
end
theorem L_callM {f:Nat} {xs:List Operand} {ats:Array TypeId} {vs:List Value} {R:Value→List HP→Prop} (M1 M2:List HP)
  (hn:Nat.blt d Γ.n=true) (hf:IsFn Γ.P f) (hx:evs l xs=some vs) (hp:List.Perm M (M1++M2)) (hc:∀ w,Holds Γ.w0 Γ.S0 (M1++M2) w→Spec Γ.P f vs.toArray w M1 R)
  (hk:∀ v M',R v M'→L Γ rest ((d,v)::l) (M'++M2) K):L Γ ({ dst:=some d,op:=.call { callee:=.value (.func f),args:=xs.toArray,argTypes:=ats },type:=ty,pos:=pos,after:=af,guard:=none }::rest) l M K :=
 L_call (M1:=M1) (M2:=M2) (R:=R) rfl rfl rfl (Nat.le_of_ble_eq_true hn) hf hx hp hc hk
theorem res0n {P:Program} {fn:Func} {R:Value→List HP→Prop} {M':List HP} (hr:fn.results=#[]) (hR:R (.tuple #[]) M') (hm:MSub M' M):retQ P fn w0 S0 R .normal l M :=
 ⟨.tuple #[],M',fun a w ha hw=>by
  rw [results_eq,hr]
  simp,hR,hm⟩
end Go.Proofs.SL
namespace Go.Proofs.SL
open Go
variable {Γ:Cx} {l:Envl} {M M' M1 M2 F:List HP} {Q:Post} {K:Kont} {w0 w:World} {S0:List Nat} {P:Program}
variable {rest:List Oper} {d:Nat} {ty:TypeId} {pos:String} {af:Array Edge}
section
variable {τ δ:Type} [GT τ δ]
def chkP (b:Bool):Option Unit:=if b then some () else none
theorem chkP_some {b:Bool} {u:Unit} (h:chkP b=some u):b=true:=by
 unfold chkP at h;split at h
 ·assumption
 ·cases h
theorem slcP_some {α:Type} {l r:List α} {a b:Int} (h:slcP l a b=some r):0≤a∧a≤b∧b≤l.length∧r=(l.drop a.toNat).take (b.toNat - a.toNat):=by
 unfold slcP at h;split at h
 ·rename_i hb;cases h;exact ⟨hb.1,hb.2.1,hb.2.2,rfl⟩
 ·cases h
end
end Go.Proofs.SL
namespace Go.Proofs.SL
open Go
variable {Γ:Cx} {l:Envl} {M M' M1 M2 F:List HP} {Q:Post} {K:Kont} {w0 w:World} {S0:List Nat}
variable {rest:List Oper} {d:Nat} {ty:TypeId} {pos:String} {af:Array Edge}
variable {ops:Array Oper} {Msh pool pool':List HP} {E:Fl} {rs:List (Option Nat×Rel)} {cs0:List Nat} {KD:List (Option Nat×Rel)→List Nat→List HP→Prop}
section
variable {τ δ:Type} [GT τ δ]
def AggO (f:Value→Value) (r:List δ):Rel:=fun v M=>∃ X:TL τ,v=f X.hdr∧GT.dat X=r∧M=[treeH X]
def RowO (f:Value→Value) (e:TypeId) (r:List δ):Rel:=fun v M=>∃ (X:TL τ) (b:Nat),v=.slice (some ⟨b,0,none⟩) 1 1∧GT.dat X=r∧M=[blk b (f X.hdr).cells.toList e,treeH X]
def OpVp (E:Fl):List (Nat×Operand)→List (Nat×Value)→Prop
 | [],[]=>True
 | x::xs,v::vs=>(x.1=v.1∧OpV E x.2 True v.2)∧OpVp E xs vs
 | _,_=>False
theorem OpVp.nil:OpVp E [] []:=trivial
theorem OpVp.cons {i:Nat} {x:Operand} {v:Value} {xs:List (Nat×Operand)} {vs:List (Nat×Value)} (h:OpV E x True v) (hs:OpVp E xs vs):OpVp E ((i,x)::xs) ((i,v)::vs):=⟨⟨rfl,h⟩,hs⟩
theorem OpVp.evals {a:Act} {F:List HP} {o:Oper} (hf:Facts E (o.looksAt ops) F a):∀ (xs:List (Nat×Operand)) (vs:List (Nat×Value)),OpVp E xs vs→(∀ x,x∈xs→x.2∈o.op.operands.toList)→xs.map (fun p=>(p.1,a.eval p.2))=vs
 | [],[],_,_=>rfl
 | x::xs,v::vs,h,hm=>by
  rw [List.map_cons,h.1.2.eval hf (hm x (by simp)) trivial,OpVp.evals hf xs vs h.2 (fun y hy=>hm y (List.mem_cons_of_mem _ hy)),h.1.1]
 | [],_::_,h,_=>h.elim
 | _::_,[],h,_=>h.elim
theorem D_build {T:TypeId} {xs:List (Nat×Operand)} {ps:List (Nat×Value)} {pl:List (Nat×Nat)} {z cs:List Value} (hx:OpVp E xs ps) (ht:bldOf Γ.P T=some (pl,z)) (hf:fillL (pl[·]?) z ps=some cs)
  (hk:DV Γ ops Msh pool ((d,FC True (.agg cs.toArray))::E) ((some d,FC True (.agg cs.toArray))::rs) cs0 rest KD) :
  DV Γ ops Msh pool E rs cs0 ({ dst:=some d,op:=.build T xs.toArray,type:=ty,pos:=pos,after:=af,guard:=none }::rest) KD :=
 DV_pure True _ GC.none (fun a w F _ hfa _=>by
  have h1:xs.toArray.map (fun (i,x)=>(i,a.eval x))=ps.toArray:=by
   have:=OpVp.evals (o:={ dst:=some d,op:=.build T xs.toArray,type:=ty,pos:=pos,after:=af,guard:=none }) hfa xs ps hx (fun x hx=>by simp [Op.operands];exact ⟨_,hx⟩)
   rw [← this];simp
  simp only [execOp,h1]
  simp [run_build ht hf]) hk
theorem D_buildO {T:TypeId} {t:Nat} {xs:List (Nat×Operand)} {ps:Value→List (Nat×Value)} {pl:List (Nat×Nat)} {z:List Value} {cs:Value→List Value} {r:List δ}
  (hR:E.lookup t=some (OwnV (τ:=τ) r)) (hx:∀ u,OpVp ((t,FC True u)::dropE [t] E) xs (ps u)) (ht:bldOf Γ.P T=some (pl,z)) (hf:∀ X:TL τ,fillL (pl[·]?) z (ps X.hdr)=some (cs X.hdr))
  (hlin:linB ops { dst:=some d,op:=.build T xs.toArray,type:=ty,pos:=pos,after:=af,guard:=none } [t]=true)
  (hk:DV Γ ops Msh pool ((d,AggO (τ:=τ) (fun u=>.agg (cs u).toArray) r)::dropE [t] E) ((some d,AggO (τ:=τ) (fun u=>.agg (cs u).toArray) r)::rs) ([t]++cs0) rest KD) :
  DV Γ ops Msh pool E rs cs0 ({ dst:=some d,op:=.build T xs.toArray,type:=ty,pos:=pos,after:=af,guard:=none }::rest) KD:=by
 refine DV.mk (AggO (τ:=τ) (fun u=>.agg (cs u).toArray) r) [] pool ([t]) (by simp) hlin ?_ hk
 intro a w F Mk _ _ hw hm hfa hcf
 obtain ⟨Mx,Mk',rfl,hRR,hnil⟩:=hcf
 have hnil:Mk'=[]:=hnil
 subst hnil
 obtain ⟨X,hv,hd,rfl⟩:=hRR _ hR
 rw [if_pos (by simp [Region.wanted])]
 have hf2:Facts ((t,FC True X.hdr)::dropE [t] E) (Oper.looksAt ops { dst:=some d,op:=.build T xs.toArray,type:=ty,pos:=pos,after:=af,guard:=none }) F a:=by
  intro t' R' h1 h2
  rw [List.lookup_cons] at h2
  cases hb:t' == t with
  | true =>
   rw [hb] at h2
   cases h2
   have:t'=t:=by simpa using hb
   subst this
   exact ⟨[],⟨rfl,fun _=>hv,fun hn=>(hn trivial).elim⟩,fun _ h=>by cases h⟩
  | false=>rw [hb] at h2;exact hfa t' R' h1 h2
 have h1:xs.toArray.map (fun (i,x)=>(i,a.eval x))=(ps X.hdr).toArray:=by
  have:=OpVp.evals (o:={ dst:=some d,op:=.build T xs.toArray,type:=ty,pos:=pos,after:=af,guard:=none }) hf2 xs (ps X.hdr) (hx X.hdr) (fun x hx=>by simp [Op.operands];exact ⟨_,hx⟩)
  rw [← this];simp
 have h3:(execOp a.eval { dst:=some d,op:=.build T xs.toArray,type:=ty,pos:=pos,after:=af,guard:=none }).run Γ.P w=.ok (.value (.agg (cs X.hdr).toArray)) w:=by
  simp only [execOp,h1]
  simp [run_build ht (hf X)]
 rw [h3]
 exact ⟨[treeH X],⟨X,rfl,hd,rfl⟩,by simpa using hw⟩
theorem D_bs1O {t T e sz by_:Nat} {z:List Value} {f:Value→Value} {r:List δ} (hR:E.lookup t=some (AggO (τ:=τ) f r)) (ht:elOf Γ.P T=some (e,sz,by_,z)) (hz:z.length=sz) (hsz:0 < sz) (hns:sz≤65536)
  (hv:∀ X:TL τ,(f X.hdr).cells.toList.length=sz)
  (hlin:linB ops { dst:=some d,op:=.buildSlice T 1 #[(0,.tmp t)],type:=ty,pos:=pos,after:=af,guard:=none } [t]=true)
  (hk:DV Γ ops Msh pool ((d,RowO (τ:=τ) f e r)::dropE [t] E) ((some d,RowO (τ:=τ) f e r)::rs) ([t]++cs0) rest KD) :
  DV Γ ops Msh pool E rs cs0 ({ dst:=some d,op:=.buildSlice T 1 #[(0,.tmp t)],type:=ty,pos:=pos,after:=af,guard:=none }::rest) KD:=by
 refine DV.mk (RowO (τ:=τ) f e r) [] pool ([t]) (by simp) hlin ?_ hk
 intro a w F Mk _ _ hw hm hfa hcf
 obtain ⟨Mx,Mk',rfl,hRR,hnil⟩:=hcf
 have hnil:Mk'=[]:=hnil
 subst hnil
 obtain ⟨X,hx,hd,rfl⟩:=hRR _ hR
 rw [if_pos (by simp [Region.wanted])]
 have e1:a.eval (.tmp t)=f X.hdr:=hx
 have h1:(execOp a.eval { dst:=some d,op:=.buildSlice T 1 #[(0,.tmp t)],type:=ty,pos:=pos,after:=af,guard:=none }).run Γ.P w=.ok (.value (.slice (some ⟨w.heap.size,0,none⟩) 1 1)) (w.alloc (.cells (f X.hdr).cells.toList.toArray e (0,0))):=by
  simp only [execOp]
  have:(#[(0,Operand.tmp t)]:Array (Nat×Operand)).map (fun (i,x)=>(i,a.eval x))=#[(0,f X.hdr)]:=by simp [e1]
  rw [this]
  simp [run_bs1 ht hz hsz hns (hv X)]
 rw [h1]
 exact ⟨[blk w.heap.size (f X.hdr).cells.toList e,treeH X],⟨X,_,rfl,hd,rfl⟩,Holds.new (show Holds Γ.w0 Γ.S0 (treeH X::F) w by simpa using hw) rfl⟩
end
end Go.Proofs.SL
namespace Go.Proofs.SL
open Go
variable {M M1:List HP} {w0 w:World} {S0:List Nat}
end Go.Proofs.SL
namespace Go.Proofs.SL
open Go
end Go.Proofs.SL
namespace Go.Proofs.SL
open Go
variable {Γ:Cx} {l:Envl} {M M' M1 M2 F:List HP} {Q:Post} {K:Kont} {w0 w:World} {S0:List Nat} {P:Program}
variable {rest:List Oper} {d:Nat} {ty:TypeId} {pos:String} {af:Array Edge}
section
variable {τ δ:Type} [GT τ δ]
theorem L_slcE {x:Operand} {lo hi:Option Operand} {T e sz by_:Nat} {z:List Value} {X:TL τ} {a b:Int} {r:List δ} (hn:Nat.blt d Γ.n=true) (hx:ev l x=some X.hdr) (hlo:optI l lo 0=some a) (hhi:optI l hi ((GT.dat X).length:Int)=some b)
  (ht:elOf Γ.P T=some (e,sz,by_,z)) (hsz:GT.sz τ=sz) (hR:RdT Γ M X) (hr:slcP (GT.dat X) a b=some r)
  (hk:∀ X':TL τ,GT.dat X'=r→X'=slc X a.toNat b.toNat→L Γ rest ((d,X'.hdr)::l) M K) :
  L Γ ({ dst:=some d,op:=.slice T x lo hi none,type:=ty,pos:=pos,after:=af,guard:=none }::rest) l M K:=by
 unfold slcP at hr
 split at hr
 ·rename_i hb
  cases hr
  rw [dat_els,List.length_map] at hb hhi
  obtain ⟨h0,h1,h2⟩:=hb
  have h1':a.toNat≤b.toNat:=by omega
  have h2':b.toNat≤X.els.length:=by omega
  refine L_pure hn (v:=(slc X a.toNat b.toNat).hdr) (fun a' w ha hw=>?_) (hk (slc X a.toNat b.toNat) (by rw [dat_els,dat_els];simp [slc,List.map_take,List.map_drop]) rfl)
  have hcap:X.els.length≤X.cap:=(hR w hw.sees).1
  unfold elOf at ht
  split at ht<;>(try cases ht)
  rename_i e' het
  split at ht<;>(try cases ht)
  rename_i i' hi'
  split at ht<;>cases ht
  have hlen:((X.els.drop a.toNat).take (b.toNat - a.toNat)).length=b.toNat - a.toNat:=by simp;omega
  have hv:(slc X a.toNat b.toNat).hdr=.slice (if X.cap=a.toNat then X.a else X.a.map (·.add (a.toNat*i'.size))) (b.toNat - a.toNat) (X.cap - a.toNat):=by
   show Value.slice _ ((X.els.drop a.toNat).take (b.toNat - a.toNat)).length _=_
   rw [hlen];simp only [slc,hsz]
  rw [hv]
  have e1:a'.eval x=.slice X.a X.els.length X.cap:=ha.eval hx
  cases lo with
  | none =>
   cases hlo
   cases hi with
   | none =>
    cases hhi
    simp only [execOp,Option.map_none,e1,Instr.sliceAt,Instr.slice,underlying,Sem.run_bind,run_program,Result.andThen_ok,het,Instr.sliceBounds,Sem.run_pure,sizeOf,typeInfo,hi']
    simp
   | some o =>
    obtain ⟨k,h5⟩:=optI_some hhi
    have e2:=ha.eval h5
    have e4:=fun w=>run_sliceBound (P:=Γ.P) (k:=k) (code:=.sliceAcap) (show 0≤b by omega) (show b≤((X.cap:Nat):Int) by omega) w
    simp [execOp,e1,e2,Instr.sliceAt,Instr.slice,underlying,het,Instr.sliceBounds,sizeOf,typeInfo,hi',e4]
  | some o1 =>
   obtain ⟨k1,h6⟩:=optI_some hlo
   have e3:=ha.eval h6
   cases hi with
   | none =>
    cases hhi
    have e4:=fun w=>run_sliceBound (P:=Γ.P) (k:=k1) (code:=.sliceB) h0 (show a≤((X.els.length:Nat):Int) by omega) w
    simp [execOp,e1,e3,Instr.sliceAt,Instr.slice,underlying,het,Instr.sliceBounds,sizeOf,typeInfo,hi',e4]
   | some o =>
    obtain ⟨k,h5⟩:=optI_some hhi
    have e2:=ha.eval h5
    have e4:=fun w=>run_sliceBound (P:=Γ.P) (k:=k) (code:=.sliceAcap) (show 0≤b by omega) (show b≤((X.cap:Nat):Int) by omega) w
    have e5:=fun w=>run_sliceBound (P:=Γ.P) (k:=k1) (code:=.sliceB) h0 (show a≤((b.toNat:Nat):Int) by omega) w
    simp [execOp,e1,e2,e3,Instr.sliceAt,Instr.slice,underlying,het,Instr.sliceBounds,sizeOf,typeInfo,hi',e4,e5]
 ·cases hr
theorem slcE_rd {X Y:TL τ} {a b:Int} {r:List δ} (he:Y=slc X a.toNat b.toNat) (hs:slcP (GT.dat X) a b=some r):∀ w S,GT.rd w S X→GT.rd w S Y:=by
 intro w S h
 obtain ⟨s0,s1,s2,-⟩:=slcP_some hs
 rw [dat_els,List.length_map] at s2
 subst he
 exact slc_rd h (by omega) (by omega)
def trunc (X:TL τ) (b:Nat):TL τ:=⟨X.a,X.cap,X.e,X.els.take b,rowCells (X.els.drop b)++X.tail⟩
theorem trunc_own {X:TL τ} {b:Nat} (hb:b≤X.els.length) (p:Pick (treeH X) M M1) (h:Holds w0 S0 M w):Holds w0 S0 (treeH (trunc X b)::M1) w:=by
 have h1:=tree_row (h.perm p.perm)
 have h2:Holds w0 S0 (elsT (X.els.take b)::rowH X::M1) w:=els_sub (zs:=X.els.drop b) (List.Perm.of_eq (List.take_append_drop b X.els).symm) (by apply Pick.there;exact Pick.here _) h1
 have h3:=h2.perm (List.Perm.swap _ _ _)
 refine row_tree ?_
 show Holds w0 S0 (rowH (trunc X b)::elsT (X.els.take b)::M1) w
 refine h3.reFp (List.Perm.of_eq rfl) fun x hx=>?_
 rcases List.mem_cons.1 hx with rfl | hx
 ·obtain ⟨r1,r2,r3,r4⟩:=h3.prs (rowH X) (List.mem_cons_self ..)
  have hl:(X.els.take b).length=b:=by rw [List.length_take,Nat.min_eq_left hb]
  refine ⟨by show (X.els.take b).length≤X.cap;omega,r2,fun ha=>⟨by show X.els.take b=[];rw [(r3 ha).1];simp,(r3 ha).2⟩,fun a ha=>?_⟩
  obtain ⟨g1,g2,g3,g4⟩:=r4 a ha
  refine ⟨g1,g2,?_,?_⟩
  ·show w.heap[a.block]?=some (.cells (rowCells (X.els.take b)++(rowCells (X.els.drop b)++X.tail)).toArray X.e (0,0))
   rw [← List.append_assoc,← rowCells_append,List.take_append_drop];exact g3
  ·show (X.els.take b).length*GT.sz τ+(rowCells (X.els.drop b)++X.tail).length=X.cap*GT.sz τ
   rw [List.length_append,length_rowCells,List.length_drop,hl,← g4,← Nat.add_assoc,← Nat.add_mul]
   congr 2;omega
 ·exact h3.prs _ (List.mem_cons_of_mem _ hx)
theorem trunc_hdr {X Y:TL τ} {a b:Nat} (he:Y=slc X a b) (ha:a=0) (hb:b≤X.els.length):(trunc X b).hdr=Y.hdr:=by
 subst ha;subst he
 show Value.slice X.a (X.els.take b).length X.cap=Value.slice (if X.cap=0 then X.a else X.a.map (·.add (0*GT.sz τ))) ((X.els.drop 0).take (b - 0)).length (X.cap - 0)
 have h2:X.a.map (fun q:Addr=>q.add (0*GT.sz τ))=X.a:=by
  cases X.a with
  | none=>rfl
  | some q=>simp [Addr.add]
 rw [h2];simp
theorem W_trunc {c:Code} {X Y:TL τ} {a b:Int} {r':List δ} {u:Unit} (he:Y=slc X a.toNat b.toNat) (hsl:slcP (GT.dat X) a b=some r') (h0:chkP (decide (a=0))=some u) (p:Pick (treeH X) M M1)
  (hk:∀ Z:TL τ,GT.dat Z=GT.dat Y→Z.hdr=Y.hdr→W Γ c l (treeH Z::M1) Q):W Γ c l M Q:=by
 obtain ⟨s0,s1,s2,-⟩:=slcP_some hsl
 rw [dat_els,List.length_map] at s2
 have h0:a=0:=of_decide_eq_true (chkP_some h0)
 refine W_conv (fun w h=>trunc_own (b:=b.toNat) (by omega) p h) (hk _ ?_ (trunc_hdr he (by omega) (by omega)))
 rw [he,h0,dat_els,dat_els]
 simp [trunc,slc]
def clrD {δ:Type} (l:List δ) (a b:Int) (z:δ):List δ:=l.take a.toNat++(List.replicate (b.toNat - a.toNat) z++l.drop b.toNat)
theorem rowCells_rep (n:Nat) (z0:τ):rowCells (List.replicate n z0)=(List.replicate n (GT.cells z0)).flatten:=by
 induction n with
 | zero=>rfl
 | succ n ih=>rw [List.replicate_succ,rowCells_cons,ih,List.replicate_succ,List.flatten_cons]
theorem L_clrV [FlatT τ] {x:Operand} {T e sz by_:Nat} {z:List Value} {X Y:TL τ} {a b:Int} {r' r:List δ} {u:Unit} (z0:τ) (hx:ev l x=some Y.hdr) (ht:elOf Γ.P T=some (e,sz,by_,z)) (hz:z.length=sz) (hsz:GT.sz τ=sz) (hz0:GT.cells z0=z)
  (p:Pick (treeH X) M M1) (he:Y=slc X a.toNat b.toNat) (hsl:slcP (GT.dat X) a b=some r') (hc:chkP (decide (a < b))=some u) (hr:some (clrD (GT.dat X) a b (GT.dat z0))=some r)
  (hk:∀ X':TL τ,GT.dat X'=r→X'.hdr=X.hdr→L Γ rest l (treeH X'::M1) K) :
  L Γ ({ dst:=none,op:=.call { callee:=.builtin .clear,args:=#[x],argTypes:=#[T] },type:=ty,pos,after:=af,guard:=none }::rest) l M K:=by
 have hab:a < b:=of_decide_eq_true (chkP_some hc)
 obtain ⟨s0,s1,s2,-⟩:=slcP_some hsl
 rw [dat_els,List.length_map] at s2
 have hne:X.els≠[]:=fun h=>by rw [h] at s2;simp at s2;omega
 subst hsz
 refine L_fact (φ:=X.a=some ⟨X.g,0,none⟩∧X.els.length≤X.cap∧X.cap≤maxLen∧X.els.length*GT.sz τ+X.tail.length=X.cap*GT.sz τ)
  (fun w h=>by obtain ⟨f1,f2,f3,f4,_⟩:=raw_facts ((h.perm p.perm).prs (treeH X) (List.mem_cons_self ..)) hne;exact ⟨f1,f2,f3,f4⟩) (fun ⟨f1,f2,f3,f4⟩=>?_)
 refine L_conv (fun w h=>raw_open hne p h) ?_
 have hyh:Y.hdr=.slice (some ⟨X.g,a.toNat*GT.sz τ,none⟩) (b.toNat - a.toNat) (X.cap - a.toNat):=by
  subst he
  show Value.slice (if X.cap=a.toNat then X.a else X.a.map (·.add (a.toNat*GT.sz τ))) ((X.els.drop a.toNat).take (b.toNat - a.toNat)).length (X.cap - a.toNat)=_
  rw [if_neg (by omega),f1,List.length_take,List.length_drop,Nat.min_eq_left (by omega)]
  simp [addr_add]
 rw [hyh] at hx
 have hcl:(rowCells X.els++X.tail).length=X.cap*GT.sz τ:=by rw [List.length_append,length_rowCells];exact f4
 have hseg:a.toNat*GT.sz τ+(b.toNat - a.toNat)*GT.sz τ=b.toNat*GT.sz τ:=by rw [← Nat.add_mul];congr 1;omega
 refine L_clrRaw hx ht hz (fun u hu=>by rw [← hz0] at hu;exact GT.one z0 u hu) (.here _) (by rw [hcl,hseg];exact Nat.mul_le_mul_right _ (by omega)) (by omega) ?_
 generalize hels:X.els.take a.toNat++(List.replicate (b.toNat - a.toNat) z0++X.els.drop b.toNat)=els'
 have hlen:els'.length=X.els.length:=by
  rw [← hels];simp only [List.length_append,List.length_take,List.length_replicate,List.length_drop];omega
 have hcs:(rowCells X.els++X.tail).take (a.toNat*GT.sz τ)++(List.replicate (b.toNat - a.toNat) z).flatten++(rowCells X.els++X.tail).drop (a.toNat*GT.sz τ+(b.toNat - a.toNat)*GT.sz τ)=rowCells els'++X.tail:=by
  rw [hseg,row_take _ _ _ (by omega),row_drop _ _ _ (by omega),← hels,rowCells_append,rowCells_append,rowCells_rep,hz0]
  simp only [List.append_assoc]
 rw [hcs]
 refine L_conv (M':=treeH (⟨some ⟨X.g,0,none⟩,X.cap,X.e,els',X.tail⟩:TL τ)::M1) (fun w h=>?_) (hk _ ?_ ?_)
 ·have h2:Holds Γ.w0 Γ.S0 (blk X.g (rowCells els'++X.tail) X.e::M1) w:=h.sub ⟨[elsT X.els],(List.perm_append_comm (l₁:=[elsT X.els]) (l₂:=M1)).cons _⟩
  have h3:=elsT_flat (xs:=els') h2 (fun x _=>FlatT.flat x)
  exact raw_close rfl (by omega) f3 (by rw [hlen];exact f4) (by apply Pick.there;exact Pick.here _) (.here _) h3
 ·have:=Option.some.inj hr
  rw [← this,dat_els,dat_els,← hels]
  simp [clrD,List.map_take,List.map_drop]
 ·show Value.slice (some ⟨X.g,0,none⟩) els'.length X.cap=Value.slice X.a X.els.length X.cap
  rw [hlen,f1]
end
end Go.Proofs.SL
namespace Go.Proofs.SL
open Go
variable {Γ:Cx} {ops:Array Oper} {Msh pool pool':List HP} {E:Fl} {rs:List (Option Nat×Rel)} {rest:List Oper} {KD:RKont} {cs0:List Nat}
variable {d:Nat} {ty:TypeId} {pos:String} {af:Array Edge}
variable {gd:Option (Nat×Bool)}
end Go.Proofs.SL
namespace Go.Proofs.SL
open Go
section
variable {τ δ κ:Type} [GT τ δ]
theorem rowCells_key {key:τ→κ} {enc:κ→Value} (hc:∀ x,GT.cells x=[enc (key x)]) (xs:List τ):rowCells xs=xs.map fun x=>enc (key x):=by
 induction xs with
 | nil=>rfl
 | cons x xs ih=>rw [rowCells_cons,hc,ih];rfl
variable [Inhabited κ]
theorem put_cells (enc:κ→Value) (ds:List κ) (a b:List Value) (h:a.length=ds.length):Sort.putCells enc 0 ds.toArray (a++b).toArray=(ds.map enc++b).toArray:=by
 apply Array.ext_getElem?
 intro j
 simp only [Sort.putCells,Array.getElem?_mapIdx,List.getElem?_toArray,List.size_toArray,Nat.zero_add,Nat.zero_le,true_and,Nat.sub_zero]
 rcases Nat.lt_or_ge j ds.length with hj | hj
 ·rw [List.getElem?_append_left (by omega),List.getElem?_append_left (by simpa using hj),List.getElem?_eq_getElem (show j < a.length by omega)]
  simp [hj,List.getElem?_map]
 ·rw [List.getElem?_append_right (by omega),List.getElem?_append_right (by simpa using hj),List.length_map,h]
  cases b[j - ds.length]? with
  | none=>rfl
  | some v=>simp [Nat.not_lt.2 hj]
theorem put_holds {w w':World} {key:τ→κ} {enc:κ→Value} (hc:∀ x:τ,GT.cells x=[enc (key x)]) (hfp:∀ x:τ,GT.fp x=[]) (how:∀ (w:World) (x:τ),GT.ow w x) {b cap n:Nat} {e:TypeId} {els ys:List τ} {tail tail':List Value} {D:List κ} {os:Array Obj}
  (hh:Holds w (fps [treeH (⟨some ⟨b,0,none⟩,cap,e,els,tail⟩:TL τ)]) [treeH (⟨some ⟨b,0,none⟩,cap,e,els,tail⟩:TL τ)] w) (hD:D.length=els.length) (hrow:D.map enc++tail=rowCells ys++tail') (hy:ys.length≤cap) (hl:ys.length*GT.sz τ+tail'.length=cap*GT.sz τ)
  (hw:w'=Sort.grow (Sort.putRow enc (Sort.ahead w n) b 0 D.toArray) os) :
  Holds w (fps [treeH (⟨some ⟨b,0,none⟩,cap,e,els,tail⟩:TL τ)]) [treeH (⟨some ⟨b,0,none⟩,cap,e,ys,tail'⟩:TL τ)] w':=by
 have ht:GT.ow w (⟨some ⟨b,0,none⟩,cap,e,els,tail⟩:TL τ):=hh.prs _ (List.mem_cons_self ..)
 obtain ⟨h1,h2,h3,h4,h5⟩:=ht
 dsimp only at h1 h2 h3 h4
 obtain ⟨_,_,hb,_⟩:=h5 _ rfl
 dsimp only at hb
 have hbl:b < w.heap.size:=(Array.getElem?_eq_some_iff.1 hb).1
 have hw':w'.heap[b]?=some (.cells (rowCells ys++tail').toArray e (0,0)):=by
  subst hw
  rw [Sort.heap_grow_old _ _ (by simpa [Sort.putRow,Sort.mapBlock,Sort.ahead] using hbl),← hrow]
  have hp:=put_cells enc D (rowCells els) tail (by rw [rowCells_key hc];simp [hD])
  simp only [Sort.putRow,Sort.mapBlock,Sort.ahead,Array.getElem?_modify,hb,Sort.onCells,if_true,Option.map_some]
  rw [hp]
 have hfps:∀ xs:List τ,xs.flatMap GT.fp=[]:=fun xs=>List.flatMap_eq_nil_iff.2 fun x _=>hfp x
 have efp:fps [treeH (⟨some ⟨b,0,none⟩,cap,e,ys,tail'⟩:TL τ)]=fps [treeH (⟨some ⟨b,0,none⟩,cap,e,els,tail⟩:TL τ)]:=by
  simp only [fps_cons]
  show ([b]++ys.flatMap GT.fp)++fps []=([b]++els.flatMap GT.fp)++fps []
  rw [hfps,hfps]
 refine ⟨by subst hw;rfl,⟨by subst hw;rfl,by subst hw;exact Nat.le_add_right _ _⟩,by subst hw;rfl,by subst hw;simp [Sort.putRow,Sort.mapBlock,Sort.ahead],fun k hk hn=>?_,fun x hx=>?_,by rw [efp];exact hh.nodup,fun k hk=>?_⟩
 ·have hkb:b≠k:=by
   intro e2;subst e2
   exact hn (by simp only [fps_cons];show b∈([b]++els.flatMap GT.fp)++fps [];simp)
  subst hw
  rw [Sort.heap_grow_old _ _ (by simpa [Sort.putRow,Sort.mapBlock,Sort.ahead] using hk)]
  simp [Sort.putRow,Sort.mapBlock,Sort.ahead,Array.getElem?_modify,hkb]
 ·obtain rfl:=List.mem_singleton.1 hx
  exact ⟨hy,h2,fun x _=>how _ x,fun h=>(by cases h),fun a ha=>by cases ha;exact ⟨rfl,rfl,hw',hl⟩⟩
 ·rw [efp] at hk
  refine ⟨(hh.rng k hk).1,Nat.lt_of_lt_of_le (hh.rng k hk).2 ?_⟩
  subst hw;simp [Sort.putRow,Sort.mapBlock,Sort.ahead]
theorem own_cases {w:World} {a0:TL τ} (hh:Holds w (fps [treeH a0]) [treeH a0] w):(∃ e tail,a0=⟨none,0,e,[],tail⟩)∨∃ b cap e els tail,a0=⟨some ⟨b,0,none⟩,cap,e,els,tail⟩∧els.length≤cap∧els.length*GT.sz τ+tail.length=cap*GT.sz τ∧w.heap[b]?=some (.cells (rowCells els++tail).toArray e (0,0))∧b < w.heap.size:=by
 have ht:GT.ow w a0:=hh.prs _ (List.mem_cons_self ..)
 obtain ⟨h1,h2,h3,h4,h5⟩:=ht
 obtain ⟨a,cap,e,els,tail⟩:=a0
 dsimp only at h1 h2 h3 h4 h5
 cases a with
 | none =>
  obtain ⟨rfl,rfl⟩:=h4 rfl
  exact .inl ⟨e,tail,rfl⟩
 | some ad =>
  obtain ⟨hs,ho,hb,hl⟩:=h5 ad rfl
  obtain ⟨b,o,sp⟩:=ad
  dsimp only at hs ho hb
  subst hs;subst ho
  exact .inr ⟨b,cap,e,els,tail,rfl,h1,hl,hb,(Array.getElem?_eq_some_iff.1 hb).1⟩
theorem sort_holds {w:World} {key:τ→κ} {enc:κ→Value} (hc:∀ x:τ,GT.cells x=[enc (key x)]) {b:Nat} {e:TypeId} {els:List τ} {tail:List Value} (hb:w.heap[b]?=some (.cells (rowCells els++tail).toArray e (0,0))):Sort.Holds enc w b 0 (els.map key).toArray:=by
 intro j hj
 have hj':j < els.length:=by simpa using hj
 refine ⟨?_,by simp [World.frozen?,hb]⟩
 simp only [World.cell?,hb,Nat.zero_add]
 simp only [Option.isSome_none,Bool.false_eq_true,if_false]
 rw [List.getElem?_toArray,List.getElem?_append_left (by rw [rowCells_key hc];simpa using hj'),rowCells_key hc]
 simp [hj']
theorem Spec.sort {P:Program} {f:FuncId} {w:World} {a0:TL τ} {key:τ→κ} {enc:κ→Value} (hc:∀ x:τ,GT.cells x=[enc (key x)]) (hfp:∀ x:τ,GT.fp x=[]) (how:∀ (w:World) (x:τ),GT.ow w x) (ys:List τ) (hlen:ys.length=a0.els.length)
  (h:∀ (b cap:Nat) (w:World),Sort.Holds enc w b 0 (a0.els.map key).toArray→b < w.heap.size→(a0.els.map key).length < 4611686018427387904→Calls P f #[.slice (some ⟨b,0,none⟩) (a0.els.map key).length cap] w fun e w'=>e=.returned (.tuple #[])∧∃ n os,w'=Sort.grow (Sort.putRow enc (Sort.ahead w n) b 0 (ys.map key).toArray) os)
  (h0:∀ (p:Option Addr) (cap:Nat) (w:World),Calls P f #[.slice p 0 cap] w fun e w'=>e=.returned (.tuple #[])∧w'=w) (hsz:a0.els.length≤4294967296) :
  Spec P f #[a0.hdr] w [treeH a0] (fun v M=>∃ y0:TL τ,v=.tuple #[]∧GT.dat y0=ys.map GT.dat∧M=[treeH y0]∧y0.hdr=a0.hdr):=by
 intro hh
 rcases own_cases hh with ⟨e,tail,rfl⟩ | ⟨b,cap,e,els,tail,rfl,h1,hl,hb,hbl⟩
 ·have hy:ys=[]:=List.length_eq_zero_iff.1 hlen
  subst hy
  refine (h0 none 0 w).mono fun e' w' ⟨he,hw⟩=>?_
  subst hw
  exact ⟨_,_,he,⟨⟨none,0,e,[],tail⟩,rfl,rfl,rfl,rfl⟩,hh⟩
 ·dsimp only at hlen h hsz
  have hlm:(els.map key).length=els.length:=List.length_map ..
  have:=h b cap w (sort_holds hc hb) hbl (by omega)
  rw [hlm] at this
  refine this.mono fun e' w' ⟨he,n,os,hw⟩=>⟨_,_,he,⟨⟨some ⟨b,0,none⟩,cap,e,ys,tail⟩,rfl,rfl,rfl,?_⟩,put_holds hc hfp how hh (by rw [List.length_map,hlen]) (by rw [rowCells_key hc,List.map_map];rfl) (by rw [hlen];exact h1) (by rw [hlen];exact hl) hw⟩
  show Value.slice _ ys.length _=Value.slice _ els.length _
  rw [hlen]
end
def sortIP (l:List Int):Option (List Int):=if l.length≤4294967296 then some (l.mergeSort fun x y=>decide (x≤y)) else none
theorem map_id' {α:Type} (l:List α):l.map (fun x=>x)=l:=by simp
theorem Spec.sortI {P:Program} {f:FuncId} (w:World) (a0:TL Int) (r:List Int) (hp:sortIP (GT.dat a0)=some r)
  (h:∀ (b off cap:Nat) (zs:List Int) (w:World),Sort.Holds (Value.int .i64) w b off zs.toArray→b < w.heap.size→zs.length < 4611686018427387904→Calls P f #[.slice (some ⟨b,off,none⟩) zs.length cap] w fun e w'=>e=.returned (.tuple #[])∧∃ n os,w'=Sort.grow (Sort.putRow (Value.int .i64) (Sort.ahead w n) b off (zs.mergeSort fun x y=>decide (x≤y)).toArray) os)
  (h0:∀ (p:Option Addr) (cap:Nat) (w:World),Calls P f #[.slice p 0 cap] w fun e w'=>e=.returned (.tuple #[])∧w'=w) :
  Spec P f #[a0.hdr] w [treeH a0] (fun v M=>∃ y0:TL Int,v=.tuple #[]∧GT.dat y0=r∧M=[treeH y0]∧y0.hdr=a0.hdr):=by
 unfold sortIP at hp
 have hd:GT.dat a0=a0.els:=by show a0.els.map (fun x=>x)=_;simp
 rw [hd] at hp
 split at hp
 ·rename_i hl
  obtain rfl:=Option.some.inj hp
  have:=Spec.sort (P:=P) (f:=f) (w:=w) (a0:=a0) (key:=fun x:Int=>x) (enc:=Value.int .i64) (fun _=>rfl) (fun _=>rfl) (fun _ _=>trivial) (a0.els.mergeSort fun x y=>decide (x≤y)) (by simp) (by
   intro b cap w h1 h2 h3
   rw [map_id'] at h1 h3 ⊢
   rw [map_id']
   exact h b 0 cap a0.els w h1 h2 h3) h0 hl
  refine this.mono fun v M ⟨y0,h1,h2,h3⟩=>⟨y0,h1,?_,h3⟩
  rw [h2]
  exact map_id' _
 ·cases hp
end Go.Proofs.SL
namespace Go.Proofs.SL
open Go
def eqShape (P:Program) (T:TypeId):Option (List (TypeId×Nat)):=match P.underlying T with
 | some (.struct fs)=>if P.stoodInHeld T||P.eqGuardType P.depth T then none else some ((fs.toList.filter fun f=>decide (f.name≠"_")).map fun f=>(f.type,f.offset))
 | _=>none
inductive EqS (P:Program) (d:Nat) (xs ys:Array Value):List (TypeId×Nat)→Bool→Prop
 | nil:EqS P d xs ys [] true
 | cons {t:TypeId} {o:Nat} {a b:Value} {r r':Bool} {fs:List (TypeId×Nat)} (ht:oneOf P t=true) (ha:xs[o]?=some a) (hb:ys[o]?=some b) (he:∀ w,(Op.equalIn d t a b).run P w=.ok r w) (hs:EqS P d xs ys fs r'):EqS P d xs ys ((t,o)::fs) (r&&r')
theorem run_part_one {P:Program} {T:TypeId} (h:oneOf P T=true) {xs:Array Value} {o:Nat} {v:Value} (hx:xs[o]?=some v) (w:World):(part T xs o).run P w=.ok v w:=by
 simp [part,run_isAgg_one h,hx]
theorem run_eqS {P:Program} {d:Nat} {xs ys:Array Value}:∀ {fs:List Field} {r:Bool},EqS P d xs ys ((fs.filter fun f=>decide (f.name≠"_")).map fun f=>(f.type,f.offset)) r→∀ w,(Op.eqFields d xs ys fs).run P w=.ok r w
 | [],r,h,w=>by cases h;simp [Op.eqFields]
 | f::fs,r,h,w=>by
  unfold Op.eqFields
  by_cases hn:f.name≠"_"
  ·rw [List.filter_cons,if_pos (by simp [hn])] at h
   rw [if_pos hn]
   cases h with
   | cons ht ha hb he hs =>
    rename_i a b r r'
    simp only [Sem.run_bind,run_part_one ht ha,run_part_one ht hb,Result.andThen_ok,he]
    cases r
    ·simp
    ·simp only [Bool.not_true,Bool.false_eq_true,if_false,Bool.true_and]
     exact run_eqS hs w
  ·rw [List.filter_cons,if_neg (by simpa using hn)] at h
   rw [if_neg hn]
   exact run_eqS h w
theorem eqShape_some {P:Program} {T:TypeId} {sh:List (TypeId×Nat)} (h:eqShape P T=some sh):P.underlying T=some (.struct (P.fieldsOf T))∧P.stoodInHeld T=false∧P.eqGuardType P.depth T=false∧sh=((P.fieldsOf T).toList.filter fun f=>decide (f.name≠"_")).map fun f=>(f.type,f.offset):=by
 unfold eqShape at h
 split at h
 ·rename_i fs hu
  have hf:P.fieldsOf T=fs:=by unfold Program.fieldsOf;rw [hu]
  split at h
  ·cases h
  ·rename_i hn
   simp only [Bool.or_eq_true,not_or,Bool.not_eq_true] at hn
   exact ⟨by rw [hf];exact hu,hn.1,hn.2,by rw [hf];exact (Option.some.inj h).symm⟩
 ·cases h
theorem bv_aeql {P:Program} {T:TypeId} {x y:Operand} {xs ys:Array Value} {sh:List (TypeId×Nat)} {r:Bool} (h:eqShape P T=some sh) (he:EqS P 9999 xs ys sh r):BinV P .eql T x y (.agg xs) (.agg ys) (.bool r):=fun w=>by
 obtain ⟨h1,h2,h3,rfl⟩:=eqShape_some h
 simp only [Sem.run_bind,run_eqGuard_agg w _ _ _ _ _ _ h3,Result.andThen_ok,run_eql_struct]
 rw [show (10000:Nat)=9999+1 from rfl,run_equalIn_struct w 9999 T xs ys h1 h2,run_eqS he w];rfl
theorem bv_aneq {P:Program} {T:TypeId} {x y:Operand} {xs ys:Array Value} {sh:List (TypeId×Nat)} {r:Bool} (h:eqShape P T=some sh) (he:EqS P 9999 xs ys sh r):BinV P .neq T x y (.agg xs) (.agg ys) (.bool (!r)):=fun w=>by
 obtain ⟨h1,h2,h3,rfl⟩:=eqShape_some h
 simp only [Sem.run_bind,run_eqGuard_agg w _ _ _ _ _ _ h3,Result.andThen_ok,run_neq_struct]
 rw [show (10000:Nat)=9999+1 from rfl,run_equalIn_struct w 9999 T xs ys h1 h2,run_eqS he w];rfl
theorem EqS.consI {P:Program} {d:Nat} {xs ys:Array Value} {t:TypeId} {o:Nat} {k:IntKind} {a b:Int} {r':Bool} {fs:List (TypeId×Nat)} {k':IntKind} (ht:oneOf P t=true) (hu:P.underlying t=some (.int k')) (ha:xs[o]?=some (.int k a)) (hb:ys[o]?=some (.int k b)) (hs:EqS P (d+1) xs ys fs r'):EqS P (d+1) xs ys ((t,o)::fs) (decide (a=b)&&r') :=
 EqS.cons ht ha hb (fun w=>run_equalIn_int w d t k k' a b hu) hs
end Go.Proofs.SL
namespace Go.Proofs.SL
open Go
section
variable {Γ:Cx} {l:Envl} {M:List HP} {K:Kont} {w0 w:World} {S0:List Nat}
variable {rest:List Oper} {d:Nat} {ty:TypeId} {pos:String} {af:Array Edge}
theorem L_storeA {x y:Operand} {T b fo:Nat} {T':TypeId} {cs cs' r:List Value} {M':List HP} (hx:ev l x=some (.pointer (some ⟨b,fo,none⟩))) (hy:ev l y=some (.agg cs'.toArray)) (hp:Pick (blk b cs T') M M')
  (ht:aggOf Γ.P T=some cs'.length) (hl:fo+cs'.length≤cs.length) (h1:∀ v,v∈cs'→v.oneCell'=true) (hr:cs.take fo++cs'++cs.drop (fo+cs'.length)=r) (hk:L Γ rest l (blk b r T'::M') K) :
  L Γ ({ dst:=none,op:=.store T x y,type:=ty,pos,after:=af,guard:=none }::rest) l M K :=
 L_skip rfl rfl (fun a w ha hw=>by
  subst hr
  have hw':=hw.perm hp.perm
  have hh:w.heap[b]?=some (.cells cs.toArray T' (0,0)):=hw'.prs (blk b cs T') (by simp)
  have hs:=run_store_blk (P:=Γ.P) (fo:=fo) (vs:=cs') (ty:=T) hh hl h1
  refine ⟨_,?_,setRow_blk (cs':=cs.take fo++cs'++cs.drop (fo+cs'.length)) hw'⟩
  simp [execOp,ha.eval hx,ha.eval hy,Instr.storeAt,Instr.sureAddr,storeVar,run_isAgg_agg ht,Value.cells,hs]) hk
end
section
variable {Γ:Cx} {rest:List Oper} {d:Nat} {ty:TypeId} {pos:String} {af:Array Edge}
variable {ops:Array Oper} {Msh pool:List HP} {E:Fl} {rs:List (Option Nat×Rel)} {cs0:List Nat} {KD:List (Option Nat×Rel)→List Nat→List HP→Prop}
def PtrNew (z:List Value) (T:TypeId):Rel:=fun v M=>∃ b,v=.pointer (some ⟨b,0,none⟩)∧M=[blk b z T]
theorem D_alloc {T:TypeId} {z:List Value} (hz:zeroOf Γ.P T=some z)
  (hk:DV Γ ops Msh pool ((d,PtrNew z T)::E) ((some d,PtrNew z T)::rs) cs0 rest KD) :
  DV Γ ops Msh pool E rs cs0 ({ dst:=some d,op:=.alloc T,type:=ty,pos:=pos,after:=af,guard:=none }::rest) KD:=by
 refine DV.mk (PtrNew z T) [] pool [] (by simp) rfl ?_ (by rw [dropE_nil];exact hk)
 intro a w F Mk _ _ hw hm hfa hcf
 have hMk:Mk=[]:=hcf
 subst hMk
 rw [dropE_nil] at hfa
 simp only [List.nil_append] at hw ⊢
 rw [if_pos (by simp [Region.wanted])]
 have h1:(execOp a.eval { dst:=some d,op:=.alloc T,type:=ty,pos:=pos,after:=af,guard:=none }).run Γ.P w=.ok (.value (.pointer (some ⟨w.heap.size,0,none⟩))) (w.alloc (.cells z.toArray T (0,0))):=by
  unfold zeroOf at hz
  split at hz<;>(try cases hz)
  rename_i i hi
  split at hz<;>cases hz
  rename_i z' hz'
  simp [execOp,Instr.alloc,zeroValue,typeInfo,hi,hz',newVar,newRow]
 rw [h1]
 exact ⟨[blk w.heap.size z T],⟨_,rfl,rfl⟩,Holds.new (show Holds Γ.w0 Γ.S0 F w by simpa using hw) rfl⟩
end
end Go.Proofs.SL
namespace Go.Proofs.SL
open Go
instance:Mk Bool:=⟨fun _=>1,fun k _=>decide (((k:Int)).tmod 3=0)⟩
instance:Bm Bool:=⟨1,fun x=>by show 1≤1*(1+0);omega⟩
end Go.Proofs.SL
namespace Go.Proofs.SL
open Go
variable {Γ:Cx} {l:Envl} {M M1:List HP} {K:Kont} {w0 w:World} {S0:List Nat}
variable {rest:List Oper} {d:Nat} {ty:TypeId} {pos:String} {af:Array Edge}
section
variable {τ δ:Type} [GT τ δ]
theorem blk_own [FlatT τ] {b cap:Nat} {e:TypeId} {ts:List τ} {tail:List Value} (h1:ts.length≤cap) (h2:cap≤maxLen) (h3:ts.length*GT.sz τ+tail.length=cap*GT.sz τ)
  (h:Holds w0 S0 (blk b (rowCells ts++tail) e::M) w):Holds w0 S0 (treeH (⟨some ⟨b,0,none⟩,cap,e,ts,tail⟩:TL τ)::M) w:=by
 have hb:w.heap[b]?=some (.cells (rowCells ts++tail).toArray e (0,0)):=h.prs _ (List.mem_cons_self ..)
 have ef:fps (treeH (⟨some ⟨b,0,none⟩,cap,e,ts,tail⟩:TL τ)::M)=fps (blk b (rowCells ts++tail) e::M):=by
  simp only [fps_cons]
  show ([b]++ts.flatMap GT.fp)++fps M=[b]++fps M
  rw [fps_flat ts fun x _=>FlatT.flat x,List.append_nil]
 refine ⟨h.os,h.tape,h.output,h.size,h.old,fun x hx=>?_,by rw [ef];exact h.nodup,fun k hk=>h.rng k (by rw [← ef];exact hk)⟩
 rcases List.mem_cons.1 hx with rfl | hx
 ·exact ⟨h1,h2,fun x _=>(FlatT.flat x).ow w,fun hn=>(by cases hn),fun a ha=>by cases ha;exact ⟨rfl,rfl,hb,h3⟩⟩
 ·exact h.prs x (List.mem_cons_of_mem _ hx)
theorem L_bsN [FlatT τ] (ts:List τ) {T e sz by_ n:Nat} {z:List Value} {xs:List (Nat×Operand)} {ps:List (Nat×Value)} {r:List δ} (hn:Nat.blt d Γ.n=true) (hx:evp l xs=some ps) (ht:elOf Γ.P T=some (e,sz,by_,z)) (hz:z.length=sz)
  (hsz:GT.sz τ=sz) (h0:Nat.blt 0 sz=true) (hns:Nat.ble (n*sz) 65536=true) (hn0:Nat.blt 0 n=true) (hlen:ts.length=n) (hf:fillL (fun i=>some (i*sz,sz)) ((List.range (n*sz)).map fun i=>z.getD (i % sz) undef) ps=some (rowCells ts))
  (hr:some (ts.map GT.dat)=some r) (hk:∀ X:TL τ,GT.dat X=r→L Γ rest ((d,X.hdr)::l) (treeH X::M) K) :
  L Γ ({ dst:=some d,op:=.buildSlice T n xs.toArray,type:=ty,pos,after:=af,guard:=none }::rest) l M K:=by
 have h0':0 < sz:=Nat.le_of_ble_eq_true h0
 have hns':n*sz≤65536:=Nat.le_of_ble_eq_true hns
 refine L_buildSlice hn hx ht hz h0' hns' (Nat.le_of_ble_eq_true hn0) hf fun b=>?_
 have hnl:n≤65536:=Nat.le_trans (Nat.le_mul_of_pos_right n h0') hns'
 refine L_conv (M':=treeH (⟨some ⟨b,0,none⟩,n,e,ts,[]⟩:TL τ)::M) (fun w h=>blk_own (by omega) (by simp only [maxLen];omega) (by rw [hlen];simp) (by rw [List.append_nil];exact h)) ?_
 have:=hk ⟨some ⟨b,0,none⟩,n,e,ts,[]⟩ (Option.some.inj hr)
 have eh:(⟨some ⟨b,0,none⟩,n,e,ts,[]⟩:TL τ).hdr=.slice (some ⟨b,0,none⟩) n n:=by show Value.slice _ ts.length _=_;rw [hlen]
 rw [eh] at this
 exact this
end
end Go.Proofs.SL
namespace Go.Proofs.SL
open Go
section
variable {Γ:Cx} {rest:List Oper} {d:Nat} {ty:TypeId} {pos:String} {af:Array Edge} {gd:Option (Nat×Bool)}
variable {ops:Array Oper} {Msh pool:List HP} {E:Fl} {rs:List (Option Nat×Rel)} {cs0:List Nat} {KD:List (Option Nat×Rel)→List Nat→List HP→Prop}
end
end Go.Proofs.SL
namespace Go.Proofs.SL
open Go
structure AR where
 l:List Int
instance:GT AR (List Int) where
 sz:=1
 pos:=by decide
 cells _:=[.int .i64 0]
 len _:=rfl
 one _ v hv:=by simp at hv;subst hv;rfl
 rd _ _ _:=True
 fp _:=[]
 ow _ _:=True
 dat t:=t.l
 rd_mono h _:=h
 ow_st _ h:=h
 ow_rd _ _:=trivial
theorem dat_ar (x:AR):GT.dat x=x.l:=rfl
def aC (k:IntKind) (l:List Int):List Value:=l.map (Value.int k)
variable {Γ:Cx} {l:Envl} {M:List HP} {K:Kont} {w0 w:World} {S0:List Nat} {rest:List Oper} {d:Nat} {ty:TypeId} {pos:String} {af:Array Edge}
section
variable {k:IntKind} {A A':List Int}
end
structure GA (g:Nat) (k:IntKind) (A:List Int) where mk ::
instance (g:Nat) (k:IntKind) (A:List Int):GT (GA g k A) Unit where
 sz:=1
 pos:=by decide
 cells _:=[.int .i64 0]
 len _:=rfl
 one _ v hv:=by simp at hv;subst hv;rfl
 rd w S _:=∀ j v,(aC k A)[j]?=some v→Old w S ⟨g,j,none⟩ v
 fp _:=[]
 ow _ _:=False
 dat _:=()
 rd_mono h hm:=fun j v hv=>hm _ _ (h j v hv)
 ow_st _ h:=h
 ow_rd h _:=h.elim
variable {ops:Array Oper} {Msh pool:List HP} {E:Fl} {rs:List (Option Nat×Rel)} {cs0:List Nat} {KD:List (Option Nat×Rel)→List Nat→List HP→Prop} {gd:Option (Nat×Bool)}
section
variable {k:IntKind} {A A':List Int} {c:Prop}
end
end Go.Proofs.SL
namespace Go.Proofs.SL
open Go
variable {Γ:Cx} {rest:List Oper} {d:Nat} {ty:TypeId} {pos:String} {af:Array Edge}
variable {ops:Array Oper} {Msh pool:List HP} {E:Fl} {rs:List (Option Nat×Rel)} {cs0:List Nat} {KD:List (Option Nat×Rel)→List Nat→List HP→Prop}
end Go.Proofs.SL
namespace Go.Proofs.SL
open Go
variable {Γ:Cx} {rest:List Oper} {d:Nat} {ty:TypeId} {pos:String} {af:Array Edge}
variable {ops:Array Oper} {Msh pool pool':List HP} {E:Fl} {rs:List (Option Nat×Rel)} {cs0:List Nat} {KD:List (Option Nat×Rel)→List Nat→List HP→Prop}
variable {τ δ:Type} [GT τ δ]
end Go.Proofs.SL
namespace Go.Proofs.SL
open Go
variable {Γ:Cx} {rest:List Oper} {d:Nat} {ty:TypeId} {pos:String} {af:Array Edge} {l:Envl} {M:List HP} {K:Kont}
end Go.Proofs.SL
namespace Go.Proofs.SL
open Go
variable {Γ:Cx} {rest:List Oper} {d:Nat} {ty:TypeId} {pos:String} {af:Array Edge} {gd:Option (Nat×Bool)}
variable {ops:Array Oper} {Msh pool:List HP} {E:Fl} {rs:List (Option Nat×Rel)} {cs0:List Nat} {KD:RKont}
def GR (c:Prop) (R:Rel):Rel:=fun v M=>(c→R v M)∧(¬ c→v=undef∧M=[])
theorem D_callGV {f:Nat} {xs:List Operand} {ats:Array TypeId} {vs:List Value} {c:Prop} (R:Rel)
  (hg:GC ops E { dst:=some d,op:=.call { callee:=.value (.func f),args:=xs.toArray,argTypes:=ats },type:=ty,pos:=pos,after:=af,guard:=gd } c)
  (hf:IsFn Γ.P f) (hx:OpVs E c xs vs) (hc:c→∀ w F,Holds Γ.w0 Γ.S0 F w→(∀ h,h∈Msh→h∈F)→Spec Γ.P f vs.toArray w [] R)
  (hk:DV Γ ops Msh pool ((d,GR c R)::E) ((some d,GR c R)::rs) cs0 rest KD) :
  DV Γ ops Msh pool E rs cs0 ({ dst:=some d,op:=.call { callee:=.value (.func f),args:=xs.toArray,argTypes:=ats },type:=ty,pos:=pos,after:=af,guard:=gd }::rest) KD:=by
 refine DV.mk (GR c R) [] pool [] (by simp) rfl ?_ (by rw [dropE_nil];exact hk)
 intro a w F Mk _ _ hw hm hfa hcf
 have hMk:Mk=[]:=hcf
 subst hMk
 rw [dropE_nil] at hfa
 simp only [List.nil_append] at hw ⊢
 have hgc:=hg a F hfa
 split
 ·rename_i hwt
  have hcc:=hgc.1 hwt
  have hw':Holds Γ.w0 Γ.S0 F w:=by simpa using hw
  have h2:(#[]++xs.toArray.map a.eval++#[]:Array Value)=vs.toArray:=by
   simp [OpVs.evals (o:={ dst:=some d,op:=.call { callee:=.value (.func f),args:=xs.toArray,argTypes:=ats },type:=ty,pos:=pos,after:=af,guard:=gd }) hcc hfa xs vs hx (fun x hx=>by simp [Op.operands,Call.operands,hx])]
  rw [execOp_call_go,h2,hf.run]
  exact (hc hcc w F hw' hm (Holds.split (M1:=[]) (M2:=F) hw)).mono fun e w'' ⟨v,M',h1,h3,h4⟩=>⟨v,M',h1,⟨fun _=>h3,fun hn=>(hn hcc).elim⟩,Holds.frame (M1:=[]) (M2:=F) hw h4⟩
 ·rename_i hwt
  exact ⟨fun hc=>(hwt (hgc.2 hc)).elim,fun _=>⟨rfl,rfl⟩⟩
end Go.Proofs.SL
namespace Go.Proofs.SL
open Go
section
variable {Γ:Cx} {rest:List Oper} {d:Nat} {ty:TypeId} {pos:String} {af:Array Edge}
variable {ops:Array Oper} {Msh pool:List HP} {E:Fl} {rs:List (Option Nat×Rel)} {cs0:List Nat} {KD:RKont}
def AggV {τ δ:Type} [GT τ δ] (r:δ):Rel:=fun v M=>∃ x:τ,v=.agg (GT.cells x).toArray∧GT.dat x=r∧M=[treeH x]
def BoxV {τ δ:Type} [GT τ δ] (T:TypeId) (r:δ):Rel:=fun v M=>∃ (b:Nat) (x:τ),v=.pointer (some ⟨b,0,none⟩)∧GT.dat x=r∧M=[blk b (GT.cells x) T,treeH x]
theorem D_moveC {t:Nat} {R:Rel} (hR:E.lookup t=some R)
  (hlin:linB ops { dst:=some d,op:=.move (.tmp t),type:=ty,pos:=pos,after:=af,guard:=none } [t]=true)
  (hk:DV Γ ops Msh pool ((d,R)::dropE [t] E) ((some d,R)::rs) ([t]++cs0) rest KD) :
  DV Γ ops Msh pool E rs cs0 ({ dst:=some d,op:=.move (.tmp t),type:=ty,pos:=pos,after:=af,guard:=none }::rest) KD:=by
 refine DV.mk R [] pool [t] (by simp) hlin ?_ hk
 intro a w F Mk _ _ hw hm hfa hcf
 obtain ⟨Mx,Mk',rfl,hRR,hnil⟩:=hcf
 have hnil:Mk'=[]:=hnil
 subst hnil
 have h1:=hRR _ hR
 rw [if_pos (by simp [Region.wanted])]
 have h2:(execOp a.eval { dst:=some d,op:=.move (.tmp t),type:=ty,pos:=pos,after:=af,guard:=none }).run Γ.P w=.ok (.value (a.tmps.getD t undef)) w:=by
  simp [execOp,Act.eval]
 rw [h2]
 exact ⟨Mx,h1,by simpa using hw⟩
theorem D_extractC {t i:Nat} {R:Rel} (R':Rel) (hR:E.lookup t=some R) (hh:∀ v M,R v M→∃ vs u,v=.tuple vs∧vs[i]?=some u∧R' u M)
  (hlin:linB ops { dst:=some d,op:=.extract (.tmp t) i,type:=ty,pos:=pos,after:=af,guard:=none } [t]=true)
  (hk:DV Γ ops Msh pool ((d,R')::dropE [t] E) ((some d,R')::rs) ([t]++cs0) rest KD) :
  DV Γ ops Msh pool E rs cs0 ({ dst:=some d,op:=.extract (.tmp t) i,type:=ty,pos:=pos,after:=af,guard:=none }::rest) KD:=by
 refine DV.mk R' [] pool [t] (by simp) hlin ?_ hk
 intro a w F Mk _ _ hw hm hfa hcf
 obtain ⟨Mx,Mk',rfl,hRR,hnil⟩:=hcf
 have hnil:Mk'=[]:=hnil
 subst hnil
 obtain ⟨vs,u,hv,hu,h1⟩:=hh _ _ (hRR _ hR)
 rw [if_pos (by simp [Region.wanted])]
 have e1:a.eval (.tmp t)=.tuple vs:=hv
 have h2:(execOp a.eval { dst:=some d,op:=.extract (.tmp t) i,type:=ty,pos:=pos,after:=af,guard:=none }).run Γ.P w=.ok (.value u) w:=by
  simp [execOp,e1,Instr.extract,hu]
 rw [h2]
 exact ⟨Mx,h1,by simpa using hw⟩
theorem D_extractW {t i:Nat} {R:Rel} (u:Value) (hR:E.lookup t=some R) (hh:∀ v M,R v M→∃ vs,v=.tuple vs∧vs[i]?=some u)
  (hk:DV Γ ops Msh pool ((d,FC True u)::E) ((some d,FC True u)::rs) cs0 rest KD) :
  DV Γ ops Msh pool E rs cs0 ({ dst:=some d,op:=.extract (.tmp t) i,type:=ty,pos:=pos,after:=af,guard:=none }::rest) KD :=
 DV_pure True u GC.none (fun a w F _ hf _=>by
  obtain ⟨M,h1,_⟩:=hf t R (List.mem_append_left _ (by simp [Op.operands])) hR
  obtain ⟨vs,hv,hu⟩:=hh _ _ h1
  have e1:a.eval (.tmp t)=.tuple vs:=hv
  simp [execOp,e1,Instr.extract,hu]) hk
theorem D_storeK {τ δ:Type} [GT τ δ] {p x:Nat} {T:TypeId} {T':TypeId} {z:List Value} {r:δ} (hp:E.lookup p=some (PtrNew z T')) (hx:E.lookup x=some (AggV (τ:=τ) r))
  (ht:aggOf Γ.P T=some (GT.sz τ)) (hl:z.length=GT.sz τ)
  (hlin:linB ops { dst:=none,op:=.store T (.tmp p) (.tmp x),type:=ty,pos:=pos,after:=af,guard:=none } [p,x]=true)
  (hk:DV Γ ops Msh pool (dropE [p,x] E) ((some p,BoxV (τ:=τ) T' r)::rs) ([x]++cs0) rest KD) :
  DV Γ ops Msh pool E rs cs0 ({ dst:=none,op:=.store T (.tmp p) (.tmp x),type:=ty,pos:=pos,after:=af,guard:=none }::rest) KD:=by
 refine DV.mkK (BoxV (τ:=τ) T' r) [] pool p [x] rfl (by simp) hlin ?_ hk
 intro a w F Mk _ _ hw hm hfa hcf
 obtain ⟨M1,Mk',rfl,hR1,M2,Mk'',rfl,hR2,hnil⟩:=hcf
 have hnil:Mk''=[]:=hnil
 subst hnil
 obtain ⟨b,hb,rfl⟩:=hR1 _ hp
 obtain ⟨y,hv,hd,rfl⟩:=hR2 _ hx
 rw [if_pos (by simp [Region.wanted])]
 have e1:a.eval (.tmp p)=.pointer (some ⟨b,0,none⟩):=hb
 have e2:a.eval (.tmp x)=.agg (GT.cells y).toArray:=hv
 have hw':Holds Γ.w0 Γ.S0 (blk b z T'::(treeH y::F)) w:=by simpa using hw
 have hh:w.heap[b]?=some (.cells z.toArray T' (0,0)):=hw'.prs (blk b z T') (by simp)
 have hly:(GT.cells y).length=GT.sz τ:=GT.len y
 have hs:=run_store_blk (P:=Γ.P) (fo:=0) (vs:=GT.cells y) (ty:=T) hh (by omega) (fun v hv=>GT.one y v hv)
 have e:(z.take 0++GT.cells y++z.drop (0+(GT.cells y).length))=GT.cells y:=by simp [hl,hly]
 rw [e] at hs
 have hrun:(execOp a.eval { dst:=none,op:=.store T (.tmp p) (.tmp x),type:=ty,pos:=pos,after:=af,guard:=none }).run Γ.P w=.ok .skip (w.setRow b (GT.cells y).toArray):=by
  simp [execOp,e1,e2,Instr.storeAt,Instr.sureAddr,storeVar,run_isAgg_agg ht,Value.cells,hs,hly]
 rw [hrun]
 exact ⟨[blk b (GT.cells y) T',treeH y],⟨b,y,hb,hd,rfl⟩,by simpa using setRow_blk (cs':=GT.cells y) hw'⟩
end
theorem gb_anyD {α β:Type} [Inhabited α] {g:Bool} {o:Option α} {k:α→Option β} {r:β} (h:gb g o k=some r):∃ y,(g=true→o=some y)∧(g=false→y=default)∧k y=some r:=by
 cases g with
 | true=>obtain ⟨y,h1,h2⟩:=Option.bind_eq_some_iff.1 h;exact ⟨y,fun _=>h1,(fun hh=>(by cases hh)),h2⟩
 | false=>exact ⟨default,(fun hh=>(by cases hh)),fun _=>rfl,h⟩
section
variable {Γ:Cx} {rest:List Oper} {d:Nat} {ty:TypeId} {pos:String} {af:Array Edge} {gd:Option (Nat×Bool)}
variable {ops:Array Oper} {Msh pool:List HP} {E:Fl} {rs:List (Option Nat×Rel)} {cs0:List Nat} {KD:RKont}
theorem D_max {x y:Operand} {ats:Array TypeId} {k:IntKind} {a b:Int} {c:Prop} (hg:GC ops E { dst:=some d,op:=.call { callee:=.builtin .max,args:=#[x,y],argTypes:=ats },type:=ty,pos:=pos,after:=af,guard:=gd } c)
  (hx:OpV E x c (.int k a)) (hy:OpV E y c (.int k b))
  (hk:DV Γ ops Msh pool ((d,FC c (.int k (if a < b then b else a)))::E) ((some d,FC c (.int k (if a < b then b else a)))::rs) cs0 rest KD) :
  DV Γ ops Msh pool E rs cs0 ({ dst:=some d,op:=.call { callee:=.builtin .max,args:=#[x,y],argTypes:=ats },type:=ty,pos:=pos,after:=af,guard:=gd }::rest) KD :=
 DV_pure c _ hg (fun a' w F hc hf _=>by
  have e1:=hx.eval hf (by simp [Op.operands,Call.operands]) hc
  have e2:=hy.eval hf (by simp [Op.operands,Call.operands]) hc
  simp [execOp,resolve,invoke,builtin,e1,e2,run_max_int2]) hk
theorem D_slcG {τ δ:Type} [Inhabited τ] [GT τ δ] {x:Operand} {lo hi:Option Operand} {T e sz by_:Nat} {z:List Value} {X:TL τ} {a b:Int} {r:List δ} {cc:Prop} (hg:GC ops E { dst:=some d,op:=.slice T x lo hi none,type:=ty,pos:=pos,after:=af,guard:=gd } cc)
  (hx:OpV E x cc X.hdr) (hlo:optD E lo cc 0 a) (hhi:optD E hi cc ((GT.dat X).length:Int) b)
  (ht:elOf Γ.P T=some (e,sz,by_,z)) (hsz:GT.sz τ=sz) (hR:RdT Γ Msh X) (hr:cc→slcP (GT.dat X) a b=some r) (hn:¬ cc→r=[])
  (hk:∀ X':TL τ,GT.dat X'=r→(∀ w S,GT.rd w S X→GT.rd w S X')→DV Γ ops Msh pool ((d,FC cc X'.hdr)::E) ((some d,FC cc X'.hdr)::rs) cs0 rest KD) :
  DV Γ ops Msh pool E rs cs0 ({ dst:=some d,op:=.slice T x lo hi none,type:=ty,pos:=pos,after:=af,guard:=gd }::rest) KD:=by
 by_cases hcc:cc
 ·have hr:=hr hcc
  unfold slcP at hr
  split at hr
  ·rename_i hb
   cases hr
   rw [dat_els,List.length_map] at hb
   rw [dat_els,List.length_map] at hhi
   obtain ⟨h0,h1,h2⟩:=hb
   have h1':a.toNat≤b.toNat:=by omega
   have h2':b.toNat≤X.els.length:=by omega
   refine DV_pure cc (slc X a.toNat b.toNat).hdr hg (fun a' w F hc hf hs=>?_) (hk (slc X a.toNat b.toNat) (by rw [dat_els,dat_els];simp [slc,List.map_take,List.map_drop]) (fun w S h=>slc_rd h h1' h2'))
   have hcap:X.els.length≤X.cap:=(hR w hs).1
   unfold elOf at ht
   split at ht<;>(try cases ht)
   rename_i e' het
   split at ht<;>(try cases ht)
   rename_i i' hi'
   split at ht<;>cases ht
   have hlen:((X.els.drop a.toNat).take (b.toNat - a.toNat)).length=b.toNat - a.toNat:=by simp;omega
   have hv:(slc X a.toNat b.toNat).hdr=.slice (if X.cap=a.toNat then X.a else X.a.map (·.add (a.toNat*i'.size))) (b.toNat - a.toNat) (X.cap - a.toNat):=by
    show Value.slice _ ((X.els.drop a.toNat).take (b.toNat - a.toNat)).length _=_
    rw [hlen];simp only [slc,hsz]
   rw [hv]
   have e1:a'.eval x=.slice X.a X.els.length X.cap:=hx.eval hf (by simp [Op.operands]) hc
   cases lo with
   | none =>
    cases hlo
    cases hi with
    | none =>
     cases hhi
     simp only [execOp,Option.map_none,e1,Instr.sliceAt,Instr.slice,underlying,Sem.run_bind,run_program,Result.andThen_ok,het,Instr.sliceBounds,Sem.run_pure,sizeOf,typeInfo,hi']
     simp
    | some o =>
     obtain ⟨k,h5⟩:=hhi
     have e2:=h5.eval hf (by simp [Op.operands]) hc
     have e4:=fun w=>run_sliceBound (P:=Γ.P) (k:=k) (code:=.sliceAcap) (show 0≤b by omega) (show b≤((X.cap:Nat):Int) by omega) w
     simp [execOp,e1,e2,Instr.sliceAt,Instr.slice,underlying,het,Instr.sliceBounds,sizeOf,typeInfo,hi',e4]
   | some o1 =>
    obtain ⟨k1,h6⟩:=hlo
    have e3:=h6.eval hf (by simp [Op.operands]) hc
    cases hi with
    | none =>
     cases hhi
     have e5:=fun w=>run_sliceBound (P:=Γ.P) (k:=k1) (code:=.sliceB) (show 0≤a by omega) (show a≤((X.els.length:Nat):Int) by omega) w
     simp [execOp,e1,e3,Instr.sliceAt,Instr.slice,underlying,het,Instr.sliceBounds,sizeOf,typeInfo,hi',e5]
    | some o =>
     obtain ⟨k,h5⟩:=hhi
     have e2:=h5.eval hf (by simp [Op.operands]) hc
     have e4:=fun w=>run_sliceBound (P:=Γ.P) (k:=k) (code:=.sliceAcap) (show 0≤b by omega) (show b≤((X.cap:Nat):Int) by omega) w
     have e5:=fun w=>run_sliceBound (P:=Γ.P) (k:=k1) (code:=.sliceB) (show 0≤a by omega) (show a≤((b.toNat:Nat):Int) by omega) w
     simp [execOp,e1,e2,e3,Instr.sliceAt,Instr.slice,underlying,het,Instr.sliceBounds,sizeOf,typeInfo,hi',e4,e5]
  ·cases hr
 ·refine DV_pure cc (slc X 0 0).hdr hg (fun a' w F hc hf hs=>(hcc hc).elim) (hk (slc X 0 0) ?_ (fun w S h=>slc_rd h (Nat.le_refl _) (Nat.zero_le _)))
  rw [hn hcc,dat_els];simp [slc]
end
end Go.Proofs.SL
namespace Go.Proofs.SL
open Go
section
variable {Γ:Cx} {l:Envl} {M M1 M2 F:List HP} {Q:Post} {K:Kont} {w0 w:World} {S0:List Nat}
variable {rest:List Oper} {d:Nat} {ty:TypeId} {pos:String} {af:Array Edge}
variable {τ δ:Type} [GT τ δ]
end
section
variable {Γ:Cx} {rest:List Oper} {d:Nat} {ty:TypeId} {pos:String} {af:Array Edge}
variable {ops:Array Oper} {Msh pool pool':List HP} {E:Fl} {rs:List (Option Nat×Rel)} {cs0:List Nat} {KD:RKont}
variable {τ τ' δ δ':Type} [GT τ δ] [GT τ' δ']
end
section
variable {Γ:Cx} {rest:List Oper} {d:Nat} {ty:TypeId} {pos:String} {af:Array Edge}
variable {ops:Array Oper} {Msh pool pool':List HP} {E:Fl} {rs:List (Option Nat×Rel)} {cs0:List Nat} {KD:RKont}
variable {τ δ:Type} [GT τ δ]
end
section
variable {Γ:Cx} {rest:List Oper} {d:Nat} {ty:TypeId} {pos:String} {af:Array Edge} {gd:Option (Nat×Bool)}
variable {ops:Array Oper} {Msh pool pool':List HP} {E:Fl} {rs:List (Option Nat×Rel)} {cs0:List Nat} {KD:RKont}
def gm {α:Type} (g:Bool) (d:α) (o:Option α):Option α:=cond g o (some d)
@[simp] theorem gm_true {α:Type} {d:α} {o:Option α}:gm true d o=o:=rfl
@[simp] theorem gm_false {α:Type} {d:α} {o:Option α}:gm false d o=some d:=rfl
end
section
variable {Γ:Cx} {rest:List Oper} {d:Nat} {ty:TypeId} {pos:String} {af:Array Edge}
variable {ops:Array Oper} {Msh pool pool':List HP} {E:Fl} {rs:List (Option Nat×Rel)} {cs0:List Nat} {KD:RKont}
variable {τ δ:Type} [GT τ δ]
end
section
variable {Γ:Cx} {rest:List Oper} {d:Nat} {ty:TypeId} {pos:String} {af:Array Edge} {gd:Option (Nat×Bool)}
variable {ops:Array Oper} {Msh pool pool':List HP} {E:Fl} {rs:List (Option Nat×Rel)} {cs0:List Nat} {KD:RKont}
variable {τ δ:Type} [GT τ δ]
end
end Go.Proofs.SL
namespace Go.Proofs.SL
open Go
class FldF (P:Program) (T f:Nat) (o:outParam Nat):Prop where h:fldOf P T f=some o
class OneF (P:Program) (T:Nat):Prop where h:oneOf P T=true
class AggF (P:Program) (T:Nat) (n:outParam Nat):Prop where h:aggOf P T=some n
class ElF (P:Program) (T:Nat) (e sz by_:outParam Nat) (z:outParam (List Value)):Prop where h:elOf P T=some (e,sz,by_,z)
class ZerF (P:Program) (T:Nat) (z:outParam (List Value)):Prop where h:zeroOf P T=some z
class StrF (P:Program) (T:Nat):Prop where h:isStr P T=true
class FnF (P:Program) (f:Nat):Prop where h:IsFn P f
class BldF (P:Program) (T:Nat) (pl:outParam (List (Nat×Nat))) (z:outParam (List Value)):Prop where h:bldOf P T=some (pl,z)
class UndF (P:Program) (T:Nat) (d:outParam TypeDesc):Prop where h:P.underlying T=some d
theorem sj {α:Type} {a b:α} (h:some a=some b):a=b:=Option.some.inj h
theorem ba {α β:Type} {o:Option α} {k:α→Option β} {r:β} (h:Option.bind o k=some r):∃ y,o=some y∧k y=some r:=bind_any h
theorem pk {h:HP} {M M':List HP} (p:Pick h M M':=by first | (with_reducible repeat (first | exact Pick.here _ | apply Pick.there));done | (repeat (first | exact Pick.here _ | apply Pick.there))):Pick h M M':=p
theorem mm {h:HP} {M:List HP} (p:h∈M:=by first | (with_reducible repeat (first | exact List.Mem.head _ | apply List.Mem.tail));done | (repeat (first | exact List.Mem.head _ | apply List.Mem.tail))):h∈M:=p
theorem sb {l' l:Envl} (h:Sub l' l:=by repeat (first | exact Sub.nil _ | (apply Sub.cons;(· exact rfl)))):Sub l' l:=h
theorem ms {M' M:List HP} (h:MSub M' M:=by repeat (first | exact MSub.nil _ | (apply MSub.cons;(· exact pk)))):MSub M' M:=h
theorem pc {M Ms R:List HP} (h:List.Perm M (Ms++R):=by repeat (first | exact perm_nil_left _ | (apply perm_cons;(· exact pk)))):List.Perm M (Ms++R):=h
theorem bv {P:Program} {op:BinOp} {T:TypeId} {x y:Operand} {u v r:Value} (h:BinV P op T x y u v r:=by
 first
  | (with_reducible first | exact bv_add | exact bv_eql | exact bv_lss | exact bv_sub | exact bv_neq | exact bv_geq | exact bv_gtr | exact bv_leq | exact bv_seql | exact bv_sneq | exact bv_slss | exact bv_sgeq | exact bv_sgtr | exact bv_sleq | exact bv_mul | exact bv_and | exact bv_or | exact bv_xor)
  | ((with_reducible refine bv_beql ?_);exact UndF.h) | ((with_reducible refine bv_bneq ?_);exact UndF.h) | ((with_reducible refine bv_quo ?_);decide) | ((with_reducible refine bv_rem ?_);decide)
  | ((with_reducible refine bv_shl ?_ ?_)<;>decide) | ((with_reducible refine bv_shr ?_ ?_)<;>decide)):BinV P op T x y u v r:=h
theorem ocs {cs:List Value} (h:∀ v,v∈cs→v.oneCell'=true:=by first | exact allOne rfl | exact fun v hv=>GT.one _ v hv | (simp [Value.oneCell',TL.hdr,Value.cells];done)):∀ v,v∈cs→v.oneCell'=true:=h
section
variable {Γ:Cx} {l:Envl} {M M':List HP} {Q:Post} {K:Kont} {rest:List Oper} {d:Nat} {ty:TypeId} {pos:String} {af:Array Edge}
inductive Kp:List Nat→Envl→Envl→Prop
 | nil (l:Envl):Kp [] l []
 | cons {t:Nat} {v:Value} {ts:List Nat} {l l':Envl} (h:l.lookup t=some v) (hk:Kp ts l l'):Kp (t::ts) l ((t,v)::l')
theorem Kp.sub {ts:List Nat} {l l':Envl} (h:Kp ts l l'):Sub l' l:=by
 induction h with
 | nil l=>exact Sub.nil _
 | cons h _ ih=>exact Sub.cons h ih
theorem kp (ts:List Nat) {c:Code} {l':Envl} (k:W Γ c l' M Q) (h:Kp ts l l':=by repeat (first | exact Kp.nil _ | (apply Kp.cons;(· exact rfl)))):W Γ c l M Q:=W_weaken h.sub (MSub.refl _) k
theorem kq (ts:List Nat) {c:Code} {l':Envl} (k:W Γ c l' M' Q) (h:Kp ts l l':=by repeat (first | exact Kp.nil _ | (apply Kp.cons;(· exact rfl)))) (hm:M=M':=by (try simp only [List.cons_append,List.nil_append]);exact rfl):W Γ c l M Q:=W_weaken h.sub (hm ▸ MSub.refl _) k
theorem al {T:TypeId} {z:List Value} [hz:ZerF Γ.P T z] (hk:∀ b,L Γ rest ((d,.pointer (some ⟨b,0,none⟩))::l) (blk b z T::M) K) (hn:Nat.blt d Γ.n=true:=by exact rfl) :
  L Γ ({ dst:=some d,op:=.alloc T,type:=ty,pos,after:=af,guard:=none }::rest) l M K:=L_alloc hn hz.h hk
theorem bx {x:Operand} {T:TypeId} {v:Value} (hk:∀ b,L Γ rest ((d,.pointer (some ⟨b,0,none⟩))::l) (blk b v.cells.toList T::M) K) (hn:Nat.blt d Γ.n=true:=by exact rfl) (hx:ev l x=some v:=by exact rfl) :
  L Γ ({ dst:=some d,op:=.box T x,type:=ty,pos,after:=af,guard:=none }::rest) l M K:=L_box hn hx hk
end
section
variable {w0 w:World} {S0:List Nat} {M M' M1 M2:List HP}
def Own {τ δ:Type} [GT τ δ] (M:List HP) (t:τ) (M':List HP):Prop:=∀ (w0:World) (S0:List Nat) (w:World) (F:List HP),Holds w0 S0 (M++F) w→Holds w0 S0 (treeH t::(M'++F)) w
theorem own_pick {τ δ:Type} [GT τ δ] {t:τ} (p:Pick (treeH t) M M'):Own M t M':=fun _ _ _ F h=>h.perm (p.perm.append_right F)
theorem own_flat {τ δ:Type} [GT τ δ] {t:τ} (p:Flat t):Own M t M:=fun _ _ _ _ h=>h.addFlat p
theorem own_int {n:Int}:Own M n M:=own_flat (flat_int trivial)
theorem own_bool {n:Bool}:Own M n M:=own_flat (flat_bool _)
theorem own_str {n:ByteArray}:Own M n M:=own_flat (flat_str trivial)
theorem own_nil {τ δ:Type} [GT τ δ] {e:TypeId}:Own M (TL.nil τ e) M:=own_flat (flat_nil e)
theorem own_pair {α β δ ε:Type} [GT α δ] [GT β ε] {a:α} {b:β} (ha:Own M a M1) (hb:Own M1 b M2):Own M (a,b) M2:=fun w0 S0 w F h=>by
 have h1:=ha w0 S0 w F h
 have h2:Holds w0 S0 (M1++(treeH a::F)) w:=h1.perm List.perm_middle.symm
 have h3:=hb w0 S0 w _ h2
 have h4:Holds w0 S0 (treeH a::treeH b::(M2++F)) w:=h3.perm ((List.perm_middle.cons _).trans (List.Perm.swap _ _ _))
 exact pair_tree h4
theorem ow {τ δ:Type} [GT τ δ] {t:τ} (o:Own M t M':=by repeat (first | (with_reducible exact own_int) | (with_reducible exact own_bool) | (with_reducible exact own_str) | (with_reducible exact own_nil) | (with_reducible apply own_pair) | ((with_reducible apply own_pick);exact pk))):Own M t M':=o
theorem Own.h {τ δ:Type} [GT τ δ] {t:τ} (o:Own M t M') (h:Holds w0 S0 M w):Holds w0 S0 (treeH t::M') w:=by
 have:=o w0 S0 w [] (by simpa using h)
 simpa using this
def Exp {τ δ:Type} [GT τ δ] (t:τ) (M M':List HP):Prop:=∀ (w0:World) (S0:List Nat) (w:World) (F:List HP),Holds w0 S0 (treeH t::(M++F)) w→Holds w0 S0 (M'++F) w
theorem exp_flat {τ δ:Type} [GT τ δ] {t:τ}:Exp t M M:=fun _ _ _ F h=>h.sub ⟨[treeH t],List.perm_append_comm (l₁:=[treeH t]) (l₂:=M++F)⟩
theorem exp_int {n:Int}:Exp n M M:=exp_flat
theorem exp_bool {n:Bool}:Exp n M M:=exp_flat
theorem exp_str {n:ByteArray}:Exp n M M:=exp_flat
theorem exp_leaf {τ δ:Type} [GT τ δ] {t:TL τ}:Exp t M (treeH t::M):=fun _ _ _ _ h=>h
theorem exp_pair {α β δ ε:Type} [GT α δ] [GT β ε] {a:α} {b:β} (hb:Exp b M M1) (ha:Exp a M1 M2):Exp (a,b) M M2:=fun w0 S0 w F h=>by
 have h1:=tree_pair h
 have h2:Holds w0 S0 (treeH b::(M++(treeH a::F))) w:=h1.perm ((List.Perm.swap _ _ _).trans (List.perm_middle.symm.cons _))
 have h3:=hb w0 S0 w _ h2
 exact ha w0 S0 w F (h3.perm List.perm_middle)
theorem ex {τ δ:Type} [GT τ δ] {t:τ} (o:Exp t M M':=by repeat (first | (with_reducible exact exp_int) | (with_reducible exact exp_bool) | (with_reducible exact exp_str) | (with_reducible apply exp_pair) | (with_reducible exact exp_leaf))):Exp t M M':=o
theorem Exp.h {τ δ:Type} [GT τ δ] {t:τ} (o:Exp t M1 M') (p:Pick (treeH t) M M1) (h:Holds w0 S0 M w):Holds w0 S0 M' w:=by
 have:=o w0 S0 w [] (by simpa using h.perm p.perm)
 simpa using this
variable {Γ:Cx} {l:Envl} {Q:Post} {K:Kont} {c:Code} {r:List Oper}
theorem jW {τ δ:Type} [GT τ δ] (t:τ) (k:W Γ c l (treeH t::M') Q) (o:Own M t M':=by exact ow):W Γ c l M Q:=W_conv (fun _ h=>o.h h) k
theorem jL {τ δ:Type} [GT τ δ] (t:τ) (k:L Γ r l (treeH t::M') K) (o:Own M t M':=by exact ow):L Γ r l M K:=L_conv (fun _ h=>o.h h) k
theorem xW {τ δ:Type} [GT τ δ] (t:τ) (k:W Γ c l M' Q) (p:Pick (treeH t) M M1:=by exact pk) (o:Exp t M1 M':=by exact ex):W Γ c l M Q:=W_conv (fun _ h=>o.h p h) k
theorem xL {τ δ:Type} [GT τ δ] (t:τ) (k:L Γ r l M' K) (p:Pick (treeH t) M M1:=by exact pk) (o:Exp t M1 M':=by exact ex):L Γ r l M K:=L_conv (fun _ h=>o.h p h) k
end
theorem dd {a b:Prop} (h:a) (e:a→b:=by (intro h;(try dsimp only [dat_pair,dat_int,dat_bool,dat_str,dat_ar] at h);exact h)):b:=e h
theorem sc {p q:Prop} (k:q) (e:q→p:=by (intro k;(simp only [cells_pair,cells_int,cells_bool,cells_str,cells_TL,List.cons_append,List.nil_append]);exact k)):p:=e k
section
variable {ops:Array Oper} {E:Fl}
theorem gc {o:Oper} {c:Prop} (h:GC ops E o c:=by first | exact GC.none | exact GC.some rfl rfl):GC ops E o c:=h
theorem ov {x:Operand} {c:Prop} {v:Value} (h:OpV E x c v:=by first | exact OpV.c | exact OpV.t rfl | exact OpV.s rfl):OpV E x c v:=h
end
theorem L_extractL {Γ:Cx} {l:Envl} {M:List HP} {K:Kont} {rest:List Oper} {d:Nat} {ty:TypeId} {pos:String} {af:Array Edge} {x:Operand} {i:Nat} {vs:List Value} {v:Value} (hn:Nat.blt d Γ.n=true) (hx:ev l x=some (.tuple vs.toArray)) (hv:vs[i]?=some v) (hk:L Γ rest ((d,v)::l) M K) :
  L Γ ({ dst:=some d,op:=.extract x i,type:=ty,pos,after:=af,guard:=none }::rest) l M K:=L_extract hn hx (by simpa using hv) hk
theorem isLen {Γ:Cx} {l:Envl} {M:List HP} {K:Kont} {rest:List Oper} {d:Option Nat} {ty:TypeId} {pos:String} {af:Array Edge} {g:Option (Nat×Bool)} {x:Array Operand} {T:Array TypeId} (h:L Γ ({ dst:=d,op:=.call { callee:=.builtin .len,args:=x,argTypes:=T },type:=ty,pos:=pos,after:=af,guard:=g }::rest) l M K) :
  L Γ ({ dst:=d,op:=.call { callee:=.builtin .len,args:=x,argTypes:=T },type:=ty,pos:=pos,after:=af,guard:=g }::rest) l M K:=h
section
variable {Γ:Cx} {l:Envl} {M:List HP} {K:Kont} {Q:Post} {c:Code} {r:List Oper} {ops:Array Oper} {Msh pool:List HP} {E:Fl} {rs:List (Option Nat×Rel)} {cs0:List Nat} {KD:RKont}
theorem isL (h:L Γ r l M K):L Γ r l M K:=h
theorem isW (h:W Γ c l M Q):W Γ c l M Q:=h
theorem isD (h:DV Γ ops Msh pool E rs cs0 r KD):DV Γ ops Msh pool E rs cs0 r KD:=h
end
theorem s1 {p q:Prop} (k:q) (h:q→p:=by
 intro k
 (first
  | (with_reducible refine isL ?_);(first
   | (with_reducible apply L_move);(· exact rfl);(· exact rfl)
   | (with_reducible apply L_assign);(· exact rfl);(· exact rfl)
   | (with_reducible refine L_nil ?_)
   | (with_reducible apply L_binV);(· exact rfl);(· exact rfl);(· exact rfl);(· exact bv)
   | (with_reducible apply L_fieldAddr);(· exact rfl);(· exact rfl);(· exact FldF.h)
   | (with_reducible apply L_load);(· exact rfl);(· exact rfl);(· exact RdC.blk mm);(· exact OneF.h);(· exact rfl)
   | (with_reducible apply L_loadW);(· exact rfl);(· exact rfl);(· exact RdC.blk mm);(· exact AggF.h)
   | (with_reducible apply L_extractL);(· exact rfl);(· exact rfl);(· exact rfl)
   | (with_reducible apply L_store);(· exact rfl);(· exact rfl);(· exact pk);(· exact OneF.h);(· exact rfl);(· exact rfl)
   | (with_reducible apply L_storeW);(· exact rfl);(· exact rfl);(· exact pk);(· exact AggF.h);(· exact rfl);(· exact ocs)
   | (with_reducible refine isLen ?_);(first | refine L_lenT rfl rfl StrF.h ?_ | refine L_lenP rfl rfl ElF.h ?_)
   | (with_reducible apply L_not);(· exact rfl);(· exact rfl)
   | (with_reducible apply L_nilCheck);(· exact rfl);(· exact rfl))
  | (with_reducible refine isW ?_);(first
   | (with_reducible refine W_seq ?_)
   | (with_reducible refine W_region ?_)
   | (with_reducible refine W_skip ?_)
   | (with_reducible refine W_block ?_)
   | (with_reducible refine W_ret ?_))
  | (with_reducible refine isD ?_);(first
   | (with_reducible apply D_move);(· exact gc);(· exact ov)
   | (with_reducible apply D_fieldAddr);(· exact gc);(· exact ov);(· exact FldF.h)
   | (with_reducible apply D_load);(· exact gc);(· exact ov);(· exact fun _=>RdC.blk mm);(· exact OneF.h);(· exact rfl)
   | (with_reducible apply D_bin);(· exact gc);(· exact ov);(· exact ov);(· exact fun _=>bv)
   | (with_reducible apply D_and);(· exact gc);(· exact ov);(· exact ov);(· exact fun h hb=>⟨h,hb⟩)
   | (with_reducible apply D_or);(· exact gc);(· exact ov);(· exact ov);(· exact fun h hb=>⟨h,hb⟩)
   | (with_reducible apply D_loadW);(· exact gc);(· exact ov);(· exact fun _=>RdC.blk mm);(· exact AggF.h)
   | (with_reducible apply D_assign);(· exact gc);(· exact ov)
   | (with_reducible apply D_not);(· exact gc);(· exact ov)
   | (with_reducible apply D_nilCheck);(· exact gc);(· exact ov)
   | (with_reducible refine DV_nil ?_))
  | (with_reducible refine Give_nil ?_)
  | (with_reducible apply Give_drop);(· exact rfl)
  | (with_reducible apply Give_is);(· exact rfl);(· exact rfl)
  | (with_reducible apply Give_cons);(· exact rfl)
  | (with_reducible apply Give_drop')
  | (with_reducible apply Give_st))
 exact k):p:=h k
theorem s2 {p q:Prop} (k:q) (h:q→p:=by (intro k;(iterate 2 (refine s1 ?_));exact k)):p:=h k
theorem s3 {p q:Prop} (k:q) (h:q→p:=by (intro k;(iterate 3 (refine s1 ?_));exact k)):p:=h k
theorem s4 {p q:Prop} (k:q) (h:q→p:=by (intro k;(iterate 4 (refine s1 ?_));exact k)):p:=h k
theorem s5 {p q:Prop} (k:q) (h:q→p:=by (intro k;(iterate 5 (refine s1 ?_));exact k)):p:=h k
theorem s6 {p q:Prop} (k:q) (h:q→p:=by (intro k;(iterate 6 (refine s1 ?_));exact k)):p:=h k
theorem s7 {p q:Prop} (k:q) (h:q→p:=by (intro k;(iterate 7 (refine s1 ?_));exact k)):p:=h k
theorem s8 {p q:Prop} (k:q) (h:q→p:=by (intro k;(iterate 8 (refine s1 ?_));exact k)):p:=h k
theorem s9 {p q:Prop} (k:q) (h:q→p:=by (intro k;(iterate 9 (refine s1 ?_));exact k)):p:=h k
theorem s10 {p q:Prop} (k:q) (h:q→p:=by (intro k;(iterate 10 (refine s1 ?_));exact k)):p:=h k
theorem s11 {p q:Prop} (k:q) (h:q→p:=by (intro k;(iterate 11 (refine s1 ?_));exact k)):p:=h k
theorem s12 {p q:Prop} (k:q) (h:q→p:=by (intro k;(iterate 12 (refine s1 ?_));exact k)):p:=h k
theorem s13 {p q:Prop} (k:q) (h:q→p:=by (intro k;(iterate 13 (refine s1 ?_));exact k)):p:=h k
theorem s14 {p q:Prop} (k:q) (h:q→p:=by (intro k;(iterate 14 (refine s1 ?_));exact k)):p:=h k
theorem s15 {p q:Prop} (k:q) (h:q→p:=by (intro k;(iterate 15 (refine s1 ?_));exact k)):p:=h k
theorem s16 {p q:Prop} (k:q) (h:q→p:=by (intro k;(iterate 16 (refine s1 ?_));exact k)):p:=h k
theorem s17 {p q:Prop} (k:q) (h:q→p:=by (intro k;(iterate 17 (refine s1 ?_));exact k)):p:=h k
theorem s18 {p q:Prop} (k:q) (h:q→p:=by (intro k;(iterate 18 (refine s1 ?_));exact k)):p:=h k
theorem s19 {p q:Prop} (k:q) (h:q→p:=by (intro k;(iterate 19 (refine s1 ?_));exact k)):p:=h k
theorem s20 {p q:Prop} (k:q) (h:q→p:=by (intro k;(iterate 20 (refine s1 ?_));exact k)):p:=h k
end Go.Proofs.SL
