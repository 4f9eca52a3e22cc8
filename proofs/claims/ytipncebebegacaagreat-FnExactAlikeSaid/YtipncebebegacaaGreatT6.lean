/- The texts of the proof, part 6: the base, walks of functions, plain Lean. -/
import Derived.Test.YtipncebebegacaaGreatT5
import Derived.Test.YtipncebebegacaaGreatRows
import Derived.Shelf.SlSortCmp.NoneTotal
import Derived.Ground.SlsfProg
namespace Go.Proofs.SL
open Go
section
variable {Γ:Cx} {l:Envl} {M:List HP} {K:Kont} {w0 w:World} {S0:List Nat}
variable {rest:List Oper} {d:Nat} {ty:TypeId} {pos:String} {af:Array Edge}
theorem L_storeA {x y:Operand} {T b fo:Nat} {T':TypeId} {cs cs' r:List Value} {M':List HP} (hx:ev l x=some (.pointer (some ⟨b,fo,none⟩))) (hy:ev l y=some (.agg cs'.toArray)) (hp:Pick (blk b cs T') M M')
  (ht:aggOf Γ.P T=some cs'.length) (hl:fo+cs'.length≤cs.length) (h1:∀ v,v∈cs'→v.oneCell'=true) (hr:cs.take fo++cs'++cs.drop (fo+cs'.length)=r) (hk:L Γ rest l (blk b r T'::M') K) :
  L Γ ({ dst:=none,op:=.store T x y,type:=ty,pos,after:=af,guard:=none }::rest) l M K :=
 L_skip rfl rfl (fun a w ha hw=>by
  subst hr
  have hw':=hw.perm hp.perm
  have hh:w.heap[b]?=some (.cells cs.toArray T' (0,0)):=hw'.prs (blk b cs T') (by simp)
  have hs:=run_store_blk (P:=Γ.P) (fo:=fo) (vs:=cs') (ty:=T) hh hl h1
  refine ⟨_,?_,setRow_blk (cs':=cs.take fo++cs'++cs.drop (fo+cs'.length)) hw'⟩
  simp [execOp,ha.eval hx,ha.eval hy,Instr.storeAt,Instr.sureAddr,storeVar,run_isAgg_agg ht,Value.cells,hs]) hk
end
section
variable {Γ:Cx} {rest:List Oper} {d:Nat} {ty:TypeId} {pos:String} {af:Array Edge}
variable {ops:Array Oper} {Msh pool:List HP} {E:Fl} {rs:List (Option Nat×Rel)} {cs0:List Nat} {KD:List (Option Nat×Rel)→List Nat→List HP→Prop}
def PtrNew (z:List Value) (T:TypeId):Rel:=fun v M=>∃ b,v=.pointer (some ⟨b,0,none⟩)∧M=[blk b z T]
theorem D_alloc {T:TypeId} {z:List Value} (hz:zeroOf Γ.P T=some z)
  (hk:DV Γ ops Msh pool ((d,PtrNew z T)::E) ((some d,PtrNew z T)::rs) cs0 rest KD) :
  DV Γ ops Msh pool E rs cs0 ({ dst:=some d,op:=.alloc T,type:=ty,pos:=pos,after:=af,guard:=none }::rest) KD:=by
 refine DV.mk (PtrNew z T) [] pool [] (by simp) rfl ?_ (by rw [dropE_nil];exact hk)
 intro a w F Mk _ _ hw hm hfa hcf
 have hMk:Mk=[]:=hcf
 subst hMk
 rw [dropE_nil] at hfa
 simp only [List.nil_append] at hw ⊢
 rw [if_pos (by simp [Region.wanted])]
 have h1:(execOp a.eval { dst:=some d,op:=.alloc T,type:=ty,pos:=pos,after:=af,guard:=none }).run Γ.P w=.ok (.value (.pointer (some ⟨w.heap.size,0,none⟩))) (w.alloc (.cells z.toArray T (0,0))):=by
  unfold zeroOf at hz
  split at hz<;>(try cases hz)
  rename_i i hi
  split at hz<;>cases hz
  rename_i z' hz'
  simp [execOp,Instr.alloc,zeroValue,typeInfo,hi,hz',newVar,newRow]
 rw [h1]
 exact ⟨[blk w.heap.size z T],⟨_,rfl,rfl⟩,Holds.new (show Holds Γ.w0 Γ.S0 F w by simpa using hw) rfl⟩
end
theorem eqB_nf {α:Type} {a b:α}:((!eqB a b)=false)↔a=b:=by
 cases h:eqB a b with
 | true=>simp [eqB_true.1 h]
 | false=>simp [eqB_false.1 h]
theorem eqB_nt {α:Type} {a b:α}:((!eqB a b)=true)↔¬ a=b:=by
 cases h:eqB a b with
 | true=>simp [eqB_true.1 h]
 | false=>simp [eqB_false.1 h]
end Go.Proofs.SL
namespace Go.Proofs.SL
open Go
instance:Mk Bool:=⟨fun _=>1,fun k _=>decide (((k:Int)).tmod 3=0)⟩
instance:Bm Bool:=⟨1,fun x=>by show 1≤1*(1+0);omega⟩
end Go.Proofs.SL
namespace Go.Proofs.SL
open Go
variable {Γ:Cx} {l:Envl} {M M1:List HP} {K:Kont} {w0 w:World} {S0:List Nat}
variable {rest:List Oper} {d:Nat} {ty:TypeId} {pos:String} {af:Array Edge}
section
variable {τ δ:Type} [GT τ δ]
theorem blk_own [FlatT τ] {b cap:Nat} {e:TypeId} {ts:List τ} {tail:List Value} (h1:ts.length≤cap) (h2:cap≤maxLen) (h3:ts.length*GT.sz τ+tail.length=cap*GT.sz τ)
  (h:Holds w0 S0 (blk b (rowCells ts++tail) e::M) w):Holds w0 S0 (treeH (⟨some ⟨b,0,none⟩,cap,e,ts,tail⟩:TL τ)::M) w:=by
 have hb:w.heap[b]?=some (.cells (rowCells ts++tail).toArray e (0,0)):=h.prs _ (List.mem_cons_self ..)
 have ef:fps (treeH (⟨some ⟨b,0,none⟩,cap,e,ts,tail⟩:TL τ)::M)=fps (blk b (rowCells ts++tail) e::M):=by
  simp only [fps_cons]
  show ([b]++ts.flatMap GT.fp)++fps M=[b]++fps M
  rw [fps_flat ts fun x _=>FlatT.flat x,List.append_nil]
 refine ⟨h.os,h.tape,h.output,h.size,h.old,fun x hx=>?_,by rw [ef];exact h.nodup,fun k hk=>h.rng k (by rw [← ef];exact hk)⟩
 rcases List.mem_cons.1 hx with rfl | hx
 ·exact ⟨h1,h2,fun x _=>(FlatT.flat x).ow w,fun hn=>(by cases hn),fun a ha=>by cases ha;exact ⟨rfl,rfl,hb,h3⟩⟩
 ·exact h.prs x (List.mem_cons_of_mem _ hx)
theorem L_bsN [FlatT τ] (ts:List τ) {T e sz by_ n:Nat} {z:List Value} {xs:List (Nat×Operand)} {ps:List (Nat×Value)} {r:List δ} (hn:Nat.blt d Γ.n=true) (hx:evp l xs=some ps) (ht:elOf Γ.P T=some (e,sz,by_,z)) (hz:z.length=sz)
  (hsz:GT.sz τ=sz) (h0:Nat.blt 0 sz=true) (hns:Nat.ble (n*sz) 65536=true) (hn0:Nat.blt 0 n=true) (hlen:ts.length=n) (hf:fillL (fun i=>some (i*sz,sz)) ((List.range (n*sz)).map fun i=>z.getD (i % sz) undef) ps=some (rowCells ts))
  (hr:some (ts.map GT.dat)=some r) (hk:∀ X:TL τ,GT.dat X=r→L Γ rest ((d,X.hdr)::l) (treeH X::M) K) :
  L Γ ({ dst:=some d,op:=.buildSlice T n xs.toArray,type:=ty,pos,after:=af,guard:=none }::rest) l M K:=by
 have h0':0 < sz:=Nat.le_of_ble_eq_true h0
 have hns':n*sz≤65536:=Nat.le_of_ble_eq_true hns
 refine L_buildSlice hn hx ht hz h0' hns' (Nat.le_of_ble_eq_true hn0) hf fun b=>?_
 have hnl:n≤65536:=Nat.le_trans (Nat.le_mul_of_pos_right n h0') hns'
 refine L_conv (M':=treeH (⟨some ⟨b,0,none⟩,n,e,ts,[]⟩:TL τ)::M) (fun w h=>blk_own (by omega) (by simp only [maxLen];omega) (by rw [hlen];simp) (by rw [List.append_nil];exact h)) ?_
 have:=hk ⟨some ⟨b,0,none⟩,n,e,ts,[]⟩ (Option.some.inj hr)
 have eh:(⟨some ⟨b,0,none⟩,n,e,ts,[]⟩:TL τ).hdr=.slice (some ⟨b,0,none⟩) n n:=by show Value.slice _ ts.length _=_;rw [hlen]
 rw [eh] at this
 exact this
end
def u8P (n:Int):Option UInt8:=if 0≤n∧n < 256 then some (UInt8.ofNat n.toNat) else none
theorem u8P_some {n:Int} {b:UInt8} (h:u8P n=some b):n=(b.toNat:Int):=by
 unfold u8P at h
 split at h
 ·rename_i hb
  obtain rfl:=Option.some.inj h
  rw [UInt8.toNat_ofNat']
  omega
 ·cases h
theorem strOf_bytes (xs:List UInt8):strOf (xs.map fun b=>(b.toNat:Int))=⟨xs.toArray⟩:=by
 have h:∀ (xs:List UInt8) (s:ByteArray),(xs.map fun b=>(b.toNat:Int)).foldl (fun r n=>r.push (UInt8.ofNat n.toNat)) s=⟨s.data++xs.toArray⟩:=by
  intro xs
  induction xs with
  | nil=>intro s;simp
  | cons x xs ih =>
   intro s
   rw [List.map_cons,List.foldl_cons,ih]
   congr 1
   show (s.push _).data++_=_
   simp [ByteArray.push]
 unfold strOf
 rw [h]
 simp
def strP (xs:List UInt8):ByteArray:=⟨xs.toArray⟩
theorem run_bytesNone {P:Program} (w:World) (len cap:Nat):(Conv.bytesToString (.slice none len cap)).run P w=.ok (.string ByteArray.empty) w:=by
 simp [Conv.bytesToString]
theorem L_toStr {x:Operand} {S T e:Nat} {X:TL UInt8} (hn:Nat.blt d Γ.n=true) (hx:ev l x=some X.hdr) (hS:Γ.P.underlying S=some (.slice e)) (he:Γ.P.underlying e=some (.int .u8)) (hT:Γ.P.underlying T=some .string)
  (hR:RdT Γ M X) (hk:L Γ rest ((d,.string (strP (GT.dat X)))::l) M K) :
  L Γ ({ dst:=some d,op:=.convert S T x,type:=ty,pos:=pos,after:=af,guard:=none }::rest) l M K:=by
 obtain ⟨a,cap,e',els,tail⟩:=X
 have hd:GT.dat (⟨a,cap,e',els,tail⟩:TL UInt8)=els:=map_id' els
 rw [hd] at hk
 cases a with
 | none =>
  refine L_pure hn (fun a' w ha hw=>?_) hk
  have h1:=hR w hw.sees
  have he0:els=[]:=h1.2.2.2.1 rfl
  subst he0
  have h2:=ha.eval hx
  simp only [execOp,h2,Sem.run_bind]
  show ((convert S T (.slice none _ _)).run Γ.P w).andThen _=_
  rw [run_convert_bytes_string w S T e _ _ _ hS he hT,run_bytesNone]
  rfl
 | some ad =>
  refine L_pure hn (fun a' w ha hw=>?_) hk
  have h1:=hR w hw.sees
  have h2:=ha.eval hx
  obtain ⟨h3,h4⟩:=h1.2.2.2.2 ad rfl
  simp only [execOp,h2,Sem.run_bind]
  show ((convert S T (.slice (some ad) els.length cap)).run Γ.P w).andThen _=_
  rw [run_convert_bytes_string w S T e _ _ _ hS he hT]
  have hrow:∀ xs:List UInt8,rowCells xs=xs.map fun b=>Value.int .u8 (b.toNat:Int):=by
   intro xs
   induction xs with
   | nil=>rfl
   | cons x xs ih=>rw [rowCells_cons,ih];rfl
  have hl:(loadCells ad els.length).run Γ.P w=.ok ((els.map fun b=>(b.toNat:Int)).map (Value.int .u8)).toArray w:=by
   by_cases hz:els=[]
   ·subst hz
    simp [loadCells,loadCellsFrom]
   ·have hs:=h3 hz
    obtain ⟨blk,off,sp⟩:=ad
    dsimp only at hs
    subst hs
    have:=run_loadCells_at (P:=Γ.P) (g:=blk) (off:=off) (cs:=rowCells els) (w:=w) (fun j v hv=>by
     have:=h4 j v hv
     exact this.1)
    rw [length_rowCells,show GT.sz UInt8=1 from rfl,Nat.mul_one,hrow] at this
    rw [this,List.map_map];rfl
  have hb:=run_bytesToString (P:=Γ.P) w ad els.length cap (els.map fun b=>(b.toNat:Int)) hl
  have e1:=strOf_bytes els
  unfold strOf at e1
  rw [hb,e1]
  rfl
end Go.Proofs.SL
namespace Go.Proofs.SL
open Go
section
variable {Γ:Cx} {rest:List Oper} {d:Nat} {ty:TypeId} {pos:String} {af:Array Edge} {gd:Option (Nat×Bool)}
variable {ops:Array Oper} {Msh pool:List HP} {E:Fl} {rs:List (Option Nat×Rel)} {cs0:List Nat} {KD:List (Option Nat×Rel)→List Nat→List HP→Prop}
end
end Go.Proofs.SL
namespace Go.Proofs.SL
open Go
structure AR where
 l:List Int
instance:GT AR (List Int) where
 sz:=1
 pos:=by decide
 cells _:=[.int .i64 0]
 len _:=rfl
 one _ v hv:=by simp at hv;subst hv;rfl
 rd _ _ _:=True
 fp _:=[]
 ow _ _:=True
 dat t:=t.l
 rd_mono h _:=h
 ow_st _ h:=h
 ow_rd _ _:=trivial
theorem dat_ar (x:AR):GT.dat x=x.l:=rfl
def aC (k:IntKind) (l:List Int):List Value:=l.map (Value.int k)
variable {Γ:Cx} {l:Envl} {M:List HP} {K:Kont} {w0 w:World} {S0:List Nat} {rest:List Oper} {d:Nat} {ty:TypeId} {pos:String} {af:Array Edge}
section
variable {k:IntKind} {A A':List Int}
end
structure GA (g:Nat) (k:IntKind) (A:List Int) where mk ::
instance (g:Nat) (k:IntKind) (A:List Int):GT (GA g k A) Unit where
 sz:=1
 pos:=by decide
 cells _:=[.int .i64 0]
 len _:=rfl
 one _ v hv:=by simp at hv;subst hv;rfl
 rd w S _:=∀ j v,(aC k A)[j]?=some v→Old w S ⟨g,j,none⟩ v
 fp _:=[]
 ow _ _:=False
 dat _:=()
 rd_mono h hm:=fun j v hv=>hm _ _ (h j v hv)
 ow_st _ h:=h
 ow_rd h _:=h.elim
variable {ops:Array Oper} {Msh pool:List HP} {E:Fl} {rs:List (Option Nat×Rel)} {cs0:List Nat} {KD:List (Option Nat×Rel)→List Nat→List HP→Prop} {gd:Option (Nat×Bool)}
section
variable {k:IntKind} {A A':List Int} {c:Prop}
end
end Go.Proofs.SL
namespace Go.Proofs.SL
open Go
variable {Γ:Cx} {rest:List Oper} {d:Nat} {ty:TypeId} {pos:String} {af:Array Edge}
variable {ops:Array Oper} {Msh pool:List HP} {E:Fl} {rs:List (Option Nat×Rel)} {cs0:List Nat} {KD:List (Option Nat×Rel)→List Nat→List HP→Prop}
end Go.Proofs.SL
namespace Go.Proofs.SL
open Go
variable {Γ:Cx} {rest:List Oper} {d:Nat} {ty:TypeId} {pos:String} {af:Array Edge}
variable {ops:Array Oper} {Msh pool pool':List HP} {E:Fl} {rs:List (Option Nat×Rel)} {cs0:List Nat} {KD:List (Option Nat×Rel)→List Nat→List HP→Prop}
variable {τ δ:Type} [GT τ δ]
end Go.Proofs.SL
namespace Go.Proofs.SL
open Go
variable {Γ:Cx} {rest:List Oper} {d:Nat} {ty:TypeId} {pos:String} {af:Array Edge} {l:Envl} {M:List HP} {K:Kont}
end Go.Proofs.SL
namespace Go.Proofs.SL
open Go
variable {Γ:Cx} {rest:List Oper} {d:Nat} {ty:TypeId} {pos:String} {af:Array Edge} {gd:Option (Nat×Bool)}
variable {ops:Array Oper} {Msh pool:List HP} {E:Fl} {rs:List (Option Nat×Rel)} {cs0:List Nat} {KD:RKont}
def GR (c:Prop) (R:Rel):Rel:=fun v M=>(c→R v M)∧(¬ c→v=undef∧M=[])
theorem D_callGV {f:Nat} {xs:List Operand} {ats:Array TypeId} {vs:List Value} {c:Prop} (R:Rel)
  (hg:GC ops E { dst:=some d,op:=.call { callee:=.value (.func f),args:=xs.toArray,argTypes:=ats },type:=ty,pos:=pos,after:=af,guard:=gd } c)
  (hf:IsFn Γ.P f) (hx:OpVs E c xs vs) (hc:c→∀ w F,Holds Γ.w0 Γ.S0 F w→(∀ h,h∈Msh→h∈F)→Spec Γ.P f vs.toArray w [] R)
  (hk:DV Γ ops Msh pool ((d,GR c R)::E) ((some d,GR c R)::rs) cs0 rest KD) :
  DV Γ ops Msh pool E rs cs0 ({ dst:=some d,op:=.call { callee:=.value (.func f),args:=xs.toArray,argTypes:=ats },type:=ty,pos:=pos,after:=af,guard:=gd }::rest) KD:=by
 refine DV.mk (GR c R) [] pool [] (by simp) rfl ?_ (by rw [dropE_nil];exact hk)
 intro a w F Mk _ _ hw hm hfa hcf
 have hMk:Mk=[]:=hcf
 subst hMk
 rw [dropE_nil] at hfa
 simp only [List.nil_append] at hw ⊢
 have hgc:=hg a F hfa
 split
 ·rename_i hwt
  have hcc:=hgc.1 hwt
  have hw':Holds Γ.w0 Γ.S0 F w:=by simpa using hw
  have h2:(#[]++xs.toArray.map a.eval++#[]:Array Value)=vs.toArray:=by
   simp [OpVs.evals (o:={ dst:=some d,op:=.call { callee:=.value (.func f),args:=xs.toArray,argTypes:=ats },type:=ty,pos:=pos,after:=af,guard:=gd }) hcc hfa xs vs hx (fun x hx=>by simp [Op.operands,Call.operands,hx])]
  rw [execOp_call_go,h2,hf.run]
  exact (hc hcc w F hw' hm (Holds.split (M1:=[]) (M2:=F) hw)).mono fun e w'' ⟨v,M',h1,h3,h4⟩=>⟨v,M',h1,⟨fun _=>h3,fun hn=>(hn hcc).elim⟩,Holds.frame (M1:=[]) (M2:=F) hw h4⟩
 ·rename_i hwt
  exact ⟨fun hc=>(hwt (hgc.2 hc)).elim,fun _=>⟨rfl,rfl⟩⟩
theorem D_callGR {f:Nat} {xs:List Operand} {ats:Array TypeId} (Rs:List Rel) {c:Prop} {x:Value}
  (hg:GC ops E { dst:=some d,op:=.call { callee:=.value (.func f),args:=xs.toArray,argTypes:=ats },type:=ty,pos:=pos,after:=af,guard:=gd } c)
  (hf:IsFn Γ.P f) (hx:OpRs E xs Rs) (hc:c→∀ w F vs,Holds Γ.w0 Γ.S0 F w→(∀ h,h∈Msh→h∈F)→AllR F Rs vs→Spec Γ.P f vs.toArray w [] (IsV x))
  (hk:DV Γ ops Msh pool ((d,FC c x)::E) ((some d,FC c x)::rs) cs0 rest KD) :
  DV Γ ops Msh pool E rs cs0 ({ dst:=some d,op:=.call { callee:=.value (.func f),args:=xs.toArray,argTypes:=ats },type:=ty,pos:=pos,after:=af,guard:=gd }::rest) KD:=by
 refine DV.mk (FC c x) [] pool [] (by simp) rfl ?_ (by rw [dropE_nil];exact hk)
 intro a w F Mk _ _ hw hm hfa hcf
 have hMk:Mk=[]:=hcf
 subst hMk
 rw [dropE_nil] at hfa
 simp only [List.nil_append] at hw ⊢
 have hgc:=hg a F hfa
 split
 ·rename_i hwt
  have hcc:=hgc.1 hwt
  have hw':Holds Γ.w0 Γ.S0 F w:=by simpa using hw
  have h1:=OpRs.evals (o:={ dst:=some d,op:=.call { callee:=.value (.func f),args:=xs.toArray,argTypes:=ats },type:=ty,pos:=pos,after:=af,guard:=gd }) hfa xs Rs hx (fun x hx=>by simp [Op.operands,Call.operands,hx])
  have h2:(#[]++xs.toArray.map a.eval++#[]:Array Value)=(xs.map a.eval).toArray:=by simp
  rw [execOp_call_go,h2,hf.run]
  exact (hc hcc w F _ hw' hm h1 (Holds.split (M1:=[]) (M2:=F) hw)).mono fun e w'' ⟨v,M',h1,h3,h4⟩=>⟨v,M',h1,⟨h3.2,fun _=>h3.1,fun hn=>(hn hcc).elim⟩,Holds.frame (M1:=[]) (M2:=F) hw h4⟩
 ·rename_i hwt
  exact ⟨rfl,fun hc=>(hwt (hgc.2 hc)).elim,fun _=>rfl⟩
end Go.Proofs.SL
namespace Go.Proofs.SL
open Go
section
variable {Γ:Cx} {rest:List Oper} {d:Nat} {ty:TypeId} {pos:String} {af:Array Edge}
variable {ops:Array Oper} {Msh pool:List HP} {E:Fl} {rs:List (Option Nat×Rel)} {cs0:List Nat} {KD:RKont}
def AggV {τ δ:Type} [GT τ δ] (r:δ):Rel:=fun v M=>∃ x:τ,v=.agg (GT.cells x).toArray∧GT.dat x=r∧M=[treeH x]
def BoxV {τ δ:Type} [GT τ δ] (T:TypeId) (r:δ):Rel:=fun v M=>∃ (b:Nat) (x:τ),v=.pointer (some ⟨b,0,none⟩)∧GT.dat x=r∧M=[blk b (GT.cells x) T,treeH x]
theorem D_moveC {t:Nat} {R:Rel} (hR:E.lookup t=some R)
  (hlin:linB ops { dst:=some d,op:=.move (.tmp t),type:=ty,pos:=pos,after:=af,guard:=none } [t]=true)
  (hk:DV Γ ops Msh pool ((d,R)::dropE [t] E) ((some d,R)::rs) ([t]++cs0) rest KD) :
  DV Γ ops Msh pool E rs cs0 ({ dst:=some d,op:=.move (.tmp t),type:=ty,pos:=pos,after:=af,guard:=none }::rest) KD:=by
 refine DV.mk R [] pool [t] (by simp) hlin ?_ hk
 intro a w F Mk _ _ hw hm hfa hcf
 obtain ⟨Mx,Mk',rfl,hRR,hnil⟩:=hcf
 have hnil:Mk'=[]:=hnil
 subst hnil
 have h1:=hRR _ hR
 rw [if_pos (by simp [Region.wanted])]
 have h2:(execOp a.eval { dst:=some d,op:=.move (.tmp t),type:=ty,pos:=pos,after:=af,guard:=none }).run Γ.P w=.ok (.value (a.tmps.getD t undef)) w:=by
  simp [execOp,Act.eval]
 rw [h2]
 exact ⟨Mx,h1,by simpa using hw⟩
theorem D_extractC {t i:Nat} {R:Rel} (R':Rel) (hR:E.lookup t=some R) (hh:∀ v M,R v M→∃ vs u,v=.tuple vs∧vs[i]?=some u∧R' u M)
  (hlin:linB ops { dst:=some d,op:=.extract (.tmp t) i,type:=ty,pos:=pos,after:=af,guard:=none } [t]=true)
  (hk:DV Γ ops Msh pool ((d,R')::dropE [t] E) ((some d,R')::rs) ([t]++cs0) rest KD) :
  DV Γ ops Msh pool E rs cs0 ({ dst:=some d,op:=.extract (.tmp t) i,type:=ty,pos:=pos,after:=af,guard:=none }::rest) KD:=by
 refine DV.mk R' [] pool [t] (by simp) hlin ?_ hk
 intro a w F Mk _ _ hw hm hfa hcf
 obtain ⟨Mx,Mk',rfl,hRR,hnil⟩:=hcf
 have hnil:Mk'=[]:=hnil
 subst hnil
 obtain ⟨vs,u,hv,hu,h1⟩:=hh _ _ (hRR _ hR)
 rw [if_pos (by simp [Region.wanted])]
 have e1:a.eval (.tmp t)=.tuple vs:=hv
 have h2:(execOp a.eval { dst:=some d,op:=.extract (.tmp t) i,type:=ty,pos:=pos,after:=af,guard:=none }).run Γ.P w=.ok (.value u) w:=by
  simp [execOp,e1,Instr.extract,hu]
 rw [h2]
 exact ⟨Mx,h1,by simpa using hw⟩
theorem D_extractW {t i:Nat} {R:Rel} (u:Value) (hR:E.lookup t=some R) (hh:∀ v M,R v M→∃ vs,v=.tuple vs∧vs[i]?=some u)
  (hk:DV Γ ops Msh pool ((d,FC True u)::E) ((some d,FC True u)::rs) cs0 rest KD) :
  DV Γ ops Msh pool E rs cs0 ({ dst:=some d,op:=.extract (.tmp t) i,type:=ty,pos:=pos,after:=af,guard:=none }::rest) KD :=
 DV_pure True u GC.none (fun a w F _ hf _=>by
  obtain ⟨M,h1,_⟩:=hf t R (List.mem_append_left _ (by simp [Op.operands])) hR
  obtain ⟨vs,hv,hu⟩:=hh _ _ h1
  have e1:a.eval (.tmp t)=.tuple vs:=hv
  simp [execOp,e1,Instr.extract,hu]) hk
theorem D_storeK {τ δ:Type} [GT τ δ] {p x:Nat} {T:TypeId} {T':TypeId} {z:List Value} {r:δ} (hp:E.lookup p=some (PtrNew z T')) (hx:E.lookup x=some (AggV (τ:=τ) r))
  (ht:aggOf Γ.P T=some (GT.sz τ)) (hl:z.length=GT.sz τ)
  (hlin:linB ops { dst:=none,op:=.store T (.tmp p) (.tmp x),type:=ty,pos:=pos,after:=af,guard:=none } [p,x]=true)
  (hk:DV Γ ops Msh pool (dropE [p,x] E) ((some p,BoxV (τ:=τ) T' r)::rs) ([x]++cs0) rest KD) :
  DV Γ ops Msh pool E rs cs0 ({ dst:=none,op:=.store T (.tmp p) (.tmp x),type:=ty,pos:=pos,after:=af,guard:=none }::rest) KD:=by
 refine DV.mkK (BoxV (τ:=τ) T' r) [] pool p [x] rfl (by simp) hlin ?_ hk
 intro a w F Mk _ _ hw hm hfa hcf
 obtain ⟨M1,Mk',rfl,hR1,M2,Mk'',rfl,hR2,hnil⟩:=hcf
 have hnil:Mk''=[]:=hnil
 subst hnil
 obtain ⟨b,hb,rfl⟩:=hR1 _ hp
 obtain ⟨y,hv,hd,rfl⟩:=hR2 _ hx
 rw [if_pos (by simp [Region.wanted])]
 have e1:a.eval (.tmp p)=.pointer (some ⟨b,0,none⟩):=hb
 have e2:a.eval (.tmp x)=.agg (GT.cells y).toArray:=hv
 have hw':Holds Γ.w0 Γ.S0 (blk b z T'::(treeH y::F)) w:=by simpa using hw
 have hh:w.heap[b]?=some (.cells z.toArray T' (0,0)):=hw'.prs (blk b z T') (by simp)
 have hly:(GT.cells y).length=GT.sz τ:=GT.len y
 have hs:=run_store_blk (P:=Γ.P) (fo:=0) (vs:=GT.cells y) (ty:=T) hh (by omega) (fun v hv=>GT.one y v hv)
 have e:(z.take 0++GT.cells y++z.drop (0+(GT.cells y).length))=GT.cells y:=by simp [hl,hly]
 rw [e] at hs
 have hrun:(execOp a.eval { dst:=none,op:=.store T (.tmp p) (.tmp x),type:=ty,pos:=pos,after:=af,guard:=none }).run Γ.P w=.ok .skip (w.setRow b (GT.cells y).toArray):=by
  simp [execOp,e1,e2,Instr.storeAt,Instr.sureAddr,storeVar,run_isAgg_agg ht,Value.cells,hs,hly]
 rw [hrun]
 exact ⟨[blk b (GT.cells y) T',treeH y],⟨b,y,hb,hd,rfl⟩,by simpa using setRow_blk (cs':=GT.cells y) hw'⟩
end
theorem gb_anyD {α β:Type} [Inhabited α] {g:Bool} {o:Option α} {k:α→Option β} {r:β} (h:gb g o k=some r):∃ y,(g=true→o=some y)∧(g=false→y=default)∧k y=some r:=by
 cases g with
 | true=>obtain ⟨y,h1,h2⟩:=Option.bind_eq_some_iff.1 h;exact ⟨y,fun _=>h1,(fun hh=>(by cases hh)),h2⟩
 | false=>exact ⟨default,(fun hh=>(by cases hh)),fun _=>rfl,h⟩
section
variable {Γ:Cx} {rest:List Oper} {d:Nat} {ty:TypeId} {pos:String} {af:Array Edge} {gd:Option (Nat×Bool)}
variable {ops:Array Oper} {Msh pool:List HP} {E:Fl} {rs:List (Option Nat×Rel)} {cs0:List Nat} {KD:RKont}
theorem D_slcG {τ δ:Type} [Inhabited τ] [GT τ δ] {x:Operand} {lo hi:Option Operand} {T e sz by_:Nat} {z:List Value} {X:TL τ} {a b:Int} {r:List δ} {cc:Prop} (hg:GC ops E { dst:=some d,op:=.slice T x lo hi none,type:=ty,pos:=pos,after:=af,guard:=gd } cc)
  (hx:OpV E x cc X.hdr) (hlo:optD E lo cc 0 a) (hhi:optD E hi cc ((GT.dat X).length:Int) b)
  (ht:elOf Γ.P T=some (e,sz,by_,z)) (hsz:GT.sz τ=sz) (hR:RdT Γ Msh X) (hr:cc→slcP (GT.dat X) a b=some r) (hn:¬ cc→r=[])
  (hk:∀ X':TL τ,GT.dat X'=r→(∀ w S,GT.rd w S X→GT.rd w S X')→DV Γ ops Msh pool ((d,FC cc X'.hdr)::E) ((some d,FC cc X'.hdr)::rs) cs0 rest KD) :
  DV Γ ops Msh pool E rs cs0 ({ dst:=some d,op:=.slice T x lo hi none,type:=ty,pos:=pos,after:=af,guard:=gd }::rest) KD:=by
 by_cases hcc:cc
 ·have hr:=hr hcc
  unfold slcP at hr
  split at hr
  ·rename_i hb
   cases hr
   rw [dat_els,List.length_map] at hb
   rw [dat_els,List.length_map] at hhi
   obtain ⟨h0,h1,h2⟩:=hb
   have h1':a.toNat≤b.toNat:=by omega
   have h2':b.toNat≤X.els.length:=by omega
   refine DV_pure cc (slc X a.toNat b.toNat).hdr hg (fun a' w F hc hf hs=>?_) (hk (slc X a.toNat b.toNat) (by rw [dat_els,dat_els];simp [slc,List.map_take,List.map_drop]) (fun w S h=>slc_rd h h1' h2'))
   have hcap:X.els.length≤X.cap:=(hR w hs).1
   unfold elOf at ht
   split at ht<;>(try cases ht)
   rename_i e' het
   split at ht<;>(try cases ht)
   rename_i i' hi'
   split at ht<;>cases ht
   have hlen:((X.els.drop a.toNat).take (b.toNat - a.toNat)).length=b.toNat - a.toNat:=by simp;omega
   have hv:(slc X a.toNat b.toNat).hdr=.slice (if X.cap=a.toNat then X.a else X.a.map (·.add (a.toNat*i'.size))) (b.toNat - a.toNat) (X.cap - a.toNat):=by
    show Value.slice _ ((X.els.drop a.toNat).take (b.toNat - a.toNat)).length _=_
    rw [hlen];simp only [slc,hsz]
   rw [hv]
   have e1:a'.eval x=.slice X.a X.els.length X.cap:=hx.eval hf (by simp [Op.operands]) hc
   cases lo with
   | none =>
    cases hlo
    cases hi with
    | none =>
     cases hhi
     simp only [execOp,Option.map_none,e1,Instr.sliceAt,Instr.slice,underlying,Sem.run_bind,run_program,Result.andThen_ok,het,Instr.sliceBounds,Sem.run_pure,sizeOf,typeInfo,hi']
     simp
    | some o =>
     obtain ⟨k,h5⟩:=hhi
     have e2:=h5.eval hf (by simp [Op.operands]) hc
     have e4:=fun w=>run_sliceBound (P:=Γ.P) (k:=k) (code:=.sliceAcap) (show 0≤b by omega) (show b≤((X.cap:Nat):Int) by omega) w
     simp [execOp,e1,e2,Instr.sliceAt,Instr.slice,underlying,het,Instr.sliceBounds,sizeOf,typeInfo,hi',e4]
   | some o1 =>
    obtain ⟨k1,h6⟩:=hlo
    have e3:=h6.eval hf (by simp [Op.operands]) hc
    cases hi with
    | none =>
     cases hhi
     have e5:=fun w=>run_sliceBound (P:=Γ.P) (k:=k1) (code:=.sliceB) (show 0≤a by omega) (show a≤((X.els.length:Nat):Int) by omega) w
     simp [execOp,e1,e3,Instr.sliceAt,Instr.slice,underlying,het,Instr.sliceBounds,sizeOf,typeInfo,hi',e5]
    | some o =>
     obtain ⟨k,h5⟩:=hhi
     have e2:=h5.eval hf (by simp [Op.operands]) hc
     have e4:=fun w=>run_sliceBound (P:=Γ.P) (k:=k) (code:=.sliceAcap) (show 0≤b by omega) (show b≤((X.cap:Nat):Int) by omega) w
     have e5:=fun w=>run_sliceBound (P:=Γ.P) (k:=k1) (code:=.sliceB) (show 0≤a by omega) (show a≤((b.toNat:Nat):Int) by omega) w
     simp [execOp,e1,e2,e3,Instr.sliceAt,Instr.slice,underlying,het,Instr.sliceBounds,sizeOf,typeInfo,hi',e4,e5]
  ·cases hr
 ·refine DV_pure cc (slc X 0 0).hdr hg (fun a' w F hc hf hs=>(hcc hc).elim) (hk (slc X 0 0) ?_ (fun w S h=>slc_rd h (Nat.le_refl _) (Nat.zero_le _)))
  rw [hn hcc,dat_els];simp [slc]
end
end Go.Proofs.SL
namespace Go.Proofs.SL
open Go
section
variable {Γ:Cx} {l:Envl} {M M1 M2 F:List HP} {Q:Post} {K:Kont} {w0 w:World} {S0:List Nat}
variable {rest:List Oper} {d:Nat} {ty:TypeId} {pos:String} {af:Array Edge}
variable {τ δ:Type} [GT τ δ]
theorem L_appAll {s x:Operand} {T e sz by_:Nat} {z:List Value} {X Y:TL τ} {r:List δ} (hn:Nat.blt d Γ.n=true)
  (hs:ev l s=some X.hdr) (hx:ev l x=some Y.hdr) (ht:elOf Γ.P T=some (e,sz,by_,z)) (hsz:GT.sz τ=sz) (hz:z.length=sz)
  (hp:Pick (treeH X) M M1) (hq:Pick (treeH Y) M1 M2) (hr:appP (GT.dat X) (GT.dat Y)=some r) (hb:by_≤32768)
  (hk:∀ X':TL τ,GT.dat X'=r→L Γ rest ((d,X'.hdr)::l) (treeH X'::M2) K) :
  L Γ ({ dst:=some d,op:=.call { callee:=.builtin .append,args:=#[s,x],argTypes:=#[T,T] },type:=ty,pos,after:=af,guard:=none }::rest) l M K:=by
 obtain ⟨h1,rfl⟩:=appP_some hr
 simp only [dat_els,List.length_map] at h1
 have hmY:treeH Y∈M:=by
  have h2:treeH Y∈M1:=hq.perm.mem_iff.2 (List.mem_cons_self ..)
  exact hp.perm.mem_iff.2 (List.mem_cons_of_mem _ h2)
 obtain ⟨a2,c2,e2,x2,tl2⟩:=Y
 cases a2 with
 | some a2 =>
  obtain ⟨b,o,sp⟩:=a2
  refine L_appA (ys:=x2) (M2:=M2) hn hs hx ht hsz hz hp rfl (fun w hw j v hv=>?_) (fun w R h=>?_) h1 hb
   (fun X' h=>hk X' (by rw [dat_els,h,List.map_append];rfl))
  ·have h2:=(rd_of_tree hmY hw).2.2.2.2 _ rfl
   have hne:x2≠[]:=fun e=>by subst e;simp [rowCells] at hv
   have h3:sp=none:=h2.1 hne
   subst h3
   rw [addr_add];exact (h2.2 j v hv).1
  ·have h2:=tree_row (h.perm (hq.perm.append_right R))
   refine h2.sub ⟨[rowH (⟨some ⟨b,o,sp⟩,c2,e2,x2,tl2⟩:TL τ)],?_⟩
   exact List.perm_append_comm (l₁:=[rowH (⟨some ⟨b,o,sp⟩,c2,e2,x2,tl2⟩:TL τ)]) (l₂:=elsT x2::(M2++R))
 | none =>
  intro ops a w Q ha hw hq'
  have h2:x2=[]:=(rd_of_tree hmY hw.sees).2.2.2.1 rfl
  subst h2
  have hk':=hk X (by rw [dat_els];show _=_++[].map GT.dat;simp)
  refine L_step rfl rfl (Nat.le_of_ble_eq_true hn) (fun a w ha hw=>⟨w,?_,?_⟩) hk' ops a w Q ha hw hq'
  ·have hr:GT.ow w X:=(hw.perm hp.perm).prs _ (List.mem_cons_self ..)
   have:=append_none (P:=Γ.P) (w:=w) (a:=X.a) (n:=X.els.length) (c:=X.cap) (c2:=c2) ht hr.1 ty
   have h5:(Builtin.append_ #[T,T] ty #[X.hdr,.slice none 0 c2]).run Γ.P w=.ok X.hdr w:=this
   have h6:=ha.eval hx
   simp only [TL.hdr,List.length_nil] at h6
   generalize X.hdr=uu at *
   simp [execOp,resolve,invoke,builtin,ha.eval hs,h6,h5]
  ·refine (hw.perm (hp.perm.trans (hq.perm.cons _))).sub ⟨[treeH (⟨none,c2,e2,[],tl2⟩:TL τ)],?_⟩
   exact (List.perm_append_comm (l₁:=[treeH (⟨none,c2,e2,[],tl2⟩:TL τ)]) (l₂:=M2)).cons _
end
section
variable {Γ:Cx} {rest:List Oper} {d:Nat} {ty:TypeId} {pos:String} {af:Array Edge}
variable {ops:Array Oper} {Msh pool pool':List HP} {E:Fl} {rs:List (Option Nat×Rel)} {cs0:List Nat} {KD:RKont}
variable {τ τ' δ δ':Type} [GT τ δ] [GT τ' δ']
theorem D_app1O {s:Operand} {t T e sz by_:Nat} {z:List Value} {X:TL τ} {T':TypeId} {f:Value→Value} {r0:List δ'} (yf:TL τ'→τ) (q:δ) {r:List δ}
  (hs:OpV (dropE [t] E) s True X.hdr) (hx:E.lookup t=some (RowO (τ:=τ') f T' r0)) (ht:elOf Γ.P T=some (e,sz,by_,z)) (hsz:GT.sz τ=sz) (hz:z.length=sz)
  (hf:∀ Y:TL τ',(f Y.hdr).cells.toList=GT.cells (yf Y)) (hfp:∀ Y:TL τ',GT.fp (yf Y)=GT.fp Y) (how:∀ (w:World) (Y:TL τ'),GT.ow w Y→GT.ow w (yf Y)) (hdt:∀ Y:TL τ',GT.dat Y=r0→GT.dat (yf Y)=q)
  (hp:Pick (treeH X) pool pool') (hr:appP (GT.dat X) [q]=some r) (hb:by_≤32768)
  (hlin:linB ops { dst:=some d,op:=.call { callee:=.builtin .append,args:=#[s,.tmp t],argTypes:=#[T,T] },type:=ty,pos:=pos,after:=af,guard:=none } [t]=true)
  (hk:DV Γ ops Msh pool' ((d,OwnV (τ:=τ) r)::dropE [t] E) ((some d,OwnV (τ:=τ) r)::rs) ([t]++cs0) rest KD) :
  DV Γ ops Msh pool E rs cs0 ({ dst:=some d,op:=.call { callee:=.builtin .append,args:=#[s,.tmp t],argTypes:=#[T,T] },type:=ty,pos:=pos,after:=af,guard:=none }::rest) KD:=by
 refine DV.mk (OwnV (τ:=τ) r) ([treeH X]) pool' ([t]) hp.perm hlin ?_ hk
 intro a w F Mk _ _ hw hm hfa hcf
 obtain ⟨Mx,Mk',rfl,hR,hnil⟩:=hcf
 have hnil:Mk'=[]:=hnil
 subst hnil
 obtain ⟨Y,b,hv,hd,rfl⟩:=hR _ hx
 rw [if_pos (by simp [Region.wanted])]
 have e1:=hs.eval hfa (by simp [Op.operands,Call.operands]) trivial
 have e2:a.eval (.tmp t)=.slice (some ⟨b,0,none⟩) 1 1:=hv
 have hq:=hdt Y hd
 subst hq
 obtain ⟨hl,rfl⟩:=appP_some hr
 simp only [dat_els,List.length_map,List.length_cons,List.length_nil] at hl
 have hw1:Holds Γ.w0 Γ.S0 (treeH X::blk b (GT.cells (yf Y)) T'::treeH Y::F) w:=by rw [← hf Y];simpa using hw
 have hw2:Holds Γ.w0 Γ.S0 (treeH X::blk b (GT.cells (yf Y)) T'::treeH (yf Y)::F) w:=by
  refine hw1.reFp (List.Perm.of_eq ?_) fun x hx=>?_
  ·simp only [fps_cons]
   show GT.fp X++([b]++(GT.fp Y++fps F))=GT.fp X++([b]++(GT.fp (yf Y)++fps F))
   rw [hfp]
  ·simp only [List.mem_cons] at hx
   rcases hx with rfl | rfl | rfl | hx
   ·exact hw1.prs _ (by simp)
   ·exact hw1.prs _ (by simp)
   ·exact how w Y (hw1.prs (treeH Y) (by simp))
   ·exact hw1.prs _ (by simp [hx])
 have hsrc:∀ j v,(rowCells [yf Y])[j]?=some v→w.cell? ((⟨b,0,none⟩:Addr).add j)=some v:=fun j v hv=>by
  rw [addr_add]
  exact RdC.blk (Γ:=Γ) (M:=treeH X::blk b (GT.cells (yf Y)) T'::treeH (yf Y)::F) (List.mem_cons_of_mem _ (List.mem_cons_self ..)) w hw2.sees j v (by simpa [rowCells] using hv)
 obtain ⟨a',c',e',tl,w',h1,h2⟩:=append_rowE (P:=Γ.P) (c:=1) ht hsz hz (tree_row hw2) hsrc (by simpa using hl) hb ty
 have h1':(Builtin.append_ #[T,T] ty #[X.hdr,.slice (some ⟨b,0,none⟩) 1 1]).run Γ.P w=.ok (TL.hdr (⟨a',c',e',X.els++[yf Y],tl⟩:TL τ)) w':=h1
 have h3:(execOp a.eval { dst:=some d,op:=.call { callee:=.builtin .append,args:=#[s,.tmp t],argTypes:=#[T,T] },type:=ty,pos:=pos,after:=af,guard:=none }).run Γ.P w=.ok (.value (TL.hdr (⟨a',c',e',X.els++[yf Y],tl⟩:TL τ))) w':=by
  generalize TL.hdr (⟨a',c',e',X.els++[yf Y],tl⟩:TL τ)=vv at *
  generalize X.hdr=uu at *
  simp [execOp,resolve,invoke,builtin,e1,e2,h1']
 rw [h3]
 refine ⟨[treeH (⟨a',c',e',X.els++[yf Y],tl⟩:TL τ)],⟨_,rfl,?_,rfl⟩,?_⟩
 ·rw [dat_els,List.map_append];rfl
 ·refine row_tree ?_
  have h4:Holds Γ.w0 Γ.S0 (elsT X.els::elsT [yf Y]::rowH (⟨a',c',e',X.els++[yf Y],tl⟩:TL τ)::F) w':=by
   have h5:Holds Γ.w0 Γ.S0 (treeH (yf Y)::elsT X.els::rowH (⟨a',c',e',X.els++[yf Y],tl⟩:TL τ)::blk b (GT.cells (yf Y)) T'::F) w' :=
    h2.perm (perm_cons (Ms:=[elsT X.els,rowH (⟨a',c',e',X.els++[yf Y],tl⟩:TL τ),blk b (GT.cells (yf Y)) T']) (.there _ (.there _ (.there _ (.here _)))) (perm_cons (.there _ (.here _)) (perm_cons (.here _) (perm_cons (.here _) (perm_nil_left _)))))
   have h6:=elsT_one h5
   have h7:Holds Γ.w0 Γ.S0 (elsT X.els::elsT [yf Y]::rowH (⟨a',c',e',X.els++[yf Y],tl⟩:TL τ)::blk b (GT.cells (yf Y)) T'::F) w':=h6.perm (List.Perm.swap _ _ _)
   exact h7.sub ⟨[blk b (GT.cells (yf Y)) T'],by
    show List.Perm _ (([elsT X.els,elsT [yf Y],rowH (⟨a',c',e',X.els++[yf Y],tl⟩:TL τ)]++F)++[blk b (GT.cells (yf Y)) T'])
    rw [List.append_assoc]
    exact (List.perm_append_comm (l₁:=[blk b (GT.cells (yf Y)) T']) (l₂:=F)).append_left [elsT X.els,elsT [yf Y],rowH (⟨a',c',e',X.els++[yf Y],tl⟩:TL τ)]⟩
  exact (elsT_app h4).perm (List.Perm.swap _ _ _)
end
section
variable {Γ:Cx} {rest:List Oper} {d:Nat} {ty:TypeId} {pos:String} {af:Array Edge}
variable {ops:Array Oper} {Msh pool pool':List HP} {E:Fl} {rs:List (Option Nat×Rel)} {cs0:List Nat} {KD:RKont}
variable {τ δ:Type} [GT τ δ]
theorem D_mk0 (τ:Type) {δ:Type} [GT τ δ] {T e sz by_:Nat} {z:List Value} (ht:elOf Γ.P T=some (e,sz,by_,z))
  (hk:DV Γ ops Msh pool ((d,OwnV (τ:=τ) [])::E) ((some d,OwnV (τ:=τ) [])::rs) cs0 rest KD) :
  DV Γ ops Msh pool E rs cs0 ({ dst:=some d,op:=.buildSlice T 0 #[],type:=ty,pos:=pos,after:=af,guard:=none }::rest) KD:=by
 refine DV.mk (OwnV (τ:=τ) []) [] pool [] (by simp) rfl ?_ (by rw [dropE_nil];exact hk)
 intro a w F Mk _ _ hw hm hfa hcf
 have hMk:Mk=[]:=hcf
 subst hMk
 rw [dropE_nil] at hfa
 rw [if_pos (by simp [Region.wanted])]
 have hw0:Holds Γ.w0 Γ.S0 F w:=by simpa using hw
 have h1:=run_buildSlice0 ht w
 have h2:(execOp a.eval { dst:=some d,op:=.buildSlice T 0 #[],type:=ty,pos:=pos,after:=af,guard:=none }).run Γ.P w=.ok (.value (.slice (some ⟨w.heap.size,0,none⟩) 0 0)) (w.alloc (.cells ([]:List Value).toArray e (0,0))):=by
  simp only [execOp]
  simp [h1]
 rw [h2]
 refine ⟨[treeH (⟨some ⟨w.heap.size,0,none⟩,0,e,[],[]⟩:TL τ)],⟨_,rfl,rfl,rfl⟩,?_⟩
 have h3:=hw0.new (cs:=[]) (T:=e) (b:=w.heap.size) rfl
 refine h3.reFp (List.Perm.of_eq rfl) fun x hx=>?_
 rcases List.mem_cons.1 hx with rfl | hx
 ·have hp:=h3.prs (blk w.heap.size [] e) (List.mem_cons_self ..)
  refine ⟨Nat.le_refl _,by simp [maxLen],fun x hx=>(by cases hx),fun ha=>(by cases ha),fun a ha=>?_⟩
  cases ha
  exact ⟨rfl,rfl,hp,by simp⟩
 ·exact h3.prs x (List.mem_cons_of_mem _ hx)
theorem D_appTO [FlatT τ] {x:Operand} {t T e sz by_:Nat} {z:List Value} {Y:TL τ} {ra r:List δ}
  (hs:E.lookup t=some (OwnV (τ:=τ) ra)) (hx:OpV (dropE [t] E) x True Y.hdr) (ht:elOf Γ.P T=some (e,sz,by_,z)) (hsz:GT.sz τ=sz) (hz:z.length=sz)
  (hsrc:RdT Γ Msh Y) (hr:appP ra (GT.dat Y)=some r) (hb:by_≤32768)
  (hlin:linB ops { dst:=some d,op:=.call { callee:=.builtin .append,args:=#[.tmp t,x],argTypes:=#[T,T] },type:=ty,pos:=pos,after:=af,guard:=none } [t]=true)
  (hk:DV Γ ops Msh pool ((d,OwnV (τ:=τ) r)::dropE [t] E) ((some d,OwnV (τ:=τ) r)::rs) ([t]++cs0) rest KD) :
  DV Γ ops Msh pool E rs cs0 ({ dst:=some d,op:=.call { callee:=.builtin .append,args:=#[.tmp t,x],argTypes:=#[T,T] },type:=ty,pos:=pos,after:=af,guard:=none }::rest) KD:=by
 refine DV.mk (OwnV (τ:=τ) r) [] pool [t] (by simp) hlin ?_ hk
 intro a w F Mk _ _ hw hm hfa hcf
 obtain ⟨Mx,Mk',rfl,hR,hnil⟩:=hcf
 have hnil:Mk'=[]:=hnil
 subst hnil
 obtain ⟨X,hv,hd,rfl⟩:=hR _ hs
 subst hd
 rw [if_pos (by simp [Region.wanted])]
 have e1:a.eval (.tmp t)=X.hdr:=hv
 have e2:=hx.eval hfa (by simp [Op.operands,Call.operands]) trivial
 have hw1:Holds Γ.w0 Γ.S0 (treeH X::F) w:=by simpa using hw
 obtain ⟨hl,rfl⟩:=appP_some hr
 simp only [dat_els,List.length_map] at hl
 have hY:=hsrc w (hw1.seesSub fun h hh=>List.mem_cons_of_mem _ (hm h hh))
 cases hya:Y.a with
 | some ad =>
  have hsp:Y.els≠[]→ad.spot=none:=fun hne=>(hY.2.2.2.2 ad hya).1 hne
  have hsrc2:∀ j v,(rowCells Y.els)[j]?=some v→w.cell? (ad.add j)=some v:=fun j v hv=>by
   have hne:Y.els≠[]:=fun e=>by rw [e] at hv;simp [rowCells] at hv
   obtain ⟨b,o,sp⟩:=ad
   have h3:sp=none:=hsp hne
   subst h3
   rw [addr_add];exact ((hY.2.2.2.2 _ hya).2 j v hv).1
  obtain ⟨a',c',e',tl,w',h1,h2⟩:=append_rowE (P:=Γ.P) (c:=Y.cap) ht hsz hz (tree_row hw1) hsrc2 hl hb ty
  have h1':(Builtin.append_ #[T,T] ty #[X.hdr,Y.hdr]).run Γ.P w=.ok (TL.hdr (⟨a',c',e',X.els++Y.els,tl⟩:TL τ)) w':=by
   have:Y.hdr=.slice (some ad) Y.els.length Y.cap:=by show Value.slice Y.a _ _=_;rw [hya]
   rw [this];exact h1
  have h3:(execOp a.eval { dst:=some d,op:=.call { callee:=.builtin .append,args:=#[.tmp t,x],argTypes:=#[T,T] },type:=ty,pos:=pos,after:=af,guard:=none }).run Γ.P w=.ok (.value (TL.hdr (⟨a',c',e',X.els++Y.els,tl⟩:TL τ))) w':=by
   generalize TL.hdr (⟨a',c',e',X.els++Y.els,tl⟩:TL τ)=vv at *
   generalize X.hdr=uu at *
   generalize Y.hdr=yy at *
   simp [execOp,resolve,invoke,builtin,e1,e2,h1']
  rw [h3]
  refine ⟨[treeH (⟨a',c',e',X.els++Y.els,tl⟩:TL τ)],⟨_,rfl,?_,rfl⟩,?_⟩
  ·rw [dat_els,List.map_append,dat_els,dat_els]
  ·refine row_tree ?_
   have h5:=elsT_flat (xs:=Y.els) h2 (fun x _=>FlatT.flat x)
   have h4:Holds Γ.w0 Γ.S0 (elsT X.els::elsT Y.els::rowH (⟨a',c',e',X.els++Y.els,tl⟩:TL τ)::F) w' :=
    h5.perm (perm_cons (Ms:=[elsT Y.els,rowH (⟨a',c',e',X.els++Y.els,tl⟩:TL τ)]) (.there _ (.there _ (.here _))) (perm_cons (.here _) (perm_cons (.here _) (perm_nil_left _))))
   exact (elsT_app h4).perm (List.Perm.swap _ _ _)
 | none =>
  have hye:Y.els=[]:=hY.2.2.2.1 hya
  have hr0:GT.ow w X:=hw1.prs _ (List.mem_cons_self ..)
  have h5:(Builtin.append_ #[T,T] ty #[X.hdr,Y.hdr]).run Γ.P w=.ok X.hdr w:=by
   have:Y.hdr=.slice none 0 Y.cap:=by show Value.slice Y.a _ _=_;rw [hya,hye];rfl
   rw [this];exact append_none (P:=Γ.P) (w:=w) (a:=X.a) (n:=X.els.length) (c:=X.cap) (c2:=Y.cap) ht hr0.1 ty
  have h3:(execOp a.eval { dst:=some d,op:=.call { callee:=.builtin .append,args:=#[.tmp t,x],argTypes:=#[T,T] },type:=ty,pos:=pos,after:=af,guard:=none }).run Γ.P w=.ok (.value X.hdr) w:=by
   generalize X.hdr=uu at *
   generalize Y.hdr=yy at *
   simp [execOp,resolve,invoke,builtin,e1,e2,h5]
  rw [h3]
  exact ⟨[treeH X],⟨X,rfl,by rw [dat_els Y,hye];simp,rfl⟩,hw1⟩
end
section
variable {Γ:Cx} {rest:List Oper} {d:Nat} {ty:TypeId} {pos:String} {af:Array Edge} {gd:Option (Nat×Bool)}
variable {ops:Array Oper} {Msh pool pool':List HP} {E:Fl} {rs:List (Option Nat×Rel)} {cs0:List Nat} {KD:RKont}
def gm {α:Type} (g:Bool) (d:α) (o:Option α):Option α:=cond g o (some d)
@[simp] theorem gm_true {α:Type} {d:α} {o:Option α}:gm true d o=o:=rfl
@[simp] theorem gm_false {α:Type} {d:α} {o:Option α}:gm false d o=some d:=rfl
end
section
variable {Γ:Cx} {rest:List Oper} {d:Nat} {ty:TypeId} {pos:String} {af:Array Edge}
variable {ops:Array Oper} {Msh pool pool':List HP} {E:Fl} {rs:List (Option Nat×Rel)} {cs0:List Nat} {KD:RKont}
variable {τ δ:Type} [GT τ δ]
end
section
variable {Γ:Cx} {rest:List Oper} {d:Nat} {ty:TypeId} {pos:String} {af:Array Edge} {gd:Option (Nat×Bool)}
variable {ops:Array Oper} {Msh pool pool':List HP} {E:Fl} {rs:List (Option Nat×Rel)} {cs0:List Nat} {KD:RKont}
variable {τ δ:Type} [GT τ δ]
end
end Go.Proofs.SL
namespace Go.Proofs.SL
open Go
class FldF (P:Program) (T f:Nat) (o:outParam Nat):Prop where h:fldOf P T f=some o
class OneF (P:Program) (T:Nat):Prop where h:oneOf P T=true
class AggF (P:Program) (T:Nat) (n:outParam Nat):Prop where h:aggOf P T=some n
class ElF (P:Program) (T:Nat) (e sz by_:outParam Nat) (z:outParam (List Value)):Prop where h:elOf P T=some (e,sz,by_,z)
class ZerF (P:Program) (T:Nat) (z:outParam (List Value)):Prop where h:zeroOf P T=some z
class StrF (P:Program) (T:Nat):Prop where h:isStr P T=true
class FnF (P:Program) (f:Nat):Prop where h:IsFn P f
class BldF (P:Program) (T:Nat) (pl:outParam (List (Nat×Nat))) (z:outParam (List Value)):Prop where h:bldOf P T=some (pl,z)
class UndF (P:Program) (T:Nat) (d:outParam TypeDesc):Prop where h:P.underlying T=some d
theorem sj {α:Type} {a b:α} (h:some a=some b):a=b:=Option.some.inj h
theorem ba {α β:Type} {o:Option α} {k:α→Option β} {r:β} (h:Option.bind o k=some r):∃ y,o=some y∧k y=some r:=bind_any h
theorem pk {h:HP} {M M':List HP} (p:Pick h M M':=by first | (with_reducible repeat (first | exact Pick.here _ | apply Pick.there));done | (repeat (first | exact Pick.here _ | apply Pick.there))):Pick h M M':=p
theorem mm {h:HP} {M:List HP} (p:h∈M:=by first | (with_reducible repeat (first | exact List.Mem.head _ | apply List.Mem.tail));done | (repeat (first | exact List.Mem.head _ | apply List.Mem.tail))):h∈M:=p
theorem sb {l' l:Envl} (h:Sub l' l:=by repeat (first | exact Sub.nil _ | (apply Sub.cons;(· exact rfl)))):Sub l' l:=h
theorem ms {M' M:List HP} (h:MSub M' M:=by repeat (first | exact MSub.nil _ | (apply MSub.cons;(· exact pk)))):MSub M' M:=h
theorem pc {M Ms R:List HP} (h:List.Perm M (Ms++R):=by repeat (first | exact perm_nil_left _ | (apply perm_cons;(· exact pk)))):List.Perm M (Ms++R):=h
theorem bv {P:Program} {op:BinOp} {T:TypeId} {x y:Operand} {u v r:Value} (h:BinV P op T x y u v r:=by
 first
  | (with_reducible first | exact bv_add | exact bv_eql | exact bv_lss | exact bv_sub | exact bv_neq | exact bv_geq | exact bv_gtr | exact bv_leq | exact bv_seql | exact bv_sneq | exact bv_slss | exact bv_sgeq | exact bv_sgtr | exact bv_sleq | exact bv_mul | exact bv_and | exact bv_or | exact bv_xor)
  | ((with_reducible refine bv_beql ?_);exact UndF.h) | ((with_reducible refine bv_bneq ?_);exact UndF.h) | ((with_reducible refine bv_quo ?_);decide) | ((with_reducible refine bv_rem ?_);decide)
  | ((with_reducible refine bv_shl ?_ ?_)<;>decide) | ((with_reducible refine bv_shr ?_ ?_)<;>decide)):BinV P op T x y u v r:=h
theorem ocs {cs:List Value} (h:∀ v,v∈cs→v.oneCell'=true:=by first | exact allOne rfl | exact fun v hv=>GT.one _ v hv | (simp [Value.oneCell',TL.hdr,Value.cells];done)):∀ v,v∈cs→v.oneCell'=true:=h
section
variable {Γ:Cx} {l:Envl} {M M':List HP} {Q:Post} {K:Kont} {rest:List Oper} {d:Nat} {ty:TypeId} {pos:String} {af:Array Edge}
inductive Kp:List Nat→Envl→Envl→Prop
 | nil (l:Envl):Kp [] l []
 | cons {t:Nat} {v:Value} {ts:List Nat} {l l':Envl} (h:l.lookup t=some v) (hk:Kp ts l l'):Kp (t::ts) l ((t,v)::l')
theorem Kp.sub {ts:List Nat} {l l':Envl} (h:Kp ts l l'):Sub l' l:=by
 induction h with
 | nil l=>exact Sub.nil _
 | cons h _ ih=>exact Sub.cons h ih
theorem kp (ts:List Nat) {c:Code} {l':Envl} (k:W Γ c l' M Q) (h:Kp ts l l':=by repeat (first | exact Kp.nil _ | (apply Kp.cons;(· exact rfl)))):W Γ c l M Q:=W_weaken h.sub (MSub.refl _) k
theorem kq (ts:List Nat) {c:Code} {l':Envl} (k:W Γ c l' M' Q) (h:Kp ts l l':=by repeat (first | exact Kp.nil _ | (apply Kp.cons;(· exact rfl)))) (hm:M=M':=by (try simp only [List.cons_append,List.nil_append]);exact rfl):W Γ c l M Q:=W_weaken h.sub (hm ▸ MSub.refl _) k
theorem al {T:TypeId} {z:List Value} [hz:ZerF Γ.P T z] (hk:∀ b,L Γ rest ((d,.pointer (some ⟨b,0,none⟩))::l) (blk b z T::M) K) (hn:Nat.blt d Γ.n=true:=by exact rfl) :
  L Γ ({ dst:=some d,op:=.alloc T,type:=ty,pos,after:=af,guard:=none }::rest) l M K:=L_alloc hn hz.h hk
theorem bx {x:Operand} {T:TypeId} {v:Value} (hk:∀ b,L Γ rest ((d,.pointer (some ⟨b,0,none⟩))::l) (blk b v.cells.toList T::M) K) (hn:Nat.blt d Γ.n=true:=by exact rfl) (hx:ev l x=some v:=by exact rfl) :
  L Γ ({ dst:=some d,op:=.box T x,type:=ty,pos,after:=af,guard:=none }::rest) l M K:=L_box hn hx hk
end
section
variable {w0 w:World} {S0:List Nat} {M M' M1 M2:List HP}
def Own {τ δ:Type} [GT τ δ] (M:List HP) (t:τ) (M':List HP):Prop:=∀ (w0:World) (S0:List Nat) (w:World) (F:List HP),Holds w0 S0 (M++F) w→Holds w0 S0 (treeH t::(M'++F)) w
theorem own_pick {τ δ:Type} [GT τ δ] {t:τ} (p:Pick (treeH t) M M'):Own M t M':=fun _ _ _ F h=>h.perm (p.perm.append_right F)
theorem own_flat {τ δ:Type} [GT τ δ] {t:τ} (p:Flat t):Own M t M:=fun _ _ _ _ h=>h.addFlat p
theorem own_int {n:Int}:Own M n M:=own_flat (flat_int trivial)
theorem own_bool {n:Bool}:Own M n M:=own_flat (flat_bool _)
theorem own_str {n:ByteArray}:Own M n M:=own_flat (flat_str trivial)
theorem own_nil {τ δ:Type} [GT τ δ] {e:TypeId}:Own M (TL.nil τ e) M:=own_flat (flat_nil e)
theorem own_pair {α β δ ε:Type} [GT α δ] [GT β ε] {a:α} {b:β} (ha:Own M a M1) (hb:Own M1 b M2):Own M (a,b) M2:=fun w0 S0 w F h=>by
 have h1:=ha w0 S0 w F h
 have h2:Holds w0 S0 (M1++(treeH a::F)) w:=h1.perm List.perm_middle.symm
 have h3:=hb w0 S0 w _ h2
 have h4:Holds w0 S0 (treeH a::treeH b::(M2++F)) w:=h3.perm ((List.perm_middle.cons _).trans (List.Perm.swap _ _ _))
 exact pair_tree h4
theorem ow {τ δ:Type} [GT τ δ] {t:τ} (o:Own M t M':=by repeat (first | (with_reducible exact own_int) | (with_reducible exact own_bool) | (with_reducible exact own_str) | (with_reducible exact own_nil) | (with_reducible apply own_pair) | ((with_reducible apply own_pick);exact pk))):Own M t M':=o
theorem Own.h {τ δ:Type} [GT τ δ] {t:τ} (o:Own M t M') (h:Holds w0 S0 M w):Holds w0 S0 (treeH t::M') w:=by
 have:=o w0 S0 w [] (by simpa using h)
 simpa using this
def Exp {τ δ:Type} [GT τ δ] (t:τ) (M M':List HP):Prop:=∀ (w0:World) (S0:List Nat) (w:World) (F:List HP),Holds w0 S0 (treeH t::(M++F)) w→Holds w0 S0 (M'++F) w
theorem exp_flat {τ δ:Type} [GT τ δ] {t:τ}:Exp t M M:=fun _ _ _ F h=>h.sub ⟨[treeH t],List.perm_append_comm (l₁:=[treeH t]) (l₂:=M++F)⟩
theorem exp_int {n:Int}:Exp n M M:=exp_flat
theorem exp_bool {n:Bool}:Exp n M M:=exp_flat
theorem exp_str {n:ByteArray}:Exp n M M:=exp_flat
theorem exp_leaf {τ δ:Type} [GT τ δ] {t:TL τ}:Exp t M (treeH t::M):=fun _ _ _ _ h=>h
theorem exp_pair {α β δ ε:Type} [GT α δ] [GT β ε] {a:α} {b:β} (hb:Exp b M M1) (ha:Exp a M1 M2):Exp (a,b) M M2:=fun w0 S0 w F h=>by
 have h1:=tree_pair h
 have h2:Holds w0 S0 (treeH b::(M++(treeH a::F))) w:=h1.perm ((List.Perm.swap _ _ _).trans (List.perm_middle.symm.cons _))
 have h3:=hb w0 S0 w _ h2
 exact ha w0 S0 w F (h3.perm List.perm_middle)
theorem ex {τ δ:Type} [GT τ δ] {t:τ} (o:Exp t M M':=by repeat (first | (with_reducible exact exp_int) | (with_reducible exact exp_bool) | (with_reducible exact exp_str) | (with_reducible apply exp_pair) | (with_reducible exact exp_leaf))):Exp t M M':=o
theorem Exp.h {τ δ:Type} [GT τ δ] {t:τ} (o:Exp t M1 M') (p:Pick (treeH t) M M1) (h:Holds w0 S0 M w):Holds w0 S0 M' w:=by
 have:=o w0 S0 w [] (by simpa using h.perm p.perm)
 simpa using this
variable {Γ:Cx} {l:Envl} {Q:Post} {K:Kont} {c:Code} {r:List Oper}
theorem jW {τ δ:Type} [GT τ δ] (t:τ) (k:W Γ c l (treeH t::M') Q) (o:Own M t M':=by exact ow):W Γ c l M Q:=W_conv (fun _ h=>o.h h) k
theorem jL {τ δ:Type} [GT τ δ] (t:τ) (k:L Γ r l (treeH t::M') K) (o:Own M t M':=by exact ow):L Γ r l M K:=L_conv (fun _ h=>o.h h) k
theorem xW {τ δ:Type} [GT τ δ] (t:τ) (k:W Γ c l M' Q) (p:Pick (treeH t) M M1:=by exact pk) (o:Exp t M1 M':=by exact ex):W Γ c l M Q:=W_conv (fun _ h=>o.h p h) k
theorem xL {τ δ:Type} [GT τ δ] (t:τ) (k:L Γ r l M' K) (p:Pick (treeH t) M M1:=by exact pk) (o:Exp t M1 M':=by exact ex):L Γ r l M K:=L_conv (fun _ h=>o.h p h) k
end
theorem dd {a b:Prop} (h:a) (e:a→b:=by (intro h;(try dsimp only [dat_pair,dat_int,dat_bool,dat_str,dat_ar] at h);exact h)):b:=e h
theorem sc {p q:Prop} (k:q) (e:q→p:=by (intro k;(simp only [cells_pair,cells_int,cells_bool,cells_str,cells_TL,List.cons_append,List.nil_append]);exact k)):p:=e k
section
variable {ops:Array Oper} {E:Fl}
theorem gc {o:Oper} {c:Prop} (h:GC ops E o c:=by first | exact GC.none | exact GC.some rfl rfl):GC ops E o c:=h
theorem ov {x:Operand} {c:Prop} {v:Value} (h:OpV E x c v:=by first | exact OpV.c | exact OpV.t rfl | exact OpV.s rfl):OpV E x c v:=h
end
theorem L_extractL {Γ:Cx} {l:Envl} {M:List HP} {K:Kont} {rest:List Oper} {d:Nat} {ty:TypeId} {pos:String} {af:Array Edge} {x:Operand} {i:Nat} {vs:List Value} {v:Value} (hn:Nat.blt d Γ.n=true) (hx:ev l x=some (.tuple vs.toArray)) (hv:vs[i]?=some v) (hk:L Γ rest ((d,v)::l) M K) :
  L Γ ({ dst:=some d,op:=.extract x i,type:=ty,pos,after:=af,guard:=none }::rest) l M K:=L_extract hn hx (by simpa using hv) hk
theorem isLen {Γ:Cx} {l:Envl} {M:List HP} {K:Kont} {rest:List Oper} {d:Option Nat} {ty:TypeId} {pos:String} {af:Array Edge} {g:Option (Nat×Bool)} {x:Array Operand} {T:Array TypeId} (h:L Γ ({ dst:=d,op:=.call { callee:=.builtin .len,args:=x,argTypes:=T },type:=ty,pos:=pos,after:=af,guard:=g }::rest) l M K) :
  L Γ ({ dst:=d,op:=.call { callee:=.builtin .len,args:=x,argTypes:=T },type:=ty,pos:=pos,after:=af,guard:=g }::rest) l M K:=h
section
variable {Γ:Cx} {l:Envl} {M:List HP} {K:Kont} {Q:Post} {c:Code} {r:List Oper} {ops:Array Oper} {Msh pool:List HP} {E:Fl} {rs:List (Option Nat×Rel)} {cs0:List Nat} {KD:RKont}
theorem isL (h:L Γ r l M K):L Γ r l M K:=h
theorem isW (h:W Γ c l M Q):W Γ c l M Q:=h
theorem isD (h:DV Γ ops Msh pool E rs cs0 r KD):DV Γ ops Msh pool E rs cs0 r KD:=h
end
theorem s1 {p q:Prop} (k:q) (h:q→p:=by
 intro k
 (first
  | (with_reducible refine isL ?_);(first
   | (with_reducible apply L_move);(· exact rfl);(· exact rfl)
   | (with_reducible apply L_assign);(· exact rfl);(· exact rfl)
   | (with_reducible refine L_nil ?_)
   | (with_reducible apply L_binV);(· exact rfl);(· exact rfl);(· exact rfl);(· exact bv)
   | (with_reducible apply L_fieldAddr);(· exact rfl);(· exact rfl);(· exact FldF.h)
   | (with_reducible apply L_load);(· exact rfl);(· exact rfl);(· exact RdC.blk mm);(· exact OneF.h);(· exact rfl)
   | (with_reducible apply L_loadW);(· exact rfl);(· exact rfl);(· exact RdC.blk mm);(· exact AggF.h)
   | (with_reducible apply L_extractL);(· exact rfl);(· exact rfl);(· exact rfl)
   | (with_reducible apply L_store);(· exact rfl);(· exact rfl);(· exact pk);(· exact OneF.h);(· exact rfl);(· exact rfl)
   | (with_reducible apply L_storeW);(· exact rfl);(· exact rfl);(· exact pk);(· exact AggF.h);(· exact rfl);(· exact ocs)
   | (with_reducible refine isLen ?_);(first | refine L_lenT rfl rfl StrF.h ?_ | refine L_lenP rfl rfl ElF.h ?_)
   | (with_reducible apply L_not);(· exact rfl);(· exact rfl)
   | (with_reducible apply L_nilCheck);(· exact rfl);(· exact rfl))
  | (with_reducible refine isW ?_);(first
   | (with_reducible refine W_seq ?_)
   | (with_reducible refine W_region ?_)
   | (with_reducible refine W_skip ?_)
   | (with_reducible refine W_block ?_)
   | (with_reducible refine W_ret ?_))
  | (with_reducible refine isD ?_);(first
   | (with_reducible apply D_move);(· exact gc);(· exact ov)
   | (with_reducible apply D_fieldAddr);(· exact gc);(· exact ov);(· exact FldF.h)
   | (with_reducible apply D_load);(· exact gc);(· exact ov);(· exact fun _=>RdC.blk mm);(· exact OneF.h);(· exact rfl)
   | (with_reducible apply D_bin);(· exact gc);(· exact ov);(· exact ov);(· exact fun _=>bv)
   | (with_reducible apply D_and);(· exact gc);(· exact ov);(· exact ov);(· exact fun h hb=>⟨h,hb⟩)
   | (with_reducible apply D_or);(· exact gc);(· exact ov);(· exact ov);(· exact fun h hb=>⟨h,hb⟩)
   | (with_reducible apply D_loadW);(· exact gc);(· exact ov);(· exact fun _=>RdC.blk mm);(· exact AggF.h)
   | (with_reducible apply D_assign);(· exact gc);(· exact ov)
   | (with_reducible apply D_not);(· exact gc);(· exact ov)
   | (with_reducible apply D_nilCheck);(· exact gc);(· exact ov)
   | (with_reducible refine DV_nil ?_))
  | (with_reducible refine Give_nil ?_)
  | (with_reducible apply Give_drop);(· exact rfl)
  | (with_reducible apply Give_is);(· exact rfl);(· exact rfl)
  | (with_reducible apply Give_cons);(· exact rfl)
  | (with_reducible apply Give_drop')
  | (with_reducible apply Give_st))
 exact k):p:=h k
theorem s2 {p q:Prop} (k:q) (h:q→p:=by (intro k;(iterate 2 (refine s1 ?_));exact k)):p:=h k
theorem s3 {p q:Prop} (k:q) (h:q→p:=by (intro k;(iterate 3 (refine s1 ?_));exact k)):p:=h k
theorem s4 {p q:Prop} (k:q) (h:q→p:=by (intro k;(iterate 4 (refine s1 ?_));exact k)):p:=h k
theorem s5 {p q:Prop} (k:q) (h:q→p:=by (intro k;(iterate 5 (refine s1 ?_));exact k)):p:=h k
theorem s6 {p q:Prop} (k:q) (h:q→p:=by (intro k;(iterate 6 (refine s1 ?_));exact k)):p:=h k
theorem s7 {p q:Prop} (k:q) (h:q→p:=by (intro k;(iterate 7 (refine s1 ?_));exact k)):p:=h k
theorem s8 {p q:Prop} (k:q) (h:q→p:=by (intro k;(iterate 8 (refine s1 ?_));exact k)):p:=h k
theorem s9 {p q:Prop} (k:q) (h:q→p:=by (intro k;(iterate 9 (refine s1 ?_));exact k)):p:=h k
theorem s10 {p q:Prop} (k:q) (h:q→p:=by (intro k;(iterate 10 (refine s1 ?_));exact k)):p:=h k
theorem s11 {p q:Prop} (k:q) (h:q→p:=by (intro k;(iterate 11 (refine s1 ?_));exact k)):p:=h k
theorem s12 {p q:Prop} (k:q) (h:q→p:=by (intro k;(iterate 12 (refine s1 ?_));exact k)):p:=h k
theorem s13 {p q:Prop} (k:q) (h:q→p:=by (intro k;(iterate 13 (refine s1 ?_));exact k)):p:=h k
theorem s14 {p q:Prop} (k:q) (h:q→p:=by (intro k;(iterate 14 (refine s1 ?_));exact k)):p:=h k
theorem s15 {p q:Prop} (k:q) (h:q→p:=by (intro k;(iterate 15 (refine s1 ?_));exact k)):p:=h k
theorem s16 {p q:Prop} (k:q) (h:q→p:=by (intro k;(iterate 16 (refine s1 ?_));exact k)):p:=h k
theorem s17 {p q:Prop} (k:q) (h:q→p:=by (intro k;(iterate 17 (refine s1 ?_));exact k)):p:=h k
theorem s18 {p q:Prop} (k:q) (h:q→p:=by (intro k;(iterate 18 (refine s1 ?_));exact k)):p:=h k
theorem s19 {p q:Prop} (k:q) (h:q→p:=by (intro k;(iterate 19 (refine s1 ?_));exact k)):p:=h k
theorem s20 {p q:Prop} (k:q) (h:q→p:=by (intro k;(iterate 20 (refine s1 ?_));exact k)):p:=h k
end Go.Proofs.SL
namespace Go.Proofs.SL
open Go
abbrev T_Id:=Int×Int
abbrev T_Cmd:=Int×Int×Int×ByteArray×ByteArray×ByteArray×Int×(TL ByteArray)
abbrev T_Inst:=T_Id×Int×Int×Int×T_Cmd×Int×(TL T_Id)×Bool
abbrev T_Lead:=T_Id×Int×Int×Int×(TL T_Id)×(TL Int)×Bool
abbrev T_ENode:=Int×Int×(TL T_Inst)×(TL T_Lead)
abbrev T_EMsg:=Int×Int×Int×T_Id×Int×T_Cmd×Int×(TL T_Id)×Int×Int×Bool
abbrev T_ENet:=(TL T_ENode)×(TL T_EMsg)
abbrev T_CSnap:=ByteArray×ByteArray×(TL ByteArray)
abbrev T_CSet:=ByteArray×(TL T_CSnap)
abbrev T_Catalog:=TL T_CSet
abbrev T_Said:=Int×Int×ByteArray
abbrev T_State:=T_Catalog×(TL T_Said)
end Go.Proofs.SL
namespace Go.Proofs.SL
open Go
set_option maxHeartbeats 2000000
theorem mix:Tryz.prog.follows .mixedOrders=true:=by kernel_rfl
instance fn72:FnF Tryz.prog 72:=⟨_,Tryz.func72,by kernel_rfl,rfl⟩
noncomputable def s_l1In (a0:Int) (a1:Int) (a2:Int):Option Bool :=
 some ((decide (a1≤a0))&&(decide (a0≤a2)))
theorem s_l1In_walk (w:World) (a0:Int) (a1:Int) (a2:Int)  (r:Bool) (hp:s_l1In a0 a1 a2=some r):Spec Tryz.prog 63 [.int .i64 a0,.int .i64 a1,.int .i64 a2].toArray w [] (IsV (.bool r)):=by
 refine Spec.intro Tryz.func63 rfl Tryz.ntmps63 rfl ?_
 unfold s_l1In at hp
 replace hp:=dd hp
 refine s5 ?_
 refine W_D0 [6] mix (by kernel_rfl) rfl ?_
 refine s20 ?_
 obtain rfl:=sj hp
 refine s1 ?_
 refine res1 rfl (ResOK.tmp rfl) ⟨rfl,rfl⟩ ms
noncomputable def i_within (a0:Int) (a1:Int) (a2:Int):Option Bool :=
 some ((decide (a1≤a0))&&(decide (a0≤a2)))
theorem i_within_walk (w:World) (a0:Int) (a1:Int) (a2:Int)  (r:Bool) (hp:i_within a0 a1 a2=some r):Spec Tryz.prog 72 [.int .i64 a0,.int .i64 a1,.int .i64 a2].toArray w [] (IsV (.bool r)):=by
 refine Spec.intro Tryz.func72 rfl Tryz.ntmps72 rfl ?_
 unfold i_within at hp
 replace hp:=dd hp
 refine s5 ?_
 refine W_D0 [6] mix (by kernel_rfl) rfl ?_
 refine s20 ?_
 obtain rfl:=sj hp
 refine s1 ?_
 refine res1 rfl (ResOK.tmp rfl) ⟨rfl,rfl⟩ ms
noncomputable def s_l9Node (a0:Int):Option Bool :=
 some ((decide (0≤a0))&&(decide (a0 < 3)))
theorem s_l9Node_walk (w:World) (a0:Int)  (r:Bool) (hp:s_l9Node a0=some r):Spec Tryz.prog 62 [.int .i64 a0].toArray w [] (IsV (.bool r)):=by
 refine Spec.intro Tryz.func62 rfl Tryz.ntmps62 rfl ?_
 unfold s_l9Node at hp
 replace hp:=dd hp
 refine s5 ?_
 refine W_D0 [2] mix (by kernel_rfl) rfl ?_
 refine s16 ?_
 obtain rfl:=sj hp
 refine s1 ?_
 refine res1 rfl (ResOK.tmp rfl) ⟨rfl,rfl⟩ ms
noncomputable def i_isRep (a0:Int):Option Bool :=
 Option.bind (i_within a0 0 2) (fun y1=>some y1)
theorem i_isRep_walk (w:World) (a0:Int)  (r:Bool) (hp:i_isRep a0=some r):Spec Tryz.prog 71 [.int .i64 a0].toArray w [] (IsV (.bool r)):=by
 refine Spec.intro Tryz.func71 rfl Tryz.ntmps71 rfl ?_
 unfold i_isRep at hp
 replace hp:=dd hp
 refine s7 ?_
 replace hp:=ba hp;obtain ⟨y1,hy1,hp⟩:=hp
 refine L_callX rfl fn72.h rfl (by exact fun w hw=>i_within_walk w a0 0 2  _ hy1) ?_
 refine s2 ?_
 obtain rfl:=sj hp
 refine s1 ?_
 refine res1 rfl (ResOK.tmp rfl) ⟨rfl,rfl⟩ ms
end Go.Proofs.SL
namespace Go.Proofs
open Go.Shelf
def Tryz.laysSF54_ren:Go.Shelf.Ren:=⟨fun | 6=>54 | 15=>101 | 14=>100 | 28=>166 | 29=>167 | 20=>158 | 21=>159 | 22=>160 | 23=>161 | 24=>162 | 25=>163 | 26=>164 | 27=>165 | 46=>213 | 47=>214 | 48=>215 | 49=>216 | 50=>217 | 57=>235 | n=>n,fun | 22=>85 | 24=>92 | 25=>93 | 3=>3 | 39=>152 | 0=>0 | 53=>196 | 55=>198 | 4=>4 | 46=>189 | 45=>188 | 50=>193 | 5=>5 | 9=>9 | 66=>221 | 70=>225 | 76=>237 | 77=>238 | n=>n,fun | n=>n⟩
theorem Tryz.laysSF54:Go.Proofs.SlLaysF0.n6 Tryz.prog Tryz.laysSF54_ren:={
 mixed:=by kernel_rfl
 f6:=⟨Tryz.f54.name,by decide,Tryz.func54.trans (congrArg some (by kernel_rfl))⟩
 f14:=⟨Tryz.f100.name,by decide,Tryz.func100.trans (congrArg some (by kernel_rfl))⟩
 f15:=Tryz.func101.trans (congrArg some (by kernel_rfl))
 f20:=⟨Tryz.f158.name,by decide,Tryz.func158.trans (congrArg some (by kernel_rfl))⟩
 f21:=⟨Tryz.f159.name,by decide,Tryz.func159.trans (congrArg some (by kernel_rfl))⟩
 f22:=⟨Tryz.f160.name,by decide,Tryz.func160.trans (congrArg some (by kernel_rfl))⟩
 f23:=⟨Tryz.f161.name,by decide,Tryz.func161.trans (congrArg some (by kernel_rfl))⟩
 f24:=⟨Tryz.f162.name,by decide,Tryz.func162.trans (congrArg some (by kernel_rfl))⟩
 f25:=⟨Tryz.f163.name,by decide,Tryz.func163.trans (congrArg some (by kernel_rfl))⟩
 f26:=⟨Tryz.f164.name,by decide,Tryz.func164.trans (congrArg some (by kernel_rfl))⟩
 f27:=⟨Tryz.f165.name,by decide,Tryz.func165.trans (congrArg some (by kernel_rfl))⟩
 f28:=Tryz.func166.trans (congrArg some (by kernel_rfl))
 f29:=Tryz.func167.trans (congrArg some (by kernel_rfl))
 f46:=⟨Tryz.f213.name,by decide,Tryz.func213.trans (congrArg some (by kernel_rfl))⟩
 f47:=Tryz.func214.trans (congrArg some (by kernel_rfl))
 f48:=Tryz.func215.trans (congrArg some (by kernel_rfl))
 f49:=⟨Tryz.f216.name,by decide,Tryz.func216.trans (congrArg some (by kernel_rfl))⟩
 f50:=⟨Tryz.f217.name,by decide,Tryz.func217.trans (congrArg some (by kernel_rfl))⟩
 f57:=⟨Tryz.f235.name,by decide,Tryz.func235.trans (congrArg some (by kernel_rfl))⟩
 t0:=Tryz.underlying0
 a0:=Tryz.isAgg0
 z0:=Tryz.sizeOf0
 v0:=Tryz.zeroValue0
 t3:=Tryz.underlying3
 a3:=Tryz.isAgg3
 z3:=Tryz.sizeOf3
 v3:=Tryz.zeroValue3
 t4:=Tryz.underlying4
 a4:=Tryz.isAgg4
 z4:=Tryz.sizeOf4
 v4:=Tryz.zeroValue4
 t5:=Tryz.underlying5
 a5:=Tryz.isAgg5
 z5:=Tryz.sizeOf5
 v5:=Tryz.zeroValue5
 t9:=Tryz.underlying9
 a9:=Tryz.isAgg9
 z9:=Tryz.sizeOf9
 v9:=Tryz.zeroValue9
 t22:=Tryz.underlying85
 a22:=Tryz.isAgg85
 z22:=Tryz.sizeOf85
 v22:=Tryz.zeroValue85
 t25:=Tryz.underlying93
 a25:=Tryz.isAgg93
 z25:=Tryz.sizeOf93
 v25:=Tryz.zeroValue93
 t39:=Tryz.underlying152
 a39:=Tryz.isAgg152
 z39:=Tryz.sizeOf152
 v39:=Tryz.zeroValue152
 t45:=Tryz.underlying188
 a45:=Tryz.isAgg188
 z45:=Tryz.sizeOf188
 v45:=Tryz.zeroValue188
 t46:=Tryz.underlying189
 a46:=Tryz.isAgg189
 z46:=Tryz.sizeOf189
 v46:=Tryz.zeroValue189
 t50:=Tryz.underlying193
 a50:=Tryz.isAgg193
 z50:=Tryz.sizeOf193
 v50:=Tryz.zeroValue193
 t53:=Tryz.underlying196
 a53:=Tryz.isAgg196
 z53:=Tryz.sizeOf196
 v53:=Tryz.zeroValue196
 t55:=Tryz.underlying198
 a55:=Tryz.isAgg198
 z55:=Tryz.sizeOf198
 v55:=Tryz.zeroValue198
 t66:=Tryz.underlying221
 a66:=Tryz.isAgg221
 z66:=Tryz.sizeOf221
 v66:=Tryz.zeroValue221
 t70:=Tryz.underlying225
 a70:=Tryz.isAgg225
 z70:=Tryz.sizeOf225
 v70:=Tryz.zeroValue225
 t76:=Tryz.underlying237
 a76:=Tryz.isAgg237
 z76:=Tryz.sizeOf237
 v76:=Tryz.zeroValue237
 t77:=Tryz.underlying238
 a77:=Tryz.isAgg238
 z77:=Tryz.sizeOf238
 v77:=Tryz.zeroValue238 }
end Go.Proofs
