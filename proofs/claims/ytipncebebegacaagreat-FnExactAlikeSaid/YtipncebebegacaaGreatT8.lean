/- The texts of the proof, part 8: the base, walks of functions, plain Lean. -/
import Derived.Test.YtipncebebegacaaGreatT7
import Derived.Test.YtipncebebegacaaGreatT5
import Derived.Test.YtipncebebegacaaGreatT6
namespace Go.Proofs.SL
open Go
variable {Γ:Cx} {l:Envl} {A:List HP} {rest:List Oper} {d:Nat} {ty:TypeId} {pos:String} {af:Array Edge} {gd:Option (Nat×Bool)}
variable {ops:Array Oper} {Msh pool:List HP} {E:Fl} {rs:List (Option Nat×Rel)} {cs0:List Nat} {KD:RKont}
section
variable {τ δ:Type} [GT τ δ] [FlatT τ]
theorem D_app1OO {t1 t2 T e sz by_:Nat} {z:List Value} {T':TypeId} (y:τ) {ra r:List δ}
  (hs:E.lookup t1=some (OwnV (τ:=τ) ra)) (hx:E.lookup t2=some (RowV (GT.cells y) T')) (ht:elOf Γ.P T=some (e,sz,by_,z)) (hsz:GT.sz τ=sz) (hz:z.length=sz)
  (hr:appP ra [GT.dat y]=some r) (hb:by_≤32768)
  (hlin:linB ops { dst:=some d,op:=.call { callee:=.builtin .append,args:=#[.tmp t1,.tmp t2],argTypes:=#[T,T] },type:=ty,pos:=pos,after:=af,guard:=none } [t1,t2]=true)
  (hk:DV Γ ops Msh pool ((d,OwnV (τ:=τ) r)::dropE [t1,t2] E) ((some d,OwnV (τ:=τ) r)::rs) ([t1,t2]++cs0) rest KD) :
  DV Γ ops Msh pool E rs cs0 ({ dst:=some d,op:=.call { callee:=.builtin .append,args:=#[.tmp t1,.tmp t2],argTypes:=#[T,T] },type:=ty,pos:=pos,after:=af,guard:=none }::rest) KD:=by
 refine DV.mk (OwnV (τ:=τ) r) [] pool [t1,t2] (by simp) hlin ?_ hk
 intro a w F Mk _ _ hw hm hfa hcf
 obtain ⟨M1,Mk1,rfl,hR1,M2,Mk2,rfl,hR2,hnil⟩:=hcf
 have hnil:Mk2=[]:=hnil
 subst hnil
 obtain ⟨X,hv1,hd,rfl⟩:=hR1 _ hs
 subst hd
 obtain ⟨b,hv2,rfl⟩:=hR2 _ hx
 rw [if_pos (by simp [Region.wanted])]
 have e1:a.eval (.tmp t1)=X.hdr:=hv1
 have e2:a.eval (.tmp t2)=.slice (some ⟨b,0,none⟩) 1 1:=hv2
 obtain ⟨hl,rfl⟩:=appP_some hr
 simp only [dat_els,List.length_map,List.length_cons,List.length_nil] at hl
 have hw1:Holds Γ.w0 Γ.S0 (treeH X::blk b (GT.cells y) T'::F) w:=by simpa using hw
 have hsrc:∀ j v,(rowCells [y])[j]?=some v→w.cell? ((⟨b,0,none⟩:Addr).add j)=some v:=fun j v hv=>by
  rw [addr_add]
  exact RdC.blk (Γ:=Γ) (M:=treeH X::blk b (GT.cells y) T'::F) (List.mem_cons_of_mem _ (List.mem_cons_self ..)) w hw1.sees j v (by simpa [rowCells] using hv)
 obtain ⟨a',c',e',tl,w',h1,h2⟩:=append_rowE (P:=Γ.P) (c:=1) ht hsz hz (tree_row hw1) hsrc (by simpa using hl) hb ty
 have h1':(Builtin.append_ #[T,T] ty #[X.hdr,.slice (some ⟨b,0,none⟩) 1 1]).run Γ.P w=.ok (TL.hdr (⟨a',c',e',X.els++[y],tl⟩:TL τ)) w':=h1
 have h3:(execOp a.eval { dst:=some d,op:=.call { callee:=.builtin .append,args:=#[.tmp t1,.tmp t2],argTypes:=#[T,T] },type:=ty,pos:=pos,after:=af,guard:=none }).run Γ.P w=.ok (.value (TL.hdr (⟨a',c',e',X.els++[y],tl⟩:TL τ))) w':=by
  generalize TL.hdr (⟨a',c',e',X.els++[y],tl⟩:TL τ)=vv at *
  generalize X.hdr=uu at *
  simp [execOp,resolve,invoke,builtin,e1,e2,h1']
 rw [h3]
 refine ⟨[treeH (⟨a',c',e',X.els++[y],tl⟩:TL τ)],⟨_,rfl,?_,rfl⟩,?_⟩
 ·rw [dat_els,List.map_append];rfl
 ·refine row_tree ?_
  have h4:Holds Γ.w0 Γ.S0 (elsT X.els::elsT [y]::rowH (⟨a',c',e',X.els++[y],tl⟩:TL τ)::F) w':=by
   have h5:=elsT_flat (xs:=[y]) h2 (fun x _=>FlatT.flat x)
   have h6:Holds Γ.w0 Γ.S0 (elsT X.els::elsT [y]::rowH (⟨a',c',e',X.els++[y],tl⟩:TL τ)::blk b (GT.cells y) T'::F) w' :=
    h5.perm (((List.Perm.swap _ _ _).cons _).trans (List.Perm.swap _ _ _))
   exact h6.sub ⟨[blk b (GT.cells y) T'],by
    show List.Perm _ (([elsT X.els,elsT [y],rowH (⟨a',c',e',X.els++[y],tl⟩:TL τ)]++F)++[blk b (GT.cells y) T'])
    rw [List.append_assoc]
    exact (List.perm_append_comm (l₁:=[blk b (GT.cells y) T']) (l₂:=F)).append_left [elsT X.els,elsT [y],rowH (⟨a',c',e',X.els++[y],tl⟩:TL τ)]⟩
  exact (elsT_app h4).perm (List.Perm.swap _ _ _)
end
section
variable {τ δ:Type} [GT τ δ]
theorem D_lenO {t:Nat} {T:TypeId} {e:TypeId×Nat×Nat×List Value} {c:Prop} {r:List δ} (hR:E.lookup t=some (OwnV (τ:=τ) r))
  (hg:GC ops E { dst:=some d,op:=.call { callee:=.builtin .len,args:=#[.tmp t],argTypes:=#[T] },type:=ty,pos:=pos,after:=af,guard:=gd } c) (ht:elOf Γ.P T=some e)
  (hk:DV Γ ops Msh pool ((d,FC c (.int .i64 (r.length:Int)))::E) ((some d,FC c (.int .i64 (r.length:Int)))::rs) cs0 rest KD) :
  DV Γ ops Msh pool E rs cs0 ({ dst:=some d,op:=.call { callee:=.builtin .len,args:=#[.tmp t],argTypes:=#[T] },type:=ty,pos:=pos,after:=af,guard:=gd }::rest) KD :=
 DV_pure c _ hg (fun a' w F hc hf _=>by
  have h1:=OpRs.evals (o:={ dst:=some d,op:=.call { callee:=.builtin .len,args:=#[.tmp t],argTypes:=#[T] },type:=ty,pos:=pos,after:=af,guard:=gd }) hf [.tmp t] [OwnV (τ:=τ) r] ⟨⟨_,hR,fun _ _ h=>h⟩,trivial⟩ (fun x hx=>by simp [Op.operands,Call.operands] at hx ⊢;exact hx)
  obtain ⟨v,us,M,e1,hr,-,-⟩:=h1
  obtain ⟨X,hX,hd,_⟩:=hr
  have e2:a'.eval (.tmp t)=X.hdr:=by
   have:=List.head_eq_of_cons_eq e1
   rw [this,hX]
  have e3:a'.eval (.tmp t)=.slice X.a X.els.length X.cap:=e2
  have:=run_len_slice (z:=e) ht X.a X.els.length X.cap ty w
  have hl:r.length=X.els.length:=by rw [← hd,dat_els,List.length_map]
  rw [hl]
  simp [execOp,resolve,invoke,builtin,e3,this]) hk
theorem PU_slcF {x:Operand} {lo hi:Option Operand} {T e sz by_:Nat} {z:List Value} {X:TL τ} {a b:Int} {r:List δ} (hn:Nat.blt d Γ.n=true) (hx:ev l x=some X.hdr) (hlo:optI l lo 0=some a) (hhi:optI l hi ((GT.dat X).length:Int)=some b)
  (ht:elOf Γ.P T=some (e,sz,by_,z)) (hsz:GT.sz τ=sz) (hcap:X.els.length≤X.cap) (hr:slcP (GT.dat X) a b=some r) :
  Pu Γ A l { dst:=some d,op:=.slice T x lo hi none,type:=ty,pos:=pos,after:=af,guard:=none } d (slc X a.toNat b.toNat).hdr:=by
 unfold slcP at hr
 split at hr
 ·rename_i hb
  cases hr
  rw [dat_els,List.length_map] at hb hhi
  obtain ⟨h0,h1,h2⟩:=hb
  have h1':a.toNat≤b.toNat:=by omega
  have h2':b.toNat≤X.els.length:=by omega
  refine PU_pure hn (v:=(slc X a.toNat b.toNat).hdr) (fun a' w ha hw=>?_)
  unfold elOf at ht
  split at ht<;>(try cases ht)
  rename_i e' het
  split at ht<;>(try cases ht)
  rename_i i' hi'
  split at ht<;>cases ht
  have hlen:((X.els.drop a.toNat).take (b.toNat - a.toNat)).length=b.toNat - a.toNat:=by simp;omega
  have hv:(slc X a.toNat b.toNat).hdr=.slice (if X.cap=a.toNat then X.a else X.a.map (·.add (a.toNat*i'.size))) (b.toNat - a.toNat) (X.cap - a.toNat):=by
   show Value.slice _ ((X.els.drop a.toNat).take (b.toNat - a.toNat)).length _=_
   rw [hlen];simp only [slc,hsz]
  rw [hv]
  have e1:a'.eval x=.slice X.a X.els.length X.cap:=ha.eval hx
  cases lo with
  | none =>
   cases hlo
   cases hi with
   | none =>
    cases hhi
    simp only [execOp,Option.map_none,e1,Instr.sliceAt,Instr.slice,underlying,Sem.run_bind,run_program,Result.andThen_ok,het,Instr.sliceBounds,Sem.run_pure,sizeOf,typeInfo,hi']
    simp
   | some o =>
    obtain ⟨k,h5⟩:=optI_some hhi
    have e2:=ha.eval h5
    have e4:=fun w=>run_sliceBound (P:=Γ.P) (k:=k) (code:=.sliceAcap) (show 0≤b by omega) (show b≤((X.cap:Nat):Int) by omega) w
    simp [execOp,e1,e2,Instr.sliceAt,Instr.slice,underlying,het,Instr.sliceBounds,sizeOf,typeInfo,hi',e4]
  | some o1 =>
   obtain ⟨k1,h6⟩:=optI_some hlo
   have e3:=ha.eval h6
   cases hi with
   | none =>
    cases hhi
    have e4:=fun w=>run_sliceBound (P:=Γ.P) (k:=k1) (code:=.sliceB) h0 (show a≤((X.els.length:Nat):Int) by omega) w
    simp [execOp,e1,e3,Instr.sliceAt,Instr.slice,underlying,het,Instr.sliceBounds,sizeOf,typeInfo,hi',e4]
   | some o =>
    obtain ⟨k,h5⟩:=optI_some hhi
    have e2:=ha.eval h5
    have e4:=fun w=>run_sliceBound (P:=Γ.P) (k:=k) (code:=.sliceAcap) (show 0≤b by omega) (show b≤((X.cap:Nat):Int) by omega) w
    have e5:=fun w=>run_sliceBound (P:=Γ.P) (k:=k1) (code:=.sliceB) h0 (show a≤((b.toNat:Nat):Int) by omega) w
    simp [execOp,e1,e2,e3,Instr.sliceAt,Instr.slice,underlying,het,Instr.sliceBounds,sizeOf,typeInfo,hi',e4,e5]
 ·cases hr
theorem cap_of {X:TL τ} {M M1:List HP} {w0 w:World} {S0:List Nat} (p:Pick (treeH X) M M1) (h:Holds w0 S0 M w):X.els.length≤X.cap:=((h.perm p.perm).prs (treeH X) (List.mem_cons_self ..)).1
end
end Go.Proofs.SL
namespace Go.Proofs.SL
open Go
variable {Γ:Cx} {l:Envl} {M M1 A:List HP} {K:Kont} {Q:Post} {rest:List Oper} {d:Nat} {ty:TypeId} {pos:String} {af:Array Edge} {gd:Option (Nat×Bool)} {w0 w:World} {S0:List Nat}
variable {ops:Array Oper} {Msh pool:List HP} {E:Fl} {rs:List (Option Nat×Rel)} {cs0:List Nat} {KD:RKont}
section
variable {τ δ:Type} [GT τ δ]
theorem els_eq {xs ys:List τ} (e:xs=ys) (p:Pick (elsT xs) M M1) (h:Holds w0 S0 M w):Holds w0 S0 (elsT ys::M1) w:=by subst e;exact h.perm p.perm
theorem W_rawH {c:Code} {X:TL τ} {i:Nat} {u:τ} (hu:X.els[i]?=some u) (p:Pick (holeH X i (GT.cells u)) M M1)
  (hk:X.a=some ⟨X.g,0,none⟩→X.els.length≤X.cap→X.cap≤maxLen→X.els.length*GT.sz τ+X.tail.length=X.cap*GT.sz τ→W Γ c l (blk X.g (rowCells X.els++X.tail) X.e::elsT (X.els.eraseIdx i)::M1) Q):W Γ c l M Q:=by
 refine W_fact (φ:=X.a=some ⟨X.g,0,none⟩∧X.els.length≤X.cap∧X.cap≤maxLen∧X.els.length*GT.sz τ+X.tail.length=X.cap*GT.sz τ) (fun w h=>?_) (fun ⟨f1,f2,f3,f4⟩=>W_conv (fun w h=>?_) (hk f1 f2 f3 f4))
 ·obtain ⟨_,_,h3,h4,h5,_,_,h8⟩:=(h.perm p.perm).prs (holeH X i (GT.cells u)) (List.mem_cons_self ..)
  exact ⟨h5,h3,h4,h8⟩
 ·have h1:=h.perm p.perm
  obtain ⟨_,_,_,_,_,h6,h7,_⟩:=h1.prs (holeH X i (GT.cells u)) (List.mem_cons_self ..)
  refine h1.reFp (List.Perm.of_eq ?_) fun x hx=>?_
  ·simp only [fps_cons]
   show ([X.g]++(X.els.eraseIdx i).flatMap GT.fp)++fps M1=[X.g]++((X.els.eraseIdx i).flatMap GT.fp++fps M1)
   rw [List.append_assoc]
  ·rcases List.mem_cons.1 hx with rfl | hx
   ·show _=some (Obj.cells (rowCells X.els++X.tail).toArray X.e (0,0))
    rw [h7,row_parts X.els hu,List.append_assoc,List.append_assoc]
   rcases List.mem_cons.1 hx with rfl | hx
   ·exact h6
   ·exact h1.prs _ (List.mem_cons_of_mem _ hx)
end
def fldA (P:Program) (T:TypeId) (f:Nat):Option (Nat×Nat):=match P.underlying T with
 | some (.struct fs)=>match fs[f]? with
  | some x=>(aggOf P x.type).map fun n=>(x.offset,n)
  | none=>none
 | _=>none
theorem run_fieldA {P:Program} {T f fo n:Nat} {cs:List Value} (ht:fldA P T f=some (fo,n)) (w:World):(Instr.field T (.agg cs.toArray) f).run P w=.ok (.agg ((cs.drop fo).take n).toArray) w:=by
 unfold fldA at ht
 split at ht<;>(try cases ht)
 rename_i fs hfs
 split at ht<;>(try cases ht)
 rename_i x hx
 obtain ⟨m,hm,e⟩:=Option.map_eq_some_iff.1 ht
 cases e
 obtain ⟨h1,h2⟩:=run_isAgg_agg hm w
 simp [Instr.field,underlying,hfs,hx,asAgg,part,h1,h2,List.take_drop]
theorem L_fieldA {x:Operand} {T f fo n:Nat} {cs us:List Value} (hn:Nat.blt d Γ.n=true) (hx:ev l x=some (.agg cs.toArray)) (ht:fldA Γ.P T f=some (fo,n)) (hv:(cs.drop fo).take n=us) (hk:L Γ rest ((d,.agg us.toArray)::l) M K) :
  L Γ ({ dst:=some d,op:=.field T x f,type:=ty,pos:=pos,after:=af,guard:=none }::rest) l M K :=
 L_pure hn (fun a w ha _=>by rw [← hv];simp [execOp,ha.eval hx,run_fieldA ht w]) hk
end Go.Proofs.SL
namespace Go.Proofs.SL
open Go
set_option maxHeartbeats 2000000
abbrev D_Cmd:=Int×Int×Int×ByteArray×ByteArray×ByteArray×Int×(List ByteArray)
instance el65:ElF Tryz.prog 65 9 1 16 [.string ByteArray.empty]:=⟨by kernel_rfl⟩
instance one9:OneF Tryz.prog 9:=⟨by kernel_rfl⟩
instance fld69_0:FldF Tryz.prog 69 0 0:=⟨by kernel_rfl⟩
instance one3:OneF Tryz.prog 3:=⟨by kernel_rfl⟩
instance fld69_1:FldF Tryz.prog 69 1 1:=⟨by kernel_rfl⟩
instance fld69_2:FldF Tryz.prog 69 2 2:=⟨by kernel_rfl⟩
instance fld69_3:FldF Tryz.prog 69 3 3:=⟨by kernel_rfl⟩
instance fld69_4:FldF Tryz.prog 69 4 4:=⟨by kernel_rfl⟩
instance fld69_5:FldF Tryz.prog 69 5 5:=⟨by kernel_rfl⟩
instance fld69_6:FldF Tryz.prog 69 6 6:=⟨by kernel_rfl⟩
instance fld69_7:FldF Tryz.prog 69 7 7:=⟨by kernel_rfl⟩
instance one65:OneF Tryz.prog 65:=⟨by kernel_rfl⟩
instance fn218:FnF Tryz.prog 218:=⟨_,Tryz.func218,by kernel_rfl,rfl⟩
instance str9:StrF Tryz.prog 9:=⟨by kernel_rfl⟩
instance fn63:FnF Tryz.prog 63:=⟨_,Tryz.func63,by kernel_rfl,rfl⟩
instance fn206:FnF Tryz.prog 206:=⟨_,Tryz.func206,by kernel_rfl,rfl⟩
instance agg69:AggF Tryz.prog 69 8:=⟨by kernel_rfl⟩
instance bld69:BldF Tryz.prog 69 [(0,1),(1,1),(2,1),(3,1),(4,1),(5,1),(6,1),(7,1)] [.int .i64 0,.int .i64 0,.int .i64 0,.string ByteArray.empty,.string ByteArray.empty,.string ByteArray.empty,.int .i64 0,.slice none 0 0]:=⟨by kernel_rfl⟩
instance fn173:FnF Tryz.prog 173:=⟨_,Tryz.func173,by kernel_rfl,rfl⟩
instance fn174:FnF Tryz.prog 174:=⟨_,Tryz.func174,by kernel_rfl,rfl⟩
instance fn224:FnF Tryz.prog 224:=⟨_,Tryz.func224,by kernel_rfl,rfl⟩
instance fn225:FnF Tryz.prog 225:=⟨_,Tryz.func225,by kernel_rfl,rfl⟩
instance fn186:FnF Tryz.prog 186:=⟨_,Tryz.func186,by kernel_rfl,rfl⟩
instance fn187:FnF Tryz.prog 187:=⟨_,Tryz.func187,by kernel_rfl,rfl⟩
instance fn188:FnF Tryz.prog 188:=⟨_,Tryz.func188,by kernel_rfl,rfl⟩
noncomputable def s_l4Texts (a0:List ByteArray) (a1:List ByteArray):Option Bool :=
 cond (!decide ((a0.length:Int)=(a1.length:Int))) (some false) (whileP (fun s2:Int=>cond (decide (s2 < (a0.length:Int))) (Option.bind (idx a0 s2) (fun y4=>Option.bind (idx a1 s2) (fun y5=>cond (!decide (y4=y5)) (Option.map .inr (some false)) (some (.inl (IntKind.wrap .i64 (s2+1))))))) (Option.map .inr (some true))) 0)
theorem s_l4Texts_walk (w:World) (a0:TL ByteArray) (a1:TL ByteArray) (h0:GT.rd w [] a0) (h1:GT.rd w [] a1) (r:Bool) (hp:s_l4Texts (GT.dat a0) (GT.dat a1)=some r):Spec Tryz.prog 218 [(TL.hdr a0),(TL.hdr a1)].toArray w [] (IsV (.bool r)):=by
 refine Spec.intro Tryz.func218 rfl Tryz.ntmps218 rfl ?_
 unfold s_l4Texts at hp
 replace hp:=dd hp
 refine s13 ?_
 refine kp [0,1,10] ?_
 refine W_cond rfl (fun q1=>?_) (fun q1=>?_)
 ·replace hp:=cond_t q1 hp
  refine s4 ?_
  obtain rfl:=sj hp
  refine s1 ?_
  refine res1 rfl (ResOK.tmp rfl) ⟨rfl,rfl⟩ ms
 ·replace hp:=cond_f q1 hp
  refine s7 ?_
  refine W_while (σ:=Int) GT.dat (fun (v2_0:Int)=>[(5,.int .i64 v2_0)]) (fun (v2_0:Int)=>[]) [(0,_),(1,_)] [] 0 hp sb ms ?_
  clear hp
  rintro v2_0 x2 hp hx2
  replace hp:=dd hp
  refine kq [0,1,5] ?_
  refine s8 ?_
  refine kp [0,1,5,14] ?_
  refine W_cond rfl (fun q3=>?_) (fun q3=>?_)
  ·replace hp:=cond_t q3 hp
   refine s4 ?_
   replace hp:=idx_bind hp;obtain ⟨u4,hy4,hp⟩:=hp
   replace hp:=idx_bind hp;obtain ⟨u5,hy5,hp⟩:=hp
   refine W_D0 [25] mix (by kernel_rfl) rfl ?_
   refine s2 ?_
   refine D_idxA (X:=a0) GC.none (OpV.t rfl) (OpV.t rfl) el65.h (RdT.old h0) (fun _=>hy4) ?_
   refine D_load0 GC.none (OpV.t rfl) (fun hg=>RdT.at (RdT.old h0) (hy4).2) one9.h rfl ?_
   refine s2 ?_
   refine D_idxA (X:=a1) GC.none (OpV.t rfl) (OpV.t rfl) el65.h (RdT.old h1) (fun _=>hy5) ?_
   refine D_load0 GC.none (OpV.t rfl) (fun hg=>RdT.at (RdT.old h1) (hy5).2) one9.h rfl ?_
   refine s12 ?_
   refine kp [0,1,5,25] ?_
   refine W_cond rfl (fun q6=>?_) (fun q6=>?_)
   ·replace hp:=cond_t q6 hp
    refine s4 ?_
    replace hp:=map_any hp;obtain ⟨a7,hp,z_7⟩:=hp
    obtain rfl:=hx2 _ z_7
    obtain rfl:=sj hp
    refine s1 ?_
    refine res1 rfl (ResOK.tmp rfl) ⟨rfl,rfl⟩ ms
   ·replace hp:=cond_f q6 hp
    refine s6 ?_
    exact ⟨IntKind.wrap .i64 (v2_0+1),sb,(.sub ms),some_eq hp⟩
  ·replace hp:=cond_f q3 hp
   refine W_exit ?_
   replace hp:=map_any hp;obtain ⟨a8,hp,z_8⟩:=hp
   obtain rfl:=hx2 _ z_8
   refine s4 ?_
   obtain rfl:=sj hp
   refine s1 ?_
   refine res1 rfl (ResOK.tmp rfl) ⟨rfl,rfl⟩ ms
noncomputable def s_SameCmd (a0:D_Cmd) (a1:D_Cmd):Option Bool :=
 gb (((((((decide (a0.1=a1.1))&&(decide (a0.2.1=a1.2.1)))&&(decide (a0.2.2.1=a1.2.2.1)))&&(decide (a0.2.2.2.1=a1.2.2.2.1)))&&(decide (a0.2.2.2.2.1=a1.2.2.2.2.1)))&&(decide (a0.2.2.2.2.2.1=a1.2.2.2.2.2.1)))&&(decide (a0.2.2.2.2.2.2.1=a1.2.2.2.2.2.2.1))) (s_l4Texts a0.2.2.2.2.2.2.2 a1.2.2.2.2.2.2.2) (fun y1=>some ((((((((decide (a0.1=a1.1))&&(decide (a0.2.1=a1.2.1)))&&(decide (a0.2.2.1=a1.2.2.1)))&&(decide (a0.2.2.2.1=a1.2.2.2.1)))&&(decide (a0.2.2.2.2.1=a1.2.2.2.2.1)))&&(decide (a0.2.2.2.2.2.1=a1.2.2.2.2.2.1)))&&(decide (a0.2.2.2.2.2.2.1=a1.2.2.2.2.2.2.1)))&&y1))
theorem s_SameCmd_walk (w:World) (a0:T_Cmd) (a1:T_Cmd) (h0:GT.rd w [] a0) (h1:GT.rd w [] a1) (r:Bool) (hp:s_SameCmd (GT.dat a0) (GT.dat a1)=some r):Spec Tryz.prog 173 [.agg (GT.cells a0).toArray,.agg (GT.cells a1).toArray].toArray w [] (IsV (.bool r)):=by
 obtain ⟨a0_1,a0_2,a0_3,a0_4,a0_5,a0_6,a0_7,a0_8⟩:=a0
 obtain ⟨a1_1,a1_2,a1_3,a1_4,a1_5,a1_6,a1_7,a1_8⟩:=a1
 change Spec _ _ ([Value.agg #[.int .i64 a0_1,.int .i64 a0_2,.int .i64 a0_3,.string a0_4,.string a0_5,.string a0_6,.int .i64 a0_7,(TL.hdr a0_8)],Value.agg #[.int .i64 a1_1,.int .i64 a1_2,.int .i64 a1_3,.string a1_4,.string a1_5,.string a1_6,.int .i64 a1_7,(TL.hdr a1_8)]]:List Value).toArray w [] _
 refine Spec.intro Tryz.func173 rfl Tryz.ntmps173 rfl ?_
 unfold s_SameCmd at hp
 replace hp:=dd hp
 refine s2 ?_
 refine bx fun bk2=>?_
 refine bx fun bk3=>?_
 refine s3 ?_
 replace hp:=gb_any hp;obtain ⟨y1,hy1,hp⟩:=hp
 refine W_D0 [4] mix (by kernel_rfl) rfl ?_
 refine s20 ?_
 refine s20 ?_
 refine s12 ?_
 refine D_callX (GC.some rfl rfl) fn218.h (OpVs.cons (OpV.s rfl) (OpVs.cons (OpV.s rfl) (OpVs.nil))) (by exact fun hg w F hF hM=>s_l4Texts_walk w a0_8 a1_8 (RdT.nowS (RdT.old h0.2.2.2.2.2.2.2) hF hM) (RdT.nowS (RdT.old h1.2.2.2.2.2.2.2) hF hM) _ (hy1 hg.2)) ?_
 refine s20 ?_
 refine s20 ?_
 refine s19 ?_
 obtain rfl:=sj hp
 refine s1 ?_
 refine res1 rfl (ResOK.tmp rfl) ⟨rfl,rfl⟩ ms
noncomputable def s_l4Word (a0:ByteArray):Option Bool :=
 Option.bind (s_l1In (a0.size:Int) 1 8) (fun y1=>cond (!y1) (some false) (whileP (fun s3:Int=>cond (decide (s3 < (a0.size:Int))) (Option.bind (sidx a0 s3) (fun y5=>gb (!(decide (y5 < 97))) (sidx a0 s3) (fun y6=>cond ((decide (y5 < 97))||(decide (122 < y6))) (Option.map .inr (some false)) (some (.inl (IntKind.wrap .i64 (s3+1))))))) (Option.map .inr (some true))) 0))
theorem s_l4Word_walk (w:World) (a0:ByteArray)  (r:Bool) (hp:s_l4Word a0=some r):Spec Tryz.prog 206 [.string a0].toArray w [] (IsV (.bool r)):=by
 refine Spec.intro Tryz.func206 rfl Tryz.ntmps206 rfl ?_
 unfold s_l4Word at hp
 replace hp:=dd hp
 refine s9 ?_
 replace hp:=ba hp;obtain ⟨y1,hy1,hp⟩:=hp
 refine L_callX rfl fn63.h rfl (by exact fun w hw=>s_l1In_walk w (a0.size:Int) 1 8  _ hy1) ?_
 refine s2 ?_
 refine kp [0,7] ?_
 refine W_cond rfl (fun q2=>?_) (fun q2=>?_)
 ·replace hp:=cond_t q2 hp
  refine s4 ?_
  obtain rfl:=sj hp
  refine s1 ?_
  refine res1 rfl (ResOK.tmp rfl) ⟨rfl,rfl⟩ ms
 ·replace hp:=cond_f q2 hp
  refine s7 ?_
  refine W_while (σ:=Int) GT.dat (fun (v3_0:Int)=>[(3,.int .i64 v3_0)]) (fun (v3_0:Int)=>[]) [(0,_)] [] 0 hp sb ms ?_
  clear hp
  rintro v3_0 x3 hp hx3
  replace hp:=dd hp
  refine kq [0,3] ?_
  refine s8 ?_
  refine kp [0,3,11] ?_
  refine W_cond rfl (fun q4=>?_) (fun q4=>?_)
  ·replace hp:=cond_t q4 hp
   refine s4 ?_
   replace hp:=ba hp;obtain ⟨y5,hy5,hp⟩:=hp
   replace hp:=gb_any hp;obtain ⟨y6,hy6,hp⟩:=hp
   refine W_D0 [23] mix (by kernel_rfl) rfl ?_
   refine s2 ?_
   refine D_idxS GC.none (OpV.t rfl) (OpV.t rfl) str9.h (fun hg=>hy5) ?_
   refine s4 ?_
   refine D_idxS (GC.some rfl rfl) (OpV.s rfl) (OpV.s rfl) str9.h (fun hg=>(hy6 (gnot hg.2))) ?_
   refine s14 ?_
   refine kp [0,3,23] ?_
   refine W_cond rfl (fun q7=>?_) (fun q7=>?_)
   ·replace hp:=cond_t q7 hp
    refine s4 ?_
    replace hp:=map_any hp;obtain ⟨a8,hp,z_8⟩:=hp
    obtain rfl:=hx3 _ z_8
    obtain rfl:=sj hp
    refine s1 ?_
    refine res1 rfl (ResOK.tmp rfl) ⟨rfl,rfl⟩ ms
   ·replace hp:=cond_f q7 hp
    refine s6 ?_
    exact ⟨IntKind.wrap .i64 (v3_0+1),sb,(.sub ms),some_eq hp⟩
  ·replace hp:=cond_f q4 hp
   refine W_exit ?_
   replace hp:=map_any hp;obtain ⟨a9,hp,z_9⟩:=hp
   obtain rfl:=hx3 _ z_9
   refine s4 ?_
   obtain rfl:=sj hp
   refine s1 ?_
   refine res1 rfl (ResOK.tmp rfl) ⟨rfl,rfl⟩ ms
noncomputable def s_l4May (a0:ByteArray) (a1:Bool):Option Bool :=
 cond a1 (Option.bind (s_l4Word a0) (fun y2=>some y2)) (some (decide (a0=ByteArray.empty)))
theorem s_l4May_walk (w:World) (a0:ByteArray) (a1:Bool)  (r:Bool) (hp:s_l4May a0 a1=some r):Spec Tryz.prog 174 [.string a0,.bool a1].toArray w [] (IsV (.bool r)):=by
 refine Spec.intro Tryz.func174 rfl Tryz.ntmps174 rfl ?_
 unfold s_l4May at hp
 replace hp:=dd hp
 refine s9 ?_
 refine kp [0,5] ?_
 refine W_cond rfl (fun q1=>?_) (fun q1=>?_)
 ·replace hp:=cond_t q1 hp
  refine s3 ?_
  replace hp:=ba hp;obtain ⟨y2,hy2,hp⟩:=hp
  refine L_callX rfl fn206.h rfl (by exact fun w hw=>s_l4Word_walk w a0  _ hy2) ?_
  refine s2 ?_
  obtain rfl:=sj hp
  refine s1 ?_
  refine res1 rfl (ResOK.tmp rfl) ⟨rfl,rfl⟩ ms
 ·replace hp:=cond_f q1 hp
  refine s7 ?_
  obtain rfl:=sj hp
  refine s1 ?_
  refine res1 rfl (ResOK.tmp rfl) ⟨rfl,rfl⟩ ms
noncomputable def s_CmdOk (a0:D_Cmd):Option Bool :=
 Option.bind (s_l1In a0.1 0 7) (fun y1=>cond (!y1) (some false) (cond (decide (a0.1=0)) (Option.bind (s_SameCmd (a0.1,a0.2.1,a0.2.2.1,a0.2.2.2.1,a0.2.2.2.2.1,a0.2.2.2.2.2.1,a0.2.2.2.2.2.2.1,a0.2.2.2.2.2.2.2) (0,0,0,ByteArray.empty,ByteArray.empty,ByteArray.empty,0,([]:List ByteArray))) (fun y4=>some y4)) (Option.bind (s_l1In a0.2.1 1 9) (fun y5=>gb (!(!y5)) (s_l1In a0.2.2.1 1 1000) (fun y6=>gb (!((!y5)||(!y6))) (s_l4May a0.2.2.2.1 (!decide (a0.1=7))) (fun y7=>gb (!(((!y5)||(!y6))||(!y7))) (s_l4May a0.2.2.2.2.1 ((decide (a0.1=3))||(decide (a0.1=4)))) (fun y8=>gb (!((((!y5)||(!y6))||(!y7))||(!y8))) (s_l4May a0.2.2.2.2.2.1 (decide (a0.1=4))) (fun y9=>gb (((!(((((!y5)||(!y6))||(!y7))||(!y8))||(!y9)))&&(!decide (a0.2.2.2.2.2.2.1=0)))&&(!(!decide (a0.1=5)))) (s_l1In a0.2.2.2.2.2.2.1 0 9) (fun y10=>cond ((((((!y5)||(!y6))||(!y7))||(!y8))||(!y9))||((!decide (a0.2.2.2.2.2.2.1=0))&&((!decide (a0.1=5))||(!y10)))) (some false) (cond (!decide (a0.1=3)) (some (decide ((a0.2.2.2.2.2.2.2.length:Int)=0))) (Option.bind (s_l1In (a0.2.2.2.2.2.2.2.length:Int) 1 4) (fun y13=>cond (!y13) (some false) (whileP (fun s15:Int=>cond (decide (s15 < (a0.2.2.2.2.2.2.2.length:Int))) (Option.bind (idx a0.2.2.2.2.2.2.2 s15) (fun y17=>cond (!decide ((y17.size:Int)=8)) (Option.map .inr (some false)) (some (.inl (IntKind.wrap .i64 (s15+1)))))) (Option.map .inr (some true))) 0)))))))))))))
theorem s_CmdOk_walk (w:World) (a0:T_Cmd) (h0:GT.rd w [] a0) (r:Bool) (hp:s_CmdOk (GT.dat a0)=some r):Spec Tryz.prog 113 [.agg (GT.cells a0).toArray].toArray w [] (IsV (.bool r)):=by
 obtain ⟨a0_1,a0_2,a0_3,a0_4,a0_5,a0_6,a0_7,a0_8⟩:=a0
 change Spec _ _ ([Value.agg #[.int .i64 a0_1,.int .i64 a0_2,.int .i64 a0_3,.string a0_4,.string a0_5,.string a0_6,.int .i64 a0_7,(TL.hdr a0_8)]]:List Value).toArray w [] _
 refine Spec.intro Tryz.func113 rfl Tryz.ntmps113 rfl ?_
 unfold s_CmdOk at hp
 replace hp:=dd hp
 refine s2 ?_
 refine bx fun bk1=>?_
 refine s7 ?_
 replace hp:=ba hp;obtain ⟨y1,hy1,hp⟩:=hp
 refine L_callX rfl fn63.h rfl (by exact fun w hw=>s_l1In_walk w a0_1 0 7  _ hy1) ?_
 refine s2 ?_
 refine kp [1,8] ?_
 refine W_cond rfl (fun q2=>?_) (fun q2=>?_)
 ·replace hp:=cond_t q2 hp
  refine s4 ?_
  obtain rfl:=sj hp
  refine s1 ?_
  refine res1 rfl (ResOK.tmp rfl) ⟨rfl,rfl⟩ ms
 ·replace hp:=cond_f q2 hp
  refine s8 ?_
  refine kp [1,11] ?_
  refine W_cond rfl (fun q3=>?_) (fun q3=>?_)
  ·replace hp:=cond_t q3 hp
   refine s3 ?_
   refine L_build (xs:=[]) (cs:=[.int .i64 0,.int .i64 0,.int .i64 0,.string ByteArray.empty,.string ByteArray.empty,.string ByteArray.empty,.int .i64 0,(TL.hdr (TL.nil ByteArray 0))]) rfl rfl bld69.h rfl ?_
   replace hp:=ba hp;obtain ⟨y4,hy4,hp⟩:=hp
   refine L_callX rfl fn173.h rfl (by exact fun w hw=>s_SameCmd_walk w (a0_1,a0_2,a0_3,a0_4,a0_5,a0_6,a0_7,a0_8) (0,0,0,ByteArray.empty,ByteArray.empty,ByteArray.empty,0,(TL.nil ByteArray 0)) (RdT.now (RdT.pair RdT.int (RdT.pair RdT.int (RdT.pair RdT.int (RdT.pair RdT.str (RdT.pair RdT.str (RdT.pair RdT.str (RdT.pair RdT.int (RdT.old h0.2.2.2.2.2.2.2)))))))) hw) (RdT.now (RdT.pair RdT.int (RdT.pair RdT.int (RdT.pair RdT.int (RdT.pair RdT.str (RdT.pair RdT.str (RdT.pair RdT.str (RdT.pair RdT.int (RdT.nil 0)))))))) hw) _ hy4) ?_
   refine s2 ?_
   obtain rfl:=sj hp
   refine s1 ?_
   refine res1 rfl (ResOK.tmp rfl) ⟨rfl,rfl⟩ ms
  ·replace hp:=cond_f q3 hp
   refine s9 ?_
   replace hp:=ba hp;obtain ⟨y5,hy5,hp⟩:=hp
   replace hp:=gb_any hp;obtain ⟨y6,hy6,hp⟩:=hp
   replace hp:=gb_any hp;obtain ⟨y7,hy7,hp⟩:=hp
   replace hp:=gb_any hp;obtain ⟨y8,hy8,hp⟩:=hp
   replace hp:=gb_any hp;obtain ⟨y9,hy9,hp⟩:=hp
   replace hp:=gb_any hp;obtain ⟨y10,hy10,hp⟩:=hp
   refine W_D0 [69] mix (by kernel_rfl) rfl ?_
   refine s2 ?_
   refine D_callX GC.none fn63.h (OpVs.cons (OpV.t rfl) (OpVs.cons OpV.c (OpVs.cons OpV.c (OpVs.nil)))) (by exact fun hg w F hF hM=>s_l1In_walk w a0_2 1 9  _ hy5) ?_
   refine s4 ?_
   refine D_callX (GC.some rfl rfl) fn63.h (OpVs.cons (OpV.s rfl) (OpVs.cons OpV.c (OpVs.cons OpV.c (OpVs.nil)))) (by exact fun hg w F hF hM=>s_l1In_walk w a0_3 1 1000  _ (hy6 (gnot hg.2))) ?_
   refine s7 ?_
   refine D_callX (GC.some rfl rfl) fn174.h (OpVs.cons (OpV.s rfl) (OpVs.cons (OpV.s rfl) (OpVs.nil))) (by exact fun hg w F hF hM=>s_l4May_walk w a0_4 (!decide (a0_1=7))  _ (hy7 (gnot hg.2))) ?_
   refine s11 ?_
   refine D_callX (GC.some rfl rfl) fn174.h (OpVs.cons (OpV.s rfl) (OpVs.cons (OpV.s rfl) (OpVs.nil))) (by exact fun hg w F hF hM=>s_l4May_walk w a0_5 ((decide (a0_1=3))||(decide (a0_1=4)))  _ (hy8 (gnot hg.2))) ?_
   refine s7 ?_
   refine D_callX (GC.some rfl rfl) fn174.h (OpVs.cons (OpV.s rfl) (OpVs.cons (OpV.s rfl) (OpVs.nil))) (by exact fun hg w F hF hM=>s_l4May_walk w a0_6 (decide (a0_1=4))  _ (hy9 (gnot hg.2))) ?_
   refine s12 ?_
   refine D_callX (GC.some rfl rfl) fn63.h (OpVs.cons (OpV.s rfl) (OpVs.cons OpV.c (OpVs.cons OpV.c (OpVs.nil)))) (by exact fun hg w F hF hM=>s_l1In_walk w a0_7 0 9  _ (hy10 (gand (gand (gnot hg.1.1.2) hg.1.2) (gnot hg.2)))) ?_
   refine s20 ?_
   refine s20 ?_
   refine s19 ?_
   refine kp [1,3,69] ?_
   refine W_cond rfl (fun q11=>?_) (fun q11=>?_)
   ·replace hp:=cond_t q11 hp
    refine s4 ?_
    obtain rfl:=sj hp
    refine s1 ?_
    refine res1 rfl (ResOK.tmp rfl) ⟨rfl,rfl⟩ ms
   ·replace hp:=cond_f q11 hp
    refine s7 ?_
    refine kp [1,71] ?_
    refine W_cond rfl (fun q12=>?_) (fun q12=>?_)
    ·replace hp:=cond_t q12 hp
     refine s8 ?_
     obtain rfl:=sj hp
     refine s1 ?_
     refine res1 rfl (ResOK.tmp rfl) ⟨rfl,rfl⟩ ms
    ·replace hp:=cond_f q12 hp
     refine s7 ?_
     replace hp:=ba hp;obtain ⟨y13,hy13,hp⟩:=hp
     refine L_callX rfl fn63.h rfl (by exact fun w hw=>s_l1In_walk w ((GT.dat a0_8).length:Int) 1 4  _ hy13) ?_
     refine s2 ?_
     refine kp [1,80] ?_
     refine W_cond rfl (fun q14=>?_) (fun q14=>?_)
     ·replace hp:=cond_t q14 hp
      refine s4 ?_
      obtain rfl:=sj hp
      refine s1 ?_
      refine res1 rfl (ResOK.tmp rfl) ⟨rfl,rfl⟩ ms
     ·replace hp:=cond_f q14 hp
      refine s7 ?_
      refine W_while (σ:=Int) GT.dat (fun (v15_0:Int)=>[(4,.int .i64 v15_0)]) (fun (v15_0:Int)=>[]) [(1,_)] [blk bk1 _ _] 0 hp sb ms ?_
      clear hp
      rintro v15_0 x15 hp hx15
      replace hp:=dd hp
      refine kq [1,4] ?_
      refine s9 ?_
      refine kp [1,4,85] ?_
      refine W_cond rfl (fun q16=>?_) (fun q16=>?_)
      ·replace hp:=cond_t q16 hp
       refine s8 ?_
       replace hp:=idx_bind hp;obtain ⟨u17,hy17,hp⟩:=hp
       refine L_idxA (X:=a0_8) rfl rfl rfl el65.h (RdT.old h0.2.2.2.2.2.2.2) hy17 ?_
       refine L_load0 rfl rfl (RdT.at (RdT.old h0.2.2.2.2.2.2.2) (hy17).2) one9.h rfl ?_
       refine s3 ?_
       refine kp [1,4,94] ?_
       refine W_cond rfl (fun q18=>?_) (fun q18=>?_)
       ·replace hp:=cond_t q18 hp
        refine s4 ?_
        replace hp:=map_any hp;obtain ⟨a19,hp,z_19⟩:=hp
        obtain rfl:=hx15 _ z_19
        obtain rfl:=sj hp
        refine s1 ?_
        refine res1 rfl (ResOK.tmp rfl) ⟨rfl,rfl⟩ ms
       ·replace hp:=cond_f q18 hp
        refine s6 ?_
        exact ⟨IntKind.wrap .i64 (v15_0+1),sb,(.sub ms),some_eq hp⟩
      ·replace hp:=cond_f q16 hp
       refine W_exit ?_
       replace hp:=map_any hp;obtain ⟨a20,hp,z_20⟩:=hp
       obtain rfl:=hx15 _ z_20
       refine s4 ?_
       obtain rfl:=sj hp
       refine s1 ?_
       refine res1 rfl (ResOK.tmp rfl) ⟨rfl,rfl⟩ ms
noncomputable def sl_Equal_stringstring (a0:List ByteArray) (a1:List ByteArray):Option Bool :=
 cond (!decide ((a0.length:Int)=(a1.length:Int))) (some false) (whileP (fun s2:Int=>cond (decide (s2 < (a0.length:Int))) (Option.bind (idx a0 s2) (fun y4=>Option.bind (idx a1 s2) (fun y5=>cond (!decide (y4=y5)) (Option.map .inr (some false)) (some (.inl (IntKind.wrap .i64 (s2+1))))))) (Option.map .inr (some true))) 0)
theorem sl_Equal_stringstring_walk (w:World) (a0:TL ByteArray) (a1:TL ByteArray) (h0:GT.rd w [] a0) (h1:GT.rd w [] a1) (r:Bool) (hp:sl_Equal_stringstring (GT.dat a0) (GT.dat a1)=some r):Spec Tryz.prog 224 [(TL.hdr a0),(TL.hdr a1)].toArray w [] (IsV (.bool r)):=by
 refine Spec.intro Tryz.func224 rfl Tryz.ntmps224 rfl ?_
 unfold sl_Equal_stringstring at hp
 replace hp:=dd hp
 refine s13 ?_
 refine kp [0,1,10] ?_
 refine W_cond rfl (fun q1=>?_) (fun q1=>?_)
 ·replace hp:=cond_t q1 hp
  refine s4 ?_
  obtain rfl:=sj hp
  refine s1 ?_
  refine res1 rfl (ResOK.tmp rfl) ⟨rfl,rfl⟩ ms
 ·replace hp:=cond_f q1 hp
  refine s9 ?_
  refine W_while (σ:=Int) GT.dat (fun (v2_0:Int)=>[(13,.int .i64 v2_0)]) (fun (v2_0:Int)=>[]) [(0,_),(1,_),(12,_)] [] 0 hp sb ms ?_
  clear hp
  rintro v2_0 x2 hp hx2
  replace hp:=dd hp
  refine kq [0,1,12,13] ?_
  refine s5 ?_
  refine kp [0,1,12,13,14] ?_
  refine W_cond rfl (fun q3=>?_) (fun q3=>?_)
  ·replace hp:=cond_t q3 hp
   refine s9 ?_
   replace hp:=idx_bind hp;obtain ⟨u4,hy4,hp⟩:=hp
   replace hp:=idx_bind hp;obtain ⟨u5,hy5,hp⟩:=hp
   refine W_D0 [24] mix (by kernel_rfl) rfl ?_
   refine s2 ?_
   refine D_idxA (X:=a0) GC.none (OpV.t rfl) (OpV.t rfl) el65.h (RdT.old h0) (fun _=>hy4) ?_
   refine D_load0 GC.none (OpV.t rfl) (fun hg=>RdT.at (RdT.old h0) (hy4).2) one9.h rfl ?_
   refine s2 ?_
   refine D_idxA (X:=a1) GC.none (OpV.t rfl) (OpV.t rfl) el65.h (RdT.old h1) (fun _=>hy5) ?_
   refine D_load0 GC.none (OpV.t rfl) (fun hg=>RdT.at (RdT.old h1) (hy5).2) one9.h rfl ?_
   refine s12 ?_
   refine kp [0,1,12,13,24] ?_
   refine W_cond rfl (fun q6=>?_) (fun q6=>?_)
   ·replace hp:=cond_t q6 hp
    refine s4 ?_
    replace hp:=map_any hp;obtain ⟨a7,hp,z_7⟩:=hp
    obtain rfl:=hx2 _ z_7
    obtain rfl:=sj hp
    refine s1 ?_
    refine res1 rfl (ResOK.tmp rfl) ⟨rfl,rfl⟩ ms
   ·replace hp:=cond_f q6 hp
    refine s5 ?_
    exact ⟨IntKind.wrap .i64 (v2_0+1),sb,(.sub ms),some_eq hp⟩
  ·replace hp:=cond_f q3 hp
   refine W_exit ?_
   replace hp:=map_any hp;obtain ⟨a8,hp,z_8⟩:=hp
   obtain rfl:=hx2 _ z_8
   refine s4 ?_
   obtain rfl:=sj hp
   refine s1 ?_
   refine res1 rfl (ResOK.tmp rfl) ⟨rfl,rfl⟩ ms
noncomputable def i_SameCmd (a0:D_Cmd) (a1:D_Cmd):Option Bool :=
 gb (((((((decide (a0.1=a1.1))&&(decide (a0.2.1=a1.2.1)))&&(decide (a0.2.2.1=a1.2.2.1)))&&(decide (a0.2.2.2.1=a1.2.2.2.1)))&&(decide (a0.2.2.2.2.1=a1.2.2.2.2.1)))&&(decide (a0.2.2.2.2.2.1=a1.2.2.2.2.2.1)))&&(decide (a0.2.2.2.2.2.2.1=a1.2.2.2.2.2.2.1))) (sl_Equal_stringstring a0.2.2.2.2.2.2.2 a1.2.2.2.2.2.2.2) (fun y1=>some ((((((((decide (a0.1=a1.1))&&(decide (a0.2.1=a1.2.1)))&&(decide (a0.2.2.1=a1.2.2.1)))&&(decide (a0.2.2.2.1=a1.2.2.2.1)))&&(decide (a0.2.2.2.2.1=a1.2.2.2.2.1)))&&(decide (a0.2.2.2.2.2.1=a1.2.2.2.2.2.1)))&&(decide (a0.2.2.2.2.2.2.1=a1.2.2.2.2.2.2.1)))&&y1))
theorem i_SameCmd_walk (w:World) (a0:T_Cmd) (a1:T_Cmd) (h0:GT.rd w [] a0) (h1:GT.rd w [] a1) (r:Bool) (hp:i_SameCmd (GT.dat a0) (GT.dat a1)=some r):Spec Tryz.prog 186 [.agg (GT.cells a0).toArray,.agg (GT.cells a1).toArray].toArray w [] (IsV (.bool r)):=by
 obtain ⟨a0_1,a0_2,a0_3,a0_4,a0_5,a0_6,a0_7,a0_8⟩:=a0
 obtain ⟨a1_1,a1_2,a1_3,a1_4,a1_5,a1_6,a1_7,a1_8⟩:=a1
 change Spec _ _ ([Value.agg #[.int .i64 a0_1,.int .i64 a0_2,.int .i64 a0_3,.string a0_4,.string a0_5,.string a0_6,.int .i64 a0_7,(TL.hdr a0_8)],Value.agg #[.int .i64 a1_1,.int .i64 a1_2,.int .i64 a1_3,.string a1_4,.string a1_5,.string a1_6,.int .i64 a1_7,(TL.hdr a1_8)]]:List Value).toArray w [] _
 refine Spec.intro Tryz.func186 rfl Tryz.ntmps186 rfl ?_
 unfold i_SameCmd at hp
 replace hp:=dd hp
 refine s2 ?_
 refine bx fun bk2=>?_
 refine bx fun bk3=>?_
 refine s3 ?_
 replace hp:=gb_any hp;obtain ⟨y1,hy1,hp⟩:=hp
 refine W_D0 [4] mix (by kernel_rfl) rfl ?_
 refine s20 ?_
 refine s20 ?_
 refine s12 ?_
 refine D_callX (GC.some rfl rfl) fn224.h (OpVs.cons (OpV.s rfl) (OpVs.cons (OpV.s rfl) (OpVs.nil))) (by exact fun hg w F hF hM=>sl_Equal_stringstring_walk w a0_8 a1_8 (RdT.nowS (RdT.old h0.2.2.2.2.2.2.2) hF hM) (RdT.nowS (RdT.old h1.2.2.2.2.2.2.2) hF hM) _ (hy1 hg.2)) ?_
 refine s20 ?_
 refine s20 ?_
 refine s19 ?_
 obtain rfl:=sj hp
 refine s1 ?_
 refine res1 rfl (ResOK.tmp rfl) ⟨rfl,rfl⟩ ms
noncomputable def i_isWord (a0:ByteArray):Option Bool :=
 whileP (fun s1:Int=>cond (decide (s1 < (a0.size:Int))) (Option.bind (sidx a0 s1) (fun y3=>gb (!(decide (y3 < 97))) (sidx a0 s1) (fun y4=>cond ((decide (y3 < 97))||(decide (122 < y4))) (Option.map .inr (some false)) (some (.inl (IntKind.wrap .i64 (s1+1))))))) (Option.map .inr (Option.bind (i_within (a0.size:Int) 1 8) (fun y8=>some y8)))) 0
theorem i_isWord_walk (w:World) (a0:ByteArray)  (r:Bool) (hp:i_isWord a0=some r):Spec Tryz.prog 225 [.string a0].toArray w [] (IsV (.bool r)):=by
 refine Spec.intro Tryz.func225 rfl Tryz.ntmps225 rfl ?_
 unfold i_isWord at hp
 replace hp:=dd hp
 refine s10 ?_
 refine W_while (σ:=Int) GT.dat (fun (v1_0:Int)=>[(3,.int .i64 v1_0)]) (fun (v1_0:Int)=>[]) [(0,_)] [] 0 hp sb ms ?_
 clear hp
 rintro v1_0 x1 hp hx1
 replace hp:=dd hp
 refine kq [0,3] ?_
 refine s8 ?_
 refine kp [0,3,7] ?_
 refine W_cond rfl (fun q2=>?_) (fun q2=>?_)
 ·replace hp:=cond_t q2 hp
  refine s4 ?_
  replace hp:=ba hp;obtain ⟨y3,hy3,hp⟩:=hp
  replace hp:=gb_any hp;obtain ⟨y4,hy4,hp⟩:=hp
  refine W_D0 [19] mix (by kernel_rfl) rfl ?_
  refine s2 ?_
  refine D_idxS GC.none (OpV.t rfl) (OpV.t rfl) str9.h (fun hg=>hy3) ?_
  refine s4 ?_
  refine D_idxS (GC.some rfl rfl) (OpV.s rfl) (OpV.s rfl) str9.h (fun hg=>(hy4 (gnot hg.2))) ?_
  refine s14 ?_
  refine kp [0,3,19] ?_
  refine W_cond rfl (fun q5=>?_) (fun q5=>?_)
  ·replace hp:=cond_t q5 hp
   refine s4 ?_
   replace hp:=map_any hp;obtain ⟨a6,hp,z_6⟩:=hp
   obtain rfl:=hx1 _ z_6
   obtain rfl:=sj hp
   refine s1 ?_
   refine res1 rfl (ResOK.tmp rfl) ⟨rfl,rfl⟩ ms
  ·replace hp:=cond_f q5 hp
   refine s6 ?_
   exact ⟨IntKind.wrap .i64 (v1_0+1),sb,(.sub ms),some_eq hp⟩
 ·replace hp:=cond_f q2 hp
  refine W_exit ?_
  replace hp:=map_any hp;obtain ⟨a7,hp,z_7⟩:=hp
  obtain rfl:=hx1 _ z_7
  refine s4 ?_
  replace hp:=ba hp;obtain ⟨y8,hy8,hp⟩:=hp
  refine L_callX rfl fn72.h rfl (by exact fun w hw=>i_within_walk w (a0.size:Int) 1 8  _ hy8) ?_
  refine s2 ?_
  obtain rfl:=sj hp
  refine s1 ?_
  refine res1 rfl (ResOK.tmp rfl) ⟨rfl,rfl⟩ ms
noncomputable def i_wordIf (a0:ByteArray) (a1:Bool):Option Bool :=
 cond a1 (Option.bind (i_isWord a0) (fun y2=>some y2)) (some (decide (a0=ByteArray.empty)))
theorem i_wordIf_walk (w:World) (a0:ByteArray) (a1:Bool)  (r:Bool) (hp:i_wordIf a0 a1=some r):Spec Tryz.prog 187 [.string a0,.bool a1].toArray w [] (IsV (.bool r)):=by
 refine Spec.intro Tryz.func187 rfl Tryz.ntmps187 rfl ?_
 unfold i_wordIf at hp
 replace hp:=dd hp
 refine s9 ?_
 refine kp [0,5] ?_
 refine W_cond rfl (fun q1=>?_) (fun q1=>?_)
 ·replace hp:=cond_t q1 hp
  refine s3 ?_
  replace hp:=ba hp;obtain ⟨y2,hy2,hp⟩:=hp
  refine L_callX rfl fn225.h rfl (by exact fun w hw=>i_isWord_walk w a0  _ hy2) ?_
  refine s2 ?_
  obtain rfl:=sj hp
  refine s1 ?_
  refine res1 rfl (ResOK.tmp rfl) ⟨rfl,rfl⟩ ms
 ·replace hp:=cond_f q1 hp
  refine s7 ?_
  obtain rfl:=sj hp
  refine s1 ?_
  refine res1 rfl (ResOK.tmp rfl) ⟨rfl,rfl⟩ ms
noncomputable def i_areChunks (a0:List ByteArray):Option Bool :=
 whileP (fun s1:Int=>cond (decide (s1 < (a0.length:Int))) (Option.bind (idx a0 s1) (fun y3=>cond (!decide ((y3.size:Int)=8)) (Option.map .inr (some false)) (some (.inl (IntKind.wrap .i64 (s1+1)))))) (Option.map .inr (some true))) 0
theorem i_areChunks_walk (w:World) (a0:TL ByteArray) (h0:GT.rd w [] a0) (r:Bool) (hp:i_areChunks (GT.dat a0)=some r):Spec Tryz.prog 188 [(TL.hdr a0)].toArray w [] (IsV (.bool r)):=by
 refine Spec.intro Tryz.func188 rfl Tryz.ntmps188 rfl ?_
 unfold i_areChunks at hp
 replace hp:=dd hp
 refine s12 ?_
 refine W_while (σ:=Int) GT.dat (fun (v1_0:Int)=>[(7,.int .i64 v1_0)]) (fun (v1_0:Int)=>[]) [(5,_),(6,_)] [] 0 hp sb ms ?_
 clear hp
 rintro v1_0 x1 hp hx1
 replace hp:=dd hp
 refine kq [5,6,7] ?_
 refine s5 ?_
 refine kp [5,6,7,8] ?_
 refine W_cond rfl (fun q2=>?_) (fun q2=>?_)
 ·replace hp:=cond_t q2 hp
  refine s5 ?_
  replace hp:=idx_bind hp;obtain ⟨u3,hy3,hp⟩:=hp
  refine L_idxA (X:=a0) rfl rfl rfl el65.h (RdT.old h0) hy3 ?_
  refine L_load0 rfl rfl (RdT.at (RdT.old h0) (hy3).2) one9.h rfl ?_
  refine s8 ?_
  refine kp [5,6,7,13] ?_
  refine W_cond rfl (fun q4=>?_) (fun q4=>?_)
  ·replace hp:=cond_t q4 hp
   refine s4 ?_
   replace hp:=map_any hp;obtain ⟨a5,hp,z_5⟩:=hp
   obtain rfl:=hx1 _ z_5
   obtain rfl:=sj hp
   refine s1 ?_
   refine res1 rfl (ResOK.tmp rfl) ⟨rfl,rfl⟩ ms
  ·replace hp:=cond_f q4 hp
   refine s5 ?_
   exact ⟨IntKind.wrap .i64 (v1_0+1),sb,(.sub ms),some_eq hp⟩
 ·replace hp:=cond_f q2 hp
  refine W_exit ?_
  replace hp:=map_any hp;obtain ⟨a6,hp,z_6⟩:=hp
  obtain rfl:=hx1 _ z_6
  refine s4 ?_
  obtain rfl:=sj hp
  refine s1 ?_
  refine res1 rfl (ResOK.tmp rfl) ⟨rfl,rfl⟩ ms
noncomputable def i_CmdOk (a0:D_Cmd):Option Bool :=
 cond (decide (a0.1=0)) (Option.bind (i_SameCmd (a0.1,a0.2.1,a0.2.2.1,a0.2.2.2.1,a0.2.2.2.2.1,a0.2.2.2.2.2.1,a0.2.2.2.2.2.2.1,a0.2.2.2.2.2.2.2) (0,0,0,ByteArray.empty,ByteArray.empty,ByteArray.empty,0,([]:List ByteArray))) (fun y2=>some y2)) (Option.bind (i_within a0.1 1 7) (fun y3=>gb (!(!y3)) (i_within a0.2.1 1 9) (fun y4=>gb (!((!y3)||(!y4))) (i_within a0.2.2.1 1 1000) (fun y5=>cond (((!y3)||(!y4))||(!y5)) (some false) (Option.bind (i_wordIf a0.2.2.2.1 (!decide (a0.1=7))) (fun y7=>gb (!(!y7)) (i_wordIf a0.2.2.2.2.1 ((decide (a0.1=3))||(decide (a0.1=4)))) (fun y8=>gb (!((!y7)||(!y8))) (i_wordIf a0.2.2.2.2.2.1 (decide (a0.1=4))) (fun y9=>cond (((!y7)||(!y8))||(!y9)) (some false) (gb ((!decide (a0.2.2.2.2.2.2.1=0))&&(!(!decide (a0.1=5)))) (i_within a0.2.2.2.2.2.2.1 0 9) (fun y11=>cond ((!decide (a0.2.2.2.2.2.2.1=0))&&((!decide (a0.1=5))||(!y11))) (some false) (cond (decide (a0.1=3)) (Option.bind (i_within (a0.2.2.2.2.2.2.2.length:Int) 1 4) (fun y14=>gb y14 (i_areChunks a0.2.2.2.2.2.2.2) (fun y15=>some (y14&&y15)))) (some (decide ((a0.2.2.2.2.2.2.2.length:Int)=0))))))))))))))
theorem i_CmdOk_walk (w:World) (a0:T_Cmd) (h0:GT.rd w [] a0) (r:Bool) (hp:i_CmdOk (GT.dat a0)=some r):Spec Tryz.prog 129 [.agg (GT.cells a0).toArray].toArray w [] (IsV (.bool r)):=by
 obtain ⟨a0_1,a0_2,a0_3,a0_4,a0_5,a0_6,a0_7,a0_8⟩:=a0
 change Spec _ _ ([Value.agg #[.int .i64 a0_1,.int .i64 a0_2,.int .i64 a0_3,.string a0_4,.string a0_5,.string a0_6,.int .i64 a0_7,(TL.hdr a0_8)]]:List Value).toArray w [] _
 refine Spec.intro Tryz.func129 rfl Tryz.ntmps129 rfl ?_
 unfold i_CmdOk at hp
 replace hp:=dd hp
 refine s2 ?_
 refine bx fun bk1=>?_
 refine s9 ?_
 refine kp [1,5] ?_
 refine W_cond rfl (fun q1=>?_) (fun q1=>?_)
 ·replace hp:=cond_t q1 hp
  refine s3 ?_
  refine L_build (xs:=[]) (cs:=[.int .i64 0,.int .i64 0,.int .i64 0,.string ByteArray.empty,.string ByteArray.empty,.string ByteArray.empty,.int .i64 0,(TL.hdr (TL.nil ByteArray 0))]) rfl rfl bld69.h rfl ?_
  replace hp:=ba hp;obtain ⟨y2,hy2,hp⟩:=hp
  refine L_callX rfl fn186.h rfl (by exact fun w hw=>i_SameCmd_walk w (a0_1,a0_2,a0_3,a0_4,a0_5,a0_6,a0_7,a0_8) (0,0,0,ByteArray.empty,ByteArray.empty,ByteArray.empty,0,(TL.nil ByteArray 0)) (RdT.now (RdT.pair RdT.int (RdT.pair RdT.int (RdT.pair RdT.int (RdT.pair RdT.str (RdT.pair RdT.str (RdT.pair RdT.str (RdT.pair RdT.int (RdT.old h0.2.2.2.2.2.2.2)))))))) hw) (RdT.now (RdT.pair RdT.int (RdT.pair RdT.int (RdT.pair RdT.int (RdT.pair RdT.str (RdT.pair RdT.str (RdT.pair RdT.str (RdT.pair RdT.int (RdT.nil 0)))))))) hw) _ hy2) ?_
  refine s2 ?_
  obtain rfl:=sj hp
  refine s1 ?_
  refine res1 rfl (ResOK.tmp rfl) ⟨rfl,rfl⟩ ms
 ·replace hp:=cond_f q1 hp
  refine s3 ?_
  replace hp:=ba hp;obtain ⟨y3,hy3,hp⟩:=hp
  replace hp:=gb_any hp;obtain ⟨y4,hy4,hp⟩:=hp
  replace hp:=gb_any hp;obtain ⟨y5,hy5,hp⟩:=hp
  refine W_D0 [24] mix (by kernel_rfl) rfl ?_
  refine s2 ?_
  refine D_callX GC.none fn72.h (OpVs.cons (OpV.t rfl) (OpVs.cons OpV.c (OpVs.cons OpV.c (OpVs.nil)))) (by exact fun hg w F hF hM=>i_within_walk w a0_1 1 7  _ hy3) ?_
  refine s4 ?_
  refine D_callX (GC.some rfl rfl) fn72.h (OpVs.cons (OpV.s rfl) (OpVs.cons OpV.c (OpVs.cons OpV.c (OpVs.nil)))) (by exact fun hg w F hF hM=>i_within_walk w a0_2 1 9  _ (hy4 (gnot hg.2))) ?_
  refine s5 ?_
  refine D_callX (GC.some rfl rfl) fn72.h (OpVs.cons (OpV.s rfl) (OpVs.cons OpV.c (OpVs.cons OpV.c (OpVs.nil)))) (by exact fun hg w F hF hM=>i_within_walk w a0_3 1 1000  _ (hy5 (gnot hg.2))) ?_
  refine s20 ?_
  refine kp [1,24] ?_
  refine W_cond rfl (fun q6=>?_) (fun q6=>?_)
  ·replace hp:=cond_t q6 hp
   refine s4 ?_
   obtain rfl:=sj hp
   refine s1 ?_
   refine res1 rfl (ResOK.tmp rfl) ⟨rfl,rfl⟩ ms
  ·replace hp:=cond_f q6 hp
   refine s3 ?_
   replace hp:=ba hp;obtain ⟨y7,hy7,hp⟩:=hp
   replace hp:=gb_any hp;obtain ⟨y8,hy8,hp⟩:=hp
   replace hp:=gb_any hp;obtain ⟨y9,hy9,hp⟩:=hp
   refine W_D0 [54] mix (by kernel_rfl) rfl ?_
   refine s5 ?_
   refine D_callX GC.none fn187.h (OpVs.cons (OpV.t rfl) (OpVs.cons (OpV.t rfl) (OpVs.nil))) (by exact fun hg w F hF hM=>i_wordIf_walk w a0_4 (!decide (a0_1=7))  _ hy7) ?_
   refine s12 ?_
   refine D_callX (GC.some rfl rfl) fn187.h (OpVs.cons (OpV.s rfl) (OpVs.cons (OpV.s rfl) (OpVs.nil))) (by exact fun hg w F hF hM=>i_wordIf_walk w a0_5 ((decide (a0_1=3))||(decide (a0_1=4)))  _ (hy8 (gnot hg.2))) ?_
   refine s8 ?_
   refine D_callX (GC.some rfl rfl) fn187.h (OpVs.cons (OpV.s rfl) (OpVs.cons (OpV.s rfl) (OpVs.nil))) (by exact fun hg w F hF hM=>i_wordIf_walk w a0_6 (decide (a0_1=4))  _ (hy9 (gnot hg.2))) ?_
   refine s20 ?_
   refine s14 ?_
   refine kp [1,54] ?_
   refine W_cond rfl (fun q10=>?_) (fun q10=>?_)
   ·replace hp:=cond_t q10 hp
    refine s4 ?_
    obtain rfl:=sj hp
    refine s1 ?_
    refine res1 rfl (ResOK.tmp rfl) ⟨rfl,rfl⟩ ms
   ·replace hp:=cond_f q10 hp
    refine s3 ?_
    replace hp:=gb_any hp;obtain ⟨y11,hy11,hp⟩:=hp
    refine W_D0 [68] mix (by kernel_rfl) rfl ?_
    refine s10 ?_
    refine D_callX (GC.some rfl rfl) fn72.h (OpVs.cons (OpV.s rfl) (OpVs.cons OpV.c (OpVs.cons OpV.c (OpVs.nil)))) (by exact fun hg w F hF hM=>i_within_walk w a0_7 0 9  _ (hy11 (gand hg.1.2 (gnot hg.2)))) ?_
    refine s19 ?_
    refine kp [1,68] ?_
    refine W_cond rfl (fun q12=>?_) (fun q12=>?_)
    ·replace hp:=cond_t q12 hp
     refine s4 ?_
     obtain rfl:=sj hp
     refine s1 ?_
     refine res1 rfl (ResOK.tmp rfl) ⟨rfl,rfl⟩ ms
    ·replace hp:=cond_f q12 hp
     refine s8 ?_
     refine kp [1,71] ?_
     refine W_cond rfl (fun q13=>?_) (fun q13=>?_)
     ·replace hp:=cond_t q13 hp
      refine s1 ?_
      replace hp:=ba hp;obtain ⟨y14,hy14,hp⟩:=hp
      replace hp:=gb_any hp;obtain ⟨y15,hy15,hp⟩:=hp
      refine W_D0 [2] mix (by kernel_rfl) rfl ?_
      refine s2 ?_
      refine D_lenP (X:=a0_8) GC.none (OpV.t rfl) el65.h ?_
      refine D_callX GC.none fn72.h (OpVs.cons (OpV.t rfl) (OpVs.cons OpV.c (OpVs.cons OpV.c (OpVs.nil)))) (by exact fun hg w F hF hM=>i_within_walk w ((GT.dat a0_8).length:Int) 1 4  _ hy14) ?_
      refine s3 ?_
      refine D_callX (GC.some rfl rfl) fn188.h (OpVs.cons (OpV.s rfl) (OpVs.nil)) (by exact fun hg w F hF hM=>i_areChunks_walk w a0_8 (RdT.nowS (RdT.old h0.2.2.2.2.2.2.2) hF hM) _ (hy15 hg.2)) ?_
      refine s14 ?_
      obtain rfl:=sj hp
      refine s1 ?_
      refine res1 rfl (ResOK.tmp rfl) ⟨rfl,rfl⟩ ms
     ·replace hp:=cond_f q13 hp
      refine s9 ?_
      obtain rfl:=sj hp
      refine s1 ?_
      refine res1 rfl (ResOK.tmp rfl) ⟨rfl,rfl⟩ ms
end Go.Proofs.SL
