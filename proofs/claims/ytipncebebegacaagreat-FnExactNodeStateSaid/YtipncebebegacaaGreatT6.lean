/- The texts of the proof, part 6: the base, walks of functions, plain Lean. -/
import Derived.Test.YtipncebebegacaaGreatT5
import Derived.Sort.Grow
import Derived.Sort.EncStr
import Derived.Lib.SlicesCompact
import Derived.Laws.StructEq
namespace Go.Proofs.SL
open Go
variable {Γ:Cx} {l:Envl} {M M' M1 M2 F:List HP} {Q:Post} {K:Kont} {w0 w:World} {S0:List Nat} {P:Program}
variable {rest:List Oper} {d:Nat} {ty:TypeId} {pos:String} {af:Array Edge}
section
variable {τ δ:Type} [GT τ δ]
theorem L_slM {x:Operand} {lo hi:Option Operand} {T e sz by_:Nat} {z:List Value} {X:TL τ} {a b:Int} {r:List δ} (hn:Nat.blt d Γ.n=true) (hx:ev l x=some X.hdr) (hlo:optI l lo 0=some a) (hhi:optI l hi ((GT.dat X).length:Int)=some b)
  (ht:elOf Γ.P T=some (e,sz,by_,z)) (hsz:GT.sz τ=sz) (hm:rowH X∈M) (hr:slcP (GT.dat X) a b=some r)
  (hk:∀ X':TL τ,GT.dat X'=r→X'=slc X a.toNat b.toNat→L Γ rest ((d,X'.hdr)::l) M K) :
  L Γ ({ dst:=some d,op:=.slice T x lo hi none,type:=ty,pos:=pos,after:=af,guard:=none }::rest) l M K:=by
 unfold slcP at hr
 split at hr
 ·rename_i hb
  cases hr
  rw [dat_els,List.length_map] at hb hhi
  obtain ⟨h0,h1,h2⟩:=hb
  have h1':a.toNat≤b.toNat:=by omega
  have h2':b.toNat≤X.els.length:=by omega
  refine L_pure hn (v:=(slc X a.toNat b.toNat).hdr) (fun a' w ha hw=>?_) (hk (slc X a.toNat b.toNat) (by rw [dat_els,dat_els];simp [slc,List.map_take,List.map_drop]) rfl)
  have hcap:X.els.length≤X.cap:=(hw.prs _ hm).1
  unfold elOf at ht
  split at ht<;>(try cases ht)
  rename_i e' het
  split at ht<;>(try cases ht)
  rename_i i' hi'
  split at ht<;>cases ht
  have hlen:((X.els.drop a.toNat).take (b.toNat - a.toNat)).length=b.toNat - a.toNat:=by simp;omega
  have hv:(slc X a.toNat b.toNat).hdr=.slice (if X.cap=a.toNat then X.a else X.a.map (·.add (a.toNat*i'.size))) (b.toNat - a.toNat) (X.cap - a.toNat):=by
   show Value.slice _ ((X.els.drop a.toNat).take (b.toNat - a.toNat)).length _=_
   rw [hlen];simp only [slc,hsz]
  rw [hv]
  have e1:a'.eval x=.slice X.a X.els.length X.cap:=ha.eval hx
  cases lo with
  | none =>
   cases hlo
   cases hi with
   | none =>
    cases hhi
    simp only [execOp,Option.map_none,e1,Instr.sliceAt,Instr.slice,underlying,Sem.run_bind,run_program,Result.andThen_ok,het,Instr.sliceBounds,Sem.run_pure,sizeOf,typeInfo,hi']
    simp
   | some o =>
    obtain ⟨k,h5⟩:=optI_some hhi
    have e2:=ha.eval h5
    have e4:=fun w=>run_sliceBound (P:=Γ.P) (k:=k) (code:=.sliceAcap) (show 0≤b by omega) (show b≤((X.cap:Nat):Int) by omega) w
    simp [execOp,e1,e2,Instr.sliceAt,Instr.slice,underlying,het,Instr.sliceBounds,sizeOf,typeInfo,hi',e4]
  | some o1 =>
   obtain ⟨k1,h6⟩:=optI_some hlo
   have e3:=ha.eval h6
   cases hi with
   | none =>
    cases hhi
    have e4:=fun w=>run_sliceBound (P:=Γ.P) (k:=k1) (code:=.sliceB) h0 (show a≤((X.els.length:Nat):Int) by omega) w
    simp [execOp,e1,e3,Instr.sliceAt,Instr.slice,underlying,het,Instr.sliceBounds,sizeOf,typeInfo,hi',e4]
   | some o =>
    obtain ⟨k,h5⟩:=optI_some hhi
    have e2:=ha.eval h5
    have e4:=fun w=>run_sliceBound (P:=Γ.P) (k:=k) (code:=.sliceAcap) (show 0≤b by omega) (show b≤((X.cap:Nat):Int) by omega) w
    have e5:=fun w=>run_sliceBound (P:=Γ.P) (k:=k1) (code:=.sliceB) h0 (show a≤((b.toNat:Nat):Int) by omega) w
    simp [execOp,e1,e2,e3,Instr.sliceAt,Instr.slice,underlying,het,Instr.sliceBounds,sizeOf,typeInfo,hi',e4,e5]
 ·cases hr
def chkP (b:Bool):Option Unit:=if b then some () else none
theorem chkP_some {b:Bool} {u:Unit} (h:chkP b=some u):b=true:=by
 unfold chkP at h;split at h
 ·assumption
 ·cases h
theorem slcP_some {α:Type} {l r:List α} {a b:Int} (h:slcP l a b=some r):0≤a∧a≤b∧b≤l.length∧r=(l.drop a.toNat).take (b.toNat - a.toNat):=by
 unfold slcP at h;split at h
 ·rename_i hb;cases h;exact ⟨hb.1,hb.2.1,hb.2.2,rfl⟩
 ·cases h
theorem els_split2 {xs ys zs us:List τ} (hp:List.Perm xs (us++(ys++zs))) (h:Holds w0 S0 (elsT xs::M) w):Holds w0 S0 (elsT ys::elsT zs::M) w:=by
 have h2:Holds w0 S0 (elsT ys::elsT zs::elsT us::M) w:=by
  refine h.reFp ?_ fun x hx=>?_
  ·simp only [fps_cons]
   show List.Perm (xs.flatMap GT.fp++fps M) (ys.flatMap GT.fp++(zs.flatMap GT.fp++(us.flatMap GT.fp++fps M)))
   rw [← List.append_assoc,← List.append_assoc,← List.flatMap_append,← List.flatMap_append]
   exact ((hp.trans List.perm_append_comm).flatMap_right _).append_right _
  ·have h3:=h.prs (elsT xs) (List.mem_cons_self ..)
   rcases List.mem_cons.1 hx with rfl | hx
   ·exact fun y hy=>h3 y (hp.mem_iff.2 (List.mem_append_right _ (List.mem_append_left _ hy)))
   rcases List.mem_cons.1 hx with rfl | hx
   ·exact fun y hy=>h3 y (hp.mem_iff.2 (List.mem_append_right _ (List.mem_append_right _ hy)))
   rcases List.mem_cons.1 hx with rfl | hx
   ·exact fun y hy=>h3 y (hp.mem_iff.2 (List.mem_append_left _ hy))
   ·exact h.prs _ (List.mem_cons_of_mem _ hx)
 exact h2.sub ⟨[elsT us],by
  refine ((List.perm_append_comm (l₁:=[elsT us]) (l₂:=M)).cons _).cons _⟩
theorem drop_cut (xs:List τ) {k a b:Nat} (h1:k≤a) (h2:a≤b):xs.drop k=(xs.drop k).take (a - k)++((xs.drop a).take (b - a)++xs.drop b):=by
 have e1:xs.drop a=(xs.drop k).drop (a - k):=by rw [List.drop_drop];congr 1;omega
 have e2:xs.drop b=(xs.drop a).drop (b - a):=by rw [List.drop_drop];congr 1;omega
 rw [e2,List.take_append_drop,e1,List.take_append_drop]
theorem L_appM {s x:Operand} {T e sz by_ k:Nat} {z:List Value} {X V Y:TL τ} {a b:Int} {r r':List δ} {u:Unit} (hn:Nat.blt d Γ.n=true)
  (hs:ev l s=some X.hdr) (hx:ev l x=some Y.hdr) (ht:elOf Γ.P T=some (e,sz,by_,z)) (hsz:GT.sz τ=sz) (hz:z.length=sz)
  (hp:Pick (treeH X) M M1) (he:Y=slc V a.toNat b.toNat) (hsl:slcP (GT.dat V) a b=some r') (hm:rowH V∈M1) (hq:Pick (elsT (V.els.drop k)) M1 M2)
  (hka:chkP (decide (k≤a.toNat))=some u) (hr:appP (GT.dat X) (GT.dat Y)=some r) (hb:by_≤32768)
  (hk:∀ X':TL τ,GT.dat X'=r→L Γ rest ((d,X'.hdr)::l) (treeH X'::elsT (V.els.drop b.toNat)::M2) K) :
  L Γ ({ dst:=some d,op:=.call { callee:=.builtin .append,args:=#[s,x],argTypes:=#[T,T] },type:=ty,pos,after:=af,guard:=none }::rest) l M K:=by
 have hka:=of_decide_eq_true (chkP_some hka)
 obtain ⟨h1,rfl⟩:=appP_some hr
 obtain ⟨s0,s1,s2,-⟩:=slcP_some hsl
 rw [dat_els,List.length_map] at s2
 have hab:a.toNat≤b.toNat:=by omega
 have hbl:b.toNat≤V.els.length:=by omega
 have hye:Y.els=(V.els.drop a.toNat).take (b.toNat - a.toNat):=by rw [he];rfl
 have hcut:=drop_cut V.els hka hab
 rw [← hye] at hcut
 simp only [dat_els,List.length_map] at h1
 cases hya:Y.a with
 | some ad =>
  refine L_appA (ys:=Y.els) (M2:=elsT (V.els.drop b.toNat)::M2) hn hs (by rw [hx];show some (Value.slice Y.a _ _)=_;rw [hya]) ht hsz hz hp rfl (fun w hw j v hv=>?_) (fun w R h=>?_) h1 hb
   (fun X' h=>hk X' (by rw [dat_els,h,List.map_append];rfl))
  ·have hmm:rowH V∈M:=by
    have:=hp.perm.mem_iff (a:=rowH V)
    exact this.2 (List.mem_cons_of_mem _ hm)
   obtain ⟨r1,r2,r3,r4⟩:=hw.prs _ hmm
   have hlt:a.toNat < V.els.length:=by
    rcases Nat.lt_or_ge a.toNat V.els.length with h | h
    ·exact h
    ·rw [hye,List.drop_of_length_le h] at hv;simp [rowCells] at hv
   cases hva:V.a with
   | none=>have:=(r3 hva).1;rw [this] at hlt;simp at hlt
   | some va =>
    obtain ⟨g1,g2,g3,g4⟩:=r4 va hva
    have had:ad=va.add (a.toNat*GT.sz τ):=by
     have:Y.a=some (va.add (a.toNat*GT.sz τ)):=by
      rw [he];unfold slc
      have hne:¬ V.cap=a.toNat:=by omega
      simp only [if_neg hne,hva];rfl
     rw [hya] at this;exact Option.some.inj this
    obtain ⟨vb,vo,vs⟩:=va
    have g1:vs=none:=g1
    have g2:vo=0:=g2
    subst g1;subst g2
    rw [had]
    have e3:(Addr.add (Addr.add ⟨vb,0,none⟩ (a.toNat*GT.sz τ)) j)=⟨vb,a.toNat*GT.sz τ+j,none⟩:=by rw [addr_add,addr_add,Nat.zero_add]
    rw [e3,cell_of_row _ _ _ _ _ _ g3]
    simp only [List.getElem?_toArray]
    have e4:(rowCells V.els++V.tail)[a.toNat*GT.sz τ+j]?=((rowCells V.els++V.tail).drop (a.toNat*GT.sz τ))[j]?:=by rw [List.getElem?_drop]
    rw [e4,row_drop _ _ _ (by omega)]
    have e5:V.els.drop a.toNat=Y.els++V.els.drop b.toNat:=by
     have:=drop_cut V.els (Nat.le_refl a.toNat) hab
     rw [← hye] at this;simpa using this
    rw [e5,rowCells_append,List.append_assoc,List.getElem?_append_left (List.getElem?_eq_some_iff.1 hv).1]
    exact hv
  ·have h2:=h.perm (List.Perm.append_right R hq.perm)
   exact els_split2 (List.Perm.of_eq hcut) h2
 | none =>
  intro ops a' w Q ha hw
  have hm':rowH V∈treeH X::M1:=List.mem_cons_of_mem _ hm
  have hw1:=hw.perm hp.perm
  obtain ⟨r1,r2,r3,r4⟩:=hw1.prs _ hm'
  have hye0:Y.els=[]:=by
   rcases Nat.lt_or_ge a.toNat V.cap with h | h
   ·have hne:¬ V.cap=a.toNat:=by omega
    have:Y.a=V.a.map (·.add (a.toNat*GT.sz τ)):=by rw [he];unfold slc;simp only [if_neg hne]
    rw [hya] at this
    cases hva:V.a with
    | none=>rw [hye,(r3 hva).1];simp
    | some va=>rw [hva] at this;cases this
   ·rw [hye,List.drop_of_length_le (by omega)];simp
  have hk':=hk X (by rw [dat_els Y,hye0];simp)
  have hr:GT.ow w X:=hw1.prs _ (List.mem_cons_self ..)
  refine L_step rfl rfl (Nat.le_of_ble_eq_true hn) (fun a' w ha hw=>⟨w,?_,?_⟩) hk' ops a' w Q ha hw
  ·have hr:GT.ow w X:=(hw.perm hp.perm).prs _ (List.mem_cons_self ..)
   have h3:=append_none (P:=Γ.P) (w:=w) (a:=X.a) (n:=X.els.length) (c:=X.cap) (c2:=Y.cap) ht hr.1 ty
   have h5:(Builtin.append_ #[T,T] ty #[X.hdr,.slice none 0 Y.cap]).run Γ.P w=.ok X.hdr w:=h3
   have h6:=ha.eval hx
   have h7:Y.hdr=.slice none 0 Y.cap:=by show Value.slice Y.a _ _=_;rw [hya,hye0];rfl
   rw [h7] at h6
   generalize X.hdr=uu at *
   simp [execOp,resolve,invoke,builtin,ha.eval hs,h6,h5]
  ·have h2:=(hw.perm hp.perm).perm (hq.perm.cons _)
   have h4:=h2.perm (List.Perm.swap _ _ _)
   have h5:=els_split2 (List.Perm.of_eq hcut) h4
   have h6:Holds Γ.w0 Γ.S0 (elsT Y.els::treeH X::elsT (V.els.drop b.toNat)::M2) w:=h5.perm (((List.Perm.swap _ _ _)).cons _)
   exact h6.sub ⟨[elsT Y.els],(List.perm_append_comm (l₁:=[elsT Y.els]) (l₂:=treeH X::elsT (V.els.drop b.toNat)::M2))⟩
end
end Go.Proofs.SL
namespace Go.Proofs.SL
open Go
variable {Γ:Cx} {l:Envl} {M M' M1 M2 F:List HP} {Q:Post} {K:Kont} {w0 w:World} {S0:List Nat}
variable {rest:List Oper} {d:Nat} {ty:TypeId} {pos:String} {af:Array Edge}
variable {ops:Array Oper} {Msh pool pool':List HP} {E:Fl} {rs:List (Option Nat×Rel)} {cs0:List Nat} {KD:List (Option Nat×Rel)→List Nat→List HP→Prop}
section
variable {τ δ:Type} [GT τ δ]
def AggO (f:Value→Value) (r:List δ):Rel:=fun v M=>∃ X:TL τ,v=f X.hdr∧GT.dat X=r∧M=[treeH X]
def RowO (f:Value→Value) (e:TypeId) (r:List δ):Rel:=fun v M=>∃ (X:TL τ) (b:Nat),v=.slice (some ⟨b,0,none⟩) 1 1∧GT.dat X=r∧M=[blk b (f X.hdr).cells.toList e,treeH X]
def OpVp (E:Fl):List (Nat×Operand)→List (Nat×Value)→Prop
 | [],[]=>True
 | x::xs,v::vs=>(x.1=v.1∧OpV E x.2 True v.2)∧OpVp E xs vs
 | _,_=>False
theorem OpVp.nil:OpVp E [] []:=trivial
theorem OpVp.cons {i:Nat} {x:Operand} {v:Value} {xs:List (Nat×Operand)} {vs:List (Nat×Value)} (h:OpV E x True v) (hs:OpVp E xs vs):OpVp E ((i,x)::xs) ((i,v)::vs):=⟨⟨rfl,h⟩,hs⟩
theorem OpVp.evals {a:Act} {F:List HP} {o:Oper} (hf:Facts E (o.looksAt ops) F a):∀ (xs:List (Nat×Operand)) (vs:List (Nat×Value)),OpVp E xs vs→(∀ x,x∈xs→x.2∈o.op.operands.toList)→xs.map (fun p=>(p.1,a.eval p.2))=vs
 | [],[],_,_=>rfl
 | x::xs,v::vs,h,hm=>by
  rw [List.map_cons,h.1.2.eval hf (hm x (by simp)) trivial,OpVp.evals hf xs vs h.2 (fun y hy=>hm y (List.mem_cons_of_mem _ hy)),h.1.1]
 | [],_::_,h,_=>h.elim
 | _::_,[],h,_=>h.elim
theorem D_buildO {T:TypeId} {t:Nat} {xs:List (Nat×Operand)} {ps:Value→List (Nat×Value)} {pl:List (Nat×Nat)} {z:List Value} {cs:Value→List Value} {r:List δ}
  (hR:E.lookup t=some (OwnV (τ:=τ) r)) (hx:∀ u,OpVp ((t,FC True u)::dropE [t] E) xs (ps u)) (ht:bldOf Γ.P T=some (pl,z)) (hf:∀ X:TL τ,fillL (pl[·]?) z (ps X.hdr)=some (cs X.hdr))
  (hlin:linB ops { dst:=some d,op:=.build T xs.toArray,type:=ty,pos:=pos,after:=af,guard:=none } [t]=true)
  (hk:DV Γ ops Msh pool ((d,AggO (τ:=τ) (fun u=>.agg (cs u).toArray) r)::dropE [t] E) ((some d,AggO (τ:=τ) (fun u=>.agg (cs u).toArray) r)::rs) ([t]++cs0) rest KD) :
  DV Γ ops Msh pool E rs cs0 ({ dst:=some d,op:=.build T xs.toArray,type:=ty,pos:=pos,after:=af,guard:=none }::rest) KD:=by
 refine DV.mk (AggO (τ:=τ) (fun u=>.agg (cs u).toArray) r) [] pool ([t]) (by simp) hlin ?_ hk
 intro a w F Mk _ _ hw hm hfa hcf
 obtain ⟨Mx,Mk',rfl,hRR,hnil⟩:=hcf
 have hnil:Mk'=[]:=hnil
 subst hnil
 obtain ⟨X,hv,hd,rfl⟩:=hRR _ hR
 rw [if_pos (by simp [Region.wanted])]
 have hf2:Facts ((t,FC True X.hdr)::dropE [t] E) (Oper.looksAt ops { dst:=some d,op:=.build T xs.toArray,type:=ty,pos:=pos,after:=af,guard:=none }) F a:=by
  intro t' R' h1 h2
  rw [List.lookup_cons] at h2
  cases hb:t' == t with
  | true =>
   rw [hb] at h2
   cases h2
   have:t'=t:=by simpa using hb
   subst this
   exact ⟨[],⟨rfl,fun _=>hv,fun hn=>(hn trivial).elim⟩,fun _ h=>by cases h⟩
  | false=>rw [hb] at h2;exact hfa t' R' h1 h2
 have h1:xs.toArray.map (fun (i,x)=>(i,a.eval x))=(ps X.hdr).toArray:=by
  have:=OpVp.evals (o:={ dst:=some d,op:=.build T xs.toArray,type:=ty,pos:=pos,after:=af,guard:=none }) hf2 xs (ps X.hdr) (hx X.hdr) (fun x hx=>by simp [Op.operands];exact ⟨_,hx⟩)
  rw [← this];simp
 have h3:(execOp a.eval { dst:=some d,op:=.build T xs.toArray,type:=ty,pos:=pos,after:=af,guard:=none }).run Γ.P w=.ok (.value (.agg (cs X.hdr).toArray)) w:=by
  simp only [execOp,h1]
  simp [run_build ht (hf X)]
 rw [h3]
 exact ⟨[treeH X],⟨X,rfl,hd,rfl⟩,by simpa using hw⟩
theorem D_bs1O {t T e sz by_:Nat} {z:List Value} {f:Value→Value} {r:List δ} (hR:E.lookup t=some (AggO (τ:=τ) f r)) (ht:elOf Γ.P T=some (e,sz,by_,z)) (hz:z.length=sz) (hsz:0 < sz) (hns:sz≤65536)
  (hv:∀ X:TL τ,(f X.hdr).cells.toList.length=sz)
  (hlin:linB ops { dst:=some d,op:=.buildSlice T 1 #[(0,.tmp t)],type:=ty,pos:=pos,after:=af,guard:=none } [t]=true)
  (hk:DV Γ ops Msh pool ((d,RowO (τ:=τ) f e r)::dropE [t] E) ((some d,RowO (τ:=τ) f e r)::rs) ([t]++cs0) rest KD) :
  DV Γ ops Msh pool E rs cs0 ({ dst:=some d,op:=.buildSlice T 1 #[(0,.tmp t)],type:=ty,pos:=pos,after:=af,guard:=none }::rest) KD:=by
 refine DV.mk (RowO (τ:=τ) f e r) [] pool ([t]) (by simp) hlin ?_ hk
 intro a w F Mk _ _ hw hm hfa hcf
 obtain ⟨Mx,Mk',rfl,hRR,hnil⟩:=hcf
 have hnil:Mk'=[]:=hnil
 subst hnil
 obtain ⟨X,hx,hd,rfl⟩:=hRR _ hR
 rw [if_pos (by simp [Region.wanted])]
 have e1:a.eval (.tmp t)=f X.hdr:=hx
 have h1:(execOp a.eval { dst:=some d,op:=.buildSlice T 1 #[(0,.tmp t)],type:=ty,pos:=pos,after:=af,guard:=none }).run Γ.P w=.ok (.value (.slice (some ⟨w.heap.size,0,none⟩) 1 1)) (w.alloc (.cells (f X.hdr).cells.toList.toArray e (0,0))):=by
  simp only [execOp]
  have:(#[(0,Operand.tmp t)]:Array (Nat×Operand)).map (fun (i,x)=>(i,a.eval x))=#[(0,f X.hdr)]:=by simp [e1]
  rw [this]
  simp [run_bs1 ht hz hsz hns (hv X)]
 rw [h1]
 exact ⟨[blk w.heap.size (f X.hdr).cells.toList e,treeH X],⟨X,_,rfl,hd,rfl⟩,Holds.new (show Holds Γ.w0 Γ.S0 (treeH X::F) w by simpa using hw) rfl⟩
end
end Go.Proofs.SL
namespace Go.Proofs.SL
open Go
variable {M M1:List HP} {w0 w:World} {S0:List Nat}
end Go.Proofs.SL
namespace Go.Proofs.SL
open Go
theorem els_skip {M M1:List HP} {w0 w:World} {S0:List Nat} {τ δ:Type} [GT τ δ] {X:TL τ} {i:Int} {u:τ} (hi:0≤i∧X.els[i.toNat]?=some u) (hm:rowH X∈M) (p:Pick (elsT (X.els.drop i.toNat)) M M1) (h:Holds w0 S0 M w) :
  Holds w0 S0 (elsT (X.els.drop (IntKind.wrap .i64 (i+1)).toNat)::M1) w:=by
 have h1:=els_next hi.2 p h
 have h2:Holds w0 S0 (elsT (X.els.drop (i.toNat+1))::M1) w:=h1.sub ⟨[treeH u],List.perm_append_comm (l₁:=[treeH u])⟩
 have hlt:=(List.getElem?_eq_some_iff.1 hi.2).1
 obtain ⟨r1,r2,_⟩:=h.prs _ hm
 simp only [maxLen] at r2
 rw [wrap64_in (by unfold inR;omega),show (i+1).toNat=i.toNat+1 by omega]
 exact h2
end Go.Proofs.SL
namespace Go.Proofs.SL
open Go
variable {Γ:Cx} {l:Envl} {M M' M1 M2 F:List HP} {Q:Post} {K:Kont} {w0 w:World} {S0:List Nat} {P:Program}
variable {rest:List Oper} {d:Nat} {ty:TypeId} {pos:String} {af:Array Edge}
section
variable {τ δ:Type} [GT τ δ]
theorem L_slcE {x:Operand} {lo hi:Option Operand} {T e sz by_:Nat} {z:List Value} {X:TL τ} {a b:Int} {r:List δ} (hn:Nat.blt d Γ.n=true) (hx:ev l x=some X.hdr) (hlo:optI l lo 0=some a) (hhi:optI l hi ((GT.dat X).length:Int)=some b)
  (ht:elOf Γ.P T=some (e,sz,by_,z)) (hsz:GT.sz τ=sz) (hR:RdT Γ M X) (hr:slcP (GT.dat X) a b=some r)
  (hk:∀ X':TL τ,GT.dat X'=r→X'=slc X a.toNat b.toNat→L Γ rest ((d,X'.hdr)::l) M K) :
  L Γ ({ dst:=some d,op:=.slice T x lo hi none,type:=ty,pos:=pos,after:=af,guard:=none }::rest) l M K:=by
 unfold slcP at hr
 split at hr
 ·rename_i hb
  cases hr
  rw [dat_els,List.length_map] at hb hhi
  obtain ⟨h0,h1,h2⟩:=hb
  have h1':a.toNat≤b.toNat:=by omega
  have h2':b.toNat≤X.els.length:=by omega
  refine L_pure hn (v:=(slc X a.toNat b.toNat).hdr) (fun a' w ha hw=>?_) (hk (slc X a.toNat b.toNat) (by rw [dat_els,dat_els];simp [slc,List.map_take,List.map_drop]) rfl)
  have hcap:X.els.length≤X.cap:=(hR w hw.sees).1
  unfold elOf at ht
  split at ht<;>(try cases ht)
  rename_i e' het
  split at ht<;>(try cases ht)
  rename_i i' hi'
  split at ht<;>cases ht
  have hlen:((X.els.drop a.toNat).take (b.toNat - a.toNat)).length=b.toNat - a.toNat:=by simp;omega
  have hv:(slc X a.toNat b.toNat).hdr=.slice (if X.cap=a.toNat then X.a else X.a.map (·.add (a.toNat*i'.size))) (b.toNat - a.toNat) (X.cap - a.toNat):=by
   show Value.slice _ ((X.els.drop a.toNat).take (b.toNat - a.toNat)).length _=_
   rw [hlen];simp only [slc,hsz]
  rw [hv]
  have e1:a'.eval x=.slice X.a X.els.length X.cap:=ha.eval hx
  cases lo with
  | none =>
   cases hlo
   cases hi with
   | none =>
    cases hhi
    simp only [execOp,Option.map_none,e1,Instr.sliceAt,Instr.slice,underlying,Sem.run_bind,run_program,Result.andThen_ok,het,Instr.sliceBounds,Sem.run_pure,sizeOf,typeInfo,hi']
    simp
   | some o =>
    obtain ⟨k,h5⟩:=optI_some hhi
    have e2:=ha.eval h5
    have e4:=fun w=>run_sliceBound (P:=Γ.P) (k:=k) (code:=.sliceAcap) (show 0≤b by omega) (show b≤((X.cap:Nat):Int) by omega) w
    simp [execOp,e1,e2,Instr.sliceAt,Instr.slice,underlying,het,Instr.sliceBounds,sizeOf,typeInfo,hi',e4]
  | some o1 =>
   obtain ⟨k1,h6⟩:=optI_some hlo
   have e3:=ha.eval h6
   cases hi with
   | none =>
    cases hhi
    have e4:=fun w=>run_sliceBound (P:=Γ.P) (k:=k1) (code:=.sliceB) h0 (show a≤((X.els.length:Nat):Int) by omega) w
    simp [execOp,e1,e3,Instr.sliceAt,Instr.slice,underlying,het,Instr.sliceBounds,sizeOf,typeInfo,hi',e4]
   | some o =>
    obtain ⟨k,h5⟩:=optI_some hhi
    have e2:=ha.eval h5
    have e4:=fun w=>run_sliceBound (P:=Γ.P) (k:=k) (code:=.sliceAcap) (show 0≤b by omega) (show b≤((X.cap:Nat):Int) by omega) w
    have e5:=fun w=>run_sliceBound (P:=Γ.P) (k:=k1) (code:=.sliceB) h0 (show a≤((b.toNat:Nat):Int) by omega) w
    simp [execOp,e1,e2,e3,Instr.sliceAt,Instr.slice,underlying,het,Instr.sliceBounds,sizeOf,typeInfo,hi',e4,e5]
 ·cases hr
theorem slcE_rd {X Y:TL τ} {a b:Int} {r:List δ} (he:Y=slc X a.toNat b.toNat) (hs:slcP (GT.dat X) a b=some r):∀ w S,GT.rd w S X→GT.rd w S Y:=by
 intro w S h
 obtain ⟨s0,s1,s2,-⟩:=slcP_some hs
 rw [dat_els,List.length_map] at s2
 subst he
 exact slc_rd h (by omega) (by omega)
def trunc (X:TL τ) (b:Nat):TL τ:=⟨X.a,X.cap,X.e,X.els.take b,rowCells (X.els.drop b)++X.tail⟩
theorem trunc_own {X:TL τ} {b:Nat} (hb:b≤X.els.length) (p:Pick (treeH X) M M1) (h:Holds w0 S0 M w):Holds w0 S0 (treeH (trunc X b)::M1) w:=by
 have h1:=tree_row (h.perm p.perm)
 have h2:Holds w0 S0 (elsT (X.els.take b)::rowH X::M1) w:=els_sub (zs:=X.els.drop b) (List.Perm.of_eq (List.take_append_drop b X.els).symm) (by apply Pick.there;exact Pick.here _) h1
 have h3:=h2.perm (List.Perm.swap _ _ _)
 refine row_tree ?_
 show Holds w0 S0 (rowH (trunc X b)::elsT (X.els.take b)::M1) w
 refine h3.reFp (List.Perm.of_eq rfl) fun x hx=>?_
 rcases List.mem_cons.1 hx with rfl | hx
 ·obtain ⟨r1,r2,r3,r4⟩:=h3.prs (rowH X) (List.mem_cons_self ..)
  have hl:(X.els.take b).length=b:=by rw [List.length_take,Nat.min_eq_left hb]
  refine ⟨by show (X.els.take b).length≤X.cap;omega,r2,fun ha=>⟨by show X.els.take b=[];rw [(r3 ha).1];simp,(r3 ha).2⟩,fun a ha=>?_⟩
  obtain ⟨g1,g2,g3,g4⟩:=r4 a ha
  refine ⟨g1,g2,?_,?_⟩
  ·show w.heap[a.block]?=some (.cells (rowCells (X.els.take b)++(rowCells (X.els.drop b)++X.tail)).toArray X.e (0,0))
   rw [← List.append_assoc,← rowCells_append,List.take_append_drop];exact g3
  ·show (X.els.take b).length*GT.sz τ+(rowCells (X.els.drop b)++X.tail).length=X.cap*GT.sz τ
   rw [List.length_append,length_rowCells,List.length_drop,hl,← g4,← Nat.add_assoc,← Nat.add_mul]
   congr 2;omega
 ·exact h3.prs _ (List.mem_cons_of_mem _ hx)
theorem trunc_hdr {X Y:TL τ} {a b:Nat} (he:Y=slc X a b) (ha:a=0) (hb:b≤X.els.length):(trunc X b).hdr=Y.hdr:=by
 subst ha;subst he
 show Value.slice X.a (X.els.take b).length X.cap=Value.slice (if X.cap=0 then X.a else X.a.map (·.add (0*GT.sz τ))) ((X.els.drop 0).take (b - 0)).length (X.cap - 0)
 have h2:X.a.map (fun q:Addr=>q.add (0*GT.sz τ))=X.a:=by
  cases X.a with
  | none=>rfl
  | some q=>simp [Addr.add]
 rw [h2];simp
theorem L_trunc {X Y:TL τ} {a b:Int} {r':List δ} {u:Unit} (he:Y=slc X a.toNat b.toNat) (hsl:slcP (GT.dat X) a b=some r') (h0:chkP (decide (a=0))=some u) (p:Pick (treeH X) M M1)
  (hk:∀ Z:TL τ,GT.dat Z=GT.dat Y→Z.hdr=Y.hdr→L Γ rest l (treeH Z::M1) K):L Γ rest l M K:=by
 obtain ⟨s0,s1,s2,-⟩:=slcP_some hsl
 rw [dat_els,List.length_map] at s2
 have h0:a=0:=of_decide_eq_true (chkP_some h0)
 refine L_conv (fun w h=>trunc_own (b:=b.toNat) (by omega) p h) (hk _ ?_ (trunc_hdr he (by omega) (by omega)))
 rw [he,h0,dat_els,dat_els]
 simp [trunc,slc]
end
end Go.Proofs.SL
namespace Go.Proofs.SL
open Go
variable {Γ:Cx} {ops:Array Oper} {Msh pool pool':List HP} {E:Fl} {rs:List (Option Nat×Rel)} {rest:List Oper} {KD:RKont} {cs0:List Nat}
variable {d:Nat} {ty:TypeId} {pos:String} {af:Array Edge}
variable {gd:Option (Nat×Bool)}
end Go.Proofs.SL
namespace Go.Proofs.SL
open Go
section
variable {τ δ κ:Type} [GT τ δ]
variable [Inhabited κ]
theorem put_cells (enc:κ→Value) (ds:List κ) (a b:List Value) (h:a.length=ds.length):Sort.putCells enc 0 ds.toArray (a++b).toArray=(ds.map enc++b).toArray:=by
 apply Array.ext_getElem?
 intro j
 simp only [Sort.putCells,Array.getElem?_mapIdx,List.getElem?_toArray,List.size_toArray,Nat.zero_add,Nat.zero_le,true_and,Nat.sub_zero]
 rcases Nat.lt_or_ge j ds.length with hj | hj
 ·rw [List.getElem?_append_left (by omega),List.getElem?_append_left (by simpa using hj),List.getElem?_eq_getElem (show j < a.length by omega)]
  simp [hj,List.getElem?_map]
 ·rw [List.getElem?_append_right (by omega),List.getElem?_append_right (by simpa using hj),List.length_map,h]
  cases b[j - ds.length]? with
  | none=>rfl
  | some v=>simp [Nat.not_lt.2 hj]
theorem own_cases {w:World} {a0:TL τ} (hh:Holds w (fps [treeH a0]) [treeH a0] w):(∃ e tail,a0=⟨none,0,e,[],tail⟩)∨∃ b cap e els tail,a0=⟨some ⟨b,0,none⟩,cap,e,els,tail⟩∧els.length≤cap∧els.length*GT.sz τ+tail.length=cap*GT.sz τ∧w.heap[b]?=some (.cells (rowCells els++tail).toArray e (0,0))∧b < w.heap.size:=by
 have ht:GT.ow w a0:=hh.prs _ (List.mem_cons_self ..)
 obtain ⟨h1,h2,h3,h4,h5⟩:=ht
 obtain ⟨a,cap,e,els,tail⟩:=a0
 dsimp only at h1 h2 h3 h4 h5
 cases a with
 | none =>
  obtain ⟨rfl,rfl⟩:=h4 rfl
  exact .inl ⟨e,tail,rfl⟩
 | some ad =>
  obtain ⟨hs,ho,hb,hl⟩:=h5 ad rfl
  obtain ⟨b,o,sp⟩:=ad
  dsimp only at hs ho hb
  subst hs;subst ho
  exact .inr ⟨b,cap,e,els,tail,rfl,h1,hl,hb,(Array.getElem?_eq_some_iff.1 hb).1⟩
end
theorem map_id' {α:Type} (l:List α):l.map (fun x=>x)=l:=by simp
end Go.Proofs.SL
namespace Go.Proofs.SL
open Go
def eqShape (P:Program) (T:TypeId):Option (List (TypeId×Nat)):=match P.underlying T with
 | some (.struct fs)=>if P.stoodInHeld T||P.eqGuardType P.depth T then none else some ((fs.toList.filter fun f=>decide (f.name≠"_")).map fun f=>(f.type,f.offset))
 | _=>none
inductive EqS (P:Program) (d:Nat) (xs ys:Array Value):List (TypeId×Nat)→Bool→Prop
 | nil:EqS P d xs ys [] true
 | cons {t:TypeId} {o:Nat} {a b:Value} {r r':Bool} {fs:List (TypeId×Nat)} (ht:oneOf P t=true) (ha:xs[o]?=some a) (hb:ys[o]?=some b) (he:∀ w,(Op.equalIn d t a b).run P w=.ok r w) (hs:EqS P d xs ys fs r'):EqS P d xs ys ((t,o)::fs) (r&&r')
theorem run_part_one {P:Program} {T:TypeId} (h:oneOf P T=true) {xs:Array Value} {o:Nat} {v:Value} (hx:xs[o]?=some v) (w:World):(part T xs o).run P w=.ok v w:=by
 simp [part,run_isAgg_one h,hx]
theorem run_eqS {P:Program} {d:Nat} {xs ys:Array Value}:∀ {fs:List Field} {r:Bool},EqS P d xs ys ((fs.filter fun f=>decide (f.name≠"_")).map fun f=>(f.type,f.offset)) r→∀ w,(Op.eqFields d xs ys fs).run P w=.ok r w
 | [],r,h,w=>by cases h;simp [Op.eqFields]
 | f::fs,r,h,w=>by
  unfold Op.eqFields
  by_cases hn:f.name≠"_"
  ·rw [List.filter_cons,if_pos (by simp [hn])] at h
   rw [if_pos hn]
   cases h with
   | cons ht ha hb he hs =>
    rename_i a b r r'
    simp only [Sem.run_bind,run_part_one ht ha,run_part_one ht hb,Result.andThen_ok,he]
    cases r
    ·simp
    ·simp only [Bool.not_true,Bool.false_eq_true,if_false,Bool.true_and]
     exact run_eqS hs w
  ·rw [List.filter_cons,if_neg (by simpa using hn)] at h
   rw [if_neg hn]
   exact run_eqS h w
theorem eqShape_some {P:Program} {T:TypeId} {sh:List (TypeId×Nat)} (h:eqShape P T=some sh):P.underlying T=some (.struct (P.fieldsOf T))∧P.stoodInHeld T=false∧P.eqGuardType P.depth T=false∧sh=((P.fieldsOf T).toList.filter fun f=>decide (f.name≠"_")).map fun f=>(f.type,f.offset):=by
 unfold eqShape at h
 split at h
 ·rename_i fs hu
  have hf:P.fieldsOf T=fs:=by unfold Program.fieldsOf;rw [hu]
  split at h
  ·cases h
  ·rename_i hn
   simp only [Bool.or_eq_true,not_or,Bool.not_eq_true] at hn
   exact ⟨by rw [hf];exact hu,hn.1,hn.2,by rw [hf];exact (Option.some.inj h).symm⟩
 ·cases h
theorem bv_aeql {P:Program} {T:TypeId} {x y:Operand} {xs ys:Array Value} {sh:List (TypeId×Nat)} {r:Bool} (h:eqShape P T=some sh) (he:EqS P 9999 xs ys sh r):BinV P .eql T x y (.agg xs) (.agg ys) (.bool r):=fun w=>by
 obtain ⟨h1,h2,h3,rfl⟩:=eqShape_some h
 simp only [Sem.run_bind,run_eqGuard_agg w _ _ _ _ _ _ h3,Result.andThen_ok,run_eql_struct]
 rw [show (10000:Nat)=9999+1 from rfl,run_equalIn_struct w 9999 T xs ys h1 h2,run_eqS he w];rfl
theorem bv_aneq {P:Program} {T:TypeId} {x y:Operand} {xs ys:Array Value} {sh:List (TypeId×Nat)} {r:Bool} (h:eqShape P T=some sh) (he:EqS P 9999 xs ys sh r):BinV P .neq T x y (.agg xs) (.agg ys) (.bool (!r)):=fun w=>by
 obtain ⟨h1,h2,h3,rfl⟩:=eqShape_some h
 simp only [Sem.run_bind,run_eqGuard_agg w _ _ _ _ _ _ h3,Result.andThen_ok,run_neq_struct]
 rw [show (10000:Nat)=9999+1 from rfl,run_equalIn_struct w 9999 T xs ys h1 h2,run_eqS he w];rfl
theorem EqS.consI {P:Program} {d:Nat} {xs ys:Array Value} {t:TypeId} {o:Nat} {k:IntKind} {a b:Int} {r':Bool} {fs:List (TypeId×Nat)} {k':IntKind} (ht:oneOf P t=true) (hu:P.underlying t=some (.int k')) (ha:xs[o]?=some (.int k a)) (hb:ys[o]?=some (.int k b)) (hs:EqS P (d+1) xs ys fs r'):EqS P (d+1) xs ys ((t,o)::fs) (decide (a=b)&&r') :=
 EqS.cons ht ha hb (fun w=>run_equalIn_int w d t k k' a b hu) hs
end Go.Proofs.SL
namespace Go.Proofs.SL
open Go
section
variable {Γ:Cx} {l:Envl} {M:List HP} {K:Kont} {w0 w:World} {S0:List Nat}
variable {rest:List Oper} {d:Nat} {ty:TypeId} {pos:String} {af:Array Edge}
theorem L_storeA {x y:Operand} {T b fo:Nat} {T':TypeId} {cs cs' r:List Value} {M':List HP} (hx:ev l x=some (.pointer (some ⟨b,fo,none⟩))) (hy:ev l y=some (.agg cs'.toArray)) (hp:Pick (blk b cs T') M M')
  (ht:aggOf Γ.P T=some cs'.length) (hl:fo+cs'.length≤cs.length) (h1:∀ v,v∈cs'→v.oneCell'=true) (hr:cs.take fo++cs'++cs.drop (fo+cs'.length)=r) (hk:L Γ rest l (blk b r T'::M') K) :
  L Γ ({ dst:=none,op:=.store T x y,type:=ty,pos,after:=af,guard:=none }::rest) l M K :=
 L_skip rfl rfl (fun a w ha hw=>by
  subst hr
  have hw':=hw.perm hp.perm
  have hh:w.heap[b]?=some (.cells cs.toArray T' (0,0)):=hw'.prs (blk b cs T') (by simp)
  have hs:=run_store_blk (P:=Γ.P) (fo:=fo) (vs:=cs') (ty:=T) hh hl h1
  refine ⟨_,?_,setRow_blk (cs':=cs.take fo++cs'++cs.drop (fo+cs'.length)) hw'⟩
  simp [execOp,ha.eval hx,ha.eval hy,Instr.storeAt,Instr.sureAddr,storeVar,run_isAgg_agg ht,Value.cells,hs]) hk
end
section
variable {Γ:Cx} {rest:List Oper} {d:Nat} {ty:TypeId} {pos:String} {af:Array Edge}
variable {ops:Array Oper} {Msh pool:List HP} {E:Fl} {rs:List (Option Nat×Rel)} {cs0:List Nat} {KD:List (Option Nat×Rel)→List Nat→List HP→Prop}
def PtrNew (z:List Value) (T:TypeId):Rel:=fun v M=>∃ b,v=.pointer (some ⟨b,0,none⟩)∧M=[blk b z T]
theorem D_alloc {T:TypeId} {z:List Value} (hz:zeroOf Γ.P T=some z)
  (hk:DV Γ ops Msh pool ((d,PtrNew z T)::E) ((some d,PtrNew z T)::rs) cs0 rest KD) :
  DV Γ ops Msh pool E rs cs0 ({ dst:=some d,op:=.alloc T,type:=ty,pos:=pos,after:=af,guard:=none }::rest) KD:=by
 refine DV.mk (PtrNew z T) [] pool [] (by simp) rfl ?_ (by rw [dropE_nil];exact hk)
 intro a w F Mk _ _ hw hm hfa hcf
 have hMk:Mk=[]:=hcf
 subst hMk
 rw [dropE_nil] at hfa
 simp only [List.nil_append] at hw ⊢
 rw [if_pos (by simp [Region.wanted])]
 have h1:(execOp a.eval { dst:=some d,op:=.alloc T,type:=ty,pos:=pos,after:=af,guard:=none }).run Γ.P w=.ok (.value (.pointer (some ⟨w.heap.size,0,none⟩))) (w.alloc (.cells z.toArray T (0,0))):=by
  unfold zeroOf at hz
  split at hz<;>(try cases hz)
  rename_i i hi
  split at hz<;>cases hz
  rename_i z' hz'
  simp [execOp,Instr.alloc,zeroValue,typeInfo,hi,hz',newVar,newRow]
 rw [h1]
 exact ⟨[blk w.heap.size z T],⟨_,rfl,rfl⟩,Holds.new (show Holds Γ.w0 Γ.S0 F w by simpa using hw) rfl⟩
end
theorem eqB_nf {α:Type} {a b:α}:((!eqB a b)=false)↔a=b:=by
 cases h:eqB a b with
 | true=>simp [eqB_true.1 h]
 | false=>simp [eqB_false.1 h]
theorem eqB_nt {α:Type} {a b:α}:((!eqB a b)=true)↔¬ a=b:=by
 cases h:eqB a b with
 | true=>simp [eqB_true.1 h]
 | false=>simp [eqB_false.1 h]
end Go.Proofs.SL
namespace Go.Proofs.SL
open Go
instance:Mk Bool:=⟨fun _=>1,fun k _=>decide (((k:Int)).tmod 3=0)⟩
instance:Bm Bool:=⟨1,fun x=>by show 1≤1*(1+0);omega⟩
theorem mk_bool (k:Nat) (a:Bool):Mk.mkd k a=decide (((k:Int)).tmod 3=0):=rfl
theorem cnt_bool (a:Bool):Mk.cnt a=1:=rfl
end Go.Proofs.SL
namespace Go.Proofs.SL
open Go
variable {Γ:Cx} {l:Envl} {M M1:List HP} {K:Kont} {w0 w:World} {S0:List Nat}
variable {rest:List Oper} {d:Nat} {ty:TypeId} {pos:String} {af:Array Edge}
section
variable {τ δ:Type} [GT τ δ]
theorem blk_own [FlatT τ] {b cap:Nat} {e:TypeId} {ts:List τ} {tail:List Value} (h1:ts.length≤cap) (h2:cap≤maxLen) (h3:ts.length*GT.sz τ+tail.length=cap*GT.sz τ)
  (h:Holds w0 S0 (blk b (rowCells ts++tail) e::M) w):Holds w0 S0 (treeH (⟨some ⟨b,0,none⟩,cap,e,ts,tail⟩:TL τ)::M) w:=by
 have hb:w.heap[b]?=some (.cells (rowCells ts++tail).toArray e (0,0)):=h.prs _ (List.mem_cons_self ..)
 have ef:fps (treeH (⟨some ⟨b,0,none⟩,cap,e,ts,tail⟩:TL τ)::M)=fps (blk b (rowCells ts++tail) e::M):=by
  simp only [fps_cons]
  show ([b]++ts.flatMap GT.fp)++fps M=[b]++fps M
  rw [fps_flat ts fun x _=>FlatT.flat x,List.append_nil]
 refine ⟨h.os,h.tape,h.output,h.size,h.old,fun x hx=>?_,by rw [ef];exact h.nodup,fun k hk=>h.rng k (by rw [← ef];exact hk)⟩
 rcases List.mem_cons.1 hx with rfl | hx
 ·exact ⟨h1,h2,fun x _=>(FlatT.flat x).ow w,fun hn=>(by cases hn),fun a ha=>by cases ha;exact ⟨rfl,rfl,hb,h3⟩⟩
 ·exact h.prs x (List.mem_cons_of_mem _ hx)
theorem L_bsN [FlatT τ] (ts:List τ) {T e sz by_ n:Nat} {z:List Value} {xs:List (Nat×Operand)} {ps:List (Nat×Value)} {r:List δ} (hn:Nat.blt d Γ.n=true) (hx:evp l xs=some ps) (ht:elOf Γ.P T=some (e,sz,by_,z)) (hz:z.length=sz)
  (hsz:GT.sz τ=sz) (h0:Nat.blt 0 sz=true) (hns:Nat.ble (n*sz) 65536=true) (hn0:Nat.blt 0 n=true) (hlen:ts.length=n) (hf:fillL (fun i=>some (i*sz,sz)) ((List.range (n*sz)).map fun i=>z.getD (i % sz) undef) ps=some (rowCells ts))
  (hr:some (ts.map GT.dat)=some r) (hk:∀ X:TL τ,GT.dat X=r→L Γ rest ((d,X.hdr)::l) (treeH X::M) K) :
  L Γ ({ dst:=some d,op:=.buildSlice T n xs.toArray,type:=ty,pos,after:=af,guard:=none }::rest) l M K:=by
 have h0':0 < sz:=Nat.le_of_ble_eq_true h0
 have hns':n*sz≤65536:=Nat.le_of_ble_eq_true hns
 refine L_buildSlice hn hx ht hz h0' hns' (Nat.le_of_ble_eq_true hn0) hf fun b=>?_
 have hnl:n≤65536:=Nat.le_trans (Nat.le_mul_of_pos_right n h0') hns'
 refine L_conv (M':=treeH (⟨some ⟨b,0,none⟩,n,e,ts,[]⟩:TL τ)::M) (fun w h=>blk_own (by omega) (by simp only [maxLen];omega) (by rw [hlen];simp) (by rw [List.append_nil];exact h)) ?_
 have:=hk ⟨some ⟨b,0,none⟩,n,e,ts,[]⟩ (Option.some.inj hr)
 have eh:(⟨some ⟨b,0,none⟩,n,e,ts,[]⟩:TL τ).hdr=.slice (some ⟨b,0,none⟩) n n:=by show Value.slice _ ts.length _=_;rw [hlen]
 rw [eh] at this
 exact this
end
def u8P (n:Int):Option UInt8:=if 0≤n∧n < 256 then some (UInt8.ofNat n.toNat) else none
theorem u8P_some {n:Int} {b:UInt8} (h:u8P n=some b):n=(b.toNat:Int):=by
 unfold u8P at h
 split at h
 ·rename_i hb
  obtain rfl:=Option.some.inj h
  rw [UInt8.toNat_ofNat']
  omega
 ·cases h
theorem strOf_bytes (xs:List UInt8):strOf (xs.map fun b=>(b.toNat:Int))=⟨xs.toArray⟩:=by
 have h:∀ (xs:List UInt8) (s:ByteArray),(xs.map fun b=>(b.toNat:Int)).foldl (fun r n=>r.push (UInt8.ofNat n.toNat)) s=⟨s.data++xs.toArray⟩:=by
  intro xs
  induction xs with
  | nil=>intro s;simp
  | cons x xs ih =>
   intro s
   rw [List.map_cons,List.foldl_cons,ih]
   congr 1
   show (s.push _).data++_=_
   simp [ByteArray.push]
 unfold strOf
 rw [h]
 simp
def strP (xs:List UInt8):ByteArray:=⟨xs.toArray⟩
theorem run_bytesNone {P:Program} (w:World) (len cap:Nat):(Conv.bytesToString (.slice none len cap)).run P w=.ok (.string ByteArray.empty) w:=by
 simp [Conv.bytesToString]
theorem L_toStr {x:Operand} {S T e:Nat} {X:TL UInt8} (hn:Nat.blt d Γ.n=true) (hx:ev l x=some X.hdr) (hS:Γ.P.underlying S=some (.slice e)) (he:Γ.P.underlying e=some (.int .u8)) (hT:Γ.P.underlying T=some .string)
  (hR:RdT Γ M X) (hk:L Γ rest ((d,.string (strP (GT.dat X)))::l) M K) :
  L Γ ({ dst:=some d,op:=.convert S T x,type:=ty,pos:=pos,after:=af,guard:=none }::rest) l M K:=by
 obtain ⟨a,cap,e',els,tail⟩:=X
 have hd:GT.dat (⟨a,cap,e',els,tail⟩:TL UInt8)=els:=map_id' els
 rw [hd] at hk
 cases a with
 | none =>
  refine L_pure hn (fun a' w ha hw=>?_) hk
  have h1:=hR w hw.sees
  have he0:els=[]:=h1.2.2.2.1 rfl
  subst he0
  have h2:=ha.eval hx
  simp only [execOp,h2,Sem.run_bind]
  show ((convert S T (.slice none _ _)).run Γ.P w).andThen _=_
  rw [run_convert_bytes_string w S T e _ _ _ hS he hT,run_bytesNone]
  rfl
 | some ad =>
  refine L_pure hn (fun a' w ha hw=>?_) hk
  have h1:=hR w hw.sees
  have h2:=ha.eval hx
  obtain ⟨h3,h4⟩:=h1.2.2.2.2 ad rfl
  simp only [execOp,h2,Sem.run_bind]
  show ((convert S T (.slice (some ad) els.length cap)).run Γ.P w).andThen _=_
  rw [run_convert_bytes_string w S T e _ _ _ hS he hT]
  have hrow:∀ xs:List UInt8,rowCells xs=xs.map fun b=>Value.int .u8 (b.toNat:Int):=by
   intro xs
   induction xs with
   | nil=>rfl
   | cons x xs ih=>rw [rowCells_cons,ih];rfl
  have hl:(loadCells ad els.length).run Γ.P w=.ok ((els.map fun b=>(b.toNat:Int)).map (Value.int .u8)).toArray w:=by
   by_cases hz:els=[]
   ·subst hz
    simp [loadCells,loadCellsFrom]
   ·have hs:=h3 hz
    obtain ⟨blk,off,sp⟩:=ad
    dsimp only at hs
    subst hs
    have:=run_loadCells_at (P:=Γ.P) (g:=blk) (off:=off) (cs:=rowCells els) (w:=w) (fun j v hv=>by
     have:=h4 j v hv
     exact this.1)
    rw [length_rowCells,show GT.sz UInt8=1 from rfl,Nat.mul_one,hrow] at this
    rw [this,List.map_map];rfl
  have hb:=run_bytesToString (P:=Γ.P) w ad els.length cap (els.map fun b=>(b.toNat:Int)) hl
  have e1:=strOf_bytes els
  unfold strOf at e1
  rw [hb,e1]
  rfl
end Go.Proofs.SL
namespace Go.Proofs.SL
open Go
section
variable {Γ:Cx} {rest:List Oper} {d:Nat} {ty:TypeId} {pos:String} {af:Array Edge} {gd:Option (Nat×Bool)}
variable {ops:Array Oper} {Msh pool:List HP} {E:Fl} {rs:List (Option Nat×Rel)} {cs0:List Nat} {KD:List (Option Nat×Rel)→List Nat→List HP→Prop}
end
end Go.Proofs.SL
namespace Go.Proofs.SL
open Go
structure AR where
 l:List Int
instance:GT AR (List Int) where
 sz:=1
 pos:=by decide
 cells _:=[.int .i64 0]
 len _:=rfl
 one _ v hv:=by simp at hv;subst hv;rfl
 rd _ _ _:=True
 fp _:=[]
 ow _ _:=True
 dat t:=t.l
 rd_mono h _:=h
 ow_st _ h:=h
 ow_rd _ _:=trivial
theorem dat_ar (x:AR):GT.dat x=x.l:=rfl
def aC (k:IntKind) (l:List Int):List Value:=l.map (Value.int k)
variable {Γ:Cx} {l:Envl} {M:List HP} {K:Kont} {w0 w:World} {S0:List Nat} {rest:List Oper} {d:Nat} {ty:TypeId} {pos:String} {af:Array Edge}
section
variable {k:IntKind} {A A':List Int}
end
structure GA (g:Nat) (k:IntKind) (A:List Int) where mk ::
instance (g:Nat) (k:IntKind) (A:List Int):GT (GA g k A) Unit where
 sz:=1
 pos:=by decide
 cells _:=[.int .i64 0]
 len _:=rfl
 one _ v hv:=by simp at hv;subst hv;rfl
 rd w S _:=∀ j v,(aC k A)[j]?=some v→Old w S ⟨g,j,none⟩ v
 fp _:=[]
 ow _ _:=False
 dat _:=()
 rd_mono h hm:=fun j v hv=>hm _ _ (h j v hv)
 ow_st _ h:=h
 ow_rd h _:=h.elim
variable {ops:Array Oper} {Msh pool:List HP} {E:Fl} {rs:List (Option Nat×Rel)} {cs0:List Nat} {KD:List (Option Nat×Rel)→List Nat→List HP→Prop} {gd:Option (Nat×Bool)}
section
variable {k:IntKind} {A A':List Int} {c:Prop}
end
end Go.Proofs.SL
namespace Go.Proofs.SL
open Go
variable {Γ:Cx} {rest:List Oper} {d:Nat} {ty:TypeId} {pos:String} {af:Array Edge}
variable {ops:Array Oper} {Msh pool:List HP} {E:Fl} {rs:List (Option Nat×Rel)} {cs0:List Nat} {KD:List (Option Nat×Rel)→List Nat→List HP→Prop}
end Go.Proofs.SL
namespace Go.Proofs.SL
open Go
variable {Γ:Cx} {rest:List Oper} {d:Nat} {ty:TypeId} {pos:String} {af:Array Edge}
variable {ops:Array Oper} {Msh pool pool':List HP} {E:Fl} {rs:List (Option Nat×Rel)} {cs0:List Nat} {KD:List (Option Nat×Rel)→List Nat→List HP→Prop}
variable {τ δ:Type} [GT τ δ]
theorem OpV.g0 {g:Nat} {c:Prop}:OpV E (.global g) c (.pointer (some ⟨g,0,none⟩)):=rfl
end Go.Proofs.SL
namespace Go.Proofs.SL
open Go
variable {Γ:Cx} {rest:List Oper} {d:Nat} {ty:TypeId} {pos:String} {af:Array Edge} {l:Envl} {M:List HP} {K:Kont}
end Go.Proofs.SL
namespace Go.Proofs.SL
open Go
variable {Γ:Cx} {rest:List Oper} {d:Nat} {ty:TypeId} {pos:String} {af:Array Edge} {gd:Option (Nat×Bool)}
variable {ops:Array Oper} {Msh pool:List HP} {E:Fl} {rs:List (Option Nat×Rel)} {cs0:List Nat} {KD:RKont}
def GR (c:Prop) (R:Rel):Rel:=fun v M=>(c→R v M)∧(¬ c→v=undef∧M=[])
theorem D_callGV {f:Nat} {xs:List Operand} {ats:Array TypeId} {vs:List Value} {c:Prop} (R:Rel)
  (hg:GC ops E { dst:=some d,op:=.call { callee:=.value (.func f),args:=xs.toArray,argTypes:=ats },type:=ty,pos:=pos,after:=af,guard:=gd } c)
  (hf:IsFn Γ.P f) (hx:OpVs E c xs vs) (hc:c→∀ w F,Holds Γ.w0 Γ.S0 F w→(∀ h,h∈Msh→h∈F)→Spec Γ.P f vs.toArray w [] R)
  (hk:DV Γ ops Msh pool ((d,GR c R)::E) ((some d,GR c R)::rs) cs0 rest KD) :
  DV Γ ops Msh pool E rs cs0 ({ dst:=some d,op:=.call { callee:=.value (.func f),args:=xs.toArray,argTypes:=ats },type:=ty,pos:=pos,after:=af,guard:=gd }::rest) KD:=by
 refine DV.mk (GR c R) [] pool [] (by simp) rfl ?_ (by rw [dropE_nil];exact hk)
 intro a w F Mk _ _ hw hm hfa hcf
 have hMk:Mk=[]:=hcf
 subst hMk
 rw [dropE_nil] at hfa
 simp only [List.nil_append] at hw ⊢
 have hgc:=hg a F hfa
 split
 ·rename_i hwt
  have hcc:=hgc.1 hwt
  have hw':Holds Γ.w0 Γ.S0 F w:=by simpa using hw
  have h2:(#[]++xs.toArray.map a.eval++#[]:Array Value)=vs.toArray:=by
   simp [OpVs.evals (o:={ dst:=some d,op:=.call { callee:=.value (.func f),args:=xs.toArray,argTypes:=ats },type:=ty,pos:=pos,after:=af,guard:=gd }) hcc hfa xs vs hx (fun x hx=>by simp [Op.operands,Call.operands,hx])]
  rw [execOp_call_go,h2,hf.run]
  exact (hc hcc w F hw' hm (Holds.split (M1:=[]) (M2:=F) hw)).mono fun e w'' ⟨v,M',h1,h3,h4⟩=>⟨v,M',h1,⟨fun _=>h3,fun hn=>(hn hcc).elim⟩,Holds.frame (M1:=[]) (M2:=F) hw h4⟩
 ·rename_i hwt
  exact ⟨fun hc=>(hwt (hgc.2 hc)).elim,fun _=>⟨rfl,rfl⟩⟩
theorem D_callGR {f:Nat} {xs:List Operand} {ats:Array TypeId} (Rs:List Rel) {c:Prop} {x:Value}
  (hg:GC ops E { dst:=some d,op:=.call { callee:=.value (.func f),args:=xs.toArray,argTypes:=ats },type:=ty,pos:=pos,after:=af,guard:=gd } c)
  (hf:IsFn Γ.P f) (hx:OpRs E xs Rs) (hc:c→∀ w F vs,Holds Γ.w0 Γ.S0 F w→(∀ h,h∈Msh→h∈F)→AllR F Rs vs→Spec Γ.P f vs.toArray w [] (IsV x))
  (hk:DV Γ ops Msh pool ((d,FC c x)::E) ((some d,FC c x)::rs) cs0 rest KD) :
  DV Γ ops Msh pool E rs cs0 ({ dst:=some d,op:=.call { callee:=.value (.func f),args:=xs.toArray,argTypes:=ats },type:=ty,pos:=pos,after:=af,guard:=gd }::rest) KD:=by
 refine DV.mk (FC c x) [] pool [] (by simp) rfl ?_ (by rw [dropE_nil];exact hk)
 intro a w F Mk _ _ hw hm hfa hcf
 have hMk:Mk=[]:=hcf
 subst hMk
 rw [dropE_nil] at hfa
 simp only [List.nil_append] at hw ⊢
 have hgc:=hg a F hfa
 split
 ·rename_i hwt
  have hcc:=hgc.1 hwt
  have hw':Holds Γ.w0 Γ.S0 F w:=by simpa using hw
  have h1:=OpRs.evals (o:={ dst:=some d,op:=.call { callee:=.value (.func f),args:=xs.toArray,argTypes:=ats },type:=ty,pos:=pos,after:=af,guard:=gd }) hfa xs Rs hx (fun x hx=>by simp [Op.operands,Call.operands,hx])
  have h2:(#[]++xs.toArray.map a.eval++#[]:Array Value)=(xs.map a.eval).toArray:=by simp
  rw [execOp_call_go,h2,hf.run]
  exact (hc hcc w F _ hw' hm h1 (Holds.split (M1:=[]) (M2:=F) hw)).mono fun e w'' ⟨v,M',h1,h3,h4⟩=>⟨v,M',h1,⟨h3.2,fun _=>h3.1,fun hn=>(hn hcc).elim⟩,Holds.frame (M1:=[]) (M2:=F) hw h4⟩
 ·rename_i hwt
  exact ⟨rfl,fun hc=>(hwt (hgc.2 hc)).elim,fun _=>rfl⟩
end Go.Proofs.SL
namespace Go.Proofs.SL
open Go
section
variable {Γ:Cx} {rest:List Oper} {d:Nat} {ty:TypeId} {pos:String} {af:Array Edge}
variable {ops:Array Oper} {Msh pool:List HP} {E:Fl} {rs:List (Option Nat×Rel)} {cs0:List Nat} {KD:RKont}
def AggV {τ δ:Type} [GT τ δ] (r:δ):Rel:=fun v M=>∃ x:τ,v=.agg (GT.cells x).toArray∧GT.dat x=r∧M=[treeH x]
def BoxV {τ δ:Type} [GT τ δ] (T:TypeId) (r:δ):Rel:=fun v M=>∃ (b:Nat) (x:τ),v=.pointer (some ⟨b,0,none⟩)∧GT.dat x=r∧M=[blk b (GT.cells x) T,treeH x]
theorem D_moveC {t:Nat} {R:Rel} (hR:E.lookup t=some R)
  (hlin:linB ops { dst:=some d,op:=.move (.tmp t),type:=ty,pos:=pos,after:=af,guard:=none } [t]=true)
  (hk:DV Γ ops Msh pool ((d,R)::dropE [t] E) ((some d,R)::rs) ([t]++cs0) rest KD) :
  DV Γ ops Msh pool E rs cs0 ({ dst:=some d,op:=.move (.tmp t),type:=ty,pos:=pos,after:=af,guard:=none }::rest) KD:=by
 refine DV.mk R [] pool [t] (by simp) hlin ?_ hk
 intro a w F Mk _ _ hw hm hfa hcf
 obtain ⟨Mx,Mk',rfl,hRR,hnil⟩:=hcf
 have hnil:Mk'=[]:=hnil
 subst hnil
 have h1:=hRR _ hR
 rw [if_pos (by simp [Region.wanted])]
 have h2:(execOp a.eval { dst:=some d,op:=.move (.tmp t),type:=ty,pos:=pos,after:=af,guard:=none }).run Γ.P w=.ok (.value (a.tmps.getD t undef)) w:=by
  simp [execOp,Act.eval]
 rw [h2]
 exact ⟨Mx,h1,by simpa using hw⟩
theorem D_extractC {t i:Nat} {R:Rel} (R':Rel) (hR:E.lookup t=some R) (hh:∀ v M,R v M→∃ vs u,v=.tuple vs∧vs[i]?=some u∧R' u M)
  (hlin:linB ops { dst:=some d,op:=.extract (.tmp t) i,type:=ty,pos:=pos,after:=af,guard:=none } [t]=true)
  (hk:DV Γ ops Msh pool ((d,R')::dropE [t] E) ((some d,R')::rs) ([t]++cs0) rest KD) :
  DV Γ ops Msh pool E rs cs0 ({ dst:=some d,op:=.extract (.tmp t) i,type:=ty,pos:=pos,after:=af,guard:=none }::rest) KD:=by
 refine DV.mk R' [] pool [t] (by simp) hlin ?_ hk
 intro a w F Mk _ _ hw hm hfa hcf
 obtain ⟨Mx,Mk',rfl,hRR,hnil⟩:=hcf
 have hnil:Mk'=[]:=hnil
 subst hnil
 obtain ⟨vs,u,hv,hu,h1⟩:=hh _ _ (hRR _ hR)
 rw [if_pos (by simp [Region.wanted])]
 have e1:a.eval (.tmp t)=.tuple vs:=hv
 have h2:(execOp a.eval { dst:=some d,op:=.extract (.tmp t) i,type:=ty,pos:=pos,after:=af,guard:=none }).run Γ.P w=.ok (.value u) w:=by
  simp [execOp,e1,Instr.extract,hu]
 rw [h2]
 exact ⟨Mx,h1,by simpa using hw⟩
theorem D_extractW {t i:Nat} {R:Rel} (u:Value) (hR:E.lookup t=some R) (hh:∀ v M,R v M→∃ vs,v=.tuple vs∧vs[i]?=some u)
  (hk:DV Γ ops Msh pool ((d,FC True u)::E) ((some d,FC True u)::rs) cs0 rest KD) :
  DV Γ ops Msh pool E rs cs0 ({ dst:=some d,op:=.extract (.tmp t) i,type:=ty,pos:=pos,after:=af,guard:=none }::rest) KD :=
 DV_pure True u GC.none (fun a w F _ hf _=>by
  obtain ⟨M,h1,_⟩:=hf t R (List.mem_append_left _ (by simp [Op.operands])) hR
  obtain ⟨vs,hv,hu⟩:=hh _ _ h1
  have e1:a.eval (.tmp t)=.tuple vs:=hv
  simp [execOp,e1,Instr.extract,hu]) hk
theorem D_storeK {τ δ:Type} [GT τ δ] {p x:Nat} {T:TypeId} {T':TypeId} {z:List Value} {r:δ} (hp:E.lookup p=some (PtrNew z T')) (hx:E.lookup x=some (AggV (τ:=τ) r))
  (ht:aggOf Γ.P T=some (GT.sz τ)) (hl:z.length=GT.sz τ)
  (hlin:linB ops { dst:=none,op:=.store T (.tmp p) (.tmp x),type:=ty,pos:=pos,after:=af,guard:=none } [p,x]=true)
  (hk:DV Γ ops Msh pool (dropE [p,x] E) ((some p,BoxV (τ:=τ) T' r)::rs) ([x]++cs0) rest KD) :
  DV Γ ops Msh pool E rs cs0 ({ dst:=none,op:=.store T (.tmp p) (.tmp x),type:=ty,pos:=pos,after:=af,guard:=none }::rest) KD:=by
 refine DV.mkK (BoxV (τ:=τ) T' r) [] pool p [x] rfl (by simp) hlin ?_ hk
 intro a w F Mk _ _ hw hm hfa hcf
 obtain ⟨M1,Mk',rfl,hR1,M2,Mk'',rfl,hR2,hnil⟩:=hcf
 have hnil:Mk''=[]:=hnil
 subst hnil
 obtain ⟨b,hb,rfl⟩:=hR1 _ hp
 obtain ⟨y,hv,hd,rfl⟩:=hR2 _ hx
 rw [if_pos (by simp [Region.wanted])]
 have e1:a.eval (.tmp p)=.pointer (some ⟨b,0,none⟩):=hb
 have e2:a.eval (.tmp x)=.agg (GT.cells y).toArray:=hv
 have hw':Holds Γ.w0 Γ.S0 (blk b z T'::(treeH y::F)) w:=by simpa using hw
 have hh:w.heap[b]?=some (.cells z.toArray T' (0,0)):=hw'.prs (blk b z T') (by simp)
 have hly:(GT.cells y).length=GT.sz τ:=GT.len y
 have hs:=run_store_blk (P:=Γ.P) (fo:=0) (vs:=GT.cells y) (ty:=T) hh (by omega) (fun v hv=>GT.one y v hv)
 have e:(z.take 0++GT.cells y++z.drop (0+(GT.cells y).length))=GT.cells y:=by simp [hl,hly]
 rw [e] at hs
 have hrun:(execOp a.eval { dst:=none,op:=.store T (.tmp p) (.tmp x),type:=ty,pos:=pos,after:=af,guard:=none }).run Γ.P w=.ok .skip (w.setRow b (GT.cells y).toArray):=by
  simp [execOp,e1,e2,Instr.storeAt,Instr.sureAddr,storeVar,run_isAgg_agg ht,Value.cells,hs,hly]
 rw [hrun]
 exact ⟨[blk b (GT.cells y) T',treeH y],⟨b,y,hb,hd,rfl⟩,by simpa using setRow_blk (cs':=GT.cells y) hw'⟩
end
section
variable {Γ:Cx} {rest:List Oper} {d:Nat} {ty:TypeId} {pos:String} {af:Array Edge} {gd:Option (Nat×Bool)}
variable {ops:Array Oper} {Msh pool:List HP} {E:Fl} {rs:List (Option Nat×Rel)} {cs0:List Nat} {KD:RKont}
end
end Go.Proofs.SL
namespace Go.Proofs.SL
open Go
section
variable {Γ:Cx} {l:Envl} {M M1 M2 F:List HP} {Q:Post} {K:Kont} {w0 w:World} {S0:List Nat}
variable {rest:List Oper} {d:Nat} {ty:TypeId} {pos:String} {af:Array Edge}
variable {τ δ:Type} [GT τ δ]
theorem L_appAll {s x:Operand} {T e sz by_:Nat} {z:List Value} {X Y:TL τ} {r:List δ} (hn:Nat.blt d Γ.n=true)
  (hs:ev l s=some X.hdr) (hx:ev l x=some Y.hdr) (ht:elOf Γ.P T=some (e,sz,by_,z)) (hsz:GT.sz τ=sz) (hz:z.length=sz)
  (hp:Pick (treeH X) M M1) (hq:Pick (treeH Y) M1 M2) (hr:appP (GT.dat X) (GT.dat Y)=some r) (hb:by_≤32768)
  (hk:∀ X':TL τ,GT.dat X'=r→L Γ rest ((d,X'.hdr)::l) (treeH X'::M2) K) :
  L Γ ({ dst:=some d,op:=.call { callee:=.builtin .append,args:=#[s,x],argTypes:=#[T,T] },type:=ty,pos,after:=af,guard:=none }::rest) l M K:=by
 obtain ⟨h1,rfl⟩:=appP_some hr
 simp only [dat_els,List.length_map] at h1
 have hmY:treeH Y∈M:=by
  have h2:treeH Y∈M1:=hq.perm.mem_iff.2 (List.mem_cons_self ..)
  exact hp.perm.mem_iff.2 (List.mem_cons_of_mem _ h2)
 obtain ⟨a2,c2,e2,x2,tl2⟩:=Y
 cases a2 with
 | some a2 =>
  obtain ⟨b,o,sp⟩:=a2
  refine L_appA (ys:=x2) (M2:=M2) hn hs hx ht hsz hz hp rfl (fun w hw j v hv=>?_) (fun w R h=>?_) h1 hb
   (fun X' h=>hk X' (by rw [dat_els,h,List.map_append];rfl))
  ·have h2:=(rd_of_tree hmY hw).2.2.2.2 _ rfl
   have hne:x2≠[]:=fun e=>by subst e;simp [rowCells] at hv
   have h3:sp=none:=h2.1 hne
   subst h3
   rw [addr_add];exact (h2.2 j v hv).1
  ·have h2:=tree_row (h.perm (hq.perm.append_right R))
   refine h2.sub ⟨[rowH (⟨some ⟨b,o,sp⟩,c2,e2,x2,tl2⟩:TL τ)],?_⟩
   exact List.perm_append_comm (l₁:=[rowH (⟨some ⟨b,o,sp⟩,c2,e2,x2,tl2⟩:TL τ)]) (l₂:=elsT x2::(M2++R))
 | none =>
  intro ops a w Q ha hw hq'
  have h2:x2=[]:=(rd_of_tree hmY hw.sees).2.2.2.1 rfl
  subst h2
  have hk':=hk X (by rw [dat_els];show _=_++[].map GT.dat;simp)
  refine L_step rfl rfl (Nat.le_of_ble_eq_true hn) (fun a w ha hw=>⟨w,?_,?_⟩) hk' ops a w Q ha hw hq'
  ·have hr:GT.ow w X:=(hw.perm hp.perm).prs _ (List.mem_cons_self ..)
   have:=append_none (P:=Γ.P) (w:=w) (a:=X.a) (n:=X.els.length) (c:=X.cap) (c2:=c2) ht hr.1 ty
   have h5:(Builtin.append_ #[T,T] ty #[X.hdr,.slice none 0 c2]).run Γ.P w=.ok X.hdr w:=this
   have h6:=ha.eval hx
   simp only [TL.hdr,List.length_nil] at h6
   generalize X.hdr=uu at *
   simp [execOp,resolve,invoke,builtin,ha.eval hs,h6,h5]
  ·refine (hw.perm (hp.perm.trans (hq.perm.cons _))).sub ⟨[treeH (⟨none,c2,e2,[],tl2⟩:TL τ)],?_⟩
   exact (List.perm_append_comm (l₁:=[treeH (⟨none,c2,e2,[],tl2⟩:TL τ)]) (l₂:=M2)).cons _
end
section
variable {Γ:Cx} {rest:List Oper} {d:Nat} {ty:TypeId} {pos:String} {af:Array Edge}
variable {ops:Array Oper} {Msh pool pool':List HP} {E:Fl} {rs:List (Option Nat×Rel)} {cs0:List Nat} {KD:RKont}
variable {τ τ' δ δ':Type} [GT τ δ] [GT τ' δ']
theorem D_app1O {s:Operand} {t T e sz by_:Nat} {z:List Value} {X:TL τ} {T':TypeId} {f:Value→Value} {r0:List δ'} (yf:TL τ'→τ) (q:δ) {r:List δ}
  (hs:OpV (dropE [t] E) s True X.hdr) (hx:E.lookup t=some (RowO (τ:=τ') f T' r0)) (ht:elOf Γ.P T=some (e,sz,by_,z)) (hsz:GT.sz τ=sz) (hz:z.length=sz)
  (hf:∀ Y:TL τ',(f Y.hdr).cells.toList=GT.cells (yf Y)) (hfp:∀ Y:TL τ',GT.fp (yf Y)=GT.fp Y) (how:∀ (w:World) (Y:TL τ'),GT.ow w Y→GT.ow w (yf Y)) (hdt:∀ Y:TL τ',GT.dat Y=r0→GT.dat (yf Y)=q)
  (hp:Pick (treeH X) pool pool') (hr:appP (GT.dat X) [q]=some r) (hb:by_≤32768)
  (hlin:linB ops { dst:=some d,op:=.call { callee:=.builtin .append,args:=#[s,.tmp t],argTypes:=#[T,T] },type:=ty,pos:=pos,after:=af,guard:=none } [t]=true)
  (hk:DV Γ ops Msh pool' ((d,OwnV (τ:=τ) r)::dropE [t] E) ((some d,OwnV (τ:=τ) r)::rs) ([t]++cs0) rest KD) :
  DV Γ ops Msh pool E rs cs0 ({ dst:=some d,op:=.call { callee:=.builtin .append,args:=#[s,.tmp t],argTypes:=#[T,T] },type:=ty,pos:=pos,after:=af,guard:=none }::rest) KD:=by
 refine DV.mk (OwnV (τ:=τ) r) ([treeH X]) pool' ([t]) hp.perm hlin ?_ hk
 intro a w F Mk _ _ hw hm hfa hcf
 obtain ⟨Mx,Mk',rfl,hR,hnil⟩:=hcf
 have hnil:Mk'=[]:=hnil
 subst hnil
 obtain ⟨Y,b,hv,hd,rfl⟩:=hR _ hx
 rw [if_pos (by simp [Region.wanted])]
 have e1:=hs.eval hfa (by simp [Op.operands,Call.operands]) trivial
 have e2:a.eval (.tmp t)=.slice (some ⟨b,0,none⟩) 1 1:=hv
 have hq:=hdt Y hd
 subst hq
 obtain ⟨hl,rfl⟩:=appP_some hr
 simp only [dat_els,List.length_map,List.length_cons,List.length_nil] at hl
 have hw1:Holds Γ.w0 Γ.S0 (treeH X::blk b (GT.cells (yf Y)) T'::treeH Y::F) w:=by rw [← hf Y];simpa using hw
 have hw2:Holds Γ.w0 Γ.S0 (treeH X::blk b (GT.cells (yf Y)) T'::treeH (yf Y)::F) w:=by
  refine hw1.reFp (List.Perm.of_eq ?_) fun x hx=>?_
  ·simp only [fps_cons]
   show GT.fp X++([b]++(GT.fp Y++fps F))=GT.fp X++([b]++(GT.fp (yf Y)++fps F))
   rw [hfp]
  ·simp only [List.mem_cons] at hx
   rcases hx with rfl | rfl | rfl | hx
   ·exact hw1.prs _ (by simp)
   ·exact hw1.prs _ (by simp)
   ·exact how w Y (hw1.prs (treeH Y) (by simp))
   ·exact hw1.prs _ (by simp [hx])
 have hsrc:∀ j v,(rowCells [yf Y])[j]?=some v→w.cell? ((⟨b,0,none⟩:Addr).add j)=some v:=fun j v hv=>by
  rw [addr_add]
  exact RdC.blk (Γ:=Γ) (M:=treeH X::blk b (GT.cells (yf Y)) T'::treeH (yf Y)::F) (List.mem_cons_of_mem _ (List.mem_cons_self ..)) w hw2.sees j v (by simpa [rowCells] using hv)
 obtain ⟨a',c',e',tl,w',h1,h2⟩:=append_rowE (P:=Γ.P) (c:=1) ht hsz hz (tree_row hw2) hsrc (by simpa using hl) hb ty
 have h1':(Builtin.append_ #[T,T] ty #[X.hdr,.slice (some ⟨b,0,none⟩) 1 1]).run Γ.P w=.ok (TL.hdr (⟨a',c',e',X.els++[yf Y],tl⟩:TL τ)) w':=h1
 have h3:(execOp a.eval { dst:=some d,op:=.call { callee:=.builtin .append,args:=#[s,.tmp t],argTypes:=#[T,T] },type:=ty,pos:=pos,after:=af,guard:=none }).run Γ.P w=.ok (.value (TL.hdr (⟨a',c',e',X.els++[yf Y],tl⟩:TL τ))) w':=by
  generalize TL.hdr (⟨a',c',e',X.els++[yf Y],tl⟩:TL τ)=vv at *
  generalize X.hdr=uu at *
  simp [execOp,resolve,invoke,builtin,e1,e2,h1']
 rw [h3]
 refine ⟨[treeH (⟨a',c',e',X.els++[yf Y],tl⟩:TL τ)],⟨_,rfl,?_,rfl⟩,?_⟩
 ·rw [dat_els,List.map_append];rfl
 ·refine row_tree ?_
  have h4:Holds Γ.w0 Γ.S0 (elsT X.els::elsT [yf Y]::rowH (⟨a',c',e',X.els++[yf Y],tl⟩:TL τ)::F) w':=by
   have h5:Holds Γ.w0 Γ.S0 (treeH (yf Y)::elsT X.els::rowH (⟨a',c',e',X.els++[yf Y],tl⟩:TL τ)::blk b (GT.cells (yf Y)) T'::F) w' :=
    h2.perm (perm_cons (Ms:=[elsT X.els,rowH (⟨a',c',e',X.els++[yf Y],tl⟩:TL τ),blk b (GT.cells (yf Y)) T']) (.there _ (.there _ (.there _ (.here _)))) (perm_cons (.there _ (.here _)) (perm_cons (.here _) (perm_cons (.here _) (perm_nil_left _)))))
   have h6:=elsT_one h5
   have h7:Holds Γ.w0 Γ.S0 (elsT X.els::elsT [yf Y]::rowH (⟨a',c',e',X.els++[yf Y],tl⟩:TL τ)::blk b (GT.cells (yf Y)) T'::F) w':=h6.perm (List.Perm.swap _ _ _)
   exact h7.sub ⟨[blk b (GT.cells (yf Y)) T'],by
    show List.Perm _ (([elsT X.els,elsT [yf Y],rowH (⟨a',c',e',X.els++[yf Y],tl⟩:TL τ)]++F)++[blk b (GT.cells (yf Y)) T'])
    rw [List.append_assoc]
    exact (List.perm_append_comm (l₁:=[blk b (GT.cells (yf Y)) T']) (l₂:=F)).append_left [elsT X.els,elsT [yf Y],rowH (⟨a',c',e',X.els++[yf Y],tl⟩:TL τ)]⟩
  exact (elsT_app h4).perm (List.Perm.swap _ _ _)
end
section
variable {Γ:Cx} {rest:List Oper} {d:Nat} {ty:TypeId} {pos:String} {af:Array Edge}
variable {ops:Array Oper} {Msh pool pool':List HP} {E:Fl} {rs:List (Option Nat×Rel)} {cs0:List Nat} {KD:RKont}
variable {τ δ:Type} [GT τ δ]
theorem D_mk0 (τ:Type) {δ:Type} [GT τ δ] {T e sz by_:Nat} {z:List Value} (ht:elOf Γ.P T=some (e,sz,by_,z))
  (hk:DV Γ ops Msh pool ((d,OwnV (τ:=τ) [])::E) ((some d,OwnV (τ:=τ) [])::rs) cs0 rest KD) :
  DV Γ ops Msh pool E rs cs0 ({ dst:=some d,op:=.buildSlice T 0 #[],type:=ty,pos:=pos,after:=af,guard:=none }::rest) KD:=by
 refine DV.mk (OwnV (τ:=τ) []) [] pool [] (by simp) rfl ?_ (by rw [dropE_nil];exact hk)
 intro a w F Mk _ _ hw hm hfa hcf
 have hMk:Mk=[]:=hcf
 subst hMk
 rw [dropE_nil] at hfa
 rw [if_pos (by simp [Region.wanted])]
 have hw0:Holds Γ.w0 Γ.S0 F w:=by simpa using hw
 have h1:=run_buildSlice0 ht w
 have h2:(execOp a.eval { dst:=some d,op:=.buildSlice T 0 #[],type:=ty,pos:=pos,after:=af,guard:=none }).run Γ.P w=.ok (.value (.slice (some ⟨w.heap.size,0,none⟩) 0 0)) (w.alloc (.cells ([]:List Value).toArray e (0,0))):=by
  simp only [execOp]
  simp [h1]
 rw [h2]
 refine ⟨[treeH (⟨some ⟨w.heap.size,0,none⟩,0,e,[],[]⟩:TL τ)],⟨_,rfl,rfl,rfl⟩,?_⟩
 have h3:=hw0.new (cs:=[]) (T:=e) (b:=w.heap.size) rfl
 refine h3.reFp (List.Perm.of_eq rfl) fun x hx=>?_
 rcases List.mem_cons.1 hx with rfl | hx
 ·have hp:=h3.prs (blk w.heap.size [] e) (List.mem_cons_self ..)
  refine ⟨Nat.le_refl _,by simp [maxLen],fun x hx=>(by cases hx),fun ha=>(by cases ha),fun a ha=>?_⟩
  cases ha
  exact ⟨rfl,rfl,hp,by simp⟩
 ·exact h3.prs x (List.mem_cons_of_mem _ hx)
theorem D_appTO [FlatT τ] {x:Operand} {t T e sz by_:Nat} {z:List Value} {Y:TL τ} {ra r:List δ}
  (hs:E.lookup t=some (OwnV (τ:=τ) ra)) (hx:OpV (dropE [t] E) x True Y.hdr) (ht:elOf Γ.P T=some (e,sz,by_,z)) (hsz:GT.sz τ=sz) (hz:z.length=sz)
  (hsrc:RdT Γ Msh Y) (hr:appP ra (GT.dat Y)=some r) (hb:by_≤32768)
  (hlin:linB ops { dst:=some d,op:=.call { callee:=.builtin .append,args:=#[.tmp t,x],argTypes:=#[T,T] },type:=ty,pos:=pos,after:=af,guard:=none } [t]=true)
  (hk:DV Γ ops Msh pool ((d,OwnV (τ:=τ) r)::dropE [t] E) ((some d,OwnV (τ:=τ) r)::rs) ([t]++cs0) rest KD) :
  DV Γ ops Msh pool E rs cs0 ({ dst:=some d,op:=.call { callee:=.builtin .append,args:=#[.tmp t,x],argTypes:=#[T,T] },type:=ty,pos:=pos,after:=af,guard:=none }::rest) KD:=by
 refine DV.mk (OwnV (τ:=τ) r) [] pool [t] (by simp) hlin ?_ hk
 intro a w F Mk _ _ hw hm hfa hcf
 obtain ⟨Mx,Mk',rfl,hR,hnil⟩:=hcf
 have hnil:Mk'=[]:=hnil
 subst hnil
 obtain ⟨X,hv,hd,rfl⟩:=hR _ hs
 subst hd
 rw [if_pos (by simp [Region.wanted])]
 have e1:a.eval (.tmp t)=X.hdr:=hv
 have e2:=hx.eval hfa (by simp [Op.operands,Call.operands]) trivial
 have hw1:Holds Γ.w0 Γ.S0 (treeH X::F) w:=by simpa using hw
 obtain ⟨hl,rfl⟩:=appP_some hr
 simp only [dat_els,List.length_map] at hl
 have hY:=hsrc w (hw1.seesSub fun h hh=>List.mem_cons_of_mem _ (hm h hh))
 cases hya:Y.a with
 | some ad =>
  have hsp:Y.els≠[]→ad.spot=none:=fun hne=>(hY.2.2.2.2 ad hya).1 hne
  have hsrc2:∀ j v,(rowCells Y.els)[j]?=some v→w.cell? (ad.add j)=some v:=fun j v hv=>by
   have hne:Y.els≠[]:=fun e=>by rw [e] at hv;simp [rowCells] at hv
   obtain ⟨b,o,sp⟩:=ad
   have h3:sp=none:=hsp hne
   subst h3
   rw [addr_add];exact ((hY.2.2.2.2 _ hya).2 j v hv).1
  obtain ⟨a',c',e',tl,w',h1,h2⟩:=append_rowE (P:=Γ.P) (c:=Y.cap) ht hsz hz (tree_row hw1) hsrc2 hl hb ty
  have h1':(Builtin.append_ #[T,T] ty #[X.hdr,Y.hdr]).run Γ.P w=.ok (TL.hdr (⟨a',c',e',X.els++Y.els,tl⟩:TL τ)) w':=by
   have:Y.hdr=.slice (some ad) Y.els.length Y.cap:=by show Value.slice Y.a _ _=_;rw [hya]
   rw [this];exact h1
  have h3:(execOp a.eval { dst:=some d,op:=.call { callee:=.builtin .append,args:=#[.tmp t,x],argTypes:=#[T,T] },type:=ty,pos:=pos,after:=af,guard:=none }).run Γ.P w=.ok (.value (TL.hdr (⟨a',c',e',X.els++Y.els,tl⟩:TL τ))) w':=by
   generalize TL.hdr (⟨a',c',e',X.els++Y.els,tl⟩:TL τ)=vv at *
   generalize X.hdr=uu at *
   generalize Y.hdr=yy at *
   simp [execOp,resolve,invoke,builtin,e1,e2,h1']
  rw [h3]
  refine ⟨[treeH (⟨a',c',e',X.els++Y.els,tl⟩:TL τ)],⟨_,rfl,?_,rfl⟩,?_⟩
  ·rw [dat_els,List.map_append,dat_els,dat_els]
  ·refine row_tree ?_
   have h5:=elsT_flat (xs:=Y.els) h2 (fun x _=>FlatT.flat x)
   have h4:Holds Γ.w0 Γ.S0 (elsT X.els::elsT Y.els::rowH (⟨a',c',e',X.els++Y.els,tl⟩:TL τ)::F) w' :=
    h5.perm (perm_cons (Ms:=[elsT Y.els,rowH (⟨a',c',e',X.els++Y.els,tl⟩:TL τ)]) (.there _ (.there _ (.here _))) (perm_cons (.here _) (perm_cons (.here _) (perm_nil_left _))))
   exact (elsT_app h4).perm (List.Perm.swap _ _ _)
 | none =>
  have hye:Y.els=[]:=hY.2.2.2.1 hya
  have hr0:GT.ow w X:=hw1.prs _ (List.mem_cons_self ..)
  have h5:(Builtin.append_ #[T,T] ty #[X.hdr,Y.hdr]).run Γ.P w=.ok X.hdr w:=by
   have:Y.hdr=.slice none 0 Y.cap:=by show Value.slice Y.a _ _=_;rw [hya,hye];rfl
   rw [this];exact append_none (P:=Γ.P) (w:=w) (a:=X.a) (n:=X.els.length) (c:=X.cap) (c2:=Y.cap) ht hr0.1 ty
  have h3:(execOp a.eval { dst:=some d,op:=.call { callee:=.builtin .append,args:=#[.tmp t,x],argTypes:=#[T,T] },type:=ty,pos:=pos,after:=af,guard:=none }).run Γ.P w=.ok (.value X.hdr) w:=by
   generalize X.hdr=uu at *
   generalize Y.hdr=yy at *
   simp [execOp,resolve,invoke,builtin,e1,e2,h5]
  rw [h3]
  exact ⟨[treeH X],⟨X,rfl,by rw [dat_els Y,hye];simp,rfl⟩,hw1⟩
end
section
variable {Γ:Cx} {rest:List Oper} {d:Nat} {ty:TypeId} {pos:String} {af:Array Edge} {gd:Option (Nat×Bool)}
variable {ops:Array Oper} {Msh pool pool':List HP} {E:Fl} {rs:List (Option Nat×Rel)} {cs0:List Nat} {KD:RKont}
def gm {α:Type} (g:Bool) (d:α) (o:Option α):Option α:=cond g o (some d)
@[simp] theorem gm_true {α:Type} {d:α} {o:Option α}:gm true d o=o:=rfl
@[simp] theorem gm_false {α:Type} {d:α} {o:Option α}:gm false d o=some d:=rfl
end
section
variable {Γ:Cx} {rest:List Oper} {d:Nat} {ty:TypeId} {pos:String} {af:Array Edge}
variable {ops:Array Oper} {Msh pool pool':List HP} {E:Fl} {rs:List (Option Nat×Rel)} {cs0:List Nat} {KD:RKont}
variable {τ δ:Type} [GT τ δ]
end
section
variable {Γ:Cx} {rest:List Oper} {d:Nat} {ty:TypeId} {pos:String} {af:Array Edge} {gd:Option (Nat×Bool)}
variable {ops:Array Oper} {Msh pool pool':List HP} {E:Fl} {rs:List (Option Nat×Rel)} {cs0:List Nat} {KD:RKont}
variable {τ δ:Type} [GT τ δ]
end
end Go.Proofs.SL
