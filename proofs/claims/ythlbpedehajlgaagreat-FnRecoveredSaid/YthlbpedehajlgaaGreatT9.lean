/- The texts of the proof, part 9: the base, walks of functions, plain Lean. -/
import Derived.OrdersHeld
import Derived.Test.YthlbpedehajlgaaGreatT8
import Derived.Test.YthlbpedehajlgaaGreatT5
import Derived.Test.YthlbpedehajlgaaGreatT4
namespace Go.Proofs.SL
open Go
variable {Γ:Cx} {l l':Envl} {M M' M1 M2 F A:List HP} {Qp:Post} {K:Kont} {w0 w:World} {S0:List Nat}
variable {ops:Array Oper} {fuel:Nat} {listed:Array Bool} {i d:Nat} {o:Oper}
theorem wp_put {P:Program} {a:Act} {next:Act→World→Prop} {Q1 Q2:Exit→Act→World→Prop} (h1:∀ e a w,e≠.normal→¬ Q1 e a w) (hd:∀ a w,next a w→a.defers=[])
  (h:o.wp P a w next Q1):o.wp P a w (fun a' w'=>(∃ u,a'=a.put o.dst u)∧next a' w') Q2:=by
 unfold Oper.wp at h ⊢
 generalize (execOp a.eval o).run P w=r at h ⊢
 cases r with
 | ok n w' =>
  cases n<;>simp only [Oper.upon] at h ⊢
  case value u=>exact ⟨⟨u,rfl⟩,h⟩
  case skip=>exact ⟨⟨_,rfl⟩,h⟩
  case defer df =>
   have:=hd _ _ h
   cases hh:o.dst<;>simp [Act.put,hh] at this
  case enter f args =>
   refine Calls.mono h fun e w'' he=>?_
   cases e with
   | returned u=>exact ⟨⟨u,rfl⟩,he⟩
   | panicked c=>exact (h1 _ _ _ (by simp) he).elim
   | outgrown =>
    obtain ⟨a,w,hq⟩:=he
    exact (h1 _ _ _ (by simp) hq).elim
  case row row args=>exact Rows.mono h fun u w'' he=>⟨⟨u,rfl⟩,he⟩
 | halt x w' =>
  cases x<;>simp only [Oper.upon] at h ⊢
  case panic v=>exact (h1 _ _ _ (by simp) h).elim
theorem L_one (h:L Γ [o] l M K) (hg:o.guard=none) {a:Act} (ha:Env a Γ.n l) (hw:Holds Γ.w0 Γ.S0 M w) {Q2:Exit→Act→World→Prop} :
  o.wp Γ.P a w (fun a' w'=>(∃ u,a'=a.put o.dst u)∧∃ l' M',Env a' Γ.n l'∧Holds Γ.w0 Γ.S0 M' w'∧K l' M') Q2:=by
 have h1:=h #[] a w (fun e a' w'=>e=.normal∧∃ l' M',Env a' Γ.n l'∧Holds Γ.w0 Γ.S0 M' w'∧K l' M') ha hw (fun a' w' l' M' q1 q2 q3=>⟨rfl,l',M',q1,q2,q3⟩)
 unfold wpList at h1
 simp only [Region.wanted,hg,if_true] at h1
 rcases h1 with h1 | ⟨_,a,w,h1⟩
 ·refine Oper.wp_mono (fun a' w' h2=>⟨h2.1,h2.2.2⟩) (wp_put (fun e a w he hq=>he hq.1) (fun a w hq=>?_) h1)
  obtain ⟨_,l',M',h3,_⟩:=hq
  exact h3.defers
 ·cases h1.1
def AllIn:List HP→List HP→Prop
 | [],_=>True
 | h::hs,M=>h∈M∧AllIn hs M
theorem AllIn.mem:∀ {A M:List HP},AllIn A M→∀ x,x∈A→x∈M
 | _::_,_,h,x,hx=>by
  rcases List.mem_cons.1 hx with rfl | hx
  ·exact h.1
  ·exact AllIn.mem h.2 x hx
theorem AllIn.of_mem:∀ {A M:List HP},(∀ x,x∈A→x∈M)→AllIn A M
 | [],_,_=>trivial
 | _::_,_,h=>⟨h _ (List.mem_cons_self ..),AllIn.of_mem fun x hx=>h x (List.mem_cons_of_mem _ hx)⟩
structure Pu (Γ:Cx) (A:List HP) (l:Envl) (o:Oper) (d:Nat) (v:Value):Prop where
 dst:o.dst=some d
 lt:d < Γ.n
 gd:o.guard=none
 pu:∀ a w,Env a Γ.n l→Sees Γ.w0 Γ.S0 A w→(execOp a.eval o).run Γ.P w=.ok (.value v) w
def AH (Γ:Cx) (ops:Array Oper) (A:List HP) (Qp:Post) (fuel:Nat) (listed:Array Bool) (l:Envl) (M:List HP):Prop :=
 ∀ a w,Env a Γ.n l→Holds Γ.w0 Γ.S0 M w→wpAnyH Γ.P .any ops (liftQ Γ Qp) (Sees Γ.w0 Γ.S0 A) fuel listed a w
theorem W_AH (A:List HP) {id:Nat} (hm:Γ.P.follows .mixedOrders=true) (h:AH Γ ops A Qp ops.size (Array.replicate ops.size false) l M):W Γ (.region id ops true) l M Qp:=fun a w ha hw =>
 wp_region_held hm (h a w.drew ha hw.drew)
theorem AH_done (hr:Region.ready .any ops listed=[]) (h:Qp .normal l M):AH Γ ops A Qp fuel listed l M:=fun _ _ ha hw=>wpAnyH_done hr ⟨l,M,ha,hw,h⟩ fuel
theorem AH_take {v:Value} (i:Nat) (hi:ops[i]?=some o) (hp:Pu Γ A l o d v) (hs:Region.noSelect ops=true) (hf:Region.free .any ops listed i=true) (hr:(Region.ready .any ops listed).contains i=true)
  (hA:AllIn A M) (hk:AH Γ ops A Qp fuel (listed.setIfInBounds i true) ((d,v)::l) M):AH Γ ops A Qp (fuel+1) listed l M:=fun a w ha hw =>
 wpAnyH_take hi hs hf hr (fun _ _ _ h=>h) (.inl ⟨by simp [Region.wanted,hp.gd],fun w hw=>hp.pu a w ha hw⟩) (hw.seesSub hA.mem) (hk _ w (by rw [hp.dst];exact ha.put hp.lt) hw)
theorem drop_get {α:Type} {xs:Array α} {i:Nat} {o:α} {rest:List α} (h:xs.toList.drop i=o::rest):xs[i]?=some o:=by
 rw [← Array.getElem?_toList]
 have:=congrArg (fun l=>l[0]?) h
 simpa [List.getElem?_drop] using this
theorem AH_one (i:Nat) {rest':List Oper} (hi:ops.toList.drop i=o::rest') (hg:o.guard=none) (hr:Region.ready .any ops listed=[i])
  (h:L Γ [o] l M (fun l' M'=>AllIn A M'∧AH Γ ops A Qp fuel (listed.setIfInBounds i true) l' M')):AH Γ ops A Qp (fuel+1) listed l M:=fun a w ha hw =>
 wpAnyH_all hr (by simp) fun j hj=>by
  rw [List.mem_singleton.1 hj]
  unfold wpOp
  rw [drop_get hi]
  simp only [Region.wanted,hg,if_true]
  refine .inl (Oper.wp_mono (fun a' w' h1=>?_) (L_one h hg ha hw))
  obtain ⟨_,l',M',h1,h2,h3,h4⟩:=h1
  exact ⟨h2.seesSub h3.mem,h4 a' w' h1 h2⟩
def emH:HP:=⟨[],fun _=>True,fun _ _ _ h=>h⟩
theorem Holds.em (h:Holds w0 S0 M w):Holds w0 S0 (emH::M) w:=h.reFp (List.Perm.of_eq (by rw [fps_cons];rfl)) fun x hx=>by
 rcases List.mem_cons.1 hx with rfl | hx
 ·trivial
 ·exact h.prs x hx
def AP (Γ:Cx) (ops:Array Oper) (A:List HP) (Qp:Post) (al da:Nat) (z:List Value) (T:TypeId) (fuel:Nat) (listed:Array Bool) (l:Envl) (M:List HP):Prop :=
 AH Γ ops A Qp (fuel+1) listed l M∧∀ b,AH Γ ops A Qp fuel (listed.setIfInBounds al true) ((da,.pointer (some ⟨b,0,none⟩))::l) (blk b z T::M)
theorem sub_new {da:Nat} {v:Value} (h:l.lookup da=none):Sub l ((da,v)::l):=fun t u ht=>by
 rw [List.lookup_cons]
 cases hb:t == da with
 | true =>
  have:t=da:=by simpa using hb
  subst this;rw [h] at ht;cases ht
 | false=>exact ht
variable {al da:Nat} {z:List Value} {T:TypeId}
theorem W_AP (A:List HP) (al da:Nat) (z:List Value) (T:TypeId) (n:Nat) {id:Nat} (hm:Γ.P.follows .mixedOrders=true) (hn:ops.size=n+1) (h:AP Γ ops A Qp al da z T n (Array.replicate (n+1) false) l M):W Γ (.region id ops true) l M Qp :=
 W_AH A hm (by rw [hn];exact h.1)
theorem AP_take {v:Value} (i:Nat) (hi:ops[i]?=some o) (hp:Pu Γ A l o d v) (hs:Region.noSelect ops=true) (hf:Region.free .any ops listed i=true) (hr:(Region.ready .any ops listed).contains i=true)
  (hf2:Region.free .any ops (listed.setIfInBounds al true) i=true) (hr2:(Region.ready .any ops (listed.setIfInBounds al true)).contains i=true) (hda:l.lookup da=none) (hne:Nat.beq d da=false) (hia:Nat.beq i al=false)
  (hA:AllIn A M) (hk:AP Γ ops A Qp al da z T fuel (listed.setIfInBounds i true) ((d,v)::l) M):AP Γ ops A Qp al da z T (fuel+1) listed l M:=by
 have hne':d≠da:=fun e=>by subst e;rw [Nat.beq_refl] at hne;cases hne
 have hia':i≠al:=fun e=>by subst e;rw [Nat.beq_refl] at hia;cases hia
 refine ⟨AH_take i hi hp hs hf hr hA hk.1,fun b=>?_⟩
 refine AH_take i hi (v:=v) (d:=d) ⟨hp.dst,hp.lt,hp.gd,fun a w ha hw=>hp.pu a w (ha.sub (sub_new hda)) hw⟩ hs hf2 hr2 (AllIn.of_mem fun x hx=>List.mem_cons_of_mem _ (hA.mem x hx)) ?_
 rw [Array.setIfInBounds_comm _ _ (Ne.symm hia')]
 intro a w ha hw
 refine hk.2 b a w (ha.sub fun t u ht=>?_) hw
 simp only [List.lookup_cons] at ht ⊢
 cases h1:t == da with
 | true =>
  have:t=da:=by simpa using h1
  subst this
  rw [h1] at ht
  cases h2:t == d with
  | true=>exact (hne' (by simpa using h2:t=d).symm).elim
  | false=>exact ht
 | false=>rw [h1] at ht;exact ht
theorem AP_step (i:Nat) {rest':List Oper} (hi0:ops.toList.drop i=o::rest') (hg:o.guard=none) (hr1:Region.ready .any ops listed=[i,al]∨Region.ready .any ops listed=[al,i]) (hr2:Region.ready .any ops (listed.setIfInBounds al true)=[i])
  (hia:Nat.beq i al=false) (hdst:(o.dst == some da)=false) (hda:l.lookup da=none) {oal:Oper} (hoa:ops[al]?=some oal) (hga:oal.guard=none)
  (hal:∀ l M,L Γ [oal] l M (fun l' M'=>∃ b,l'=(da,.pointer (some ⟨b,0,none⟩))::l∧M'=blk b z T::M)) (hA:AllIn A M)
  (h:∀ X,L Γ [o] l (X::M) (fun l' M'=>∃ M1,Pick X M' M1∧AllIn A M1∧l'.lookup da=none∧AP Γ ops A Qp al da z T fuel (listed.setIfInBounds i true) l' M1)) :
  AP Γ ops A Qp al da z T (fuel+1) listed l M:=by
 have hi:=drop_get hi0
 have hia':i≠al:=fun e=>by subst e;rw [Nat.beq_refl] at hia;cases hia
 have two:∀ b,AH Γ ops A Qp (fuel+1) (listed.setIfInBounds al true) ((da,.pointer (some ⟨b,0,none⟩))::l) (blk b z T::M):=fun b a w ha hw =>
  wpAnyH_all hr2 (by simp) fun j hj=>by
   rw [List.mem_singleton.1 hj]
   unfold wpOp
   rw [hi]
   simp only [Region.wanted,hg,if_true]
   refine .inl (Oper.wp_mono (fun a' w' h1=>?_) (L_one (h (blk b z T)) hg (ha.sub (sub_new hda)) hw))
   obtain ⟨⟨u,rfl⟩,l',M',h1,h2,M1,h3,h4,h5,h6⟩:=h1
   have h7:=h2.perm h3.perm
   refine ⟨h7.seesSub fun x hx=>List.mem_cons_of_mem _ (h4.mem x hx),?_⟩
   rw [Array.setIfInBounds_comm _ _ (Ne.symm hia')]
   refine h6.2 b _ w' ⟨h1.size,h1.defers,fun t v ht=>?_⟩ h7
   rw [List.lookup_cons] at ht
   cases hb:t == da with
   | true =>
    have:t=da:=by simpa using hb
    subst this
    rw [hb] at ht
    cases ht
    have h8:=ha.get t (.pointer (some ⟨b,0,none⟩)) (by simp [List.lookup_cons])
    cases hd:o.dst with
    | none=>exact h8
    | some d =>
     have hne:d≠t:=fun e=>by subst e;rw [hd] at hdst;simp at hdst
     simp only [Act.put]
     rw [Array.getElem?_setIfInBounds_ne hne]
     exact h8
   | false=>rw [hb] at ht;exact h1.get t v ht
 have one:∀ a w,Env a Γ.n l→Holds Γ.w0 Γ.S0 M w→∀ j,j=i∨j=al→wpOp Γ.P ops (liftQ Γ Qp) j (fun a' w'=>Sees Γ.w0 Γ.S0 A w'∧wpAnyH Γ.P .any ops (liftQ Γ Qp) (Sees Γ.w0 Γ.S0 A) (fuel+1) (listed.setIfInBounds j true) a' w') a w:=fun a w ha hw j hj=>by
  rcases hj with rfl | rfl
  ·unfold wpOp
   rw [hi]
   simp only [Region.wanted,hg,if_true]
   refine .inl (Oper.wp_mono (fun a' w' h1=>?_) (L_one (h emH) hg ha hw.em))
   obtain ⟨_,l',M',h1,h2,M1,h3,h4,h5,h6⟩:=h1
   have h7:=(h2.perm h3.perm).sub (M':=M1) ⟨[emH],List.perm_append_comm (l₁:=[emH])⟩
   exact ⟨h7.seesSub h4.mem,h6.1 a' w' h1 h7⟩
  ·unfold wpOp
   rw [hoa]
   simp only [Region.wanted,hga,if_true]
   refine .inl (Oper.wp_mono (fun a' w' h1=>?_) (L_one (hal l M) hga ha hw))
   obtain ⟨_,l',M',h1,h2,b,rfl,rfl⟩:=h1
   exact ⟨h2.seesSub fun x hx=>List.mem_cons_of_mem _ (hA.mem x hx),two b a' w' h1 h2⟩
 refine ⟨fun a w ha hw=>?_,two⟩
 rcases hr1 with hr | hr
 ·exact wpAnyH_all hr (by simp) fun j hj=>one a w ha hw j (by simpa using hj)
 ·exact wpAnyH_all hr (by simp) fun j hj=>one a w ha hw j ((by simpa using hj:j=al∨j=i).symm)
theorem AP_end (hr:Region.ready .any ops listed=[al]) {oal:Oper} {rest':List Oper} (hoa:ops.toList.drop al=oal::rest') (hga:oal.guard=none)
  (hal:∀ l M,L Γ [oal] l M (fun l' M'=>∃ b,l'=(da,.pointer (some ⟨b,0,none⟩))::l∧M'=blk b z T::M)) (hA:AllIn A M)
  (h:∀ b,AH Γ ops A Qp fuel (listed.setIfInBounds al true) ((da,.pointer (some ⟨b,0,none⟩))::l) (blk b z T::M)):AP Γ ops A Qp al da z T fuel listed l M :=
 ⟨AH_one al hoa hga hr fun ops' a w Q ha hw hq=>hal l M ops' a w Q ha hw fun a' w' l' M' h1 h2 ⟨b,h3,h4⟩=>hq a' w' l' M' h1 h2 (by
  subst h3;subst h4
  exact ⟨AllIn.of_mem fun x hx=>List.mem_cons_of_mem _ (hA.mem x hx),h b⟩),h⟩
section
variable {ty:TypeId} {pos:String} {af:Array Edge} {P:Program}
theorem PU_pure {op:Op} {v:Value} (hn:Nat.blt d Γ.n=true) (he:∀ a w,Env a Γ.n l→Sees Γ.w0 Γ.S0 A w→(execOp a.eval { dst:=some d,op,type:=ty,pos,after:=af,guard:=none }).run Γ.P w=.ok (.value v) w) :
  Pu Γ A l { dst:=some d,op,type:=ty,pos,after:=af,guard:=none } d v:=⟨rfl,Nat.le_of_ble_eq_true hn,rfl,he⟩
theorem PU_move {x:Operand} {v:Value} (hn:Nat.blt d Γ.n=true) (hx:ev l x=some v):Pu Γ A l { dst:=some d,op:=.move x,type:=ty,pos,after:=af,guard:=none } d v :=
 PU_pure hn fun a w ha _=>by simp [execOp,ha.eval hx]
theorem PU_extract {x:Operand} {i:Nat} {vs:Array Value} {v:Value} (hn:Nat.blt d Γ.n=true) (hx:ev l x=some (.tuple vs)) (hv:vs[i]?=some v) :
  Pu Γ A l { dst:=some d,op:=.extract x i,type:=ty,pos,after:=af,guard:=none } d v :=
 PU_pure hn fun a w ha _=>by simp [execOp,ha.eval hx,Instr.extract,hv]
theorem PU_fieldAddr {x:Operand} {T f fo g o:Nat} (hn:Nat.blt d Γ.n=true) (hx:ev l x=some (.pointer (some ⟨g,o,none⟩))) (ht:fldOf Γ.P T f=some fo) :
  Pu Γ A l { dst:=some d,op:=.fieldAddr T x f,type:=ty,pos:=pos,after:=af,guard:=none } d (.pointer (some ⟨g,o+fo,none⟩)) :=
 PU_pure hn fun a w ha hw=>by
  unfold fldOf at ht
  split at ht<;>(try cases ht)
  rename_i fs hfs
  split at ht<;>(try cases ht)
  rename_i x' hx'
  split at ht<;>(try cases ht)
  rename_i i hi
  split at ht<;>cases ht
  rename_i hsz
  simp [execOp,ha.eval hx,Instr.fieldAt,underlying,hfs,hx',Instr.sureAddr,fieldPlace,sizeOf,typeInfo,hi,hsz,addr_add]
theorem PU_load {x:Operand} {T g off fo:Nat} {cs:List Value} {v:Value} (hn:Nat.blt d Γ.n=true) (hx:ev l x=some (.pointer (some ⟨g,off+fo,none⟩))) (hc:RdC Γ A g off cs) (ht:oneOf Γ.P T=true)
  (hv:cs[fo]?=some v):Pu Γ A l { dst:=some d,op:=.load T x,type:=ty,pos:=pos,after:=af,guard:=none } d v :=
 PU_pure hn fun a' w ha hw=>by simp [execOp,ha.eval hx,Instr.loadAt,Instr.sureAddr,loadVar,run_isAgg_one ht,hc w hw fo v hv]
theorem PU_loadW {x:Operand} {T g off:Nat} {cs:List Value} (hn:Nat.blt d Γ.n=true) (hx:ev l x=some (.pointer (some ⟨g,off,none⟩))) (hc:RdC Γ A g off cs) (ht:aggOf Γ.P T=some cs.length) :
  Pu Γ A l { dst:=some d,op:=.load T x,type:=ty,pos:=pos,after:=af,guard:=none } d (.agg cs.toArray) :=
 PU_pure hn fun a' w ha hw=>by
  have hl:=run_loadCells_at (P:=Γ.P) (hc w hw)
  simp [execOp,ha.eval hx,Instr.loadAt,Instr.sureAddr,loadVar,run_isAgg_agg ht,hl]
theorem PU_idxA {τ δ:Type} [GT τ δ] {x y:Operand} {T e sz by_:Nat} {z:List Value} {k:IntKind} {i:Int} {X:TL τ} {u:τ} (hn:Nat.blt d Γ.n=true) (hx:ev l x=some X.hdr) (hy:ev l y=some (.int k i))
  (ht:elOf Γ.P T=some (e,sz,by_,z)) (hr:RdT Γ A X) (hi:0≤i∧X.els[i.toNat]?=some u) :
  Pu Γ A l { dst:=some d,op:=.indexAddr T x y,type:=ty,pos:=pos,after:=af,guard:=none } d (.pointer (some ⟨X.g,X.o+i.toNat*sz,none⟩)) :=
 PU_pure hn fun a' w ha hw=>by
  have h1:=ha.eval hx
  rw [hdr_adr (hr w hw) hi.2] at h1
  simp [execOp,h1,ha.eval hy,run_indexAt ht X.g X.o X.els.length X.cap k i i.toNat (by omega) (List.getElem?_eq_some_iff.1 hi.2).1 w]
section
variable {τ δ:Type} [GT τ δ]
theorem slc_ex {X:TL τ} {a b:Int} {r:List δ} (hr:slcP (GT.dat X) a b=some r):∃ X':TL τ,X'=slc X a.toNat b.toNat∧GT.dat X'=r:=by
 obtain ⟨s0,s1,s2,s3⟩:=slcP_some hr
 exact ⟨_,rfl,by rw [s3,dat_els,dat_els];simp [slc,List.map_take,List.map_drop]⟩
end
end
theorem wpAnyH_S {P:Program} {Q:Exit→Act→World→Prop} {S S':World→Prop} (hs:∀ w,S' w→S w):∀ (fuel:Nat) (listed:Array Bool) (a:Act) (w:World),wpAnyH P .any ops Q S' fuel listed a w→wpAnyH P .any ops Q S fuel listed a w
 | 0,_,_,_,h=>h
 | fuel+1,_,_,_,h=>⟨h.1,fun i hi=>wpOp_mono (fun a' w' h'=>⟨hs _ h'.1,wpAnyH_S hs fuel _ a' w' h'.2⟩) (h.2 i hi)⟩
theorem AH_A (A':List HP) (hs:AllIn A A') (h:AH Γ ops A' Qp fuel listed l M):AH Γ ops A Qp fuel listed l M:=fun a w ha hw =>
 wpAnyH_S (fun w h=>⟨h.old,fun x hx=>h.prs x (hs.mem x hx)⟩) _ _ _ _ (h a w ha hw)
theorem AP_A (A':List HP) (hs:AllIn A A') (h:AP Γ ops A' Qp al da z T fuel listed l M):AP Γ ops A Qp al da z T fuel listed l M:=⟨AH_A A' hs h.1,fun b=>AH_A A' hs (h.2 b)⟩
end Go.Proofs.SL
namespace Go.Proofs.SL
open Go
variable {Γ:Cx} {l:Envl} {M M' M1 M2 F Mr:List HP} {Q:Post} {K:Kont} {w0 w:World} {S0 S:List Nat} {P:Program}
variable {rest:List Oper} {d:Nat} {ty:TypeId} {pos:String} {af:Array Edge}
structure EL (τ:Type) where
 els:List τ
instance {τ δ:Type} [GT τ δ]:GT (EL τ) Unit where
 sz:=1
 pos:=by decide
 cells _:=[.bool false]
 len _:=rfl
 one _ v hv:=by simp at hv;subst hv;rfl
 rd w S t:=∀ x,x∈t.els→GT.rd w S x
 fp _:=[]
 ow _ _:=False
 dat _:=()
 rd_mono h hm:=fun x hx=>GT.rd_mono (h x hx) hm
 ow_st _ h:=h
 ow_rd h _:=h.elim
section
variable {τ δ:Type} [GT τ δ] {t:τ}
theorem no_fp (hw:Holds w0 S0 (M1++M2) w) {h:HP} (hm:h∈M2):∀ k,k∈h.fp→k ∉ fps M1:=fun k hk hk1=>by
 have hnd:=hw.nodup
 rw [fps_append] at hnd
 exact (List.nodup_append.1 hnd).2.2 k hk1 k (List.mem_flatMap.2 ⟨_,hm,hk⟩) rfl
theorem RdT.els {xs:List τ} (h:elsT xs∈M):RdT Γ M (EL.mk xs):=fun w hw x hx=>GT.ow_rd (hw.prs _ h x hx) fun _ _ h=>by cases h
theorem RdX.els {xs:List τ} (h:elsT xs∈M2):RdX Γ M1 M2 (EL.mk xs):=fun w hw x hx=>GT.ow_rd (hw.prs _ (List.mem_append_right _ h) x hx) fun k hk=>no_fp hw h k (List.mem_flatMap.2 ⟨x,hx,hk⟩)
end
structure PC (Mr:List HP) (w:World) (S:List Nat):Prop where
 prs:∀ h,h∈Mr→h.pr w
 ds:∀ k,k∈fps Mr→k ∉ S
theorem PC.fp (h:PC Mr w S) {x:HP} (hm:x∈Mr):∀ k,k∈x.fp→k ∉ S:=fun k hk=>h.ds k (List.mem_flatMap.2 ⟨x,hm,hk⟩)
def RdP {τ δ:Type} [GT τ δ] (Mr:List HP) (w:World) (S:List Nat) (t:τ):Prop:=PC Mr w S→GT.rd w S t
section
variable {τ δ:Type} [GT τ δ] {t:τ}
theorem RdP.old (h:GT.rd w S t):RdP Mr w S t:=fun _=>h
theorem RdP.tree (h:treeH t∈Mr):RdP Mr w S t:=fun hp=>GT.ow_rd (hp.prs _ h) (hp.fp h)
theorem RdP.fst {α β δ ε:Type} [GT α δ] [GT β ε] {t:α×β} (h:RdP Mr w S t):RdP Mr w S t.1:=fun hp=>(h hp).1
theorem RdP.snd {α β δ ε:Type} [GT α δ] [GT β ε] {t:α×β} (h:RdP Mr w S t):RdP Mr w S t.2:=fun hp=>(h hp).2
theorem RdP.of {X:TL τ} {j:Nat} {x:τ} (h:RdP Mr w S X) (hi:X.els[j]?=some x):RdP Mr w S x:=fun hp=>(h hp).2.2.1 x (List.mem_of_getElem? hi)
theorem RdP.pair {α β δ ε:Type} [GT α δ] [GT β ε] {a:α} {b:β} (h1:RdP Mr w S a) (h2:RdP Mr w S b):RdP Mr w S (a,b):=fun hp=>⟨h1 hp,h2 hp⟩
theorem RdP.int {n:Int}:RdP Mr w S n:=fun _=>trivial
theorem RdP.bool {n:Bool}:RdP Mr w S n:=fun _=>trivial
theorem RdP.str {n:ByteArray}:RdP Mr w S n:=fun _=>trivial
theorem RdP.u8 {n:UInt8}:RdP Mr w S n:=fun _=>trivial
theorem RdP.nil (e:TypeId):RdP Mr w S (TL.nil τ e):=fun _=>nil_rd e
theorem RdP.map {α δ':Type} [GT α δ'] {a:α} (f:∀ w S,GT.rd w S a→GT.rd w S t) (h:RdP Mr w S a):RdP Mr w S t:=fun hp=>f w _ (h hp)
theorem RdP.map2 {α β δ' ε:Type} [GT α δ'] [GT β ε] {a:α} {b:β} (f:∀ w S,GT.rd w S a→GT.rd w S b→GT.rd w S t) (h:RdP Mr w S a) (h2:RdP Mr w S b):RdP Mr w S t:=fun hp=>f w _ (h hp) (h2 hp)
theorem RdP.els {xs:List τ} (h:elsT xs∈Mr):RdP Mr w S (EL.mk xs):=fun hp x hx=>GT.ow_rd (hp.prs _ h x hx) fun k hk=>hp.fp h k (List.mem_flatMap.2 ⟨x,hx,hk⟩)
end
section
variable {τ δ:Type} [GT τ δ] [FlatT τ]
theorem flat_rd (x:τ) (w:World) (S:List Nat):GT.rd w S x:=GT.ow_rd ((FlatT.flat x).ow w) fun k hk=>by rw [(FlatT.flat x).fp] at hk;cases hk
end
section
variable {τ δ:Type} [GT τ δ]
end
section
variable {τ δ:Type} [GT τ δ] [FlatT τ]
end
section
variable {τ δ:Type} [GT τ δ]
end
section
variable {τ δ:Type} [GT τ δ]
end
section
variable {τ δ:Type} [GT τ δ] [FlatT τ]
end
section
variable {τ δ:Type} [GT τ δ]
end
end Go.Proofs.SL
namespace Go.Proofs.SL
open Go
variable {Γ:Cx} {l l':Envl} {M M' M1 M2 F A:List HP} {Qp:Post} {K:Kont} {w0 w:World} {S0:List Nat}
variable {ops:Array Oper} {fuel:Nat} {listed:Array Bool} {i d:Nat} {o:Oper}
theorem g_of_hdr {τ:Type} {X Y:TL τ} (h:Y.hdr=X.hdr):Y.g=X.g:=by
 unfold TL.hdr at h;injection h with h1 h2 h3
 unfold TL.g;rw [h1]
theorem o_of_hdr {τ:Type} {X Y:TL τ} (h:Y.hdr=X.hdr):Y.o=X.o:=by
 unfold TL.hdr at h;injection h with h1 h2 h3
 unfold TL.o;rw [h1]
def waits (ops:Array Oper) (k c:Nat):Bool:=match ops[k]? with
 | none=>false
 | some o=>o.after.toList.any fun e=>e.on == c&&Region.binds .any e
def chain (ops:Array Oper) (i:Nat):Nat→List Nat→Bool
 | k,[]=>waits ops k i
 | k,c::cs=>waits ops k c&&chain ops i c cs
def Closed (ops:Array Oper) (listed:Array Bool):Prop:=∀ k o,ops[k]?=some o→listed.getD k false=true→∀ e,e∈o.after→Region.binds .any e=true→listed.getD e.on false=true
def closedB (ops:Array Oper) (listed:Array Bool):Bool:=(List.range ops.size).all fun k=>!listed.getD k false||match ops[k]? with
 | none=>true
 | some o=>o.after.toList.all fun e=>!Region.binds .any e||listed.getD e.on false
theorem closed_of (h:closedB ops listed=true):Closed ops listed:=fun k o hk hl e he hb=>by
 unfold closedB at h
 rw [List.all_eq_true] at h
 have h1:=h k (List.mem_range.2 (Array.getElem?_eq_some_iff.1 hk).1)
 rw [hk,hl] at h1
 simp only [Bool.not_true,Bool.false_or,List.all_eq_true] at h1
 have h2:=h1 e (by simpa using he)
 rw [hb] at h2
 simpa using h2
theorem waits_spec {k c:Nat} (h:waits ops k c=true):∃ o e,ops[k]?=some o∧e∈o.after∧e.on=c∧Region.binds .any e=true:=by
 unfold waits at h
 split at h
 ·cases h
 ·rename_i o ho
  rw [List.any_eq_true] at h
  obtain ⟨e,he,h1⟩:=h
  rw [Bool.and_eq_true] at h1
  exact ⟨o,e,ho,by simpa using he,by simpa using h1.1,h1.2⟩
theorem waits_listed (hc:Closed ops listed) {k c:Nat} (h:waits ops k c=true) (hk:listed.getD k false=true∨k∈Region.ready .any ops listed):listed.getD c false=true:=by
 obtain ⟨o,e,ho,he,rfl,hb⟩:=waits_spec h
 rcases hk with hk | hk
 ·exact hc k o ho hk e he hb
 ·obtain ⟨_,o',ho',hall⟩:=mem_ready.1 hk
  rw [ho] at ho';cases ho'
  exact hall e he hb
theorem chain_listed (hc:Closed ops listed):∀ (cs:List Nat) {k:Nat},chain ops i k cs=true→(listed.getD k false=true∨k∈Region.ready .any ops listed)→listed.getD i false=true
 | [],_,h,hk=>waits_listed hc h hk
 | c::cs,k,h,hk=>by
  have h1:=Bool.and_eq_true_iff.1 h
  exact chain_listed hc cs h1.2 (.inl (waits_listed hc h1.1 hk))
theorem Closed.set (hc:Closed ops listed) {j:Nat} (hj:j∈Region.ready .any ops listed):Closed ops (listed.setIfInBounds j true):=fun k o hk hl e he hb=>by
 by_cases h:j=k
 ·subst h
  obtain ⟨_,o',ho',hall⟩:=mem_ready.1 hj
  rw [hk] at ho';cases ho'
  exact getD_set_true (hall e he hb)
 ·rw [getD_set_ne false h] at hl
  exact getD_set_true (hc k o hk hl e he hb)
def wpG (P:Program) (ops:Array Oper) (Q:Exit→Act→World→Prop) (last:Nat) (S:World→Prop):Nat→Array Bool→Act→World→Prop
 | 0,listed,a,w=>Region.ready .any ops listed=[]∧Q .normal a w
 | fuel+1,listed,a,w=>(Region.ready .any ops listed=[]→Q .normal a w) ∧
  ∀ i∈Region.ready .any ops listed,wpOp P ops Q i (fun a' w'=>((listed.setIfInBounds i true).getD last false=false→S w')∧wpG P ops Q last S fuel (listed.setIfInBounds i true) a' w') a w
theorem wpAny_of_G {P:Program} {Q:Exit→Act→World→Prop} {last:Nat} {S:World→Prop}:∀ (fuel:Nat) (listed:Array Bool) (a:Act) (w:World),wpG P ops Q last S fuel listed a w→wpAny P .any ops Q fuel listed a w
 | 0,_,_,_,h=>h
 | fuel+1,_,_,_,h=>⟨h.1,fun i hi=>wpOp_mono (fun a' w' h'=>wpAny_of_G fuel _ a' w' h'.2) (h.2 i hi)⟩
theorem ready_un (h:i∈Region.ready .any ops listed):listed.getD i false=false:=by
 have h0:=(mem_ready.1 h).1
 rcases Nat.lt_or_ge i listed.size with h' | h'
 ·simp [h'] at h0 ⊢;exact h0
 ·simp [Array.getElem?_eq_none h'] at h0
theorem wpG_first {P:Program} {Q:Exit→Act→World→Prop} {last:Nat} {S:World→Prop} {oi:Oper} {v:Value} {cs:List Nat} (hi:ops[i]?=some oi) (hsel:∀ (j:Nat) (o:Oper) cs b,ops[j]?=some o→o.op≠.select cs b)
  (hQ:∀ c a w,Q (.panic c) (a.put oi.dst v) w→Q (.panic c) a w) (hch:chain ops i last cs=true) (hil:i≠last):∀ (fuel:Nat) (listed:Array Bool) (a:Act) (w:World),Closed ops listed →
   (∀ j oj,ops[j]?=some oj→j≠i→listed.getD j true=false→(∀ e∈oj.after,Region.binds .any e=true→e.on≠i)→oi.apart ops oj=true) →
   i∈Region.ready .any ops listed→YieldsIf P ops S oi v a→S w →
   wpG P ops Q last S fuel (listed.setIfInBounds i true) (a.put oi.dst v) w→wpG P ops Q last S (fuel+1) listed a w:=by
 intro fuel
 induction fuel with
 | zero =>
  intro listed a w hc _ hr hy hS H
  refine ⟨fun h=>(by rw [h] at hr;cases hr),fun j hj=>?_⟩
  by_cases hji:j=i
  ·subst hji;exact hy.wpOp hi hS ⟨fun _=>hS,H⟩
  ·have:=ready_mono hj hji
   rw [H.1] at this
   cases this
 | succ fuel ih =>
  intro listed a w hc hfree hr hy hS H
  refine ⟨fun h=>(by rw [h] at hr;cases hr),fun j hj=>?_⟩
  by_cases hji:j=i
  ·subst hji;exact hy.wpOp hi hS ⟨fun _=>hS,H⟩
  ·have h1:=H.2 j (ready_mono hj hji)
   obtain ⟨hjun,oj,hoj,hall⟩:=mem_ready.1 hj
   have hun:=ready_un hr
   have hnot:∀ e∈oj.after,Region.binds .any e=true→e.on≠i:=fun e he hb heq=>by
    have h1:=hall e he hb
    rw [heq,hun] at h1
    cases h1
   have hjl:j≠last:=fun e=>by
    subst e
    have:=chain_listed hc cs hch (.inr hj)
    rw [hun] at this;cases this
   have hll:listed.getD last false=false:=by
    cases hl:listed.getD last false with
    | false=>rfl
    | true =>
     have:=chain_listed hc cs hch (.inl hl)
     rw [hun] at this;cases this
   have h2:=wpOp_putIf hoj (hfree j oj hoj hji hjun hnot) (fun cs b=>hsel i oi cs b hi) (fun cs b=>hsel j oj cs b hoj) hQ hy h1
   have hfree':∀ k ok,ops[k]?=some ok→k≠i→(listed.setIfInBounds j true).getD k true=false →
     (∀ e∈ok.after,Region.binds .any e=true→e.on≠i)→oi.apart ops ok=true:=fun k ok hk hki hun hno=>by
    refine hfree k ok hk hki ?_ hno
    by_cases hjk:j=k
    ·subst hjk;exact hjun
    ·rw [getD_set_ne true hjk] at hun;exact hun
   have hfl:((listed.setIfInBounds i true).setIfInBounds j true).getD last false=false:=by
    rw [getD_set_ne false hjl,getD_set_ne false hil];exact hll
   refine wpOp_mono (fun a' w' h3=>⟨fun _=>h3.2.1 hfl,ih (listed.setIfInBounds j true) a' w' (hc.set hj) hfree' (ready_mono hr (Ne.symm hji)) h3.1 (h3.2.1 hfl) ?_⟩) h2
   rw [Array.setIfInBounds_comm _ _ hji]
   exact h3.2.2
theorem wpG_done {P:Program} {Q:Exit→Act→World→Prop} {last:Nat} {S:World→Prop} {a:Act} {w:World} (hr:Region.ready .any ops listed=[]) (h:Q .normal a w):∀ fuel,wpG P ops Q last S fuel listed a w
 | 0=>⟨hr,h⟩
 | _+1=>⟨fun _=>h,by rw [hr];simp⟩
theorem wpG_S {P:Program} {Q:Exit→Act→World→Prop} {last:Nat} {S S':World→Prop} (hs:∀ w,S' w→S w):∀ (fuel:Nat) (listed:Array Bool) (a:Act) (w:World),wpG P ops Q last S' fuel listed a w→wpG P ops Q last S fuel listed a w
 | 0,_,_,_,h=>h
 | fuel+1,_,_,_,h=>⟨h.1,fun i hi=>wpOp_mono (fun a' w' h'=>⟨fun hf=>hs _ (h'.1 hf),wpG_S hs fuel _ a' w' h'.2⟩) (h.2 i hi)⟩
theorem wpG_flag {P:Program} {Q:Exit→Act→World→Prop} {last:Nat} {S S':World→Prop}:∀ (fuel:Nat) (listed:Array Bool) (a:Act) (w:World),listed.getD last false=true→wpG P ops Q last S' fuel listed a w→wpG P ops Q last S fuel listed a w
 | 0,_,_,_,_,h=>h
 | fuel+1,_,_,_,hl,h=>⟨h.1,fun i hi=>wpOp_mono (fun a' w' h'=>⟨fun hf=>(by rw [getD_set_true hl] at hf;cases hf),wpG_flag fuel _ a' w' (getD_set_true hl) h'.2⟩) (h.2 i hi)⟩
def AG (Γ:Cx) (ops:Array Oper) (A:List HP) (Qp:Post) (last fuel:Nat) (listed:Array Bool) (l:Envl) (M:List HP):Prop :=
 ∀ a w,Env a Γ.n l→Holds Γ.w0 Γ.S0 M w→wpG Γ.P ops (liftQ Γ Qp) last (Sees Γ.w0 Γ.S0 A) fuel listed a w
variable {last:Nat}
theorem W_AG (A:List HP) (last:Nat) {id:Nat} (hm:Γ.P.follows .mixedOrders=true) (h:AG Γ ops A Qp last ops.size (Array.replicate ops.size false) l M):W Γ (.region id ops true) l M Qp:=fun a w ha hw =>
 wp_region_any hm (wpAny_of_G _ _ _ _ (h a w.drew ha hw.drew))
theorem AG_done (hr:Region.ready .any ops listed=[]) (h:Qp .normal l M):AG Γ ops A Qp last fuel listed l M:=fun _ _ ha hw=>wpG_done hr ⟨l,M,ha,hw,h⟩ fuel
theorem AG_take {v:Value} (i:Nat) (cs:List Nat) (hi:ops[i]?=some o) (hp:Pu Γ A l o d v) (hs:Region.noSelect ops=true) (hf:Region.free .any ops listed i=true) (hr:(Region.ready .any ops listed).contains i=true)
  (hch:chain ops i last cs=true) (hil:Nat.beq i last=false) (hcl:closedB ops listed=true)
  (hA:AllIn A M) (hk:AG Γ ops A Qp last fuel (listed.setIfInBounds i true) ((d,v)::l) M):AG Γ ops A Qp last (fuel+1) listed l M:=fun a w ha hw =>
 wpG_first hi (Region.noSelect_spec hs) (fun _ _ _ h=>h) hch (fun e=>by subst e;rw [Nat.beq_refl] at hil;cases hil) fuel listed a w (closed_of hcl) (Region.free_spec hi hf) (by simpa using hr)
  (.inl ⟨by simp [Region.wanted,hp.gd],fun w hw=>hp.pu a w ha hw⟩) (hw.seesSub hA.mem) (hk _ w (by rw [hp.dst];exact ha.put hp.lt) hw)
theorem AG_one (i:Nat) {rest:List Oper} (hi:ops.toList.drop i=o::rest) (hg:o.guard=none) (hr:Region.ready .any ops listed=[i])
  (h:L Γ [o] l M (fun l' M'=>AllIn A M'∧AG Γ ops A Qp last fuel (listed.setIfInBounds i true) l' M')):AG Γ ops A Qp last (fuel+1) listed l M:=fun a w ha hw=>by
 refine ⟨fun h0=>(by rw [hr] at h0;cases h0),fun j hj=>?_⟩
 rw [hr] at hj
 rw [List.mem_singleton.1 hj]
 unfold wpOp
 rw [drop_get hi]
 simp only [Region.wanted,hg,if_true]
 refine .inl (Oper.wp_mono (fun a' w' h1=>?_) (L_one h hg ha hw))
 obtain ⟨_,l',M',h1,h2,h3,h4⟩:=h1
 exact ⟨fun _=>h2.seesSub h3.mem,h4 a' w' h1 h2⟩
theorem AG_last (i:Nat) {rest:List Oper} (hi:ops.toList.drop i=o::rest) (hg:o.guard=none) (hr:Region.ready .any ops listed=[i]) (hil:(listed.setIfInBounds i true).getD last false=true)
  (h:L Γ [o] l M (fun l' M'=>AG Γ ops [] Qp last fuel (listed.setIfInBounds i true) l' M')):AG Γ ops A Qp last (fuel+1) listed l M:=fun a w ha hw=>by
 refine ⟨fun h0=>(by rw [hr] at h0;cases h0),fun j hj=>?_⟩
 rw [hr] at hj
 rw [List.mem_singleton.1 hj]
 unfold wpOp
 rw [drop_get hi]
 simp only [Region.wanted,hg,if_true]
 refine .inl (Oper.wp_mono (fun a' w' h1=>?_) (L_one h hg ha hw))
 obtain ⟨_,l',M',h1,h2,h4⟩:=h1
 refine ⟨fun hf=>(by rw [hil] at hf;cases hf),?_⟩
 exact wpG_flag fuel _ a' w' hil (h4 a' w' h1 h2)
theorem AG_A (A':List HP) (hs:AllIn A A') (h:AG Γ ops A' Qp last fuel listed l M):AG Γ ops A Qp last fuel listed l M:=fun a w ha hw =>
 wpG_S (fun w h=>⟨h.old,fun x hx=>h.prs x (hs.mem x hx)⟩) _ _ _ _ (h a w ha hw)
section
variable {ty:TypeId} {pos:String} {af:Array Edge}
theorem PU_nilCheck {x:Operand} {a:Addr} (hn:Nat.blt d Γ.n=true) (hx:ev l x=some (.pointer (some a))) :
  Pu Γ A l { dst:=some d,op:=.nilCheck x,type:=ty,pos,after:=af,guard:=none } d (.pointer (some a)) :=
 PU_pure hn fun a' w ha _=>by simp [execOp,ha.eval hx]
end
end Go.Proofs.SL
namespace Go.Proofs.SL
open Go
variable {Γ:Cx} {rest:List Oper} {d:Nat} {ty:TypeId} {pos:String} {af:Array Edge} {gd:Option (Nat×Bool)}
variable {ops:Array Oper} {Msh pool:List HP} {E:Fl} {rs:List (Option Nat×Rel)} {cs0:List Nat} {KD:RKont}
end Go.Proofs.SL
namespace Go.Proofs.SL
open Go
variable {Γ:Cx} {l:Envl} {M A:List HP} {K:Kont} {rest:List Oper} {d:Nat} {ty:TypeId} {pos:String} {af:Array Edge}
def fld1 (P:Program) (T:TypeId) (f:Nat):Option Nat:=match P.underlying T with
 | some (.struct fs)=>match fs[f]? with
  | some x=>if oneOf P x.type then some x.offset else none
  | none=>none
 | _=>none
theorem run_fieldV {P:Program} {T f fo:Nat} {cs:List Value} {v:Value} (ht:fld1 P T f=some fo) (hv:cs[fo]?=some v) (w:World):(Instr.field T (.agg cs.toArray) f).run P w=.ok v w:=by
 unfold fld1 at ht
 split at ht<;>(try cases ht)
 rename_i fs hfs
 split at ht<;>(try cases ht)
 rename_i x hx
 split at ht<;>cases ht
 rename_i h1
 simp [Instr.field,underlying,hfs,hx,asAgg,part,run_isAgg_one h1,hv]
end Go.Proofs.SL
namespace Go.Proofs.SL
open Go
variable {Γ:Cx} {l:Envl} {M M' M1 M2 F:List HP} {Q:Post} {K:Kont} {w0 w:World} {S0:List Nat}
variable {rest:List Oper} {d:Nat} {ty:TypeId} {pos:String} {af:Array Edge}
section
variable {τ δ:Type} [GT τ δ]
theorem L_app1m {s x:Operand} {T e sz by_ c b:Nat} {z:List Value} {X:TL τ} {T':TypeId} (y:τ) {r:List δ} (hn:Nat.blt d Γ.n=true)
  (hs:ev l s=some X.hdr) (hx:ev l x=some (.slice (some ⟨b,0,none⟩) 1 c)) (ht:elOf Γ.P T=some (e,sz,by_,z)) (hsz:GT.sz τ=sz) (hz:z.length=sz)
  (hp:Pick (treeH X) M M1) (hsrc:blk b (GT.cells y) T'∈M) (hy:Pick (treeH y) M1 M2)
  (hr:appP (GT.dat X) [GT.dat y]=some r) (hb:by_≤32768)
  (hk:∀ X':TL τ,GT.dat X'=r→y∈X'.els→L Γ rest ((d,X'.hdr)::l) (treeH X'::M2) K) :
  L Γ ({ dst:=some d,op:=.call { callee:=.builtin .append,args:=#[s,x],argTypes:=#[T,T] },type:=ty,pos,after:=af,guard:=none }::rest) l M K:=by
 obtain ⟨h1,rfl⟩:=appP_some hr
 refine L_appA (ys:=[y]) hn hs hx ht hsz hz hp rfl (fun w hw j v hv=>?_) (fun w R h=>elsT_one (h.perm (hy.perm.append_right R))) (by simpa [dat_els] using h1) hb
  (fun X' h=>hk X' (by rw [dat_els,h,List.map_append,dat_els];rfl) (by rw [h];simp))
 rw [addr_add]
 exact RdC.blk (Γ:=Γ) hsrc w hw j v (by simpa [rowCells] using hv)
end
section
variable {τ δ:Type} [GT τ δ] [FlatT τ]
end
section
variable {τ δ:Type} [GT τ δ] {t:τ}
theorem RdT.any (h:∀ w S,GT.rd w S t):RdT Γ M t:=fun w _=>h w []
theorem RdO.any (h:∀ w S,GT.rd w S t) {w:World} {S:List Nat}:RdO w S t:=h w S
theorem RdX.any (h:∀ w S,GT.rd w S t):RdX Γ M1 M2 t:=fun w _=>h w _
end
end Go.Proofs.SL
namespace Go.Proofs.SL
open Go
variable {Γ:Cx} {l:Envl} {A:List HP} {rest:List Oper} {d:Nat} {ty:TypeId} {pos:String} {af:Array Edge} {gd:Option (Nat×Bool)}
variable {ops:Array Oper} {Msh pool:List HP} {E:Fl} {rs:List (Option Nat×Rel)} {cs0:List Nat} {KD:RKont}
section
variable {τ δ:Type} [GT τ δ] [FlatT τ]
end
section
variable {τ δ:Type} [GT τ δ]
end
end Go.Proofs.SL
namespace Go.Proofs.SL
open Go
variable {Γ:Cx} {l:Envl} {M M1 A:List HP} {K:Kont} {Q:Post} {rest:List Oper} {d:Nat} {ty:TypeId} {pos:String} {af:Array Edge} {gd:Option (Nat×Bool)} {w0 w:World} {S0:List Nat}
variable {ops:Array Oper} {Msh pool:List HP} {E:Fl} {rs:List (Option Nat×Rel)} {cs0:List Nat} {KD:RKont}
section
variable {τ δ:Type} [GT τ δ]
end
def fldA (P:Program) (T:TypeId) (f:Nat):Option (Nat×Nat):=match P.underlying T with
 | some (.struct fs)=>match fs[f]? with
  | some x=>(aggOf P x.type).map fun n=>(x.offset,n)
  | none=>none
 | _=>none
theorem run_fieldA {P:Program} {T f fo n:Nat} {cs:List Value} (ht:fldA P T f=some (fo,n)) (w:World):(Instr.field T (.agg cs.toArray) f).run P w=.ok (.agg ((cs.drop fo).take n).toArray) w:=by
 unfold fldA at ht
 split at ht<;>(try cases ht)
 rename_i fs hfs
 split at ht<;>(try cases ht)
 rename_i x hx
 obtain ⟨m,hm,e⟩:=Option.map_eq_some_iff.1 ht
 cases e
 obtain ⟨h1,h2⟩:=run_isAgg_agg hm w
 simp [Instr.field,underlying,hfs,hx,asAgg,part,h1,h2,List.take_drop]
theorem L_fieldA {x:Operand} {T f fo n:Nat} {cs us:List Value} (hn:Nat.blt d Γ.n=true) (hx:ev l x=some (.agg cs.toArray)) (ht:fldA Γ.P T f=some (fo,n)) (hv:(cs.drop fo).take n=us) (hk:L Γ rest ((d,.agg us.toArray)::l) M K) :
  L Γ ({ dst:=some d,op:=.field T x f,type:=ty,pos:=pos,after:=af,guard:=none }::rest) l M K :=
 L_pure hn (fun a w ha _=>by rw [← hv];simp [execOp,ha.eval hx,run_fieldA ht w]) hk
end Go.Proofs.SL
namespace Go.Proofs.SL
open Go
variable {Γ:Cx} {l:Envl} {M M' M1 M2 F Mr:List HP} {Q:Post} {K:Kont} {w0 w:World} {S0 S:List Nat} {P:Program}
variable {rest:List Oper} {d:Nat} {ty:TypeId} {pos:String} {af:Array Edge}
section
variable {τ δ:Type} [GT τ δ] {t:τ}
theorem row_open {X:TL τ} (p:Pick (treeH X) M M1) (h:Holds w0 S0 M w):Holds w0 S0 (rowH X::elsT X.els::M1) w:=tree_row (h.perm p.perm)
theorem L_mk0R (τ:Type) {δ:Type} [GT τ δ] {T e sz by_:Nat} {z:List Value} (hn:Nat.blt d Γ.n=true) (ht:elOf Γ.P T=some (e,sz,by_,z))
  (hk:∀ X:TL τ,GT.dat X=[]→X.els=[]→L Γ rest ((d,X.hdr)::l) (treeH X::M) K) :
  L Γ ({ dst:=some d,op:=.buildSlice T 0 #[],type:=ty,pos,after:=af,guard:=none }::rest) l M K :=
 L_mk0 τ hn ht fun X hX=>hk X hX (by rw [dat_els] at hX;exact List.map_eq_nil_iff.1 hX)
end
structure BL where
 l:List Nat
instance:GT BL Unit where
 sz:=1
 pos:=by decide
 cells _:=[.bool false]
 len _:=rfl
 one _ v hv:=by simp at hv;subst hv;rfl
 rd _ _ _:=True
 fp _:=[]
 ow _ _:=False
 dat _:=()
 rd_mono h _:=h
 ow_st _ h:=h
 ow_rd h _:=h.elim
section
variable {τ δ:Type} [GT τ δ] {t:τ}
end
end Go.Proofs.SL
namespace Go.Proofs.SL
open Go
variable {Γ:Cx} {l l':Envl} {M M' M1 M2 F A A':List HP} {Qp:Post} {K:Kont} {w0 w:World} {S0:List Nat}
variable {ops:Array Oper} {fuel:Nat} {listed:Array Bool} {i d:Nat} {o:Oper} {last:Nat}
theorem wpG_ofH {P:Program} {Q:Exit→Act→World→Prop} {S S':World→Prop}:∀ (fuel:Nat) (listed:Array Bool) (a:Act) (w:World),listed.getD last false=true→wpAnyH P .any ops Q S fuel listed a w→wpG P ops Q last S' fuel listed a w
 | 0,_,_,_,_,h=>h
 | fuel+1,_,_,_,hl,h=>⟨h.1,fun i hi=>wpOp_mono (fun a' w' h'=>⟨fun hf=>(by rw [getD_set_true hl] at hf;cases hf),wpG_ofH fuel _ a' w' (getD_set_true hl) h'.2⟩) (h.2 i hi)⟩
theorem AG_lastH (i:Nat) {rest:List Oper} (hi:ops.toList.drop i=o::rest) (hg:o.guard=none) (hr:Region.ready .any ops listed=[i]) (hil:(listed.setIfInBounds i true).getD last false=true)
  (h:L Γ [o] l M (fun l' M'=>AH Γ ops [] Qp fuel (listed.setIfInBounds i true) l' M')):AG Γ ops A Qp last (fuel+1) listed l M:=fun a w ha hw=>by
 refine ⟨fun h0=>(by rw [hr] at h0;cases h0),fun j hj=>?_⟩
 rw [hr] at hj
 rw [List.mem_singleton.1 hj]
 unfold wpOp
 rw [drop_get hi]
 simp only [Region.wanted,hg,if_true]
 refine .inl (Oper.wp_mono (fun a' w' h1=>?_) (L_one h hg ha hw))
 obtain ⟨_,l',M',h1,h2,h4⟩:=h1
 exact ⟨fun hf=>(by rw [hil] at hf;cases hf),wpG_ofH fuel _ a' w' hil (h4 a' w' h1 h2)⟩
variable {al da:Nat} {z:List Value} {T:TypeId}
end Go.Proofs.SL
namespace Go.Proofs.SL
open Go
variable {Γ:Cx} {l:Envl} {M M' M1 M2 F:List HP} {Q:Post} {K:Kont} {w0 w:World} {S0:List Nat}
variable {rest:List Oper} {d:Nat} {ty:TypeId} {pos:String} {af:Array Edge}
variable {ops:Array Oper} {Msh pool pool':List HP} {E:Fl} {rs:List (Option Nat×Rel)} {cs0:List Nat} {KD:List (Option Nat×Rel)→List Nat→List HP→Prop}
theorem one_row {τ δ:Type} [GT τ δ] {v:τ} {b e:Nat} (p:Pick (treeH v) M M1) (h:Holds w0 S0 (blk b (GT.cells v) e::M) w) :
  Holds w0 S0 (treeH (⟨some ⟨b,0,none⟩,1,e,[v],[]⟩:TL τ)::M1) w:=by
 have h1:=h.perm (p.perm.cons _)
 refine row_tree ?_
 refine h1.reFp (List.Perm.of_eq ?_) fun y hy=>?_
 ·simp only [fps_cons]
  show [b]++(GT.fp v++fps M1)=[b]++([v].flatMap GT.fp++fps M1)
  simp
 ·rcases List.mem_cons.1 hy with rfl | hy
  ·have hb:w.heap[b]?=some (.cells (GT.cells v).toArray e (0,0)):=h1.prs (blk b (GT.cells v) e) (List.mem_cons_self ..)
   refine ⟨Nat.le_refl _,by simp [maxLen],fun h=>(by cases h),fun a ha=>?_⟩
   cases ha
   exact ⟨rfl,rfl,by simpa [rowCells] using hb,by simp⟩
  rcases List.mem_cons.1 hy with rfl | hy
  ·intro x hx
   rw [List.mem_singleton.1 hx]
   exact h1.prs (treeH v) (List.mem_cons_of_mem _ (List.mem_cons_self ..))
  ·exact h1.prs _ (List.mem_cons_of_mem _ (List.mem_cons_of_mem _ hy))
theorem L_bs1T {τ δ:Type} [GT τ δ] {T e sz by_:Nat} {z:List Value} {x:Operand} {u:Value} (v:τ) {r:List δ} (hn:Nat.blt d Γ.n=true) (hx:ev l x=some u) (ht:elOf Γ.P T=some (e,sz,by_,z)) (hz:z.length=sz)
  (hsz:0 < sz) (hns:sz≤65536) (hu:u.cells.toList=GT.cells v) (hs:GT.sz τ=sz) (p:Pick (treeH v) M M1) (hr:some [GT.dat v]=some r)
  (hk:∀ X:TL τ,GT.dat X=r→L Γ rest ((d,X.hdr)::l) (treeH X::M1) K) :
  L Γ ({ dst:=some d,op:=.buildSlice T 1 #[(0,x)],type:=ty,pos,after:=af,guard:=none }::rest) l M K :=
 L_buildSlice1 hn hx ht hz hsz hns (by rw [hu,GT.len,hs]) fun b=>by
  rw [hu]
  exact L_conv (fun w h=>one_row p h) (hk ⟨some ⟨b,0,none⟩,1,e,[v],[]⟩ (Option.some.inj hr))
end Go.Proofs.SL
namespace Go.Proofs.SL
open Go
set_option maxHeartbeats 2000000
abbrev D_EMsg:=Int×Int×Int×D_Id×Int×D_Cmd×Int×(List D_Id)×Int×Int×Bool
instance fld103_0:FldF Tryz.prog 103 0 0:=⟨by kernel_rfl⟩
instance fld103_1:FldF Tryz.prog 103 1 1:=⟨by kernel_rfl⟩
instance fld103_2:FldF Tryz.prog 103 2 2:=⟨by kernel_rfl⟩
instance fld103_3:FldF Tryz.prog 103 3 3:=⟨by kernel_rfl⟩
instance fld103_4:FldF Tryz.prog 103 4 5:=⟨by kernel_rfl⟩
instance fld103_5:FldF Tryz.prog 103 5 6:=⟨by kernel_rfl⟩
instance fld103_6:FldF Tryz.prog 103 6 14:=⟨by kernel_rfl⟩
instance fld103_7:FldF Tryz.prog 103 7 15:=⟨by kernel_rfl⟩
instance fld103_8:FldF Tryz.prog 103 8 16:=⟨by kernel_rfl⟩
instance fld103_9:FldF Tryz.prog 103 9 17:=⟨by kernel_rfl⟩
instance zero44:ZerF Tryz.prog 44 [.int .i64 0,.int .i64 0,.slice none 0 0,.slice none 0 0]:=⟨by kernel_rfl⟩
instance bld44:BldF Tryz.prog 44 [(0,1),(1,1),(2,1),(3,1)] [.int .i64 0,.int .i64 0,.slice none 0 0,.slice none 0 0]:=⟨by kernel_rfl⟩
instance el27:ElF Tryz.prog 27 103 19 208 [.int .i64 0,.int .i64 0,.int .i64 0,.int .i64 0,.int .i64 0,.int .i64 0,.int .i64 0,.int .i64 0,.int .i64 0,.string ByteArray.empty,.string ByteArray.empty,.string ByteArray.empty,.int .i64 0,.slice none 0 0,.int .i64 0,.slice none 0 0,.int .i64 0,.int .i64 0,.bool false]:=⟨by kernel_rfl⟩
instance agg103:AggF Tryz.prog 103 19:=⟨by kernel_rfl⟩
instance zero103:ZerF Tryz.prog 103 [.int .i64 0,.int .i64 0,.int .i64 0,.int .i64 0,.int .i64 0,.int .i64 0,.int .i64 0,.int .i64 0,.int .i64 0,.string ByteArray.empty,.string ByteArray.empty,.string ByteArray.empty,.int .i64 0,.slice none 0 0,.int .i64 0,.slice none 0 0,.int .i64 0,.int .i64 0,.bool false]:=⟨by kernel_rfl⟩
instance bld103:BldF Tryz.prog 103 [(0,1),(1,1),(2,1),(3,2),(5,1),(6,8),(14,1),(15,1),(16,1),(17,1),(18,1)] [.int .i64 0,.int .i64 0,.int .i64 0,.int .i64 0,.int .i64 0,.int .i64 0,.int .i64 0,.int .i64 0,.int .i64 0,.string ByteArray.empty,.string ByteArray.empty,.string ByteArray.empty,.int .i64 0,.slice none 0 0,.int .i64 0,.slice none 0 0,.int .i64 0,.int .i64 0,.bool false]:=⟨by kernel_rfl⟩
instance fn12:FnF Tryz.prog 12:=⟨_,Tryz.func12,by kernel_rfl,rfl⟩
instance fn88:FnF Tryz.prog 88:=⟨_,Tryz.func88,by kernel_rfl,rfl⟩
instance bld35:BldF Tryz.prog 35 [(0,1),(1,1)] [.int .i64 0,.int .i64 0]:=⟨by kernel_rfl⟩
instance bld141:BldF Tryz.prog 141 [(0,2),(2,1),(3,1),(4,1),(5,1),(6,1),(7,1)] [.int .i64 0,.int .i64 0,.int .i64 0,.int .i64 0,.int .i64 0,.slice none 0 0,.slice none 0 0,.bool false]:=⟨by kernel_rfl⟩
noncomputable def s_EMsgOk (a0:D_EMsg):Option Bool :=
 Option.bind (s_l1In a0.1 1 7) (fun y1=>gb y1 (s_l9Node a0.2.1) (fun y2=>gb (y1&&y2) (s_l9Node a0.2.2.1) (fun y3=>gb (((y1&&y2)&&y3)&&(!decide (a0.2.1=a0.2.2.1))) (s_l8Id (a0.2.2.2.1.1,a0.2.2.2.1.2)) (fun y4=>gb ((((y1&&y2)&&y3)&&(!decide (a0.2.1=a0.2.2.1)))&&y4) (s_l1In a0.2.2.2.2.1 0 600) (fun y5=>gb (((((y1&&y2)&&y3)&&(!decide (a0.2.1=a0.2.2.1)))&&y4)&&y5) (s_CmdOk (a0.2.2.2.2.2.1.1,a0.2.2.2.2.2.1.2.1,a0.2.2.2.2.2.1.2.2.1,a0.2.2.2.2.2.1.2.2.2.1,a0.2.2.2.2.2.1.2.2.2.2.1,a0.2.2.2.2.2.1.2.2.2.2.2.1,a0.2.2.2.2.2.1.2.2.2.2.2.2.1,a0.2.2.2.2.2.1.2.2.2.2.2.2.2)) (fun y6=>gb ((((((y1&&y2)&&y3)&&(!decide (a0.2.1=a0.2.2.1)))&&y4)&&y5)&&y6) (s_l1In a0.2.2.2.2.2.2.1 0 60) (fun y7=>gb (((((((y1&&y2)&&y3)&&(!decide (a0.2.1=a0.2.2.1)))&&y4)&&y5)&&y6)&&y7) (s_IdsOk a0.2.2.2.2.2.2.2.1) (fun y8=>gb ((((((((y1&&y2)&&y3)&&(!decide (a0.2.1=a0.2.2.1)))&&y4)&&y5)&&y6)&&y7)&&y8) (s_l8Has a0.2.2.2.2.2.2.2.1 (a0.2.2.2.1.1,a0.2.2.2.1.2)) (fun y9=>gb (((((((((y1&&y2)&&y3)&&(!decide (a0.2.1=a0.2.2.1)))&&y4)&&y5)&&y6)&&y7)&&y8)&&(!y9)) (s_l1In a0.2.2.2.2.2.2.2.2.1 0 3) (fun y10=>gb ((((((((((y1&&y2)&&y3)&&(!decide (a0.2.1=a0.2.2.1)))&&y4)&&y5)&&y6)&&y7)&&y8)&&(!y9))&&y10) (s_l1In a0.2.2.2.2.2.2.2.2.2.1 (-1) 600) (fun y11=>some (((((((((((y1&&y2)&&y3)&&(!decide (a0.2.1=a0.2.2.1)))&&y4)&&y5)&&y6)&&y7)&&y8)&&(!y9))&&y10)&&y11))))))))))))
theorem s_EMsgOk_walk (w:World) (a0:T_EMsg) (h0:GT.rd w [] a0) (r:Bool) (hp:s_EMsgOk (GT.dat a0)=some r):Spec Tryz.prog 89 [.agg (GT.cells a0).toArray].toArray w [] (IsV (.bool r)):=by
 obtain ⟨a0_1,a0_2,a0_3,⟨a0_4,a0_5⟩,a0_6,⟨a0_7,a0_8,a0_9,a0_10,a0_11,a0_12,a0_13,a0_14⟩,a0_15,a0_16,a0_17,a0_18,a0_19⟩:=a0
 change Spec _ _ ([Value.agg #[.int .i64 a0_1,.int .i64 a0_2,.int .i64 a0_3,.int .i64 a0_4,.int .i64 a0_5,.int .i64 a0_6,.int .i64 a0_7,.int .i64 a0_8,.int .i64 a0_9,.string a0_10,.string a0_11,.string a0_12,.int .i64 a0_13,(TL.hdr a0_14),.int .i64 a0_15,(TL.hdr a0_16),.int .i64 a0_17,.int .i64 a0_18,.bool a0_19]]:List Value).toArray w [] _
 refine Spec.intro Tryz.func89 rfl Tryz.ntmps89 rfl ?_
 unfold s_EMsgOk at hp
 try dsimp only [dat_pair,dat_int,dat_bool,dat_str,dat_ar] at hp
 refine W_seq ?_
 refine W_region ?_
 refine L_box rfl rfl (fun bk1=>?_)
 refine L_assign rfl rfl ?_
 refine L_nil ?_
 refine W_seq ?_
 have ho:=hp;clear hp;obtain ⟨y1,hy1,hp⟩:=bind_any ho;clear ho
 have ho:=hp;clear hp;obtain ⟨y2,hy2,hp⟩:=gb_any ho;clear ho
 have ho:=hp;clear hp;obtain ⟨y3,hy3,hp⟩:=gb_any ho;clear ho
 have ho:=hp;clear hp;obtain ⟨y4,hy4,hp⟩:=gb_any ho;clear ho
 have ho:=hp;clear hp;obtain ⟨y5,hy5,hp⟩:=gb_any ho;clear ho
 have ho:=hp;clear hp;obtain ⟨y6,hy6,hp⟩:=gb_any ho;clear ho
 have ho:=hp;clear hp;obtain ⟨y7,hy7,hp⟩:=gb_any ho;clear ho
 have ho:=hp;clear hp;obtain ⟨y8,hy8,hp⟩:=gb_any ho;clear ho
 have ho:=hp;clear hp;obtain ⟨y9,hy9,hp⟩:=gb_any ho;clear ho
 have ho:=hp;clear hp;obtain ⟨y10,hy10,hp⟩:=gb_any ho;clear ho
 have ho:=hp;clear hp;obtain ⟨y11,hy11,hp⟩:=gb_any ho;clear ho
 refine W_D0 [2] mix (by kernel_rfl) rfl ?_
 refine D_fieldAddr GC.none (OpV.t rfl) fld103_0.h ?_
 refine D_load GC.none (OpV.t rfl) (fun hg=>RdC.blk (by first | (with_reducible repeat (first | exact List.Mem.head _ | apply List.Mem.tail));done | (repeat (first | exact List.Mem.head _ | apply List.Mem.tail)))) one3.h rfl ?_
 refine D_callX GC.none fn83.h (OpVs.cons (OpV.t rfl) (OpVs.cons OpV.c (OpVs.cons OpV.c (OpVs.nil)))) (by exact fun hg w F hF hM=>s_l1In_walk w a0_1 1 7  _ hy1) ?_
 refine D_move GC.none (OpV.t rfl) ?_
 refine D_fieldAddr (GC.some rfl rfl) (OpV.t rfl) fld103_1.h ?_
 refine D_load (GC.some rfl rfl) (OpV.s rfl) (fun hg=>RdC.blk (by first | (with_reducible repeat (first | exact List.Mem.head _ | apply List.Mem.tail));done | (repeat (first | exact List.Mem.head _ | apply List.Mem.tail)))) one3.h rfl ?_
 refine D_callX (GC.some rfl rfl) fn136.h (OpVs.cons (OpV.s rfl) (OpVs.nil)) (by exact fun hg w F hF hM=>s_l9Node_walk w a0_2  _ (hy2 hg.2)) ?_
 refine D_and (cy:=_) GC.none (OpV.t rfl) (OpV.s rfl) (fun h hb=>⟨h,hb⟩) ?_
 refine D_move GC.none (OpV.t rfl) ?_
 refine D_fieldAddr (GC.some rfl rfl) (OpV.t rfl) fld103_2.h ?_
 refine D_load (GC.some rfl rfl) (OpV.s rfl) (fun hg=>RdC.blk (by first | (with_reducible repeat (first | exact List.Mem.head _ | apply List.Mem.tail));done | (repeat (first | exact List.Mem.head _ | apply List.Mem.tail)))) one3.h rfl ?_
 refine D_callX (GC.some rfl rfl) fn136.h (OpVs.cons (OpV.s rfl) (OpVs.nil)) (by exact fun hg w F hF hM=>s_l9Node_walk w a0_3  _ (hy3 hg.2)) ?_
 refine D_and (cy:=_) GC.none (OpV.t rfl) (OpV.s rfl) (fun h hb=>⟨h,hb⟩) ?_
 refine D_move GC.none (OpV.t rfl) ?_
 refine D_fieldAddr (GC.some rfl rfl) (OpV.t rfl) fld103_1.h ?_
 refine D_load (GC.some rfl rfl) (OpV.s rfl) (fun hg=>RdC.blk (by first | (with_reducible repeat (first | exact List.Mem.head _ | apply List.Mem.tail));done | (repeat (first | exact List.Mem.head _ | apply List.Mem.tail)))) one3.h rfl ?_
 refine D_fieldAddr (GC.some rfl rfl) (OpV.t rfl) fld103_2.h ?_
 refine D_load (GC.some rfl rfl) (OpV.s rfl) (fun hg=>RdC.blk (by first | (with_reducible repeat (first | exact List.Mem.head _ | apply List.Mem.tail));done | (repeat (first | exact List.Mem.head _ | apply List.Mem.tail)))) one3.h rfl ?_
 refine D_bin (GC.some rfl rfl) (OpV.s rfl) (OpV.s rfl) (fun hg=>bv_neq) ?_
 refine D_and (cy:=_) GC.none (OpV.t rfl) (OpV.s rfl) (fun h hb=>⟨h,hb⟩) ?_
 refine D_move GC.none (OpV.t rfl) ?_
 refine D_fieldAddr (GC.some rfl rfl) (OpV.t rfl) fld103_3.h ?_
 refine D_loadW (GC.some rfl rfl) (OpV.s rfl) (fun hg=>RdC.seg (RdC.blk (by first | (with_reducible repeat (first | exact List.Mem.head _ | apply List.Mem.tail));done | (repeat (first | exact List.Mem.head _ | apply List.Mem.tail)))) 3 2 rfl) (by exact agg35.h) ?_
 refine D_callX (GC.some rfl rfl) fn140.h (OpVs.cons (OpV.s rfl) (OpVs.nil)) (by exact fun hg w F hF hM=>s_l8Id_walk w (a0_4,a0_5) (RdT.nowS (RdT.pair RdT.int RdT.int) hF hM) _ (hy4 hg.2)) ?_
 refine D_and (cy:=_) GC.none (OpV.t rfl) (OpV.s rfl) (fun h hb=>⟨h,hb⟩) ?_
 refine D_move GC.none (OpV.t rfl) ?_
 refine D_fieldAddr (GC.some rfl rfl) (OpV.t rfl) fld103_4.h ?_
 refine D_load (GC.some rfl rfl) (OpV.s rfl) (fun hg=>RdC.blk (by first | (with_reducible repeat (first | exact List.Mem.head _ | apply List.Mem.tail));done | (repeat (first | exact List.Mem.head _ | apply List.Mem.tail)))) one3.h rfl ?_
 refine D_callX (GC.some rfl rfl) fn83.h (OpVs.cons (OpV.s rfl) (OpVs.cons OpV.c (OpVs.cons OpV.c (OpVs.nil)))) (by exact fun hg w F hF hM=>s_l1In_walk w a0_6 0 600  _ (hy5 hg.2)) ?_
 refine D_and (cy:=_) GC.none (OpV.t rfl) (OpV.s rfl) (fun h hb=>⟨h,hb⟩) ?_
 refine D_move GC.none (OpV.t rfl) ?_
 refine D_fieldAddr (GC.some rfl rfl) (OpV.t rfl) fld103_5.h ?_
 refine D_loadW (GC.some rfl rfl) (OpV.s rfl) (fun hg=>RdC.seg (RdC.blk (by first | (with_reducible repeat (first | exact List.Mem.head _ | apply List.Mem.tail));done | (repeat (first | exact List.Mem.head _ | apply List.Mem.tail)))) 6 8 rfl) (by exact agg38.h) ?_
 refine D_callX (GC.some rfl rfl) fn38.h (OpVs.cons (OpV.s rfl) (OpVs.nil)) (by exact fun hg w F hF hM=>s_CmdOk_walk w (a0_7,a0_8,a0_9,a0_10,a0_11,a0_12,a0_13,a0_14) (RdT.nowS (RdT.pair RdT.int (RdT.pair RdT.int (RdT.pair RdT.int (RdT.pair RdT.str (RdT.pair RdT.str (RdT.pair RdT.str (RdT.pair RdT.int (RdT.old h0.2.2.2.2.2.1.2.2.2.2.2.2.2)))))))) hF hM) _ (hy6 hg.2)) ?_
 refine D_and (cy:=_) GC.none (OpV.t rfl) (OpV.s rfl) (fun h hb=>⟨h,hb⟩) ?_
 refine D_move GC.none (OpV.t rfl) ?_
 refine D_fieldAddr (GC.some rfl rfl) (OpV.t rfl) fld103_6.h ?_
 refine D_load (GC.some rfl rfl) (OpV.s rfl) (fun hg=>RdC.blk (by first | (with_reducible repeat (first | exact List.Mem.head _ | apply List.Mem.tail));done | (repeat (first | exact List.Mem.head _ | apply List.Mem.tail)))) one3.h rfl ?_
 refine D_callX (GC.some rfl rfl) fn83.h (OpVs.cons (OpV.s rfl) (OpVs.cons OpV.c (OpVs.cons OpV.c (OpVs.nil)))) (by exact fun hg w F hF hM=>s_l1In_walk w a0_15 0 60  _ (hy7 hg.2)) ?_
 refine D_and (cy:=_) GC.none (OpV.t rfl) (OpV.s rfl) (fun h hb=>⟨h,hb⟩) ?_
 refine D_move GC.none (OpV.t rfl) ?_
 refine D_fieldAddr (GC.some rfl rfl) (OpV.t rfl) fld103_7.h ?_
 refine D_load (GC.some rfl rfl) (OpV.s rfl) (fun hg=>RdC.blk (by first | (with_reducible repeat (first | exact List.Mem.head _ | apply List.Mem.tail));done | (repeat (first | exact List.Mem.head _ | apply List.Mem.tail)))) one31.h rfl ?_
 refine D_callX (GC.some rfl rfl) fn141.h (OpVs.cons (OpV.s rfl) (OpVs.nil)) (by exact fun hg w F hF hM=>s_IdsOk_walk w a0_16 (RdT.nowS (RdT.old h0.2.2.2.2.2.2.2.1) hF hM) _ (hy8 hg.2)) ?_
 refine D_and (cy:=_) GC.none (OpV.t rfl) (OpV.s rfl) (fun h hb=>⟨h,hb⟩) ?_
 refine D_move GC.none (OpV.t rfl) ?_
 refine D_fieldAddr (GC.some rfl rfl) (OpV.t rfl) fld103_7.h ?_
 refine D_load (GC.some rfl rfl) (OpV.s rfl) (fun hg=>RdC.blk (by first | (with_reducible repeat (first | exact List.Mem.head _ | apply List.Mem.tail));done | (repeat (first | exact List.Mem.head _ | apply List.Mem.tail)))) one31.h rfl ?_
 refine D_fieldAddr (GC.some rfl rfl) (OpV.t rfl) fld103_3.h ?_
 refine D_loadW (GC.some rfl rfl) (OpV.s rfl) (fun hg=>RdC.seg (RdC.blk (by first | (with_reducible repeat (first | exact List.Mem.head _ | apply List.Mem.tail));done | (repeat (first | exact List.Mem.head _ | apply List.Mem.tail)))) 3 2 rfl) (by exact agg35.h) ?_
 refine D_callX (GC.some rfl rfl) fn142.h (OpVs.cons (OpV.s rfl) (OpVs.cons (OpV.s rfl) (OpVs.nil))) (by exact fun hg w F hF hM=>s_l8Has_walk w a0_16 (a0_4,a0_5) (RdT.nowS (RdT.old h0.2.2.2.2.2.2.2.1) hF hM) (RdT.nowS (RdT.pair RdT.int RdT.int) hF hM) _ (hy9 hg.2)) ?_
 refine D_not (GC.some rfl rfl) (OpV.s rfl) ?_
 refine D_and (cy:=_) GC.none (OpV.t rfl) (OpV.s rfl) (fun h hb=>⟨h,hb⟩) ?_
 refine D_move GC.none (OpV.t rfl) ?_
 refine D_fieldAddr (GC.some rfl rfl) (OpV.t rfl) fld103_8.h ?_
 refine D_load (GC.some rfl rfl) (OpV.s rfl) (fun hg=>RdC.blk (by first | (with_reducible repeat (first | exact List.Mem.head _ | apply List.Mem.tail));done | (repeat (first | exact List.Mem.head _ | apply List.Mem.tail)))) one3.h rfl ?_
 refine D_callX (GC.some rfl rfl) fn83.h (OpVs.cons (OpV.s rfl) (OpVs.cons OpV.c (OpVs.cons OpV.c (OpVs.nil)))) (by exact fun hg w F hF hM=>s_l1In_walk w a0_17 0 3  _ (hy10 hg.2)) ?_
 refine D_and (cy:=_) GC.none (OpV.t rfl) (OpV.s rfl) (fun h hb=>⟨h,hb⟩) ?_
 refine D_move GC.none (OpV.t rfl) ?_
 refine D_fieldAddr (GC.some rfl rfl) (OpV.t rfl) fld103_9.h ?_
 refine D_load (GC.some rfl rfl) (OpV.s rfl) (fun hg=>RdC.blk (by first | (with_reducible repeat (first | exact List.Mem.head _ | apply List.Mem.tail));done | (repeat (first | exact List.Mem.head _ | apply List.Mem.tail)))) one3.h rfl ?_
 refine D_callX (GC.some rfl rfl) fn83.h (OpVs.cons (OpV.s rfl) (OpVs.cons OpV.c (OpVs.cons OpV.c (OpVs.nil)))) (by exact fun hg w F hF hM=>s_l1In_walk w a0_18 (-1) 600  _ (hy11 hg.2)) ?_
 refine D_and (cy:=_) GC.none (OpV.t rfl) (OpV.s rfl) (fun h hb=>⟨h,hb⟩) ?_
 refine D_assign GC.none (OpV.t rfl) ?_
 refine DV_nil ?_
 refine Give_is rfl rfl ?_
 refine Give_drop rfl ?_
 refine Give_drop rfl ?_
 refine Give_drop rfl ?_
 refine Give_drop rfl ?_
 refine Give_drop rfl ?_
 refine Give_drop rfl ?_
 refine Give_drop rfl ?_
 refine Give_drop rfl ?_
 refine Give_drop rfl ?_
 refine Give_drop rfl ?_
 refine Give_drop rfl ?_
 refine Give_drop rfl ?_
 refine Give_drop rfl ?_
 refine Give_drop rfl ?_
 refine Give_drop rfl ?_
 refine Give_drop rfl ?_
 refine Give_drop rfl ?_
 refine Give_drop rfl ?_
 refine Give_drop rfl ?_
 refine Give_drop rfl ?_
 refine Give_drop rfl ?_
 refine Give_drop rfl ?_
 refine Give_drop rfl ?_
 refine Give_drop rfl ?_
 refine Give_drop rfl ?_
 refine Give_drop rfl ?_
 refine Give_drop rfl ?_
 refine Give_drop rfl ?_
 refine Give_drop rfl ?_
 refine Give_drop rfl ?_
 refine Give_drop rfl ?_
 refine Give_drop rfl ?_
 refine Give_drop rfl ?_
 refine Give_drop rfl ?_
 refine Give_drop rfl ?_
 refine Give_drop rfl ?_
 refine Give_drop rfl ?_
 refine Give_drop rfl ?_
 refine Give_drop rfl ?_
 refine Give_drop rfl ?_
 refine Give_drop rfl ?_
 refine Give_drop rfl ?_
 refine Give_drop rfl ?_
 refine Give_drop rfl ?_
 refine Give_drop rfl ?_
 refine Give_drop rfl ?_
 refine Give_drop rfl ?_
 refine Give_drop rfl ?_
 refine Give_drop rfl ?_
 refine Give_drop rfl ?_
 refine Give_drop rfl ?_
 refine Give_drop rfl ?_
 refine Give_drop rfl ?_
 refine Give_drop rfl ?_
 refine Give_drop rfl ?_
 refine Give_drop rfl ?_
 refine Give_drop rfl ?_
 refine Give_drop rfl ?_
 refine Give_drop rfl ?_
 refine Give_drop rfl ?_
 refine Give_drop rfl ?_
 refine Give_drop rfl ?_
 refine Give_drop rfl ?_
 refine Give_nil ?_
 obtain rfl:=sj hp
 refine W_ret ?_
 refine res1 rfl (ResOK.tmp rfl) ⟨rfl,rfl⟩ (MSub.nil _)
noncomputable def s_l9Alike (a0:List D_Id) (a1:List D_Id):Option Bool :=
 cond (!decide ((a0.length:Int)=(a1.length:Int))) (some false) (whileP (fun s2:Int=>cond (decide (s2 < (a0.length:Int))) (Option.bind (idx a0 s2) (fun y4=>Option.bind (idx a1 s2) (fun y5=>cond (!(decide (y4.1=y5.1)&&(decide (y4.2=y5.2)&&true))) (Option.map .inr (some false)) (some (.inl (IntKind.wrap .i64 (s2+1))))))) (Option.map .inr (some true))) 0)
theorem s_l9Alike_walk (w:World) (a0:TL T_Id) (a1:TL T_Id) (h0:GT.rd w [] a0) (h1:GT.rd w [] a1) (r:Bool) (hp:s_l9Alike (GT.dat a0) (GT.dat a1)=some r):Spec Tryz.prog 43 [(TL.hdr a0),(TL.hdr a1)].toArray w [] (IsV (.bool r)):=by
 refine Spec.intro Tryz.func43 rfl Tryz.ntmps43 rfl ?_
 unfold s_l9Alike at hp
 replace hp:=dd hp
 refine s13 ?_
 refine kp [0,1,10] ?_
 refine W_cond rfl (fun hc1=>?_) (fun hc1=>?_)
 ·replace hp:=cond_t hc1 hp
  refine s4 ?_
  obtain rfl:=sj hp
  refine s1 ?_
  refine res1 rfl (ResOK.tmp rfl) ⟨rfl,rfl⟩ ms
 ·replace hp:=cond_f hc1 hp
  refine s7 ?_
  refine W_while (σ:=Int) GT.dat (fun (v2_0:Int)=>[(5,.int .i64 v2_0)]) (fun (v2_0:Int)=>[]) [(0,_),(1,_)] [] 0 hp sb ms ?_
  clear hp
  rintro v2_0 x2 hp hx2
  replace hp:=dd hp
  refine kq [0,1,5] ?_
  refine s8 ?_
  refine kp [0,1,5,14] ?_
  refine W_cond rfl (fun hc3=>?_) (fun hc3=>?_)
  ·replace hp:=cond_t hc3 hp
   refine s4 ?_
   replace hp:=idx_bind hp;obtain ⟨⟨u4_1,u4_2⟩,hy4,hp⟩:=hp
   replace hp:=idx_bind hp;obtain ⟨⟨u5_1,u5_2⟩,hy5,hp⟩:=hp
   refine W_D0 [25] mix (by kernel_rfl) rfl ?_
   refine s2 ?_
   refine D_idxA (X:=a0) GC.none (OpV.t rfl) (OpV.t rfl) el31.h (RdT.old h0) (fun _=>hy4) ?_
   refine D_loadW GC.none (OpV.t rfl) (fun hg=>RdT.at (RdT.old h0) (hy4).2) (by exact agg35.h) ?_
   refine s2 ?_
   refine D_idxA (X:=a1) GC.none (OpV.t rfl) (OpV.t rfl) el31.h (RdT.old h1) (fun _=>hy5) ?_
   refine D_loadW GC.none (OpV.t rfl) (fun hg=>RdT.at (RdT.old h1) (hy5).2) (by exact agg35.h) ?_
   refine D_bin GC.none (OpV.t rfl) (OpV.t rfl) (fun hg=>(bv_aneq eqsh35 (EqS.consI one3.h und3.h rfl rfl (EqS.consI one3.h und3.h rfl rfl EqS.nil)))) ?_
   refine s11 ?_
   refine kp [0,1,5,25] ?_
   refine W_cond rfl (fun hc6=>?_) (fun hc6=>?_)
   ·replace hp:=cond_t hc6 hp
    refine s4 ?_
    replace hp:=map_any hp;obtain ⟨a7,hp,z_7⟩:=hp
    obtain rfl:=hx2 _ z_7
    obtain rfl:=sj hp
    refine s1 ?_
    refine res1 rfl (ResOK.tmp rfl) ⟨rfl,rfl⟩ ms
   ·replace hp:=cond_f hc6 hp
    refine s6 ?_
    exact ⟨IntKind.wrap .i64 (v2_0+1),sb,(.sub ms),some_eq hp⟩
  ·replace hp:=cond_f hc3 hp
   refine W_exit ?_
   replace hp:=map_any hp;obtain ⟨a8,hp,z_8⟩:=hp
   obtain rfl:=hx2 _ z_8
   refine s4 ?_
   obtain rfl:=sj hp
   refine s1 ?_
   refine res1 rfl (ResOK.tmp rfl) ⟨rfl,rfl⟩ ms
end Go.Proofs.SL
namespace Go.Proofs.SL
open Go
set_option maxHeartbeats 2000000
instance fld103_10:FldF Tryz.prog 103 10 18:=⟨by kernel_rfl⟩
instance fld141_6:FldF Tryz.prog 141 6 7:=⟨by kernel_rfl⟩
instance fn43:FnF Tryz.prog 43:=⟨_,Tryz.func43,by kernel_rfl,rfl⟩
instance fn89:FnF Tryz.prog 89:=⟨_,Tryz.func89,by kernel_rfl,rfl⟩
end Go.Proofs.SL
namespace Go.Proofs.SL
open Go
variable {Γ:Cx} {l:Envl} {M M' M1 M2 F Mr:List HP} {Q:Post} {K:Kont} {w0 w:World} {S0 S:List Nat} {P:Program}
variable {rest:List Oper} {d:Nat} {ty:TypeId} {pos:String} {af:Array Edge}
structure Rw (τ:Type) where
 t:τ
section
variable {τ δ:Type} [GT τ δ]
instance:GT (Rw τ) τ where
 sz:=GT.sz τ
 pos:=GT.pos (τ:=τ)
 cells x:=GT.cells x.t
 len x:=GT.len x.t
 one x v hv:=GT.one x.t v hv
 rd _ _ _:=True
 fp _:=[]
 ow _ _:=True
 dat x:=x.t
 rd_mono h _:=h
 ow_st _ h:=h
 ow_rd h _:=h
instance:FlatT (Rw τ):=⟨fun _=>⟨rfl,fun _=>trivial⟩⟩
def rwT (X:TL τ):TL (Rw τ):=⟨X.a,X.cap,X.e,X.els.map Rw.mk,X.tail⟩
def unT (X:TL (Rw τ)):TL τ:=⟨X.a,X.cap,X.e,X.els.map Rw.t,X.tail⟩
theorem rwT_hdr (X:TL τ):(rwT X).hdr=X.hdr:=by unfold rwT TL.hdr;simp
theorem unT_hdr (X:TL (Rw τ)):(unT X).hdr=X.hdr:=by unfold unT TL.hdr;simp
theorem rwT_dat (X:TL τ):GT.dat (rwT X)=X.els:=by
 show (X.els.map Rw.mk).map (fun x=>x.t)=X.els
 rw [List.map_map];exact List.map_id _
theorem unT_els (X:TL (Rw τ)):(unT X).els=GT.dat X:=rfl
theorem cells_rw (xs:List τ):rowCells (xs.map Rw.mk)=rowCells xs:=by
 unfold rowCells;rw [List.flatMap_map];rfl
theorem cells_un (xs:List (Rw τ)):rowCells (xs.map Rw.t)=rowCells xs:=by
 unfold rowCells;rw [List.flatMap_map];rfl
theorem raw_row {X:TL τ} (p:Pick (rowH X) M M1) (h:Holds w0 S0 M w):Holds w0 S0 (treeH (rwT X)::M1) w:=by
 have h1:=h.perm p.perm
 have hr:=h1.prs (rowH X) (List.mem_cons_self ..)
 refine h1.reFp (List.Perm.of_eq ?_) fun y hy=>?_
 ·simp only [fps_cons]
  show (match X.a with | none=>[] | some a=>[a.block])++fps M1=((match X.a with | none=>[] | some a=>[a.block])++(X.els.map Rw.mk).flatMap (fun _=>[]))++fps M1
  simp
 ·rcases List.mem_cons.1 hy with rfl | hy
  ·refine ⟨by simpa [rwT] using hr.1,hr.2.1,fun _ _=>trivial,fun ha=>⟨by simp [rwT,(hr.2.2.1 ha).1],(hr.2.2.1 ha).2⟩,fun a ha=>?_⟩
   obtain ⟨h1,h2,h3,h4⟩:=hr.2.2.2 a ha
   refine ⟨h1,h2,?_,?_⟩
   ·show w.heap[a.block]?=some (.cells (rowCells (X.els.map Rw.mk)++X.tail).toArray X.e (0,0))
    rw [cells_rw];exact h3
   ·show (X.els.map Rw.mk).length*GT.sz τ+X.tail.length=X.cap*GT.sz τ
    rw [List.length_map];exact h4
  ·exact h1.prs _ (List.mem_cons_of_mem _ hy)
theorem row_raw {X:TL (Rw τ)} (p:Pick (treeH X) M M1) (h:Holds w0 S0 M w):Holds w0 S0 (rowH (unT X)::M1) w:=by
 have h1:=h.perm p.perm
 have hr:GT.ow w X:=h1.prs (treeH X) (List.mem_cons_self ..)
 refine h1.reFp (List.Perm.of_eq ?_) fun y hy=>?_
 ·simp only [fps_cons]
  show ((match X.a with | none=>[] | some a=>[a.block])++X.els.flatMap (fun _=>[]))++fps M1=(match X.a with | none=>[] | some a=>[a.block])++fps M1
  simp
 ·rcases List.mem_cons.1 hy with rfl | hy
  ·refine ⟨by simpa [unT] using hr.1,hr.2.1,fun ha=>⟨by simp [unT,(hr.2.2.2.1 ha).1],(hr.2.2.2.1 ha).2⟩,fun a ha=>?_⟩
   obtain ⟨h1,h2,h3,h4⟩:=hr.2.2.2.2 a ha
   refine ⟨h1,h2,?_,?_⟩
   ·show w.heap[a.block]?=some (.cells (rowCells (X.els.map Rw.t)++X.tail).toArray X.e (0,0))
    rw [cells_un];exact h3
   ·show (X.els.map Rw.t).length*GT.sz τ+X.tail.length=X.cap*GT.sz τ
    rw [List.length_map];exact h4
  ·exact h1.prs _ (List.mem_cons_of_mem _ hy)
theorem perm_filter {α:Type} (p:α→Bool):∀ l:List α,List.Perm l (l.filter (fun x=>!p x)++l.filter p)
 | []=>List.Perm.refl _
 | x::xs=>by
  cases h:p x with
  | true =>
   rw [List.filter_cons_of_neg (by simp [h]),List.filter_cons_of_pos h]
   exact ((perm_filter p xs).cons x).trans List.perm_middle.symm
  | false =>
   rw [List.filter_cons_of_pos (by simp [h]),List.filter_cons_of_neg (by simp [h])]
   exact (perm_filter p xs).cons x
theorem row_filter {xs:List τ} {Y:TL (Rw τ)} (q:τ→Bool) (hY:GT.dat Y=xs.filter (fun x=>!q x)) (p1:Pick (treeH Y) M M1) (p2:Pick (elsT xs) M1 M2) (h:Holds w0 S0 M w) :
  Holds w0 S0 (treeH (unT Y)::elsT (xs.filter q)::M2) w:=by
 have h1:=(row_raw p1 h).perm (p2.perm.cons _)
 have h2:Holds w0 S0 (elsT xs::rowH (unT Y)::M2) w:=h1.perm (List.Perm.swap _ _ _)
 have h3:Holds w0 S0 (elsT (unT Y).els::elsT (xs.filter q)::rowH (unT Y)::M2) w:=by
  rw [unT_els,hY]
  refine h2.reFp ?_ fun y hy=>?_
  ·simp only [fps_cons]
   show List.Perm (xs.flatMap GT.fp++_) ((xs.filter fun x=>!q x).flatMap GT.fp++((xs.filter q).flatMap GT.fp++_))
   rw [← List.append_assoc ((xs.filter fun x=>!q x).flatMap GT.fp),← List.flatMap_append]
   exact ((perm_filter q xs).flatMap_right GT.fp).append_right _
  ·have he:∀ x,x∈xs→GT.ow w x:=h2.prs (elsT xs) (List.mem_cons_self ..)
   rcases List.mem_cons.1 hy with rfl | hy
   ·exact fun x hx=>he x (List.mem_filter.1 hx).1
   rcases List.mem_cons.1 hy with rfl | hy
   ·exact fun x hx=>he x (List.mem_filter.1 hx).1
   ·exact h2.prs _ (List.mem_cons_of_mem _ hy)
 have h4:Holds w0 S0 (rowH (unT Y)::elsT (unT Y).els::elsT (xs.filter q)::M2) w :=
  h3.perm (((List.Perm.swap _ _ _).cons _).trans (List.Perm.swap _ _ _))
 exact row_tree h4
theorem RdT.elMem {xs:List τ} {x:τ} (hx:x∈xs) (h:RdT Γ M (EL.mk xs)):RdT Γ M x:=fun w hw=>h w hw x hx
theorem RdX.elMem {xs:List τ} {x:τ} (hx:x∈xs) (h:RdX Γ M1 M2 (EL.mk xs)):RdX Γ M1 M2 x:=fun w hw=>h w hw x hx
theorem RdP.elMem {xs:List τ} {x:τ} (hx:x∈xs) (h:RdP Mr w S (EL.mk xs)):RdP Mr w S x:=fun hp=>h hp x hx
theorem L_closeE {X:TL τ} {i:Nat} {cs:List Value} {u:τ} (x':τ) {r:List δ} (hu:X.els[i]?=some u) (hc:cs=GT.cells x') (p:Pick (holeH X i cs) M M1) (q:Pick (treeH x') M1 M2) (hr:some ((GT.dat X).set i (GT.dat x'))=some r)
  (hk:∀ X2:TL τ,GT.dat X2=r→X2.hdr=X.hdr→X2.els[i]?=some x'→L Γ rest l (treeH X2::M2) K):L Γ rest l M K :=
 L_conv (fun w h=>hole_close hc p q h) (hk _ (by rw [dat_set];exact Option.some.inj hr) (by show Value.slice X.a (X.els.set i x').length X.cap=Value.slice X.a X.els.length X.cap;rw [List.length_set])
  (by show (X.els.set i x')[i]?=some x';rw [List.getElem?_set_self (List.getElem?_eq_some_iff.1 hu).1]))
end
end Go.Proofs.SL
namespace Go.Proofs.SL
open Go
theorem take_succD {α:Type} {l:List α} {k:Nat} {x:α} (h:l[k]?=some x):l.take (k+1)=l.take k++[x]:=by
 rw [List.take_add_one,h];rfl
noncomputable def delStep {α:Type} (q:α→Bool) (z:α) (s3:List α×Int×Int):Option ((List α×Int×Int) ⊕ List α) :=
 cond (decide (s3.2.2 < (s3.1.length:Int))) (Option.bind (idx s3.1 s3.2.2) (fun y5=>Option.bind (some (q y5)) (fun y6=>cond (!y6) (Option.bind (idx s3.1 s3.2.1) (fun y8=>Option.bind (some (s3.1.set (s3.2.1.toNat) y5)) (fun y9=>some (.inl ((y9,IntKind.wrap .i64 (s3.2.1+1),IntKind.wrap .i64 (s3.2.2+1))))))) (some (.inl ((s3.1,s3.2.1,IntKind.wrap .i64 (s3.2.2+1)))))))) (Option.map .inr (Option.bind (slcP s3.1 s3.2.1 (s3.1.length:Int)) (fun y12=>Option.bind (chkP (decide (s3.2.1 < (s3.1.length:Int)))) (fun y14=>Option.bind (some (clrD s3.1 s3.2.1 (s3.1.length:Int) z)) (fun y15=>Option.bind (slcP y15 0 s3.2.1) (fun y17=>some y17))))))
theorem delStep_filter {α:Type} {l:List α} (p:α→Bool) (z:α) {i:Nat} (hf:l.findIdx? p=some i) (h:l.length≤4294967296) :
  whileP (delStep p z) (l,(i:Int),IntKind.wrap .i64 ((i:Int)+1))=some (l.filter fun x=>!p x):=by
  obtain ⟨hil,hpi,hlt⟩:=List.findIdx?_eq_some_iff_getElem.1 hf
  rw [wrap_succ (show i < 9223372036854775807 by omega)]
  obtain ⟨r,hr,hq⟩:=whileP_rule (α:=List α) (σ:=List α×Int×Int)
   (f:=delStep p z)
   (fun s=>∃ m j:Nat,s=(s.1,(m:Int),(j:Int))∧s.1.length=l.length∧m < j∧j≤l.length∧s.1.take m=(l.take j).filter (fun x=>!p x)∧s.1.drop j=l.drop j)
   (fun s=>l.length - s.2.2.toNat) (fun r=>r=l.filter fun x=>!p x) (by
    rintro ⟨s,_,_⟩ ⟨m,j,hs,hlen,hmj,hjl,ht,hd⟩
    dsimp only at hs hlen ht hd
    obtain ⟨rfl,rfl⟩:_∧_:=⟨congrArg (fun z=>z.2.1) hs,congrArg (fun z=>z.2.2) hs⟩
    clear hs
    unfold delStep
    dsimp only
    rcases Nat.lt_or_ge j l.length with hj | hj
    ·have hx:s[j]?=some l[j]:=by
      have:=congrArg (fun q=>q[0]?) hd
      simpa [List.getElem?_drop,List.getElem?_eq_getElem hj] using this
     have hlx:l[j]?=some l[j]:=List.getElem?_eq_getElem hj
     generalize l[j]=x at hx hlx
     have hd':s.drop (j+1)=l.drop (j+1):=by
      have:=congrArg List.tail hd
      simpa [List.tail_drop] using this
     left
     simp only [hlen,lt_dec hj,cond_true,idx_nat,hx,Option.bind_some,wrap_succ (show j < 9223372036854775807 by omega)]
     cases hpx:p x with
     | true =>
      refine ⟨_,rfl,⟨m,j+1,rfl,hlen,by omega,by omega,?_,hd'⟩,by dsimp only;simp only [Int.toNat_natCast];omega⟩
      dsimp only
      rw [take_succD hlx,List.filter_append,ht];simp [hpx]
     | false =>
      have hm:s[m]?=some s[m]:=List.getElem?_eq_getElem (by omega)
      simp only [Bool.not_false,cond_true,hm,Option.bind_some,Int.toNat_natCast,wrap_succ (show m < 9223372036854775807 by omega)]
      refine ⟨_,rfl,⟨m+1,j+1,rfl,by simp [hlen],by omega,by omega,?_,?_⟩,by dsimp only;simp only [Int.toNat_natCast];omega⟩
      ·dsimp only
       rw [take_succD hlx,List.filter_append,← ht,take_succD (x:=x) (by rw [List.getElem?_set_self (by omega)]),List.take_set_of_le (Nat.le_refl _)]
       simp [hpx]
      ·dsimp only
       rw [List.drop_set_of_lt (by omega),hd']
    ·right
     have hj':j=l.length:=by omega
     subst hj'
     have hml:m < s.length:=by omega
     have e1:slcP s (m:Int) (l.length:Int)=some ((s.drop m).take (l.length - m)):=by
      unfold slcP;rw [if_pos ⟨by omega,by omega,by omega⟩];simp
     simp only [hlen,ge_dec,cond_false,e1,Option.bind_some]
     have e2:chkP (decide ((m:Int) < (l.length:Int)))=some ():=by unfold chkP;rw [if_pos (by simp;omega)]
     have e3:slcP (clrD s (m:Int) (l.length:Int) z) 0 (m:Int)=some (s.take m):=by
      have hc:(clrD s (m:Int) (l.length:Int) z).length=l.length:=by
       unfold clrD;simp;omega
      unfold slcP;rw [if_pos ⟨by omega,by omega,by omega⟩]
      unfold clrD
      simp [List.take_append_of_le_length,hlen,Nat.min_eq_left (Nat.le_of_lt hmj)]
     rw [e2,Option.bind_some,e3]
     exact ⟨_,rfl,by rw [ht,List.take_length]⟩)
   (l,(i:Int),((i+1:Nat):Int)) (by
    refine ⟨i,i+1,rfl,rfl,by omega,by omega,?_,rfl⟩
    dsimp only
    rw [take_succD (List.getElem?_eq_getElem hil),List.filter_append,List.filter_eq_self.2]
    ·simp [hpi]
    ·intro x hx
     obtain ⟨q,hq⟩:=List.getElem?_of_mem hx
     have hql:=(List.getElem?_eq_some_iff.1 hq).1
     rw [List.length_take] at hql
     rw [List.getElem?_take_of_lt (by omega)] at hq
     have:=hlt q (by omega)
     obtain ⟨h1,h2⟩:=List.getElem?_eq_some_iff.1 hq
     rw [h2] at this
     simp [this])
  rw [hr,hq]
end Go.Proofs.SL
