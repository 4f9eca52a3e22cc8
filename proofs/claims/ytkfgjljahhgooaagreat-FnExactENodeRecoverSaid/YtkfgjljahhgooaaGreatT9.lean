/- The texts of the proof, part 9: the base, walks of functions, plain Lean. -/
import Derived.OrdersHeld
import Derived.Test.YtkfgjljahhgooaaGreatT8
import Derived.Test.YtkfgjljahhgooaaGreatT5
namespace Go.Proofs.SL
open Go
variable {Γ:Cx} {l l':Envl} {M M' M1 M2 F A:List HP} {Qp:Post} {K:Kont} {w0 w:World} {S0:List Nat}
variable {ops:Array Oper} {fuel:Nat} {listed:Array Bool} {i d:Nat} {o:Oper}
theorem wp_put {P:Program} {a:Act} {next:Act→World→Prop} {Q1 Q2:Exit→Act→World→Prop} (h1:∀ e a w,e≠.normal→¬ Q1 e a w) (hd:∀ a w,next a w→a.defers=[])
  (h:o.wp P a w next Q1):o.wp P a w (fun a' w'=>(∃ u,a'=a.put o.dst u)∧next a' w') Q2:=by
 unfold Oper.wp at h ⊢
 generalize (execOp a.eval o).run P w=r at h ⊢
 cases r with
 | ok n w' =>
  cases n<;>simp only [Oper.upon] at h ⊢
  case value u=>exact ⟨⟨u,rfl⟩,h⟩
  case skip=>exact ⟨⟨_,rfl⟩,h⟩
  case defer df =>
   have:=hd _ _ h
   cases hh:o.dst<;>simp [Act.put,hh] at this
  case enter f args =>
   refine Calls.mono h fun e w'' he=>?_
   cases e with
   | returned u=>exact ⟨⟨u,rfl⟩,he⟩
   | panicked c=>exact (h1 _ _ _ (by simp) he).elim
   | outgrown =>
    obtain ⟨a,w,hq⟩:=he
    exact (h1 _ _ _ (by simp) hq).elim
  case row row args=>exact Rows.mono h fun u w'' he=>⟨⟨u,rfl⟩,he⟩
 | halt x w' =>
  cases x<;>simp only [Oper.upon] at h ⊢
  case panic v=>exact (h1 _ _ _ (by simp) h).elim
theorem L_one (h:L Γ [o] l M K) (hg:o.guard=none) {a:Act} (ha:Env a Γ.n l) (hw:Holds Γ.w0 Γ.S0 M w) {Q2:Exit→Act→World→Prop} :
  o.wp Γ.P a w (fun a' w'=>(∃ u,a'=a.put o.dst u)∧∃ l' M',Env a' Γ.n l'∧Holds Γ.w0 Γ.S0 M' w'∧K l' M') Q2:=by
 have h1:=h #[] a w (fun e a' w'=>e=.normal∧∃ l' M',Env a' Γ.n l'∧Holds Γ.w0 Γ.S0 M' w'∧K l' M') ha hw (fun a' w' l' M' q1 q2 q3=>⟨rfl,l',M',q1,q2,q3⟩)
 unfold wpList at h1
 simp only [Region.wanted,hg,if_true] at h1
 rcases h1 with h1 | ⟨_,a,w,h1⟩
 ·refine Oper.wp_mono (fun a' w' h2=>⟨h2.1,h2.2.2⟩) (wp_put (fun e a w he hq=>he hq.1) (fun a w hq=>?_) h1)
  obtain ⟨_,l',M',h3,_⟩:=hq
  exact h3.defers
 ·cases h1.1
def AllIn:List HP→List HP→Prop
 | [],_=>True
 | h::hs,M=>h∈M∧AllIn hs M
theorem AllIn.mem:∀ {A M:List HP},AllIn A M→∀ x,x∈A→x∈M
 | _::_,_,h,x,hx=>by
  rcases List.mem_cons.1 hx with rfl | hx
  ·exact h.1
  ·exact AllIn.mem h.2 x hx
theorem AllIn.of_mem:∀ {A M:List HP},(∀ x,x∈A→x∈M)→AllIn A M
 | [],_,_=>trivial
 | _::_,_,h=>⟨h _ (List.mem_cons_self ..),AllIn.of_mem fun x hx=>h x (List.mem_cons_of_mem _ hx)⟩
structure Pu (Γ:Cx) (A:List HP) (l:Envl) (o:Oper) (d:Nat) (v:Value):Prop where
 dst:o.dst=some d
 lt:d < Γ.n
 gd:o.guard=none
 pu:∀ a w,Env a Γ.n l→Sees Γ.w0 Γ.S0 A w→(execOp a.eval o).run Γ.P w=.ok (.value v) w
def AH (Γ:Cx) (ops:Array Oper) (A:List HP) (Qp:Post) (fuel:Nat) (listed:Array Bool) (l:Envl) (M:List HP):Prop :=
 ∀ a w,Env a Γ.n l→Holds Γ.w0 Γ.S0 M w→wpAnyH Γ.P .any ops (liftQ Γ Qp) (Sees Γ.w0 Γ.S0 A) fuel listed a w
theorem W_AH (A:List HP) {id:Nat} (hm:Γ.P.follows .mixedOrders=true) (h:AH Γ ops A Qp ops.size (Array.replicate ops.size false) l M):W Γ (.region id ops true) l M Qp:=fun a w ha hw =>
 wp_region_held hm (h a w.drew ha hw.drew)
theorem AH_done (hr:Region.ready .any ops listed=[]) (h:Qp .normal l M):AH Γ ops A Qp fuel listed l M:=fun _ _ ha hw=>wpAnyH_done hr ⟨l,M,ha,hw,h⟩ fuel
theorem AH_take {v:Value} (i:Nat) (hi:ops[i]?=some o) (hp:Pu Γ A l o d v) (hs:Region.noSelect ops=true) (hf:Region.free .any ops listed i=true) (hr:(Region.ready .any ops listed).contains i=true)
  (hA:AllIn A M) (hk:AH Γ ops A Qp fuel (listed.setIfInBounds i true) ((d,v)::l) M):AH Γ ops A Qp (fuel+1) listed l M:=fun a w ha hw =>
 wpAnyH_take hi hs hf hr (fun _ _ _ h=>h) (.inl ⟨by simp [Region.wanted,hp.gd],fun w hw=>hp.pu a w ha hw⟩) (hw.seesSub hA.mem) (hk _ w (by rw [hp.dst];exact ha.put hp.lt) hw)
theorem drop_get {α:Type} {xs:Array α} {i:Nat} {o:α} {rest:List α} (h:xs.toList.drop i=o::rest):xs[i]?=some o:=by
 rw [← Array.getElem?_toList]
 have:=congrArg (fun l=>l[0]?) h
 simpa [List.getElem?_drop] using this
theorem AH_one (i:Nat) {rest':List Oper} (hi:ops.toList.drop i=o::rest') (hg:o.guard=none) (hr:Region.ready .any ops listed=[i])
  (h:L Γ [o] l M (fun l' M'=>AllIn A M'∧AH Γ ops A Qp fuel (listed.setIfInBounds i true) l' M')):AH Γ ops A Qp (fuel+1) listed l M:=fun a w ha hw =>
 wpAnyH_all hr (by simp) fun j hj=>by
  rw [List.mem_singleton.1 hj]
  unfold wpOp
  rw [drop_get hi]
  simp only [Region.wanted,hg,if_true]
  refine .inl (Oper.wp_mono (fun a' w' h1=>?_) (L_one h hg ha hw))
  obtain ⟨_,l',M',h1,h2,h3,h4⟩:=h1
  exact ⟨h2.seesSub h3.mem,h4 a' w' h1 h2⟩
def emH:HP:=⟨[],fun _=>True,fun _ _ _ h=>h⟩
theorem Holds.em (h:Holds w0 S0 M w):Holds w0 S0 (emH::M) w:=h.reFp (List.Perm.of_eq (by rw [fps_cons];rfl)) fun x hx=>by
 rcases List.mem_cons.1 hx with rfl | hx
 ·trivial
 ·exact h.prs x hx
def AP (Γ:Cx) (ops:Array Oper) (A:List HP) (Qp:Post) (al da:Nat) (z:List Value) (T:TypeId) (fuel:Nat) (listed:Array Bool) (l:Envl) (M:List HP):Prop :=
 AH Γ ops A Qp (fuel+1) listed l M∧∀ b,AH Γ ops A Qp fuel (listed.setIfInBounds al true) ((da,.pointer (some ⟨b,0,none⟩))::l) (blk b z T::M)
theorem sub_new {da:Nat} {v:Value} (h:l.lookup da=none):Sub l ((da,v)::l):=fun t u ht=>by
 rw [List.lookup_cons]
 cases hb:t == da with
 | true =>
  have:t=da:=by simpa using hb
  subst this;rw [h] at ht;cases ht
 | false=>exact ht
variable {al da:Nat} {z:List Value} {T:TypeId}
theorem W_AP (A:List HP) (al da:Nat) (z:List Value) (T:TypeId) (n:Nat) {id:Nat} (hm:Γ.P.follows .mixedOrders=true) (hn:ops.size=n+1) (h:AP Γ ops A Qp al da z T n (Array.replicate (n+1) false) l M):W Γ (.region id ops true) l M Qp :=
 W_AH A hm (by rw [hn];exact h.1)
theorem AP_take {v:Value} (i:Nat) (hi:ops[i]?=some o) (hp:Pu Γ A l o d v) (hs:Region.noSelect ops=true) (hf:Region.free .any ops listed i=true) (hr:(Region.ready .any ops listed).contains i=true)
  (hf2:Region.free .any ops (listed.setIfInBounds al true) i=true) (hr2:(Region.ready .any ops (listed.setIfInBounds al true)).contains i=true) (hda:l.lookup da=none) (hne:Nat.beq d da=false) (hia:Nat.beq i al=false)
  (hA:AllIn A M) (hk:AP Γ ops A Qp al da z T fuel (listed.setIfInBounds i true) ((d,v)::l) M):AP Γ ops A Qp al da z T (fuel+1) listed l M:=by
 have hne':d≠da:=fun e=>by subst e;rw [Nat.beq_refl] at hne;cases hne
 have hia':i≠al:=fun e=>by subst e;rw [Nat.beq_refl] at hia;cases hia
 refine ⟨AH_take i hi hp hs hf hr hA hk.1,fun b=>?_⟩
 refine AH_take i hi (v:=v) (d:=d) ⟨hp.dst,hp.lt,hp.gd,fun a w ha hw=>hp.pu a w (ha.sub (sub_new hda)) hw⟩ hs hf2 hr2 (AllIn.of_mem fun x hx=>List.mem_cons_of_mem _ (hA.mem x hx)) ?_
 rw [Array.setIfInBounds_comm _ _ (Ne.symm hia')]
 intro a w ha hw
 refine hk.2 b a w (ha.sub fun t u ht=>?_) hw
 simp only [List.lookup_cons] at ht ⊢
 cases h1:t == da with
 | true =>
  have:t=da:=by simpa using h1
  subst this
  rw [h1] at ht
  cases h2:t == d with
  | true=>exact (hne' (by simpa using h2:t=d).symm).elim
  | false=>exact ht
 | false=>rw [h1] at ht;exact ht
theorem AP_step (i:Nat) {rest':List Oper} (hi0:ops.toList.drop i=o::rest') (hg:o.guard=none) (hr1:Region.ready .any ops listed=[i,al]∨Region.ready .any ops listed=[al,i]) (hr2:Region.ready .any ops (listed.setIfInBounds al true)=[i])
  (hia:Nat.beq i al=false) (hdst:(o.dst == some da)=false) (hda:l.lookup da=none) {oal:Oper} (hoa:ops[al]?=some oal) (hga:oal.guard=none)
  (hal:∀ l M,L Γ [oal] l M (fun l' M'=>∃ b,l'=(da,.pointer (some ⟨b,0,none⟩))::l∧M'=blk b z T::M)) (hA:AllIn A M)
  (h:∀ X,L Γ [o] l (X::M) (fun l' M'=>∃ M1,Pick X M' M1∧AllIn A M1∧l'.lookup da=none∧AP Γ ops A Qp al da z T fuel (listed.setIfInBounds i true) l' M1)) :
  AP Γ ops A Qp al da z T (fuel+1) listed l M:=by
 have hi:=drop_get hi0
 have hia':i≠al:=fun e=>by subst e;rw [Nat.beq_refl] at hia;cases hia
 have two:∀ b,AH Γ ops A Qp (fuel+1) (listed.setIfInBounds al true) ((da,.pointer (some ⟨b,0,none⟩))::l) (blk b z T::M):=fun b a w ha hw =>
  wpAnyH_all hr2 (by simp) fun j hj=>by
   rw [List.mem_singleton.1 hj]
   unfold wpOp
   rw [hi]
   simp only [Region.wanted,hg,if_true]
   refine .inl (Oper.wp_mono (fun a' w' h1=>?_) (L_one (h (blk b z T)) hg (ha.sub (sub_new hda)) hw))
   obtain ⟨⟨u,rfl⟩,l',M',h1,h2,M1,h3,h4,h5,h6⟩:=h1
   have h7:=h2.perm h3.perm
   refine ⟨h7.seesSub fun x hx=>List.mem_cons_of_mem _ (h4.mem x hx),?_⟩
   rw [Array.setIfInBounds_comm _ _ (Ne.symm hia')]
   refine h6.2 b _ w' ⟨h1.size,h1.defers,fun t v ht=>?_⟩ h7
   rw [List.lookup_cons] at ht
   cases hb:t == da with
   | true =>
    have:t=da:=by simpa using hb
    subst this
    rw [hb] at ht
    cases ht
    have h8:=ha.get t (.pointer (some ⟨b,0,none⟩)) (by simp [List.lookup_cons])
    cases hd:o.dst with
    | none=>exact h8
    | some d =>
     have hne:d≠t:=fun e=>by subst e;rw [hd] at hdst;simp at hdst
     simp only [Act.put]
     rw [Array.getElem?_setIfInBounds_ne hne]
     exact h8
   | false=>rw [hb] at ht;exact h1.get t v ht
 have one:∀ a w,Env a Γ.n l→Holds Γ.w0 Γ.S0 M w→∀ j,j=i∨j=al→wpOp Γ.P ops (liftQ Γ Qp) j (fun a' w'=>Sees Γ.w0 Γ.S0 A w'∧wpAnyH Γ.P .any ops (liftQ Γ Qp) (Sees Γ.w0 Γ.S0 A) (fuel+1) (listed.setIfInBounds j true) a' w') a w:=fun a w ha hw j hj=>by
  rcases hj with rfl | rfl
  ·unfold wpOp
   rw [hi]
   simp only [Region.wanted,hg,if_true]
   refine .inl (Oper.wp_mono (fun a' w' h1=>?_) (L_one (h emH) hg ha hw.em))
   obtain ⟨_,l',M',h1,h2,M1,h3,h4,h5,h6⟩:=h1
   have h7:=(h2.perm h3.perm).sub (M':=M1) ⟨[emH],List.perm_append_comm (l₁:=[emH])⟩
   exact ⟨h7.seesSub h4.mem,h6.1 a' w' h1 h7⟩
  ·unfold wpOp
   rw [hoa]
   simp only [Region.wanted,hga,if_true]
   refine .inl (Oper.wp_mono (fun a' w' h1=>?_) (L_one (hal l M) hga ha hw))
   obtain ⟨_,l',M',h1,h2,b,rfl,rfl⟩:=h1
   exact ⟨h2.seesSub fun x hx=>List.mem_cons_of_mem _ (hA.mem x hx),two b a' w' h1 h2⟩
 refine ⟨fun a w ha hw=>?_,two⟩
 rcases hr1 with hr | hr
 ·exact wpAnyH_all hr (by simp) fun j hj=>one a w ha hw j (by simpa using hj)
 ·exact wpAnyH_all hr (by simp) fun j hj=>one a w ha hw j ((by simpa using hj:j=al∨j=i).symm)
theorem AP_end (hr:Region.ready .any ops listed=[al]) {oal:Oper} {rest':List Oper} (hoa:ops.toList.drop al=oal::rest') (hga:oal.guard=none)
  (hal:∀ l M,L Γ [oal] l M (fun l' M'=>∃ b,l'=(da,.pointer (some ⟨b,0,none⟩))::l∧M'=blk b z T::M)) (hA:AllIn A M)
  (h:∀ b,AH Γ ops A Qp fuel (listed.setIfInBounds al true) ((da,.pointer (some ⟨b,0,none⟩))::l) (blk b z T::M)):AP Γ ops A Qp al da z T fuel listed l M :=
 ⟨AH_one al hoa hga hr fun ops' a w Q ha hw hq=>hal l M ops' a w Q ha hw fun a' w' l' M' h1 h2 ⟨b,h3,h4⟩=>hq a' w' l' M' h1 h2 (by
  subst h3;subst h4
  exact ⟨AllIn.of_mem fun x hx=>List.mem_cons_of_mem _ (hA.mem x hx),h b⟩),h⟩
section
variable {ty:TypeId} {pos:String} {af:Array Edge} {P:Program}
theorem PU_pure {op:Op} {v:Value} (hn:Nat.blt d Γ.n=true) (he:∀ a w,Env a Γ.n l→Sees Γ.w0 Γ.S0 A w→(execOp a.eval { dst:=some d,op,type:=ty,pos,after:=af,guard:=none }).run Γ.P w=.ok (.value v) w) :
  Pu Γ A l { dst:=some d,op,type:=ty,pos,after:=af,guard:=none } d v:=⟨rfl,Nat.le_of_ble_eq_true hn,rfl,he⟩
theorem PU_move {x:Operand} {v:Value} (hn:Nat.blt d Γ.n=true) (hx:ev l x=some v):Pu Γ A l { dst:=some d,op:=.move x,type:=ty,pos,after:=af,guard:=none } d v :=
 PU_pure hn fun a w ha _=>by simp [execOp,ha.eval hx]
theorem PU_extract {x:Operand} {i:Nat} {vs:Array Value} {v:Value} (hn:Nat.blt d Γ.n=true) (hx:ev l x=some (.tuple vs)) (hv:vs[i]?=some v) :
  Pu Γ A l { dst:=some d,op:=.extract x i,type:=ty,pos,after:=af,guard:=none } d v :=
 PU_pure hn fun a w ha _=>by simp [execOp,ha.eval hx,Instr.extract,hv]
theorem PU_loadW {x:Operand} {T g off:Nat} {cs:List Value} (hn:Nat.blt d Γ.n=true) (hx:ev l x=some (.pointer (some ⟨g,off,none⟩))) (hc:RdC Γ A g off cs) (ht:aggOf Γ.P T=some cs.length) :
  Pu Γ A l { dst:=some d,op:=.load T x,type:=ty,pos:=pos,after:=af,guard:=none } d (.agg cs.toArray) :=
 PU_pure hn fun a' w ha hw=>by
  have hl:=run_loadCells_at (P:=Γ.P) (hc w hw)
  simp [execOp,ha.eval hx,Instr.loadAt,Instr.sureAddr,loadVar,run_isAgg_agg ht,hl]
section
variable {τ δ:Type} [GT τ δ]
end
end
theorem wpAnyH_S {P:Program} {Q:Exit→Act→World→Prop} {S S':World→Prop} (hs:∀ w,S' w→S w):∀ (fuel:Nat) (listed:Array Bool) (a:Act) (w:World),wpAnyH P .any ops Q S' fuel listed a w→wpAnyH P .any ops Q S fuel listed a w
 | 0,_,_,_,h=>h
 | fuel+1,_,_,_,h=>⟨h.1,fun i hi=>wpOp_mono (fun a' w' h'=>⟨hs _ h'.1,wpAnyH_S hs fuel _ a' w' h'.2⟩) (h.2 i hi)⟩
theorem AH_A (A':List HP) (hs:AllIn A A') (h:AH Γ ops A' Qp fuel listed l M):AH Γ ops A Qp fuel listed l M:=fun a w ha hw =>
 wpAnyH_S (fun w h=>⟨h.old,fun x hx=>h.prs x (hs.mem x hx)⟩) _ _ _ _ (h a w ha hw)
theorem AP_A (A':List HP) (hs:AllIn A A') (h:AP Γ ops A' Qp al da z T fuel listed l M):AP Γ ops A Qp al da z T fuel listed l M:=⟨AH_A A' hs h.1,fun b=>AH_A A' hs (h.2 b)⟩
end Go.Proofs.SL
namespace Go.Proofs.SL
open Go
variable {Γ:Cx} {l:Envl} {M M' M1 M2 F Mr:List HP} {Q:Post} {K:Kont} {w0 w:World} {S0 S:List Nat} {P:Program}
variable {rest:List Oper} {d:Nat} {ty:TypeId} {pos:String} {af:Array Edge}
structure EL (τ:Type) where
 els:List τ
instance {τ δ:Type} [GT τ δ]:GT (EL τ) Unit where
 sz:=1
 pos:=by decide
 cells _:=[.bool false]
 len _:=rfl
 one _ v hv:=by simp at hv;subst hv;rfl
 rd w S t:=∀ x,x∈t.els→GT.rd w S x
 fp _:=[]
 ow _ _:=False
 dat _:=()
 rd_mono h hm:=fun x hx=>GT.rd_mono (h x hx) hm
 ow_st _ h:=h
 ow_rd h _:=h.elim
def frz {α τ δ ε:Type} [GT α δ] [GT τ ε] (B:List Nat) (a:α) (x:τ):HP where
 fp:=B
 pr w:=∀ (w':World) (S:List Nat),(∀ k,k∈B→w'.heap[k]?=w.heap[k]?)→(∀ k,k∈B→k ∉ S)→GT.rd w' S a→GT.rd w' S x
 st w w' h hp:=fun w2 S h2 hs ha=>hp w2 S (fun k hk=>(h2 k hk).trans (h k hk)) hs ha
section
variable {τ δ:Type} [GT τ δ] {t:τ}
theorem row_rd {X:TL τ} (hr:(rowH X).pr w) (he:∀ x,x∈X.els→GT.rd w S x) (hs:∀ k,k∈(rowH X).fp→k ∉ S):GT.rd w S X :=
 ⟨hr.1,hr.2.1,he,fun ha=>(hr.2.2.1 ha).1,fun a ha=>by
  obtain ⟨h1,h2,h3,h4⟩:=hr.2.2.2 a ha
  refine ⟨fun _=>h1,fun j v hv=>⟨?_,hs a.block (by simp [rowH,ha])⟩⟩
  rw [cell_of_row _ _ _ _ _ _ h3,h2,Nat.zero_add]
  simp only [List.getElem?_toArray]
  rw [List.getElem?_append_left (List.getElem?_eq_some_iff.1 hv).1]
  exact hv⟩
theorem no_fp (hw:Holds w0 S0 (M1++M2) w) {h:HP} (hm:h∈M2):∀ k,k∈h.fp→k ∉ fps M1:=fun k hk hk1=>by
 have hnd:=hw.nodup
 rw [fps_append] at hnd
 exact (List.nodup_append.1 hnd).2.2 k hk1 k (List.mem_flatMap.2 ⟨_,hm,hk⟩) rfl
theorem RdT.frz {α ε:Type} [GT α ε] {B:List Nat} {a:α} (h:frz B a t∈M) (ha:RdT Γ M a):RdT Γ M t:=fun w hw=>hw.prs _ h w [] (fun _ _=>rfl) (fun _ _ h=>by cases h) (ha w hw)
theorem RdT.rowE {X:TL τ} (h:rowH X∈M) (he:RdT Γ M (EL.mk X.els)):RdT Γ M X:=fun w hw=>row_rd (hw.prs _ h) (he w hw) (fun _ _ h=>by cases h)
theorem RdT.els {xs:List τ} (h:elsT xs∈M):RdT Γ M (EL.mk xs):=fun w hw x hx=>GT.ow_rd (hw.prs _ h x hx) fun _ _ h=>by cases h
theorem RdX.frz {α ε:Type} [GT α ε] {B:List Nat} {a:α} (h:SL.frz B a t∈M2) (ha:RdX Γ M1 M2 a):RdX Γ M1 M2 t:=fun w hw=>hw.prs _ (List.mem_append_right _ h) w _ (fun _ _=>rfl) (no_fp hw h) (ha w hw)
theorem RdX.rowE {X:TL τ} (h:rowH X∈M2) (he:RdX Γ M1 M2 (EL.mk X.els)):RdX Γ M1 M2 X:=fun w hw=>row_rd (hw.prs _ (List.mem_append_right _ h)) (he w hw) (no_fp hw h)
theorem RdX.els {xs:List τ} (h:elsT xs∈M2):RdX Γ M1 M2 (EL.mk xs):=fun w hw x hx=>GT.ow_rd (hw.prs _ (List.mem_append_right _ h) x hx) fun k hk=>no_fp hw h k (List.mem_flatMap.2 ⟨x,hx,hk⟩)
theorem el_app {xs ys:List τ} (w:World) (S:List Nat) (h1:GT.rd w S (EL.mk xs)) (h2:GT.rd w S (EL.mk ys)):GT.rd w S (EL.mk (xs++ys)):=fun y hy=>by
 rcases List.mem_append.1 hy with h | h
 ·exact h1 y h
 ·exact h2 y h
end
structure PC (Mr:List HP) (w:World) (S:List Nat):Prop where
 prs:∀ h,h∈Mr→h.pr w
 ds:∀ k,k∈fps Mr→k ∉ S
theorem PC.fp (h:PC Mr w S) {x:HP} (hm:x∈Mr):∀ k,k∈x.fp→k ∉ S:=fun k hk=>h.ds k (List.mem_flatMap.2 ⟨x,hm,hk⟩)
def RdP {τ δ:Type} [GT τ δ] (Mr:List HP) (w:World) (S:List Nat) (t:τ):Prop:=PC Mr w S→GT.rd w S t
section
variable {τ δ:Type} [GT τ δ] {t:τ}
theorem RdP.old (h:GT.rd w S t):RdP Mr w S t:=fun _=>h
theorem RdP.tree (h:treeH t∈Mr):RdP Mr w S t:=fun hp=>GT.ow_rd (hp.prs _ h) (hp.fp h)
theorem RdP.fst {α β δ ε:Type} [GT α δ] [GT β ε] {t:α×β} (h:RdP Mr w S t):RdP Mr w S t.1:=fun hp=>(h hp).1
theorem RdP.snd {α β δ ε:Type} [GT α δ] [GT β ε] {t:α×β} (h:RdP Mr w S t):RdP Mr w S t.2:=fun hp=>(h hp).2
theorem RdP.of {X:TL τ} {j:Nat} {x:τ} (h:RdP Mr w S X) (hi:X.els[j]?=some x):RdP Mr w S x:=fun hp=>(h hp).2.2.1 x (List.mem_of_getElem? hi)
theorem RdP.pair {α β δ ε:Type} [GT α δ] [GT β ε] {a:α} {b:β} (h1:RdP Mr w S a) (h2:RdP Mr w S b):RdP Mr w S (a,b):=fun hp=>⟨h1 hp,h2 hp⟩
theorem RdP.int {n:Int}:RdP Mr w S n:=fun _=>trivial
theorem RdP.bool {n:Bool}:RdP Mr w S n:=fun _=>trivial
theorem RdP.str {n:ByteArray}:RdP Mr w S n:=fun _=>trivial
theorem RdP.u8 {n:UInt8}:RdP Mr w S n:=fun _=>trivial
theorem RdP.nil (e:TypeId):RdP Mr w S (TL.nil τ e):=fun _=>nil_rd e
theorem RdP.map {α δ':Type} [GT α δ'] {a:α} (f:∀ w S,GT.rd w S a→GT.rd w S t) (h:RdP Mr w S a):RdP Mr w S t:=fun hp=>f w _ (h hp)
theorem RdP.frz {α ε:Type} [GT α ε] {B:List Nat} {a:α} (h:SL.frz B a t∈Mr) (ha:RdP Mr w S a):RdP Mr w S t:=fun hp=>hp.prs _ h w S (fun _ _=>rfl) (hp.fp h) (ha hp)
theorem RdP.rowE {X:TL τ} (h:rowH X∈Mr) (he:RdP Mr w S (EL.mk X.els)):RdP Mr w S X:=fun hp=>row_rd (hp.prs _ h) (he hp) (hp.fp h)
theorem RdP.els {xs:List τ} (h:elsT xs∈Mr):RdP Mr w S (EL.mk xs):=fun hp x hx=>GT.ow_rd (hp.prs _ h x hx) fun k hk=>hp.fp h k (List.mem_flatMap.2 ⟨x,hx,hk⟩)
end
theorem pack {α τ δ ε:Type} [GT α δ] [GT τ ε] {a:α} {x:τ} (Mr:List HP) (hp:List.Perm M (Mr++M2)) (he:∀ w S,GT.rd w S a→RdP Mr w S x) (h:Holds w0 S0 M w):Holds w0 S0 (frz (fps Mr) a x::M2) w:=by
 have h1:=h.perm hp
 refine h1.reFp (List.Perm.of_eq ?_) fun y hy=>?_
 ·rw [fps_append,fps_cons];rfl
 ·rcases List.mem_cons.1 hy with rfl | hy
  ·intro w' S hag hds ha
   exact he w' S ha ⟨fun z hz=>z.st w w' (fun k hk=>hag k (List.mem_flatMap.2 ⟨z,hz,hk⟩)) (h1.prs z (List.mem_append_left _ hz)),hds⟩
  ·exact h1.prs y (List.mem_append_right _ hy)
section
variable {τ δ:Type} [GT τ δ] [FlatT τ]
end
section
variable {τ δ:Type} [GT τ δ]
end
section
variable {τ δ:Type} [GT τ δ] [FlatT τ]
end
section
variable {τ δ:Type} [GT τ δ]
end
section
variable {τ δ:Type} [GT τ δ]
end
section
variable {τ δ:Type} [GT τ δ] [FlatT τ]
end
section
variable {τ δ:Type} [GT τ δ]
theorem L_stR {x y:Operand} {T:TypeId} {X:TL τ} {i:Nat} {u v:τ} {M':List HP} (hx:ev l x=some (.pointer (some ⟨X.g,X.o+i*GT.sz τ,none⟩))) (hy:ev l y=some (.agg (GT.cells v).toArray))
  (hp:Pick (rowH X) M M') (hi:X.els[i]?=some u) (ht:aggOf Γ.P T=some (GT.sz τ)) (hk:∀ X':TL τ,X'.els=X.els.set i v→X'.hdr=X.hdr→GT.dat X'=(GT.dat X).set i (GT.dat v)→L Γ rest l (rowH X'::M') K) :
  L Γ ({ dst:=none,op:=.store T x y,type:=ty,pos:=pos,after:=af,guard:=none }::rest) l M K:=by
 refine L_skip rfl rfl (fun a w ha hw=>?_) (hk { X with els:=X.els.set i v } rfl (by simp [TL.hdr]) (by simp [dat_els,List.map_set]))
 have hw':=hw.perm hp.perm
 have hr:=hw'.prs (rowH X) (List.mem_cons_self ..)
 have hlt:=(List.getElem?_eq_some_iff.1 hi).1
 have hA:X.a=some ⟨X.g,0,none⟩∧X.o=0:=by
  cases ha:X.a with
  | none=>have:=(hr.2.2.1 ha).1;rw [this] at hlt;simp at hlt
  | some a =>
   obtain ⟨h1,h2,h3,h4⟩:=hr.2.2.2 a ha
   obtain ⟨b,o,s⟩:=a
   have h1:s=none:=h1
   have h2:o=0:=h2
   subst h1;subst h2
   exact ⟨by simp [TL.g,ha],by simp [TL.o,ha]⟩
 obtain ⟨w',h1,h2⟩:=store_el (P:=Γ.P) (fo:=0) (x':=v) (vs:=GT.cells v) hw' hA.1 hi (by rw [List.take_zero,List.nil_append,Nat.zero_add,GT.len,← GT.len u,List.drop_length,List.append_nil]) (fun z hz=>GT.one _ z hz) (by rw [GT.len];omega)
 refine ⟨w',?_,h2⟩
 have e1:=ha.eval hx
 have e2:=ha.eval hy
 rw [hA.2] at e1
 have h1':(storeCells ⟨X.g,0+i*GT.sz τ,none⟩ (GT.cells v)).run Γ.P w=.ok () w':=h1
 rw [Nat.zero_add] at h1' e1
 simp [execOp,e1,e2,Instr.storeAt,Instr.sureAddr,storeVar,run_isAgg_agg ht,Value.cells,GT.len,h1']
end
end Go.Proofs.SL
namespace Go.Proofs.SL
open Go
variable {Γ:Cx} {l l':Envl} {M M' M1 M2 F A:List HP} {Qp:Post} {K:Kont} {w0 w:World} {S0:List Nat}
variable {ops:Array Oper} {fuel:Nat} {listed:Array Bool} {i d:Nat} {o:Oper}
theorem g_of_hdr {τ:Type} {X Y:TL τ} (h:Y.hdr=X.hdr):Y.g=X.g:=by
 unfold TL.hdr at h;injection h with h1 h2 h3
 unfold TL.g;rw [h1]
theorem o_of_hdr {τ:Type} {X Y:TL τ} (h:Y.hdr=X.hdr):Y.o=X.o:=by
 unfold TL.hdr at h;injection h with h1 h2 h3
 unfold TL.o;rw [h1]
def Closed (ops:Array Oper) (listed:Array Bool):Prop:=∀ k o,ops[k]?=some o→listed.getD k false=true→∀ e,e∈o.after→Region.binds .any e=true→listed.getD e.on false=true
theorem Closed.set (hc:Closed ops listed) {j:Nat} (hj:j∈Region.ready .any ops listed):Closed ops (listed.setIfInBounds j true):=fun k o hk hl e he hb=>by
 by_cases h:j=k
 ·subst h
  obtain ⟨_,o',ho',hall⟩:=mem_ready.1 hj
  rw [hk] at ho';cases ho'
  exact getD_set_true (hall e he hb)
 ·rw [getD_set_ne false h] at hl
  exact getD_set_true (hc k o hk hl e he hb)
variable {last:Nat}
section
variable {ty:TypeId} {pos:String} {af:Array Edge}
end
end Go.Proofs.SL
namespace Go.Proofs.SL
open Go
variable {Γ:Cx} {rest:List Oper} {d:Nat} {ty:TypeId} {pos:String} {af:Array Edge} {gd:Option (Nat×Bool)}
variable {ops:Array Oper} {Msh pool:List HP} {E:Fl} {rs:List (Option Nat×Rel)} {cs0:List Nat} {KD:RKont}
end Go.Proofs.SL
namespace Go.Proofs.SL
open Go
variable {Γ:Cx} {l:Envl} {M A:List HP} {K:Kont} {rest:List Oper} {d:Nat} {ty:TypeId} {pos:String} {af:Array Edge}
end Go.Proofs.SL
namespace Go.Proofs.SL
open Go
variable {Γ:Cx} {l:Envl} {M M' M1 M2 F:List HP} {Q:Post} {K:Kont} {w0 w:World} {S0:List Nat}
variable {rest:List Oper} {d:Nat} {ty:TypeId} {pos:String} {af:Array Edge}
section
variable {τ δ:Type} [GT τ δ]
theorem L_app1m {s x:Operand} {T e sz by_ c b:Nat} {z:List Value} {X:TL τ} {T':TypeId} (y:τ) {r:List δ} (hn:Nat.blt d Γ.n=true)
  (hs:ev l s=some X.hdr) (hx:ev l x=some (.slice (some ⟨b,0,none⟩) 1 c)) (ht:elOf Γ.P T=some (e,sz,by_,z)) (hsz:GT.sz τ=sz) (hz:z.length=sz)
  (hp:Pick (treeH X) M M1) (hsrc:blk b (GT.cells y) T'∈M) (hy:Pick (treeH y) M1 M2)
  (hr:appP (GT.dat X) [GT.dat y]=some r) (hb:by_≤32768)
  (hk:∀ X':TL τ,GT.dat X'=r→y∈X'.els→L Γ rest ((d,X'.hdr)::l) (treeH X'::M2) K) :
  L Γ ({ dst:=some d,op:=.call { callee:=.builtin .append,args:=#[s,x],argTypes:=#[T,T] },type:=ty,pos,after:=af,guard:=none }::rest) l M K:=by
 obtain ⟨h1,rfl⟩:=appP_some hr
 refine L_appA (ys:=[y]) hn hs hx ht hsz hz hp rfl (fun w hw j v hv=>?_) (fun w R h=>elsT_one (h.perm (hy.perm.append_right R))) (by simpa [dat_els] using h1) hb
  (fun X' h=>hk X' (by rw [dat_els,h,List.map_append,dat_els];rfl) (by rw [h];simp))
 rw [addr_add]
 exact RdC.blk (Γ:=Γ) hsrc w hw j v (by simpa [rowCells] using hv)
end
section
variable {τ δ:Type} [GT τ δ] [FlatT τ]
end
section
variable {τ δ:Type} [GT τ δ] {t:τ}
theorem RdT.any (h:∀ w S,GT.rd w S t):RdT Γ M t:=fun w _=>h w []
theorem RdO.any (h:∀ w S,GT.rd w S t) {w:World} {S:List Nat}:RdO w S t:=h w S
theorem RdX.any (h:∀ w S,GT.rd w S t):RdX Γ M1 M2 t:=fun w _=>h w _
end
end Go.Proofs.SL
namespace Go.Proofs.SL
open Go
variable {Γ:Cx} {l:Envl} {A:List HP} {rest:List Oper} {d:Nat} {ty:TypeId} {pos:String} {af:Array Edge} {gd:Option (Nat×Bool)}
variable {ops:Array Oper} {Msh pool:List HP} {E:Fl} {rs:List (Option Nat×Rel)} {cs0:List Nat} {KD:RKont}
section
variable {τ δ:Type} [GT τ δ] [FlatT τ]
end
section
variable {τ δ:Type} [GT τ δ]
end
end Go.Proofs.SL
namespace Go.Proofs.SL
open Go
variable {Γ:Cx} {l:Envl} {M M1 A:List HP} {K:Kont} {Q:Post} {rest:List Oper} {d:Nat} {ty:TypeId} {pos:String} {af:Array Edge} {gd:Option (Nat×Bool)} {w0 w:World} {S0:List Nat}
variable {ops:Array Oper} {Msh pool:List HP} {E:Fl} {rs:List (Option Nat×Rel)} {cs0:List Nat} {KD:RKont}
section
variable {τ δ:Type} [GT τ δ]
end
end Go.Proofs.SL
namespace Go.Proofs.SL
open Go
variable {Γ:Cx} {l:Envl} {M M' M1 M2 F Mr:List HP} {Q:Post} {K:Kont} {w0 w:World} {S0 S:List Nat} {P:Program}
variable {rest:List Oper} {d:Nat} {ty:TypeId} {pos:String} {af:Array Edge}
section
variable {τ δ:Type} [GT τ δ] {t:τ}
def subH (xs An:List τ):HP:=⟨[],fun _=>∀ x,x∈xs→x∈An,fun _ _ _ h=>h⟩
theorem RdT.elTL {X:TL τ} (h:RdT Γ M X):RdT Γ M (EL.mk X.els):=fun w hw=>(h w hw).2.2.1
theorem RdX.elTL {X:TL τ} (h:RdX Γ M1 M2 X):RdX Γ M1 M2 (EL.mk X.els):=fun w hw=>(h w hw).2.2.1
theorem RdP.elTL {X:TL τ} (h:RdP Mr w S X):RdP Mr w S (EL.mk X.els):=fun hp=>(h hp).2.2.1
theorem RdO.elTL {X:TL τ} (h:RdO w S X):RdO w S (EL.mk X.els):=h.2.2.1
theorem RdT.elOne (h:RdT Γ M t):RdT Γ M (EL.mk [t]):=fun w hw x hx=>by rw [List.mem_singleton.1 hx];exact h w hw
theorem RdX.elOne (h:RdX Γ M1 M2 t):RdX Γ M1 M2 (EL.mk [t]):=fun w hw x hx=>by rw [List.mem_singleton.1 hx];exact h w hw
theorem RdP.elOne (h:RdP Mr w S t):RdP Mr w S (EL.mk [t]):=fun hp x hx=>by rw [List.mem_singleton.1 hx];exact h hp
theorem RdO.elOne (h:RdO w S t):RdO w S (EL.mk [t]):=fun x hx=>by rw [List.mem_singleton.1 hx];exact h
theorem RdT.elApp {xs ys:List τ} (h1:RdT Γ M (EL.mk xs)) (h2:RdT Γ M (EL.mk ys)):RdT Γ M (EL.mk (xs++ys)):=fun w hw=>el_app _ _ (h1 w hw) (h2 w hw)
theorem RdX.elApp {xs ys:List τ} (h1:RdX Γ M1 M2 (EL.mk xs)) (h2:RdX Γ M1 M2 (EL.mk ys)):RdX Γ M1 M2 (EL.mk (xs++ys)):=fun w hw=>el_app _ _ (h1 w hw) (h2 w hw)
theorem RdP.elApp {xs ys:List τ} (h1:RdP Mr w S (EL.mk xs)) (h2:RdP Mr w S (EL.mk ys)):RdP Mr w S (EL.mk (xs++ys)):=fun hp=>el_app _ _ (h1 hp) (h2 hp)
theorem RdO.elApp {xs ys:List τ} (h1:RdO w S (EL.mk xs)) (h2:RdO w S (EL.mk ys)):RdO w S (EL.mk (xs++ys)):=el_app _ _ h1 h2
theorem RdT.elSub {xs ys:List τ} (hs:∀ x,x∈xs→x∈ys) (h:RdT Γ M (EL.mk ys)):RdT Γ M (EL.mk xs):=fun w hw x hx=>h w hw x (hs x hx)
theorem RdX.elSub {xs ys:List τ} (hs:∀ x,x∈xs→x∈ys) (h:RdX Γ M1 M2 (EL.mk ys)):RdX Γ M1 M2 (EL.mk xs):=fun w hw x hx=>h w hw x (hs x hx)
theorem RdP.elSub {xs ys:List τ} (hs:∀ x,x∈xs→x∈ys) (h:RdP Mr w S (EL.mk ys)):RdP Mr w S (EL.mk xs):=fun hp x hx=>h hp x (hs x hx)
theorem RdO.elSub {xs ys:List τ} (hs:∀ x,x∈xs→x∈ys) (h:RdO w S (EL.mk ys)):RdO w S (EL.mk xs):=fun x hx=>h x (hs x hx)
theorem RdT.subH {xs An:List τ} (h:SL.subH xs An∈M) (ha:RdT Γ M (EL.mk An)):RdT Γ M (EL.mk xs):=fun w hw x hx=>ha w hw x (hw.prs _ h x hx)
theorem RdX.subH {xs An:List τ} (h:SL.subH xs An∈M2) (ha:RdX Γ M1 M2 (EL.mk An)):RdX Γ M1 M2 (EL.mk xs):=fun w hw x hx=>ha w hw x (hw.prs _ (List.mem_append_right _ h) x hx)
theorem RdP.subH {xs An:List τ} (h:SL.subH xs An∈Mr) (ha:RdP Mr w S (EL.mk An)):RdP Mr w S (EL.mk xs):=fun hp x hx=>ha hp x (hp.prs _ h x hx)
theorem el_setA {xs:List τ} {t:τ} (k:Nat):∀ x,x∈xs.set k t→x∈xs++[t]:=fun x hx=>by
 rcases List.mem_or_eq_of_mem_set hx with h | h
 ·exact List.mem_append_left _ h
 ·rw [h];simp
theorem RdT.elSet {xs:List τ} {k:Nat} (h1:RdT Γ M (EL.mk xs)) (h2:RdT Γ M t):RdT Γ M (EL.mk (xs.set k t)):=RdT.elSub (el_setA k) (RdT.elApp h1 (RdT.elOne h2))
theorem RdX.elSet {xs:List τ} {k:Nat} (h1:RdX Γ M1 M2 (EL.mk xs)) (h2:RdX Γ M1 M2 t):RdX Γ M1 M2 (EL.mk (xs.set k t)):=RdX.elSub (el_setA k) (RdX.elApp h1 (RdX.elOne h2))
theorem RdP.elSet {xs:List τ} {k:Nat} (h1:RdP Mr w S (EL.mk xs)) (h2:RdP Mr w S t):RdP Mr w S (EL.mk (xs.set k t)):=RdP.elSub (el_setA k) (RdP.elApp h1 (RdP.elOne h2))
theorem RdO.elSet {xs:List τ} {k:Nat} (h1:RdO w S (EL.mk xs)) (h2:RdO w S t):RdO w S (EL.mk (xs.set k t)):=RdO.elSub (el_setA k) (RdO.elApp h1 (RdO.elOne h2))
theorem sub_add {xs An:List τ} (hs:∀ x,x∈xs→x∈An) (h:Holds w0 S0 M w):Holds w0 S0 (subH xs An::M) w :=
 h.reFp (List.Perm.of_eq (by rw [fps_cons];rfl)) fun y hy=>by
  rcases List.mem_cons.1 hy with rfl | hy
  ·exact hs
  ·exact h.prs _ hy
theorem sub_snoc {xs An:List τ} {v:τ} {X':List τ} (e:X'=xs++[v]) (hv:v∈An) (p:Pick (subH xs An) M M1) (h:Holds w0 S0 M w):Holds w0 S0 (subH X' An::M1) w:=by
 have h1:=h.perm p.perm
 have hs:∀ x,x∈xs→x∈An:=h1.prs (subH xs An) (List.mem_cons_self ..)
 refine h1.reFp (List.Perm.of_eq (by rw [fps_cons,fps_cons];rfl)) fun y hy=>by
  rcases List.mem_cons.1 hy with rfl | hy
  ·subst e
   intro x hx
   rcases List.mem_append.1 hx with hx | hx
   ·exact hs x hx
   ·rw [List.mem_singleton.1 hx];exact hv
  ·exact h1.prs _ (List.mem_cons_of_mem _ hy)
theorem row_open {X:TL τ} (p:Pick (treeH X) M M1) (h:Holds w0 S0 M w):Holds w0 S0 (rowH X::elsT X.els::M1) w:=tree_row (h.perm p.perm)
theorem L_appRA {s x:Operand} {T e sz by_ m c:Nat} {ad:Addr} {z:List Value} {X:TL τ} {ys:List τ} (hn:Nat.blt d Γ.n=true)
  (hs:ev l s=some X.hdr) (hx:ev l x=some (.slice (some ad) m c)) (ht:elOf Γ.P T=some (e,sz,by_,z)) (hsz:GT.sz τ=sz) (hz:z.length=sz)
  (hp:Pick (rowH X) M M1) (hmy:m=ys.length) (hsrc:∀ w,Sees Γ.w0 Γ.S0 M w→∀ j v,(rowCells ys)[j]?=some v→w.cell? (ad.add j)=some v)
  (hlen:X.els.length+ys.length≤4294967296) (hb:by_≤32768)
  (hk:∀ X':TL τ,X'.els=X.els++ys→L Γ rest ((d,X'.hdr)::l) (rowH X'::M1) K) :
  L Γ ({ dst:=some d,op:=.call { callee:=.builtin .append,args:=#[s,x],argTypes:=#[T,T] },type:=ty,pos,after:=af,guard:=none }::rest) l M K:=by
 subst hmy
 refine L_stepR (fun v M'=>∃ X':TL τ,X'.els=X.els++ys∧v=X'.hdr∧M'=rowH X'::M1) rfl rfl (Nat.le_of_ble_eq_true hn)
  (fun a w ha hw=>?_) (fun v M' ⟨X',h0,h1,h2⟩=>by subst h1;subst h2;exact hk X' h0)
 have hw1:=hw.perm hp.perm
 have hsr:=hsrc w hw.sees
 obtain ⟨a',c',e',tl,w',h1,h2⟩:=append_rowE (P:=Γ.P) (c:=c) ht hsz hz hw1 hsr hlen hb ty
 refine ⟨_,_,w',⟨⟨a',c',e',X.els++ys,tl⟩,rfl,rfl,rfl⟩,?_,h2⟩
 have h1':(Builtin.append_ #[T,T] ty #[X.hdr,.slice (some ad) ys.length c]).run Γ.P w=.ok (TL.hdr (⟨a',c',e',X.els++ys,tl⟩:TL τ)) w':=h1
 generalize TL.hdr (⟨a',c',e',X.els++ys,tl⟩:TL τ)=vv at *
 generalize X.hdr=uu at *
 simp [execOp,resolve,invoke,builtin,ha.eval hs,ha.eval hx,h1']
theorem L_app1R {s x:Operand} {T e sz by_ c b:Nat} {z:List Value} {X:TL τ} {T':TypeId} (y:τ) {r:List δ} (hn:Nat.blt d Γ.n=true)
  (hs:ev l s=some X.hdr) (hx:ev l x=some (.slice (some ⟨b,0,none⟩) 1 c)) (ht:elOf Γ.P T=some (e,sz,by_,z)) (hsz:GT.sz τ=sz) (hz:z.length=sz)
  (hp:Pick (rowH X) M M1) (hsrc:blk b (GT.cells y) T'∈M)
  (hr:appP (GT.dat X) [GT.dat y]=some r) (hb:by_≤32768)
  (hk:∀ X':TL τ,GT.dat X'=r→X'.els=X.els++[y]→L Γ rest ((d,X'.hdr)::l) (rowH X'::M1) K) :
  L Γ ({ dst:=some d,op:=.call { callee:=.builtin .append,args:=#[s,x],argTypes:=#[T,T] },type:=ty,pos,after:=af,guard:=none }::rest) l M K:=by
 obtain ⟨h1,rfl⟩:=appP_some hr
 refine L_appRA (ys:=[y]) hn hs hx ht hsz hz hp rfl (fun w hw j v hv=>?_) (by simpa [dat_els] using h1) hb
  (fun X' h=>hk X' (by rw [dat_els,h,List.map_append,dat_els];rfl) h)
 have h2:=RdC.blk (Γ:=Γ) hsrc w hw j v (by simpa [rowCells] using hv)
 rw [addr_add];exact h2
theorem L_app1S {s x:Operand} {T e sz by_ c b:Nat} {z:List Value} {X:TL τ} {An:List τ} {T':TypeId} (y:τ) {r:List δ} (hn:Nat.blt d Γ.n=true)
  (hs:ev l s=some X.hdr) (hx:ev l x=some (.slice (some ⟨b,0,none⟩) 1 c)) (ht:elOf Γ.P T=some (e,sz,by_,z)) (hsz:GT.sz τ=sz) (hz:z.length=sz)
  (hp:Pick (rowH X) M M1) (hq:Pick (subH X.els An) M1 M2) (hsrc:blk b (GT.cells y) T'∈M)
  (hr:appP (GT.dat X) [GT.dat y]=some r) (hb:by_≤32768) (hy:y∈An)
  (hk:∀ X':TL τ,GT.dat X'=r→L Γ rest ((d,X'.hdr)::l) (rowH X'::subH X'.els An::M2) K) :
  L Γ ({ dst:=some d,op:=.call { callee:=.builtin .append,args:=#[s,x],argTypes:=#[T,T] },type:=ty,pos,after:=af,guard:=none }::rest) l M K :=
 L_app1R y hn hs hx ht hsz hz hp hsrc hr hb fun X' h1 h2=>L_conv (fun w h=>(sub_snoc h2 hy (hq.there _) h).perm (List.Perm.swap _ _ _)) (hk X' h1)
theorem L_appAllR {s x:Operand} {T e sz by_:Nat} {z:List Value} {X Y:TL τ} {r:List δ} (hn:Nat.blt d Γ.n=true)
  (hs:ev l s=some X.hdr) (hx:ev l x=some Y.hdr) (ht:elOf Γ.P T=some (e,sz,by_,z)) (hsz:GT.sz τ=sz) (hz:z.length=sz)
  (hp:Pick (rowH X) M M1) (hsrc:RdT Γ M Y) (hr:appP (GT.dat X) (GT.dat Y)=some r) (hb:by_≤32768)
  (hk:∀ X':TL τ,GT.dat X'=r→X'.els=X.els++Y.els→L Γ rest ((d,X'.hdr)::l) (rowH X'::M1) K) :
  L Γ ({ dst:=some d,op:=.call { callee:=.builtin .append,args:=#[s,x],argTypes:=#[T,T] },type:=ty,pos,after:=af,guard:=none }::rest) l M K:=by
 obtain ⟨h1,rfl⟩:=appP_some hr
 simp only [dat_els,List.length_map] at h1
 obtain ⟨a2,c2,e2,x2,tl2⟩:=Y
 cases a2 with
 | some a2 =>
  obtain ⟨b,o,sp⟩:=a2
  refine L_appRA (ys:=x2) hn hs hx ht hsz hz hp rfl (fun w hw j v hv=>?_) h1 hb
   (fun X' h=>hk X' (by rw [dat_els,h,List.map_append];rfl) h)
  have h2:=(hsrc w hw).2.2.2.2 _ rfl
  have hne:x2≠[]:=fun e=>by subst e;simp [rowCells] at hv
  have h3:sp=none:=h2.1 hne
  subst h3
  rw [addr_add];exact (h2.2 j v hv).1
 | none =>
  intro ops a w Q ha hw
  have h2:x2=[]:=(hsrc w hw.sees).2.2.2.1 rfl
  subst h2
  have hk':=hk X (by rw [dat_els];show _=_++[].map GT.dat;simp) (by simp)
  have hr:=(hw.perm hp.perm).prs (rowH X) (List.mem_cons_self ..)
  refine L_step rfl rfl (Nat.le_of_ble_eq_true hn) (fun a w ha hw=>⟨w,?_,hw.perm hp.perm⟩) hk' ops a w Q ha hw
  have:=append_none (P:=Γ.P) (w:=w) (a:=X.a) (n:=X.els.length) (c:=X.cap) (c2:=c2) ht hr.1 ty
  have h5:(Builtin.append_ #[T,T] ty #[X.hdr,.slice none 0 c2]).run Γ.P w=.ok X.hdr w:=this
  have h6:=ha.eval hx
  simp only [TL.hdr,List.length_nil] at h6
  generalize X.hdr=uu at *
  simp [execOp,resolve,invoke,builtin,ha.eval hs,h6,h5]
theorem L_mk0R (τ:Type) {δ:Type} [GT τ δ] {T e sz by_:Nat} {z:List Value} (hn:Nat.blt d Γ.n=true) (ht:elOf Γ.P T=some (e,sz,by_,z))
  (hk:∀ X:TL τ,GT.dat X=[]→X.els=[]→L Γ rest ((d,X.hdr)::l) (treeH X::M) K) :
  L Γ ({ dst:=some d,op:=.buildSlice T 0 #[],type:=ty,pos,after:=af,guard:=none }::rest) l M K :=
 L_mk0 τ hn ht fun X hX=>hk X hX (by rw [dat_els] at hX;exact List.map_eq_nil_iff.1 hX)
end
structure BL where
 l:List Nat
instance:GT BL Unit where
 sz:=1
 pos:=by decide
 cells _:=[.bool false]
 len _:=rfl
 one _ v hv:=by simp at hv;subst hv;rfl
 rd _ _ _:=True
 fp _:=[]
 ow _ _:=False
 dat _:=()
 rd_mono h _:=h
 ow_st _ h:=h
 ow_rd h _:=h.elim
section
variable {τ δ:Type} [GT τ δ] {t:τ}
end
end Go.Proofs.SL
namespace Go.Proofs.SL
open Go
variable {Γ:Cx} {l l':Envl} {M M' M1 M2 F A A':List HP} {Qp:Post} {K:Kont} {w0 w:World} {S0:List Nat}
variable {ops:Array Oper} {fuel:Nat} {listed:Array Bool} {i d:Nat} {o:Oper} {last:Nat}
variable {al da:Nat} {z:List Value} {T:TypeId}
end Go.Proofs.SL
namespace Go.Proofs.SL
open Go
variable {Γ:Cx} {l:Envl} {M M' M1 M2 F:List HP} {Q:Post} {K:Kont} {w0 w:World} {S0:List Nat}
variable {rest:List Oper} {d:Nat} {ty:TypeId} {pos:String} {af:Array Edge}
variable {ops:Array Oper} {Msh pool pool':List HP} {E:Fl} {rs:List (Option Nat×Rel)} {cs0:List Nat} {KD:List (Option Nat×Rel)→List Nat→List HP→Prop}
end Go.Proofs.SL
