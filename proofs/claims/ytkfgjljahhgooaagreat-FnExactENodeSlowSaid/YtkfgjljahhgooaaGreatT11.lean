/- The texts of the proof, part 11: the base, walks of functions, plain Lean. -/
import Derived.Test.YtkfgjljahhgooaaGreatT10
import Derived.Test.YtkfgjljahhgooaaGreatT5
import Derived.Test.YtkfgjljahhgooaaGreatT6
namespace Go.Proofs.SL
open Go
theorem take_succD {α:Type} {l:List α} {k:Nat} {x:α} (h:l[k]?=some x):l.take (k+1)=l.take k++[x]:=by
 rw [List.take_add_one,h];rfl
noncomputable def delStep {α:Type} (q:α→Bool) (z:α) (s3:List α×Int×Int):Option ((List α×Int×Int) ⊕ List α) :=
 cond (decide (s3.2.2 < (s3.1.length:Int))) (Option.bind (idx s3.1 s3.2.2) (fun y5=>Option.bind (some (q y5)) (fun y6=>cond (!y6) (Option.bind (idx s3.1 s3.2.1) (fun y8=>Option.bind (some (s3.1.set (s3.2.1.toNat) y5)) (fun y9=>some (.inl ((y9,IntKind.wrap .i64 (s3.2.1+1),IntKind.wrap .i64 (s3.2.2+1))))))) (some (.inl ((s3.1,s3.2.1,IntKind.wrap .i64 (s3.2.2+1)))))))) (Option.map .inr (Option.bind (slcP s3.1 s3.2.1 (s3.1.length:Int)) (fun y12=>Option.bind (chkP (decide (s3.2.1 < (s3.1.length:Int)))) (fun y14=>Option.bind (some (clrD s3.1 s3.2.1 (s3.1.length:Int) z)) (fun y15=>Option.bind (slcP y15 0 s3.2.1) (fun y17=>some y17))))))
theorem delStep_filter {α:Type} {l:List α} (p:α→Bool) (z:α) {i:Nat} (hf:l.findIdx? p=some i) (h:l.length≤4294967296) :
  whileP (delStep p z) (l,(i:Int),IntKind.wrap .i64 ((i:Int)+1))=some (l.filter fun x=>!p x):=by
  obtain ⟨hil,hpi,hlt⟩:=List.findIdx?_eq_some_iff_getElem.1 hf
  rw [wrap_succ (show i < 9223372036854775807 by omega)]
  obtain ⟨r,hr,hq⟩:=whileP_rule (α:=List α) (σ:=List α×Int×Int)
   (f:=delStep p z)
   (fun s=>∃ m j:Nat,s=(s.1,(m:Int),(j:Int))∧s.1.length=l.length∧m < j∧j≤l.length∧s.1.take m=(l.take j).filter (fun x=>!p x)∧s.1.drop j=l.drop j)
   (fun s=>l.length - s.2.2.toNat) (fun r=>r=l.filter fun x=>!p x) (by
    rintro ⟨s,_,_⟩ ⟨m,j,hs,hlen,hmj,hjl,ht,hd⟩
    dsimp only at hs hlen ht hd
    obtain ⟨rfl,rfl⟩:_∧_:=⟨congrArg (fun z=>z.2.1) hs,congrArg (fun z=>z.2.2) hs⟩
    clear hs
    unfold delStep
    dsimp only
    rcases Nat.lt_or_ge j l.length with hj | hj
    ·have hx:s[j]?=some l[j]:=by
      have:=congrArg (fun q=>q[0]?) hd
      simpa [List.getElem?_drop,List.getElem?_eq_getElem hj] using this
     have hlx:l[j]?=some l[j]:=List.getElem?_eq_getElem hj
     generalize l[j]=x at hx hlx
     have hd':s.drop (j+1)=l.drop (j+1):=by
      have:=congrArg List.tail hd
      simpa [List.tail_drop] using this
     left
     simp only [hlen,lt_dec hj,cond_true,idx_nat,hx,Option.bind_some,wrap_succ (show j < 9223372036854775807 by omega)]
     cases hpx:p x with
     | true =>
      refine ⟨_,rfl,⟨m,j+1,rfl,hlen,by omega,by omega,?_,hd'⟩,by dsimp only;simp only [Int.toNat_natCast];omega⟩
      dsimp only
      rw [take_succD hlx,List.filter_append,ht];simp [hpx]
     | false =>
      have hm:s[m]?=some s[m]:=List.getElem?_eq_getElem (by omega)
      simp only [Bool.not_false,cond_true,hm,Option.bind_some,Int.toNat_natCast,wrap_succ (show m < 9223372036854775807 by omega)]
      refine ⟨_,rfl,⟨m+1,j+1,rfl,by simp [hlen],by omega,by omega,?_,?_⟩,by dsimp only;simp only [Int.toNat_natCast];omega⟩
      ·dsimp only
       rw [take_succD hlx,List.filter_append,← ht,take_succD (x:=x) (by rw [List.getElem?_set_self (by omega)]),List.take_set_of_le (Nat.le_refl _)]
       simp [hpx]
      ·dsimp only
       rw [List.drop_set_of_lt (by omega),hd']
    ·right
     have hj':j=l.length:=by omega
     subst hj'
     have hml:m < s.length:=by omega
     have e1:slcP s (m:Int) (l.length:Int)=some ((s.drop m).take (l.length - m)):=by
      unfold slcP;rw [if_pos ⟨by omega,by omega,by omega⟩];simp
     simp only [hlen,ge_dec,cond_false,e1,Option.bind_some]
     have e2:chkP (decide ((m:Int) < (l.length:Int)))=some ():=by unfold chkP;rw [if_pos (by simp;omega)]
     have e3:slcP (clrD s (m:Int) (l.length:Int) z) 0 (m:Int)=some (s.take m):=by
      have hc:(clrD s (m:Int) (l.length:Int) z).length=l.length:=by
       unfold clrD;simp;omega
      unfold slcP;rw [if_pos ⟨by omega,by omega,by omega⟩]
      unfold clrD
      simp [List.take_append_of_le_length,hlen,Nat.min_eq_left (Nat.le_of_lt hmj)]
     rw [e2,Option.bind_some,e3]
     exact ⟨_,rfl,by rw [ht,List.take_length]⟩)
   (l,(i:Int),((i+1:Nat):Int)) (by
    refine ⟨i,i+1,rfl,rfl,by omega,by omega,?_,rfl⟩
    dsimp only
    rw [take_succD (List.getElem?_eq_getElem hil),List.filter_append,List.filter_eq_self.2]
    ·simp [hpi]
    ·intro x hx
     obtain ⟨q,hq⟩:=List.getElem?_of_mem hx
     have hql:=(List.getElem?_eq_some_iff.1 hq).1
     rw [List.length_take] at hql
     rw [List.getElem?_take_of_lt (by omega)] at hq
     have:=hlt q (by omega)
     obtain ⟨h1,h2⟩:=List.getElem?_eq_some_iff.1 hq
     rw [h2] at this
     simp [this])
  rw [hr,hq]
end Go.Proofs.SL
namespace Go.Proofs.SL
open Go
set_option maxHeartbeats 2000000
instance fn186:FnF Tryz.prog 186:=⟨_,Tryz.func186,by kernel_rfl,rfl⟩
instance fn187:FnF Tryz.prog 187:=⟨_,Tryz.func187,by kernel_rfl,rfl⟩
theorem firstI_dat {τ δ:Type} [GT τ δ] (q:δ→Bool) (X:TL τ):firstI q (GT.dat X)=firstI (fun t:τ=>q (GT.dat t)) X.els:=by
 unfold firstI
 rw [dat_els,List.findIdx?_map];rfl
theorem len_of_chk {τ δ:Type} [GT τ δ] {X:TL τ} {u:Unit} (h:chkP (decide ((GT.dat X).length≤4294967296))=some u):X.els.length≤4294967296:=by
 have:=of_decide_eq_true (chkP_some h)
 rwa [dat_els,List.length_map] at this
theorem len_of_chk' {τ δ:Type} [GT τ δ] {X:TL τ} {u:Unit} (h:chkP (decide ((GT.dat X).length≤4294967296))=some u):(GT.dat X).length≤4294967296:=of_decide_eq_true (chkP_some h)
theorem indexLead_eq (l:List D_Lead) (p:D_Lead→Bool) (h:l.length≤4294967296):sl_IndexFunc_implLeadimplLead l (fun d=>some (p d))=some (firstI p l):=by
 unfold sl_IndexFunc_implLeadimplLead
 rw [whileP_find (l:=l) p some (by omega)]
 ·intro k x hx
  simp only [lt_dec (List.getElem?_eq_some_iff.1 hx).1,cond_true,idx_nat,hx,Option.bind_some]
  cases p x<;>rfl
 ·simp only [ge_dec];rfl
theorem els_nilH {τ δ:Type} [GT τ δ] {w0 w:World} {S0:List Nat} {M:List HP} (h:Holds w0 S0 M w):Holds w0 S0 (elsT ([]:List τ)::M) w :=
 h.reFp (List.Perm.of_eq (by rw [fps_cons];rfl)) fun y hy=>by
  rcases List.mem_cons.1 hy with rfl | hy
  ·intro x hx;cases hx
  ·exact h.prs _ hy
theorem cs_whole {τ δ:Type} [GT τ δ] (u v:τ):(GT.cells u).take 0++(Value.agg (GT.cells v).toArray).cells.toList++(GT.cells u).drop (0+GT.sz τ)=GT.cells v:=by
 rw [List.take_zero,List.nil_append,Nat.zero_add,List.drop_of_length_le (by rw [GT.len];exact Nat.le_refl _),List.append_nil];rfl
theorem sl_DeleteFunc_raw_walk (w:World) (a0:TL T_Lead) (f1:Nat) (cs1:List Value) (qD:D_Lead→Bool) (hf1:IsFn Tryz.prog f1) (hlen:a0.els.length≤4294967296) (hk1:∀ (w':World) (F:List HP) (u0:T_Lead),Holds w (fps [treeH a0]) F w'→Spec Tryz.prog f1 ([Value.agg (GT.cells u0).toArray]++cs1).toArray w' [] (IsV (.bool (qD (GT.dat u0))))) (iv:Int) (hiv:sl_IndexFunc_implLeadimplLead (GT.dat a0) (fun d=>some (qD d))=some iv) (hiv2:iv=firstI (fun t:T_Lead=>qD (GT.dat t)) a0.els) :
  Spec Tryz.prog 186 [(TL.hdr a0),.func (.func f1) #[] cs1.toArray].toArray w [treeH a0] (fun v M=>∃ (x0:TL T_Lead),v=(TL.hdr x0)∧GT.dat x0=(GT.dat a0).filter (fun d=>!qD d)∧M=[treeH x0,elsT (a0.els.filter (fun t=>qD (GT.dat t)))]):=by
 refine Spec.intro Tryz.func186 rfl Tryz.ntmps186 rfl ?_
 refine s2 ?_
 refine L_assign (v:=(TL.hdr (TL.nil Int 0))) rfl rfl ?_
 refine s5 ?_
 refine L_callX rfl fn133.h rfl (by exact fun w hw=>sl_IndexFunc_implLeadimplLead_walk w a0 f1 cs1 (fun d=>some (qD d)) (RdT.now (RdT.tree mm) hw) hf1 (fun w' F u0 v hF hu0 hv=>by obtain rfl:=Option.some.inj hv;exact hk1 w' _ u0 (Holds.frame (M1:=[]) (M2:=_) hw hF)) _ hiv) ?_
 refine s8 ?_
 refine kp [0,1,5,12] ?_
 refine W_cond rfl (fun q2=>?_) (fun q2=>?_)
 ·have hn:a0.els.findIdx? (fun t:T_Lead=>qD (GT.dat t))=none:=by
   cases hh:a0.els.findIdx? (fun t:T_Lead=>qD (GT.dat t)) with
   | none=>rfl
   | some i =>
    unfold firstI at hiv2
    rw [hh] at hiv2
    have:=of_decide_eq_true q2
    rw [hiv2] at this
    simp at this
  have hn':=List.findIdx?_eq_none_iff.1 hn
  have h1:(GT.dat a0).filter (fun d=>!qD d)=GT.dat a0:=by
   refine List.filter_eq_self.2 fun d hd=>?_
   obtain ⟨t,ht,rfl⟩:=List.mem_map.1 hd
   have:=hn' t ht
   simp [this]
  have h2:a0.els.filter (fun t=>qD (GT.dat t))=[]:=List.filter_eq_nil_iff.2 fun t ht=>by simp [hn' t ht]
  refine s5 ?_
  refine W_conv (M':=elsT ([]:List T_Lead)::_) (fun w h=>els_nilH h) ?_
  refine s1 ?_
  refine res1 rfl (ResOK.tmp rfl) ⟨a0,rfl,h1.symm,by rw [h2]⟩ ms
 ·obtain ⟨i,hi⟩:∃ i,a0.els.findIdx? (fun t:T_Lead=>qD (GT.dat t))=some i:=by
   cases hh:a0.els.findIdx? (fun t:T_Lead=>qD (GT.dat t)) with
   | some i=>exact ⟨i,rfl⟩
   | none =>
    unfold firstI at hiv2
    rw [hh] at hiv2
    subst hiv2
    simp at q2
  have hiv3:iv=(i:Int):=by rw [hiv2];unfold firstI;rw [hi]
  subst hiv3
  have hp:=delStep_filter (fun t:T_Lead=>qD (GT.dat t)) ((0,0),0,0,0,TL.nil T_Id 0,TL.nil Int 0,false) hi hlen
  refine s8 ?_
  refine W_conv (M':=rowH a0::elsT a0.els::_) (fun w h=>row_open pk h) ?_
  refine W_conv (M':=treeH (rwT a0)::_) (fun w h=>raw_row pk h) ?_
  rw [← rwT_hdr a0]
  rw [← rwT_dat a0] at hp
  refine s1 ?_
  refine W_while (σ:=(TL (Rw T_Lead))×Int×Int) GT.dat (fun ((v3_0,v3_1,v3_2):(TL (Rw T_Lead))×Int×Int)=>[(0,(TL.hdr v3_0)),(5,.int .i64 v3_1),(6,.int .i64 v3_2)]) (fun ((v3_0,v3_1,v3_2):(TL (Rw T_Lead))×Int×Int)=>[treeH v3_0]) [(1,_)] [elsT a0.els] (rwT a0,(i:Int),IntKind.wrap .i64 ((i:Int)+1)) hp sb ms ?_
  clear hp
  rintro ⟨v3_0,v3_1,v3_2⟩ x3 hp hx3
  refine kq [0,1,5,6] ?_
  replace hp:delStep (fun t:T_Lead=>qD (GT.dat t)) ((0,0),0,0,0,TL.nil T_Id 0,TL.nil Int 0,false) (GT.dat v3_0,v3_1,v3_2)=some x3:=hp
  unfold delStep at hp
  dsimp only at hp
  refine s8 ?_
  refine kp [0,1,5,6,19] ?_
  refine W_cond rfl (fun q4=>?_) (fun q4=>?_)
  ·replace hp:=cond_t q4 hp
   refine s7 ?_
   replace hp:=idx_bind hp;obtain ⟨u5,hy5,hp⟩:=hp
   refine L_idxA (X:=v3_0) rfl rfl rfl el25.h (RdT.tree mm) hy5 ?_
   refine L_loadW rfl rfl (RdT.at (RdT.tree mm) (hy5).2) (by rw [GT.len];exact agg89.h) ?_
   refine al fun bk7=>?_
   refine L_storeW rfl rfl pk (by rw [GT.len];exact agg89.h) (by rw [GT.len];rfl) (fun v hv=>GT.one _ v hv) ?_
   refine s4 ?_
   refine L_loadW rfl rfl (RdC.blk mm) (by rw [GT.len];exact agg89.h) ?_
   replace hp:=ba hp;obtain ⟨y6,hy6,hp⟩:=hp
   obtain rfl:=Option.some.inj hy6
   refine L_callVX rfl rfl hf1 rfl (by exact fun w hw=>hk1 w _ u5.t hw) ?_
   refine s2 ?_
   refine kp [0,1,5,6,7,29] ?_
   refine W_cond rfl (fun q7=>?_) (fun q7=>?_)
   ·replace hp:=cond_t q7 hp
    refine s4 ?_
    refine L_loadW rfl rfl (RdC.blk mm) (by rw [GT.len];exact agg89.h) ?_
    replace hp:=idx_bind hp;obtain ⟨u8,hy8,hp⟩:=hp
    refine L_idxA (X:=v3_0) rfl rfl rfl el25.h (RdT.tree mm) hy8 ?_
    refine L_conv (M':=treeH u8::holeH v3_0 (v3_1.toNat) (GT.cells u8)::_) (fun w h=>hole_open hy8.2 pk h) ?_
    refine L_stH (X:=v3_0) (i:=v3_1.toNat) (sz:=GT.sz (Rw T_Lead)) (fo:=0) (n:=GT.sz (Rw T_Lead)) rfl rfl pk rfl (.inl agg89.h) (GT.len u5) (fun v hv=>GT.one u5 v hv) (by rw [GT.len];omega) ?_
    refine L_conv (M':=treeH u5::_) (fun w h=>addF u5 h) ?_
    replace hp:=ba hp;obtain ⟨y9,hy9,hp⟩:=hp
    refine L_close (X:=v3_0) u5 (cs_whole u8 u5) pk pk hy9 (fun X10 hdX10 hhX10=>?_)
    subst hdX10
    rw [← hhX10]
    refine s11 ?_
    exact ⟨(X10,IntKind.wrap .i64 (v3_1+1),IntKind.wrap .i64 (v3_2+1)),sb,(.sub ms),some_eq hp⟩
   ·replace hp:=cond_f q7 hp
    refine s6 ?_
    exact ⟨(v3_0,v3_1,IntKind.wrap .i64 (v3_2+1)),sb,(.sub ms),some_eq hp⟩
  ·replace hp:=cond_f q4 hp
   refine W_exit ?_
   replace hp:=map_any hp;obtain ⟨a11,hp,z_11⟩:=hp
   have hr:=hx3 _ z_11
   refine s4 ?_
   replace hp:=ba hp;obtain ⟨y12,hy12,hp⟩:=hp
   refine L_slcE (X:=v3_0) rfl rfl rfl rfl el25.h rfl (RdT.tree mm) hy12 (fun X13 hdX13 heX13=>?_)
   have hsX13:=hy12
   subst hdX13
   replace hp:=ba hp;obtain ⟨y14,hy14,hp⟩:=hp
   replace hp:=ba hp;obtain ⟨y15,hy15,hp⟩:=hp
   refine L_clrV (X:=v3_0) (Y:=X13) (Rw.mk (((0,0),0,0,0,TL.nil T_Id 0,TL.nil Int 0,false):T_Lead)) rfl el25.h rfl rfl rfl pk heX13 hsX13 hy14 hy15 (fun X16 hdX16 hhX16=>?_)
   subst hdX16
   try rw [← hhX16]
   refine s5 ?_
   replace hp:=ba hp;obtain ⟨y17,hy17,hp⟩:=hp
   refine L_slcE (X:=X16) rfl rfl rfl rfl el25.h rfl (RdT.tree mm) hy17 (fun X18 hdX18 heX18=>?_)
   have hsX18:=hy17
   subst hdX18
   refine s2 ?_
   refine W_trunc (X:=X16) (Y:=X18) (u:=()) heX18 hsX18 rfl pk (fun X19 hdX19 hhX19=>?_)
   rw [← hdX19] at hp
   try rw [← hhX19]
   have hfin:=(Option.some.inj hp).trans hr
   rw [rwT_dat] at hfin
   refine W_conv (fun w h=>row_filter (fun t:T_Lead=>qD (GT.dat t)) hfin pk pk h) ?_
   rw [← unT_hdr X19]
   refine s1 ?_
   refine res1 rfl (ResOK.tmp rfl) ⟨unT X19,rfl,by rw [dat_els,unT_els,hfin,dat_els,List.filter_map];rfl,rfl⟩ ms
end Go.Proofs.SL
namespace Go.Proofs.SL
open Go
set_option maxHeartbeats 2000000
noncomputable def i_ENode_drop_c1 (a0:D_Lead) (c0:D_Id):Option Bool :=
 some (decide (a0.1.1=c0.1)&&(decide (a0.1.2=c0.2)&&true))
theorem i_ENode_drop_c1_walk (w:World) (a0:T_Lead) (b0:Nat) (c0:T_Id) (hb0:Cells w [] b0 0 (GT.cells c0)) (q0:GT.rd w [] c0) (r:Bool) (hp:i_ENode_drop_c1 (GT.dat a0) (GT.dat c0)=some r):Spec Tryz.prog 187 ([(.agg (GT.cells a0).toArray:Value)]++[Value.pointer (some ⟨b0,0,none⟩)]).toArray w [] (IsV (.bool r)):=by
 obtain ⟨⟨a0_1,a0_2⟩,a0_3,a0_4,a0_5,a0_6,a0_7,a0_8⟩:=a0
 obtain ⟨c0_1,c0_2⟩:=c0
 change Spec _ _ ([Value.agg #[.int .i64 a0_1,.int .i64 a0_2,.int .i64 a0_3,.int .i64 a0_4,.int .i64 a0_5,(TL.hdr a0_6),(TL.hdr a0_7),.bool a0_8],Value.pointer (some ⟨b0,0,none⟩)]:List Value).toArray w [] _
 refine Spec.intro Tryz.func187 rfl Tryz.ntmps187 rfl ?_
 unfold i_ENode_drop_c1 at hp
 replace hp:=dd hp
 refine s2 ?_
 refine bx fun bk2=>?_
 refine s5 ?_
 refine L_loadW rfl rfl (RdC.seg (RdC.blk mm) 0 2 rfl) (by exact agg29.h) ?_
 refine L_loadW rfl rfl (RdC.old hb0) (by exact agg29.h) ?_
 refine L_binV rfl rfl rfl (bv_aeql eqsh29 (EqS.consI one3.h und3.h rfl rfl (EqS.consI one3.h und3.h rfl rfl EqS.nil))) ?_
 refine s2 ?_
 obtain rfl:=sj hp
 refine s1 ?_
 refine res1 rfl (ResOK.tmp rfl) ⟨rfl,rfl⟩ ms
noncomputable def i_ENode_drop (a0:D_ENode) (a1:D_Id):Option D_ENode :=
 Option.bind (chkP (decide (a0.2.2.2.length≤4294967296))) (fun y1=>Option.bind (some (a0.2.2.2.filter (fun d=>!(fun d:D_Lead=>decide (d.1.1=a1.1)&&(decide (d.1.2=a1.2)&&true)) d))) (fun y2=>some (a0.1,a0.2.1,a0.2.2.1,y2)))
theorem i_ENode_drop_walk (w:World) (b0_:Nat) (a0:T_ENode) (a1:T_Id) (h1:GT.rd w (fps [blk b0_ (GT.cells a0) 27,treeH a0.2.2.1,treeH a0.2.2.2]) a1) (r:D_ENode) (hp:i_ENode_drop (GT.dat a0) (GT.dat a1)=some r):Spec Tryz.prog 154 [Value.pointer (some ⟨b0_,0,none⟩),.agg (GT.cells a1).toArray].toArray w [blk b0_ (GT.cells a0) 27,treeH a0.2.2.1,treeH a0.2.2.2] (fun v M=>∃ (y0:T_ENode),v=.tuple #[]∧GT.dat y0=r∧M=[blk b0_ (GT.cells y0) 27,treeH y0.2.2.1,treeH y0.2.2.2,elsT (a0.2.2.2.els.filter (fun t:T_Lead=>decide ((GT.dat t).1.1=a1.1)&&(decide ((GT.dat t).1.2=a1.2)&&true)))]):=by
 obtain ⟨a0_1,a0_2,a0_3,a0_4⟩:=a0
 obtain ⟨a1_1,a1_2⟩:=a1
 change Spec _ _ ([Value.pointer (some ⟨b0_,0,none⟩),Value.agg #[.int .i64 a1_1,.int .i64 a1_2]]:List Value).toArray w _ _
 refine Spec.intro Tryz.func154 rfl Tryz.ntmps154 rfl ?_
 unfold i_ENode_drop at hp
 replace hp:=dd hp
 refine s2 ?_
 refine bx fun bk3=>?_
 refine s7 ?_
 refine L_makeFunc (fs:=[]) (cs:=[.tmp 3]) rfl rfl rfl ?_
 replace hp:=ba hp;obtain ⟨y1,hy1,hp⟩:=hp
 replace hp:=ba hp;obtain ⟨y2,hy2,hp⟩:=hp
 refine L_callM [treeH a0_4] _ rfl fn186.h rfl pc (by exact fun w hw=>sl_DeleteFunc_raw_walk w a0_4 187 [Value.pointer (some ⟨bk3,0,none⟩)] (fun d:D_Lead=>decide (d.1.1=a1_1)&&(decide (d.1.2=a1_2)&&true)) fn187.h (len_of_chk hy1) (fun w' F u0 hF=>i_ENode_drop_c1_walk w' u0 bk3 (a1_1,a1_2) (cells_of_blk (List.mem_append_right _ mm) (Holds.frame hw hF).sees) (rd_carry (RdX.pair RdX.int RdX.int w hw) hF) _ rfl) _ (indexLead_eq _ _ (len_of_chk' hy1)) (firstI_dat _ _)) ?_
 rintro _ _ ⟨X3,rfl,hdX3,rfl⟩
 obtain rfl:GT.dat X3=y2:=hdX3.trans (Option.some.inj hy2)
 clear hy2 hdX3
 refine sc ?_
 refine s4 ?_
 obtain rfl:=sj hp
 refine res0n rfl  ⟨(a0_1,a0_2,a0_3,X3),rfl,rfl,rfl⟩ ms
end Go.Proofs.SL
namespace Go.Proofs.SL
open Go
set_option maxHeartbeats 2000000
instance:Inhabited T_Inst:=⟨((0,0),0,0,0,(0,0,0,ByteArray.empty,ByteArray.empty,ByteArray.empty,0,TL.nil ByteArray 0),0,TL.nil T_Id 0,false)⟩
theorem sl_SortFunc_implInstimplInst_walk (w:World) (a0:TL T_Inst) (f1:Nat) (cs1:List Value) (a1:D_Inst→D_Inst→Option Int) (hf1:IsFn Tryz.prog f1) (hk1:∀ (w':World) (F:List HP) (u0 u1:T_Inst) (v:Int),Holds w (fps [treeH a0]) F w'→a1 (GT.dat u0) (GT.dat u1)=some v→Spec Tryz.prog f1 ([Value.agg (GT.cells u0).toArray,Value.agg (GT.cells u1).toArray]++cs1).toArray w' [] (IsV (.int .i64 v))) (r:List D_Inst) (hp:sortFn (GT.dat a0) a1=some r):Spec Tryz.prog 177 ([(TL.hdr a0),.func (.func f1) #[] cs1.toArray]:List Value).toArray w [treeH a0] (fun v M=>∃ (y0:TL T_Inst),v=.tuple #[]∧GT.dat y0=r∧M=[treeH y0]∧y0.hdr=a0.hdr) :=
 Spec.sortN w a0 cs1 a1 r hp (fun w' F x y v hF hv=>hk1 w' F x y v hF hv)
  (fun b off cap d hO hc hH hb hsz=>Go.Proofs.AnyQ.slices_SortFunc_eq Tryz.laysSF177 16 Tryz.isAgg45 Tryz.sizeOf45 (fun x:T_Inst=>GT.cells x) (fun x=>GT.len x) (fun x v hv=>GT.one x v hv) (fun x y:T_Inst=>(a1 (GT.dat x) (GT.dat y)).getD 0) hO f1 cs1.toArray b off cap d w hf1.run hc hH hb hsz)
  (fun p cap=>Go.Proofs.AnyF.slices_SortFunc_none Tryz.laysSF177 p cap _ w)
end Go.Proofs.SL
namespace Go.Proofs.SL
open Go
set_option maxHeartbeats 2000000
instance fn110:FnF Tryz.prog 110:=⟨_,Tryz.func110,by kernel_rfl,rfl⟩
instance fn178:FnF Tryz.prog 178:=⟨_,Tryz.func178,by kernel_rfl,rfl⟩
instance fn177:FnF Tryz.prog 177:=⟨_,Tryz.func177,by kernel_rfl,rfl⟩
instance fn136:FnF Tryz.prog 136:=⟨_,Tryz.func136,by kernel_rfl,rfl⟩
instance fn137:FnF Tryz.prog 137:=⟨_,Tryz.func137,by kernel_rfl,rfl⟩
instance fn61:FnF Tryz.prog 61:=⟨_,Tryz.func61,by kernel_rfl,rfl⟩
instance fn154:FnF Tryz.prog 154:=⟨_,Tryz.func154,by kernel_rfl,rfl⟩
instance fn64:FnF Tryz.prog 64:=⟨_,Tryz.func64,by kernel_rfl,rfl⟩
instance fn65:FnF Tryz.prog 65:=⟨_,Tryz.func65,by kernel_rfl,rfl⟩
instance fn41:FnF Tryz.prog 41:=⟨_,Tryz.func41,by kernel_rfl,rfl⟩
instance fn44:FnF Tryz.prog 44:=⟨_,Tryz.func44,by kernel_rfl,rfl⟩
instance fn95:FnF Tryz.prog 95:=⟨_,Tryz.func95,by kernel_rfl,rfl⟩
noncomputable def i_copyInsts (a0:List D_Inst):Option (List D_Inst) :=
 whileP (fun s1:(List D_Inst)×Int=>cond (decide (s1.2 < (a0.length:Int))) (Option.bind (idx a0 s1.2) (fun y3=>Option.bind (i_copyInst ((y3.1.1,y3.1.2),y3.2.1,y3.2.2.1,y3.2.2.2.1,(y3.2.2.2.2.1.1,y3.2.2.2.2.1.2.1,y3.2.2.2.2.1.2.2.1,y3.2.2.2.2.1.2.2.2.1,y3.2.2.2.2.1.2.2.2.2.1,y3.2.2.2.2.1.2.2.2.2.2.1,y3.2.2.2.2.1.2.2.2.2.2.2.1,y3.2.2.2.2.1.2.2.2.2.2.2.2),y3.2.2.2.2.2.1,y3.2.2.2.2.2.2.1,y3.2.2.2.2.2.2.2)) (fun y4=>Option.bind (appP s1.1 [((y4.1.1,y4.1.2),y4.2.1,y4.2.2.1,y4.2.2.2.1,(y4.2.2.2.2.1.1,y4.2.2.2.2.1.2.1,y4.2.2.2.2.1.2.2.1,y4.2.2.2.2.1.2.2.2.1,y4.2.2.2.2.1.2.2.2.2.1,y4.2.2.2.2.1.2.2.2.2.2.1,y4.2.2.2.2.1.2.2.2.2.2.2.1,y4.2.2.2.2.1.2.2.2.2.2.2.2),y4.2.2.2.2.2.1,y4.2.2.2.2.2.2.1,y4.2.2.2.2.2.2.2)]) (fun y6=>some (.inl ((y6,IntKind.wrap .i64 (s1.2+1)))))))) (Option.map .inr (some s1.1))) (([]:List D_Inst),0)
theorem i_copyInsts_walk (w:World) (a0:TL T_Inst) (h0:GT.rd w [] a0) (r:(List D_Inst)) (hp:i_copyInsts (GT.dat a0)=some r):Spec Tryz.prog 110 [(TL.hdr a0)].toArray w [] (fun v M=>∃ (x0:TL T_Inst),v=(TL.hdr x0)∧GT.dat x0=r∧M=[treeH x0]):=by
 refine Spec.intro Tryz.func110 rfl Tryz.ntmps110 rfl ?_
 unfold i_copyInsts at hp
 replace hp:=dd hp
 refine s2 ?_
 refine L_assign (v:=(TL.hdr (TL.nil T_Inst 0))) rfl rfl ?_
 refine s3 ?_
 refine L_assign (v:=(TL.hdr (TL.nil T_Inst 0))) rfl rfl ?_
 refine s9 ?_
 refine W_conv (M':=treeH (TL.nil T_Inst 0)::_) (fun w h=>addNilT (τ:=T_Inst) 0 h) ?_
 refine W_while (σ:=(TL T_Inst)×Int) GT.dat (fun ((v1_0,v1_1):(TL T_Inst)×Int)=>[(3,(TL.hdr v1_0)),(8,.int .i64 v1_1)]) (fun ((v1_0,v1_1):(TL T_Inst)×Int)=>[treeH v1_0]) [(6,_),(7,_)] [] ((TL.nil T_Inst 0),0) hp sb ms ?_
 clear hp
 rintro ⟨v1_0,v1_1⟩ x1 hp hx1
 replace hp:=dd hp
 refine kq [3,6,7,8] ?_
 refine s5 ?_
 refine kp [3,6,7,8,9] ?_
 refine W_cond rfl (fun q2=>?_) (fun q2=>?_)
 ·replace hp:=cond_t q2 hp
  refine s5 ?_
  replace hp:=idx_bind hp;obtain ⟨⟨⟨u3_1,u3_2⟩,u3_3,u3_4,u3_5,⟨u3_6,u3_7,u3_8,u3_9,u3_10,u3_11,u3_12,u3_13⟩,u3_14,u3_15,u3_16⟩,hy3,hp⟩:=hp
  refine L_idxA (X:=a0) rfl rfl rfl el24.h (RdT.old h0) hy3 ?_
  refine L_loadW rfl rfl (RdT.at (RdT.old h0) (hy3).2) (by exact agg45.h) ?_
  refine al fun bk5=>?_
  refine s5 ?_
  replace hp:=ba hp;obtain ⟨y4,hy4,hp⟩:=hp
  refine L_callR rfl fn132.h rfl (by exact fun w hw=>i_copyInst_walk w ((u3_1,u3_2),u3_3,u3_4,u3_5,(u3_6,u3_7,u3_8,u3_9,u3_10,u3_11,u3_12,u3_13),u3_14,u3_15,u3_16) (RdT.now (RdT.pair (RdT.pair RdT.int RdT.int) (RdT.pair RdT.int (RdT.pair RdT.int (RdT.pair RdT.int (RdT.pair (RdT.pair RdT.int (RdT.pair RdT.int (RdT.pair RdT.int (RdT.pair RdT.str (RdT.pair RdT.str (RdT.pair RdT.str (RdT.pair RdT.int (RdT.snd (RdT.snd (RdT.snd (RdT.snd (RdT.snd (RdT.snd (RdT.snd (RdT.fst (RdT.snd (RdT.snd (RdT.snd (RdT.snd (RdT.of (RdT.old h0) (hy3).2)))))))))))))))))))) (RdT.pair RdT.int (RdT.pair (RdT.fst (RdT.snd (RdT.snd (RdT.snd (RdT.snd (RdT.snd (RdT.snd (RdT.of (RdT.old h0) (hy3).2)))))))) RdT.bool))))))) hw) _ hy4) ?_
  rintro _ _ ⟨⟨⟨y4x0_1,y4x0_2⟩,y4x0_3,y4x0_4,y4x0_5,⟨y4x0_6,y4x0_7,y4x0_8,y4x0_9,y4x0_10,y4x0_11,y4x0_12,y4x0_13⟩,y4x0_14,y4x0_15,y4x0_16⟩,rfl,rfl,rfl⟩
  refine sc ?_
  replace hp:=dd hp
  refine xL (((y4x0_1,y4x0_2),y4x0_3,y4x0_4,y4x0_5,(y4x0_6,y4x0_7,y4x0_8,y4x0_9,y4x0_10,y4x0_11,y4x0_12,y4x0_13),y4x0_14,y4x0_15,y4x0_16):T_Inst) ?_
  refine L_buildSlice1 rfl rfl el24.h rfl (by decide) (by decide) rfl (fun bb15=>?_)
  replace hp:=ba hp;obtain ⟨y6,hy6,hp⟩:=hp
  refine jL (((y4x0_1,y4x0_2),y4x0_3,y4x0_4,y4x0_5,(y4x0_6,y4x0_7,y4x0_8,y4x0_9,y4x0_10,y4x0_11,y4x0_12,y4x0_13),y4x0_14,y4x0_15,y4x0_16):T_Inst) ?_
  refine L_app1m (X:=v1_0) (((y4x0_1,y4x0_2),y4x0_3,y4x0_4,y4x0_5,(y4x0_6,y4x0_7,y4x0_8,y4x0_9,y4x0_10,y4x0_11,y4x0_12,y4x0_13),y4x0_14,y4x0_15,y4x0_16):T_Inst) rfl rfl rfl el24.h rfl rfl pk mm pk hy6 (by decide) (fun X5 hdX5 hmX5=>?_)
  subst hdX5
  refine s6 ?_
  exact ⟨(X5,IntKind.wrap .i64 (v1_1+1)),sb,(.sub ms),some_eq hp⟩
 ·replace hp:=cond_f q2 hp
  refine W_exit ?_
  replace hp:=map_any hp;obtain ⟨a7,hp,z_7⟩:=hp
  obtain rfl:=hx1 _ z_7
  refine s5 ?_
  obtain rfl:=sj hp
  refine s1 ?_
  refine res1 rfl (ResOK.tmp rfl) ⟨v1_0,rfl,rfl,rfl⟩ ms
noncomputable def i_copyENode (a0:D_ENode):Option D_ENode :=
 Option.bind (i_copyInsts a0.2.2.1) (fun y1=>whileP (fun s3:Int×(List D_Lead)=>cond (decide (s3.1 < (a0.2.2.2.length:Int))) (Option.bind (idx a0.2.2.2 s3.1) (fun y5=>Option.bind (i_copyIds y5.2.2.2.2.1) (fun y6=>Option.bind (appP ([]:List Int) y5.2.2.2.2.2.1) (fun y8=>Option.bind (appP s3.2 [((y5.1.1,y5.1.2),y5.2.1,y5.2.2.1,y5.2.2.2.1,y6,y8,y5.2.2.2.2.2.2)]) (fun y10=>some (.inl ((IntKind.wrap .i64 (s3.1+1),y10)))))))) (Option.map .inr (some (a0.1,a0.2.1,y1,s3.2)))) (0,([]:List D_Lead)))
theorem i_copyENode_walk (w:World) (a0:T_ENode) (h0:GT.rd w [] a0) (r:D_ENode) (hp:i_copyENode (GT.dat a0)=some r):Spec Tryz.prog 44 [.agg (GT.cells a0).toArray].toArray w [] (fun v M=>∃ (x0:T_ENode),v=.agg (GT.cells x0).toArray∧GT.dat x0=r∧M=[treeH x0]):=by
 obtain ⟨a0_1,a0_2,a0_3,a0_4⟩:=a0
 change Spec _ _ ([Value.agg #[.int .i64 a0_1,.int .i64 a0_2,(TL.hdr a0_3),(TL.hdr a0_4)]]:List Value).toArray w [] _
 refine Spec.intro Tryz.func44 rfl Tryz.ntmps44 rfl ?_
 unfold i_copyENode at hp
 replace hp:=dd hp
 refine s2 ?_
 refine bx fun bk1=>?_
 refine al fun bk2=>?_
 refine s2 ?_
 replace hp:=ba hp;obtain ⟨y1,hy1,hp⟩:=hp
 refine W_DS (pre:=[_,_,_,_,_,_,_,_,_]) (suf:=[_]) [3,13] [] _ pc mix (by kernel_rfl) (by kernel_rfl) rfl ?_
 refine s6 ?_
 refine D_call1R (fun v M=>∃ (x0:TL T_Inst),v=(TL.hdr x0)∧GT.dat x0=y1∧M=[treeH x0]) fn110.h (OpVs.cons (OpV.t rfl) (OpVs.nil)) (by exact fun w F hF hM=>i_copyInsts_walk w a0_3 (RdT.nowS (RdT.old h0.2.2.1) hF hM) _ hy1) ?_
 refine D_buildO (τ:=T_Inst) (t:=12) (xs:=[(0,.tmp 7),(1,.tmp 9),(2,.tmp 12)]) (ps:=fun u=>[(0,.int .i64 a0_1),(1,.int .i64 a0_2),(2,u)]) (cs:=fun u=>[.int .i64 a0_1,.int .i64 a0_2,u,(TL.hdr (TL.nil T_Lead 0))]) rfl (fun u=>(OpVp.cons (OpV.t rfl) (OpVp.cons (OpV.t rfl) (OpVp.cons (OpV.t rfl) (OpVp.nil))))) bld27.h (fun X=>rfl) (by kernel_rfl) ?_
 refine D_alloc zero27.h ?_
 refine s1 ?_
 refine Give_R rfl rfl ?_
 rintro _ _ ⟨bk3,rfl,rfl⟩
 simp only [List.cons_append,List.nil_append]
 refine Give_R rfl rfl ?_
 rintro _ _ ⟨X2,rfl,rfl,rfl⟩
 simp only [List.cons_append,List.nil_append]
 refine s19 ?_
 refine W_conv (M':=treeH (TL.nil T_Lead 0)::_) (fun w h=>addNilT (τ:=T_Lead) 0 h) ?_
 refine W_while (σ:=Int×(TL T_Lead)) GT.dat (fun ((v3_0,v3_1):Int×(TL T_Lead))=>[(17,.int .i64 v3_0)]) (fun ((v3_0,v3_1):Int×(TL T_Lead))=>[blk bk3 [.int .i64 a0_1,.int .i64 a0_2,(TL.hdr X2),(TL.hdr v3_1)] 27,treeH v3_1]) [(2,_),(3,_),(15,_),(16,_)] [blk bk2 _ _,treeH X2] (0,(TL.nil T_Lead 0)) hp sb ms ?_
 clear hp
 rintro ⟨v3_0,v3_1⟩ x3 hp hx3
 replace hp:=dd hp
 refine kq [2,3,15,16,17] ?_
 refine s5 ?_
 refine kp [2,3,15,16,17,18] ?_
 refine W_cond rfl (fun q4=>?_) (fun q4=>?_)
 ·replace hp:=cond_t q4 hp
  refine s5 ?_
  replace hp:=idx_bind hp;obtain ⟨⟨⟨u5_1,u5_2⟩,u5_3,u5_4,u5_5,u5_6,u5_7,u5_8⟩,hy5,hp⟩:=hp
  refine L_idxA (X:=a0_4) rfl rfl rfl el25.h (RdT.old h0.2.2.2) hy5 ?_
  refine L_loadW rfl rfl (RdT.at (RdT.old h0.2.2.2) (hy5).2) (by exact agg89.h) ?_
  refine al fun bk5=>?_
  refine s6 ?_
  replace hp:=ba hp;obtain ⟨y6,hy6,hp⟩:=hp
  refine L_callR rfl fn92.h rfl (by exact fun w hw=>i_copyIds_walk w u5_6 (RdT.now (RdT.fst (RdT.snd (RdT.snd (RdT.snd (RdT.snd (RdT.of (RdT.old h0.2.2.2) (hy5).2)))))) hw) _ hy6) ?_
  rintro _ _ ⟨y6x0,rfl,rfl,rfl⟩
  refine sc ?_
  replace hp:=dd hp
  refine s7 ?_
  refine L_conv (M':=treeH (TL.nil Int 0)::_) (fun w h=>addNilT _ h) ?_
  replace hp:=ba hp;obtain ⟨y8,hy8,hp⟩:=hp
  refine L_appT (X:=(TL.nil Int 0)) (Y:=u5_7) rfl rfl rfl el87.h rfl rfl pk (RdT.fst (RdT.snd (RdT.snd (RdT.snd (RdT.snd (RdT.snd (RdT.of (RdT.old h0.2.2.2) (hy5).2))))))) hy8 (by decide) (fun X7 hdX7=>?_)
  subst hdX7
  refine s7 ?_
  refine L_buildSlice1 rfl rfl el25.h rfl (by decide) (by decide) rfl (fun bb32=>?_)
  replace hp:=ba hp;obtain ⟨y10,hy10,hp⟩:=hp
  refine jL (((u5_1,u5_2),u5_3,u5_4,u5_5,y6x0,X7,u5_8):T_Lead) ?_
  refine L_app1m (X:=v3_1) (((u5_1,u5_2),u5_3,u5_4,u5_5,y6x0,X7,u5_8):T_Lead) rfl rfl rfl el25.h rfl rfl pk mm pk hy10 (by decide) (fun X9 hdX9 hmX9=>?_)
  subst hdX9
  refine s7 ?_
  exact ⟨(IntKind.wrap .i64 (v3_0+1),X9),sb,(.sub ms),some_eq hp⟩
 ·replace hp:=cond_f q4 hp
  refine W_exit ?_
  replace hp:=map_any hp;obtain ⟨a11,hp,z_11⟩:=hp
  obtain rfl:=hx3 _ z_11
  refine s5 ?_
  obtain rfl:=sj hp
  refine jW ((a0_1,a0_2,X2,v3_1):T_ENode) ?_
  refine s1 ?_
  refine res1 rfl (ResOK.cell rfl mm (by exact agg27.h)) ⟨(a0_1,a0_2,X2,v3_1),rfl,rfl,rfl⟩ ms
noncomputable def i_InstPut_c1 (a0:D_Inst) (a1:D_Inst):Option Int :=
 Option.bind (i_compareIds (a0.1.1,a0.1.2) (a1.1.1,a1.1.2)) (fun y1=>some y1)
theorem i_InstPut_c1_walk (w:World) (a0:T_Inst) (a1:T_Inst)  (r:Int) (hp:i_InstPut_c1 (GT.dat a0) (GT.dat a1)=some r):Spec Tryz.prog 178 [.agg (GT.cells a0).toArray,.agg (GT.cells a1).toArray].toArray w [] (IsV (.int .i64 r)):=by
 obtain ⟨⟨a0_1,a0_2⟩,a0_3,a0_4,a0_5,⟨a0_6,a0_7,a0_8,a0_9,a0_10,a0_11,a0_12,a0_13⟩,a0_14,a0_15,a0_16⟩:=a0
 obtain ⟨⟨a1_1,a1_2⟩,a1_3,a1_4,a1_5,⟨a1_6,a1_7,a1_8,a1_9,a1_10,a1_11,a1_12,a1_13⟩,a1_14,a1_15,a1_16⟩:=a1
 change Spec _ _ ([Value.agg #[.int .i64 a0_1,.int .i64 a0_2,.int .i64 a0_3,.int .i64 a0_4,.int .i64 a0_5,.int .i64 a0_6,.int .i64 a0_7,.int .i64 a0_8,.string a0_9,.string a0_10,.string a0_11,.int .i64 a0_12,(TL.hdr a0_13),.int .i64 a0_14,(TL.hdr a0_15),.bool a0_16],Value.agg #[.int .i64 a1_1,.int .i64 a1_2,.int .i64 a1_3,.int .i64 a1_4,.int .i64 a1_5,.int .i64 a1_6,.int .i64 a1_7,.int .i64 a1_8,.string a1_9,.string a1_10,.string a1_11,.int .i64 a1_12,(TL.hdr a1_13),.int .i64 a1_14,(TL.hdr a1_15),.bool a1_16]]:List Value).toArray w [] _
 refine Spec.intro Tryz.func178 rfl Tryz.ntmps178 rfl ?_
 unfold i_InstPut_c1 at hp
 replace hp:=dd hp
 refine s2 ?_
 refine bx fun bk2=>?_
 refine bx fun bk3=>?_
 refine s5 ?_
 refine L_loadW rfl rfl (RdC.seg (RdC.blk mm) 0 2 rfl) (by exact agg29.h) ?_
 refine s1 ?_
 refine L_loadW rfl rfl (RdC.seg (RdC.blk mm) 0 2 rfl) (by exact agg29.h) ?_
 replace hp:=ba hp;obtain ⟨y1,hy1,hp⟩:=hp
 refine L_callX rfl fn159.h rfl (by exact fun w hw=>i_compareIds_walk w (a0_1,a0_2) (a1_1,a1_2) (RdT.now (RdT.pair RdT.int RdT.int) hw) (RdT.now (RdT.pair RdT.int RdT.int) hw) _ hy1) ?_
 refine s2 ?_
 obtain rfl:=sj hp
 refine s1 ?_
 refine res1 rfl (ResOK.tmp rfl) ⟨rfl,rfl⟩ ms
noncomputable def i_InstPut (a0:List D_Inst) (a1:D_Inst):Option (List D_Inst) :=
 Option.bind (i_InstsOk a0) (fun y1=>cond (!y1) (some ([]:List D_Inst)) (Option.bind (i_copyInsts a0) (fun y3=>Option.bind (i_instAt a0 (a1.1.1,a1.1.2)) (fun y4=>cond (decide (0≤y4)) (Option.bind (i_copyInst ((a1.1.1,a1.1.2),a1.2.1,a1.2.2.1,a1.2.2.2.1,(a1.2.2.2.2.1.1,a1.2.2.2.2.1.2.1,a1.2.2.2.2.1.2.2.1,a1.2.2.2.2.1.2.2.2.1,a1.2.2.2.2.1.2.2.2.2.1,a1.2.2.2.2.1.2.2.2.2.2.1,a1.2.2.2.2.1.2.2.2.2.2.2.1,a1.2.2.2.2.1.2.2.2.2.2.2.2),a1.2.2.2.2.2.1,a1.2.2.2.2.2.2.1,a1.2.2.2.2.2.2.2)) (fun y6=>Option.bind (idx y3 y4) (fun y7=>Option.bind (some (y3.set (y4.toNat) ((y6.1.1,y6.1.2),y6.2.1,y6.2.2.1,y6.2.2.2.1,(y6.2.2.2.2.1.1,y6.2.2.2.2.1.2.1,y6.2.2.2.2.1.2.2.1,y6.2.2.2.2.1.2.2.2.1,y6.2.2.2.2.1.2.2.2.2.1,y6.2.2.2.2.1.2.2.2.2.2.1,y6.2.2.2.2.1.2.2.2.2.2.2.1,y6.2.2.2.2.1.2.2.2.2.2.2.2),y6.2.2.2.2.2.1,y6.2.2.2.2.2.2.1,y6.2.2.2.2.2.2.2))) (fun y8=>Option.bind (sortFn y8 (fun z0 z1=>i_InstPut_c1 z0 z1 )) (fun y10=>Option.bind (i_InstsOk y10) (fun y11=>cond (!y11) (Option.bind (i_copyInsts a0) (fun y13=>some y13)) (some y10))))))) (Option.bind (i_copyInst ((a1.1.1,a1.1.2),a1.2.1,a1.2.2.1,a1.2.2.2.1,(a1.2.2.2.2.1.1,a1.2.2.2.2.1.2.1,a1.2.2.2.2.1.2.2.1,a1.2.2.2.2.1.2.2.2.1,a1.2.2.2.2.1.2.2.2.2.1,a1.2.2.2.2.1.2.2.2.2.2.1,a1.2.2.2.2.1.2.2.2.2.2.2.1,a1.2.2.2.2.1.2.2.2.2.2.2.2),a1.2.2.2.2.2.1,a1.2.2.2.2.2.2.1,a1.2.2.2.2.2.2.2)) (fun y14=>Option.bind (appP y3 [((y14.1.1,y14.1.2),y14.2.1,y14.2.2.1,y14.2.2.2.1,(y14.2.2.2.2.1.1,y14.2.2.2.2.1.2.1,y14.2.2.2.2.1.2.2.1,y14.2.2.2.2.1.2.2.2.1,y14.2.2.2.2.1.2.2.2.2.1,y14.2.2.2.2.1.2.2.2.2.2.1,y14.2.2.2.2.1.2.2.2.2.2.2.1,y14.2.2.2.2.1.2.2.2.2.2.2.2),y14.2.2.2.2.2.1,y14.2.2.2.2.2.2.1,y14.2.2.2.2.2.2.2)]) (fun y16=>Option.bind (sortFn y16 (fun z0 z1=>i_InstPut_c1 z0 z1 )) (fun y17=>Option.bind (i_InstsOk y17) (fun y18=>cond (!y18) (Option.bind (i_copyInsts a0) (fun y20=>some y20)) (some y17))))))))))
theorem i_InstPut_walk (w:World) (a0:TL T_Inst) (a1:T_Inst) (h0:GT.rd w [] a0) (h1:GT.rd w [] a1) (r:(List D_Inst)) (hp:i_InstPut (GT.dat a0) (GT.dat a1)=some r):Spec Tryz.prog 136 [(TL.hdr a0),.agg (GT.cells a1).toArray].toArray w [] (fun v M=>∃ (x0:TL T_Inst),v=(TL.hdr x0)∧GT.dat x0=r∧M=[treeH x0]):=by
 obtain ⟨⟨a1_1,a1_2⟩,a1_3,a1_4,a1_5,⟨a1_6,a1_7,a1_8,a1_9,a1_10,a1_11,a1_12,a1_13⟩,a1_14,a1_15,a1_16⟩:=a1
 change Spec _ _ ([(TL.hdr a0),Value.agg #[.int .i64 a1_1,.int .i64 a1_2,.int .i64 a1_3,.int .i64 a1_4,.int .i64 a1_5,.int .i64 a1_6,.int .i64 a1_7,.int .i64 a1_8,.string a1_9,.string a1_10,.string a1_11,.int .i64 a1_12,(TL.hdr a1_13),.int .i64 a1_14,(TL.hdr a1_15),.bool a1_16]]:List Value).toArray w [] _
 refine Spec.intro Tryz.func136 rfl Tryz.ntmps136 rfl ?_
 unfold i_InstPut at hp
 replace hp:=dd hp
 refine s2 ?_
 refine bx fun bk3=>?_
 refine L_assign (v:=(TL.hdr (TL.nil T_Inst 0))) rfl rfl ?_
 refine s5 ?_
 replace hp:=ba hp;obtain ⟨y1,hy1,hp⟩:=hp
 refine L_callX rfl fn107.h rfl (by exact fun w hw=>i_InstsOk_walk w a0 (RdT.now (RdT.old h0) hw) _ hy1) ?_
 refine s2 ?_
 refine kp [0,3,9] ?_
 refine W_cond rfl (fun q2=>?_) (fun q2=>?_)
 ·replace hp:=cond_t q2 hp
  refine s2 ?_
  refine L_assign (v:=(TL.hdr (TL.nil T_Inst 0))) rfl rfl ?_
  refine s1 ?_
  obtain rfl:=sj hp
  refine W_conv (M':=treeH (TL.nil T_Inst 0)::_) (fun w h=>addNilT (τ:=T_Inst) 0 h) ?_
  refine s1 ?_
  refine res1 rfl (ResOK.tmp rfl) ⟨(TL.nil T_Inst 0),rfl,rfl,rfl⟩ ms
 ·replace hp:=cond_f q2 hp
  refine s4 ?_
  replace hp:=ba hp;obtain ⟨y3,hy3,hp⟩:=hp
  refine L_callR rfl fn110.h rfl (by exact fun w hw=>i_copyInsts_walk w a0 (RdT.now (RdT.old h0) hw) _ hy3) ?_
  rintro _ _ ⟨y3x0,rfl,rfl,rfl⟩
  refine sc ?_
  replace hp:=dd hp
  refine s7 ?_
  refine L_loadW rfl rfl (RdC.seg (RdC.blk mm) 0 2 rfl) (by exact agg29.h) ?_
  replace hp:=ba hp;obtain ⟨y4,hy4,hp⟩:=hp
  refine L_callX rfl fn131.h rfl (by exact fun w hw=>i_instAt_walk w a0 (a1_1,a1_2) (RdT.now (RdT.old h0) hw) (RdT.now (RdT.pair RdT.int RdT.int) hw) _ hy4) ?_
  refine s7 ?_
  refine kp [0,3,5,6,17] ?_
  refine W_cond rfl (fun q5=>?_) (fun q5=>?_)
  ·replace hp:=cond_t q5 hp
   refine s4 ?_
   replace hp:=ba hp;obtain ⟨y6,hy6,hp⟩:=hp
   refine L_callR rfl fn132.h rfl (by exact fun w hw=>i_copyInst_walk w ((a1_1,a1_2),a1_3,a1_4,a1_5,(a1_6,a1_7,a1_8,a1_9,a1_10,a1_11,a1_12,a1_13),a1_14,a1_15,a1_16) (RdT.now (RdT.pair (RdT.pair RdT.int RdT.int) (RdT.pair RdT.int (RdT.pair RdT.int (RdT.pair RdT.int (RdT.pair (RdT.pair RdT.int (RdT.pair RdT.int (RdT.pair RdT.int (RdT.pair RdT.str (RdT.pair RdT.str (RdT.pair RdT.str (RdT.pair RdT.int (RdT.old h1.2.2.2.2.1.2.2.2.2.2.2.2)))))))) (RdT.pair RdT.int (RdT.pair (RdT.old h1.2.2.2.2.2.2.1) RdT.bool))))))) hw) _ hy6) ?_
   rintro _ _ ⟨⟨⟨y6x0_1,y6x0_2⟩,y6x0_3,y6x0_4,y6x0_5,⟨y6x0_6,y6x0_7,y6x0_8,y6x0_9,y6x0_10,y6x0_11,y6x0_12,y6x0_13⟩,y6x0_14,y6x0_15,y6x0_16⟩,rfl,rfl,rfl⟩
   refine sc ?_
   replace hp:=dd hp
   refine xL (((y6x0_1,y6x0_2),y6x0_3,y6x0_4,y6x0_5,(y6x0_6,y6x0_7,y6x0_8,y6x0_9,y6x0_10,y6x0_11,y6x0_12,y6x0_13),y6x0_14,y6x0_15,y6x0_16):T_Inst) ?_
   replace hp:=idx_bind hp;obtain ⟨⟨⟨u7_1,u7_2⟩,u7_3,u7_4,u7_5,⟨u7_6,u7_7,u7_8,u7_9,u7_10,u7_11,u7_12,u7_13⟩,u7_14,u7_15,u7_16⟩,hy7,hp⟩:=hp
   refine L_idxA (X:=y3x0) rfl rfl rfl el24.h (RdT.tree mm) hy7 ?_
   refine L_conv (M':=treeH ((u7_1,u7_2),u7_3,u7_4,u7_5,(u7_6,u7_7,u7_8,u7_9,u7_10,u7_11,u7_12,u7_13),u7_14,u7_15,u7_16)::holeH y3x0 (y4.toNat) (GT.cells ((u7_1,u7_2),u7_3,u7_4,u7_5,(u7_6,u7_7,u7_8,u7_9,u7_10,u7_11,u7_12,u7_13),u7_14,u7_15,u7_16))::_) (fun w h=>hole_open hy7.2 pk h) ?_
   refine xL (((u7_1,u7_2),u7_3,u7_4,u7_5,(u7_6,u7_7,u7_8,u7_9,u7_10,u7_11,u7_12,u7_13),u7_14,u7_15,u7_16):T_Inst) ?_
   refine L_stH (X:=y3x0) (i:=y4.toNat) (sz:=16) (fo:=0) (n:=16) rfl rfl pk rfl (.inl agg45.h) rfl (allOne rfl) (Nat.le_of_ble_eq_true rfl) ?_
   refine jL (((y6x0_1,y6x0_2),y6x0_3,y6x0_4,y6x0_5,(y6x0_6,y6x0_7,y6x0_8,y6x0_9,y6x0_10,y6x0_11,y6x0_12,y6x0_13),y6x0_14,y6x0_15,y6x0_16):T_Inst) ?_
   replace hp:=ba hp;obtain ⟨y8,hy8,hp⟩:=hp
   refine L_close (X:=y3x0) (((y6x0_1,y6x0_2),y6x0_3,y6x0_4,y6x0_5,(y6x0_6,y6x0_7,y6x0_8,y6x0_9,y6x0_10,y6x0_11,y6x0_12,y6x0_13),y6x0_14,y6x0_15,y6x0_16):T_Inst) rfl pk pk hy8 (fun X9 hdX9 hhX9=>?_)
   subst hdX9
   try rw [← hhX9]
   try rw [← g_of_hdr hhX9]
   try rw [← o_of_hdr hhX9]
   refine s4 ?_
   replace hp:=ba hp;obtain ⟨y10,hy10,hp⟩:=hp
   refine L_callM [treeH X9] _ rfl fn177.h rfl pc (by exact fun w hw=>sl_SortFunc_implInstimplInst_walk w X9 178 [] (fun z0 z1=>i_InstPut_c1 z0 z1 ) fn178.h (fun w' F u0 u1 v hF  hv=>i_InstPut_c1_walk w' u0 u1  v hv) _ hy10) ?_
   rintro _ _ ⟨y10y0,rfl,rfl,rfl,hey10_0⟩
   try rw [← hey10_0]
   refine sc ?_
   replace hp:=dd hp
   refine s5 ?_
   replace hp:=ba hp;obtain ⟨y11,hy11,hp⟩:=hp
   refine L_callX rfl fn107.h rfl (by exact fun w hw=>i_InstsOk_walk w y10y0 (RdT.now (RdT.tree mm) hw) _ hy11) ?_
   refine s2 ?_
   refine kp [0,5,32] ?_
   refine W_cond rfl (fun q12=>?_) (fun q12=>?_)
   ·replace hp:=cond_t q12 hp
    refine s3 ?_
    replace hp:=ba hp;obtain ⟨y13,hy13,hp⟩:=hp
    refine L_callR rfl fn110.h rfl (by exact fun w hw=>i_copyInsts_walk w a0 (RdT.now (RdT.old h0) hw) _ hy13) ?_
    rintro _ _ ⟨y13x0,rfl,rfl,rfl⟩
    refine sc ?_
    replace hp:=dd hp
    refine s2 ?_
    obtain rfl:=sj hp
    refine s1 ?_
    refine res1 rfl (ResOK.tmp rfl) ⟨y13x0,rfl,rfl,rfl⟩ ms
   ·replace hp:=cond_f q12 hp
    refine s6 ?_
    obtain rfl:=sj hp
    refine s1 ?_
    refine res1 rfl (ResOK.tmp rfl) ⟨y10y0,rfl,rfl,rfl⟩ ms
  ·replace hp:=cond_f q5 hp
   refine s3 ?_
   replace hp:=ba hp;obtain ⟨y14,hy14,hp⟩:=hp
   refine L_callR rfl fn132.h rfl (by exact fun w hw=>i_copyInst_walk w ((a1_1,a1_2),a1_3,a1_4,a1_5,(a1_6,a1_7,a1_8,a1_9,a1_10,a1_11,a1_12,a1_13),a1_14,a1_15,a1_16) (RdT.now (RdT.pair (RdT.pair RdT.int RdT.int) (RdT.pair RdT.int (RdT.pair RdT.int (RdT.pair RdT.int (RdT.pair (RdT.pair RdT.int (RdT.pair RdT.int (RdT.pair RdT.int (RdT.pair RdT.str (RdT.pair RdT.str (RdT.pair RdT.str (RdT.pair RdT.int (RdT.old h1.2.2.2.2.1.2.2.2.2.2.2.2)))))))) (RdT.pair RdT.int (RdT.pair (RdT.old h1.2.2.2.2.2.2.1) RdT.bool))))))) hw) _ hy14) ?_
   rintro _ _ ⟨⟨⟨y14x0_1,y14x0_2⟩,y14x0_3,y14x0_4,y14x0_5,⟨y14x0_6,y14x0_7,y14x0_8,y14x0_9,y14x0_10,y14x0_11,y14x0_12,y14x0_13⟩,y14x0_14,y14x0_15,y14x0_16⟩,rfl,rfl,rfl⟩
   refine sc ?_
   replace hp:=dd hp
   refine xL (((y14x0_1,y14x0_2),y14x0_3,y14x0_4,y14x0_5,(y14x0_6,y14x0_7,y14x0_8,y14x0_9,y14x0_10,y14x0_11,y14x0_12,y14x0_13),y14x0_14,y14x0_15,y14x0_16):T_Inst) ?_
   refine L_buildSlice1 rfl rfl el24.h rfl (by decide) (by decide) rfl (fun bb26=>?_)
   replace hp:=ba hp;obtain ⟨y16,hy16,hp⟩:=hp
   refine jL (((y14x0_1,y14x0_2),y14x0_3,y14x0_4,y14x0_5,(y14x0_6,y14x0_7,y14x0_8,y14x0_9,y14x0_10,y14x0_11,y14x0_12,y14x0_13),y14x0_14,y14x0_15,y14x0_16):T_Inst) ?_
   refine L_app1m (X:=y3x0) (((y14x0_1,y14x0_2),y14x0_3,y14x0_4,y14x0_5,(y14x0_6,y14x0_7,y14x0_8,y14x0_9,y14x0_10,y14x0_11,y14x0_12,y14x0_13),y14x0_14,y14x0_15,y14x0_16):T_Inst) rfl rfl rfl el24.h rfl rfl pk mm pk hy16 (by decide) (fun X15 hdX15 hmX15=>?_)
   subst hdX15
   refine s5 ?_
   replace hp:=ba hp;obtain ⟨y17,hy17,hp⟩:=hp
   refine L_callM [treeH X15] _ rfl fn177.h rfl pc (by exact fun w hw=>sl_SortFunc_implInstimplInst_walk w X15 178 [] (fun z0 z1=>i_InstPut_c1 z0 z1 ) fn178.h (fun w' F u0 u1 v hF  hv=>i_InstPut_c1_walk w' u0 u1  v hv) _ hy17) ?_
   rintro _ _ ⟨y17y0,rfl,rfl,rfl,hey17_0⟩
   try rw [← hey17_0]
   refine sc ?_
   replace hp:=dd hp
   refine s5 ?_
   replace hp:=ba hp;obtain ⟨y18,hy18,hp⟩:=hp
   refine L_callX rfl fn107.h rfl (by exact fun w hw=>i_InstsOk_walk w y17y0 (RdT.now (RdT.tree mm) hw) _ hy18) ?_
   refine s2 ?_
   refine kp [0,5,32] ?_
   refine W_cond rfl (fun q19=>?_) (fun q19=>?_)
   ·replace hp:=cond_t q19 hp
    refine s3 ?_
    replace hp:=ba hp;obtain ⟨y20,hy20,hp⟩:=hp
    refine L_callR rfl fn110.h rfl (by exact fun w hw=>i_copyInsts_walk w a0 (RdT.now (RdT.old h0) hw) _ hy20) ?_
    rintro _ _ ⟨y20x0,rfl,rfl,rfl⟩
    refine sc ?_
    replace hp:=dd hp
    refine s2 ?_
    obtain rfl:=sj hp
    refine s1 ?_
    refine res1 rfl (ResOK.tmp rfl) ⟨y20x0,rfl,rfl,rfl⟩ ms
   ·replace hp:=cond_f q19 hp
    refine s6 ?_
    obtain rfl:=sj hp
    refine s1 ?_
    refine res1 rfl (ResOK.tmp rfl) ⟨y17y0,rfl,rfl,rfl⟩ ms
noncomputable def i_ENode_put (a0:D_ENode) (a1:D_Inst):Option (Bool×D_ENode) :=
 Option.bind (i_instOk ((a1.1.1,a1.1.2),a1.2.1,a1.2.2.1,a1.2.2.2.1,(a1.2.2.2.2.1.1,a1.2.2.2.2.1.2.1,a1.2.2.2.2.1.2.2.1,a1.2.2.2.2.1.2.2.2.1,a1.2.2.2.2.1.2.2.2.2.1,a1.2.2.2.2.1.2.2.2.2.2.1,a1.2.2.2.2.1.2.2.2.2.2.2.1,a1.2.2.2.2.1.2.2.2.2.2.2.2),a1.2.2.2.2.2.1,a1.2.2.2.2.2.2.1,a1.2.2.2.2.2.2.2)) (fun y1=>cond (!y1) (some (false,(a0.1,a0.2.1,a0.2.2.1,a0.2.2.2))) (Option.bind (i_InstPut a0.2.2.1 ((a1.1.1,a1.1.2),a1.2.1,a1.2.2.1,a1.2.2.2.1,(a1.2.2.2.2.1.1,a1.2.2.2.2.1.2.1,a1.2.2.2.2.1.2.2.1,a1.2.2.2.2.1.2.2.2.1,a1.2.2.2.2.1.2.2.2.2.1,a1.2.2.2.2.1.2.2.2.2.2.1,a1.2.2.2.2.1.2.2.2.2.2.2.1,a1.2.2.2.2.1.2.2.2.2.2.2.2),a1.2.2.2.2.2.1,a1.2.2.2.2.2.2.1,a1.2.2.2.2.2.2.2)) (fun y3=>some (true,(a0.1,a0.2.1,y3,a0.2.2.2)))))
theorem i_ENode_put_walk (w:World) (b0_:Nat) (a0:T_ENode) (a1:T_Inst) (h1:GT.rd w (fps [blk b0_ (GT.cells a0) 27,treeH a0.2.2.1]) a1) (h0_3:GT.rd w (fps [blk b0_ (GT.cells a0) 27,treeH a0.2.2.1]) a0.2.2.2) (r:Bool×D_ENode) (hp:i_ENode_put (GT.dat a0) (GT.dat a1)=some r):Spec Tryz.prog 64 [Value.pointer (some ⟨b0_,0,none⟩),.agg (GT.cells a1).toArray].toArray w [blk b0_ (GT.cells a0) 27,treeH a0.2.2.1] (fun v M=>∃ (x0:Bool) (y0:T_ENode),v=.bool x0∧(GT.dat x0,GT.dat y0)=r∧M=[blk b0_ (GT.cells y0) 27,treeH y0.2.2.1]∧y0.2.2.2=a0.2.2.2):=by
 obtain ⟨a0_1,a0_2,a0_3,a0_4⟩:=a0
 obtain ⟨⟨a1_1,a1_2⟩,a1_3,a1_4,a1_5,⟨a1_6,a1_7,a1_8,a1_9,a1_10,a1_11,a1_12,a1_13⟩,a1_14,a1_15,a1_16⟩:=a1
 change Spec _ _ ([Value.pointer (some ⟨b0_,0,none⟩),Value.agg #[.int .i64 a1_1,.int .i64 a1_2,.int .i64 a1_3,.int .i64 a1_4,.int .i64 a1_5,.int .i64 a1_6,.int .i64 a1_7,.int .i64 a1_8,.string a1_9,.string a1_10,.string a1_11,.int .i64 a1_12,(TL.hdr a1_13),.int .i64 a1_14,(TL.hdr a1_15),.bool a1_16]]:List Value).toArray w _ _
 refine Spec.intro Tryz.func64 rfl Tryz.ntmps64 rfl ?_
 unfold i_ENode_put at hp
 replace hp:=dd hp
 refine s2 ?_
 refine bx fun bk3=>?_
 refine s6 ?_
 replace hp:=ba hp;obtain ⟨y1,hy1,hp⟩:=hp
 refine L_callX rfl fn135.h rfl (by exact fun w hw=>i_instOk_walk w ((a1_1,a1_2),a1_3,a1_4,a1_5,(a1_6,a1_7,a1_8,a1_9,a1_10,a1_11,a1_12,a1_13),a1_14,a1_15,a1_16) (RdT.now (RdT.pair (RdT.pair RdT.int RdT.int) (RdT.pair RdT.int (RdT.pair RdT.int (RdT.pair RdT.int (RdT.pair (RdT.pair RdT.int (RdT.pair RdT.int (RdT.pair RdT.int (RdT.pair RdT.str (RdT.pair RdT.str (RdT.pair RdT.str (RdT.pair RdT.int (RdT.old h1.2.2.2.2.1.2.2.2.2.2.2.2)))))))) (RdT.pair RdT.int (RdT.pair (RdT.old h1.2.2.2.2.2.2.1) RdT.bool))))))) hw) _ hy1) ?_
 refine s2 ?_
 refine kp [0,3,7] ?_
 refine W_cond rfl (fun q2=>?_) (fun q2=>?_)
 ·replace hp:=cond_t q2 hp
  refine s4 ?_
  obtain rfl:=sj hp
  refine s1 ?_
  refine res1 rfl (ResOK.tmp rfl) ⟨false,(a0_1,a0_2,a0_3,a0_4),rfl,rfl,rfl,rfl⟩ ms
 ·replace hp:=cond_f q2 hp
  refine s2 ?_
  replace hp:=ba hp;obtain ⟨y3,hy3,hp⟩:=hp
  refine W_DS (pre:=[_,_,_,_,_,_,_]) (suf:=[_,_,_]) [8,14] [] _ pc mix (by kernel_rfl) (by kernel_rfl) rfl ?_
  refine s6 ?_
  refine D_call1R (fun v M=>∃ (x0:TL T_Inst),v=(TL.hdr x0)∧GT.dat x0=y3∧M=[treeH x0]) fn136.h (OpVs.cons (OpV.t rfl) (OpVs.cons (OpV.t rfl) (OpVs.nil))) (by exact fun w F hF hM=>i_InstPut_walk w a0_3 ((a1_1,a1_2),a1_3,a1_4,a1_5,(a1_6,a1_7,a1_8,a1_9,a1_10,a1_11,a1_12,a1_13),a1_14,a1_15,a1_16) (RdT.nowS (RdT.tree mm) hF hM) (RdT.nowS (RdT.pair (RdT.pair RdT.int RdT.int) (RdT.pair RdT.int (RdT.pair RdT.int (RdT.pair RdT.int (RdT.pair (RdT.pair RdT.int (RdT.pair RdT.int (RdT.pair RdT.int (RdT.pair RdT.str (RdT.pair RdT.str (RdT.pair RdT.str (RdT.pair RdT.int (RdT.old h1.2.2.2.2.1.2.2.2.2.2.2.2)))))))) (RdT.pair RdT.int (RdT.pair (RdT.old h1.2.2.2.2.2.2.1) RdT.bool))))))) hF hM) _ hy3) ?_
  refine s1 ?_
  refine Give_R rfl rfl ?_
  rintro _ _ ⟨y3x0,rfl,rfl,rfl⟩
  refine s7 ?_
  refine sc ?_
  replace hp:=dd hp
  refine s8 ?_
  obtain rfl:=sj hp
  refine s1 ?_
  refine res1 rfl (ResOK.tmp rfl) ⟨true,(a0_1,a0_2,y3x0,a0_4),rfl,rfl,rfl,rfl⟩ ms
noncomputable def i_copyEMsg (a0:D_EMsg):Option D_EMsg :=
 Option.bind (i_copyCmd (a0.2.2.2.2.2.1.1,a0.2.2.2.2.2.1.2.1,a0.2.2.2.2.2.1.2.2.1,a0.2.2.2.2.2.1.2.2.2.1,a0.2.2.2.2.2.1.2.2.2.2.1,a0.2.2.2.2.2.1.2.2.2.2.2.1,a0.2.2.2.2.2.1.2.2.2.2.2.2.1,a0.2.2.2.2.2.1.2.2.2.2.2.2.2)) (fun y1=>Option.bind (i_copyIds a0.2.2.2.2.2.2.2.1) (fun y2=>some (a0.1,a0.2.1,a0.2.2.1,(a0.2.2.2.1.1,a0.2.2.2.1.2),a0.2.2.2.2.1,(y1.1,y1.2.1,y1.2.2.1,y1.2.2.2.1,y1.2.2.2.2.1,y1.2.2.2.2.2.1,y1.2.2.2.2.2.2.1,y1.2.2.2.2.2.2.2),a0.2.2.2.2.2.2.1,y2,a0.2.2.2.2.2.2.2.2.1,a0.2.2.2.2.2.2.2.2.2.1,a0.2.2.2.2.2.2.2.2.2.2)))
theorem i_copyEMsg_walk (w:World) (a0:T_EMsg) (h0:GT.rd w [] a0) (r:D_EMsg) (hp:i_copyEMsg (GT.dat a0)=some r):Spec Tryz.prog 137 [.agg (GT.cells a0).toArray].toArray w [] (fun v M=>∃ (x0:T_EMsg),v=.agg (GT.cells x0).toArray∧GT.dat x0=r∧M=[treeH x0]):=by
 obtain ⟨a0_1,a0_2,a0_3,⟨a0_4,a0_5⟩,a0_6,⟨a0_7,a0_8,a0_9,a0_10,a0_11,a0_12,a0_13,a0_14⟩,a0_15,a0_16,a0_17,a0_18,a0_19⟩:=a0
 change Spec _ _ ([Value.agg #[.int .i64 a0_1,.int .i64 a0_2,.int .i64 a0_3,.int .i64 a0_4,.int .i64 a0_5,.int .i64 a0_6,.int .i64 a0_7,.int .i64 a0_8,.int .i64 a0_9,.string a0_10,.string a0_11,.string a0_12,.int .i64 a0_13,(TL.hdr a0_14),.int .i64 a0_15,(TL.hdr a0_16),.int .i64 a0_17,.int .i64 a0_18,.bool a0_19]]:List Value).toArray w [] _
 refine Spec.intro Tryz.func137 rfl Tryz.ntmps137 rfl ?_
 unfold i_copyEMsg at hp
 replace hp:=dd hp
 refine s2 ?_
 refine bx fun bk1=>?_
 refine al fun bk2=>?_
 refine s4 ?_
 refine L_loadW rfl rfl (RdC.seg (RdC.blk mm) 6 8 rfl) (by exact agg32.h) ?_
 replace hp:=ba hp;obtain ⟨y1,hy1,hp⟩:=hp
 refine L_callR rfl fn162.h rfl (by exact fun w hw=>i_copyCmd_walk w (a0_7,a0_8,a0_9,a0_10,a0_11,a0_12,a0_13,a0_14) (RdT.now (RdT.pair RdT.int (RdT.pair RdT.int (RdT.pair RdT.int (RdT.pair RdT.str (RdT.pair RdT.str (RdT.pair RdT.str (RdT.pair RdT.int (RdT.old h0.2.2.2.2.2.1.2.2.2.2.2.2.2)))))))) hw) _ hy1) ?_
 rintro _ _ ⟨⟨y1x0_1,y1x0_2,y1x0_3,y1x0_4,y1x0_5,y1x0_6,y1x0_7,y1x0_8⟩,rfl,rfl,rfl⟩
 refine sc ?_
 replace hp:=dd hp
 refine xL ((y1x0_1,y1x0_2,y1x0_3,y1x0_4,y1x0_5,y1x0_6,y1x0_7,y1x0_8):T_Cmd) ?_
 refine s1 ?_
 refine L_storeA (fo:=6) rfl rfl pk (by exact agg32.h) (Nat.le_of_ble_eq_true rfl) ocs rfl ?_
 refine s5 ?_
 replace hp:=ba hp;obtain ⟨y2,hy2,hp⟩:=hp
 refine L_callR rfl fn92.h rfl (by exact fun w hw=>i_copyIds_walk w a0_16 (RdT.now (RdT.old h0.2.2.2.2.2.2.2.1) hw) _ hy2) ?_
 rintro _ _ ⟨y2x0,rfl,rfl,rfl⟩
 refine sc ?_
 replace hp:=dd hp
 refine s8 ?_
 obtain rfl:=sj hp
 refine jW ((a0_1,a0_2,a0_3,(a0_4,a0_5),a0_6,(y1x0_1,y1x0_2,y1x0_3,y1x0_4,y1x0_5,y1x0_6,y1x0_7,y1x0_8),a0_15,y2x0,a0_17,a0_18,a0_19):T_EMsg) ?_
 refine s1 ?_
 refine res1 rfl (ResOK.cell rfl mm (by exact agg35.h)) ⟨(a0_1,a0_2,a0_3,(a0_4,a0_5),a0_6,(y1x0_1,y1x0_2,y1x0_3,y1x0_4,y1x0_5,y1x0_6,y1x0_7,y1x0_8),a0_15,y2x0,a0_17,a0_18,a0_19),rfl,rfl,rfl⟩ ms
noncomputable def i_ENode_sent (a0:D_ENode) (a1:D_EMsg):Option (List D_EMsg) :=
 Option.bind (some ([]:List D_EMsg)) (fun y2=>whileP (fun s3:(List D_EMsg)×Int=>cond (decide (s3.2 < 3)) (cond (!decide (s3.2=a0.1)) (Option.bind (i_copyEMsg (a1.1,a1.2.1,a1.2.2.1,(a1.2.2.2.1.1,a1.2.2.2.1.2),a1.2.2.2.2.1,(a1.2.2.2.2.2.1.1,a1.2.2.2.2.2.1.2.1,a1.2.2.2.2.2.1.2.2.1,a1.2.2.2.2.2.1.2.2.2.1,a1.2.2.2.2.2.1.2.2.2.2.1,a1.2.2.2.2.2.1.2.2.2.2.2.1,a1.2.2.2.2.2.1.2.2.2.2.2.2.1,a1.2.2.2.2.2.1.2.2.2.2.2.2.2),a1.2.2.2.2.2.2.1,a1.2.2.2.2.2.2.2.1,a1.2.2.2.2.2.2.2.2.1,a1.2.2.2.2.2.2.2.2.2.1,a1.2.2.2.2.2.2.2.2.2.2)) (fun y6=>Option.bind (appP s3.1 [(y6.1,a0.1,s3.2,(y6.2.2.2.1.1,y6.2.2.2.1.2),y6.2.2.2.2.1,(y6.2.2.2.2.2.1.1,y6.2.2.2.2.2.1.2.1,y6.2.2.2.2.2.1.2.2.1,y6.2.2.2.2.2.1.2.2.2.1,y6.2.2.2.2.2.1.2.2.2.2.1,y6.2.2.2.2.2.1.2.2.2.2.2.1,y6.2.2.2.2.2.1.2.2.2.2.2.2.1,y6.2.2.2.2.2.1.2.2.2.2.2.2.2),y6.2.2.2.2.2.2.1,y6.2.2.2.2.2.2.2.1,y6.2.2.2.2.2.2.2.2.1,y6.2.2.2.2.2.2.2.2.2.1,y6.2.2.2.2.2.2.2.2.2.2)]) (fun y8=>some (.inl ((y8,IntKind.wrap .i64 (s3.2+1))))))) (some (.inl ((s3.1,IntKind.wrap .i64 (s3.2+1)))))) (Option.map .inr (some s3.1))) (y2,0))
theorem i_ENode_sent_walk (w:World) (b0_:Nat) (a0:T_ENode) (a1:T_EMsg) (hbb0_:Cells w [] b0_ 0 (GT.cells a0)) (h0:GT.rd w [] a0) (h1:GT.rd w [] a1) (r:(List D_EMsg)) (hp:i_ENode_sent (GT.dat a0) (GT.dat a1)=some r):Spec Tryz.prog 65 [Value.pointer (some ⟨b0_,0,none⟩),.agg (GT.cells a1).toArray].toArray w [] (fun v M=>∃ (x0:TL T_EMsg),v=(TL.hdr x0)∧GT.dat x0=r∧M=[treeH x0]):=by
 obtain ⟨a0_1,a0_2,a0_3,a0_4⟩:=a0
 obtain ⟨a1_1,a1_2,a1_3,⟨a1_4,a1_5⟩,a1_6,⟨a1_7,a1_8,a1_9,a1_10,a1_11,a1_12,a1_13,a1_14⟩,a1_15,a1_16,a1_17,a1_18,a1_19⟩:=a1
 change Spec _ _ ([Value.pointer (some ⟨b0_,0,none⟩),Value.agg #[.int .i64 a1_1,.int .i64 a1_2,.int .i64 a1_3,.int .i64 a1_4,.int .i64 a1_5,.int .i64 a1_6,.int .i64 a1_7,.int .i64 a1_8,.int .i64 a1_9,.string a1_10,.string a1_11,.string a1_12,.int .i64 a1_13,(TL.hdr a1_14),.int .i64 a1_15,(TL.hdr a1_16),.int .i64 a1_17,.int .i64 a1_18,.bool a1_19]]:List Value).toArray w [] _
 refine Spec.intro Tryz.func65 rfl Tryz.ntmps65 rfl ?_
 unfold i_ENode_sent at hp
 replace hp:=dd hp
 refine s2 ?_
 refine bx fun bk3=>?_
 refine L_assign (v:=(TL.hdr (TL.nil T_EMsg 0))) rfl rfl ?_
 refine s3 ?_
 replace hp:=ba hp;obtain ⟨y2,hy2,hp⟩:=hp
 refine L_mk0R T_EMsg rfl el38.h (fun X1 hdX1 hzX1=>?_)
 obtain rfl:GT.dat X1=y2:=hdX1.trans (Option.some.inj hy2)
 clear hy2 hdX1
 refine s8 ?_
 refine W_while (σ:=(TL T_EMsg)×Int) GT.dat (fun ((v3_0,v3_1):(TL T_EMsg)×Int)=>[(5,(TL.hdr v3_0)),(9,.int .i64 v3_1)]) (fun ((v3_0,v3_1):(TL T_EMsg)×Int)=>[treeH v3_0]) [(0,_),(3,_)] [blk bk3 _ _] (X1,0) hp sb ms ?_
 clear hp
 rintro ⟨v3_0,v3_1⟩ x3 hp hx3
 replace hp:=dd hp
 refine kq [0,3,5,9] ?_
 refine s5 ?_
 refine kp [0,3,5,9,10] ?_
 refine W_cond rfl (fun q4=>?_) (fun q4=>?_)
 ·replace hp:=cond_t q4 hp
  refine s14 ?_
  refine L_load rfl rfl (RdC.old hbb0_) one3.h rfl ?_
  refine s2 ?_
  refine kp [0,3,5,6,9,17] ?_
  refine W_cond rfl (fun q5=>?_) (fun q5=>?_)
  ·replace hp:=cond_t q5 hp
   refine s3 ?_
   replace hp:=ba hp;obtain ⟨y6,hy6,hp⟩:=hp
   refine L_callR rfl fn137.h rfl (by exact fun w hw=>i_copyEMsg_walk w (a1_1,a1_2,a1_3,(a1_4,a1_5),a1_6,(a1_7,a1_8,a1_9,a1_10,a1_11,a1_12,a1_13,a1_14),a1_15,a1_16,a1_17,a1_18,a1_19) (RdT.now (RdT.pair RdT.int (RdT.pair RdT.int (RdT.pair RdT.int (RdT.pair (RdT.pair RdT.int RdT.int) (RdT.pair RdT.int (RdT.pair (RdT.pair RdT.int (RdT.pair RdT.int (RdT.pair RdT.int (RdT.pair RdT.str (RdT.pair RdT.str (RdT.pair RdT.str (RdT.pair RdT.int (RdT.old h1.2.2.2.2.2.1.2.2.2.2.2.2.2)))))))) (RdT.pair RdT.int (RdT.pair (RdT.old h1.2.2.2.2.2.2.2.1) (RdT.pair RdT.int (RdT.pair RdT.int RdT.bool)))))))))) hw) _ hy6) ?_
   rintro _ _ ⟨⟨y6x0_1,y6x0_2,y6x0_3,⟨y6x0_4,y6x0_5⟩,y6x0_6,⟨y6x0_7,y6x0_8,y6x0_9,y6x0_10,y6x0_11,y6x0_12,y6x0_13,y6x0_14⟩,y6x0_15,y6x0_16,y6x0_17,y6x0_18,y6x0_19⟩,rfl,rfl,rfl⟩
   refine sc ?_
   replace hp:=dd hp
   refine xL ((y6x0_1,y6x0_2,y6x0_3,(y6x0_4,y6x0_5),y6x0_6,(y6x0_7,y6x0_8,y6x0_9,y6x0_10,y6x0_11,y6x0_12,y6x0_13,y6x0_14),y6x0_15,y6x0_16,y6x0_17,y6x0_18,y6x0_19):T_EMsg) ?_
   refine al fun bk7=>?_
   refine s7 ?_
   refine L_load rfl rfl (RdC.old hbb0_) one3.h rfl ?_
   refine s12 ?_
   refine L_buildSlice1 rfl rfl el38.h rfl (by decide) (by decide) rfl (fun bb29=>?_)
   replace hp:=ba hp;obtain ⟨y8,hy8,hp⟩:=hp
   refine jL ((y6x0_1,a0_1,v3_1,(y6x0_4,y6x0_5),y6x0_6,(y6x0_7,y6x0_8,y6x0_9,y6x0_10,y6x0_11,y6x0_12,y6x0_13,y6x0_14),y6x0_15,y6x0_16,y6x0_17,y6x0_18,y6x0_19):T_EMsg) ?_
   refine L_app1m (X:=v3_0) ((y6x0_1,a0_1,v3_1,(y6x0_4,y6x0_5),y6x0_6,(y6x0_7,y6x0_8,y6x0_9,y6x0_10,y6x0_11,y6x0_12,y6x0_13,y6x0_14),y6x0_15,y6x0_16,y6x0_17,y6x0_18,y6x0_19):T_EMsg) rfl rfl rfl el38.h rfl rfl pk mm pk hy8 (by decide) (fun X7 hdX7 hmX7=>?_)
   subst hdX7
   refine s6 ?_
   exact ⟨(X7,IntKind.wrap .i64 (v3_1+1)),sb,(.sub ms),some_eq hp⟩
  ·replace hp:=cond_f q5 hp
   refine s5 ?_
   exact ⟨(v3_0,IntKind.wrap .i64 (v3_1+1)),sb,(.sub ms),some_eq hp⟩
 ·replace hp:=cond_f q4 hp
  refine W_exit ?_
  replace hp:=map_any hp;obtain ⟨a9,hp,z_9⟩:=hp
  obtain rfl:=hx3 _ z_9
  refine s5 ?_
  obtain rfl:=sj hp
  refine s1 ?_
  refine res1 rfl (ResOK.tmp rfl) ⟨v3_0,rfl,rfl,rfl⟩ ms
noncomputable def i_ENode_settle (a0:D_ENode) (a1:Int) (a2:Int):Option ((List D_EMsg)×D_ENode) :=
 Option.bind (idx a0.2.2.2 a1) (fun y1=>Option.bind (i_InstAt a0.2.2.1 (y1.1.1,y1.1.2)) (fun y2=>cond (!decide (y2.2.1=y1.2.1)) (Option.bind (i_ENode_drop (a0.1,a0.2.1,a0.2.2.1,a0.2.2.2) (y1.1.1,y1.1.2)) (fun y4=>some (([]:List D_EMsg),(y4.1,y4.2.1,y4.2.2.1,y4.2.2.2)))) (Option.bind (i_copyIds y1.2.2.2.2.1) (fun y5=>cond (decide (a2=2)) (Option.bind (idx a0.2.2.2 a1) (fun y7=>Option.bind (some (a0.2.2.2.set (a1.toNat) ((y7.1.1,y7.1.2),y7.2.1,2,y7.2.2.2.1,y7.2.2.2.2.1,y7.2.2.2.2.2.1,y7.2.2.2.2.2.2))) (fun y8=>Option.bind (idx y8 a1) (fun y10=>Option.bind (some (y8.set (a1.toNat) ((y10.1.1,y10.1.2),y10.2.1,y10.2.2.1,y10.2.2.2.1,y10.2.2.2.2.1,([]:List Int),y10.2.2.2.2.2.2))) (fun y11=>Option.bind (i_ENode_put (a0.1,a0.2.1,a0.2.2.1,y11) ((y2.1.1,y2.1.2),y2.2.1,y1.2.1,a2,(y2.2.2.2.2.1.1,y2.2.2.2.2.1.2.1,y2.2.2.2.2.1.2.2.1,y2.2.2.2.2.1.2.2.2.1,y2.2.2.2.2.1.2.2.2.2.1,y2.2.2.2.2.1.2.2.2.2.2.1,y2.2.2.2.2.1.2.2.2.2.2.2.1,y2.2.2.2.2.1.2.2.2.2.2.2.2),y1.2.2.2.1,y5,false)) (fun y13=>Option.bind (i_ENode_sent (y13.2.1,y13.2.2.1,y13.2.2.2.1,y13.2.2.2.2) (3,0,0,(y1.1.1,y1.1.2),y1.2.1,(y2.2.2.2.2.1.1,y2.2.2.2.2.1.2.1,y2.2.2.2.2.1.2.2.1,y2.2.2.2.2.1.2.2.2.1,y2.2.2.2.2.1.2.2.2.2.1,y2.2.2.2.2.1.2.2.2.2.2.1,y2.2.2.2.2.1.2.2.2.2.2.2.1,y2.2.2.2.2.1.2.2.2.2.2.2.2),y1.2.2.2.1,y1.2.2.2.2.1,0,(-1),false)) (fun y14=>some (y14,(y13.2.1,y13.2.2.1,y13.2.2.2.1,y13.2.2.2.2))))))))) (Option.bind (i_ENode_drop (a0.1,a0.2.1,a0.2.2.1,a0.2.2.2) (y1.1.1,y1.1.2)) (fun y15=>Option.bind (i_ENode_put (y15.1,y15.2.1,y15.2.2.1,y15.2.2.2) ((y2.1.1,y2.1.2),y2.2.1,y2.2.2.1,a2,(y2.2.2.2.2.1.1,y2.2.2.2.2.1.2.1,y2.2.2.2.2.1.2.2.1,y2.2.2.2.2.1.2.2.2.1,y2.2.2.2.2.1.2.2.2.2.1,y2.2.2.2.2.1.2.2.2.2.2.1,y2.2.2.2.2.1.2.2.2.2.2.2.1,y2.2.2.2.2.1.2.2.2.2.2.2.2),y1.2.2.2.1,y5,false)) (fun y16=>Option.bind (i_ENode_sent (y16.2.1,y16.2.2.1,y16.2.2.2.1,y16.2.2.2.2) (5,0,0,(y1.1.1,y1.1.2),0,(y2.2.2.2.2.1.1,y2.2.2.2.2.1.2.1,y2.2.2.2.2.1.2.2.1,y2.2.2.2.2.1.2.2.2.1,y2.2.2.2.2.1.2.2.2.2.1,y2.2.2.2.2.1.2.2.2.2.2.1,y2.2.2.2.2.1.2.2.2.2.2.2.1,y2.2.2.2.2.1.2.2.2.2.2.2.2),y1.2.2.2.1,y1.2.2.2.2.1,0,(-1),false)) (fun y17=>some (y17,(y16.2.1,y16.2.2.1,y16.2.2.2.1,y16.2.2.2.2))))))))))
theorem i_ENode_settle_walk (w:World) (b0_:Nat) (a0:T_ENode) (a1:Int) (a2:Int)  (r:(List D_EMsg)×D_ENode) (hp:i_ENode_settle (GT.dat a0) a1 a2=some r):Spec Tryz.prog 95 [Value.pointer (some ⟨b0_,0,none⟩),.int .i64 a1,.int .i64 a2].toArray w [blk b0_ (GT.cells a0) 27,treeH a0.2.2.1,treeH a0.2.2.2] (fun v M=>∃ (x0:TL T_EMsg) (y0:T_ENode),v=(TL.hdr x0)∧(GT.dat x0,GT.dat y0)=r∧M=[treeH x0,blk b0_ (GT.cells y0) 27,treeH y0.2.2.1,treeH y0.2.2.2]):=by
 obtain ⟨a0_1,a0_2,a0_3,a0_4⟩:=a0
 change Spec _ _ ([Value.pointer (some ⟨b0_,0,none⟩),.int .i64 a1,.int .i64 a2]:List Value).toArray w _ _
 refine Spec.intro Tryz.func95 rfl Tryz.ntmps95 rfl ?_
 unfold i_ENode_settle at hp
 replace hp:=dd hp
 refine s2 ?_
 refine L_assign (v:=(TL.hdr (TL.nil T_EMsg 0))) rfl rfl ?_
 refine s8 ?_
 replace hp:=idx_bind hp;obtain ⟨⟨⟨u1_1,u1_2⟩,u1_3,u1_4,u1_5,u1_6,u1_7,u1_8⟩,hy1,hp⟩:=hp
 refine L_idxA (X:=a0_4) rfl rfl rfl el25.h (RdT.tree mm) hy1 ?_
 refine L_loadW rfl rfl (RdT.at (RdT.tree mm) (hy1).2) (by exact agg89.h) ?_
 refine al fun bk7=>?_
 refine s3 ?_
 replace hp:=ba hp;obtain ⟨y2,hy2,hp⟩:=hp
 refine W_DS (pre:=[_,_,_,_,_,_,_,_]) (suf:=[_]) [8,23] [] _ pc mix (by kernel_rfl) (by kernel_rfl) rfl ?_
 refine s5 ?_
 refine D_loadW GC.none (OpV.t rfl) (fun hg=>RdC.seg (RdC.blk mm) 0 2 rfl) (by exact agg29.h) ?_
 refine D_call1R (fun v M=>∃ (x0:T_Inst),v=.agg (GT.cells x0).toArray∧GT.dat x0=y2∧M=[treeH x0]) fn61.h (OpVs.cons (OpV.t rfl) (OpVs.cons (OpV.t rfl) (OpVs.nil))) (by exact fun w F hF hM=>i_InstAt_walk w a0_3 (u1_1,u1_2) (RdT.nowS (RdT.tree mm) hF hM) (RdT.nowS (RdT.pair RdT.int RdT.int) hF hM) _ hy2) ?_
 refine D_alloc zero45.h ?_
 refine s1 ?_
 refine Give_R rfl rfl ?_
 rintro _ _ ⟨bk8,rfl,rfl⟩
 simp only [List.cons_append,List.nil_append]
 refine Give_R rfl rfl ?_
 rintro _ _ ⟨⟨⟨y2x0_1,y2x0_2⟩,y2x0_3,y2x0_4,y2x0_5,⟨y2x0_6,y2x0_7,y2x0_8,y2x0_9,y2x0_10,y2x0_11,y2x0_12,y2x0_13⟩,y2x0_14,y2x0_15,y2x0_16⟩,rfl,rfl,rfl⟩
 refine s7 ?_
 refine sc ?_
 replace hp:=dd hp
 refine xL (((y2x0_1,y2x0_2),y2x0_3,y2x0_4,y2x0_5,(y2x0_6,y2x0_7,y2x0_8,y2x0_9,y2x0_10,y2x0_11,y2x0_12,y2x0_13),y2x0_14,y2x0_15,y2x0_16):T_Inst) ?_
 refine s11 ?_
 refine kp [0,1,2,7,8,28] ?_
 refine W_cond rfl (fun q3=>?_) (fun q3=>?_)
 ·replace hp:=cond_t q3 hp
  refine s4 ?_
  refine L_loadW rfl rfl (RdC.seg (RdC.blk mm) 0 2 rfl) (by exact agg29.h) ?_
  replace hp:=ba hp;obtain ⟨y4,hy4,hp⟩:=hp
  refine L_callM [blk b0_ _ _,treeH a0_3,treeH a0_4] _ rfl fn154.h rfl pc (by exact fun w hw=>i_ENode_drop_walk w b0_ (a0_1,a0_2,a0_3,a0_4) (u1_1,u1_2) ((RdX.pair RdX.int RdX.int) w hw) _ hy4) ?_
  rintro _ _ ⟨⟨y4y0_1,y4y0_2,y4y0_3,y4y0_4⟩,rfl,rfl,rfl⟩
  refine sc ?_
  replace hp:=dd hp
  refine s3 ?_
  refine L_assign (v:=(TL.hdr (TL.nil T_EMsg 0))) rfl rfl ?_
  refine s1 ?_
  obtain rfl:=sj hp
  refine W_conv (M':=treeH (TL.nil T_EMsg 0)::_) (fun w h=>addNilT (τ:=T_EMsg) 0 h) ?_
  refine s1 ?_
  refine res1 rfl (ResOK.tmp rfl) ⟨(TL.nil T_EMsg 0),(y4y0_1,y4y0_2,y4y0_3,y4y0_4),rfl,rfl,rfl⟩ ms
 ·replace hp:=cond_f q3 hp
  refine s18 ?_
  replace hp:=ba hp;obtain ⟨y5,hy5,hp⟩:=hp
  refine L_callR rfl fn92.h rfl (by exact fun w hw=>i_copyIds_walk w u1_6 (RdT.now (RdT.fst (RdT.snd (RdT.snd (RdT.snd (RdT.snd (RdT.of (RdT.tree mm) (hy1).2)))))) hw) _ hy5) ?_
  rintro _ _ ⟨y5x0,rfl,rfl,rfl⟩
  refine sc ?_
  replace hp:=dd hp
  refine s11 ?_
  refine L_loadW rfl rfl (RdC.seg (RdC.blk mm) 0 2 rfl) (by exact agg29.h) ?_
  refine s1 ?_
  refine L_loadW rfl rfl (RdC.seg (RdC.blk mm) 5 8 rfl) (by exact agg32.h) ?_
  refine s4 ?_
  refine L_build (xs:=[(0,.const (.int .i64 5)),(3,.tmp 44),(5,.tmp 46),(6,.tmp 48),(7,.tmp 50),(9,.const (.int .i64 (-1)))]) (cs:=[.int .i64 5,.int .i64 0,.int .i64 0,.int .i64 u1_1,.int .i64 u1_2,.int .i64 0,.int .i64 y2x0_6,.int .i64 y2x0_7,.int .i64 y2x0_8,.string y2x0_9,.string y2x0_10,.string y2x0_11,.int .i64 y2x0_12,(TL.hdr y2x0_13),.int .i64 u1_5,(TL.hdr u1_6),.int .i64 0,.int .i64 (-1),.bool false]) rfl rfl bld35.h rfl ?_
  refine al fun bk9=>?_
  refine s8 ?_
  refine kp [0,1,7,8,9,53] ?_
  refine W_cond rfl (fun q6=>?_) (fun q6=>?_)
  ·replace hp:=cond_t q6 hp
   refine s20 ?_
   refine s6 ?_
   replace hp:=idx_bind hp;obtain ⟨u7,hy7,hp⟩:=hp
   obtain rfl:((u1_1,u1_2),u1_3,u1_4,u1_5,u1_6,u1_7,u1_8)=u7:=Option.some.inj (hy1.2.symm.trans hy7.2)
   refine L_idxA (X:=a0_4) rfl rfl rfl el25.h (RdT.tree mm) hy1 ?_
   refine s1 ?_
   refine L_conv (M':=treeH ((u1_1,u1_2),u1_3,u1_4,u1_5,u1_6,u1_7,u1_8)::holeH a0_4 (a1.toNat) (GT.cells ((u1_1,u1_2),u1_3,u1_4,u1_5,u1_6,u1_7,u1_8))::_) (fun w h=>hole_open hy1.2 pk h) ?_
   refine xL (((u1_1,u1_2),u1_3,u1_4,u1_5,u1_6,u1_7,u1_8):T_Lead) ?_
   refine L_stH (X:=a0_4) (i:=a1.toNat) (sz:=8) (fo:=3) (n:=1) rfl rfl pk rfl (.inr ⟨one3.h,rfl⟩) rfl (allOne rfl) (Nat.le_of_ble_eq_true rfl) ?_
   refine jL (((u1_1,u1_2),u1_3,2,u1_5,u1_6,u1_7,u1_8):T_Lead) ?_
   replace hp:=ba hp;obtain ⟨y8,hy8,hp⟩:=hp
   refine L_closeE (X:=a0_4) (((u1_1,u1_2),u1_3,2,u1_5,u1_6,u1_7,u1_8):T_Lead) hy1.2 rfl pk pk hy8 (fun X9 hdX9 hhX9 hzX9=>?_)
   subst hdX9
   try simp only [cells_pair,cells_int,cells_bool,cells_str,cells_TL,List.cons_append,List.nil_append]
   try rw [← hhX9]
   have hwX9:=And.intro hy1.1 hzX9
   try rw [← g_of_hdr hhX9]
   try rw [← o_of_hdr hhX9]
   refine s7 ?_
   replace hp:=idx_bind hp;obtain ⟨u10,hy10,hp⟩:=hp
   obtain rfl:((u1_1,u1_2),u1_3,2,u1_5,u1_6,u1_7,u1_8)=u10:=Option.some.inj (hwX9.2.symm.trans hy10.2)
   refine L_idxA (X:=X9) rfl rfl rfl el25.h (RdT.tree mm) hwX9 ?_
   refine s1 ?_
   refine L_conv (M':=treeH ((u1_1,u1_2),u1_3,2,u1_5,u1_6,u1_7,u1_8)::holeH X9 (a1.toNat) (GT.cells ((u1_1,u1_2),u1_3,2,u1_5,u1_6,u1_7,u1_8))::_) (fun w h=>hole_open hwX9.2 pk h) ?_
   refine xL (((u1_1,u1_2),u1_3,2,u1_5,u1_6,u1_7,u1_8):T_Lead) ?_
   refine L_stH (X:=X9) (i:=a1.toNat) (sz:=8) (fo:=6) (n:=1) rfl rfl pk rfl (.inr ⟨one87.h,rfl⟩) rfl (allOne rfl) (Nat.le_of_ble_eq_true rfl) ?_
   refine L_conv (M':=treeH (TL.nil Int 0)::_) (fun w h=>addNilT (τ:=Int) 0 h) ?_
   refine jL (((u1_1,u1_2),u1_3,2,u1_5,u1_6,(TL.nil Int 0),u1_8):T_Lead) ?_
   replace hp:=ba hp;obtain ⟨y11,hy11,hp⟩:=hp
   refine L_closeE (X:=X9) (((u1_1,u1_2),u1_3,2,u1_5,u1_6,(TL.nil Int 0),u1_8):T_Lead) hwX9.2 rfl pk pk hy11 (fun X12 hdX12 hhX12 hzX12=>?_)
   subst hdX12
   try simp only [cells_pair,cells_int,cells_bool,cells_str,cells_TL,List.cons_append,List.nil_append]
   try rw [← hhX12]
   have hwX12:=And.intro hwX9.1 hzX12
   try rw [← g_of_hdr hhX12]
   try rw [← o_of_hdr hhX12]
   refine s5 ?_
   replace hp:=ba hp;obtain ⟨y13,hy13,hp⟩:=hp
   refine L_callM [blk b0_ _ _,treeH a0_3] _ rfl fn64.h rfl pc (by exact fun w hw=>i_ENode_put_walk w b0_ (a0_1,a0_2,a0_3,X12) ((y2x0_1,y2x0_2),y2x0_3,u1_3,a2,(y2x0_6,y2x0_7,y2x0_8,y2x0_9,y2x0_10,y2x0_11,y2x0_12,y2x0_13),u1_5,y5x0,false) ((RdX.pair (RdX.pair RdX.int RdX.int) (RdX.pair RdX.int (RdX.pair RdX.int (RdX.pair RdX.int (RdX.pair (RdX.pair RdX.int (RdX.pair RdX.int (RdX.pair RdX.int (RdX.pair RdX.str (RdX.pair RdX.str (RdX.pair RdX.str (RdX.pair RdX.int (RdX.tree mm)))))))) (RdX.pair RdX.int (RdX.pair (RdX.tree mm) RdX.bool))))))) w hw) ((RdX.tree mm) w hw) _ hy13) ?_
   rintro _ _ ⟨y13x0,⟨y13y0_1,y13y0_2,y13y0_3,y13y0_4⟩,rfl,rfl,rfl,hey13_0⟩
   obtain rfl:X12=y13y0_4:=hey13_0.symm
   refine sc ?_
   replace hp:=dd hp
   refine s5 ?_
   replace hp:=ba hp;obtain ⟨y14,hy14,hp⟩:=hp
   refine L_callR rfl fn65.h rfl (by exact fun w hw=>i_ENode_sent_walk w b0_ (y13y0_1,y13y0_2,y13y0_3,X12) (3,0,0,(u1_1,u1_2),u1_3,(y2x0_6,y2x0_7,y2x0_8,y2x0_9,y2x0_10,y2x0_11,y2x0_12,y2x0_13),u1_5,u1_6,0,(-1),false) (cells_of_blk mm hw.sees) (RdT.now (RdT.pair RdT.int (RdT.pair RdT.int (RdT.pair (RdT.tree mm) (RdT.tree mm)))) hw) (RdT.now (RdT.pair RdT.int (RdT.pair RdT.int (RdT.pair RdT.int (RdT.pair (RdT.pair RdT.int RdT.int) (RdT.pair RdT.int (RdT.pair (RdT.pair RdT.int (RdT.pair RdT.int (RdT.pair RdT.int (RdT.pair RdT.str (RdT.pair RdT.str (RdT.pair RdT.str (RdT.pair RdT.int (RdT.tree mm)))))))) (RdT.pair RdT.int (RdT.pair (RdT.fst (RdT.snd (RdT.snd (RdT.snd (RdT.snd (RdT.of (RdT.tree mm) hzX12)))))) (RdT.pair RdT.int (RdT.pair RdT.int RdT.bool)))))))))) hw) _ hy14) ?_
   rintro _ _ ⟨y14x0,rfl,rfl,rfl⟩
   refine sc ?_
   replace hp:=dd hp
   refine s2 ?_
   obtain rfl:=sj hp
   refine s1 ?_
   refine res1 rfl (ResOK.tmp rfl) ⟨y14x0,(y13y0_1,y13y0_2,y13y0_3,X12),rfl,rfl,rfl⟩ ms
  ·replace hp:=cond_f q6 hp
   refine s3 ?_
   refine L_loadW rfl rfl (RdC.seg (RdC.blk mm) 0 2 rfl) (by exact agg29.h) ?_
   replace hp:=ba hp;obtain ⟨y15,hy15,hp⟩:=hp
   refine L_callM [blk b0_ _ _,treeH a0_3,treeH a0_4] _ rfl fn154.h rfl pc (by exact fun w hw=>i_ENode_drop_walk w b0_ (a0_1,a0_2,a0_3,a0_4) (u1_1,u1_2) ((RdX.pair RdX.int RdX.int) w hw) _ hy15) ?_
   rintro _ _ ⟨⟨y15y0_1,y15y0_2,y15y0_3,y15y0_4⟩,rfl,rfl,rfl⟩
   refine sc ?_
   replace hp:=dd hp
   refine s5 ?_
   replace hp:=ba hp;obtain ⟨y16,hy16,hp⟩:=hp
   refine L_callM [blk b0_ _ _,treeH y15y0_3] _ rfl fn64.h rfl pc (by exact fun w hw=>i_ENode_put_walk w b0_ (y15y0_1,y15y0_2,y15y0_3,y15y0_4) ((y2x0_1,y2x0_2),y2x0_3,y2x0_4,a2,(y2x0_6,y2x0_7,y2x0_8,y2x0_9,y2x0_10,y2x0_11,y2x0_12,y2x0_13),u1_5,y5x0,false) ((RdX.pair (RdX.pair RdX.int RdX.int) (RdX.pair RdX.int (RdX.pair RdX.int (RdX.pair RdX.int (RdX.pair (RdX.pair RdX.int (RdX.pair RdX.int (RdX.pair RdX.int (RdX.pair RdX.str (RdX.pair RdX.str (RdX.pair RdX.str (RdX.pair RdX.int (RdX.tree mm)))))))) (RdX.pair RdX.int (RdX.pair (RdX.tree mm) RdX.bool))))))) w hw) ((RdX.tree mm) w hw) _ hy16) ?_
   rintro _ _ ⟨y16x0,⟨y16y0_1,y16y0_2,y16y0_3,y16y0_4⟩,rfl,rfl,rfl,hey16_0⟩
   obtain rfl:y15y0_4=y16y0_4:=hey16_0.symm
   refine sc ?_
   replace hp:=dd hp
   refine s5 ?_
   replace hp:=ba hp;obtain ⟨y17,hy17,hp⟩:=hp
   refine L_callR rfl fn65.h rfl (by exact fun w hw=>i_ENode_sent_walk w b0_ (y16y0_1,y16y0_2,y16y0_3,y15y0_4) (5,0,0,(u1_1,u1_2),0,(y2x0_6,y2x0_7,y2x0_8,y2x0_9,y2x0_10,y2x0_11,y2x0_12,y2x0_13),u1_5,u1_6,0,(-1),false) (cells_of_blk mm hw.sees) (RdT.now (RdT.pair RdT.int (RdT.pair RdT.int (RdT.pair (RdT.tree mm) (RdT.tree mm)))) hw) (RdT.now (RdT.pair RdT.int (RdT.pair RdT.int (RdT.pair RdT.int (RdT.pair (RdT.pair RdT.int RdT.int) (RdT.pair RdT.int (RdT.pair (RdT.pair RdT.int (RdT.pair RdT.int (RdT.pair RdT.int (RdT.pair RdT.str (RdT.pair RdT.str (RdT.pair RdT.str (RdT.pair RdT.int (RdT.tree mm)))))))) (RdT.pair RdT.int (RdT.pair (RdT.fst (RdT.snd (RdT.snd (RdT.snd (RdT.snd (RdT.elMem (List.mem_filter.2 ⟨List.mem_of_getElem? hy1.2,(by simp [dat_pair,dat_int])⟩) (RdT.els (xs:=(a0_4.els.filter (fun t:T_Lead=>decide ((GT.dat t).1.1=u1_1)&&(decide ((GT.dat t).1.2=u1_2)&&true)))) mm))))))) (RdT.pair RdT.int (RdT.pair RdT.int RdT.bool)))))))))) hw) _ hy17) ?_
   rintro _ _ ⟨y17x0,rfl,rfl,rfl⟩
   refine sc ?_
   replace hp:=dd hp
   refine s2 ?_
   obtain rfl:=sj hp
   refine s1 ?_
   refine res1 rfl (ResOK.tmp rfl) ⟨y17x0,(y16y0_1,y16y0_2,y16y0_3,y15y0_4),rfl,rfl,rfl⟩ ms
noncomputable def i_ENodeSlow (a0:D_ENode) (a1:D_Id):Option (D_ENode×(List D_EMsg)×Bool) :=
 Option.bind (i_ENodeOk (a0.1,a0.2.1,a0.2.2.1,a0.2.2.2)) (fun y1=>cond (!y1) (some ((0,0,([]:List D_Inst),([]:List D_Lead)),([]:List D_EMsg),false)) (Option.bind (i_copyENode (a0.1,a0.2.1,a0.2.2.1,a0.2.2.2)) (fun y3=>Option.bind (i_ENode_lead (a0.1,a0.2.1,a0.2.2.1,a0.2.2.2) (a1.1,a1.2)) (fun y4=>gb (!(decide (y4 < 0))) (idx a0.2.2.2 y4) (fun y5=>gb (!((decide (y4 < 0))||(!decide (y5.2.2.1=1)))) (idx a0.2.2.2 y4) (fun y6=>cond (((decide (y4 < 0))||(!decide (y5.2.2.1=1)))||(decide ((y6.2.2.2.2.2.1.length:Int)=0))) (some ((y3.1,y3.2.1,y3.2.2.1,y3.2.2.2),([]:List D_EMsg),false)) (Option.bind (i_ENode_settle (y3.1,y3.2.1,y3.2.2.1,y3.2.2.2) y4 2) (fun y8=>some ((y8.2.1,y8.2.2.1,y8.2.2.2.1,y8.2.2.2.2),y8.1,true)))))))))
theorem i_ENodeSlow_walk (w:World) (a0:T_ENode) (a1:T_Id) (h0:GT.rd w [] a0) (h1:GT.rd w [] a1) (r:D_ENode×(List D_EMsg)×Bool) (hp:i_ENodeSlow (GT.dat a0) (GT.dat a1)=some r):Spec Tryz.prog 36 [.agg (GT.cells a0).toArray,.agg (GT.cells a1).toArray].toArray w [] (fun v M=>∃ (x0:T_ENode) (x1:TL T_EMsg) (x2:Bool),v=.tuple #[.agg (GT.cells x0).toArray,(TL.hdr x1),.bool x2]∧(GT.dat x0,GT.dat x1,GT.dat x2)=r∧M=[treeH x0,treeH x1]):=by
 obtain ⟨a0_1,a0_2,a0_3,a0_4⟩:=a0
 obtain ⟨a1_1,a1_2⟩:=a1
 change Spec _ _ ([Value.agg #[.int .i64 a0_1,.int .i64 a0_2,(TL.hdr a0_3),(TL.hdr a0_4)],Value.agg #[.int .i64 a1_1,.int .i64 a1_2]]:List Value).toArray w [] _
 refine Spec.intro Tryz.func36 rfl Tryz.ntmps36 rfl ?_
 unfold i_ENodeSlow at hp
 replace hp:=dd hp
 refine s2 ?_
 refine bx fun bk2=>?_
 refine bx fun bk3=>?_
 refine al fun bk4=>?_
 refine L_assign (v:=(TL.hdr (TL.nil T_EMsg 0))) rfl rfl ?_
 refine s6 ?_
 replace hp:=ba hp;obtain ⟨y1,hy1,hp⟩:=hp
 refine L_callX rfl fn41.h rfl (by exact fun w hw=>i_ENodeOk_walk w (a0_1,a0_2,a0_3,a0_4) (RdT.now (RdT.pair RdT.int (RdT.pair RdT.int (RdT.pair (RdT.old h0.2.2.1) (RdT.old h0.2.2.2)))) hw) _ hy1) ?_
 refine s2 ?_
 refine kp [2,3,4,12] ?_
 refine W_cond rfl (fun q2=>?_) (fun q2=>?_)
 ·replace hp:=cond_t q2 hp
  refine s2 ?_
  refine L_build (xs:=[]) (cs:=[.int .i64 0,.int .i64 0,(TL.hdr (TL.nil T_Inst 0)),(TL.hdr (TL.nil T_Lead 0))]) rfl rfl bld27.h rfl ?_
  refine s1 ?_
  refine L_assign (v:=(TL.hdr (TL.nil T_EMsg 0))) rfl rfl ?_
  refine s2 ?_
  obtain rfl:=sj hp
  refine W_conv (M':=treeH (TL.nil T_Inst 0)::_) (fun w h=>addNilT (τ:=T_Inst) 0 h) ?_
  refine W_conv (M':=treeH (TL.nil T_Lead 0)::_) (fun w h=>addNilT (τ:=T_Lead) 0 h) ?_
  refine jW ((0,0,(TL.nil T_Inst 0),(TL.nil T_Lead 0)):T_ENode) ?_
  refine W_conv (M':=treeH (TL.nil T_EMsg 0)::_) (fun w h=>addNilT (τ:=T_EMsg) 0 h) ?_
  refine s1 ?_
  refine res3 rfl (ResOK.cell rfl mm (by exact agg27.h)) (ResOK.tmp rfl) (ResOK.tmp rfl) ⟨(0,0,(TL.nil T_Inst 0),(TL.nil T_Lead 0)),(TL.nil T_EMsg 0),false,rfl,rfl,rfl⟩ ms
 ·replace hp:=cond_f q2 hp
  refine s4 ?_
  replace hp:=ba hp;obtain ⟨y3,hy3,hp⟩:=hp
  refine L_callR rfl fn44.h rfl (by exact fun w hw=>i_copyENode_walk w (a0_1,a0_2,a0_3,a0_4) (RdT.now (RdT.pair RdT.int (RdT.pair RdT.int (RdT.pair (RdT.old h0.2.2.1) (RdT.old h0.2.2.2)))) hw) _ hy3) ?_
  rintro _ _ ⟨⟨y3x0_1,y3x0_2,y3x0_3,y3x0_4⟩,rfl,rfl,rfl⟩
  refine sc ?_
  replace hp:=dd hp
  refine xL ((y3x0_1,y3x0_2,y3x0_3,y3x0_4):T_ENode) ?_
  refine al fun bk7=>?_
  refine s5 ?_
  replace hp:=ba hp;obtain ⟨y4,hy4,hp⟩:=hp
  refine L_callX rfl fn62.h rfl (by exact fun w hw=>i_ENode_lead_walk w bk2 (a0_1,a0_2,a0_3,a0_4) (a1_1,a1_2) (cells_of_blk mm hw.sees) (RdT.now (RdT.pair RdT.int (RdT.pair RdT.int (RdT.pair (RdT.old h0.2.2.1) (RdT.old h0.2.2.2)))) hw) (RdT.now (RdT.pair RdT.int RdT.int) hw) _ hy4) ?_
  refine s4 ?_
  replace hp:=idx_gb hp;obtain ⟨⟨⟨u5_1,u5_2⟩,u5_3,u5_4,u5_5,u5_6,u5_7,u5_8⟩,hy5,hp⟩:=hp
  replace hp:=idx_gb hp;obtain ⟨⟨⟨u6_1,u6_2⟩,u6_3,u6_4,u6_5,u6_6,u6_7,u6_8⟩,hy6,hp⟩:=hp
  refine W_D0 [38] mix (by kernel_rfl) rfl ?_
  refine s6 ?_
  refine D_idxA (X:=a0_4) (GC.some rfl rfl) (OpV.s rfl) (OpV.s rfl) el25.h (RdT.old h0.2.2.2) (fun hg=>hy5 (gnot hg.2)) ?_
  refine s1 ?_
  refine D_load (GC.some rfl rfl) (OpV.s rfl) (fun hg=>RdT.at (RdT.old h0.2.2.2) (hy5 (gnot hg.2)).2) one3.h rfl ?_
  refine s6 ?_
  refine D_idxA (X:=a0_4) (GC.some rfl rfl) (OpV.s rfl) (OpV.s rfl) el25.h (RdT.old h0.2.2.2) (fun hg=>hy6 (gnot hg.2)) ?_
  refine s1 ?_
  refine D_load (GC.some rfl rfl) (OpV.s rfl) (fun hg=>RdT.at (RdT.old h0.2.2.2) (hy6 (gnot hg.2)).2) one87.h rfl ?_
  refine D_lenP (X:=u6_7) (GC.some rfl rfl) (OpV.s rfl) el87.h ?_
  refine s20 ?_
  refine s5 ?_
  refine kp [4,7,8,38] ?_
  refine W_cond rfl (fun q7=>?_) (fun q7=>?_)
  ·replace hp:=cond_t q7 hp
   refine s4 ?_
   refine L_assign (v:=(TL.hdr (TL.nil T_EMsg 0))) rfl rfl ?_
   refine s2 ?_
   obtain rfl:=sj hp
   refine jW ((y3x0_1,y3x0_2,y3x0_3,y3x0_4):T_ENode) ?_
   refine W_conv (M':=treeH (TL.nil T_EMsg 0)::_) (fun w h=>addNilT (τ:=T_EMsg) 0 h) ?_
   refine s1 ?_
   refine res3 rfl (ResOK.cell rfl mm (by exact agg27.h)) (ResOK.tmp rfl) (ResOK.tmp rfl) ⟨(y3x0_1,y3x0_2,y3x0_3,y3x0_4),(TL.nil T_EMsg 0),false,rfl,rfl,rfl⟩ ms
  ·replace hp:=cond_f q7 hp
   refine s4 ?_
   replace hp:=ba hp;obtain ⟨y8,hy8,hp⟩:=hp
   refine L_callM [blk bk7 _ _,treeH y3x0_3,treeH y3x0_4] _ rfl fn95.h rfl pc (by exact fun w hw=>i_ENode_settle_walk w bk7 (y3x0_1,y3x0_2,y3x0_3,y3x0_4) y4 2  _ hy8) ?_
   rintro _ _ ⟨y8x0,⟨y8y0_1,y8y0_2,y8y0_3,y8y0_4⟩,rfl,rfl,rfl⟩
   refine sc ?_
   replace hp:=dd hp
   refine s10 ?_
   obtain rfl:=sj hp
   refine jW ((y8y0_1,y8y0_2,y8y0_3,y8y0_4):T_ENode) ?_
   refine s1 ?_
   refine res3 rfl (ResOK.cell rfl mm (by exact agg27.h)) (ResOK.tmp rfl) (ResOK.tmp rfl) ⟨(y8y0_1,y8y0_2,y8y0_3,y8y0_4),y8x0,true,rfl,rfl,rfl⟩ ms
end Go.Proofs.SL
namespace Go.Proofs.SL
open Go
variable {w0 w:World} {S0:List Nat} {M M1:List HP}
end Go.Proofs.SL
namespace Go.Proofs.SL
open Go
set_option maxHeartbeats 2000000
end Go.Proofs.SL
namespace Go.Proofs.SL
open Go
set_option maxHeartbeats 2000000
end Go.Proofs.SL
