/- The texts of the proof, part 10: the base, walks of functions, plain Lean. -/
import Derived.Test.YthlbpedehajlgaaGreatT9
import Derived.Test.YthlbpedehajlgaaGreatT5
import Derived.Test.YthlbpedehajlgaaGreatT6
namespace Go.Proofs.SL
open Go
set_option maxHeartbeats 2000000
instance fn203:FnF Tryz.prog 203:=⟨_,Tryz.func203,by kernel_rfl,rfl⟩
instance fn204:FnF Tryz.prog 204:=⟨_,Tryz.func204,by kernel_rfl,rfl⟩
theorem firstI_dat {τ δ:Type} [GT τ δ] (q:δ→Bool) (X:TL τ):firstI q (GT.dat X)=firstI (fun t:τ=>q (GT.dat t)) X.els:=by
 unfold firstI
 rw [dat_els,List.findIdx?_map];rfl
theorem len_of_chk {τ δ:Type} [GT τ δ] {X:TL τ} {u:Unit} (h:chkP (decide ((GT.dat X).length≤4294967296))=some u):X.els.length≤4294967296:=by
 have:=of_decide_eq_true (chkP_some h)
 rwa [dat_els,List.length_map] at this
theorem len_of_chk' {τ δ:Type} [GT τ δ] {X:TL τ} {u:Unit} (h:chkP (decide ((GT.dat X).length≤4294967296))=some u):(GT.dat X).length≤4294967296:=of_decide_eq_true (chkP_some h)
theorem indexLead_eq (l:List D_Lead) (p:D_Lead→Bool) (h:l.length≤4294967296):sl_IndexFunc_implLeadimplLead l (fun d=>some (p d))=some (firstI p l):=by
 unfold sl_IndexFunc_implLeadimplLead
 rw [whileP_find (l:=l) p some (by omega)]
 ·intro k x hx
  simp only [lt_dec (List.getElem?_eq_some_iff.1 hx).1,cond_true,idx_nat,hx,Option.bind_some]
  cases p x<;>rfl
 ·simp only [ge_dec];rfl
theorem els_nilH {τ δ:Type} [GT τ δ] {w0 w:World} {S0:List Nat} {M:List HP} (h:Holds w0 S0 M w):Holds w0 S0 (elsT ([]:List τ)::M) w :=
 h.reFp (List.Perm.of_eq (by rw [fps_cons];rfl)) fun y hy=>by
  rcases List.mem_cons.1 hy with rfl | hy
  ·intro x hx;cases hx
  ·exact h.prs _ hy
theorem cs_whole {τ δ:Type} [GT τ δ] (u v:τ):(GT.cells u).take 0++(Value.agg (GT.cells v).toArray).cells.toList++(GT.cells u).drop (0+GT.sz τ)=GT.cells v:=by
 rw [List.take_zero,List.nil_append,Nat.zero_add,List.drop_of_length_le (by rw [GT.len];exact Nat.le_refl _),List.append_nil];rfl
theorem sl_DeleteFunc_raw_walk (w:World) (a0:TL T_Lead) (f1:Nat) (cs1:List Value) (qD:D_Lead→Bool) (hf1:IsFn Tryz.prog f1) (hlen:a0.els.length≤4294967296) (hk1:∀ (w':World) (F:List HP) (u0:T_Lead),Holds w (fps [treeH a0]) F w'→Spec Tryz.prog f1 ([Value.agg (GT.cells u0).toArray]++cs1).toArray w' [] (IsV (.bool (qD (GT.dat u0))))) (iv:Int) (hiv:sl_IndexFunc_implLeadimplLead (GT.dat a0) (fun d=>some (qD d))=some iv) (hiv2:iv=firstI (fun t:T_Lead=>qD (GT.dat t)) a0.els) :
  Spec Tryz.prog 203 [(TL.hdr a0),.func (.func f1) #[] cs1.toArray].toArray w [treeH a0] (fun v M=>∃ (x0:TL T_Lead),v=(TL.hdr x0)∧GT.dat x0=(GT.dat a0).filter (fun d=>!qD d)∧M=[treeH x0,elsT (a0.els.filter (fun t=>qD (GT.dat t)))]):=by
 refine Spec.intro Tryz.func203 rfl Tryz.ntmps203 rfl ?_
 refine s2 ?_
 refine L_assign (v:=(TL.hdr (TL.nil Int 0))) rfl rfl ?_
 refine s5 ?_
 refine L_callX rfl fn159.h rfl (by exact fun w hw=>sl_IndexFunc_implLeadimplLead_walk w a0 f1 cs1 (fun d=>some (qD d)) (RdT.now (RdT.tree mm) hw) hf1 (fun w' F u0 v hF hu0 hv=>by obtain rfl:=Option.some.inj hv;exact hk1 w' _ u0 (Holds.frame (M1:=[]) (M2:=_) hw hF)) _ hiv) ?_
 refine s8 ?_
 refine kp [0,1,5,12] ?_
 refine W_cond rfl (fun q2=>?_) (fun q2=>?_)
 ·have hn:a0.els.findIdx? (fun t:T_Lead=>qD (GT.dat t))=none:=by
   cases hh:a0.els.findIdx? (fun t:T_Lead=>qD (GT.dat t)) with
   | none=>rfl
   | some i =>
    unfold firstI at hiv2
    rw [hh] at hiv2
    have:=of_decide_eq_true q2
    rw [hiv2] at this
    simp at this
  have hn':=List.findIdx?_eq_none_iff.1 hn
  have h1:(GT.dat a0).filter (fun d=>!qD d)=GT.dat a0:=by
   refine List.filter_eq_self.2 fun d hd=>?_
   obtain ⟨t,ht,rfl⟩:=List.mem_map.1 hd
   have:=hn' t ht
   simp [this]
  have h2:a0.els.filter (fun t=>qD (GT.dat t))=[]:=List.filter_eq_nil_iff.2 fun t ht=>by simp [hn' t ht]
  refine s5 ?_
  refine W_conv (M':=elsT ([]:List T_Lead)::_) (fun w h=>els_nilH h) ?_
  refine s1 ?_
  refine res1 rfl (ResOK.tmp rfl) ⟨a0,rfl,h1.symm,by rw [h2]⟩ ms
 ·obtain ⟨i,hi⟩:∃ i,a0.els.findIdx? (fun t:T_Lead=>qD (GT.dat t))=some i:=by
   cases hh:a0.els.findIdx? (fun t:T_Lead=>qD (GT.dat t)) with
   | some i=>exact ⟨i,rfl⟩
   | none =>
    unfold firstI at hiv2
    rw [hh] at hiv2
    subst hiv2
    simp at q2
  have hiv3:iv=(i:Int):=by rw [hiv2];unfold firstI;rw [hi]
  subst hiv3
  have hp:=delStep_filter (fun t:T_Lead=>qD (GT.dat t)) ((0,0),0,0,0,TL.nil T_Id 0,TL.nil Int 0,false) hi hlen
  refine s8 ?_
  refine W_conv (M':=rowH a0::elsT a0.els::_) (fun w h=>row_open pk h) ?_
  refine W_conv (M':=treeH (rwT a0)::_) (fun w h=>raw_row pk h) ?_
  rw [← rwT_hdr a0]
  rw [← rwT_dat a0] at hp
  refine s1 ?_
  refine W_while (σ:=(TL (Rw T_Lead))×Int×Int) GT.dat (fun ((v3_0,v3_1,v3_2):(TL (Rw T_Lead))×Int×Int)=>[(0,(TL.hdr v3_0)),(5,.int .i64 v3_1),(6,.int .i64 v3_2)]) (fun ((v3_0,v3_1,v3_2):(TL (Rw T_Lead))×Int×Int)=>[treeH v3_0]) [(1,_)] [elsT a0.els] (rwT a0,(i:Int),IntKind.wrap .i64 ((i:Int)+1)) hp sb ms ?_
  clear hp
  rintro ⟨v3_0,v3_1,v3_2⟩ x3 hp hx3
  refine kq [0,1,5,6] ?_
  replace hp:delStep (fun t:T_Lead=>qD (GT.dat t)) ((0,0),0,0,0,TL.nil T_Id 0,TL.nil Int 0,false) (GT.dat v3_0,v3_1,v3_2)=some x3:=hp
  unfold delStep at hp
  dsimp only at hp
  refine s8 ?_
  refine kp [0,1,5,6,19] ?_
  refine W_cond rfl (fun q4=>?_) (fun q4=>?_)
  ·replace hp:=cond_t q4 hp
   refine s7 ?_
   replace hp:=idx_bind hp;obtain ⟨u5,hy5,hp⟩:=hp
   refine L_idxA (X:=v3_0) rfl rfl rfl el42.h (RdT.tree mm) hy5 ?_
   refine L_loadW rfl rfl (RdT.at (RdT.tree mm) (hy5).2) (by rw [GT.len];exact agg141.h) ?_
   refine al fun bk7=>?_
   refine L_storeW rfl rfl pk (by rw [GT.len];exact agg141.h) (by rw [GT.len];rfl) (fun v hv=>GT.one _ v hv) ?_
   refine s4 ?_
   refine L_loadW rfl rfl (RdC.blk mm) (by rw [GT.len];exact agg141.h) ?_
   replace hp:=ba hp;obtain ⟨y6,hy6,hp⟩:=hp
   obtain rfl:=Option.some.inj hy6
   refine L_callVX rfl rfl hf1 rfl (by exact fun w hw=>hk1 w _ u5.t hw) ?_
   refine s2 ?_
   refine kp [0,1,5,6,7,29] ?_
   refine W_cond rfl (fun q7=>?_) (fun q7=>?_)
   ·replace hp:=cond_t q7 hp
    refine s4 ?_
    refine L_loadW rfl rfl (RdC.blk mm) (by rw [GT.len];exact agg141.h) ?_
    replace hp:=idx_bind hp;obtain ⟨u8,hy8,hp⟩:=hp
    refine L_idxA (X:=v3_0) rfl rfl rfl el42.h (RdT.tree mm) hy8 ?_
    refine L_conv (M':=treeH u8::holeH v3_0 (v3_1.toNat) (GT.cells u8)::_) (fun w h=>hole_open hy8.2 pk h) ?_
    refine L_stH (X:=v3_0) (i:=v3_1.toNat) (sz:=GT.sz (Rw T_Lead)) (fo:=0) (n:=GT.sz (Rw T_Lead)) rfl rfl pk rfl (.inl agg141.h) (GT.len u5) (fun v hv=>GT.one u5 v hv) (by rw [GT.len];omega) ?_
    refine L_conv (M':=treeH u5::_) (fun w h=>addF u5 h) ?_
    replace hp:=ba hp;obtain ⟨y9,hy9,hp⟩:=hp
    refine L_close (X:=v3_0) u5 (cs_whole u8 u5) pk pk hy9 (fun X10 hdX10 hhX10=>?_)
    subst hdX10
    rw [← hhX10]
    refine s11 ?_
    exact ⟨(X10,IntKind.wrap .i64 (v3_1+1),IntKind.wrap .i64 (v3_2+1)),sb,(.sub ms),some_eq hp⟩
   ·replace hp:=cond_f q7 hp
    refine s6 ?_
    exact ⟨(v3_0,v3_1,IntKind.wrap .i64 (v3_2+1)),sb,(.sub ms),some_eq hp⟩
  ·replace hp:=cond_f q4 hp
   refine W_exit ?_
   replace hp:=map_any hp;obtain ⟨a11,hp,z_11⟩:=hp
   have hr:=hx3 _ z_11
   refine s4 ?_
   replace hp:=ba hp;obtain ⟨y12,hy12,hp⟩:=hp
   refine L_slcE (X:=v3_0) rfl rfl rfl rfl el42.h rfl (RdT.tree mm) hy12 (fun X13 hdX13 heX13=>?_)
   have hsX13:=hy12
   subst hdX13
   replace hp:=ba hp;obtain ⟨y14,hy14,hp⟩:=hp
   replace hp:=ba hp;obtain ⟨y15,hy15,hp⟩:=hp
   refine L_clrV (X:=v3_0) (Y:=X13) (Rw.mk (((0,0),0,0,0,TL.nil T_Id 0,TL.nil Int 0,false):T_Lead)) rfl el42.h rfl rfl rfl pk heX13 hsX13 hy14 hy15 (fun X16 hdX16 hhX16=>?_)
   subst hdX16
   try rw [← hhX16]
   refine s5 ?_
   replace hp:=ba hp;obtain ⟨y17,hy17,hp⟩:=hp
   refine L_slcE (X:=X16) rfl rfl rfl rfl el42.h rfl (RdT.tree mm) hy17 (fun X18 hdX18 heX18=>?_)
   have hsX18:=hy17
   subst hdX18
   refine s2 ?_
   refine W_trunc (X:=X16) (Y:=X18) (u:=()) heX18 hsX18 rfl pk (fun X19 hdX19 hhX19=>?_)
   rw [← hdX19] at hp
   try rw [← hhX19]
   have hfin:=(Option.some.inj hp).trans hr
   rw [rwT_dat] at hfin
   refine W_conv (fun w h=>row_filter (fun t:T_Lead=>qD (GT.dat t)) hfin pk pk h) ?_
   rw [← unT_hdr X19]
   refine s1 ?_
   refine res1 rfl (ResOK.tmp rfl) ⟨unT X19,rfl,by rw [dat_els,unT_els,hfin,dat_els,List.filter_map];rfl,rfl⟩ ms
end Go.Proofs.SL
namespace Go.Proofs.SL
open Go
set_option maxHeartbeats 2000000
noncomputable def i_ENode_drop_c1 (a0:D_Lead) (c0:D_Id):Option Bool :=
 some (decide (a0.1.1=c0.1)&&(decide (a0.1.2=c0.2)&&true))
theorem i_ENode_drop_c1_walk (w:World) (a0:T_Lead) (b0:Nat) (c0:T_Id) (hb0:Cells w [] b0 0 (GT.cells c0)) (q0:GT.rd w [] c0) (r:Bool) (hp:i_ENode_drop_c1 (GT.dat a0) (GT.dat c0)=some r):Spec Tryz.prog 204 ([(.agg (GT.cells a0).toArray:Value)]++[Value.pointer (some ⟨b0,0,none⟩)]).toArray w [] (IsV (.bool r)):=by
 obtain ⟨⟨a0_1,a0_2⟩,a0_3,a0_4,a0_5,a0_6,a0_7,a0_8⟩:=a0
 obtain ⟨c0_1,c0_2⟩:=c0
 change Spec _ _ ([Value.agg #[.int .i64 a0_1,.int .i64 a0_2,.int .i64 a0_3,.int .i64 a0_4,.int .i64 a0_5,(TL.hdr a0_6),(TL.hdr a0_7),.bool a0_8],Value.pointer (some ⟨b0,0,none⟩)]:List Value).toArray w [] _
 refine Spec.intro Tryz.func204 rfl Tryz.ntmps204 rfl ?_
 unfold i_ENode_drop_c1 at hp
 replace hp:=dd hp
 refine s2 ?_
 refine bx fun bk2=>?_
 refine s5 ?_
 refine L_loadW rfl rfl (RdC.seg (RdC.blk mm) 0 2 rfl) (by exact agg35.h) ?_
 refine L_loadW rfl rfl (RdC.old hb0) (by exact agg35.h) ?_
 refine L_binV rfl rfl rfl (bv_aeql eqsh35 (EqS.consI one3.h und3.h rfl rfl (EqS.consI one3.h und3.h rfl rfl EqS.nil))) ?_
 refine s2 ?_
 obtain rfl:=sj hp
 refine s1 ?_
 refine res1 rfl (ResOK.tmp rfl) ⟨rfl,rfl⟩ ms
noncomputable def i_ENode_drop (a0:D_ENode) (a1:D_Id):Option D_ENode :=
 Option.bind (chkP (decide (a0.2.2.2.length≤4294967296))) (fun y1=>Option.bind (some (a0.2.2.2.filter (fun d=>!(fun d:D_Lead=>decide (d.1.1=a1.1)&&(decide (d.1.2=a1.2)&&true)) d))) (fun y2=>some (a0.1,a0.2.1,a0.2.2.1,y2)))
theorem i_ENode_drop_walk (w:World) (b0_:Nat) (a0:T_ENode) (a1:T_Id) (h1:GT.rd w (fps [blk b0_ (GT.cells a0) 44,treeH a0.2.2.1,treeH a0.2.2.2]) a1) (r:D_ENode) (hp:i_ENode_drop (GT.dat a0) (GT.dat a1)=some r):Spec Tryz.prog 176 [Value.pointer (some ⟨b0_,0,none⟩),.agg (GT.cells a1).toArray].toArray w [blk b0_ (GT.cells a0) 44,treeH a0.2.2.1,treeH a0.2.2.2] (fun v M=>∃ (y0:T_ENode),v=.tuple #[]∧GT.dat y0=r∧M=[blk b0_ (GT.cells y0) 44,treeH y0.2.2.1,treeH y0.2.2.2,elsT (a0.2.2.2.els.filter (fun t:T_Lead=>decide ((GT.dat t).1.1=a1.1)&&(decide ((GT.dat t).1.2=a1.2)&&true)))]):=by
 obtain ⟨a0_1,a0_2,a0_3,a0_4⟩:=a0
 obtain ⟨a1_1,a1_2⟩:=a1
 change Spec _ _ ([Value.pointer (some ⟨b0_,0,none⟩),Value.agg #[.int .i64 a1_1,.int .i64 a1_2]]:List Value).toArray w _ _
 refine Spec.intro Tryz.func176 rfl Tryz.ntmps176 rfl ?_
 unfold i_ENode_drop at hp
 replace hp:=dd hp
 refine s2 ?_
 refine bx fun bk3=>?_
 refine s7 ?_
 refine L_makeFunc (fs:=[]) (cs:=[.tmp 3]) rfl rfl rfl ?_
 replace hp:=ba hp;obtain ⟨y1,hy1,hp⟩:=hp
 replace hp:=ba hp;obtain ⟨y2,hy2,hp⟩:=hp
 refine L_callM [treeH a0_4] _ rfl fn203.h rfl pc (by exact fun w hw=>sl_DeleteFunc_raw_walk w a0_4 204 [Value.pointer (some ⟨bk3,0,none⟩)] (fun d:D_Lead=>decide (d.1.1=a1_1)&&(decide (d.1.2=a1_2)&&true)) fn204.h (len_of_chk hy1) (fun w' F u0 hF=>i_ENode_drop_c1_walk w' u0 bk3 (a1_1,a1_2) (cells_of_blk (List.mem_append_right _ mm) (Holds.frame hw hF).sees) (rd_carry (RdX.pair RdX.int RdX.int w hw) hF) _ rfl) _ (indexLead_eq _ _ (len_of_chk' hy1)) (firstI_dat _ _)) ?_
 rintro _ _ ⟨X3,rfl,hdX3,rfl⟩
 obtain rfl:GT.dat X3=y2:=hdX3.trans (Option.some.inj hy2)
 clear hy2 hdX3
 refine sc ?_
 refine s4 ?_
 obtain rfl:=sj hp
 refine res0n rfl  ⟨(a0_1,a0_2,a0_3,X3),rfl,rfl,rfl⟩ ms
end Go.Proofs.SL
namespace Go.Proofs.SL
open Go
set_option maxHeartbeats 2000000
instance:Inhabited T_Inst:=⟨((0,0),0,0,0,(0,0,0,ByteArray.empty,ByteArray.empty,ByteArray.empty,0,TL.nil ByteArray 0),0,TL.nil T_Id 0,false)⟩
theorem sl_SortFunc_implIdimplId_walk (w:World) (a0:TL T_Id) (f1:Nat) (cs1:List Value) (a1:D_Id→D_Id→Option Int) (hf1:IsFn Tryz.prog f1) (hk1:∀ (w':World) (F:List HP) (u0 u1:T_Id) (v:Int),Holds w (fps [treeH a0]) F w'→GT.rd w' [] u0→GT.rd w' [] u1→a1 (GT.dat u0) (GT.dat u1)=some v→Spec Tryz.prog f1 ([Value.agg (GT.cells u0).toArray,Value.agg (GT.cells u1).toArray]++cs1).toArray w' [] (IsV (.int .i64 v))) (r:List D_Id) (hp:sortFn (GT.dat a0) a1=some r):Spec Tryz.prog 130 [(TL.hdr a0),.func (.func f1) #[] cs1.toArray].toArray w [treeH a0] (fun v M=>∃ (y0:TL T_Id),v=.tuple #[]∧GT.dat y0=r∧M=[treeH y0]∧y0.hdr=a0.hdr) :=
 Spec.sortN w a0 cs1 a1 r hp (fun w' F x y v hF hv=>hk1 w' F x y v hF (flat_rd x _ _) (flat_rd y _ _) hv)
  (fun b off cap d hO hc hH hb hsz=>Go.Proofs.AnyQ.slices_SortFunc_eq Tryz.laysSF130 2 Tryz.isAgg35 Tryz.sizeOf35 (fun x:T_Id=>GT.cells x) (fun x=>GT.len x) (fun x v hv=>GT.one x v hv) (fun x y:T_Id=>(a1 (GT.dat x) (GT.dat y)).getD 0) hO f1 cs1.toArray b off cap d w hf1.run hc hH hb hsz)
  (fun p cap=>Go.Proofs.AnyF.slices_SortFunc_none Tryz.laysSF130 p cap _ w)
theorem sl_SortFunc_implInstimplInst_walk (w:World) (a0:TL T_Inst) (f1:Nat) (cs1:List Value) (a1:D_Inst→D_Inst→Option Int) (hf1:IsFn Tryz.prog f1) (hk1:∀ (w':World) (F:List HP) (u0 u1:T_Inst) (v:Int),Holds w (fps [treeH a0]) F w'→a1 (GT.dat u0) (GT.dat u1)=some v→Spec Tryz.prog f1 ([Value.agg (GT.cells u0).toArray,Value.agg (GT.cells u1).toArray]++cs1).toArray w' [] (IsV (.int .i64 v))) (r:List D_Inst) (hp:sortFn (GT.dat a0) a1=some r):Spec Tryz.prog 195 ([(TL.hdr a0),.func (.func f1) #[] cs1.toArray]:List Value).toArray w [treeH a0] (fun v M=>∃ (y0:TL T_Inst),v=.tuple #[]∧GT.dat y0=r∧M=[treeH y0]∧y0.hdr=a0.hdr) :=
 Spec.sortN w a0 cs1 a1 r hp (fun w' F x y v hF hv=>hk1 w' F x y v hF hv)
  (fun b off cap d hO hc hH hb hsz=>Go.Proofs.AnyQ.slices_SortFunc_eq Tryz.laysSF195 16 Tryz.isAgg48 Tryz.sizeOf48 (fun x:T_Inst=>GT.cells x) (fun x=>GT.len x) (fun x v hv=>GT.one x v hv) (fun x y:T_Inst=>(a1 (GT.dat x) (GT.dat y)).getD 0) hO f1 cs1.toArray b off cap d w hf1.run hc hH hb hsz)
  (fun p cap=>Go.Proofs.AnyF.slices_SortFunc_none Tryz.laysSF195 p cap _ w)
theorem sl_Sort_intint_walk (w:World) (a0:TL Int) (r:List Int) (hp:sortIP (GT.dat a0)=some r):Spec Tryz.prog 200 [(TL.hdr a0)].toArray w [treeH a0] (fun v M=>∃ (y0:TL Int),v=.tuple #[]∧GT.dat y0=r∧M=[treeH y0]∧y0.hdr=a0.hdr):=Spec.sortI w a0 r hp (Any.slices_Sort_int Tryz.lays189) (Any.slices_Sort_int_none Tryz.lays189)
end Go.Proofs.SL
