/- The texts of the proof, part 11: the base, walks of functions, plain Lean. -/
import Derived.Test.YtkfgjljahhgooaaGreatT10
import Derived.Test.YtkfgjljahhgooaaGreatT5
namespace Go.Proofs.SL
open Go
set_option maxHeartbeats 2000000
instance fn110:FnF Tryz.prog 110:=⟨_,Tryz.func110,by kernel_rfl,rfl⟩
instance fn178:FnF Tryz.prog 178:=⟨_,Tryz.func178,by kernel_rfl,rfl⟩
instance fn177:FnF Tryz.prog 177:=⟨_,Tryz.func177,by kernel_rfl,rfl⟩
instance fn136:FnF Tryz.prog 136:=⟨_,Tryz.func136,by kernel_rfl,rfl⟩
instance fn137:FnF Tryz.prog 137:=⟨_,Tryz.func137,by kernel_rfl,rfl⟩
instance fn61:FnF Tryz.prog 61:=⟨_,Tryz.func61,by kernel_rfl,rfl⟩
instance fn64:FnF Tryz.prog 64:=⟨_,Tryz.func64,by kernel_rfl,rfl⟩
instance fn65:FnF Tryz.prog 65:=⟨_,Tryz.func65,by kernel_rfl,rfl⟩
instance fn41:FnF Tryz.prog 41:=⟨_,Tryz.func41,by kernel_rfl,rfl⟩
instance fn44:FnF Tryz.prog 44:=⟨_,Tryz.func44,by kernel_rfl,rfl⟩
noncomputable def i_copyInsts (a0:List D_Inst):Option (List D_Inst) :=
 whileP (fun s1:(List D_Inst)×Int=>cond (decide (s1.2 < (a0.length:Int))) (Option.bind (idx a0 s1.2) (fun y3=>Option.bind (i_copyInst ((y3.1.1,y3.1.2),y3.2.1,y3.2.2.1,y3.2.2.2.1,(y3.2.2.2.2.1.1,y3.2.2.2.2.1.2.1,y3.2.2.2.2.1.2.2.1,y3.2.2.2.2.1.2.2.2.1,y3.2.2.2.2.1.2.2.2.2.1,y3.2.2.2.2.1.2.2.2.2.2.1,y3.2.2.2.2.1.2.2.2.2.2.2.1,y3.2.2.2.2.1.2.2.2.2.2.2.2),y3.2.2.2.2.2.1,y3.2.2.2.2.2.2.1,y3.2.2.2.2.2.2.2)) (fun y4=>Option.bind (appP s1.1 [((y4.1.1,y4.1.2),y4.2.1,y4.2.2.1,y4.2.2.2.1,(y4.2.2.2.2.1.1,y4.2.2.2.2.1.2.1,y4.2.2.2.2.1.2.2.1,y4.2.2.2.2.1.2.2.2.1,y4.2.2.2.2.1.2.2.2.2.1,y4.2.2.2.2.1.2.2.2.2.2.1,y4.2.2.2.2.1.2.2.2.2.2.2.1,y4.2.2.2.2.1.2.2.2.2.2.2.2),y4.2.2.2.2.2.1,y4.2.2.2.2.2.2.1,y4.2.2.2.2.2.2.2)]) (fun y6=>some (.inl ((y6,IntKind.wrap .i64 (s1.2+1)))))))) (Option.map .inr (some s1.1))) (([]:List D_Inst),0)
theorem i_copyInsts_walk (w:World) (a0:TL T_Inst) (h0:GT.rd w [] a0) (r:(List D_Inst)) (hp:i_copyInsts (GT.dat a0)=some r):Spec Tryz.prog 110 [(TL.hdr a0)].toArray w [] (fun v M=>∃ (x0:TL T_Inst),v=(TL.hdr x0)∧GT.dat x0=r∧M=[treeH x0]):=by
 refine Spec.intro Tryz.func110 rfl Tryz.ntmps110 rfl ?_
 unfold i_copyInsts at hp
 replace hp:=dd hp
 refine s2 ?_
 refine L_assign (v:=(TL.hdr (TL.nil T_Inst 0))) rfl rfl ?_
 refine s3 ?_
 refine L_assign (v:=(TL.hdr (TL.nil T_Inst 0))) rfl rfl ?_
 refine s9 ?_
 refine W_conv (M':=treeH (TL.nil T_Inst 0)::_) (fun w h=>addNilT (τ:=T_Inst) 0 h) ?_
 refine W_while (σ:=(TL T_Inst)×Int) GT.dat (fun ((v1_0,v1_1):(TL T_Inst)×Int)=>[(3,(TL.hdr v1_0)),(8,.int .i64 v1_1)]) (fun ((v1_0,v1_1):(TL T_Inst)×Int)=>[treeH v1_0]) [(6,_),(7,_)] [] ((TL.nil T_Inst 0),0) hp sb ms ?_
 clear hp
 rintro ⟨v1_0,v1_1⟩ x1 hp hx1
 replace hp:=dd hp
 refine kq [3,6,7,8] ?_
 refine s5 ?_
 refine kp [3,6,7,8,9] ?_
 refine W_cond rfl (fun q2=>?_) (fun q2=>?_)
 ·replace hp:=cond_t q2 hp
  refine s5 ?_
  replace hp:=idx_bind hp;obtain ⟨⟨⟨u3_1,u3_2⟩,u3_3,u3_4,u3_5,⟨u3_6,u3_7,u3_8,u3_9,u3_10,u3_11,u3_12,u3_13⟩,u3_14,u3_15,u3_16⟩,hy3,hp⟩:=hp
  refine L_idxA (X:=a0) rfl rfl rfl el24.h (RdT.old h0) hy3 ?_
  refine L_loadW rfl rfl (RdT.at (RdT.old h0) (hy3).2) (by exact agg45.h) ?_
  refine al fun bk5=>?_
  refine s5 ?_
  replace hp:=ba hp;obtain ⟨y4,hy4,hp⟩:=hp
  refine L_callR rfl fn132.h rfl (by exact fun w hw=>i_copyInst_walk w ((u3_1,u3_2),u3_3,u3_4,u3_5,(u3_6,u3_7,u3_8,u3_9,u3_10,u3_11,u3_12,u3_13),u3_14,u3_15,u3_16) (RdT.now (RdT.pair (RdT.pair RdT.int RdT.int) (RdT.pair RdT.int (RdT.pair RdT.int (RdT.pair RdT.int (RdT.pair (RdT.pair RdT.int (RdT.pair RdT.int (RdT.pair RdT.int (RdT.pair RdT.str (RdT.pair RdT.str (RdT.pair RdT.str (RdT.pair RdT.int (RdT.snd (RdT.snd (RdT.snd (RdT.snd (RdT.snd (RdT.snd (RdT.snd (RdT.fst (RdT.snd (RdT.snd (RdT.snd (RdT.snd (RdT.of (RdT.old h0) (hy3).2)))))))))))))))))))) (RdT.pair RdT.int (RdT.pair (RdT.fst (RdT.snd (RdT.snd (RdT.snd (RdT.snd (RdT.snd (RdT.snd (RdT.of (RdT.old h0) (hy3).2)))))))) RdT.bool))))))) hw) _ hy4) ?_
  rintro _ _ ⟨⟨⟨y4x0_1,y4x0_2⟩,y4x0_3,y4x0_4,y4x0_5,⟨y4x0_6,y4x0_7,y4x0_8,y4x0_9,y4x0_10,y4x0_11,y4x0_12,y4x0_13⟩,y4x0_14,y4x0_15,y4x0_16⟩,rfl,rfl,rfl⟩
  refine sc ?_
  replace hp:=dd hp
  refine xL (((y4x0_1,y4x0_2),y4x0_3,y4x0_4,y4x0_5,(y4x0_6,y4x0_7,y4x0_8,y4x0_9,y4x0_10,y4x0_11,y4x0_12,y4x0_13),y4x0_14,y4x0_15,y4x0_16):T_Inst) ?_
  refine L_buildSlice1 rfl rfl el24.h rfl (by decide) (by decide) rfl (fun bb15=>?_)
  replace hp:=ba hp;obtain ⟨y6,hy6,hp⟩:=hp
  refine jL (((y4x0_1,y4x0_2),y4x0_3,y4x0_4,y4x0_5,(y4x0_6,y4x0_7,y4x0_8,y4x0_9,y4x0_10,y4x0_11,y4x0_12,y4x0_13),y4x0_14,y4x0_15,y4x0_16):T_Inst) ?_
  refine L_app1m (X:=v1_0) (((y4x0_1,y4x0_2),y4x0_3,y4x0_4,y4x0_5,(y4x0_6,y4x0_7,y4x0_8,y4x0_9,y4x0_10,y4x0_11,y4x0_12,y4x0_13),y4x0_14,y4x0_15,y4x0_16):T_Inst) rfl rfl rfl el24.h rfl rfl pk mm pk hy6 (by decide) (fun X5 hdX5 hmX5=>?_)
  subst hdX5
  refine s6 ?_
  exact ⟨(X5,IntKind.wrap .i64 (v1_1+1)),sb,(.sub ms),some_eq hp⟩
 ·replace hp:=cond_f q2 hp
  refine W_exit ?_
  replace hp:=map_any hp;obtain ⟨a7,hp,z_7⟩:=hp
  obtain rfl:=hx1 _ z_7
  refine s5 ?_
  obtain rfl:=sj hp
  refine s1 ?_
  refine res1 rfl (ResOK.tmp rfl) ⟨v1_0,rfl,rfl,rfl⟩ ms
noncomputable def i_copyENode (a0:D_ENode):Option D_ENode :=
 Option.bind (i_copyInsts a0.2.2.1) (fun y1=>whileP (fun s3:Int×(List D_Lead)=>cond (decide (s3.1 < (a0.2.2.2.length:Int))) (Option.bind (idx a0.2.2.2 s3.1) (fun y5=>Option.bind (i_copyIds y5.2.2.2.2.1) (fun y6=>Option.bind (appP ([]:List Int) y5.2.2.2.2.2.1) (fun y8=>Option.bind (appP s3.2 [((y5.1.1,y5.1.2),y5.2.1,y5.2.2.1,y5.2.2.2.1,y6,y8,y5.2.2.2.2.2.2)]) (fun y10=>some (.inl ((IntKind.wrap .i64 (s3.1+1),y10)))))))) (Option.map .inr (some (a0.1,a0.2.1,y1,s3.2)))) (0,([]:List D_Lead)))
theorem i_copyENode_walk (w:World) (a0:T_ENode) (h0:GT.rd w [] a0) (r:D_ENode) (hp:i_copyENode (GT.dat a0)=some r):Spec Tryz.prog 44 [.agg (GT.cells a0).toArray].toArray w [] (fun v M=>∃ (x0:T_ENode),v=.agg (GT.cells x0).toArray∧GT.dat x0=r∧M=[treeH x0]):=by
 obtain ⟨a0_1,a0_2,a0_3,a0_4⟩:=a0
 change Spec _ _ ([Value.agg #[.int .i64 a0_1,.int .i64 a0_2,(TL.hdr a0_3),(TL.hdr a0_4)]]:List Value).toArray w [] _
 refine Spec.intro Tryz.func44 rfl Tryz.ntmps44 rfl ?_
 unfold i_copyENode at hp
 replace hp:=dd hp
 refine s2 ?_
 refine bx fun bk1=>?_
 refine al fun bk2=>?_
 refine s2 ?_
 replace hp:=ba hp;obtain ⟨y1,hy1,hp⟩:=hp
 refine W_DS (pre:=[_,_,_,_,_,_,_,_,_]) (suf:=[_]) [3,13] [] _ pc mix (by kernel_rfl) (by kernel_rfl) rfl ?_
 refine s6 ?_
 refine D_call1R (fun v M=>∃ (x0:TL T_Inst),v=(TL.hdr x0)∧GT.dat x0=y1∧M=[treeH x0]) fn110.h (OpVs.cons (OpV.t rfl) (OpVs.nil)) (by exact fun w F hF hM=>i_copyInsts_walk w a0_3 (RdT.nowS (RdT.old h0.2.2.1) hF hM) _ hy1) ?_
 refine D_buildO (τ:=T_Inst) (t:=12) (xs:=[(0,.tmp 7),(1,.tmp 9),(2,.tmp 12)]) (ps:=fun u=>[(0,.int .i64 a0_1),(1,.int .i64 a0_2),(2,u)]) (cs:=fun u=>[.int .i64 a0_1,.int .i64 a0_2,u,(TL.hdr (TL.nil T_Lead 0))]) rfl (fun u=>(OpVp.cons (OpV.t rfl) (OpVp.cons (OpV.t rfl) (OpVp.cons (OpV.t rfl) (OpVp.nil))))) bld27.h (fun X=>rfl) (by kernel_rfl) ?_
 refine D_alloc zero27.h ?_
 refine s1 ?_
 refine Give_R rfl rfl ?_
 rintro _ _ ⟨bk3,rfl,rfl⟩
 simp only [List.cons_append,List.nil_append]
 refine Give_R rfl rfl ?_
 rintro _ _ ⟨X2,rfl,rfl,rfl⟩
 simp only [List.cons_append,List.nil_append]
 refine s19 ?_
 refine W_conv (M':=treeH (TL.nil T_Lead 0)::_) (fun w h=>addNilT (τ:=T_Lead) 0 h) ?_
 refine W_while (σ:=Int×(TL T_Lead)) GT.dat (fun ((v3_0,v3_1):Int×(TL T_Lead))=>[(17,.int .i64 v3_0)]) (fun ((v3_0,v3_1):Int×(TL T_Lead))=>[blk bk3 [.int .i64 a0_1,.int .i64 a0_2,(TL.hdr X2),(TL.hdr v3_1)] 27,treeH v3_1]) [(2,_),(3,_),(15,_),(16,_)] [blk bk2 _ _,treeH X2] (0,(TL.nil T_Lead 0)) hp sb ms ?_
 clear hp
 rintro ⟨v3_0,v3_1⟩ x3 hp hx3
 replace hp:=dd hp
 refine kq [2,3,15,16,17] ?_
 refine s5 ?_
 refine kp [2,3,15,16,17,18] ?_
 refine W_cond rfl (fun q4=>?_) (fun q4=>?_)
 ·replace hp:=cond_t q4 hp
  refine s5 ?_
  replace hp:=idx_bind hp;obtain ⟨⟨⟨u5_1,u5_2⟩,u5_3,u5_4,u5_5,u5_6,u5_7,u5_8⟩,hy5,hp⟩:=hp
  refine L_idxA (X:=a0_4) rfl rfl rfl el25.h (RdT.old h0.2.2.2) hy5 ?_
  refine L_loadW rfl rfl (RdT.at (RdT.old h0.2.2.2) (hy5).2) (by exact agg89.h) ?_
  refine al fun bk5=>?_
  refine s6 ?_
  replace hp:=ba hp;obtain ⟨y6,hy6,hp⟩:=hp
  refine L_callR rfl fn92.h rfl (by exact fun w hw=>i_copyIds_walk w u5_6 (RdT.now (RdT.fst (RdT.snd (RdT.snd (RdT.snd (RdT.snd (RdT.of (RdT.old h0.2.2.2) (hy5).2)))))) hw) _ hy6) ?_
  rintro _ _ ⟨y6x0,rfl,rfl,rfl⟩
  refine sc ?_
  replace hp:=dd hp
  refine s7 ?_
  refine L_conv (M':=treeH (TL.nil Int 0)::_) (fun w h=>addNilT _ h) ?_
  replace hp:=ba hp;obtain ⟨y8,hy8,hp⟩:=hp
  refine L_appT (X:=(TL.nil Int 0)) (Y:=u5_7) rfl rfl rfl el87.h rfl rfl pk (RdT.fst (RdT.snd (RdT.snd (RdT.snd (RdT.snd (RdT.snd (RdT.of (RdT.old h0.2.2.2) (hy5).2))))))) hy8 (by decide) (fun X7 hdX7=>?_)
  subst hdX7
  refine s7 ?_
  refine L_buildSlice1 rfl rfl el25.h rfl (by decide) (by decide) rfl (fun bb32=>?_)
  replace hp:=ba hp;obtain ⟨y10,hy10,hp⟩:=hp
  refine jL (((u5_1,u5_2),u5_3,u5_4,u5_5,y6x0,X7,u5_8):T_Lead) ?_
  refine L_app1m (X:=v3_1) (((u5_1,u5_2),u5_3,u5_4,u5_5,y6x0,X7,u5_8):T_Lead) rfl rfl rfl el25.h rfl rfl pk mm pk hy10 (by decide) (fun X9 hdX9 hmX9=>?_)
  subst hdX9
  refine s7 ?_
  exact ⟨(IntKind.wrap .i64 (v3_0+1),X9),sb,(.sub ms),some_eq hp⟩
 ·replace hp:=cond_f q4 hp
  refine W_exit ?_
  replace hp:=map_any hp;obtain ⟨a11,hp,z_11⟩:=hp
  obtain rfl:=hx3 _ z_11
  refine s5 ?_
  obtain rfl:=sj hp
  refine jW ((a0_1,a0_2,X2,v3_1):T_ENode) ?_
  refine s1 ?_
  refine res1 rfl (ResOK.cell rfl mm (by exact agg27.h)) ⟨(a0_1,a0_2,X2,v3_1),rfl,rfl,rfl⟩ ms
noncomputable def i_InstPut_c1 (a0:D_Inst) (a1:D_Inst):Option Int :=
 Option.bind (i_compareIds (a0.1.1,a0.1.2) (a1.1.1,a1.1.2)) (fun y1=>some y1)
theorem i_InstPut_c1_walk (w:World) (a0:T_Inst) (a1:T_Inst)  (r:Int) (hp:i_InstPut_c1 (GT.dat a0) (GT.dat a1)=some r):Spec Tryz.prog 178 [.agg (GT.cells a0).toArray,.agg (GT.cells a1).toArray].toArray w [] (IsV (.int .i64 r)):=by
 obtain ⟨⟨a0_1,a0_2⟩,a0_3,a0_4,a0_5,⟨a0_6,a0_7,a0_8,a0_9,a0_10,a0_11,a0_12,a0_13⟩,a0_14,a0_15,a0_16⟩:=a0
 obtain ⟨⟨a1_1,a1_2⟩,a1_3,a1_4,a1_5,⟨a1_6,a1_7,a1_8,a1_9,a1_10,a1_11,a1_12,a1_13⟩,a1_14,a1_15,a1_16⟩:=a1
 change Spec _ _ ([Value.agg #[.int .i64 a0_1,.int .i64 a0_2,.int .i64 a0_3,.int .i64 a0_4,.int .i64 a0_5,.int .i64 a0_6,.int .i64 a0_7,.int .i64 a0_8,.string a0_9,.string a0_10,.string a0_11,.int .i64 a0_12,(TL.hdr a0_13),.int .i64 a0_14,(TL.hdr a0_15),.bool a0_16],Value.agg #[.int .i64 a1_1,.int .i64 a1_2,.int .i64 a1_3,.int .i64 a1_4,.int .i64 a1_5,.int .i64 a1_6,.int .i64 a1_7,.int .i64 a1_8,.string a1_9,.string a1_10,.string a1_11,.int .i64 a1_12,(TL.hdr a1_13),.int .i64 a1_14,(TL.hdr a1_15),.bool a1_16]]:List Value).toArray w [] _
 refine Spec.intro Tryz.func178 rfl Tryz.ntmps178 rfl ?_
 unfold i_InstPut_c1 at hp
 replace hp:=dd hp
 refine s2 ?_
 refine bx fun bk2=>?_
 refine bx fun bk3=>?_
 refine s5 ?_
 refine L_loadW rfl rfl (RdC.seg (RdC.blk mm) 0 2 rfl) (by exact agg29.h) ?_
 refine s1 ?_
 refine L_loadW rfl rfl (RdC.seg (RdC.blk mm) 0 2 rfl) (by exact agg29.h) ?_
 replace hp:=ba hp;obtain ⟨y1,hy1,hp⟩:=hp
 refine L_callX rfl fn159.h rfl (by exact fun w hw=>i_compareIds_walk w (a0_1,a0_2) (a1_1,a1_2) (RdT.now (RdT.pair RdT.int RdT.int) hw) (RdT.now (RdT.pair RdT.int RdT.int) hw) _ hy1) ?_
 refine s2 ?_
 obtain rfl:=sj hp
 refine s1 ?_
 refine res1 rfl (ResOK.tmp rfl) ⟨rfl,rfl⟩ ms
noncomputable def i_InstPut (a0:List D_Inst) (a1:D_Inst):Option (List D_Inst) :=
 Option.bind (i_InstsOk a0) (fun y1=>cond (!y1) (some ([]:List D_Inst)) (Option.bind (i_copyInsts a0) (fun y3=>Option.bind (i_instAt a0 (a1.1.1,a1.1.2)) (fun y4=>cond (decide (0≤y4)) (Option.bind (i_copyInst ((a1.1.1,a1.1.2),a1.2.1,a1.2.2.1,a1.2.2.2.1,(a1.2.2.2.2.1.1,a1.2.2.2.2.1.2.1,a1.2.2.2.2.1.2.2.1,a1.2.2.2.2.1.2.2.2.1,a1.2.2.2.2.1.2.2.2.2.1,a1.2.2.2.2.1.2.2.2.2.2.1,a1.2.2.2.2.1.2.2.2.2.2.2.1,a1.2.2.2.2.1.2.2.2.2.2.2.2),a1.2.2.2.2.2.1,a1.2.2.2.2.2.2.1,a1.2.2.2.2.2.2.2)) (fun y6=>Option.bind (idx y3 y4) (fun y7=>Option.bind (some (y3.set (y4.toNat) ((y6.1.1,y6.1.2),y6.2.1,y6.2.2.1,y6.2.2.2.1,(y6.2.2.2.2.1.1,y6.2.2.2.2.1.2.1,y6.2.2.2.2.1.2.2.1,y6.2.2.2.2.1.2.2.2.1,y6.2.2.2.2.1.2.2.2.2.1,y6.2.2.2.2.1.2.2.2.2.2.1,y6.2.2.2.2.1.2.2.2.2.2.2.1,y6.2.2.2.2.1.2.2.2.2.2.2.2),y6.2.2.2.2.2.1,y6.2.2.2.2.2.2.1,y6.2.2.2.2.2.2.2))) (fun y8=>Option.bind (sortFn y8 (fun z0 z1=>i_InstPut_c1 z0 z1 )) (fun y10=>Option.bind (i_InstsOk y10) (fun y11=>cond (!y11) (Option.bind (i_copyInsts a0) (fun y13=>some y13)) (some y10))))))) (Option.bind (i_copyInst ((a1.1.1,a1.1.2),a1.2.1,a1.2.2.1,a1.2.2.2.1,(a1.2.2.2.2.1.1,a1.2.2.2.2.1.2.1,a1.2.2.2.2.1.2.2.1,a1.2.2.2.2.1.2.2.2.1,a1.2.2.2.2.1.2.2.2.2.1,a1.2.2.2.2.1.2.2.2.2.2.1,a1.2.2.2.2.1.2.2.2.2.2.2.1,a1.2.2.2.2.1.2.2.2.2.2.2.2),a1.2.2.2.2.2.1,a1.2.2.2.2.2.2.1,a1.2.2.2.2.2.2.2)) (fun y14=>Option.bind (appP y3 [((y14.1.1,y14.1.2),y14.2.1,y14.2.2.1,y14.2.2.2.1,(y14.2.2.2.2.1.1,y14.2.2.2.2.1.2.1,y14.2.2.2.2.1.2.2.1,y14.2.2.2.2.1.2.2.2.1,y14.2.2.2.2.1.2.2.2.2.1,y14.2.2.2.2.1.2.2.2.2.2.1,y14.2.2.2.2.1.2.2.2.2.2.2.1,y14.2.2.2.2.1.2.2.2.2.2.2.2),y14.2.2.2.2.2.1,y14.2.2.2.2.2.2.1,y14.2.2.2.2.2.2.2)]) (fun y16=>Option.bind (sortFn y16 (fun z0 z1=>i_InstPut_c1 z0 z1 )) (fun y17=>Option.bind (i_InstsOk y17) (fun y18=>cond (!y18) (Option.bind (i_copyInsts a0) (fun y20=>some y20)) (some y17))))))))))
theorem i_InstPut_walk (w:World) (a0:TL T_Inst) (a1:T_Inst) (h0:GT.rd w [] a0) (h1:GT.rd w [] a1) (r:(List D_Inst)) (hp:i_InstPut (GT.dat a0) (GT.dat a1)=some r):Spec Tryz.prog 136 [(TL.hdr a0),.agg (GT.cells a1).toArray].toArray w [] (fun v M=>∃ (x0:TL T_Inst),v=(TL.hdr x0)∧GT.dat x0=r∧M=[treeH x0]):=by
 obtain ⟨⟨a1_1,a1_2⟩,a1_3,a1_4,a1_5,⟨a1_6,a1_7,a1_8,a1_9,a1_10,a1_11,a1_12,a1_13⟩,a1_14,a1_15,a1_16⟩:=a1
 change Spec _ _ ([(TL.hdr a0),Value.agg #[.int .i64 a1_1,.int .i64 a1_2,.int .i64 a1_3,.int .i64 a1_4,.int .i64 a1_5,.int .i64 a1_6,.int .i64 a1_7,.int .i64 a1_8,.string a1_9,.string a1_10,.string a1_11,.int .i64 a1_12,(TL.hdr a1_13),.int .i64 a1_14,(TL.hdr a1_15),.bool a1_16]]:List Value).toArray w [] _
 refine Spec.intro Tryz.func136 rfl Tryz.ntmps136 rfl ?_
 unfold i_InstPut at hp
 replace hp:=dd hp
 refine s2 ?_
 refine bx fun bk3=>?_
 refine L_assign (v:=(TL.hdr (TL.nil T_Inst 0))) rfl rfl ?_
 refine s5 ?_
 replace hp:=ba hp;obtain ⟨y1,hy1,hp⟩:=hp
 refine L_callX rfl fn107.h rfl (by exact fun w hw=>i_InstsOk_walk w a0 (RdT.now (RdT.old h0) hw) _ hy1) ?_
 refine s2 ?_
 refine kp [0,3,9] ?_
 refine W_cond rfl (fun q2=>?_) (fun q2=>?_)
 ·replace hp:=cond_t q2 hp
  refine s2 ?_
  refine L_assign (v:=(TL.hdr (TL.nil T_Inst 0))) rfl rfl ?_
  refine s1 ?_
  obtain rfl:=sj hp
  refine W_conv (M':=treeH (TL.nil T_Inst 0)::_) (fun w h=>addNilT (τ:=T_Inst) 0 h) ?_
  refine s1 ?_
  refine res1 rfl (ResOK.tmp rfl) ⟨(TL.nil T_Inst 0),rfl,rfl,rfl⟩ ms
 ·replace hp:=cond_f q2 hp
  refine s4 ?_
  replace hp:=ba hp;obtain ⟨y3,hy3,hp⟩:=hp
  refine L_callR rfl fn110.h rfl (by exact fun w hw=>i_copyInsts_walk w a0 (RdT.now (RdT.old h0) hw) _ hy3) ?_
  rintro _ _ ⟨y3x0,rfl,rfl,rfl⟩
  refine sc ?_
  replace hp:=dd hp
  refine s7 ?_
  refine L_loadW rfl rfl (RdC.seg (RdC.blk mm) 0 2 rfl) (by exact agg29.h) ?_
  replace hp:=ba hp;obtain ⟨y4,hy4,hp⟩:=hp
  refine L_callX rfl fn131.h rfl (by exact fun w hw=>i_instAt_walk w a0 (a1_1,a1_2) (RdT.now (RdT.old h0) hw) (RdT.now (RdT.pair RdT.int RdT.int) hw) _ hy4) ?_
  refine s7 ?_
  refine kp [0,3,5,6,17] ?_
  refine W_cond rfl (fun q5=>?_) (fun q5=>?_)
  ·replace hp:=cond_t q5 hp
   refine s4 ?_
   replace hp:=ba hp;obtain ⟨y6,hy6,hp⟩:=hp
   refine L_callR rfl fn132.h rfl (by exact fun w hw=>i_copyInst_walk w ((a1_1,a1_2),a1_3,a1_4,a1_5,(a1_6,a1_7,a1_8,a1_9,a1_10,a1_11,a1_12,a1_13),a1_14,a1_15,a1_16) (RdT.now (RdT.pair (RdT.pair RdT.int RdT.int) (RdT.pair RdT.int (RdT.pair RdT.int (RdT.pair RdT.int (RdT.pair (RdT.pair RdT.int (RdT.pair RdT.int (RdT.pair RdT.int (RdT.pair RdT.str (RdT.pair RdT.str (RdT.pair RdT.str (RdT.pair RdT.int (RdT.old h1.2.2.2.2.1.2.2.2.2.2.2.2)))))))) (RdT.pair RdT.int (RdT.pair (RdT.old h1.2.2.2.2.2.2.1) RdT.bool))))))) hw) _ hy6) ?_
   rintro _ _ ⟨⟨⟨y6x0_1,y6x0_2⟩,y6x0_3,y6x0_4,y6x0_5,⟨y6x0_6,y6x0_7,y6x0_8,y6x0_9,y6x0_10,y6x0_11,y6x0_12,y6x0_13⟩,y6x0_14,y6x0_15,y6x0_16⟩,rfl,rfl,rfl⟩
   refine sc ?_
   replace hp:=dd hp
   refine xL (((y6x0_1,y6x0_2),y6x0_3,y6x0_4,y6x0_5,(y6x0_6,y6x0_7,y6x0_8,y6x0_9,y6x0_10,y6x0_11,y6x0_12,y6x0_13),y6x0_14,y6x0_15,y6x0_16):T_Inst) ?_
   replace hp:=idx_bind hp;obtain ⟨⟨⟨u7_1,u7_2⟩,u7_3,u7_4,u7_5,⟨u7_6,u7_7,u7_8,u7_9,u7_10,u7_11,u7_12,u7_13⟩,u7_14,u7_15,u7_16⟩,hy7,hp⟩:=hp
   refine L_idxA (X:=y3x0) rfl rfl rfl el24.h (RdT.tree mm) hy7 ?_
   refine L_conv (M':=treeH ((u7_1,u7_2),u7_3,u7_4,u7_5,(u7_6,u7_7,u7_8,u7_9,u7_10,u7_11,u7_12,u7_13),u7_14,u7_15,u7_16)::holeH y3x0 (y4.toNat) (GT.cells ((u7_1,u7_2),u7_3,u7_4,u7_5,(u7_6,u7_7,u7_8,u7_9,u7_10,u7_11,u7_12,u7_13),u7_14,u7_15,u7_16))::_) (fun w h=>hole_open hy7.2 pk h) ?_
   refine xL (((u7_1,u7_2),u7_3,u7_4,u7_5,(u7_6,u7_7,u7_8,u7_9,u7_10,u7_11,u7_12,u7_13),u7_14,u7_15,u7_16):T_Inst) ?_
   refine L_stH (X:=y3x0) (i:=y4.toNat) (sz:=16) (fo:=0) (n:=16) rfl rfl pk rfl (.inl agg45.h) rfl (allOne rfl) (Nat.le_of_ble_eq_true rfl) ?_
   refine jL (((y6x0_1,y6x0_2),y6x0_3,y6x0_4,y6x0_5,(y6x0_6,y6x0_7,y6x0_8,y6x0_9,y6x0_10,y6x0_11,y6x0_12,y6x0_13),y6x0_14,y6x0_15,y6x0_16):T_Inst) ?_
   replace hp:=ba hp;obtain ⟨y8,hy8,hp⟩:=hp
   refine L_close (X:=y3x0) (((y6x0_1,y6x0_2),y6x0_3,y6x0_4,y6x0_5,(y6x0_6,y6x0_7,y6x0_8,y6x0_9,y6x0_10,y6x0_11,y6x0_12,y6x0_13),y6x0_14,y6x0_15,y6x0_16):T_Inst) rfl pk pk hy8 (fun X9 hdX9 hhX9=>?_)
   subst hdX9
   try rw [← hhX9]
   try rw [← g_of_hdr hhX9]
   try rw [← o_of_hdr hhX9]
   refine s4 ?_
   replace hp:=ba hp;obtain ⟨y10,hy10,hp⟩:=hp
   refine L_callM [treeH X9] _ rfl fn177.h rfl pc (by exact fun w hw=>sl_SortFunc_implInstimplInst_walk w X9 178 [] (fun z0 z1=>i_InstPut_c1 z0 z1 ) fn178.h (fun w' F u0 u1 v hF  hv=>i_InstPut_c1_walk w' u0 u1  v hv) _ hy10) ?_
   rintro _ _ ⟨y10y0,rfl,rfl,rfl,hey10_0⟩
   try rw [← hey10_0]
   refine sc ?_
   replace hp:=dd hp
   refine s5 ?_
   replace hp:=ba hp;obtain ⟨y11,hy11,hp⟩:=hp
   refine L_callX rfl fn107.h rfl (by exact fun w hw=>i_InstsOk_walk w y10y0 (RdT.now (RdT.tree mm) hw) _ hy11) ?_
   refine s2 ?_
   refine kp [0,5,32] ?_
   refine W_cond rfl (fun q12=>?_) (fun q12=>?_)
   ·replace hp:=cond_t q12 hp
    refine s3 ?_
    replace hp:=ba hp;obtain ⟨y13,hy13,hp⟩:=hp
    refine L_callR rfl fn110.h rfl (by exact fun w hw=>i_copyInsts_walk w a0 (RdT.now (RdT.old h0) hw) _ hy13) ?_
    rintro _ _ ⟨y13x0,rfl,rfl,rfl⟩
    refine sc ?_
    replace hp:=dd hp
    refine s2 ?_
    obtain rfl:=sj hp
    refine s1 ?_
    refine res1 rfl (ResOK.tmp rfl) ⟨y13x0,rfl,rfl,rfl⟩ ms
   ·replace hp:=cond_f q12 hp
    refine s6 ?_
    obtain rfl:=sj hp
    refine s1 ?_
    refine res1 rfl (ResOK.tmp rfl) ⟨y10y0,rfl,rfl,rfl⟩ ms
  ·replace hp:=cond_f q5 hp
   refine s3 ?_
   replace hp:=ba hp;obtain ⟨y14,hy14,hp⟩:=hp
   refine L_callR rfl fn132.h rfl (by exact fun w hw=>i_copyInst_walk w ((a1_1,a1_2),a1_3,a1_4,a1_5,(a1_6,a1_7,a1_8,a1_9,a1_10,a1_11,a1_12,a1_13),a1_14,a1_15,a1_16) (RdT.now (RdT.pair (RdT.pair RdT.int RdT.int) (RdT.pair RdT.int (RdT.pair RdT.int (RdT.pair RdT.int (RdT.pair (RdT.pair RdT.int (RdT.pair RdT.int (RdT.pair RdT.int (RdT.pair RdT.str (RdT.pair RdT.str (RdT.pair RdT.str (RdT.pair RdT.int (RdT.old h1.2.2.2.2.1.2.2.2.2.2.2.2)))))))) (RdT.pair RdT.int (RdT.pair (RdT.old h1.2.2.2.2.2.2.1) RdT.bool))))))) hw) _ hy14) ?_
   rintro _ _ ⟨⟨⟨y14x0_1,y14x0_2⟩,y14x0_3,y14x0_4,y14x0_5,⟨y14x0_6,y14x0_7,y14x0_8,y14x0_9,y14x0_10,y14x0_11,y14x0_12,y14x0_13⟩,y14x0_14,y14x0_15,y14x0_16⟩,rfl,rfl,rfl⟩
   refine sc ?_
   replace hp:=dd hp
   refine xL (((y14x0_1,y14x0_2),y14x0_3,y14x0_4,y14x0_5,(y14x0_6,y14x0_7,y14x0_8,y14x0_9,y14x0_10,y14x0_11,y14x0_12,y14x0_13),y14x0_14,y14x0_15,y14x0_16):T_Inst) ?_
   refine L_buildSlice1 rfl rfl el24.h rfl (by decide) (by decide) rfl (fun bb26=>?_)
   replace hp:=ba hp;obtain ⟨y16,hy16,hp⟩:=hp
   refine jL (((y14x0_1,y14x0_2),y14x0_3,y14x0_4,y14x0_5,(y14x0_6,y14x0_7,y14x0_8,y14x0_9,y14x0_10,y14x0_11,y14x0_12,y14x0_13),y14x0_14,y14x0_15,y14x0_16):T_Inst) ?_
   refine L_app1m (X:=y3x0) (((y14x0_1,y14x0_2),y14x0_3,y14x0_4,y14x0_5,(y14x0_6,y14x0_7,y14x0_8,y14x0_9,y14x0_10,y14x0_11,y14x0_12,y14x0_13),y14x0_14,y14x0_15,y14x0_16):T_Inst) rfl rfl rfl el24.h rfl rfl pk mm pk hy16 (by decide) (fun X15 hdX15 hmX15=>?_)
   subst hdX15
   refine s5 ?_
   replace hp:=ba hp;obtain ⟨y17,hy17,hp⟩:=hp
   refine L_callM [treeH X15] _ rfl fn177.h rfl pc (by exact fun w hw=>sl_SortFunc_implInstimplInst_walk w X15 178 [] (fun z0 z1=>i_InstPut_c1 z0 z1 ) fn178.h (fun w' F u0 u1 v hF  hv=>i_InstPut_c1_walk w' u0 u1  v hv) _ hy17) ?_
   rintro _ _ ⟨y17y0,rfl,rfl,rfl,hey17_0⟩
   try rw [← hey17_0]
   refine sc ?_
   replace hp:=dd hp
   refine s5 ?_
   replace hp:=ba hp;obtain ⟨y18,hy18,hp⟩:=hp
   refine L_callX rfl fn107.h rfl (by exact fun w hw=>i_InstsOk_walk w y17y0 (RdT.now (RdT.tree mm) hw) _ hy18) ?_
   refine s2 ?_
   refine kp [0,5,32] ?_
   refine W_cond rfl (fun q19=>?_) (fun q19=>?_)
   ·replace hp:=cond_t q19 hp
    refine s3 ?_
    replace hp:=ba hp;obtain ⟨y20,hy20,hp⟩:=hp
    refine L_callR rfl fn110.h rfl (by exact fun w hw=>i_copyInsts_walk w a0 (RdT.now (RdT.old h0) hw) _ hy20) ?_
    rintro _ _ ⟨y20x0,rfl,rfl,rfl⟩
    refine sc ?_
    replace hp:=dd hp
    refine s2 ?_
    obtain rfl:=sj hp
    refine s1 ?_
    refine res1 rfl (ResOK.tmp rfl) ⟨y20x0,rfl,rfl,rfl⟩ ms
   ·replace hp:=cond_f q19 hp
    refine s6 ?_
    obtain rfl:=sj hp
    refine s1 ?_
    refine res1 rfl (ResOK.tmp rfl) ⟨y17y0,rfl,rfl,rfl⟩ ms
noncomputable def i_ENode_put (a0:D_ENode) (a1:D_Inst):Option (Bool×D_ENode) :=
 Option.bind (i_instOk ((a1.1.1,a1.1.2),a1.2.1,a1.2.2.1,a1.2.2.2.1,(a1.2.2.2.2.1.1,a1.2.2.2.2.1.2.1,a1.2.2.2.2.1.2.2.1,a1.2.2.2.2.1.2.2.2.1,a1.2.2.2.2.1.2.2.2.2.1,a1.2.2.2.2.1.2.2.2.2.2.1,a1.2.2.2.2.1.2.2.2.2.2.2.1,a1.2.2.2.2.1.2.2.2.2.2.2.2),a1.2.2.2.2.2.1,a1.2.2.2.2.2.2.1,a1.2.2.2.2.2.2.2)) (fun y1=>cond (!y1) (some (false,(a0.1,a0.2.1,a0.2.2.1,a0.2.2.2))) (Option.bind (i_InstPut a0.2.2.1 ((a1.1.1,a1.1.2),a1.2.1,a1.2.2.1,a1.2.2.2.1,(a1.2.2.2.2.1.1,a1.2.2.2.2.1.2.1,a1.2.2.2.2.1.2.2.1,a1.2.2.2.2.1.2.2.2.1,a1.2.2.2.2.1.2.2.2.2.1,a1.2.2.2.2.1.2.2.2.2.2.1,a1.2.2.2.2.1.2.2.2.2.2.2.1,a1.2.2.2.2.1.2.2.2.2.2.2.2),a1.2.2.2.2.2.1,a1.2.2.2.2.2.2.1,a1.2.2.2.2.2.2.2)) (fun y3=>some (true,(a0.1,a0.2.1,y3,a0.2.2.2)))))
theorem i_ENode_put_walk (w:World) (b0_:Nat) (a0:T_ENode) (a1:T_Inst) (h1:GT.rd w (fps [blk b0_ (GT.cells a0) 27,treeH a0.2.2.1]) a1) (h0_3:GT.rd w (fps [blk b0_ (GT.cells a0) 27,treeH a0.2.2.1]) a0.2.2.2) (r:Bool×D_ENode) (hp:i_ENode_put (GT.dat a0) (GT.dat a1)=some r):Spec Tryz.prog 64 [Value.pointer (some ⟨b0_,0,none⟩),.agg (GT.cells a1).toArray].toArray w [blk b0_ (GT.cells a0) 27,treeH a0.2.2.1] (fun v M=>∃ (x0:Bool) (y0:T_ENode),v=.bool x0∧(GT.dat x0,GT.dat y0)=r∧M=[blk b0_ (GT.cells y0) 27,treeH y0.2.2.1]∧y0.2.2.2=a0.2.2.2):=by
 obtain ⟨a0_1,a0_2,a0_3,a0_4⟩:=a0
 obtain ⟨⟨a1_1,a1_2⟩,a1_3,a1_4,a1_5,⟨a1_6,a1_7,a1_8,a1_9,a1_10,a1_11,a1_12,a1_13⟩,a1_14,a1_15,a1_16⟩:=a1
 change Spec _ _ ([Value.pointer (some ⟨b0_,0,none⟩),Value.agg #[.int .i64 a1_1,.int .i64 a1_2,.int .i64 a1_3,.int .i64 a1_4,.int .i64 a1_5,.int .i64 a1_6,.int .i64 a1_7,.int .i64 a1_8,.string a1_9,.string a1_10,.string a1_11,.int .i64 a1_12,(TL.hdr a1_13),.int .i64 a1_14,(TL.hdr a1_15),.bool a1_16]]:List Value).toArray w _ _
 refine Spec.intro Tryz.func64 rfl Tryz.ntmps64 rfl ?_
 unfold i_ENode_put at hp
 replace hp:=dd hp
 refine s2 ?_
 refine bx fun bk3=>?_
 refine s6 ?_
 replace hp:=ba hp;obtain ⟨y1,hy1,hp⟩:=hp
 refine L_callX rfl fn135.h rfl (by exact fun w hw=>i_instOk_walk w ((a1_1,a1_2),a1_3,a1_4,a1_5,(a1_6,a1_7,a1_8,a1_9,a1_10,a1_11,a1_12,a1_13),a1_14,a1_15,a1_16) (RdT.now (RdT.pair (RdT.pair RdT.int RdT.int) (RdT.pair RdT.int (RdT.pair RdT.int (RdT.pair RdT.int (RdT.pair (RdT.pair RdT.int (RdT.pair RdT.int (RdT.pair RdT.int (RdT.pair RdT.str (RdT.pair RdT.str (RdT.pair RdT.str (RdT.pair RdT.int (RdT.old h1.2.2.2.2.1.2.2.2.2.2.2.2)))))))) (RdT.pair RdT.int (RdT.pair (RdT.old h1.2.2.2.2.2.2.1) RdT.bool))))))) hw) _ hy1) ?_
 refine s2 ?_
 refine kp [0,3,7] ?_
 refine W_cond rfl (fun q2=>?_) (fun q2=>?_)
 ·replace hp:=cond_t q2 hp
  refine s4 ?_
  obtain rfl:=sj hp
  refine s1 ?_
  refine res1 rfl (ResOK.tmp rfl) ⟨false,(a0_1,a0_2,a0_3,a0_4),rfl,rfl,rfl,rfl⟩ ms
 ·replace hp:=cond_f q2 hp
  refine s2 ?_
  replace hp:=ba hp;obtain ⟨y3,hy3,hp⟩:=hp
  refine W_DS (pre:=[_,_,_,_,_,_,_]) (suf:=[_,_,_]) [8,14] [] _ pc mix (by kernel_rfl) (by kernel_rfl) rfl ?_
  refine s6 ?_
  refine D_call1R (fun v M=>∃ (x0:TL T_Inst),v=(TL.hdr x0)∧GT.dat x0=y3∧M=[treeH x0]) fn136.h (OpVs.cons (OpV.t rfl) (OpVs.cons (OpV.t rfl) (OpVs.nil))) (by exact fun w F hF hM=>i_InstPut_walk w a0_3 ((a1_1,a1_2),a1_3,a1_4,a1_5,(a1_6,a1_7,a1_8,a1_9,a1_10,a1_11,a1_12,a1_13),a1_14,a1_15,a1_16) (RdT.nowS (RdT.tree mm) hF hM) (RdT.nowS (RdT.pair (RdT.pair RdT.int RdT.int) (RdT.pair RdT.int (RdT.pair RdT.int (RdT.pair RdT.int (RdT.pair (RdT.pair RdT.int (RdT.pair RdT.int (RdT.pair RdT.int (RdT.pair RdT.str (RdT.pair RdT.str (RdT.pair RdT.str (RdT.pair RdT.int (RdT.old h1.2.2.2.2.1.2.2.2.2.2.2.2)))))))) (RdT.pair RdT.int (RdT.pair (RdT.old h1.2.2.2.2.2.2.1) RdT.bool))))))) hF hM) _ hy3) ?_
  refine s1 ?_
  refine Give_R rfl rfl ?_
  rintro _ _ ⟨y3x0,rfl,rfl,rfl⟩
  refine s7 ?_
  refine sc ?_
  replace hp:=dd hp
  refine s8 ?_
  obtain rfl:=sj hp
  refine s1 ?_
  refine res1 rfl (ResOK.tmp rfl) ⟨true,(a0_1,a0_2,y3x0,a0_4),rfl,rfl,rfl,rfl⟩ ms
noncomputable def i_copyEMsg (a0:D_EMsg):Option D_EMsg :=
 Option.bind (i_copyCmd (a0.2.2.2.2.2.1.1,a0.2.2.2.2.2.1.2.1,a0.2.2.2.2.2.1.2.2.1,a0.2.2.2.2.2.1.2.2.2.1,a0.2.2.2.2.2.1.2.2.2.2.1,a0.2.2.2.2.2.1.2.2.2.2.2.1,a0.2.2.2.2.2.1.2.2.2.2.2.2.1,a0.2.2.2.2.2.1.2.2.2.2.2.2.2)) (fun y1=>Option.bind (i_copyIds a0.2.2.2.2.2.2.2.1) (fun y2=>some (a0.1,a0.2.1,a0.2.2.1,(a0.2.2.2.1.1,a0.2.2.2.1.2),a0.2.2.2.2.1,(y1.1,y1.2.1,y1.2.2.1,y1.2.2.2.1,y1.2.2.2.2.1,y1.2.2.2.2.2.1,y1.2.2.2.2.2.2.1,y1.2.2.2.2.2.2.2),a0.2.2.2.2.2.2.1,y2,a0.2.2.2.2.2.2.2.2.1,a0.2.2.2.2.2.2.2.2.2.1,a0.2.2.2.2.2.2.2.2.2.2)))
theorem i_copyEMsg_walk (w:World) (a0:T_EMsg) (h0:GT.rd w [] a0) (r:D_EMsg) (hp:i_copyEMsg (GT.dat a0)=some r):Spec Tryz.prog 137 [.agg (GT.cells a0).toArray].toArray w [] (fun v M=>∃ (x0:T_EMsg),v=.agg (GT.cells x0).toArray∧GT.dat x0=r∧M=[treeH x0]):=by
 obtain ⟨a0_1,a0_2,a0_3,⟨a0_4,a0_5⟩,a0_6,⟨a0_7,a0_8,a0_9,a0_10,a0_11,a0_12,a0_13,a0_14⟩,a0_15,a0_16,a0_17,a0_18,a0_19⟩:=a0
 change Spec _ _ ([Value.agg #[.int .i64 a0_1,.int .i64 a0_2,.int .i64 a0_3,.int .i64 a0_4,.int .i64 a0_5,.int .i64 a0_6,.int .i64 a0_7,.int .i64 a0_8,.int .i64 a0_9,.string a0_10,.string a0_11,.string a0_12,.int .i64 a0_13,(TL.hdr a0_14),.int .i64 a0_15,(TL.hdr a0_16),.int .i64 a0_17,.int .i64 a0_18,.bool a0_19]]:List Value).toArray w [] _
 refine Spec.intro Tryz.func137 rfl Tryz.ntmps137 rfl ?_
 unfold i_copyEMsg at hp
 replace hp:=dd hp
 refine s2 ?_
 refine bx fun bk1=>?_
 refine al fun bk2=>?_
 refine s4 ?_
 refine L_loadW rfl rfl (RdC.seg (RdC.blk mm) 6 8 rfl) (by exact agg32.h) ?_
 replace hp:=ba hp;obtain ⟨y1,hy1,hp⟩:=hp
 refine L_callR rfl fn162.h rfl (by exact fun w hw=>i_copyCmd_walk w (a0_7,a0_8,a0_9,a0_10,a0_11,a0_12,a0_13,a0_14) (RdT.now (RdT.pair RdT.int (RdT.pair RdT.int (RdT.pair RdT.int (RdT.pair RdT.str (RdT.pair RdT.str (RdT.pair RdT.str (RdT.pair RdT.int (RdT.old h0.2.2.2.2.2.1.2.2.2.2.2.2.2)))))))) hw) _ hy1) ?_
 rintro _ _ ⟨⟨y1x0_1,y1x0_2,y1x0_3,y1x0_4,y1x0_5,y1x0_6,y1x0_7,y1x0_8⟩,rfl,rfl,rfl⟩
 refine sc ?_
 replace hp:=dd hp
 refine xL ((y1x0_1,y1x0_2,y1x0_3,y1x0_4,y1x0_5,y1x0_6,y1x0_7,y1x0_8):T_Cmd) ?_
 refine s1 ?_
 refine L_storeA (fo:=6) rfl rfl pk (by exact agg32.h) (Nat.le_of_ble_eq_true rfl) ocs rfl ?_
 refine s5 ?_
 replace hp:=ba hp;obtain ⟨y2,hy2,hp⟩:=hp
 refine L_callR rfl fn92.h rfl (by exact fun w hw=>i_copyIds_walk w a0_16 (RdT.now (RdT.old h0.2.2.2.2.2.2.2.1) hw) _ hy2) ?_
 rintro _ _ ⟨y2x0,rfl,rfl,rfl⟩
 refine sc ?_
 replace hp:=dd hp
 refine s8 ?_
 obtain rfl:=sj hp
 refine jW ((a0_1,a0_2,a0_3,(a0_4,a0_5),a0_6,(y1x0_1,y1x0_2,y1x0_3,y1x0_4,y1x0_5,y1x0_6,y1x0_7,y1x0_8),a0_15,y2x0,a0_17,a0_18,a0_19):T_EMsg) ?_
 refine s1 ?_
 refine res1 rfl (ResOK.cell rfl mm (by exact agg35.h)) ⟨(a0_1,a0_2,a0_3,(a0_4,a0_5),a0_6,(y1x0_1,y1x0_2,y1x0_3,y1x0_4,y1x0_5,y1x0_6,y1x0_7,y1x0_8),a0_15,y2x0,a0_17,a0_18,a0_19),rfl,rfl,rfl⟩ ms
noncomputable def i_ENode_sent (a0:D_ENode) (a1:D_EMsg):Option (List D_EMsg) :=
 Option.bind (some ([]:List D_EMsg)) (fun y2=>whileP (fun s3:(List D_EMsg)×Int=>cond (decide (s3.2 < 3)) (cond (!decide (s3.2=a0.1)) (Option.bind (i_copyEMsg (a1.1,a1.2.1,a1.2.2.1,(a1.2.2.2.1.1,a1.2.2.2.1.2),a1.2.2.2.2.1,(a1.2.2.2.2.2.1.1,a1.2.2.2.2.2.1.2.1,a1.2.2.2.2.2.1.2.2.1,a1.2.2.2.2.2.1.2.2.2.1,a1.2.2.2.2.2.1.2.2.2.2.1,a1.2.2.2.2.2.1.2.2.2.2.2.1,a1.2.2.2.2.2.1.2.2.2.2.2.2.1,a1.2.2.2.2.2.1.2.2.2.2.2.2.2),a1.2.2.2.2.2.2.1,a1.2.2.2.2.2.2.2.1,a1.2.2.2.2.2.2.2.2.1,a1.2.2.2.2.2.2.2.2.2.1,a1.2.2.2.2.2.2.2.2.2.2)) (fun y6=>Option.bind (appP s3.1 [(y6.1,a0.1,s3.2,(y6.2.2.2.1.1,y6.2.2.2.1.2),y6.2.2.2.2.1,(y6.2.2.2.2.2.1.1,y6.2.2.2.2.2.1.2.1,y6.2.2.2.2.2.1.2.2.1,y6.2.2.2.2.2.1.2.2.2.1,y6.2.2.2.2.2.1.2.2.2.2.1,y6.2.2.2.2.2.1.2.2.2.2.2.1,y6.2.2.2.2.2.1.2.2.2.2.2.2.1,y6.2.2.2.2.2.1.2.2.2.2.2.2.2),y6.2.2.2.2.2.2.1,y6.2.2.2.2.2.2.2.1,y6.2.2.2.2.2.2.2.2.1,y6.2.2.2.2.2.2.2.2.2.1,y6.2.2.2.2.2.2.2.2.2.2)]) (fun y8=>some (.inl ((y8,IntKind.wrap .i64 (s3.2+1))))))) (some (.inl ((s3.1,IntKind.wrap .i64 (s3.2+1)))))) (Option.map .inr (some s3.1))) (y2,0))
theorem i_ENode_sent_walk (w:World) (b0_:Nat) (a0:T_ENode) (a1:T_EMsg) (hbb0_:Cells w [] b0_ 0 (GT.cells a0)) (h0:GT.rd w [] a0) (h1:GT.rd w [] a1) (r:(List D_EMsg)) (hp:i_ENode_sent (GT.dat a0) (GT.dat a1)=some r):Spec Tryz.prog 65 [Value.pointer (some ⟨b0_,0,none⟩),.agg (GT.cells a1).toArray].toArray w [] (fun v M=>∃ (x0:TL T_EMsg),v=(TL.hdr x0)∧GT.dat x0=r∧M=[treeH x0]):=by
 obtain ⟨a0_1,a0_2,a0_3,a0_4⟩:=a0
 obtain ⟨a1_1,a1_2,a1_3,⟨a1_4,a1_5⟩,a1_6,⟨a1_7,a1_8,a1_9,a1_10,a1_11,a1_12,a1_13,a1_14⟩,a1_15,a1_16,a1_17,a1_18,a1_19⟩:=a1
 change Spec _ _ ([Value.pointer (some ⟨b0_,0,none⟩),Value.agg #[.int .i64 a1_1,.int .i64 a1_2,.int .i64 a1_3,.int .i64 a1_4,.int .i64 a1_5,.int .i64 a1_6,.int .i64 a1_7,.int .i64 a1_8,.int .i64 a1_9,.string a1_10,.string a1_11,.string a1_12,.int .i64 a1_13,(TL.hdr a1_14),.int .i64 a1_15,(TL.hdr a1_16),.int .i64 a1_17,.int .i64 a1_18,.bool a1_19]]:List Value).toArray w [] _
 refine Spec.intro Tryz.func65 rfl Tryz.ntmps65 rfl ?_
 unfold i_ENode_sent at hp
 replace hp:=dd hp
 refine s2 ?_
 refine bx fun bk3=>?_
 refine L_assign (v:=(TL.hdr (TL.nil T_EMsg 0))) rfl rfl ?_
 refine s3 ?_
 replace hp:=ba hp;obtain ⟨y2,hy2,hp⟩:=hp
 refine L_mk0R T_EMsg rfl el38.h (fun X1 hdX1 hzX1=>?_)
 obtain rfl:GT.dat X1=y2:=hdX1.trans (Option.some.inj hy2)
 clear hy2 hdX1
 refine s8 ?_
 refine W_while (σ:=(TL T_EMsg)×Int) GT.dat (fun ((v3_0,v3_1):(TL T_EMsg)×Int)=>[(5,(TL.hdr v3_0)),(9,.int .i64 v3_1)]) (fun ((v3_0,v3_1):(TL T_EMsg)×Int)=>[treeH v3_0]) [(0,_),(3,_)] [blk bk3 _ _] (X1,0) hp sb ms ?_
 clear hp
 rintro ⟨v3_0,v3_1⟩ x3 hp hx3
 replace hp:=dd hp
 refine kq [0,3,5,9] ?_
 refine s5 ?_
 refine kp [0,3,5,9,10] ?_
 refine W_cond rfl (fun q4=>?_) (fun q4=>?_)
 ·replace hp:=cond_t q4 hp
  refine s14 ?_
  refine L_load rfl rfl (RdC.old hbb0_) one3.h rfl ?_
  refine s2 ?_
  refine kp [0,3,5,6,9,17] ?_
  refine W_cond rfl (fun q5=>?_) (fun q5=>?_)
  ·replace hp:=cond_t q5 hp
   refine s3 ?_
   replace hp:=ba hp;obtain ⟨y6,hy6,hp⟩:=hp
   refine L_callR rfl fn137.h rfl (by exact fun w hw=>i_copyEMsg_walk w (a1_1,a1_2,a1_3,(a1_4,a1_5),a1_6,(a1_7,a1_8,a1_9,a1_10,a1_11,a1_12,a1_13,a1_14),a1_15,a1_16,a1_17,a1_18,a1_19) (RdT.now (RdT.pair RdT.int (RdT.pair RdT.int (RdT.pair RdT.int (RdT.pair (RdT.pair RdT.int RdT.int) (RdT.pair RdT.int (RdT.pair (RdT.pair RdT.int (RdT.pair RdT.int (RdT.pair RdT.int (RdT.pair RdT.str (RdT.pair RdT.str (RdT.pair RdT.str (RdT.pair RdT.int (RdT.old h1.2.2.2.2.2.1.2.2.2.2.2.2.2)))))))) (RdT.pair RdT.int (RdT.pair (RdT.old h1.2.2.2.2.2.2.2.1) (RdT.pair RdT.int (RdT.pair RdT.int RdT.bool)))))))))) hw) _ hy6) ?_
   rintro _ _ ⟨⟨y6x0_1,y6x0_2,y6x0_3,⟨y6x0_4,y6x0_5⟩,y6x0_6,⟨y6x0_7,y6x0_8,y6x0_9,y6x0_10,y6x0_11,y6x0_12,y6x0_13,y6x0_14⟩,y6x0_15,y6x0_16,y6x0_17,y6x0_18,y6x0_19⟩,rfl,rfl,rfl⟩
   refine sc ?_
   replace hp:=dd hp
   refine xL ((y6x0_1,y6x0_2,y6x0_3,(y6x0_4,y6x0_5),y6x0_6,(y6x0_7,y6x0_8,y6x0_9,y6x0_10,y6x0_11,y6x0_12,y6x0_13,y6x0_14),y6x0_15,y6x0_16,y6x0_17,y6x0_18,y6x0_19):T_EMsg) ?_
   refine al fun bk7=>?_
   refine s7 ?_
   refine L_load rfl rfl (RdC.old hbb0_) one3.h rfl ?_
   refine s12 ?_
   refine L_buildSlice1 rfl rfl el38.h rfl (by decide) (by decide) rfl (fun bb29=>?_)
   replace hp:=ba hp;obtain ⟨y8,hy8,hp⟩:=hp
   refine jL ((y6x0_1,a0_1,v3_1,(y6x0_4,y6x0_5),y6x0_6,(y6x0_7,y6x0_8,y6x0_9,y6x0_10,y6x0_11,y6x0_12,y6x0_13,y6x0_14),y6x0_15,y6x0_16,y6x0_17,y6x0_18,y6x0_19):T_EMsg) ?_
   refine L_app1m (X:=v3_0) ((y6x0_1,a0_1,v3_1,(y6x0_4,y6x0_5),y6x0_6,(y6x0_7,y6x0_8,y6x0_9,y6x0_10,y6x0_11,y6x0_12,y6x0_13,y6x0_14),y6x0_15,y6x0_16,y6x0_17,y6x0_18,y6x0_19):T_EMsg) rfl rfl rfl el38.h rfl rfl pk mm pk hy8 (by decide) (fun X7 hdX7 hmX7=>?_)
   subst hdX7
   refine s6 ?_
   exact ⟨(X7,IntKind.wrap .i64 (v3_1+1)),sb,(.sub ms),some_eq hp⟩
  ·replace hp:=cond_f q5 hp
   refine s5 ?_
   exact ⟨(v3_0,IntKind.wrap .i64 (v3_1+1)),sb,(.sub ms),some_eq hp⟩
 ·replace hp:=cond_f q4 hp
  refine W_exit ?_
  replace hp:=map_any hp;obtain ⟨a9,hp,z_9⟩:=hp
  obtain rfl:=hx3 _ z_9
  refine s5 ?_
  obtain rfl:=sj hp
  refine s1 ?_
  refine res1 rfl (ResOK.tmp rfl) ⟨v3_0,rfl,rfl,rfl⟩ ms
noncomputable def i_ENodeRecover (a0:D_ENode) (a1:D_Id):Option (D_ENode×(List D_EMsg)×Bool) :=
 Option.bind (i_ENodeOk (a0.1,a0.2.1,a0.2.2.1,a0.2.2.2)) (fun y1=>cond (!y1) (some ((0,0,([]:List D_Inst),([]:List D_Lead)),([]:List D_EMsg),false)) (Option.bind (i_copyENode (a0.1,a0.2.1,a0.2.2.1,a0.2.2.2)) (fun y3=>Option.bind (i_InstAt a0.2.2.1 (a1.1,a1.2)) (fun y4=>whileP (fun s5:Int=>cond (!decide ((s5).tmod 3=a0.1)) (some (.inl (IntKind.wrap .i64 (s5+1)))) (Option.map .inr (Option.bind (i_ENode_lead (a0.1,a0.2.1,a0.2.2.1,a0.2.2.2) (a1.1,a1.2)) (fun y8=>Option.bind (i_idOk (a1.1,a1.2)) (fun y9=>gb (!((!y9)||(decide (y4.2.2.2.1=3)))) (i_ENode_unknown (a0.1,a0.2.1,a0.2.2.1,a0.2.2.2) (a1.1,a1.2)) (fun y10=>cond (((((!y9)||(decide (y4.2.2.2.1=3)))||y10)||(decide (600 < s5)))||((decide (y8 < 0))&&(decide ((a0.2.2.2.length:Int)=8)))) (some ((y3.1,y3.2.1,y3.2.2.1,y3.2.2.2),([]:List D_EMsg),false)) (Option.bind (i_ENode_put (y3.1,y3.2.1,y3.2.2.1,y3.2.2.2) ((y4.1.1,y4.1.2),s5,y4.2.2.1,y4.2.2.2.1,(y4.2.2.2.2.1.1,y4.2.2.2.2.1.2.1,y4.2.2.2.2.1.2.2.1,y4.2.2.2.2.1.2.2.2.1,y4.2.2.2.2.1.2.2.2.2.1,y4.2.2.2.2.1.2.2.2.2.2.1,y4.2.2.2.2.1.2.2.2.2.2.2.1,y4.2.2.2.2.1.2.2.2.2.2.2.2),y4.2.2.2.2.2.1,y4.2.2.2.2.2.2.1,y4.2.2.2.2.2.2.2)) (fun y12=>cond (decide (0≤y8)) (Option.bind (idx y12.2.2.2.2 y8) (fun y14=>Option.bind (some (y12.2.2.2.2.set (y8.toNat) ((a1.1,a1.2),s5,3,0,([]:List D_Id),([]:List Int),false))) (fun y15=>Option.bind (i_ENode_sent (y12.2.1,y12.2.2.1,y12.2.2.2.1,y15) (6,0,0,(a1.1,a1.2),s5,(0,0,0,ByteArray.empty,ByteArray.empty,ByteArray.empty,0,([]:List ByteArray)),0,([]:List D_Id),0,(-1),false)) (fun y17=>some ((y12.2.1,y12.2.2.1,y12.2.2.2.1,y15),y17,true))))) (Option.bind (appP y12.2.2.2.2 [((a1.1,a1.2),s5,3,0,([]:List D_Id),([]:List Int),false)]) (fun y19=>Option.bind (i_ENode_sent (y12.2.1,y12.2.2.1,y12.2.2.2.1,y19) (6,0,0,(a1.1,a1.2),s5,(0,0,0,ByteArray.empty,ByteArray.empty,ByteArray.empty,0,([]:List ByteArray)),0,([]:List D_Id),0,(-1),false)) (fun y20=>some ((y12.2.1,y12.2.2.1,y12.2.2.2.1,y19),y20,true)))))))))))) (IntKind.wrap .i64 ((if 2 > y4.2.1 then 2 else y4.2.1)+1))))))
theorem i_ENodeRecover_walk (w:World) (a0:T_ENode) (a1:T_Id) (h0:GT.rd w [] a0) (h1:GT.rd w [] a1) (r:D_ENode×(List D_EMsg)×Bool) (hp:i_ENodeRecover (GT.dat a0) (GT.dat a1)=some r):Spec Tryz.prog 17 [.agg (GT.cells a0).toArray,.agg (GT.cells a1).toArray].toArray w [] (fun v M=>∃ (x0:T_ENode) (x1:TL T_EMsg) (x2:Bool),v=.tuple #[.agg (GT.cells x0).toArray,(TL.hdr x1),.bool x2]∧(GT.dat x0,GT.dat x1,GT.dat x2)=r∧M=[treeH x0,treeH x1]):=by
 obtain ⟨a0_1,a0_2,a0_3,a0_4⟩:=a0
 obtain ⟨a1_1,a1_2⟩:=a1
 change Spec _ _ ([Value.agg #[.int .i64 a0_1,.int .i64 a0_2,(TL.hdr a0_3),(TL.hdr a0_4)],Value.agg #[.int .i64 a1_1,.int .i64 a1_2]]:List Value).toArray w [] _
 refine Spec.intro Tryz.func17 rfl Tryz.ntmps17 rfl ?_
 unfold i_ENodeRecover at hp
 replace hp:=dd hp
 refine s2 ?_
 refine bx fun bk2=>?_
 refine bx fun bk3=>?_
 refine al fun bk4=>?_
 refine L_assign (v:=(TL.hdr (TL.nil T_EMsg 0))) rfl rfl ?_
 refine s6 ?_
 replace hp:=ba hp;obtain ⟨y1,hy1,hp⟩:=hp
 refine L_callX rfl fn41.h rfl (by exact fun w hw=>i_ENodeOk_walk w (a0_1,a0_2,a0_3,a0_4) (RdT.now (RdT.pair RdT.int (RdT.pair RdT.int (RdT.pair (RdT.old h0.2.2.1) (RdT.old h0.2.2.2)))) hw) _ hy1) ?_
 refine s2 ?_
 refine kp [2,3,4,14] ?_
 refine W_cond rfl (fun q2=>?_) (fun q2=>?_)
 ·replace hp:=cond_t q2 hp
  refine s2 ?_
  refine L_build (xs:=[]) (cs:=[.int .i64 0,.int .i64 0,(TL.hdr (TL.nil T_Inst 0)),(TL.hdr (TL.nil T_Lead 0))]) rfl rfl bld27.h rfl ?_
  refine s1 ?_
  refine L_assign (v:=(TL.hdr (TL.nil T_EMsg 0))) rfl rfl ?_
  refine s2 ?_
  obtain rfl:=sj hp
  refine W_conv (M':=treeH (TL.nil T_Inst 0)::_) (fun w h=>addNilT (τ:=T_Inst) 0 h) ?_
  refine W_conv (M':=treeH (TL.nil T_Lead 0)::_) (fun w h=>addNilT (τ:=T_Lead) 0 h) ?_
  refine jW ((0,0,(TL.nil T_Inst 0),(TL.nil T_Lead 0)):T_ENode) ?_
  refine W_conv (M':=treeH (TL.nil T_EMsg 0)::_) (fun w h=>addNilT (τ:=T_EMsg) 0 h) ?_
  refine s1 ?_
  refine res3 rfl (ResOK.cell rfl mm (by exact agg27.h)) (ResOK.tmp rfl) (ResOK.tmp rfl) ⟨(0,0,(TL.nil T_Inst 0),(TL.nil T_Lead 0)),(TL.nil T_EMsg 0),false,rfl,rfl,rfl⟩ ms
 ·replace hp:=cond_f q2 hp
  refine s4 ?_
  replace hp:=ba hp;obtain ⟨y3,hy3,hp⟩:=hp
  refine L_callR rfl fn44.h rfl (by exact fun w hw=>i_copyENode_walk w (a0_1,a0_2,a0_3,a0_4) (RdT.now (RdT.pair RdT.int (RdT.pair RdT.int (RdT.pair (RdT.old h0.2.2.1) (RdT.old h0.2.2.2)))) hw) _ hy3) ?_
  rintro _ _ ⟨⟨y3x0_1,y3x0_2,y3x0_3,y3x0_4⟩,rfl,rfl,rfl⟩
  refine sc ?_
  replace hp:=dd hp
  refine xL ((y3x0_1,y3x0_2,y3x0_3,y3x0_4):T_ENode) ?_
  refine al fun bk7=>?_
  refine s7 ?_
  replace hp:=ba hp;obtain ⟨y4,hy4,hp⟩:=hp
  refine L_callR rfl fn61.h rfl (by exact fun w hw=>i_InstAt_walk w a0_3 (a1_1,a1_2) (RdT.now (RdT.old h0.2.2.1) hw) (RdT.now (RdT.pair RdT.int RdT.int) hw) _ hy4) ?_
  rintro _ _ ⟨⟨⟨y4x0_1,y4x0_2⟩,y4x0_3,y4x0_4,y4x0_5,⟨y4x0_6,y4x0_7,y4x0_8,y4x0_9,y4x0_10,y4x0_11,y4x0_12,y4x0_13⟩,y4x0_14,y4x0_15,y4x0_16⟩,rfl,rfl,rfl⟩
  refine sc ?_
  replace hp:=dd hp
  refine xL (((y4x0_1,y4x0_2),y4x0_3,y4x0_4,y4x0_5,(y4x0_6,y4x0_7,y4x0_8,y4x0_9,y4x0_10,y4x0_11,y4x0_12,y4x0_13),y4x0_14,y4x0_15,y4x0_16):T_Inst) ?_
  refine al fun bk8=>?_
  refine s6 ?_
  refine L_max rfl rfl rfl ?_
  refine s5 ?_
  refine W_while (σ:=Int) GT.dat (fun (v5_0:Int)=>[(9,.int .i64 v5_0)]) (fun (v5_0:Int)=>[]) [(2,_),(3,_),(4,_),(7,_),(8,_)] [blk bk2 _ _,blk bk3 _ _,blk bk4 _ _,blk bk7 _ _,blk bk8 _ _,treeH y3x0_3,treeH y3x0_4,treeH y4x0_13,treeH y4x0_15] (IntKind.wrap .i64 ((if 2 > y4x0_3 then 2 else y4x0_3)+1)) hp sb ms ?_
  clear hp
  rintro v5_0 x5 hp hx5
  replace hp:=dd hp
  refine kq [2,3,4,7,8,9] ?_
  refine s9 ?_
  refine kp [2,3,4,7,8,9,30] ?_
  refine W_cond rfl (fun q6=>?_) (fun q6=>?_)
  ·replace hp:=cond_t q6 hp
   refine s7 ?_
   exact ⟨IntKind.wrap .i64 (v5_0+1),sb,(.sub ms),some_eq hp⟩
  ·replace hp:=cond_f q6 hp
   refine W_exit ?_
   replace hp:=map_any hp;obtain ⟨a7,hp,z_7⟩:=hp
   obtain rfl:=hx5 _ z_7
   refine s3 ?_
   replace hp:=ba hp;obtain ⟨y8,hy8,hp⟩:=hp
   refine L_callX rfl fn62.h rfl (by exact fun w hw=>i_ENode_lead_walk w bk2 (a0_1,a0_2,a0_3,a0_4) (a1_1,a1_2) (cells_of_blk mm hw.sees) (RdT.now (RdT.pair RdT.int (RdT.pair RdT.int (RdT.pair (RdT.old h0.2.2.1) (RdT.old h0.2.2.2)))) hw) (RdT.now (RdT.pair RdT.int RdT.int) hw) _ hy8) ?_
   refine s4 ?_
   replace hp:=ba hp;obtain ⟨y9,hy9,hp⟩:=hp
   replace hp:=gb_any hp;obtain ⟨y10,hy10,hp⟩:=hp
   refine W_D0 [60] mix (by kernel_rfl) rfl ?_
   refine s1 ?_
   refine D_callX GC.none fn63.h (OpVs.cons (OpV.t rfl) (OpVs.nil)) (by exact fun hg w F hF hM=>i_idOk_walk w (a1_1,a1_2) (RdT.nowS (RdT.pair RdT.int RdT.int) hF hM) _ hy9) ?_
   refine s8 ?_
   refine D_callX (GC.some rfl rfl) fn43.h (OpVs.cons (OpV.t rfl) (OpVs.cons (OpV.s rfl) (OpVs.nil))) (by exact fun hg w F hF hM=>i_ENode_unknown_walk w bk2 (a0_1,a0_2,a0_3,a0_4) (a1_1,a1_2) (cells_of_blk (hM _ mm) hF.sees) (RdT.nowS (RdT.pair RdT.int (RdT.pair RdT.int (RdT.pair (RdT.old h0.2.2.1) (RdT.old h0.2.2.2)))) hF hM) (RdT.nowS (RdT.pair RdT.int RdT.int) hF hM) _ (hy10 (gnot hg.2))) ?_
   refine s11 ?_
   refine D_lenP (X:=a0_4) (GC.some rfl rfl) (OpV.s rfl) el25.h ?_
   refine s20 ?_
   refine s11 ?_
   refine kp [3,4,7,8,9,10,60] ?_
   refine W_cond rfl (fun q11=>?_) (fun q11=>?_)
   ·replace hp:=cond_t q11 hp
    refine s4 ?_
    refine L_assign (v:=(TL.hdr (TL.nil T_EMsg 0))) rfl rfl ?_
    refine s2 ?_
    obtain rfl:=sj hp
    refine jW ((y3x0_1,y3x0_2,y3x0_3,y3x0_4):T_ENode) ?_
    refine W_conv (M':=treeH (TL.nil T_EMsg 0)::_) (fun w h=>addNilT (τ:=T_EMsg) 0 h) ?_
    refine s1 ?_
    refine res3 rfl (ResOK.cell rfl mm (by exact agg27.h)) (ResOK.tmp rfl) (ResOK.tmp rfl) ⟨(y3x0_1,y3x0_2,y3x0_3,y3x0_4),(TL.nil T_EMsg 0),false,rfl,rfl,rfl⟩ ms
   ·replace hp:=cond_f q11 hp
    refine s10 ?_
    replace hp:=ba hp;obtain ⟨y12,hy12,hp⟩:=hp
    refine L_callM [blk bk7 _ _,treeH y3x0_3] _ rfl fn64.h rfl pc (by exact fun w hw=>i_ENode_put_walk w bk7 (y3x0_1,y3x0_2,y3x0_3,y3x0_4) ((y4x0_1,y4x0_2),v5_0,y4x0_4,y4x0_5,(y4x0_6,y4x0_7,y4x0_8,y4x0_9,y4x0_10,y4x0_11,y4x0_12,y4x0_13),y4x0_14,y4x0_15,y4x0_16) ((RdX.pair (RdX.pair RdX.int RdX.int) (RdX.pair RdX.int (RdX.pair RdX.int (RdX.pair RdX.int (RdX.pair (RdX.pair RdX.int (RdX.pair RdX.int (RdX.pair RdX.int (RdX.pair RdX.str (RdX.pair RdX.str (RdX.pair RdX.str (RdX.pair RdX.int (RdX.tree mm)))))))) (RdX.pair RdX.int (RdX.pair (RdX.tree mm) RdX.bool))))))) w hw) ((RdX.tree mm) w hw) _ hy12) ?_
    rintro _ _ ⟨y12x0,⟨y12y0_1,y12y0_2,y12y0_3,y12y0_4⟩,rfl,rfl,rfl,hey12_0⟩
    obtain rfl:y3x0_4=y12y0_4:=hey12_0.symm
    refine sc ?_
    replace hp:=dd hp
    refine s5 ?_
    refine L_build (xs:=[(0,.tmp 66),(1,.tmp 67),(2,.const (.int .i64 3))]) (cs:=[.int .i64 a1_1,.int .i64 a1_2,.int .i64 v5_0,.int .i64 3,.int .i64 0,(TL.hdr (TL.nil T_Id 0)),(TL.hdr (TL.nil Int 0)),.bool false]) rfl rfl bld89.h rfl ?_
    refine al fun bk11=>?_
    refine s8 ?_
    refine kp [3,4,7,9,10,11,70] ?_
    refine W_cond rfl (fun q13=>?_) (fun q13=>?_)
    ·replace hp:=cond_t q13 hp
     refine s5 ?_
     replace hp:=idx_bind hp;obtain ⟨⟨⟨u14_1,u14_2⟩,u14_3,u14_4,u14_5,u14_6,u14_7,u14_8⟩,hy14,hp⟩:=hp
     refine L_idxA (X:=y3x0_4) rfl rfl rfl el25.h (RdT.tree mm) hy14 ?_
     refine L_conv (M':=treeH ((u14_1,u14_2),u14_3,u14_4,u14_5,u14_6,u14_7,u14_8)::holeH y3x0_4 (y8.toNat) (GT.cells ((u14_1,u14_2),u14_3,u14_4,u14_5,u14_6,u14_7,u14_8))::_) (fun w h=>hole_open hy14.2 pk h) ?_
     refine xL (((u14_1,u14_2),u14_3,u14_4,u14_5,u14_6,u14_7,u14_8):T_Lead) ?_
     refine L_stH (X:=y3x0_4) (i:=y8.toNat) (sz:=8) (fo:=0) (n:=8) rfl rfl pk rfl (.inl agg89.h) rfl (allOne rfl) (Nat.le_of_ble_eq_true rfl) ?_
     refine L_conv (M':=treeH (TL.nil T_Id 0)::_) (fun w h=>addNilT (τ:=T_Id) 0 h) ?_
     refine L_conv (M':=treeH (TL.nil Int 0)::_) (fun w h=>addNilT (τ:=Int) 0 h) ?_
     refine jL (((a1_1,a1_2),v5_0,3,0,(TL.nil T_Id 0),(TL.nil Int 0),false):T_Lead) ?_
     replace hp:=ba hp;obtain ⟨y15,hy15,hp⟩:=hp
     refine L_close (X:=y3x0_4) (((a1_1,a1_2),v5_0,3,0,(TL.nil T_Id 0),(TL.nil Int 0),false):T_Lead) rfl pk pk hy15 (fun X16 hdX16 hhX16=>?_)
     subst hdX16
     try rw [← hhX16]
     try rw [← g_of_hdr hhX16]
     try rw [← o_of_hdr hhX16]
     refine s2 ?_
     replace hp:=ba hp;obtain ⟨y17,hy17,hp⟩:=hp
     refine W_DS (pre:=[_,_,_,_,_]) (suf:=[_,_,_]) [82,86] [] _ pc mix (by kernel_rfl) (by kernel_rfl) rfl ?_
     refine s3 ?_
     refine D_build (xs:=[(0,.const (.int .i64 6)),(3,.tmp 83),(4,.tmp 84),(9,.const (.int .i64 (-1)))]) (ps:=[(0,.int .i64 6),(3,.agg #[.int .i64 a1_1,.int .i64 a1_2]),(4,.int .i64 v5_0),(9,.int .i64 (-1))]) (cs:=[.int .i64 6,.int .i64 0,.int .i64 0,.int .i64 a1_1,.int .i64 a1_2,.int .i64 v5_0,.int .i64 0,.int .i64 0,.int .i64 0,.string ByteArray.empty,.string ByteArray.empty,.string ByteArray.empty,.int .i64 0,(TL.hdr (TL.nil ByteArray 0)),.int .i64 0,(TL.hdr (TL.nil T_Id 0)),.int .i64 0,.int .i64 (-1),.bool false]) (OpVp.cons OpV.c (OpVp.cons (OpV.t rfl) (OpVp.cons (OpV.t rfl) (OpVp.cons OpV.c (OpVp.nil))))) bld35.h rfl ?_
     refine D_call1R (fun v M=>∃ (x0:TL T_EMsg),v=(TL.hdr x0)∧GT.dat x0=y17∧M=[treeH x0]) fn65.h (OpVs.cons (OpV.t rfl) (OpVs.cons (OpV.t rfl) (OpVs.nil))) (by exact fun w F hF hM=>i_ENode_sent_walk w bk7 (y12y0_1,y12y0_2,y12y0_3,X16) (6,0,0,(a1_1,a1_2),v5_0,(0,0,0,ByteArray.empty,ByteArray.empty,ByteArray.empty,0,(TL.nil ByteArray 0)),0,(TL.nil T_Id 0),0,(-1),false) (cells_of_blk (hM _ mm) hF.sees) (RdT.nowS (RdT.pair RdT.int (RdT.pair RdT.int (RdT.pair (RdT.tree mm) (RdT.tree mm)))) hF hM) (RdT.nowS (RdT.pair RdT.int (RdT.pair RdT.int (RdT.pair RdT.int (RdT.pair (RdT.pair RdT.int RdT.int) (RdT.pair RdT.int (RdT.pair (RdT.pair RdT.int (RdT.pair RdT.int (RdT.pair RdT.int (RdT.pair RdT.str (RdT.pair RdT.str (RdT.pair RdT.str (RdT.pair RdT.int (RdT.nil 0)))))))) (RdT.pair RdT.int (RdT.pair (RdT.nil 0) (RdT.pair RdT.int (RdT.pair RdT.int RdT.bool)))))))))) hF hM) _ hy17) ?_
     refine s1 ?_
     refine Give_R rfl rfl ?_
     rintro _ _ ⟨y17x0,rfl,rfl,rfl⟩
     refine s5 ?_
     refine sc ?_
     replace hp:=dd hp
     refine s4 ?_
     obtain rfl:=sj hp
     refine jW ((y12y0_1,y12y0_2,y12y0_3,X16):T_ENode) ?_
     refine s1 ?_
     refine res3 rfl (ResOK.cell rfl mm (by exact agg27.h)) (ResOK.tmp rfl) (ResOK.tmp rfl) ⟨(y12y0_1,y12y0_2,y12y0_3,X16),y17x0,true,rfl,rfl,rfl⟩ ms
    ·replace hp:=cond_f q13 hp
     refine s4 ?_
     refine L_buildSlice1 rfl rfl el25.h rfl (by decide) (by decide) rfl (fun bb79=>?_)
     replace hp:=ba hp;obtain ⟨y19,hy19,hp⟩:=hp
     refine L_conv (M':=treeH (TL.nil T_Id 0)::_) (fun w h=>addNilT (τ:=T_Id) 0 h) ?_
     refine L_conv (M':=treeH (TL.nil Int 0)::_) (fun w h=>addNilT (τ:=Int) 0 h) ?_
     refine jL (((a1_1,a1_2),v5_0,3,0,(TL.nil T_Id 0),(TL.nil Int 0),false):T_Lead) ?_
     refine L_app1m (X:=y3x0_4) (((a1_1,a1_2),v5_0,3,0,(TL.nil T_Id 0),(TL.nil Int 0),false):T_Lead) rfl rfl rfl el25.h rfl rfl pk mm pk hy19 (by decide) (fun X18 hdX18 hmX18=>?_)
     subst hdX18
     refine s4 ?_
     replace hp:=ba hp;obtain ⟨y20,hy20,hp⟩:=hp
     refine W_DS (pre:=[_,_,_,_,_]) (suf:=[_,_,_]) [82,86] [] _ pc mix (by kernel_rfl) (by kernel_rfl) rfl ?_
     refine s3 ?_
     refine D_build (xs:=[(0,.const (.int .i64 6)),(3,.tmp 83),(4,.tmp 84),(9,.const (.int .i64 (-1)))]) (ps:=[(0,.int .i64 6),(3,.agg #[.int .i64 a1_1,.int .i64 a1_2]),(4,.int .i64 v5_0),(9,.int .i64 (-1))]) (cs:=[.int .i64 6,.int .i64 0,.int .i64 0,.int .i64 a1_1,.int .i64 a1_2,.int .i64 v5_0,.int .i64 0,.int .i64 0,.int .i64 0,.string ByteArray.empty,.string ByteArray.empty,.string ByteArray.empty,.int .i64 0,(TL.hdr (TL.nil ByteArray 0)),.int .i64 0,(TL.hdr (TL.nil T_Id 0)),.int .i64 0,.int .i64 (-1),.bool false]) (OpVp.cons OpV.c (OpVp.cons (OpV.t rfl) (OpVp.cons (OpV.t rfl) (OpVp.cons OpV.c (OpVp.nil))))) bld35.h rfl ?_
     refine D_call1R (fun v M=>∃ (x0:TL T_EMsg),v=(TL.hdr x0)∧GT.dat x0=y20∧M=[treeH x0]) fn65.h (OpVs.cons (OpV.t rfl) (OpVs.cons (OpV.t rfl) (OpVs.nil))) (by exact fun w F hF hM=>i_ENode_sent_walk w bk7 (y12y0_1,y12y0_2,y12y0_3,X18) (6,0,0,(a1_1,a1_2),v5_0,(0,0,0,ByteArray.empty,ByteArray.empty,ByteArray.empty,0,(TL.nil ByteArray 0)),0,(TL.nil T_Id 0),0,(-1),false) (cells_of_blk (hM _ mm) hF.sees) (RdT.nowS (RdT.pair RdT.int (RdT.pair RdT.int (RdT.pair (RdT.tree mm) (RdT.tree mm)))) hF hM) (RdT.nowS (RdT.pair RdT.int (RdT.pair RdT.int (RdT.pair RdT.int (RdT.pair (RdT.pair RdT.int RdT.int) (RdT.pair RdT.int (RdT.pair (RdT.pair RdT.int (RdT.pair RdT.int (RdT.pair RdT.int (RdT.pair RdT.str (RdT.pair RdT.str (RdT.pair RdT.str (RdT.pair RdT.int (RdT.nil 0)))))))) (RdT.pair RdT.int (RdT.pair (RdT.nil 0) (RdT.pair RdT.int (RdT.pair RdT.int RdT.bool)))))))))) hF hM) _ hy20) ?_
     refine s1 ?_
     refine Give_R rfl rfl ?_
     rintro _ _ ⟨y20x0,rfl,rfl,rfl⟩
     refine s5 ?_
     refine sc ?_
     replace hp:=dd hp
     refine s4 ?_
     obtain rfl:=sj hp
     refine jW ((y12y0_1,y12y0_2,y12y0_3,X18):T_ENode) ?_
     refine s1 ?_
     refine res3 rfl (ResOK.cell rfl mm (by exact agg27.h)) (ResOK.tmp rfl) (ResOK.tmp rfl) ⟨(y12y0_1,y12y0_2,y12y0_3,X18),y20x0,true,rfl,rfl,rfl⟩ ms
end Go.Proofs.SL
namespace Go.Proofs.SL
open Go
variable {w0 w:World} {S0:List Nat} {M M1:List HP}
end Go.Proofs.SL
namespace Go.Proofs.SL
open Go
set_option maxHeartbeats 2000000
end Go.Proofs.SL
namespace Go.Proofs.SL
open Go
set_option maxHeartbeats 2000000
end Go.Proofs.SL
