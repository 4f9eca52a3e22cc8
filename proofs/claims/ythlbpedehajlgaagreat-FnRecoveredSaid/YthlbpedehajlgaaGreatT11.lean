/- The texts of the proof, part 11: the base, walks of functions, plain Lean. -/
import Derived.Test.YthlbpedehajlgaaGreatT10
import Derived.Test.YthlbpedehajlgaaGreatT5
namespace Go.Proofs.SL
open Go
set_option maxHeartbeats 2000000
instance fn167:FnF Tryz.prog 167:=⟨_,Tryz.func167,by kernel_rfl,rfl⟩
instance fn168:FnF Tryz.prog 168:=⟨_,Tryz.func168,by kernel_rfl,rfl⟩
instance fn196:FnF Tryz.prog 196:=⟨_,Tryz.func196,by kernel_rfl,rfl⟩
instance fn195:FnF Tryz.prog 195:=⟨_,Tryz.func195,by kernel_rfl,rfl⟩
instance fn169:FnF Tryz.prog 169:=⟨_,Tryz.func169,by kernel_rfl,rfl⟩
instance fn120:FnF Tryz.prog 120:=⟨_,Tryz.func120,by kernel_rfl,rfl⟩
instance fn41:FnF Tryz.prog 41:=⟨_,Tryz.func41,by kernel_rfl,rfl⟩
instance fn176:FnF Tryz.prog 176:=⟨_,Tryz.func176,by kernel_rfl,rfl⟩
instance fn122:FnF Tryz.prog 122:=⟨_,Tryz.func122,by kernel_rfl,rfl⟩
instance fn124:FnF Tryz.prog 124:=⟨_,Tryz.func124,by kernel_rfl,rfl⟩
instance fn63:FnF Tryz.prog 63:=⟨_,Tryz.func63,by kernel_rfl,rfl⟩
instance fn119:FnF Tryz.prog 119:=⟨_,Tryz.func119,by kernel_rfl,rfl⟩
instance fn121:FnF Tryz.prog 121:=⟨_,Tryz.func121,by kernel_rfl,rfl⟩
instance fn126:FnF Tryz.prog 126:=⟨_,Tryz.func126,by kernel_rfl,rfl⟩
noncomputable def i_copyInsts (a0:List D_Inst):Option (List D_Inst) :=
 whileP (fun s1:(List D_Inst)×Int=>cond (decide (s1.2 < (a0.length:Int))) (Option.bind (idx a0 s1.2) (fun y3=>Option.bind (i_copyInst ((y3.1.1,y3.1.2),y3.2.1,y3.2.2.1,y3.2.2.2.1,(y3.2.2.2.2.1.1,y3.2.2.2.2.1.2.1,y3.2.2.2.2.1.2.2.1,y3.2.2.2.2.1.2.2.2.1,y3.2.2.2.2.1.2.2.2.2.1,y3.2.2.2.2.1.2.2.2.2.2.1,y3.2.2.2.2.1.2.2.2.2.2.2.1,y3.2.2.2.2.1.2.2.2.2.2.2.2),y3.2.2.2.2.2.1,y3.2.2.2.2.2.2.1,y3.2.2.2.2.2.2.2)) (fun y4=>Option.bind (appP s1.1 [((y4.1.1,y4.1.2),y4.2.1,y4.2.2.1,y4.2.2.2.1,(y4.2.2.2.2.1.1,y4.2.2.2.2.1.2.1,y4.2.2.2.2.1.2.2.1,y4.2.2.2.2.1.2.2.2.1,y4.2.2.2.2.1.2.2.2.2.1,y4.2.2.2.2.1.2.2.2.2.2.1,y4.2.2.2.2.1.2.2.2.2.2.2.1,y4.2.2.2.2.1.2.2.2.2.2.2.2),y4.2.2.2.2.2.1,y4.2.2.2.2.2.2.1,y4.2.2.2.2.2.2.2)]) (fun y6=>some (.inl ((y6,IntKind.wrap .i64 (s1.2+1)))))))) (Option.map .inr (some s1.1))) (([]:List D_Inst),0)
theorem i_copyInsts_walk (w:World) (a0:TL T_Inst) (h0:GT.rd w [] a0) (r:(List D_Inst)) (hp:i_copyInsts (GT.dat a0)=some r):Spec Tryz.prog 167 [(TL.hdr a0)].toArray w [] (fun v M=>∃ (x0:TL T_Inst),v=(TL.hdr x0)∧GT.dat x0=r∧M=[treeH x0]):=by
 refine Spec.intro Tryz.func167 rfl Tryz.ntmps167 rfl ?_
 unfold i_copyInsts at hp
 replace hp:=dd hp
 refine s2 ?_
 refine L_assign (v:=(TL.hdr (TL.nil T_Inst 0))) rfl rfl ?_
 refine s3 ?_
 refine L_assign (v:=(TL.hdr (TL.nil T_Inst 0))) rfl rfl ?_
 refine s9 ?_
 refine W_conv (M':=treeH (TL.nil T_Inst 0)::_) (fun w h=>addNilT (τ:=T_Inst) 0 h) ?_
 refine W_while (σ:=(TL T_Inst)×Int) GT.dat (fun ((v1_0,v1_1):(TL T_Inst)×Int)=>[(3,(TL.hdr v1_0)),(8,.int .i64 v1_1)]) (fun ((v1_0,v1_1):(TL T_Inst)×Int)=>[treeH v1_0]) [(6,_),(7,_)] [] ((TL.nil T_Inst 0),0) hp sb ms ?_
 clear hp
 rintro ⟨v1_0,v1_1⟩ x1 hp hx1
 replace hp:=dd hp
 refine kq [3,6,7,8] ?_
 refine s5 ?_
 refine kp [3,6,7,8,9] ?_
 refine W_cond rfl (fun q2=>?_) (fun q2=>?_)
 ·replace hp:=cond_t q2 hp
  refine s5 ?_
  replace hp:=idx_bind hp;obtain ⟨⟨⟨u3_1,u3_2⟩,u3_3,u3_4,u3_5,⟨u3_6,u3_7,u3_8,u3_9,u3_10,u3_11,u3_12,u3_13⟩,u3_14,u3_15,u3_16⟩,hy3,hp⟩:=hp
  refine L_idxA (X:=a0) rfl rfl rfl el41.h (RdT.old h0) hy3 ?_
  refine L_loadW rfl rfl (RdT.at (RdT.old h0) (hy3).2) (by exact agg48.h) ?_
  refine al fun bk5=>?_
  refine s5 ?_
  replace hp:=ba hp;obtain ⟨y4,hy4,hp⟩:=hp
  refine L_callR rfl fn87.h rfl (by exact fun w hw=>i_copyInst_walk w ((u3_1,u3_2),u3_3,u3_4,u3_5,(u3_6,u3_7,u3_8,u3_9,u3_10,u3_11,u3_12,u3_13),u3_14,u3_15,u3_16) (RdT.now (RdT.pair (RdT.pair RdT.int RdT.int) (RdT.pair RdT.int (RdT.pair RdT.int (RdT.pair RdT.int (RdT.pair (RdT.pair RdT.int (RdT.pair RdT.int (RdT.pair RdT.int (RdT.pair RdT.str (RdT.pair RdT.str (RdT.pair RdT.str (RdT.pair RdT.int (RdT.snd (RdT.snd (RdT.snd (RdT.snd (RdT.snd (RdT.snd (RdT.snd (RdT.fst (RdT.snd (RdT.snd (RdT.snd (RdT.snd (RdT.of (RdT.old h0) (hy3).2)))))))))))))))))))) (RdT.pair RdT.int (RdT.pair (RdT.fst (RdT.snd (RdT.snd (RdT.snd (RdT.snd (RdT.snd (RdT.snd (RdT.of (RdT.old h0) (hy3).2)))))))) RdT.bool))))))) hw) _ hy4) ?_
  rintro _ _ ⟨⟨⟨y4x0_1,y4x0_2⟩,y4x0_3,y4x0_4,y4x0_5,⟨y4x0_6,y4x0_7,y4x0_8,y4x0_9,y4x0_10,y4x0_11,y4x0_12,y4x0_13⟩,y4x0_14,y4x0_15,y4x0_16⟩,rfl,rfl,rfl⟩
  refine sc ?_
  replace hp:=dd hp
  refine xL (((y4x0_1,y4x0_2),y4x0_3,y4x0_4,y4x0_5,(y4x0_6,y4x0_7,y4x0_8,y4x0_9,y4x0_10,y4x0_11,y4x0_12,y4x0_13),y4x0_14,y4x0_15,y4x0_16):T_Inst) ?_
  refine L_buildSlice1 rfl rfl el41.h rfl (by decide) (by decide) rfl (fun bb15=>?_)
  replace hp:=ba hp;obtain ⟨y6,hy6,hp⟩:=hp
  refine jL (((y4x0_1,y4x0_2),y4x0_3,y4x0_4,y4x0_5,(y4x0_6,y4x0_7,y4x0_8,y4x0_9,y4x0_10,y4x0_11,y4x0_12,y4x0_13),y4x0_14,y4x0_15,y4x0_16):T_Inst) ?_
  refine L_app1m (X:=v1_0) (((y4x0_1,y4x0_2),y4x0_3,y4x0_4,y4x0_5,(y4x0_6,y4x0_7,y4x0_8,y4x0_9,y4x0_10,y4x0_11,y4x0_12,y4x0_13),y4x0_14,y4x0_15,y4x0_16):T_Inst) rfl rfl rfl el41.h rfl rfl pk mm pk hy6 (by decide) (fun X5 hdX5 hmX5=>?_)
  subst hdX5
  refine s6 ?_
  exact ⟨(X5,IntKind.wrap .i64 (v1_1+1)),sb,(.sub ms),some_eq hp⟩
 ·replace hp:=cond_f q2 hp
  refine W_exit ?_
  replace hp:=map_any hp;obtain ⟨a7,hp,z_7⟩:=hp
  obtain rfl:=hx1 _ z_7
  refine s5 ?_
  obtain rfl:=sj hp
  refine s1 ?_
  refine res1 rfl (ResOK.tmp rfl) ⟨v1_0,rfl,rfl,rfl⟩ ms
noncomputable def i_copyENode (a0:D_ENode):Option D_ENode :=
 Option.bind (i_copyInsts a0.2.2.1) (fun y1=>whileP (fun s3:Int×(List D_Lead)=>cond (decide (s3.1 < (a0.2.2.2.length:Int))) (Option.bind (idx a0.2.2.2 s3.1) (fun y5=>Option.bind (i_copyIds y5.2.2.2.2.1) (fun y6=>Option.bind (appP ([]:List Int) y5.2.2.2.2.2.1) (fun y8=>Option.bind (appP s3.2 [((y5.1.1,y5.1.2),y5.2.1,y5.2.2.1,y5.2.2.2.1,y6,y8,y5.2.2.2.2.2.2)]) (fun y10=>some (.inl ((IntKind.wrap .i64 (s3.1+1),y10)))))))) (Option.map .inr (some (a0.1,a0.2.1,y1,s3.2)))) (0,([]:List D_Lead)))
theorem i_copyENode_walk (w:World) (a0:T_ENode) (h0:GT.rd w [] a0) (r:D_ENode) (hp:i_copyENode (GT.dat a0)=some r):Spec Tryz.prog 119 [.agg (GT.cells a0).toArray].toArray w [] (fun v M=>∃ (x0:T_ENode),v=.agg (GT.cells x0).toArray∧GT.dat x0=r∧M=[treeH x0]):=by
 obtain ⟨a0_1,a0_2,a0_3,a0_4⟩:=a0
 change Spec _ _ ([Value.agg #[.int .i64 a0_1,.int .i64 a0_2,(TL.hdr a0_3),(TL.hdr a0_4)]]:List Value).toArray w [] _
 refine Spec.intro Tryz.func119 rfl Tryz.ntmps119 rfl ?_
 unfold i_copyENode at hp
 replace hp:=dd hp
 refine s2 ?_
 refine bx fun bk1=>?_
 refine al fun bk2=>?_
 refine s2 ?_
 replace hp:=ba hp;obtain ⟨y1,hy1,hp⟩:=hp
 refine W_DS (pre:=[_,_,_,_,_,_,_,_,_]) (suf:=[_]) [3,13] [] _ pc mix (by kernel_rfl) (by kernel_rfl) rfl ?_
 refine s6 ?_
 refine D_call1R (fun v M=>∃ (x0:TL T_Inst),v=(TL.hdr x0)∧GT.dat x0=y1∧M=[treeH x0]) fn167.h (OpVs.cons (OpV.t rfl) (OpVs.nil)) (by exact fun w F hF hM=>i_copyInsts_walk w a0_3 (RdT.nowS (RdT.old h0.2.2.1) hF hM) _ hy1) ?_
 refine D_buildO (τ:=T_Inst) (t:=12) (xs:=[(0,.tmp 7),(1,.tmp 9),(2,.tmp 12)]) (ps:=fun u=>[(0,.int .i64 a0_1),(1,.int .i64 a0_2),(2,u)]) (cs:=fun u=>[.int .i64 a0_1,.int .i64 a0_2,u,(TL.hdr (TL.nil T_Lead 0))]) rfl (fun u=>(OpVp.cons (OpV.t rfl) (OpVp.cons (OpV.t rfl) (OpVp.cons (OpV.t rfl) (OpVp.nil))))) bld44.h (fun X=>rfl) (by kernel_rfl) ?_
 refine D_alloc zero44.h ?_
 refine s1 ?_
 refine Give_R rfl rfl ?_
 rintro _ _ ⟨bk3,rfl,rfl⟩
 simp only [List.cons_append,List.nil_append]
 refine Give_R rfl rfl ?_
 rintro _ _ ⟨X2,rfl,rfl,rfl⟩
 simp only [List.cons_append,List.nil_append]
 refine s19 ?_
 refine W_conv (M':=treeH (TL.nil T_Lead 0)::_) (fun w h=>addNilT (τ:=T_Lead) 0 h) ?_
 refine W_while (σ:=Int×(TL T_Lead)) GT.dat (fun ((v3_0,v3_1):Int×(TL T_Lead))=>[(17,.int .i64 v3_0)]) (fun ((v3_0,v3_1):Int×(TL T_Lead))=>[blk bk3 [.int .i64 a0_1,.int .i64 a0_2,(TL.hdr X2),(TL.hdr v3_1)] 44,treeH v3_1]) [(2,_),(3,_),(15,_),(16,_)] [blk bk2 _ _,treeH X2] (0,(TL.nil T_Lead 0)) hp sb ms ?_
 clear hp
 rintro ⟨v3_0,v3_1⟩ x3 hp hx3
 replace hp:=dd hp
 refine kq [2,3,15,16,17] ?_
 refine s5 ?_
 refine kp [2,3,15,16,17,18] ?_
 refine W_cond rfl (fun q4=>?_) (fun q4=>?_)
 ·replace hp:=cond_t q4 hp
  refine s5 ?_
  replace hp:=idx_bind hp;obtain ⟨⟨⟨u5_1,u5_2⟩,u5_3,u5_4,u5_5,u5_6,u5_7,u5_8⟩,hy5,hp⟩:=hp
  refine L_idxA (X:=a0_4) rfl rfl rfl el42.h (RdT.old h0.2.2.2) hy5 ?_
  refine L_loadW rfl rfl (RdT.at (RdT.old h0.2.2.2) (hy5).2) (by exact agg141.h) ?_
  refine al fun bk5=>?_
  refine s6 ?_
  replace hp:=ba hp;obtain ⟨y6,hy6,hp⟩:=hp
  refine L_callR rfl fn123.h rfl (by exact fun w hw=>i_copyIds_walk w u5_6 (RdT.now (RdT.fst (RdT.snd (RdT.snd (RdT.snd (RdT.snd (RdT.of (RdT.old h0.2.2.2) (hy5).2)))))) hw) _ hy6) ?_
  rintro _ _ ⟨y6x0,rfl,rfl,rfl⟩
  refine sc ?_
  replace hp:=dd hp
  refine s7 ?_
  refine L_conv (M':=treeH (TL.nil Int 0)::_) (fun w h=>addNilT _ h) ?_
  replace hp:=ba hp;obtain ⟨y8,hy8,hp⟩:=hp
  refine L_appT (X:=(TL.nil Int 0)) (Y:=u5_7) rfl rfl rfl el78.h rfl rfl pk (RdT.fst (RdT.snd (RdT.snd (RdT.snd (RdT.snd (RdT.snd (RdT.of (RdT.old h0.2.2.2) (hy5).2))))))) hy8 (by decide) (fun X7 hdX7=>?_)
  subst hdX7
  refine s7 ?_
  refine L_buildSlice1 rfl rfl el42.h rfl (by decide) (by decide) rfl (fun bb32=>?_)
  replace hp:=ba hp;obtain ⟨y10,hy10,hp⟩:=hp
  refine jL (((u5_1,u5_2),u5_3,u5_4,u5_5,y6x0,X7,u5_8):T_Lead) ?_
  refine L_app1m (X:=v3_1) (((u5_1,u5_2),u5_3,u5_4,u5_5,y6x0,X7,u5_8):T_Lead) rfl rfl rfl el42.h rfl rfl pk mm pk hy10 (by decide) (fun X9 hdX9 hmX9=>?_)
  subst hdX9
  refine s7 ?_
  exact ⟨(IntKind.wrap .i64 (v3_0+1),X9),sb,(.sub ms),some_eq hp⟩
 ·replace hp:=cond_f q4 hp
  refine W_exit ?_
  replace hp:=map_any hp;obtain ⟨a11,hp,z_11⟩:=hp
  obtain rfl:=hx3 _ z_11
  refine s5 ?_
  obtain rfl:=sj hp
  refine jW ((a0_1,a0_2,X2,v3_1):T_ENode) ?_
  refine s1 ?_
  refine res1 rfl (ResOK.cell rfl mm (by exact agg44.h)) ⟨(a0_1,a0_2,X2,v3_1),rfl,rfl,rfl⟩ ms
noncomputable def i_Clash (a0:D_Cmd) (a1:D_Cmd):Option Bool :=
 Option.bind (i_CmdOk (a0.1,a0.2.1,a0.2.2.1,a0.2.2.2.1,a0.2.2.2.2.1,a0.2.2.2.2.2.1,a0.2.2.2.2.2.2.1,a0.2.2.2.2.2.2.2)) (fun y1=>gb (!(!y1)) (i_CmdOk (a1.1,a1.2.1,a1.2.2.1,a1.2.2.2.1,a1.2.2.2.2.1,a1.2.2.2.2.2.1,a1.2.2.2.2.2.2.1,a1.2.2.2.2.2.2.2)) (fun y2=>cond ((((!y1)||(!y2))||(decide (a0.1=0)))||(decide (a1.1=0))) (some false) (some (((decide (a0.1=7))||(decide (a1.1=7)))||(decide (a0.2.2.2.1=a1.2.2.2.1))))))
theorem i_Clash_walk (w:World) (a0:T_Cmd) (a1:T_Cmd) (h0:GT.rd w [] a0) (h1:GT.rd w [] a1) (r:Bool) (hp:i_Clash (GT.dat a0) (GT.dat a1)=some r):Spec Tryz.prog 168 [.agg (GT.cells a0).toArray,.agg (GT.cells a1).toArray].toArray w [] (IsV (.bool r)):=by
 obtain ⟨a0_1,a0_2,a0_3,a0_4,a0_5,a0_6,a0_7,a0_8⟩:=a0
 obtain ⟨a1_1,a1_2,a1_3,a1_4,a1_5,a1_6,a1_7,a1_8⟩:=a1
 change Spec _ _ ([Value.agg #[.int .i64 a0_1,.int .i64 a0_2,.int .i64 a0_3,.string a0_4,.string a0_5,.string a0_6,.int .i64 a0_7,(TL.hdr a0_8)],Value.agg #[.int .i64 a1_1,.int .i64 a1_2,.int .i64 a1_3,.string a1_4,.string a1_5,.string a1_6,.int .i64 a1_7,(TL.hdr a1_8)]]:List Value).toArray w [] _
 refine Spec.intro Tryz.func168 rfl Tryz.ntmps168 rfl ?_
 unfold i_Clash at hp
 replace hp:=dd hp
 refine s2 ?_
 refine bx fun bk2=>?_
 refine bx fun bk3=>?_
 refine s4 ?_
 replace hp:=ba hp;obtain ⟨y1,hy1,hp⟩:=hp
 replace hp:=gb_any hp;obtain ⟨y2,hy2,hp⟩:=hp
 refine W_D0 [22] mix (by kernel_rfl) rfl ?_
 refine s1 ?_
 refine D_callX GC.none fn114.h (OpVs.cons (OpV.t rfl) (OpVs.nil)) (by exact fun hg w F hF hM=>i_CmdOk_walk w (a0_1,a0_2,a0_3,a0_4,a0_5,a0_6,a0_7,a0_8) (RdT.nowS (RdT.pair RdT.int (RdT.pair RdT.int (RdT.pair RdT.int (RdT.pair RdT.str (RdT.pair RdT.str (RdT.pair RdT.str (RdT.pair RdT.int (RdT.old h0.2.2.2.2.2.2.2)))))))) hF hM) _ hy1) ?_
 refine s3 ?_
 refine D_callX (GC.some rfl rfl) fn114.h (OpVs.cons (OpV.s rfl) (OpVs.nil)) (by exact fun hg w F hF hM=>i_CmdOk_walk w (a1_1,a1_2,a1_3,a1_4,a1_5,a1_6,a1_7,a1_8) (RdT.nowS (RdT.pair RdT.int (RdT.pair RdT.int (RdT.pair RdT.int (RdT.pair RdT.str (RdT.pair RdT.str (RdT.pair RdT.str (RdT.pair RdT.int (RdT.old h1.2.2.2.2.2.2.2)))))))) hF hM) _ (hy2 (gnot hg.2))) ?_
 refine s20 ?_
 refine s12 ?_
 refine kp [2,3,22] ?_
 refine W_cond rfl (fun q3=>?_) (fun q3=>?_)
 ·replace hp:=cond_t q3 hp
  refine s4 ?_
  obtain rfl:=sj hp
  refine s1 ?_
  refine res1 rfl (ResOK.tmp rfl) ⟨rfl,rfl⟩ ms
 ·replace hp:=cond_f q3 hp
  refine s2 ?_
  refine W_D0 [4] mix (by kernel_rfl) rfl ?_
  refine s20 ?_
  refine s14 ?_
  obtain rfl:=sj hp
  refine s1 ?_
  refine res1 rfl (ResOK.tmp rfl) ⟨rfl,rfl⟩ ms
noncomputable def i_AttrsOf (a0:List D_Inst) (a1:D_Id) (a2:D_Cmd):Option (Int×(List D_Id)) :=
 Option.bind (i_InstsOk a0) (fun y1=>cond (!y1) (some (0,([]:List D_Id))) (Option.bind (some ([]:List D_Id)) (fun y4=>whileP (fun s5:Int×(List D_Id)×Int=>cond (decide (s5.2.2 < (a0.length:Int))) (Option.bind (idx a0 s5.2.2) (fun y7=>gb ((!(decide (y7.1.1=a1.1)&&(decide (y7.1.2=a1.2)&&true)))&&(!decide (y7.2.2.2.1=0))) (i_Clash (y7.2.2.2.2.1.1,y7.2.2.2.2.1.2.1,y7.2.2.2.2.1.2.2.1,y7.2.2.2.2.1.2.2.2.1,y7.2.2.2.2.1.2.2.2.2.1,y7.2.2.2.2.1.2.2.2.2.2.1,y7.2.2.2.2.1.2.2.2.2.2.2.1,y7.2.2.2.2.1.2.2.2.2.2.2.2) (a2.1,a2.2.1,a2.2.2.1,a2.2.2.2.1,a2.2.2.2.2.1,a2.2.2.2.2.2.1,a2.2.2.2.2.2.2.1,a2.2.2.2.2.2.2.2)) (fun y8=>cond (((!(decide (y7.1.1=a1.1)&&(decide (y7.1.2=a1.2)&&true)))&&(!decide (y7.2.2.2.1=0)))&&y8) (Option.bind (appP s5.2.1 [(y7.1.1,y7.1.2)]) (fun y11=>some (.inl (((if y7.2.2.2.2.2.1 > s5.1 then y7.2.2.2.2.2.1 else s5.1),y11,IntKind.wrap .i64 (s5.2.2+1)))))) (some (.inl ((s5.1,s5.2.1,IntKind.wrap .i64 (s5.2.2+1)))))))) (Option.map .inr (some (IntKind.wrap .i64 (s5.1+1),s5.2.1)))) (0,y4,0))))
theorem i_AttrsOf_walk (w:World) (a0:TL T_Inst) (a1:T_Id) (a2:T_Cmd) (h0:GT.rd w [] a0) (h1:GT.rd w [] a1) (h2:GT.rd w [] a2) (r:Int×(List D_Id)) (hp:i_AttrsOf (GT.dat a0) (GT.dat a1) (GT.dat a2)=some r):Spec Tryz.prog 121 [(TL.hdr a0),.agg (GT.cells a1).toArray,.agg (GT.cells a2).toArray].toArray w [] (fun v M=>∃ (x0:Int) (x1:TL T_Id),v=.tuple #[.int .i64 x0,(TL.hdr x1)]∧(GT.dat x0,GT.dat x1)=r∧M=[treeH x1]):=by
 obtain ⟨a1_1,a1_2⟩:=a1
 obtain ⟨a2_1,a2_2,a2_3,a2_4,a2_5,a2_6,a2_7,a2_8⟩:=a2
 change Spec _ _ ([(TL.hdr a0),Value.agg #[.int .i64 a1_1,.int .i64 a1_2],Value.agg #[.int .i64 a2_1,.int .i64 a2_2,.int .i64 a2_3,.string a2_4,.string a2_5,.string a2_6,.int .i64 a2_7,(TL.hdr a2_8)]]:List Value).toArray w [] _
 refine Spec.intro Tryz.func121 rfl Tryz.ntmps121 rfl ?_
 unfold i_AttrsOf at hp
 replace hp:=dd hp
 refine s2 ?_
 refine bx fun bk4=>?_
 refine bx fun bk5=>?_
 refine s1 ?_
 refine L_assign (v:=(TL.hdr (TL.nil T_Id 0))) rfl rfl ?_
 refine s5 ?_
 replace hp:=ba hp;obtain ⟨y1,hy1,hp⟩:=hp
 refine L_callX rfl fn73.h rfl (by exact fun w hw=>i_InstsOk_walk w a0 (RdT.now (RdT.old h0) hw) _ hy1) ?_
 refine s2 ?_
 refine kp [0,4,5,14] ?_
 refine W_cond rfl (fun q2=>?_) (fun q2=>?_)
 ·replace hp:=cond_t q2 hp
  refine s3 ?_
  refine L_assign (v:=(TL.hdr (TL.nil T_Id 0))) rfl rfl ?_
  refine s1 ?_
  obtain rfl:=sj hp
  refine W_conv (M':=treeH (TL.nil T_Id 0)::_) (fun w h=>addNilT (τ:=T_Id) 0 h) ?_
  refine s1 ?_
  refine res2 rfl (ResOK.tmp rfl) (ResOK.tmp rfl) ⟨0,(TL.nil T_Id 0),rfl,rfl,rfl⟩ ms
 ·replace hp:=cond_f q2 hp
  refine s7 ?_
  replace hp:=ba hp;obtain ⟨y4,hy4,hp⟩:=hp
  refine L_mk0 T_Id rfl el31.h (fun X3 hdX3=>?_)
  obtain rfl:GT.dat X3=y4:=hdX3.trans (Option.some.inj hy4)
  clear hy4 hdX3
  refine s10 ?_
  refine W_while (σ:=Int×(TL T_Id)×Int) GT.dat (fun ((v5_0,v5_1,v5_2):Int×(TL T_Id)×Int)=>[(8,.int .i64 v5_0),(9,(TL.hdr v5_1)),(18,.int .i64 v5_2)]) (fun ((v5_0,v5_1,v5_2):Int×(TL T_Id)×Int)=>[treeH v5_1]) [(4,_),(5,_),(16,_),(17,_)] [blk bk4 _ _,blk bk5 _ _] (0,X3,0) hp sb ms ?_
  clear hp
  rintro ⟨v5_0,v5_1,v5_2⟩ x5 hp hx5
  replace hp:=dd hp
  refine kq [4,5,8,9,16,17,18] ?_
  refine s5 ?_
  refine kp [4,5,8,9,16,17,18,19] ?_
  refine W_cond rfl (fun q6=>?_) (fun q6=>?_)
  ·replace hp:=cond_t q6 hp
   refine s5 ?_
   replace hp:=idx_bind hp;obtain ⟨⟨⟨u7_1,u7_2⟩,u7_3,u7_4,u7_5,⟨u7_6,u7_7,u7_8,u7_9,u7_10,u7_11,u7_12,u7_13⟩,u7_14,u7_15,u7_16⟩,hy7,hp⟩:=hp
   refine L_idxA (X:=a0) rfl rfl rfl el41.h (RdT.old h0) hy7 ?_
   refine L_loadW rfl rfl (RdT.at (RdT.old h0) (hy7).2) (by exact agg48.h) ?_
   refine al fun bk11=>?_
   refine s3 ?_
   replace hp:=gb_any hp;obtain ⟨y8,hy8,hp⟩:=hp
   refine W_D0 [36] mix (by kernel_rfl) rfl ?_
   refine s1 ?_
   refine D_loadW GC.none (OpV.t rfl) (fun hg=>RdC.seg (RdC.blk mm) 0 2 rfl) (by exact agg35.h) ?_
   refine s1 ?_
   refine D_bin GC.none (OpV.t rfl) (OpV.t rfl) (fun hg=>(bv_aneq eqsh35 (EqS.consI one3.h und3.h rfl rfl (EqS.consI one3.h und3.h rfl rfl EqS.nil)))) ?_
   refine s7 ?_
   refine D_loadW (GC.some rfl rfl) (OpV.s rfl) (fun hg=>RdC.seg (RdC.blk mm) 5 8 rfl) (by exact agg38.h) ?_
   refine s1 ?_
   refine D_callX (GC.some rfl rfl) fn168.h (OpVs.cons (OpV.s rfl) (OpVs.cons (OpV.s rfl) (OpVs.nil))) (by exact fun hg w F hF hM=>i_Clash_walk w (u7_6,u7_7,u7_8,u7_9,u7_10,u7_11,u7_12,u7_13) (a2_1,a2_2,a2_3,a2_4,a2_5,a2_6,a2_7,a2_8) (RdT.nowS (RdT.pair RdT.int (RdT.pair RdT.int (RdT.pair RdT.int (RdT.pair RdT.str (RdT.pair RdT.str (RdT.pair RdT.str (RdT.pair RdT.int (RdT.snd (RdT.snd (RdT.snd (RdT.snd (RdT.snd (RdT.snd (RdT.snd (RdT.fst (RdT.snd (RdT.snd (RdT.snd (RdT.snd (RdT.of (RdT.old h0) (hy7).2)))))))))))))))))))) hF hM) (RdT.nowS (RdT.pair RdT.int (RdT.pair RdT.int (RdT.pair RdT.int (RdT.pair RdT.str (RdT.pair RdT.str (RdT.pair RdT.str (RdT.pair RdT.int (RdT.old h2.2.2.2.2.2.2.2)))))))) hF hM) _ (hy8 hg.2)) ?_
   refine s18 ?_
   refine kp [4,5,8,9,11,16,17,18,36] ?_
   refine W_cond rfl (fun q9=>?_) (fun q9=>?_)
   ·replace hp:=cond_t q9 hp
    refine s5 ?_
    refine L_max rfl rfl rfl ?_
    refine s5 ?_
    refine L_loadW rfl rfl (RdC.seg (RdC.blk mm) 0 2 rfl) (by exact agg35.h) ?_
    refine L_buildSlice1 rfl rfl el31.h rfl (by decide) (by decide) rfl (fun bb44=>?_)
    replace hp:=ba hp;obtain ⟨y11,hy11,hp⟩:=hp
    refine L_app1F (X:=v5_1) ((u7_1,u7_2):T_Id) rfl rfl rfl el31.h rfl rfl pk mm  hy11 (by decide) (fun X10 hdX10=>?_)
    subst hdX10
    refine s6 ?_
    exact ⟨((if u7_14 > v5_0 then u7_14 else v5_0),X10,IntKind.wrap .i64 (v5_2+1)),sb,(.sub ms),some_eq hp⟩
   ·replace hp:=cond_f q9 hp
    refine s5 ?_
    exact ⟨(v5_0,v5_1,IntKind.wrap .i64 (v5_2+1)),sb,(.sub ms),some_eq hp⟩
  ·replace hp:=cond_f q6 hp
   refine W_exit ?_
   replace hp:=map_any hp;obtain ⟨a12,hp,z_12⟩:=hp
   obtain rfl:=hx5 _ z_12
   refine s8 ?_
   obtain rfl:=sj hp
   refine s1 ?_
   refine res2 rfl (ResOK.tmp rfl) (ResOK.tmp rfl) ⟨IntKind.wrap .i64 (v5_0+1),v5_1,rfl,rfl,rfl⟩ ms
noncomputable def i_InstPut_c1 (a0:D_Inst) (a1:D_Inst):Option Int :=
 Option.bind (i_compareIds (a0.1.1,a0.1.2) (a1.1.1,a1.1.2)) (fun y1=>some y1)
theorem i_InstPut_c1_walk (w:World) (a0:T_Inst) (a1:T_Inst)  (r:Int) (hp:i_InstPut_c1 (GT.dat a0) (GT.dat a1)=some r):Spec Tryz.prog 196 [.agg (GT.cells a0).toArray,.agg (GT.cells a1).toArray].toArray w [] (IsV (.int .i64 r)):=by
 obtain ⟨⟨a0_1,a0_2⟩,a0_3,a0_4,a0_5,⟨a0_6,a0_7,a0_8,a0_9,a0_10,a0_11,a0_12,a0_13⟩,a0_14,a0_15,a0_16⟩:=a0
 obtain ⟨⟨a1_1,a1_2⟩,a1_3,a1_4,a1_5,⟨a1_6,a1_7,a1_8,a1_9,a1_10,a1_11,a1_12,a1_13⟩,a1_14,a1_15,a1_16⟩:=a1
 change Spec _ _ ([Value.agg #[.int .i64 a0_1,.int .i64 a0_2,.int .i64 a0_3,.int .i64 a0_4,.int .i64 a0_5,.int .i64 a0_6,.int .i64 a0_7,.int .i64 a0_8,.string a0_9,.string a0_10,.string a0_11,.int .i64 a0_12,(TL.hdr a0_13),.int .i64 a0_14,(TL.hdr a0_15),.bool a0_16],Value.agg #[.int .i64 a1_1,.int .i64 a1_2,.int .i64 a1_3,.int .i64 a1_4,.int .i64 a1_5,.int .i64 a1_6,.int .i64 a1_7,.int .i64 a1_8,.string a1_9,.string a1_10,.string a1_11,.int .i64 a1_12,(TL.hdr a1_13),.int .i64 a1_14,(TL.hdr a1_15),.bool a1_16]]:List Value).toArray w [] _
 refine Spec.intro Tryz.func196 rfl Tryz.ntmps196 rfl ?_
 unfold i_InstPut_c1 at hp
 replace hp:=dd hp
 refine s2 ?_
 refine bx fun bk2=>?_
 refine bx fun bk3=>?_
 refine s5 ?_
 refine L_loadW rfl rfl (RdC.seg (RdC.blk mm) 0 2 rfl) (by exact agg35.h) ?_
 refine s1 ?_
 refine L_loadW rfl rfl (RdC.seg (RdC.blk mm) 0 2 rfl) (by exact agg35.h) ?_
 replace hp:=ba hp;obtain ⟨y1,hy1,hp⟩:=hp
 refine L_callX rfl fn128.h rfl (by exact fun w hw=>i_compareIds_walk w (a0_1,a0_2) (a1_1,a1_2) (RdT.now (RdT.pair RdT.int RdT.int) hw) (RdT.now (RdT.pair RdT.int RdT.int) hw) _ hy1) ?_
 refine s2 ?_
 obtain rfl:=sj hp
 refine s1 ?_
 refine res1 rfl (ResOK.tmp rfl) ⟨rfl,rfl⟩ ms
noncomputable def i_InstPut (a0:List D_Inst) (a1:D_Inst):Option (List D_Inst) :=
 Option.bind (i_InstsOk a0) (fun y1=>cond (!y1) (some ([]:List D_Inst)) (Option.bind (i_copyInsts a0) (fun y3=>Option.bind (i_instAt a0 (a1.1.1,a1.1.2)) (fun y4=>cond (decide (0≤y4)) (Option.bind (i_copyInst ((a1.1.1,a1.1.2),a1.2.1,a1.2.2.1,a1.2.2.2.1,(a1.2.2.2.2.1.1,a1.2.2.2.2.1.2.1,a1.2.2.2.2.1.2.2.1,a1.2.2.2.2.1.2.2.2.1,a1.2.2.2.2.1.2.2.2.2.1,a1.2.2.2.2.1.2.2.2.2.2.1,a1.2.2.2.2.1.2.2.2.2.2.2.1,a1.2.2.2.2.1.2.2.2.2.2.2.2),a1.2.2.2.2.2.1,a1.2.2.2.2.2.2.1,a1.2.2.2.2.2.2.2)) (fun y6=>Option.bind (idx y3 y4) (fun y7=>Option.bind (some (y3.set (y4.toNat) ((y6.1.1,y6.1.2),y6.2.1,y6.2.2.1,y6.2.2.2.1,(y6.2.2.2.2.1.1,y6.2.2.2.2.1.2.1,y6.2.2.2.2.1.2.2.1,y6.2.2.2.2.1.2.2.2.1,y6.2.2.2.2.1.2.2.2.2.1,y6.2.2.2.2.1.2.2.2.2.2.1,y6.2.2.2.2.1.2.2.2.2.2.2.1,y6.2.2.2.2.1.2.2.2.2.2.2.2),y6.2.2.2.2.2.1,y6.2.2.2.2.2.2.1,y6.2.2.2.2.2.2.2))) (fun y8=>Option.bind (sortFn y8 (fun z0 z1=>i_InstPut_c1 z0 z1 )) (fun y10=>Option.bind (i_InstsOk y10) (fun y11=>cond (!y11) (Option.bind (i_copyInsts a0) (fun y13=>some y13)) (some y10))))))) (Option.bind (i_copyInst ((a1.1.1,a1.1.2),a1.2.1,a1.2.2.1,a1.2.2.2.1,(a1.2.2.2.2.1.1,a1.2.2.2.2.1.2.1,a1.2.2.2.2.1.2.2.1,a1.2.2.2.2.1.2.2.2.1,a1.2.2.2.2.1.2.2.2.2.1,a1.2.2.2.2.1.2.2.2.2.2.1,a1.2.2.2.2.1.2.2.2.2.2.2.1,a1.2.2.2.2.1.2.2.2.2.2.2.2),a1.2.2.2.2.2.1,a1.2.2.2.2.2.2.1,a1.2.2.2.2.2.2.2)) (fun y14=>Option.bind (appP y3 [((y14.1.1,y14.1.2),y14.2.1,y14.2.2.1,y14.2.2.2.1,(y14.2.2.2.2.1.1,y14.2.2.2.2.1.2.1,y14.2.2.2.2.1.2.2.1,y14.2.2.2.2.1.2.2.2.1,y14.2.2.2.2.1.2.2.2.2.1,y14.2.2.2.2.1.2.2.2.2.2.1,y14.2.2.2.2.1.2.2.2.2.2.2.1,y14.2.2.2.2.1.2.2.2.2.2.2.2),y14.2.2.2.2.2.1,y14.2.2.2.2.2.2.1,y14.2.2.2.2.2.2.2)]) (fun y16=>Option.bind (sortFn y16 (fun z0 z1=>i_InstPut_c1 z0 z1 )) (fun y17=>Option.bind (i_InstsOk y17) (fun y18=>cond (!y18) (Option.bind (i_copyInsts a0) (fun y20=>some y20)) (some y17))))))))))
theorem i_InstPut_walk (w:World) (a0:TL T_Inst) (a1:T_Inst) (h0:GT.rd w [] a0) (h1:GT.rd w [] a1) (r:(List D_Inst)) (hp:i_InstPut (GT.dat a0) (GT.dat a1)=some r):Spec Tryz.prog 169 [(TL.hdr a0),.agg (GT.cells a1).toArray].toArray w [] (fun v M=>∃ (x0:TL T_Inst),v=(TL.hdr x0)∧GT.dat x0=r∧M=[treeH x0]):=by
 obtain ⟨⟨a1_1,a1_2⟩,a1_3,a1_4,a1_5,⟨a1_6,a1_7,a1_8,a1_9,a1_10,a1_11,a1_12,a1_13⟩,a1_14,a1_15,a1_16⟩:=a1
 change Spec _ _ ([(TL.hdr a0),Value.agg #[.int .i64 a1_1,.int .i64 a1_2,.int .i64 a1_3,.int .i64 a1_4,.int .i64 a1_5,.int .i64 a1_6,.int .i64 a1_7,.int .i64 a1_8,.string a1_9,.string a1_10,.string a1_11,.int .i64 a1_12,(TL.hdr a1_13),.int .i64 a1_14,(TL.hdr a1_15),.bool a1_16]]:List Value).toArray w [] _
 refine Spec.intro Tryz.func169 rfl Tryz.ntmps169 rfl ?_
 unfold i_InstPut at hp
 replace hp:=dd hp
 refine s2 ?_
 refine bx fun bk3=>?_
 refine L_assign (v:=(TL.hdr (TL.nil T_Inst 0))) rfl rfl ?_
 refine s5 ?_
 replace hp:=ba hp;obtain ⟨y1,hy1,hp⟩:=hp
 refine L_callX rfl fn73.h rfl (by exact fun w hw=>i_InstsOk_walk w a0 (RdT.now (RdT.old h0) hw) _ hy1) ?_
 refine s2 ?_
 refine kp [0,3,9] ?_
 refine W_cond rfl (fun q2=>?_) (fun q2=>?_)
 ·replace hp:=cond_t q2 hp
  refine s2 ?_
  refine L_assign (v:=(TL.hdr (TL.nil T_Inst 0))) rfl rfl ?_
  refine s1 ?_
  obtain rfl:=sj hp
  refine W_conv (M':=treeH (TL.nil T_Inst 0)::_) (fun w h=>addNilT (τ:=T_Inst) 0 h) ?_
  refine s1 ?_
  refine res1 rfl (ResOK.tmp rfl) ⟨(TL.nil T_Inst 0),rfl,rfl,rfl⟩ ms
 ·replace hp:=cond_f q2 hp
  refine s4 ?_
  replace hp:=ba hp;obtain ⟨y3,hy3,hp⟩:=hp
  refine L_callR rfl fn167.h rfl (by exact fun w hw=>i_copyInsts_walk w a0 (RdT.now (RdT.old h0) hw) _ hy3) ?_
  rintro _ _ ⟨y3x0,rfl,rfl,rfl⟩
  refine sc ?_
  replace hp:=dd hp
  refine s7 ?_
  refine L_loadW rfl rfl (RdC.seg (RdC.blk mm) 0 2 rfl) (by exact agg35.h) ?_
  replace hp:=ba hp;obtain ⟨y4,hy4,hp⟩:=hp
  refine L_callX rfl fn86.h rfl (by exact fun w hw=>i_instAt_walk w a0 (a1_1,a1_2) (RdT.now (RdT.old h0) hw) (RdT.now (RdT.pair RdT.int RdT.int) hw) _ hy4) ?_
  refine s7 ?_
  refine kp [0,3,5,6,17] ?_
  refine W_cond rfl (fun q5=>?_) (fun q5=>?_)
  ·replace hp:=cond_t q5 hp
   refine s4 ?_
   replace hp:=ba hp;obtain ⟨y6,hy6,hp⟩:=hp
   refine L_callR rfl fn87.h rfl (by exact fun w hw=>i_copyInst_walk w ((a1_1,a1_2),a1_3,a1_4,a1_5,(a1_6,a1_7,a1_8,a1_9,a1_10,a1_11,a1_12,a1_13),a1_14,a1_15,a1_16) (RdT.now (RdT.pair (RdT.pair RdT.int RdT.int) (RdT.pair RdT.int (RdT.pair RdT.int (RdT.pair RdT.int (RdT.pair (RdT.pair RdT.int (RdT.pair RdT.int (RdT.pair RdT.int (RdT.pair RdT.str (RdT.pair RdT.str (RdT.pair RdT.str (RdT.pair RdT.int (RdT.old h1.2.2.2.2.1.2.2.2.2.2.2.2)))))))) (RdT.pair RdT.int (RdT.pair (RdT.old h1.2.2.2.2.2.2.1) RdT.bool))))))) hw) _ hy6) ?_
   rintro _ _ ⟨⟨⟨y6x0_1,y6x0_2⟩,y6x0_3,y6x0_4,y6x0_5,⟨y6x0_6,y6x0_7,y6x0_8,y6x0_9,y6x0_10,y6x0_11,y6x0_12,y6x0_13⟩,y6x0_14,y6x0_15,y6x0_16⟩,rfl,rfl,rfl⟩
   refine sc ?_
   replace hp:=dd hp
   refine xL (((y6x0_1,y6x0_2),y6x0_3,y6x0_4,y6x0_5,(y6x0_6,y6x0_7,y6x0_8,y6x0_9,y6x0_10,y6x0_11,y6x0_12,y6x0_13),y6x0_14,y6x0_15,y6x0_16):T_Inst) ?_
   replace hp:=idx_bind hp;obtain ⟨⟨⟨u7_1,u7_2⟩,u7_3,u7_4,u7_5,⟨u7_6,u7_7,u7_8,u7_9,u7_10,u7_11,u7_12,u7_13⟩,u7_14,u7_15,u7_16⟩,hy7,hp⟩:=hp
   refine L_idxA (X:=y3x0) rfl rfl rfl el41.h (RdT.tree mm) hy7 ?_
   refine L_conv (M':=treeH ((u7_1,u7_2),u7_3,u7_4,u7_5,(u7_6,u7_7,u7_8,u7_9,u7_10,u7_11,u7_12,u7_13),u7_14,u7_15,u7_16)::holeH y3x0 (y4.toNat) (GT.cells ((u7_1,u7_2),u7_3,u7_4,u7_5,(u7_6,u7_7,u7_8,u7_9,u7_10,u7_11,u7_12,u7_13),u7_14,u7_15,u7_16))::_) (fun w h=>hole_open hy7.2 pk h) ?_
   refine xL (((u7_1,u7_2),u7_3,u7_4,u7_5,(u7_6,u7_7,u7_8,u7_9,u7_10,u7_11,u7_12,u7_13),u7_14,u7_15,u7_16):T_Inst) ?_
   refine L_stH (X:=y3x0) (i:=y4.toNat) (sz:=16) (fo:=0) (n:=16) rfl rfl pk rfl (.inl agg48.h) rfl (allOne rfl) (Nat.le_of_ble_eq_true rfl) ?_
   refine jL (((y6x0_1,y6x0_2),y6x0_3,y6x0_4,y6x0_5,(y6x0_6,y6x0_7,y6x0_8,y6x0_9,y6x0_10,y6x0_11,y6x0_12,y6x0_13),y6x0_14,y6x0_15,y6x0_16):T_Inst) ?_
   replace hp:=ba hp;obtain ⟨y8,hy8,hp⟩:=hp
   refine L_close (X:=y3x0) (((y6x0_1,y6x0_2),y6x0_3,y6x0_4,y6x0_5,(y6x0_6,y6x0_7,y6x0_8,y6x0_9,y6x0_10,y6x0_11,y6x0_12,y6x0_13),y6x0_14,y6x0_15,y6x0_16):T_Inst) rfl pk pk hy8 (fun X9 hdX9 hhX9=>?_)
   subst hdX9
   try rw [← hhX9]
   try rw [← g_of_hdr hhX9]
   try rw [← o_of_hdr hhX9]
   refine s4 ?_
   replace hp:=ba hp;obtain ⟨y10,hy10,hp⟩:=hp
   refine L_callM [treeH X9] _ rfl fn195.h rfl pc (by exact fun w hw=>sl_SortFunc_implInstimplInst_walk w X9 196 [] (fun z0 z1=>i_InstPut_c1 z0 z1 ) fn196.h (fun w' F u0 u1 v hF  hv=>i_InstPut_c1_walk w' u0 u1  v hv) _ hy10) ?_
   rintro _ _ ⟨y10y0,rfl,rfl,rfl,hey10_0⟩
   try rw [← hey10_0]
   refine sc ?_
   replace hp:=dd hp
   refine s5 ?_
   replace hp:=ba hp;obtain ⟨y11,hy11,hp⟩:=hp
   refine L_callX rfl fn73.h rfl (by exact fun w hw=>i_InstsOk_walk w y10y0 (RdT.now (RdT.tree mm) hw) _ hy11) ?_
   refine s2 ?_
   refine kp [0,5,32] ?_
   refine W_cond rfl (fun q12=>?_) (fun q12=>?_)
   ·replace hp:=cond_t q12 hp
    refine s3 ?_
    replace hp:=ba hp;obtain ⟨y13,hy13,hp⟩:=hp
    refine L_callR rfl fn167.h rfl (by exact fun w hw=>i_copyInsts_walk w a0 (RdT.now (RdT.old h0) hw) _ hy13) ?_
    rintro _ _ ⟨y13x0,rfl,rfl,rfl⟩
    refine sc ?_
    replace hp:=dd hp
    refine s2 ?_
    obtain rfl:=sj hp
    refine s1 ?_
    refine res1 rfl (ResOK.tmp rfl) ⟨y13x0,rfl,rfl,rfl⟩ ms
   ·replace hp:=cond_f q12 hp
    refine s6 ?_
    obtain rfl:=sj hp
    refine s1 ?_
    refine res1 rfl (ResOK.tmp rfl) ⟨y10y0,rfl,rfl,rfl⟩ ms
  ·replace hp:=cond_f q5 hp
   refine s3 ?_
   replace hp:=ba hp;obtain ⟨y14,hy14,hp⟩:=hp
   refine L_callR rfl fn87.h rfl (by exact fun w hw=>i_copyInst_walk w ((a1_1,a1_2),a1_3,a1_4,a1_5,(a1_6,a1_7,a1_8,a1_9,a1_10,a1_11,a1_12,a1_13),a1_14,a1_15,a1_16) (RdT.now (RdT.pair (RdT.pair RdT.int RdT.int) (RdT.pair RdT.int (RdT.pair RdT.int (RdT.pair RdT.int (RdT.pair (RdT.pair RdT.int (RdT.pair RdT.int (RdT.pair RdT.int (RdT.pair RdT.str (RdT.pair RdT.str (RdT.pair RdT.str (RdT.pair RdT.int (RdT.old h1.2.2.2.2.1.2.2.2.2.2.2.2)))))))) (RdT.pair RdT.int (RdT.pair (RdT.old h1.2.2.2.2.2.2.1) RdT.bool))))))) hw) _ hy14) ?_
   rintro _ _ ⟨⟨⟨y14x0_1,y14x0_2⟩,y14x0_3,y14x0_4,y14x0_5,⟨y14x0_6,y14x0_7,y14x0_8,y14x0_9,y14x0_10,y14x0_11,y14x0_12,y14x0_13⟩,y14x0_14,y14x0_15,y14x0_16⟩,rfl,rfl,rfl⟩
   refine sc ?_
   replace hp:=dd hp
   refine xL (((y14x0_1,y14x0_2),y14x0_3,y14x0_4,y14x0_5,(y14x0_6,y14x0_7,y14x0_8,y14x0_9,y14x0_10,y14x0_11,y14x0_12,y14x0_13),y14x0_14,y14x0_15,y14x0_16):T_Inst) ?_
   refine L_buildSlice1 rfl rfl el41.h rfl (by decide) (by decide) rfl (fun bb26=>?_)
   replace hp:=ba hp;obtain ⟨y16,hy16,hp⟩:=hp
   refine jL (((y14x0_1,y14x0_2),y14x0_3,y14x0_4,y14x0_5,(y14x0_6,y14x0_7,y14x0_8,y14x0_9,y14x0_10,y14x0_11,y14x0_12,y14x0_13),y14x0_14,y14x0_15,y14x0_16):T_Inst) ?_
   refine L_app1m (X:=y3x0) (((y14x0_1,y14x0_2),y14x0_3,y14x0_4,y14x0_5,(y14x0_6,y14x0_7,y14x0_8,y14x0_9,y14x0_10,y14x0_11,y14x0_12,y14x0_13),y14x0_14,y14x0_15,y14x0_16):T_Inst) rfl rfl rfl el41.h rfl rfl pk mm pk hy16 (by decide) (fun X15 hdX15 hmX15=>?_)
   subst hdX15
   refine s5 ?_
   replace hp:=ba hp;obtain ⟨y17,hy17,hp⟩:=hp
   refine L_callM [treeH X15] _ rfl fn195.h rfl pc (by exact fun w hw=>sl_SortFunc_implInstimplInst_walk w X15 196 [] (fun z0 z1=>i_InstPut_c1 z0 z1 ) fn196.h (fun w' F u0 u1 v hF  hv=>i_InstPut_c1_walk w' u0 u1  v hv) _ hy17) ?_
   rintro _ _ ⟨y17y0,rfl,rfl,rfl,hey17_0⟩
   try rw [← hey17_0]
   refine sc ?_
   replace hp:=dd hp
   refine s5 ?_
   replace hp:=ba hp;obtain ⟨y18,hy18,hp⟩:=hp
   refine L_callX rfl fn73.h rfl (by exact fun w hw=>i_InstsOk_walk w y17y0 (RdT.now (RdT.tree mm) hw) _ hy18) ?_
   refine s2 ?_
   refine kp [0,5,32] ?_
   refine W_cond rfl (fun q19=>?_) (fun q19=>?_)
   ·replace hp:=cond_t q19 hp
    refine s3 ?_
    replace hp:=ba hp;obtain ⟨y20,hy20,hp⟩:=hp
    refine L_callR rfl fn167.h rfl (by exact fun w hw=>i_copyInsts_walk w a0 (RdT.now (RdT.old h0) hw) _ hy20) ?_
    rintro _ _ ⟨y20x0,rfl,rfl,rfl⟩
    refine sc ?_
    replace hp:=dd hp
    refine s2 ?_
    obtain rfl:=sj hp
    refine s1 ?_
    refine res1 rfl (ResOK.tmp rfl) ⟨y20x0,rfl,rfl,rfl⟩ ms
   ·replace hp:=cond_f q19 hp
    refine s6 ?_
    obtain rfl:=sj hp
    refine s1 ?_
    refine res1 rfl (ResOK.tmp rfl) ⟨y17y0,rfl,rfl,rfl⟩ ms
noncomputable def i_ENode_put (a0:D_ENode) (a1:D_Inst):Option (Bool×D_ENode) :=
 Option.bind (i_instOk ((a1.1.1,a1.1.2),a1.2.1,a1.2.2.1,a1.2.2.2.1,(a1.2.2.2.2.1.1,a1.2.2.2.2.1.2.1,a1.2.2.2.2.1.2.2.1,a1.2.2.2.2.1.2.2.2.1,a1.2.2.2.2.1.2.2.2.2.1,a1.2.2.2.2.1.2.2.2.2.2.1,a1.2.2.2.2.1.2.2.2.2.2.2.1,a1.2.2.2.2.1.2.2.2.2.2.2.2),a1.2.2.2.2.2.1,a1.2.2.2.2.2.2.1,a1.2.2.2.2.2.2.2)) (fun y1=>cond (!y1) (some (false,(a0.1,a0.2.1,a0.2.2.1,a0.2.2.2))) (Option.bind (i_InstPut a0.2.2.1 ((a1.1.1,a1.1.2),a1.2.1,a1.2.2.1,a1.2.2.2.1,(a1.2.2.2.2.1.1,a1.2.2.2.2.1.2.1,a1.2.2.2.2.1.2.2.1,a1.2.2.2.2.1.2.2.2.1,a1.2.2.2.2.1.2.2.2.2.1,a1.2.2.2.2.1.2.2.2.2.2.1,a1.2.2.2.2.1.2.2.2.2.2.2.1,a1.2.2.2.2.1.2.2.2.2.2.2.2),a1.2.2.2.2.2.1,a1.2.2.2.2.2.2.1,a1.2.2.2.2.2.2.2)) (fun y3=>some (true,(a0.1,a0.2.1,y3,a0.2.2.2)))))
theorem i_ENode_put_walk (w:World) (b0_:Nat) (a0:T_ENode) (a1:T_Inst) (h1:GT.rd w (fps [blk b0_ (GT.cells a0) 44,treeH a0.2.2.1]) a1) (h0_3:GT.rd w (fps [blk b0_ (GT.cells a0) 44,treeH a0.2.2.1]) a0.2.2.2) (r:Bool×D_ENode) (hp:i_ENode_put (GT.dat a0) (GT.dat a1)=some r):Spec Tryz.prog 122 [Value.pointer (some ⟨b0_,0,none⟩),.agg (GT.cells a1).toArray].toArray w [blk b0_ (GT.cells a0) 44,treeH a0.2.2.1] (fun v M=>∃ (x0:Bool) (y0:T_ENode),v=.bool x0∧(GT.dat x0,GT.dat y0)=r∧M=[blk b0_ (GT.cells y0) 44,treeH y0.2.2.1]∧y0.2.2.2=a0.2.2.2):=by
 obtain ⟨a0_1,a0_2,a0_3,a0_4⟩:=a0
 obtain ⟨⟨a1_1,a1_2⟩,a1_3,a1_4,a1_5,⟨a1_6,a1_7,a1_8,a1_9,a1_10,a1_11,a1_12,a1_13⟩,a1_14,a1_15,a1_16⟩:=a1
 change Spec _ _ ([Value.pointer (some ⟨b0_,0,none⟩),Value.agg #[.int .i64 a1_1,.int .i64 a1_2,.int .i64 a1_3,.int .i64 a1_4,.int .i64 a1_5,.int .i64 a1_6,.int .i64 a1_7,.int .i64 a1_8,.string a1_9,.string a1_10,.string a1_11,.int .i64 a1_12,(TL.hdr a1_13),.int .i64 a1_14,(TL.hdr a1_15),.bool a1_16]]:List Value).toArray w _ _
 refine Spec.intro Tryz.func122 rfl Tryz.ntmps122 rfl ?_
 unfold i_ENode_put at hp
 replace hp:=dd hp
 refine s2 ?_
 refine bx fun bk3=>?_
 refine s6 ?_
 replace hp:=ba hp;obtain ⟨y1,hy1,hp⟩:=hp
 refine L_callX rfl fn127.h rfl (by exact fun w hw=>i_instOk_walk w ((a1_1,a1_2),a1_3,a1_4,a1_5,(a1_6,a1_7,a1_8,a1_9,a1_10,a1_11,a1_12,a1_13),a1_14,a1_15,a1_16) (RdT.now (RdT.pair (RdT.pair RdT.int RdT.int) (RdT.pair RdT.int (RdT.pair RdT.int (RdT.pair RdT.int (RdT.pair (RdT.pair RdT.int (RdT.pair RdT.int (RdT.pair RdT.int (RdT.pair RdT.str (RdT.pair RdT.str (RdT.pair RdT.str (RdT.pair RdT.int (RdT.old h1.2.2.2.2.1.2.2.2.2.2.2.2)))))))) (RdT.pair RdT.int (RdT.pair (RdT.old h1.2.2.2.2.2.2.1) RdT.bool))))))) hw) _ hy1) ?_
 refine s2 ?_
 refine kp [0,3,7] ?_
 refine W_cond rfl (fun q2=>?_) (fun q2=>?_)
 ·replace hp:=cond_t q2 hp
  refine s4 ?_
  obtain rfl:=sj hp
  refine s1 ?_
  refine res1 rfl (ResOK.tmp rfl) ⟨false,(a0_1,a0_2,a0_3,a0_4),rfl,rfl,rfl,rfl⟩ ms
 ·replace hp:=cond_f q2 hp
  refine s2 ?_
  replace hp:=ba hp;obtain ⟨y3,hy3,hp⟩:=hp
  refine W_DS (pre:=[_,_,_,_,_,_,_]) (suf:=[_,_,_]) [8,14] [] _ pc mix (by kernel_rfl) (by kernel_rfl) rfl ?_
  refine s6 ?_
  refine D_call1R (fun v M=>∃ (x0:TL T_Inst),v=(TL.hdr x0)∧GT.dat x0=y3∧M=[treeH x0]) fn169.h (OpVs.cons (OpV.t rfl) (OpVs.cons (OpV.t rfl) (OpVs.nil))) (by exact fun w F hF hM=>i_InstPut_walk w a0_3 ((a1_1,a1_2),a1_3,a1_4,a1_5,(a1_6,a1_7,a1_8,a1_9,a1_10,a1_11,a1_12,a1_13),a1_14,a1_15,a1_16) (RdT.nowS (RdT.tree mm) hF hM) (RdT.nowS (RdT.pair (RdT.pair RdT.int RdT.int) (RdT.pair RdT.int (RdT.pair RdT.int (RdT.pair RdT.int (RdT.pair (RdT.pair RdT.int (RdT.pair RdT.int (RdT.pair RdT.int (RdT.pair RdT.str (RdT.pair RdT.str (RdT.pair RdT.str (RdT.pair RdT.int (RdT.old h1.2.2.2.2.1.2.2.2.2.2.2.2)))))))) (RdT.pair RdT.int (RdT.pair (RdT.old h1.2.2.2.2.2.2.1) RdT.bool))))))) hF hM) _ hy3) ?_
  refine s1 ?_
  refine Give_R rfl rfl ?_
  rintro _ _ ⟨y3x0,rfl,rfl,rfl⟩
  refine s7 ?_
  refine sc ?_
  replace hp:=dd hp
  refine s8 ?_
  obtain rfl:=sj hp
  refine s1 ?_
  refine res1 rfl (ResOK.tmp rfl) ⟨true,(a0_1,a0_2,y3x0,a0_4),rfl,rfl,rfl,rfl⟩ ms
noncomputable def i_copyEMsg (a0:D_EMsg):Option D_EMsg :=
 Option.bind (i_copyCmd (a0.2.2.2.2.2.1.1,a0.2.2.2.2.2.1.2.1,a0.2.2.2.2.2.1.2.2.1,a0.2.2.2.2.2.1.2.2.2.1,a0.2.2.2.2.2.1.2.2.2.2.1,a0.2.2.2.2.2.1.2.2.2.2.2.1,a0.2.2.2.2.2.1.2.2.2.2.2.2.1,a0.2.2.2.2.2.1.2.2.2.2.2.2.2)) (fun y1=>Option.bind (i_copyIds a0.2.2.2.2.2.2.2.1) (fun y2=>some (a0.1,a0.2.1,a0.2.2.1,(a0.2.2.2.1.1,a0.2.2.2.1.2),a0.2.2.2.2.1,(y1.1,y1.2.1,y1.2.2.1,y1.2.2.2.1,y1.2.2.2.2.1,y1.2.2.2.2.2.1,y1.2.2.2.2.2.2.1,y1.2.2.2.2.2.2.2),a0.2.2.2.2.2.2.1,y2,a0.2.2.2.2.2.2.2.2.1,a0.2.2.2.2.2.2.2.2.2.1,a0.2.2.2.2.2.2.2.2.2.2)))
theorem i_copyEMsg_walk (w:World) (a0:T_EMsg) (h0:GT.rd w [] a0) (r:D_EMsg) (hp:i_copyEMsg (GT.dat a0)=some r):Spec Tryz.prog 120 [.agg (GT.cells a0).toArray].toArray w [] (fun v M=>∃ (x0:T_EMsg),v=.agg (GT.cells x0).toArray∧GT.dat x0=r∧M=[treeH x0]):=by
 obtain ⟨a0_1,a0_2,a0_3,⟨a0_4,a0_5⟩,a0_6,⟨a0_7,a0_8,a0_9,a0_10,a0_11,a0_12,a0_13,a0_14⟩,a0_15,a0_16,a0_17,a0_18,a0_19⟩:=a0
 change Spec _ _ ([Value.agg #[.int .i64 a0_1,.int .i64 a0_2,.int .i64 a0_3,.int .i64 a0_4,.int .i64 a0_5,.int .i64 a0_6,.int .i64 a0_7,.int .i64 a0_8,.int .i64 a0_9,.string a0_10,.string a0_11,.string a0_12,.int .i64 a0_13,(TL.hdr a0_14),.int .i64 a0_15,(TL.hdr a0_16),.int .i64 a0_17,.int .i64 a0_18,.bool a0_19]]:List Value).toArray w [] _
 refine Spec.intro Tryz.func120 rfl Tryz.ntmps120 rfl ?_
 unfold i_copyEMsg at hp
 replace hp:=dd hp
 refine s2 ?_
 refine bx fun bk1=>?_
 refine al fun bk2=>?_
 refine s4 ?_
 refine L_loadW rfl rfl (RdC.seg (RdC.blk mm) 6 8 rfl) (by exact agg38.h) ?_
 replace hp:=ba hp;obtain ⟨y1,hy1,hp⟩:=hp
 refine L_callR rfl fn135.h rfl (by exact fun w hw=>i_copyCmd_walk w (a0_7,a0_8,a0_9,a0_10,a0_11,a0_12,a0_13,a0_14) (RdT.now (RdT.pair RdT.int (RdT.pair RdT.int (RdT.pair RdT.int (RdT.pair RdT.str (RdT.pair RdT.str (RdT.pair RdT.str (RdT.pair RdT.int (RdT.old h0.2.2.2.2.2.1.2.2.2.2.2.2.2)))))))) hw) _ hy1) ?_
 rintro _ _ ⟨⟨y1x0_1,y1x0_2,y1x0_3,y1x0_4,y1x0_5,y1x0_6,y1x0_7,y1x0_8⟩,rfl,rfl,rfl⟩
 refine sc ?_
 replace hp:=dd hp
 refine xL ((y1x0_1,y1x0_2,y1x0_3,y1x0_4,y1x0_5,y1x0_6,y1x0_7,y1x0_8):T_Cmd) ?_
 refine s1 ?_
 refine L_storeA (fo:=6) rfl rfl pk (by exact agg38.h) (Nat.le_of_ble_eq_true rfl) ocs rfl ?_
 refine s5 ?_
 replace hp:=ba hp;obtain ⟨y2,hy2,hp⟩:=hp
 refine L_callR rfl fn123.h rfl (by exact fun w hw=>i_copyIds_walk w a0_16 (RdT.now (RdT.old h0.2.2.2.2.2.2.2.1) hw) _ hy2) ?_
 rintro _ _ ⟨y2x0,rfl,rfl,rfl⟩
 refine sc ?_
 replace hp:=dd hp
 refine s8 ?_
 obtain rfl:=sj hp
 refine jW ((a0_1,a0_2,a0_3,(a0_4,a0_5),a0_6,(y1x0_1,y1x0_2,y1x0_3,y1x0_4,y1x0_5,y1x0_6,y1x0_7,y1x0_8),a0_15,y2x0,a0_17,a0_18,a0_19):T_EMsg) ?_
 refine s1 ?_
 refine res1 rfl (ResOK.cell rfl mm (by exact agg103.h)) ⟨(a0_1,a0_2,a0_3,(a0_4,a0_5),a0_6,(y1x0_1,y1x0_2,y1x0_3,y1x0_4,y1x0_5,y1x0_6,y1x0_7,y1x0_8),a0_15,y2x0,a0_17,a0_18,a0_19),rfl,rfl,rfl⟩ ms
noncomputable def i_ENode_sent (a0:D_ENode) (a1:D_EMsg):Option (List D_EMsg) :=
 Option.bind (some ([]:List D_EMsg)) (fun y2=>whileP (fun s3:(List D_EMsg)×Int=>cond (decide (s3.2 < 3)) (cond (!decide (s3.2=a0.1)) (Option.bind (i_copyEMsg (a1.1,a1.2.1,a1.2.2.1,(a1.2.2.2.1.1,a1.2.2.2.1.2),a1.2.2.2.2.1,(a1.2.2.2.2.2.1.1,a1.2.2.2.2.2.1.2.1,a1.2.2.2.2.2.1.2.2.1,a1.2.2.2.2.2.1.2.2.2.1,a1.2.2.2.2.2.1.2.2.2.2.1,a1.2.2.2.2.2.1.2.2.2.2.2.1,a1.2.2.2.2.2.1.2.2.2.2.2.2.1,a1.2.2.2.2.2.1.2.2.2.2.2.2.2),a1.2.2.2.2.2.2.1,a1.2.2.2.2.2.2.2.1,a1.2.2.2.2.2.2.2.2.1,a1.2.2.2.2.2.2.2.2.2.1,a1.2.2.2.2.2.2.2.2.2.2)) (fun y6=>Option.bind (appP s3.1 [(y6.1,a0.1,s3.2,(y6.2.2.2.1.1,y6.2.2.2.1.2),y6.2.2.2.2.1,(y6.2.2.2.2.2.1.1,y6.2.2.2.2.2.1.2.1,y6.2.2.2.2.2.1.2.2.1,y6.2.2.2.2.2.1.2.2.2.1,y6.2.2.2.2.2.1.2.2.2.2.1,y6.2.2.2.2.2.1.2.2.2.2.2.1,y6.2.2.2.2.2.1.2.2.2.2.2.2.1,y6.2.2.2.2.2.1.2.2.2.2.2.2.2),y6.2.2.2.2.2.2.1,y6.2.2.2.2.2.2.2.1,y6.2.2.2.2.2.2.2.2.1,y6.2.2.2.2.2.2.2.2.2.1,y6.2.2.2.2.2.2.2.2.2.2)]) (fun y8=>some (.inl ((y8,IntKind.wrap .i64 (s3.2+1))))))) (some (.inl ((s3.1,IntKind.wrap .i64 (s3.2+1)))))) (Option.map .inr (some s3.1))) (y2,0))
theorem i_ENode_sent_walk (w:World) (b0_:Nat) (a0:T_ENode) (a1:T_EMsg) (hbb0_:Cells w [] b0_ 0 (GT.cells a0)) (h0:GT.rd w [] a0) (h1:GT.rd w [] a1) (r:(List D_EMsg)) (hp:i_ENode_sent (GT.dat a0) (GT.dat a1)=some r):Spec Tryz.prog 124 [Value.pointer (some ⟨b0_,0,none⟩),.agg (GT.cells a1).toArray].toArray w [] (fun v M=>∃ (x0:TL T_EMsg),v=(TL.hdr x0)∧GT.dat x0=r∧M=[treeH x0]):=by
 obtain ⟨a0_1,a0_2,a0_3,a0_4⟩:=a0
 obtain ⟨a1_1,a1_2,a1_3,⟨a1_4,a1_5⟩,a1_6,⟨a1_7,a1_8,a1_9,a1_10,a1_11,a1_12,a1_13,a1_14⟩,a1_15,a1_16,a1_17,a1_18,a1_19⟩:=a1
 change Spec _ _ ([Value.pointer (some ⟨b0_,0,none⟩),Value.agg #[.int .i64 a1_1,.int .i64 a1_2,.int .i64 a1_3,.int .i64 a1_4,.int .i64 a1_5,.int .i64 a1_6,.int .i64 a1_7,.int .i64 a1_8,.int .i64 a1_9,.string a1_10,.string a1_11,.string a1_12,.int .i64 a1_13,(TL.hdr a1_14),.int .i64 a1_15,(TL.hdr a1_16),.int .i64 a1_17,.int .i64 a1_18,.bool a1_19]]:List Value).toArray w [] _
 refine Spec.intro Tryz.func124 rfl Tryz.ntmps124 rfl ?_
 unfold i_ENode_sent at hp
 replace hp:=dd hp
 refine s2 ?_
 refine bx fun bk3=>?_
 refine L_assign (v:=(TL.hdr (TL.nil T_EMsg 0))) rfl rfl ?_
 refine s3 ?_
 replace hp:=ba hp;obtain ⟨y2,hy2,hp⟩:=hp
 refine L_mk0R T_EMsg rfl el27.h (fun X1 hdX1 hzX1=>?_)
 obtain rfl:GT.dat X1=y2:=hdX1.trans (Option.some.inj hy2)
 clear hy2 hdX1
 refine s8 ?_
 refine W_while (σ:=(TL T_EMsg)×Int) GT.dat (fun ((v3_0,v3_1):(TL T_EMsg)×Int)=>[(5,(TL.hdr v3_0)),(9,.int .i64 v3_1)]) (fun ((v3_0,v3_1):(TL T_EMsg)×Int)=>[treeH v3_0]) [(0,_),(3,_)] [blk bk3 _ _] (X1,0) hp sb ms ?_
 clear hp
 rintro ⟨v3_0,v3_1⟩ x3 hp hx3
 replace hp:=dd hp
 refine kq [0,3,5,9] ?_
 refine s5 ?_
 refine kp [0,3,5,9,10] ?_
 refine W_cond rfl (fun q4=>?_) (fun q4=>?_)
 ·replace hp:=cond_t q4 hp
  refine s14 ?_
  refine L_load rfl rfl (RdC.old hbb0_) one3.h rfl ?_
  refine s2 ?_
  refine kp [0,3,5,6,9,17] ?_
  refine W_cond rfl (fun q5=>?_) (fun q5=>?_)
  ·replace hp:=cond_t q5 hp
   refine s3 ?_
   replace hp:=ba hp;obtain ⟨y6,hy6,hp⟩:=hp
   refine L_callR rfl fn120.h rfl (by exact fun w hw=>i_copyEMsg_walk w (a1_1,a1_2,a1_3,(a1_4,a1_5),a1_6,(a1_7,a1_8,a1_9,a1_10,a1_11,a1_12,a1_13,a1_14),a1_15,a1_16,a1_17,a1_18,a1_19) (RdT.now (RdT.pair RdT.int (RdT.pair RdT.int (RdT.pair RdT.int (RdT.pair (RdT.pair RdT.int RdT.int) (RdT.pair RdT.int (RdT.pair (RdT.pair RdT.int (RdT.pair RdT.int (RdT.pair RdT.int (RdT.pair RdT.str (RdT.pair RdT.str (RdT.pair RdT.str (RdT.pair RdT.int (RdT.old h1.2.2.2.2.2.1.2.2.2.2.2.2.2)))))))) (RdT.pair RdT.int (RdT.pair (RdT.old h1.2.2.2.2.2.2.2.1) (RdT.pair RdT.int (RdT.pair RdT.int RdT.bool)))))))))) hw) _ hy6) ?_
   rintro _ _ ⟨⟨y6x0_1,y6x0_2,y6x0_3,⟨y6x0_4,y6x0_5⟩,y6x0_6,⟨y6x0_7,y6x0_8,y6x0_9,y6x0_10,y6x0_11,y6x0_12,y6x0_13,y6x0_14⟩,y6x0_15,y6x0_16,y6x0_17,y6x0_18,y6x0_19⟩,rfl,rfl,rfl⟩
   refine sc ?_
   replace hp:=dd hp
   refine xL ((y6x0_1,y6x0_2,y6x0_3,(y6x0_4,y6x0_5),y6x0_6,(y6x0_7,y6x0_8,y6x0_9,y6x0_10,y6x0_11,y6x0_12,y6x0_13,y6x0_14),y6x0_15,y6x0_16,y6x0_17,y6x0_18,y6x0_19):T_EMsg) ?_
   refine al fun bk7=>?_
   refine s7 ?_
   refine L_load rfl rfl (RdC.old hbb0_) one3.h rfl ?_
   refine s12 ?_
   refine L_buildSlice1 rfl rfl el27.h rfl (by decide) (by decide) rfl (fun bb29=>?_)
   replace hp:=ba hp;obtain ⟨y8,hy8,hp⟩:=hp
   refine jL ((y6x0_1,a0_1,v3_1,(y6x0_4,y6x0_5),y6x0_6,(y6x0_7,y6x0_8,y6x0_9,y6x0_10,y6x0_11,y6x0_12,y6x0_13,y6x0_14),y6x0_15,y6x0_16,y6x0_17,y6x0_18,y6x0_19):T_EMsg) ?_
   refine L_app1m (X:=v3_0) ((y6x0_1,a0_1,v3_1,(y6x0_4,y6x0_5),y6x0_6,(y6x0_7,y6x0_8,y6x0_9,y6x0_10,y6x0_11,y6x0_12,y6x0_13,y6x0_14),y6x0_15,y6x0_16,y6x0_17,y6x0_18,y6x0_19):T_EMsg) rfl rfl rfl el27.h rfl rfl pk mm pk hy8 (by decide) (fun X7 hdX7 hmX7=>?_)
   subst hdX7
   refine s6 ?_
   exact ⟨(X7,IntKind.wrap .i64 (v3_1+1)),sb,(.sub ms),some_eq hp⟩
  ·replace hp:=cond_f q5 hp
   refine s5 ?_
   exact ⟨(v3_0,IntKind.wrap .i64 (v3_1+1)),sb,(.sub ms),some_eq hp⟩
 ·replace hp:=cond_f q4 hp
  refine W_exit ?_
  replace hp:=map_any hp;obtain ⟨a9,hp,z_9⟩:=hp
  obtain rfl:=hx3 _ z_9
  refine s5 ?_
  obtain rfl:=sj hp
  refine s1 ?_
  refine res1 rfl (ResOK.tmp rfl) ⟨v3_0,rfl,rfl,rfl⟩ ms
noncomputable def i_ENode_reply (a0:D_ENode) (a1:D_EMsg) (a2:D_EMsg):Option (List D_EMsg) :=
 Option.bind (i_copyEMsg (a2.1,a2.2.1,a2.2.2.1,(a2.2.2.2.1.1,a2.2.2.2.1.2),a2.2.2.2.2.1,(a2.2.2.2.2.2.1.1,a2.2.2.2.2.2.1.2.1,a2.2.2.2.2.2.1.2.2.1,a2.2.2.2.2.2.1.2.2.2.1,a2.2.2.2.2.2.1.2.2.2.2.1,a2.2.2.2.2.2.1.2.2.2.2.2.1,a2.2.2.2.2.2.1.2.2.2.2.2.2.1,a2.2.2.2.2.2.1.2.2.2.2.2.2.2),a2.2.2.2.2.2.2.1,a2.2.2.2.2.2.2.2.1,a2.2.2.2.2.2.2.2.2.1,a2.2.2.2.2.2.2.2.2.2.1,a2.2.2.2.2.2.2.2.2.2.2)) (fun y1=>Option.bind (some [(y1.1,a0.1,a1.2.1,(a1.2.2.2.1.1,a1.2.2.2.1.2),y1.2.2.2.2.1,(y1.2.2.2.2.2.1.1,y1.2.2.2.2.2.1.2.1,y1.2.2.2.2.2.1.2.2.1,y1.2.2.2.2.2.1.2.2.2.1,y1.2.2.2.2.2.1.2.2.2.2.1,y1.2.2.2.2.2.1.2.2.2.2.2.1,y1.2.2.2.2.2.1.2.2.2.2.2.2.1,y1.2.2.2.2.2.1.2.2.2.2.2.2.2),y1.2.2.2.2.2.2.1,y1.2.2.2.2.2.2.2.1,y1.2.2.2.2.2.2.2.2.1,y1.2.2.2.2.2.2.2.2.2.1,y1.2.2.2.2.2.2.2.2.2.2)]) (fun y2=>some y2))
theorem i_ENode_reply_walk (w:World) (b0_:Nat) (a0:T_ENode) (a1:T_EMsg) (a2:T_EMsg) (hbb0_:Cells w [] b0_ 0 (GT.cells a0)) (h0:GT.rd w [] a0) (h1:GT.rd w [] a1) (h2:GT.rd w [] a2) (r:(List D_EMsg)) (hp:i_ENode_reply (GT.dat a0) (GT.dat a1) (GT.dat a2)=some r):Spec Tryz.prog 198 [Value.pointer (some ⟨b0_,0,none⟩),.agg (GT.cells a1).toArray,.agg (GT.cells a2).toArray].toArray w [] (fun v M=>∃ (x0:TL T_EMsg),v=(TL.hdr x0)∧GT.dat x0=r∧M=[treeH x0]):=by
 obtain ⟨a0_1,a0_2,a0_3,a0_4⟩:=a0
 obtain ⟨a1_1,a1_2,a1_3,⟨a1_4,a1_5⟩,a1_6,⟨a1_7,a1_8,a1_9,a1_10,a1_11,a1_12,a1_13,a1_14⟩,a1_15,a1_16,a1_17,a1_18,a1_19⟩:=a1
 obtain ⟨a2_1,a2_2,a2_3,⟨a2_4,a2_5⟩,a2_6,⟨a2_7,a2_8,a2_9,a2_10,a2_11,a2_12,a2_13,a2_14⟩,a2_15,a2_16,a2_17,a2_18,a2_19⟩:=a2
 change Spec _ _ ([Value.pointer (some ⟨b0_,0,none⟩),Value.agg #[.int .i64 a1_1,.int .i64 a1_2,.int .i64 a1_3,.int .i64 a1_4,.int .i64 a1_5,.int .i64 a1_6,.int .i64 a1_7,.int .i64 a1_8,.int .i64 a1_9,.string a1_10,.string a1_11,.string a1_12,.int .i64 a1_13,(TL.hdr a1_14),.int .i64 a1_15,(TL.hdr a1_16),.int .i64 a1_17,.int .i64 a1_18,.bool a1_19],Value.agg #[.int .i64 a2_1,.int .i64 a2_2,.int .i64 a2_3,.int .i64 a2_4,.int .i64 a2_5,.int .i64 a2_6,.int .i64 a2_7,.int .i64 a2_8,.int .i64 a2_9,.string a2_10,.string a2_11,.string a2_12,.int .i64 a2_13,(TL.hdr a2_14),.int .i64 a2_15,(TL.hdr a2_16),.int .i64 a2_17,.int .i64 a2_18,.bool a2_19]]:List Value).toArray w [] _
 refine Spec.intro Tryz.func198 rfl Tryz.ntmps198 rfl ?_
 unfold i_ENode_reply at hp
 replace hp:=dd hp
 refine s2 ?_
 refine bx fun bk4=>?_
 refine bx fun bk5=>?_
 refine L_assign (v:=(TL.hdr (TL.nil T_EMsg 0))) rfl rfl ?_
 refine s4 ?_
 replace hp:=ba hp;obtain ⟨y1,hy1,hp⟩:=hp
 refine L_callR rfl fn120.h rfl (by exact fun w hw=>i_copyEMsg_walk w (a2_1,a2_2,a2_3,(a2_4,a2_5),a2_6,(a2_7,a2_8,a2_9,a2_10,a2_11,a2_12,a2_13,a2_14),a2_15,a2_16,a2_17,a2_18,a2_19) (RdT.now (RdT.pair RdT.int (RdT.pair RdT.int (RdT.pair RdT.int (RdT.pair (RdT.pair RdT.int RdT.int) (RdT.pair RdT.int (RdT.pair (RdT.pair RdT.int (RdT.pair RdT.int (RdT.pair RdT.int (RdT.pair RdT.str (RdT.pair RdT.str (RdT.pair RdT.str (RdT.pair RdT.int (RdT.old h2.2.2.2.2.2.1.2.2.2.2.2.2.2)))))))) (RdT.pair RdT.int (RdT.pair (RdT.old h2.2.2.2.2.2.2.2.1) (RdT.pair RdT.int (RdT.pair RdT.int RdT.bool)))))))))) hw) _ hy1) ?_
 rintro _ _ ⟨⟨y1x0_1,y1x0_2,y1x0_3,⟨y1x0_4,y1x0_5⟩,y1x0_6,⟨y1x0_7,y1x0_8,y1x0_9,y1x0_10,y1x0_11,y1x0_12,y1x0_13,y1x0_14⟩,y1x0_15,y1x0_16,y1x0_17,y1x0_18,y1x0_19⟩,rfl,rfl,rfl⟩
 refine sc ?_
 replace hp:=dd hp
 refine xL ((y1x0_1,y1x0_2,y1x0_3,(y1x0_4,y1x0_5),y1x0_6,(y1x0_7,y1x0_8,y1x0_9,y1x0_10,y1x0_11,y1x0_12,y1x0_13,y1x0_14),y1x0_15,y1x0_16,y1x0_17,y1x0_18,y1x0_19):T_EMsg) ?_
 refine s5 ?_
 refine L_loadW rfl rfl (RdC.seg (RdC.blk mm) 3 2 rfl) (by exact agg35.h) ?_
 refine s1 ?_
 refine L_storeA (fo:=3) rfl rfl pk (by exact agg35.h) (Nat.le_of_ble_eq_true rfl) ocs rfl ?_
 refine s6 ?_
 refine L_load rfl rfl (RdC.old hbb0_) one3.h rfl ?_
 refine s13 ?_
 refine jL ((y1x0_1,a0_1,a1_2,(a1_4,a1_5),y1x0_6,(y1x0_7,y1x0_8,y1x0_9,y1x0_10,y1x0_11,y1x0_12,y1x0_13,y1x0_14),y1x0_15,y1x0_16,y1x0_17,y1x0_18,y1x0_19):T_EMsg) ?_
 replace hp:=ba hp;obtain ⟨y2,hy2,hp⟩:=hp
 refine L_bs1T ((y1x0_1,a0_1,a1_2,(a1_4,a1_5),y1x0_6,(y1x0_7,y1x0_8,y1x0_9,y1x0_10,y1x0_11,y1x0_12,y1x0_13,y1x0_14),y1x0_15,y1x0_16,y1x0_17,y1x0_18,y1x0_19):T_EMsg) rfl rfl el27.h rfl (by decide) (by decide) rfl rfl pk hy2 (fun X3 hdX3=>?_)
 subst hdX3
 refine s2 ?_
 obtain rfl:=sj hp
 refine s1 ?_
 refine res1 rfl (ResOK.tmp rfl) ⟨X3,rfl,rfl,rfl⟩ ms
noncomputable def i_ENode_settle (a0:D_ENode) (a1:Int) (a2:Int):Option ((List D_EMsg)×D_ENode) :=
 Option.bind (idx a0.2.2.2 a1) (fun y1=>Option.bind (i_InstAt a0.2.2.1 (y1.1.1,y1.1.2)) (fun y2=>cond (!decide (y2.2.1=y1.2.1)) (Option.bind (i_ENode_drop (a0.1,a0.2.1,a0.2.2.1,a0.2.2.2) (y1.1.1,y1.1.2)) (fun y4=>some (([]:List D_EMsg),(y4.1,y4.2.1,y4.2.2.1,y4.2.2.2)))) (Option.bind (i_copyIds y1.2.2.2.2.1) (fun y5=>cond (decide (a2=2)) (Option.bind (idx a0.2.2.2 a1) (fun y7=>Option.bind (some (a0.2.2.2.set (a1.toNat) ((y7.1.1,y7.1.2),y7.2.1,2,y7.2.2.2.1,y7.2.2.2.2.1,y7.2.2.2.2.2.1,y7.2.2.2.2.2.2))) (fun y8=>Option.bind (idx y8 a1) (fun y10=>Option.bind (some (y8.set (a1.toNat) ((y10.1.1,y10.1.2),y10.2.1,y10.2.2.1,y10.2.2.2.1,y10.2.2.2.2.1,([]:List Int),y10.2.2.2.2.2.2))) (fun y11=>Option.bind (i_ENode_put (a0.1,a0.2.1,a0.2.2.1,y11) ((y2.1.1,y2.1.2),y2.2.1,y1.2.1,a2,(y2.2.2.2.2.1.1,y2.2.2.2.2.1.2.1,y2.2.2.2.2.1.2.2.1,y2.2.2.2.2.1.2.2.2.1,y2.2.2.2.2.1.2.2.2.2.1,y2.2.2.2.2.1.2.2.2.2.2.1,y2.2.2.2.2.1.2.2.2.2.2.2.1,y2.2.2.2.2.1.2.2.2.2.2.2.2),y1.2.2.2.1,y5,false)) (fun y13=>Option.bind (i_ENode_sent (y13.2.1,y13.2.2.1,y13.2.2.2.1,y13.2.2.2.2) (3,0,0,(y1.1.1,y1.1.2),y1.2.1,(y2.2.2.2.2.1.1,y2.2.2.2.2.1.2.1,y2.2.2.2.2.1.2.2.1,y2.2.2.2.2.1.2.2.2.1,y2.2.2.2.2.1.2.2.2.2.1,y2.2.2.2.2.1.2.2.2.2.2.1,y2.2.2.2.2.1.2.2.2.2.2.2.1,y2.2.2.2.2.1.2.2.2.2.2.2.2),y1.2.2.2.1,y1.2.2.2.2.1,0,(-1),false)) (fun y14=>some (y14,(y13.2.1,y13.2.2.1,y13.2.2.2.1,y13.2.2.2.2))))))))) (Option.bind (i_ENode_drop (a0.1,a0.2.1,a0.2.2.1,a0.2.2.2) (y1.1.1,y1.1.2)) (fun y15=>Option.bind (i_ENode_put (y15.1,y15.2.1,y15.2.2.1,y15.2.2.2) ((y2.1.1,y2.1.2),y2.2.1,y2.2.2.1,a2,(y2.2.2.2.2.1.1,y2.2.2.2.2.1.2.1,y2.2.2.2.2.1.2.2.1,y2.2.2.2.2.1.2.2.2.1,y2.2.2.2.2.1.2.2.2.2.1,y2.2.2.2.2.1.2.2.2.2.2.1,y2.2.2.2.2.1.2.2.2.2.2.2.1,y2.2.2.2.2.1.2.2.2.2.2.2.2),y1.2.2.2.1,y5,false)) (fun y16=>Option.bind (i_ENode_sent (y16.2.1,y16.2.2.1,y16.2.2.2.1,y16.2.2.2.2) (5,0,0,(y1.1.1,y1.1.2),0,(y2.2.2.2.2.1.1,y2.2.2.2.2.1.2.1,y2.2.2.2.2.1.2.2.1,y2.2.2.2.2.1.2.2.2.1,y2.2.2.2.2.1.2.2.2.2.1,y2.2.2.2.2.1.2.2.2.2.2.1,y2.2.2.2.2.1.2.2.2.2.2.2.1,y2.2.2.2.2.1.2.2.2.2.2.2.2),y1.2.2.2.1,y1.2.2.2.2.1,0,(-1),false)) (fun y17=>some (y17,(y16.2.1,y16.2.2.1,y16.2.2.2.1,y16.2.2.2.2))))))))))
theorem i_ENode_settle_walk (w:World) (b0_:Nat) (a0:T_ENode) (a1:Int) (a2:Int)  (r:(List D_EMsg)×D_ENode) (hp:i_ENode_settle (GT.dat a0) a1 a2=some r):Spec Tryz.prog 126 [Value.pointer (some ⟨b0_,0,none⟩),.int .i64 a1,.int .i64 a2].toArray w [blk b0_ (GT.cells a0) 44,treeH a0.2.2.1,treeH a0.2.2.2] (fun v M=>∃ (x0:TL T_EMsg) (y0:T_ENode),v=(TL.hdr x0)∧(GT.dat x0,GT.dat y0)=r∧M=[treeH x0,blk b0_ (GT.cells y0) 44,treeH y0.2.2.1,treeH y0.2.2.2]):=by
 obtain ⟨a0_1,a0_2,a0_3,a0_4⟩:=a0
 change Spec _ _ ([Value.pointer (some ⟨b0_,0,none⟩),.int .i64 a1,.int .i64 a2]:List Value).toArray w _ _
 refine Spec.intro Tryz.func126 rfl Tryz.ntmps126 rfl ?_
 unfold i_ENode_settle at hp
 replace hp:=dd hp
 refine s2 ?_
 refine L_assign (v:=(TL.hdr (TL.nil T_EMsg 0))) rfl rfl ?_
 refine s8 ?_
 replace hp:=idx_bind hp;obtain ⟨⟨⟨u1_1,u1_2⟩,u1_3,u1_4,u1_5,u1_6,u1_7,u1_8⟩,hy1,hp⟩:=hp
 refine L_idxA (X:=a0_4) rfl rfl rfl el42.h (RdT.tree mm) hy1 ?_
 refine L_loadW rfl rfl (RdT.at (RdT.tree mm) (hy1).2) (by exact agg141.h) ?_
 refine al fun bk7=>?_
 refine s3 ?_
 replace hp:=ba hp;obtain ⟨y2,hy2,hp⟩:=hp
 refine W_DS (pre:=[_,_,_,_,_,_,_,_]) (suf:=[_]) [8,23] [] _ pc mix (by kernel_rfl) (by kernel_rfl) rfl ?_
 refine s5 ?_
 refine D_loadW GC.none (OpV.t rfl) (fun hg=>RdC.seg (RdC.blk mm) 0 2 rfl) (by exact agg35.h) ?_
 refine D_call1R (fun v M=>∃ (x0:T_Inst),v=.agg (GT.cells x0).toArray∧GT.dat x0=y2∧M=[treeH x0]) fn41.h (OpVs.cons (OpV.t rfl) (OpVs.cons (OpV.t rfl) (OpVs.nil))) (by exact fun w F hF hM=>i_InstAt_walk w a0_3 (u1_1,u1_2) (RdT.nowS (RdT.tree mm) hF hM) (RdT.nowS (RdT.pair RdT.int RdT.int) hF hM) _ hy2) ?_
 refine D_alloc zero48.h ?_
 refine s1 ?_
 refine Give_R rfl rfl ?_
 rintro _ _ ⟨bk8,rfl,rfl⟩
 simp only [List.cons_append,List.nil_append]
 refine Give_R rfl rfl ?_
 rintro _ _ ⟨⟨⟨y2x0_1,y2x0_2⟩,y2x0_3,y2x0_4,y2x0_5,⟨y2x0_6,y2x0_7,y2x0_8,y2x0_9,y2x0_10,y2x0_11,y2x0_12,y2x0_13⟩,y2x0_14,y2x0_15,y2x0_16⟩,rfl,rfl,rfl⟩
 refine s7 ?_
 refine sc ?_
 replace hp:=dd hp
 refine xL (((y2x0_1,y2x0_2),y2x0_3,y2x0_4,y2x0_5,(y2x0_6,y2x0_7,y2x0_8,y2x0_9,y2x0_10,y2x0_11,y2x0_12,y2x0_13),y2x0_14,y2x0_15,y2x0_16):T_Inst) ?_
 refine s11 ?_
 refine kp [0,1,2,7,8,28] ?_
 refine W_cond rfl (fun q3=>?_) (fun q3=>?_)
 ·replace hp:=cond_t q3 hp
  refine s4 ?_
  refine L_loadW rfl rfl (RdC.seg (RdC.blk mm) 0 2 rfl) (by exact agg35.h) ?_
  replace hp:=ba hp;obtain ⟨y4,hy4,hp⟩:=hp
  refine L_callM [blk b0_ _ _,treeH a0_3,treeH a0_4] _ rfl fn176.h rfl pc (by exact fun w hw=>i_ENode_drop_walk w b0_ (a0_1,a0_2,a0_3,a0_4) (u1_1,u1_2) ((RdX.pair RdX.int RdX.int) w hw) _ hy4) ?_
  rintro _ _ ⟨⟨y4y0_1,y4y0_2,y4y0_3,y4y0_4⟩,rfl,rfl,rfl⟩
  refine sc ?_
  replace hp:=dd hp
  refine s3 ?_
  refine L_assign (v:=(TL.hdr (TL.nil T_EMsg 0))) rfl rfl ?_
  refine s1 ?_
  obtain rfl:=sj hp
  refine W_conv (M':=treeH (TL.nil T_EMsg 0)::_) (fun w h=>addNilT (τ:=T_EMsg) 0 h) ?_
  refine s1 ?_
  refine res1 rfl (ResOK.tmp rfl) ⟨(TL.nil T_EMsg 0),(y4y0_1,y4y0_2,y4y0_3,y4y0_4),rfl,rfl,rfl⟩ ms
 ·replace hp:=cond_f q3 hp
  refine s18 ?_
  replace hp:=ba hp;obtain ⟨y5,hy5,hp⟩:=hp
  refine L_callR rfl fn123.h rfl (by exact fun w hw=>i_copyIds_walk w u1_6 (RdT.now (RdT.fst (RdT.snd (RdT.snd (RdT.snd (RdT.snd (RdT.of (RdT.tree mm) (hy1).2)))))) hw) _ hy5) ?_
  rintro _ _ ⟨y5x0,rfl,rfl,rfl⟩
  refine sc ?_
  replace hp:=dd hp
  refine s11 ?_
  refine L_loadW rfl rfl (RdC.seg (RdC.blk mm) 0 2 rfl) (by exact agg35.h) ?_
  refine s1 ?_
  refine L_loadW rfl rfl (RdC.seg (RdC.blk mm) 5 8 rfl) (by exact agg38.h) ?_
  refine s4 ?_
  refine L_build (xs:=[(0,.const (.int .i64 5)),(3,.tmp 44),(5,.tmp 46),(6,.tmp 48),(7,.tmp 50),(9,.const (.int .i64 (-1)))]) (cs:=[.int .i64 5,.int .i64 0,.int .i64 0,.int .i64 u1_1,.int .i64 u1_2,.int .i64 0,.int .i64 y2x0_6,.int .i64 y2x0_7,.int .i64 y2x0_8,.string y2x0_9,.string y2x0_10,.string y2x0_11,.int .i64 y2x0_12,(TL.hdr y2x0_13),.int .i64 u1_5,(TL.hdr u1_6),.int .i64 0,.int .i64 (-1),.bool false]) rfl rfl bld103.h rfl ?_
  refine al fun bk9=>?_
  refine s8 ?_
  refine kp [0,1,7,8,9,53] ?_
  refine W_cond rfl (fun q6=>?_) (fun q6=>?_)
  ·replace hp:=cond_t q6 hp
   refine s20 ?_
   refine s6 ?_
   replace hp:=idx_bind hp;obtain ⟨u7,hy7,hp⟩:=hp
   obtain rfl:((u1_1,u1_2),u1_3,u1_4,u1_5,u1_6,u1_7,u1_8)=u7:=Option.some.inj (hy1.2.symm.trans hy7.2)
   refine L_idxA (X:=a0_4) rfl rfl rfl el42.h (RdT.tree mm) hy1 ?_
   refine s1 ?_
   refine L_conv (M':=treeH ((u1_1,u1_2),u1_3,u1_4,u1_5,u1_6,u1_7,u1_8)::holeH a0_4 (a1.toNat) (GT.cells ((u1_1,u1_2),u1_3,u1_4,u1_5,u1_6,u1_7,u1_8))::_) (fun w h=>hole_open hy1.2 pk h) ?_
   refine xL (((u1_1,u1_2),u1_3,u1_4,u1_5,u1_6,u1_7,u1_8):T_Lead) ?_
   refine L_stH (X:=a0_4) (i:=a1.toNat) (sz:=8) (fo:=3) (n:=1) rfl rfl pk rfl (.inr ⟨one3.h,rfl⟩) rfl (allOne rfl) (Nat.le_of_ble_eq_true rfl) ?_
   refine jL (((u1_1,u1_2),u1_3,2,u1_5,u1_6,u1_7,u1_8):T_Lead) ?_
   replace hp:=ba hp;obtain ⟨y8,hy8,hp⟩:=hp
   refine L_closeE (X:=a0_4) (((u1_1,u1_2),u1_3,2,u1_5,u1_6,u1_7,u1_8):T_Lead) hy1.2 rfl pk pk hy8 (fun X9 hdX9 hhX9 hzX9=>?_)
   subst hdX9
   try simp only [cells_pair,cells_int,cells_bool,cells_str,cells_TL,List.cons_append,List.nil_append]
   try rw [← hhX9]
   have hwX9:=And.intro hy1.1 hzX9
   try rw [← g_of_hdr hhX9]
   try rw [← o_of_hdr hhX9]
   refine s7 ?_
   replace hp:=idx_bind hp;obtain ⟨u10,hy10,hp⟩:=hp
   obtain rfl:((u1_1,u1_2),u1_3,2,u1_5,u1_6,u1_7,u1_8)=u10:=Option.some.inj (hwX9.2.symm.trans hy10.2)
   refine L_idxA (X:=X9) rfl rfl rfl el42.h (RdT.tree mm) hwX9 ?_
   refine s1 ?_
   refine L_conv (M':=treeH ((u1_1,u1_2),u1_3,2,u1_5,u1_6,u1_7,u1_8)::holeH X9 (a1.toNat) (GT.cells ((u1_1,u1_2),u1_3,2,u1_5,u1_6,u1_7,u1_8))::_) (fun w h=>hole_open hwX9.2 pk h) ?_
   refine xL (((u1_1,u1_2),u1_3,2,u1_5,u1_6,u1_7,u1_8):T_Lead) ?_
   refine L_stH (X:=X9) (i:=a1.toNat) (sz:=8) (fo:=6) (n:=1) rfl rfl pk rfl (.inr ⟨one78.h,rfl⟩) rfl (allOne rfl) (Nat.le_of_ble_eq_true rfl) ?_
   refine L_conv (M':=treeH (TL.nil Int 0)::_) (fun w h=>addNilT (τ:=Int) 0 h) ?_
   refine jL (((u1_1,u1_2),u1_3,2,u1_5,u1_6,(TL.nil Int 0),u1_8):T_Lead) ?_
   replace hp:=ba hp;obtain ⟨y11,hy11,hp⟩:=hp
   refine L_closeE (X:=X9) (((u1_1,u1_2),u1_3,2,u1_5,u1_6,(TL.nil Int 0),u1_8):T_Lead) hwX9.2 rfl pk pk hy11 (fun X12 hdX12 hhX12 hzX12=>?_)
   subst hdX12
   try simp only [cells_pair,cells_int,cells_bool,cells_str,cells_TL,List.cons_append,List.nil_append]
   try rw [← hhX12]
   have hwX12:=And.intro hwX9.1 hzX12
   try rw [← g_of_hdr hhX12]
   try rw [← o_of_hdr hhX12]
   refine s5 ?_
   replace hp:=ba hp;obtain ⟨y13,hy13,hp⟩:=hp
   refine L_callM [blk b0_ _ _,treeH a0_3] _ rfl fn122.h rfl pc (by exact fun w hw=>i_ENode_put_walk w b0_ (a0_1,a0_2,a0_3,X12) ((y2x0_1,y2x0_2),y2x0_3,u1_3,a2,(y2x0_6,y2x0_7,y2x0_8,y2x0_9,y2x0_10,y2x0_11,y2x0_12,y2x0_13),u1_5,y5x0,false) ((RdX.pair (RdX.pair RdX.int RdX.int) (RdX.pair RdX.int (RdX.pair RdX.int (RdX.pair RdX.int (RdX.pair (RdX.pair RdX.int (RdX.pair RdX.int (RdX.pair RdX.int (RdX.pair RdX.str (RdX.pair RdX.str (RdX.pair RdX.str (RdX.pair RdX.int (RdX.tree mm)))))))) (RdX.pair RdX.int (RdX.pair (RdX.tree mm) RdX.bool))))))) w hw) ((RdX.tree mm) w hw) _ hy13) ?_
   rintro _ _ ⟨y13x0,⟨y13y0_1,y13y0_2,y13y0_3,y13y0_4⟩,rfl,rfl,rfl,hey13_0⟩
   obtain rfl:X12=y13y0_4:=hey13_0.symm
   refine sc ?_
   replace hp:=dd hp
   refine s5 ?_
   replace hp:=ba hp;obtain ⟨y14,hy14,hp⟩:=hp
   refine L_callR rfl fn124.h rfl (by exact fun w hw=>i_ENode_sent_walk w b0_ (y13y0_1,y13y0_2,y13y0_3,X12) (3,0,0,(u1_1,u1_2),u1_3,(y2x0_6,y2x0_7,y2x0_8,y2x0_9,y2x0_10,y2x0_11,y2x0_12,y2x0_13),u1_5,u1_6,0,(-1),false) (cells_of_blk mm hw.sees) (RdT.now (RdT.pair RdT.int (RdT.pair RdT.int (RdT.pair (RdT.tree mm) (RdT.tree mm)))) hw) (RdT.now (RdT.pair RdT.int (RdT.pair RdT.int (RdT.pair RdT.int (RdT.pair (RdT.pair RdT.int RdT.int) (RdT.pair RdT.int (RdT.pair (RdT.pair RdT.int (RdT.pair RdT.int (RdT.pair RdT.int (RdT.pair RdT.str (RdT.pair RdT.str (RdT.pair RdT.str (RdT.pair RdT.int (RdT.tree mm)))))))) (RdT.pair RdT.int (RdT.pair (RdT.fst (RdT.snd (RdT.snd (RdT.snd (RdT.snd (RdT.of (RdT.tree mm) hzX12)))))) (RdT.pair RdT.int (RdT.pair RdT.int RdT.bool)))))))))) hw) _ hy14) ?_
   rintro _ _ ⟨y14x0,rfl,rfl,rfl⟩
   refine sc ?_
   replace hp:=dd hp
   refine s2 ?_
   obtain rfl:=sj hp
   refine s1 ?_
   refine res1 rfl (ResOK.tmp rfl) ⟨y14x0,(y13y0_1,y13y0_2,y13y0_3,X12),rfl,rfl,rfl⟩ ms
  ·replace hp:=cond_f q6 hp
   refine s3 ?_
   refine L_loadW rfl rfl (RdC.seg (RdC.blk mm) 0 2 rfl) (by exact agg35.h) ?_
   replace hp:=ba hp;obtain ⟨y15,hy15,hp⟩:=hp
   refine L_callM [blk b0_ _ _,treeH a0_3,treeH a0_4] _ rfl fn176.h rfl pc (by exact fun w hw=>i_ENode_drop_walk w b0_ (a0_1,a0_2,a0_3,a0_4) (u1_1,u1_2) ((RdX.pair RdX.int RdX.int) w hw) _ hy15) ?_
   rintro _ _ ⟨⟨y15y0_1,y15y0_2,y15y0_3,y15y0_4⟩,rfl,rfl,rfl⟩
   refine sc ?_
   replace hp:=dd hp
   refine s5 ?_
   replace hp:=ba hp;obtain ⟨y16,hy16,hp⟩:=hp
   refine L_callM [blk b0_ _ _,treeH y15y0_3] _ rfl fn122.h rfl pc (by exact fun w hw=>i_ENode_put_walk w b0_ (y15y0_1,y15y0_2,y15y0_3,y15y0_4) ((y2x0_1,y2x0_2),y2x0_3,y2x0_4,a2,(y2x0_6,y2x0_7,y2x0_8,y2x0_9,y2x0_10,y2x0_11,y2x0_12,y2x0_13),u1_5,y5x0,false) ((RdX.pair (RdX.pair RdX.int RdX.int) (RdX.pair RdX.int (RdX.pair RdX.int (RdX.pair RdX.int (RdX.pair (RdX.pair RdX.int (RdX.pair RdX.int (RdX.pair RdX.int (RdX.pair RdX.str (RdX.pair RdX.str (RdX.pair RdX.str (RdX.pair RdX.int (RdX.tree mm)))))))) (RdX.pair RdX.int (RdX.pair (RdX.tree mm) RdX.bool))))))) w hw) ((RdX.tree mm) w hw) _ hy16) ?_
   rintro _ _ ⟨y16x0,⟨y16y0_1,y16y0_2,y16y0_3,y16y0_4⟩,rfl,rfl,rfl,hey16_0⟩
   obtain rfl:y15y0_4=y16y0_4:=hey16_0.symm
   refine sc ?_
   replace hp:=dd hp
   refine s5 ?_
   replace hp:=ba hp;obtain ⟨y17,hy17,hp⟩:=hp
   refine L_callR rfl fn124.h rfl (by exact fun w hw=>i_ENode_sent_walk w b0_ (y16y0_1,y16y0_2,y16y0_3,y15y0_4) (5,0,0,(u1_1,u1_2),0,(y2x0_6,y2x0_7,y2x0_8,y2x0_9,y2x0_10,y2x0_11,y2x0_12,y2x0_13),u1_5,u1_6,0,(-1),false) (cells_of_blk mm hw.sees) (RdT.now (RdT.pair RdT.int (RdT.pair RdT.int (RdT.pair (RdT.tree mm) (RdT.tree mm)))) hw) (RdT.now (RdT.pair RdT.int (RdT.pair RdT.int (RdT.pair RdT.int (RdT.pair (RdT.pair RdT.int RdT.int) (RdT.pair RdT.int (RdT.pair (RdT.pair RdT.int (RdT.pair RdT.int (RdT.pair RdT.int (RdT.pair RdT.str (RdT.pair RdT.str (RdT.pair RdT.str (RdT.pair RdT.int (RdT.tree mm)))))))) (RdT.pair RdT.int (RdT.pair (RdT.fst (RdT.snd (RdT.snd (RdT.snd (RdT.snd (RdT.elMem (List.mem_filter.2 ⟨List.mem_of_getElem? hy1.2,(by simp [dat_pair,dat_int])⟩) (RdT.els (xs:=(a0_4.els.filter (fun t:T_Lead=>decide ((GT.dat t).1.1=u1_1)&&(decide ((GT.dat t).1.2=u1_2)&&true)))) mm))))))) (RdT.pair RdT.int (RdT.pair RdT.int RdT.bool)))))))))) hw) _ hy17) ?_
   rintro _ _ ⟨y17x0,rfl,rfl,rfl⟩
   refine sc ?_
   replace hp:=dd hp
   refine s2 ?_
   obtain rfl:=sj hp
   refine s1 ?_
   refine res1 rfl (ResOK.tmp rfl) ⟨y17x0,(y16y0_1,y16y0_2,y16y0_3,y15y0_4),rfl,rfl,rfl⟩ ms
noncomputable def i_ENodeOffer (a0:D_ENode) (a1:D_Cmd):Option (D_ENode×(List D_EMsg)×Bool) :=
 Option.bind (i_ENodeOk (a0.1,a0.2.1,a0.2.2.1,a0.2.2.2)) (fun y1=>cond (!y1) (some ((0,0,([]:List D_Inst),([]:List D_Lead)),([]:List D_EMsg),false)) (Option.bind (i_copyENode (a0.1,a0.2.1,a0.2.2.1,a0.2.2.2)) (fun y3=>Option.bind (i_AttrsOf a0.2.2.1 (a0.1,a0.2.1) (a1.1,a1.2.1,a1.2.2.1,a1.2.2.2.1,a1.2.2.2.2.1,a1.2.2.2.2.2.1,a1.2.2.2.2.2.2.1,a1.2.2.2.2.2.2.2)) (fun y4=>Option.bind (i_CmdOk (a1.1,a1.2.1,a1.2.2.1,a1.2.2.2.1,a1.2.2.2.2.1,a1.2.2.2.2.2.1,a1.2.2.2.2.2.2.1,a1.2.2.2.2.2.2.2)) (fun y5=>cond (((((!y5)||(decide (a1.1=0)))||(decide (6 < a0.2.1)))||(decide ((a0.2.2.2.length:Int)=8)))||(decide (60 < y4.1))) (some ((y3.1,y3.2.1,y3.2.2.1,y3.2.2.2),([]:List D_EMsg),false)) (Option.bind (i_ENode_put (y3.1,IntKind.wrap .i64 (y3.2.1+1),y3.2.2.1,y3.2.2.2) ((a0.1,a0.2.1),a0.1,a0.1,1,(a1.1,a1.2.1,a1.2.2.1,a1.2.2.2.1,a1.2.2.2.2.1,a1.2.2.2.2.2.1,a1.2.2.2.2.2.2.1,a1.2.2.2.2.2.2.2),y4.1,y4.2,true)) (fun y7=>Option.bind (i_copyIds y4.2) (fun y8=>Option.bind (appP y7.2.2.2.2 [((a0.1,a0.2.1),a0.1,1,y4.1,y8,([]:List Int),true)]) (fun y11=>Option.bind (i_ENode_sent (y7.2.1,y7.2.2.1,y7.2.2.2.1,y11) (1,0,0,(a0.1,a0.2.1),a0.1,(a1.1,a1.2.1,a1.2.2.1,a1.2.2.2.1,a1.2.2.2.2.1,a1.2.2.2.2.2.1,a1.2.2.2.2.2.2.1,a1.2.2.2.2.2.2.2),y4.1,y4.2,0,(-1),false)) (fun y12=>some ((y7.2.1,y7.2.2.1,y7.2.2.2.1,y11),y12,true)))))))))))
theorem i_ENodeOffer_walk (w:World) (a0:T_ENode) (a1:T_Cmd) (h0:GT.rd w [] a0) (h1:GT.rd w [] a1) (r:D_ENode×(List D_EMsg)×Bool) (hp:i_ENodeOffer (GT.dat a0) (GT.dat a1)=some r):Spec Tryz.prog 68 [.agg (GT.cells a0).toArray,.agg (GT.cells a1).toArray].toArray w [] (fun v M=>∃ (x0:T_ENode) (x1:TL T_EMsg) (x2:Bool),v=.tuple #[.agg (GT.cells x0).toArray,(TL.hdr x1),.bool x2]∧(GT.dat x0,GT.dat x1,GT.dat x2)=r∧M=[treeH x0,treeH x1]):=by
 obtain ⟨a0_1,a0_2,a0_3,a0_4⟩:=a0
 obtain ⟨a1_1,a1_2,a1_3,a1_4,a1_5,a1_6,a1_7,a1_8⟩:=a1
 change Spec _ _ ([Value.agg #[.int .i64 a0_1,.int .i64 a0_2,(TL.hdr a0_3),(TL.hdr a0_4)],Value.agg #[.int .i64 a1_1,.int .i64 a1_2,.int .i64 a1_3,.string a1_4,.string a1_5,.string a1_6,.int .i64 a1_7,(TL.hdr a1_8)]]:List Value).toArray w [] _
 refine Spec.intro Tryz.func68 rfl Tryz.ntmps68 rfl ?_
 unfold i_ENodeOffer at hp
 replace hp:=dd hp
 refine s2 ?_
 refine bx fun bk2=>?_
 refine bx fun bk3=>?_
 refine al fun bk4=>?_
 refine L_assign (v:=(TL.hdr (TL.nil T_EMsg 0))) rfl rfl ?_
 refine s6 ?_
 replace hp:=ba hp;obtain ⟨y1,hy1,hp⟩:=hp
 refine L_callX rfl fn63.h rfl (by exact fun w hw=>i_ENodeOk_walk w (a0_1,a0_2,a0_3,a0_4) (RdT.now (RdT.pair RdT.int (RdT.pair RdT.int (RdT.pair (RdT.old h0.2.2.1) (RdT.old h0.2.2.2)))) hw) _ hy1) ?_
 refine s2 ?_
 refine kp [2,3,4,13] ?_
 refine W_cond rfl (fun q2=>?_) (fun q2=>?_)
 ·replace hp:=cond_t q2 hp
  refine s2 ?_
  refine L_build (xs:=[]) (cs:=[.int .i64 0,.int .i64 0,(TL.hdr (TL.nil T_Inst 0)),(TL.hdr (TL.nil T_Lead 0))]) rfl rfl bld44.h rfl ?_
  refine s1 ?_
  refine L_assign (v:=(TL.hdr (TL.nil T_EMsg 0))) rfl rfl ?_
  refine s2 ?_
  obtain rfl:=sj hp
  refine W_conv (M':=treeH (TL.nil T_Inst 0)::_) (fun w h=>addNilT (τ:=T_Inst) 0 h) ?_
  refine W_conv (M':=treeH (TL.nil T_Lead 0)::_) (fun w h=>addNilT (τ:=T_Lead) 0 h) ?_
  refine jW ((0,0,(TL.nil T_Inst 0),(TL.nil T_Lead 0)):T_ENode) ?_
  refine W_conv (M':=treeH (TL.nil T_EMsg 0)::_) (fun w h=>addNilT (τ:=T_EMsg) 0 h) ?_
  refine s1 ?_
  refine res3 rfl (ResOK.cell rfl mm (by exact agg44.h)) (ResOK.tmp rfl) (ResOK.tmp rfl) ⟨(0,0,(TL.nil T_Inst 0),(TL.nil T_Lead 0)),(TL.nil T_EMsg 0),false,rfl,rfl,rfl⟩ ms
 ·replace hp:=cond_f q2 hp
  refine s4 ?_
  replace hp:=ba hp;obtain ⟨y3,hy3,hp⟩:=hp
  refine L_callR rfl fn119.h rfl (by exact fun w hw=>i_copyENode_walk w (a0_1,a0_2,a0_3,a0_4) (RdT.now (RdT.pair RdT.int (RdT.pair RdT.int (RdT.pair (RdT.old h0.2.2.1) (RdT.old h0.2.2.2)))) hw) _ hy3) ?_
  rintro _ _ ⟨⟨y3x0_1,y3x0_2,y3x0_3,y3x0_4⟩,rfl,rfl,rfl⟩
  refine sc ?_
  replace hp:=dd hp
  refine xL ((y3x0_1,y3x0_2,y3x0_3,y3x0_4):T_ENode) ?_
  refine al fun bk7=>?_
  refine s8 ?_
  refine L_build (xs:=[(0,.tmp 18),(1,.tmp 20)]) (cs:=[.int .i64 a0_1,.int .i64 a0_2]) rfl rfl bld35.h rfl ?_
  refine al fun bk8=>?_
  refine s8 ?_
  replace hp:=ba hp;obtain ⟨y4,hy4,hp⟩:=hp
  refine L_callR rfl fn121.h rfl (by exact fun w hw=>i_AttrsOf_walk w a0_3 (a0_1,a0_2) (a1_1,a1_2,a1_3,a1_4,a1_5,a1_6,a1_7,a1_8) (RdT.now (RdT.old h0.2.2.1) hw) (RdT.now (RdT.pair RdT.int RdT.int) hw) (RdT.now (RdT.pair RdT.int (RdT.pair RdT.int (RdT.pair RdT.int (RdT.pair RdT.str (RdT.pair RdT.str (RdT.pair RdT.str (RdT.pair RdT.int (RdT.old h1.2.2.2.2.2.2.2)))))))) hw) _ hy4) ?_
  rintro _ _ ⟨y4x0,y4x1,rfl,rfl,rfl⟩
  refine sc ?_
  replace hp:=dd hp
  refine s8 ?_
  replace hp:=ba hp;obtain ⟨y5,hy5,hp⟩:=hp
  refine W_D0 [52] mix (by kernel_rfl) rfl ?_
  refine s1 ?_
  refine D_callX GC.none fn114.h (OpVs.cons (OpV.t rfl) (OpVs.nil)) (by exact fun hg w F hF hM=>i_CmdOk_walk w (a1_1,a1_2,a1_3,a1_4,a1_5,a1_6,a1_7,a1_8) (RdT.nowS (RdT.pair RdT.int (RdT.pair RdT.int (RdT.pair RdT.int (RdT.pair RdT.str (RdT.pair RdT.str (RdT.pair RdT.str (RdT.pair RdT.int (RdT.old h1.2.2.2.2.2.2.2)))))))) hF hM) _ hy5) ?_
  refine s14 ?_
  refine D_lenP (X:=a0_4) (GC.some rfl rfl) (OpV.s rfl) el42.h ?_
  refine s20 ?_
  refine s11 ?_
  refine kp [2,3,4,7,8,9,10,52] ?_
  refine W_cond rfl (fun q6=>?_) (fun q6=>?_)
  ·replace hp:=cond_t q6 hp
   refine s4 ?_
   refine L_assign (v:=(TL.hdr (TL.nil T_EMsg 0))) rfl rfl ?_
   refine s2 ?_
   obtain rfl:=sj hp
   refine jW ((y3x0_1,y3x0_2,y3x0_3,y3x0_4):T_ENode) ?_
   refine W_conv (M':=treeH (TL.nil T_EMsg 0)::_) (fun w h=>addNilT (τ:=T_EMsg) 0 h) ?_
   refine s1 ?_
   refine res3 rfl (ResOK.cell rfl mm (by exact agg44.h)) (ResOK.tmp rfl) (ResOK.tmp rfl) ⟨(y3x0_1,y3x0_2,y3x0_3,y3x0_4),(TL.nil T_EMsg 0),false,rfl,rfl,rfl⟩ ms
  ·replace hp:=cond_f q6 hp
   refine s19 ?_
   refine L_build (xs:=[(0,.tmp 58),(1,.tmp 60),(2,.tmp 62),(3,.const (.int .i64 1)),(4,.tmp 63),(5,.tmp 64),(6,.tmp 65),(7,.const (.bool true))]) (cs:=[.int .i64 a0_1,.int .i64 a0_2,.int .i64 a0_1,.int .i64 a0_1,.int .i64 1,.int .i64 a1_1,.int .i64 a1_2,.int .i64 a1_3,.string a1_4,.string a1_5,.string a1_6,.int .i64 a1_7,(TL.hdr a1_8),.int .i64 y4x0,(TL.hdr y4x1),.bool true]) rfl rfl bld48.h rfl ?_
   replace hp:=ba hp;obtain ⟨y7,hy7,hp⟩:=hp
   refine L_callM [blk bk7 _ _,treeH y3x0_3] _ rfl fn122.h rfl pc (by exact fun w hw=>i_ENode_put_walk w bk7 (y3x0_1,IntKind.wrap .i64 (y3x0_2+1),y3x0_3,y3x0_4) ((a0_1,a0_2),a0_1,a0_1,1,(a1_1,a1_2,a1_3,a1_4,a1_5,a1_6,a1_7,a1_8),y4x0,y4x1,true) ((RdX.pair (RdX.pair RdX.int RdX.int) (RdX.pair RdX.int (RdX.pair RdX.int (RdX.pair RdX.int (RdX.pair (RdX.pair RdX.int (RdX.pair RdX.int (RdX.pair RdX.int (RdX.pair RdX.str (RdX.pair RdX.str (RdX.pair RdX.str (RdX.pair RdX.int (RdX.old h1.2.2.2.2.2.2.2)))))))) (RdX.pair RdX.int (RdX.pair (RdX.tree mm) RdX.bool))))))) w hw) ((RdX.tree mm) w hw) _ hy7) ?_
   rintro _ _ ⟨y7x0,⟨y7y0_1,y7y0_2,y7y0_3,y7y0_4⟩,rfl,rfl,rfl,hey7_0⟩
   obtain rfl:y3x0_4=y7y0_4:=hey7_0.symm
   refine sc ?_
   replace hp:=dd hp
   refine s2 ?_
   replace hp:=ba hp;obtain ⟨y8,hy8,hp⟩:=hp
   refine W_DS (pre:=[_,_,_,_,_,_,_,_,_,_]) (suf:=[_,_,_]) [69,77] [] _ pc mix (by kernel_rfl) (by kernel_rfl) rfl ?_
   refine s7 ?_
   refine D_call1R (fun v M=>∃ (x0:TL T_Id),v=(TL.hdr x0)∧GT.dat x0=y8∧M=[treeH x0]) fn123.h (OpVs.cons (OpV.t rfl) (OpVs.nil)) (by exact fun w F hF hM=>i_copyIds_walk w y4x1 (RdT.nowS (RdT.tree mm) hF hM) _ hy8) ?_
   refine D_buildO (τ:=T_Id) (t:=75) (xs:=[(0,.tmp 70),(1,.tmp 72),(2,.const (.int .i64 1)),(3,.tmp 73),(4,.tmp 75),(6,.const (.bool true))]) (ps:=fun u=>[(0,.agg #[.int .i64 a0_1,.int .i64 a0_2]),(1,.int .i64 a0_1),(2,.int .i64 1),(3,.int .i64 y4x0),(4,u),(6,.bool true)]) (cs:=fun u=>[.int .i64 a0_1,.int .i64 a0_2,.int .i64 a0_1,.int .i64 1,.int .i64 y4x0,u,(TL.hdr (TL.nil Int 0)),.bool true]) rfl (fun u=>(OpVp.cons (OpV.t rfl) (OpVp.cons (OpV.t rfl) (OpVp.cons OpV.c (OpVp.cons (OpV.t rfl) (OpVp.cons (OpV.t rfl) (OpVp.cons OpV.c (OpVp.nil)))))))) bld141.h (fun X=>rfl) (by kernel_rfl) ?_
   refine D_bs1O (t:=76) rfl el42.h rfl (by decide) (by decide) (fun X=>rfl) (by kernel_rfl) ?_
   refine s1 ?_
   refine Give_R rfl rfl ?_
   rintro _ _ ⟨X9,bb77,rfl,rfl,rfl⟩
   simp only [List.cons_append,List.nil_append]
   refine s10 ?_
   replace hp:=ba hp;obtain ⟨y11,hy11,hp⟩:=hp
   refine L_conv (M':=treeH (TL.nil Int 0)::_) (fun w h=>addNilT (τ:=Int) 0 h) ?_
   refine jL (((a0_1,a0_2),a0_1,1,y4x0,X9,(TL.nil Int 0),true):T_Lead) ?_
   refine L_app1m (X:=y3x0_4) (((a0_1,a0_2),a0_1,1,y4x0,X9,(TL.nil Int 0),true):T_Lead) rfl rfl rfl el42.h rfl rfl pk mm pk hy11 (by decide) (fun X10 hdX10 hmX10=>?_)
   subst hdX10
   refine s4 ?_
   replace hp:=ba hp;obtain ⟨y12,hy12,hp⟩:=hp
   refine W_DS (pre:=[_,_,_,_,_,_,_,_,_]) (suf:=[_,_,_]) [80,88] [] _ pc mix (by kernel_rfl) (by kernel_rfl) rfl ?_
   refine s7 ?_
   refine D_build (xs:=[(0,.const (.int .i64 1)),(3,.tmp 81),(4,.tmp 83),(5,.tmp 84),(6,.tmp 85),(7,.tmp 86),(9,.const (.int .i64 (-1)))]) (ps:=[(0,.int .i64 1),(3,.agg #[.int .i64 a0_1,.int .i64 a0_2]),(4,.int .i64 a0_1),(5,.agg #[.int .i64 a1_1,.int .i64 a1_2,.int .i64 a1_3,.string a1_4,.string a1_5,.string a1_6,.int .i64 a1_7,(TL.hdr a1_8)]),(6,.int .i64 y4x0),(7,(TL.hdr y4x1)),(9,.int .i64 (-1))]) (cs:=[.int .i64 1,.int .i64 0,.int .i64 0,.int .i64 a0_1,.int .i64 a0_2,.int .i64 a0_1,.int .i64 a1_1,.int .i64 a1_2,.int .i64 a1_3,.string a1_4,.string a1_5,.string a1_6,.int .i64 a1_7,(TL.hdr a1_8),.int .i64 y4x0,(TL.hdr y4x1),.int .i64 0,.int .i64 (-1),.bool false]) (OpVp.cons OpV.c (OpVp.cons (OpV.t rfl) (OpVp.cons (OpV.t rfl) (OpVp.cons (OpV.t rfl) (OpVp.cons (OpV.t rfl) (OpVp.cons (OpV.t rfl) (OpVp.cons OpV.c (OpVp.nil)))))))) bld103.h rfl ?_
   refine D_call1R (fun v M=>∃ (x0:TL T_EMsg),v=(TL.hdr x0)∧GT.dat x0=y12∧M=[treeH x0]) fn124.h (OpVs.cons (OpV.t rfl) (OpVs.cons (OpV.t rfl) (OpVs.nil))) (by exact fun w F hF hM=>i_ENode_sent_walk w bk7 (y7y0_1,y7y0_2,y7y0_3,X10) (1,0,0,(a0_1,a0_2),a0_1,(a1_1,a1_2,a1_3,a1_4,a1_5,a1_6,a1_7,a1_8),y4x0,y4x1,0,(-1),false) (cells_of_blk (hM _ mm) hF.sees) (RdT.nowS (RdT.pair RdT.int (RdT.pair RdT.int (RdT.pair (RdT.tree mm) (RdT.tree mm)))) hF hM) (RdT.nowS (RdT.pair RdT.int (RdT.pair RdT.int (RdT.pair RdT.int (RdT.pair (RdT.pair RdT.int RdT.int) (RdT.pair RdT.int (RdT.pair (RdT.pair RdT.int (RdT.pair RdT.int (RdT.pair RdT.int (RdT.pair RdT.str (RdT.pair RdT.str (RdT.pair RdT.str (RdT.pair RdT.int (RdT.old h1.2.2.2.2.2.2.2)))))))) (RdT.pair RdT.int (RdT.pair (RdT.tree mm) (RdT.pair RdT.int (RdT.pair RdT.int RdT.bool)))))))))) hF hM) _ hy12) ?_
   refine s1 ?_
   refine Give_R rfl rfl ?_
   rintro _ _ ⟨y12x0,rfl,rfl,rfl⟩
   refine s9 ?_
   refine sc ?_
   replace hp:=dd hp
   refine s4 ?_
   obtain rfl:=sj hp
   refine jW ((y7y0_1,y7y0_2,y7y0_3,X10):T_ENode) ?_
   refine s1 ?_
   refine res3 rfl (ResOK.cell rfl mm (by exact agg44.h)) (ResOK.tmp rfl) (ResOK.tmp rfl) ⟨(y7y0_1,y7y0_2,y7y0_3,X10),y12x0,true,rfl,rfl,rfl⟩ ms
noncomputable def i_ENodeSlow (a0:D_ENode) (a1:D_Id):Option (D_ENode×(List D_EMsg)×Bool) :=
 Option.bind (i_ENodeOk (a0.1,a0.2.1,a0.2.2.1,a0.2.2.2)) (fun y1=>cond (!y1) (some ((0,0,([]:List D_Inst),([]:List D_Lead)),([]:List D_EMsg),false)) (Option.bind (i_copyENode (a0.1,a0.2.1,a0.2.2.1,a0.2.2.2)) (fun y3=>Option.bind (i_ENode_lead (a0.1,a0.2.1,a0.2.2.1,a0.2.2.2) (a1.1,a1.2)) (fun y4=>gb (!(decide (y4 < 0))) (idx a0.2.2.2 y4) (fun y5=>gb (!((decide (y4 < 0))||(!decide (y5.2.2.1=1)))) (idx a0.2.2.2 y4) (fun y6=>cond (((decide (y4 < 0))||(!decide (y5.2.2.1=1)))||(decide ((y6.2.2.2.2.2.1.length:Int)=0))) (some ((y3.1,y3.2.1,y3.2.2.1,y3.2.2.2),([]:List D_EMsg),false)) (Option.bind (i_ENode_settle (y3.1,y3.2.1,y3.2.2.1,y3.2.2.2) y4 2) (fun y8=>some ((y8.2.1,y8.2.2.1,y8.2.2.2.1,y8.2.2.2.2),y8.1,true)))))))))
theorem i_ENodeSlow_walk (w:World) (a0:T_ENode) (a1:T_Id) (h0:GT.rd w [] a0) (h1:GT.rd w [] a1) (r:D_ENode×(List D_EMsg)×Bool) (hp:i_ENodeSlow (GT.dat a0) (GT.dat a1)=some r):Spec Tryz.prog 70 [.agg (GT.cells a0).toArray,.agg (GT.cells a1).toArray].toArray w [] (fun v M=>∃ (x0:T_ENode) (x1:TL T_EMsg) (x2:Bool),v=.tuple #[.agg (GT.cells x0).toArray,(TL.hdr x1),.bool x2]∧(GT.dat x0,GT.dat x1,GT.dat x2)=r∧M=[treeH x0,treeH x1]):=by
 obtain ⟨a0_1,a0_2,a0_3,a0_4⟩:=a0
 obtain ⟨a1_1,a1_2⟩:=a1
 change Spec _ _ ([Value.agg #[.int .i64 a0_1,.int .i64 a0_2,(TL.hdr a0_3),(TL.hdr a0_4)],Value.agg #[.int .i64 a1_1,.int .i64 a1_2]]:List Value).toArray w [] _
 refine Spec.intro Tryz.func70 rfl Tryz.ntmps70 rfl ?_
 unfold i_ENodeSlow at hp
 replace hp:=dd hp
 refine s2 ?_
 refine bx fun bk2=>?_
 refine bx fun bk3=>?_
 refine al fun bk4=>?_
 refine L_assign (v:=(TL.hdr (TL.nil T_EMsg 0))) rfl rfl ?_
 refine s6 ?_
 replace hp:=ba hp;obtain ⟨y1,hy1,hp⟩:=hp
 refine L_callX rfl fn63.h rfl (by exact fun w hw=>i_ENodeOk_walk w (a0_1,a0_2,a0_3,a0_4) (RdT.now (RdT.pair RdT.int (RdT.pair RdT.int (RdT.pair (RdT.old h0.2.2.1) (RdT.old h0.2.2.2)))) hw) _ hy1) ?_
 refine s2 ?_
 refine kp [2,3,4,12] ?_
 refine W_cond rfl (fun q2=>?_) (fun q2=>?_)
 ·replace hp:=cond_t q2 hp
  refine s2 ?_
  refine L_build (xs:=[]) (cs:=[.int .i64 0,.int .i64 0,(TL.hdr (TL.nil T_Inst 0)),(TL.hdr (TL.nil T_Lead 0))]) rfl rfl bld44.h rfl ?_
  refine s1 ?_
  refine L_assign (v:=(TL.hdr (TL.nil T_EMsg 0))) rfl rfl ?_
  refine s2 ?_
  obtain rfl:=sj hp
  refine W_conv (M':=treeH (TL.nil T_Inst 0)::_) (fun w h=>addNilT (τ:=T_Inst) 0 h) ?_
  refine W_conv (M':=treeH (TL.nil T_Lead 0)::_) (fun w h=>addNilT (τ:=T_Lead) 0 h) ?_
  refine jW ((0,0,(TL.nil T_Inst 0),(TL.nil T_Lead 0)):T_ENode) ?_
  refine W_conv (M':=treeH (TL.nil T_EMsg 0)::_) (fun w h=>addNilT (τ:=T_EMsg) 0 h) ?_
  refine s1 ?_
  refine res3 rfl (ResOK.cell rfl mm (by exact agg44.h)) (ResOK.tmp rfl) (ResOK.tmp rfl) ⟨(0,0,(TL.nil T_Inst 0),(TL.nil T_Lead 0)),(TL.nil T_EMsg 0),false,rfl,rfl,rfl⟩ ms
 ·replace hp:=cond_f q2 hp
  refine s4 ?_
  replace hp:=ba hp;obtain ⟨y3,hy3,hp⟩:=hp
  refine L_callR rfl fn119.h rfl (by exact fun w hw=>i_copyENode_walk w (a0_1,a0_2,a0_3,a0_4) (RdT.now (RdT.pair RdT.int (RdT.pair RdT.int (RdT.pair (RdT.old h0.2.2.1) (RdT.old h0.2.2.2)))) hw) _ hy3) ?_
  rintro _ _ ⟨⟨y3x0_1,y3x0_2,y3x0_3,y3x0_4⟩,rfl,rfl,rfl⟩
  refine sc ?_
  replace hp:=dd hp
  refine xL ((y3x0_1,y3x0_2,y3x0_3,y3x0_4):T_ENode) ?_
  refine al fun bk7=>?_
  refine s5 ?_
  replace hp:=ba hp;obtain ⟨y4,hy4,hp⟩:=hp
  refine L_callX rfl fn112.h rfl (by exact fun w hw=>i_ENode_lead_walk w bk2 (a0_1,a0_2,a0_3,a0_4) (a1_1,a1_2) (cells_of_blk mm hw.sees) (RdT.now (RdT.pair RdT.int (RdT.pair RdT.int (RdT.pair (RdT.old h0.2.2.1) (RdT.old h0.2.2.2)))) hw) (RdT.now (RdT.pair RdT.int RdT.int) hw) _ hy4) ?_
  refine s4 ?_
  replace hp:=idx_gb hp;obtain ⟨⟨⟨u5_1,u5_2⟩,u5_3,u5_4,u5_5,u5_6,u5_7,u5_8⟩,hy5,hp⟩:=hp
  replace hp:=idx_gb hp;obtain ⟨⟨⟨u6_1,u6_2⟩,u6_3,u6_4,u6_5,u6_6,u6_7,u6_8⟩,hy6,hp⟩:=hp
  refine W_D0 [38] mix (by kernel_rfl) rfl ?_
  refine s6 ?_
  refine D_idxA (X:=a0_4) (GC.some rfl rfl) (OpV.s rfl) (OpV.s rfl) el42.h (RdT.old h0.2.2.2) (fun hg=>hy5 (gnot hg.2)) ?_
  refine s1 ?_
  refine D_load (GC.some rfl rfl) (OpV.s rfl) (fun hg=>RdT.at (RdT.old h0.2.2.2) (hy5 (gnot hg.2)).2) one3.h rfl ?_
  refine s6 ?_
  refine D_idxA (X:=a0_4) (GC.some rfl rfl) (OpV.s rfl) (OpV.s rfl) el42.h (RdT.old h0.2.2.2) (fun hg=>hy6 (gnot hg.2)) ?_
  refine s1 ?_
  refine D_load (GC.some rfl rfl) (OpV.s rfl) (fun hg=>RdT.at (RdT.old h0.2.2.2) (hy6 (gnot hg.2)).2) one78.h rfl ?_
  refine D_lenP (X:=u6_7) (GC.some rfl rfl) (OpV.s rfl) el78.h ?_
  refine s20 ?_
  refine s5 ?_
  refine kp [4,7,8,38] ?_
  refine W_cond rfl (fun q7=>?_) (fun q7=>?_)
  ·replace hp:=cond_t q7 hp
   refine s4 ?_
   refine L_assign (v:=(TL.hdr (TL.nil T_EMsg 0))) rfl rfl ?_
   refine s2 ?_
   obtain rfl:=sj hp
   refine jW ((y3x0_1,y3x0_2,y3x0_3,y3x0_4):T_ENode) ?_
   refine W_conv (M':=treeH (TL.nil T_EMsg 0)::_) (fun w h=>addNilT (τ:=T_EMsg) 0 h) ?_
   refine s1 ?_
   refine res3 rfl (ResOK.cell rfl mm (by exact agg44.h)) (ResOK.tmp rfl) (ResOK.tmp rfl) ⟨(y3x0_1,y3x0_2,y3x0_3,y3x0_4),(TL.nil T_EMsg 0),false,rfl,rfl,rfl⟩ ms
  ·replace hp:=cond_f q7 hp
   refine s4 ?_
   replace hp:=ba hp;obtain ⟨y8,hy8,hp⟩:=hp
   refine L_callM [blk bk7 _ _,treeH y3x0_3,treeH y3x0_4] _ rfl fn126.h rfl pc (by exact fun w hw=>i_ENode_settle_walk w bk7 (y3x0_1,y3x0_2,y3x0_3,y3x0_4) y4 2  _ hy8) ?_
   rintro _ _ ⟨y8x0,⟨y8y0_1,y8y0_2,y8y0_3,y8y0_4⟩,rfl,rfl,rfl⟩
   refine sc ?_
   replace hp:=dd hp
   refine s10 ?_
   obtain rfl:=sj hp
   refine jW ((y8y0_1,y8y0_2,y8y0_3,y8y0_4):T_ENode) ?_
   refine s1 ?_
   refine res3 rfl (ResOK.cell rfl mm (by exact agg44.h)) (ResOK.tmp rfl) (ResOK.tmp rfl) ⟨(y8y0_1,y8y0_2,y8y0_3,y8y0_4),y8x0,true,rfl,rfl,rfl⟩ ms
noncomputable def i_ENodeRecover (a0:D_ENode) (a1:D_Id):Option (D_ENode×(List D_EMsg)×Bool) :=
 Option.bind (i_ENodeOk (a0.1,a0.2.1,a0.2.2.1,a0.2.2.2)) (fun y1=>cond (!y1) (some ((0,0,([]:List D_Inst),([]:List D_Lead)),([]:List D_EMsg),false)) (Option.bind (i_copyENode (a0.1,a0.2.1,a0.2.2.1,a0.2.2.2)) (fun y3=>Option.bind (i_InstAt a0.2.2.1 (a1.1,a1.2)) (fun y4=>whileP (fun s5:Int=>cond (!decide ((s5).tmod 3=a0.1)) (some (.inl (IntKind.wrap .i64 (s5+1)))) (Option.map .inr (Option.bind (i_ENode_lead (a0.1,a0.2.1,a0.2.2.1,a0.2.2.2) (a1.1,a1.2)) (fun y8=>Option.bind (i_idOk (a1.1,a1.2)) (fun y9=>gb (!((!y9)||(decide (y4.2.2.2.1=3)))) (i_ENode_unknown (a0.1,a0.2.1,a0.2.2.1,a0.2.2.2) (a1.1,a1.2)) (fun y10=>cond (((((!y9)||(decide (y4.2.2.2.1=3)))||y10)||(decide (600 < s5)))||((decide (y8 < 0))&&(decide ((a0.2.2.2.length:Int)=8)))) (some ((y3.1,y3.2.1,y3.2.2.1,y3.2.2.2),([]:List D_EMsg),false)) (Option.bind (i_ENode_put (y3.1,y3.2.1,y3.2.2.1,y3.2.2.2) ((y4.1.1,y4.1.2),s5,y4.2.2.1,y4.2.2.2.1,(y4.2.2.2.2.1.1,y4.2.2.2.2.1.2.1,y4.2.2.2.2.1.2.2.1,y4.2.2.2.2.1.2.2.2.1,y4.2.2.2.2.1.2.2.2.2.1,y4.2.2.2.2.1.2.2.2.2.2.1,y4.2.2.2.2.1.2.2.2.2.2.2.1,y4.2.2.2.2.1.2.2.2.2.2.2.2),y4.2.2.2.2.2.1,y4.2.2.2.2.2.2.1,y4.2.2.2.2.2.2.2)) (fun y12=>cond (decide (0≤y8)) (Option.bind (idx y12.2.2.2.2 y8) (fun y14=>Option.bind (some (y12.2.2.2.2.set (y8.toNat) ((a1.1,a1.2),s5,3,0,([]:List D_Id),([]:List Int),false))) (fun y15=>Option.bind (i_ENode_sent (y12.2.1,y12.2.2.1,y12.2.2.2.1,y15) (6,0,0,(a1.1,a1.2),s5,(0,0,0,ByteArray.empty,ByteArray.empty,ByteArray.empty,0,([]:List ByteArray)),0,([]:List D_Id),0,(-1),false)) (fun y17=>some ((y12.2.1,y12.2.2.1,y12.2.2.2.1,y15),y17,true))))) (Option.bind (appP y12.2.2.2.2 [((a1.1,a1.2),s5,3,0,([]:List D_Id),([]:List Int),false)]) (fun y19=>Option.bind (i_ENode_sent (y12.2.1,y12.2.2.1,y12.2.2.2.1,y19) (6,0,0,(a1.1,a1.2),s5,(0,0,0,ByteArray.empty,ByteArray.empty,ByteArray.empty,0,([]:List ByteArray)),0,([]:List D_Id),0,(-1),false)) (fun y20=>some ((y12.2.1,y12.2.2.1,y12.2.2.2.1,y19),y20,true)))))))))))) (IntKind.wrap .i64 ((if 2 > y4.2.1 then 2 else y4.2.1)+1))))))
theorem i_ENodeRecover_walk (w:World) (a0:T_ENode) (a1:T_Id) (h0:GT.rd w [] a0) (h1:GT.rd w [] a1) (r:D_ENode×(List D_EMsg)×Bool) (hp:i_ENodeRecover (GT.dat a0) (GT.dat a1)=some r):Spec Tryz.prog 71 [.agg (GT.cells a0).toArray,.agg (GT.cells a1).toArray].toArray w [] (fun v M=>∃ (x0:T_ENode) (x1:TL T_EMsg) (x2:Bool),v=.tuple #[.agg (GT.cells x0).toArray,(TL.hdr x1),.bool x2]∧(GT.dat x0,GT.dat x1,GT.dat x2)=r∧M=[treeH x0,treeH x1]):=by
 obtain ⟨a0_1,a0_2,a0_3,a0_4⟩:=a0
 obtain ⟨a1_1,a1_2⟩:=a1
 change Spec _ _ ([Value.agg #[.int .i64 a0_1,.int .i64 a0_2,(TL.hdr a0_3),(TL.hdr a0_4)],Value.agg #[.int .i64 a1_1,.int .i64 a1_2]]:List Value).toArray w [] _
 refine Spec.intro Tryz.func71 rfl Tryz.ntmps71 rfl ?_
 unfold i_ENodeRecover at hp
 replace hp:=dd hp
 refine s2 ?_
 refine bx fun bk2=>?_
 refine bx fun bk3=>?_
 refine al fun bk4=>?_
 refine L_assign (v:=(TL.hdr (TL.nil T_EMsg 0))) rfl rfl ?_
 refine s6 ?_
 replace hp:=ba hp;obtain ⟨y1,hy1,hp⟩:=hp
 refine L_callX rfl fn63.h rfl (by exact fun w hw=>i_ENodeOk_walk w (a0_1,a0_2,a0_3,a0_4) (RdT.now (RdT.pair RdT.int (RdT.pair RdT.int (RdT.pair (RdT.old h0.2.2.1) (RdT.old h0.2.2.2)))) hw) _ hy1) ?_
 refine s2 ?_
 refine kp [2,3,4,14] ?_
 refine W_cond rfl (fun q2=>?_) (fun q2=>?_)
 ·replace hp:=cond_t q2 hp
  refine s2 ?_
  refine L_build (xs:=[]) (cs:=[.int .i64 0,.int .i64 0,(TL.hdr (TL.nil T_Inst 0)),(TL.hdr (TL.nil T_Lead 0))]) rfl rfl bld44.h rfl ?_
  refine s1 ?_
  refine L_assign (v:=(TL.hdr (TL.nil T_EMsg 0))) rfl rfl ?_
  refine s2 ?_
  obtain rfl:=sj hp
  refine W_conv (M':=treeH (TL.nil T_Inst 0)::_) (fun w h=>addNilT (τ:=T_Inst) 0 h) ?_
  refine W_conv (M':=treeH (TL.nil T_Lead 0)::_) (fun w h=>addNilT (τ:=T_Lead) 0 h) ?_
  refine jW ((0,0,(TL.nil T_Inst 0),(TL.nil T_Lead 0)):T_ENode) ?_
  refine W_conv (M':=treeH (TL.nil T_EMsg 0)::_) (fun w h=>addNilT (τ:=T_EMsg) 0 h) ?_
  refine s1 ?_
  refine res3 rfl (ResOK.cell rfl mm (by exact agg44.h)) (ResOK.tmp rfl) (ResOK.tmp rfl) ⟨(0,0,(TL.nil T_Inst 0),(TL.nil T_Lead 0)),(TL.nil T_EMsg 0),false,rfl,rfl,rfl⟩ ms
 ·replace hp:=cond_f q2 hp
  refine s4 ?_
  replace hp:=ba hp;obtain ⟨y3,hy3,hp⟩:=hp
  refine L_callR rfl fn119.h rfl (by exact fun w hw=>i_copyENode_walk w (a0_1,a0_2,a0_3,a0_4) (RdT.now (RdT.pair RdT.int (RdT.pair RdT.int (RdT.pair (RdT.old h0.2.2.1) (RdT.old h0.2.2.2)))) hw) _ hy3) ?_
  rintro _ _ ⟨⟨y3x0_1,y3x0_2,y3x0_3,y3x0_4⟩,rfl,rfl,rfl⟩
  refine sc ?_
  replace hp:=dd hp
  refine xL ((y3x0_1,y3x0_2,y3x0_3,y3x0_4):T_ENode) ?_
  refine al fun bk7=>?_
  refine s7 ?_
  replace hp:=ba hp;obtain ⟨y4,hy4,hp⟩:=hp
  refine L_callR rfl fn41.h rfl (by exact fun w hw=>i_InstAt_walk w a0_3 (a1_1,a1_2) (RdT.now (RdT.old h0.2.2.1) hw) (RdT.now (RdT.pair RdT.int RdT.int) hw) _ hy4) ?_
  rintro _ _ ⟨⟨⟨y4x0_1,y4x0_2⟩,y4x0_3,y4x0_4,y4x0_5,⟨y4x0_6,y4x0_7,y4x0_8,y4x0_9,y4x0_10,y4x0_11,y4x0_12,y4x0_13⟩,y4x0_14,y4x0_15,y4x0_16⟩,rfl,rfl,rfl⟩
  refine sc ?_
  replace hp:=dd hp
  refine xL (((y4x0_1,y4x0_2),y4x0_3,y4x0_4,y4x0_5,(y4x0_6,y4x0_7,y4x0_8,y4x0_9,y4x0_10,y4x0_11,y4x0_12,y4x0_13),y4x0_14,y4x0_15,y4x0_16):T_Inst) ?_
  refine al fun bk8=>?_
  refine s6 ?_
  refine L_max rfl rfl rfl ?_
  refine s5 ?_
  refine W_while (σ:=Int) GT.dat (fun (v5_0:Int)=>[(9,.int .i64 v5_0)]) (fun (v5_0:Int)=>[]) [(2,_),(3,_),(4,_),(7,_),(8,_)] [blk bk2 _ _,blk bk3 _ _,blk bk4 _ _,blk bk7 _ _,blk bk8 _ _,treeH y3x0_3,treeH y3x0_4,treeH y4x0_13,treeH y4x0_15] (IntKind.wrap .i64 ((if 2 > y4x0_3 then 2 else y4x0_3)+1)) hp sb ms ?_
  clear hp
  rintro v5_0 x5 hp hx5
  replace hp:=dd hp
  refine kq [2,3,4,7,8,9] ?_
  refine s9 ?_
  refine kp [2,3,4,7,8,9,30] ?_
  refine W_cond rfl (fun q6=>?_) (fun q6=>?_)
  ·replace hp:=cond_t q6 hp
   refine s7 ?_
   exact ⟨IntKind.wrap .i64 (v5_0+1),sb,(.sub ms),some_eq hp⟩
  ·replace hp:=cond_f q6 hp
   refine W_exit ?_
   replace hp:=map_any hp;obtain ⟨a7,hp,z_7⟩:=hp
   obtain rfl:=hx5 _ z_7
   refine s3 ?_
   replace hp:=ba hp;obtain ⟨y8,hy8,hp⟩:=hp
   refine L_callX rfl fn112.h rfl (by exact fun w hw=>i_ENode_lead_walk w bk2 (a0_1,a0_2,a0_3,a0_4) (a1_1,a1_2) (cells_of_blk mm hw.sees) (RdT.now (RdT.pair RdT.int (RdT.pair RdT.int (RdT.pair (RdT.old h0.2.2.1) (RdT.old h0.2.2.2)))) hw) (RdT.now (RdT.pair RdT.int RdT.int) hw) _ hy8) ?_
   refine s4 ?_
   replace hp:=ba hp;obtain ⟨y9,hy9,hp⟩:=hp
   replace hp:=gb_any hp;obtain ⟨y10,hy10,hp⟩:=hp
   refine W_D0 [60] mix (by kernel_rfl) rfl ?_
   refine s1 ?_
   refine D_callX GC.none fn113.h (OpVs.cons (OpV.t rfl) (OpVs.nil)) (by exact fun hg w F hF hM=>i_idOk_walk w (a1_1,a1_2) (RdT.nowS (RdT.pair RdT.int RdT.int) hF hM) _ hy9) ?_
   refine s8 ?_
   refine D_callX (GC.some rfl rfl) fn110.h (OpVs.cons (OpV.t rfl) (OpVs.cons (OpV.s rfl) (OpVs.nil))) (by exact fun hg w F hF hM=>i_ENode_unknown_walk w bk2 (a0_1,a0_2,a0_3,a0_4) (a1_1,a1_2) (cells_of_blk (hM _ mm) hF.sees) (RdT.nowS (RdT.pair RdT.int (RdT.pair RdT.int (RdT.pair (RdT.old h0.2.2.1) (RdT.old h0.2.2.2)))) hF hM) (RdT.nowS (RdT.pair RdT.int RdT.int) hF hM) _ (hy10 (gnot hg.2))) ?_
   refine s11 ?_
   refine D_lenP (X:=a0_4) (GC.some rfl rfl) (OpV.s rfl) el42.h ?_
   refine s20 ?_
   refine s11 ?_
   refine kp [3,4,7,8,9,10,60] ?_
   refine W_cond rfl (fun q11=>?_) (fun q11=>?_)
   ·replace hp:=cond_t q11 hp
    refine s4 ?_
    refine L_assign (v:=(TL.hdr (TL.nil T_EMsg 0))) rfl rfl ?_
    refine s2 ?_
    obtain rfl:=sj hp
    refine jW ((y3x0_1,y3x0_2,y3x0_3,y3x0_4):T_ENode) ?_
    refine W_conv (M':=treeH (TL.nil T_EMsg 0)::_) (fun w h=>addNilT (τ:=T_EMsg) 0 h) ?_
    refine s1 ?_
    refine res3 rfl (ResOK.cell rfl mm (by exact agg44.h)) (ResOK.tmp rfl) (ResOK.tmp rfl) ⟨(y3x0_1,y3x0_2,y3x0_3,y3x0_4),(TL.nil T_EMsg 0),false,rfl,rfl,rfl⟩ ms
   ·replace hp:=cond_f q11 hp
    refine s10 ?_
    replace hp:=ba hp;obtain ⟨y12,hy12,hp⟩:=hp
    refine L_callM [blk bk7 _ _,treeH y3x0_3] _ rfl fn122.h rfl pc (by exact fun w hw=>i_ENode_put_walk w bk7 (y3x0_1,y3x0_2,y3x0_3,y3x0_4) ((y4x0_1,y4x0_2),v5_0,y4x0_4,y4x0_5,(y4x0_6,y4x0_7,y4x0_8,y4x0_9,y4x0_10,y4x0_11,y4x0_12,y4x0_13),y4x0_14,y4x0_15,y4x0_16) ((RdX.pair (RdX.pair RdX.int RdX.int) (RdX.pair RdX.int (RdX.pair RdX.int (RdX.pair RdX.int (RdX.pair (RdX.pair RdX.int (RdX.pair RdX.int (RdX.pair RdX.int (RdX.pair RdX.str (RdX.pair RdX.str (RdX.pair RdX.str (RdX.pair RdX.int (RdX.tree mm)))))))) (RdX.pair RdX.int (RdX.pair (RdX.tree mm) RdX.bool))))))) w hw) ((RdX.tree mm) w hw) _ hy12) ?_
    rintro _ _ ⟨y12x0,⟨y12y0_1,y12y0_2,y12y0_3,y12y0_4⟩,rfl,rfl,rfl,hey12_0⟩
    obtain rfl:y3x0_4=y12y0_4:=hey12_0.symm
    refine sc ?_
    replace hp:=dd hp
    refine s5 ?_
    refine L_build (xs:=[(0,.tmp 66),(1,.tmp 67),(2,.const (.int .i64 3))]) (cs:=[.int .i64 a1_1,.int .i64 a1_2,.int .i64 v5_0,.int .i64 3,.int .i64 0,(TL.hdr (TL.nil T_Id 0)),(TL.hdr (TL.nil Int 0)),.bool false]) rfl rfl bld141.h rfl ?_
    refine al fun bk11=>?_
    refine s8 ?_
    refine kp [3,4,7,9,10,11,70] ?_
    refine W_cond rfl (fun q13=>?_) (fun q13=>?_)
    ·replace hp:=cond_t q13 hp
     refine s5 ?_
     replace hp:=idx_bind hp;obtain ⟨⟨⟨u14_1,u14_2⟩,u14_3,u14_4,u14_5,u14_6,u14_7,u14_8⟩,hy14,hp⟩:=hp
     refine L_idxA (X:=y3x0_4) rfl rfl rfl el42.h (RdT.tree mm) hy14 ?_
     refine L_conv (M':=treeH ((u14_1,u14_2),u14_3,u14_4,u14_5,u14_6,u14_7,u14_8)::holeH y3x0_4 (y8.toNat) (GT.cells ((u14_1,u14_2),u14_3,u14_4,u14_5,u14_6,u14_7,u14_8))::_) (fun w h=>hole_open hy14.2 pk h) ?_
     refine xL (((u14_1,u14_2),u14_3,u14_4,u14_5,u14_6,u14_7,u14_8):T_Lead) ?_
     refine L_stH (X:=y3x0_4) (i:=y8.toNat) (sz:=8) (fo:=0) (n:=8) rfl rfl pk rfl (.inl agg141.h) rfl (allOne rfl) (Nat.le_of_ble_eq_true rfl) ?_
     refine L_conv (M':=treeH (TL.nil T_Id 0)::_) (fun w h=>addNilT (τ:=T_Id) 0 h) ?_
     refine L_conv (M':=treeH (TL.nil Int 0)::_) (fun w h=>addNilT (τ:=Int) 0 h) ?_
     refine jL (((a1_1,a1_2),v5_0,3,0,(TL.nil T_Id 0),(TL.nil Int 0),false):T_Lead) ?_
     replace hp:=ba hp;obtain ⟨y15,hy15,hp⟩:=hp
     refine L_close (X:=y3x0_4) (((a1_1,a1_2),v5_0,3,0,(TL.nil T_Id 0),(TL.nil Int 0),false):T_Lead) rfl pk pk hy15 (fun X16 hdX16 hhX16=>?_)
     subst hdX16
     try rw [← hhX16]
     try rw [← g_of_hdr hhX16]
     try rw [← o_of_hdr hhX16]
     refine s2 ?_
     replace hp:=ba hp;obtain ⟨y17,hy17,hp⟩:=hp
     refine W_DS (pre:=[_,_,_,_,_]) (suf:=[_,_,_]) [82,86] [] _ pc mix (by kernel_rfl) (by kernel_rfl) rfl ?_
     refine s3 ?_
     refine D_build (xs:=[(0,.const (.int .i64 6)),(3,.tmp 83),(4,.tmp 84),(9,.const (.int .i64 (-1)))]) (ps:=[(0,.int .i64 6),(3,.agg #[.int .i64 a1_1,.int .i64 a1_2]),(4,.int .i64 v5_0),(9,.int .i64 (-1))]) (cs:=[.int .i64 6,.int .i64 0,.int .i64 0,.int .i64 a1_1,.int .i64 a1_2,.int .i64 v5_0,.int .i64 0,.int .i64 0,.int .i64 0,.string ByteArray.empty,.string ByteArray.empty,.string ByteArray.empty,.int .i64 0,(TL.hdr (TL.nil ByteArray 0)),.int .i64 0,(TL.hdr (TL.nil T_Id 0)),.int .i64 0,.int .i64 (-1),.bool false]) (OpVp.cons OpV.c (OpVp.cons (OpV.t rfl) (OpVp.cons (OpV.t rfl) (OpVp.cons OpV.c (OpVp.nil))))) bld103.h rfl ?_
     refine D_call1R (fun v M=>∃ (x0:TL T_EMsg),v=(TL.hdr x0)∧GT.dat x0=y17∧M=[treeH x0]) fn124.h (OpVs.cons (OpV.t rfl) (OpVs.cons (OpV.t rfl) (OpVs.nil))) (by exact fun w F hF hM=>i_ENode_sent_walk w bk7 (y12y0_1,y12y0_2,y12y0_3,X16) (6,0,0,(a1_1,a1_2),v5_0,(0,0,0,ByteArray.empty,ByteArray.empty,ByteArray.empty,0,(TL.nil ByteArray 0)),0,(TL.nil T_Id 0),0,(-1),false) (cells_of_blk (hM _ mm) hF.sees) (RdT.nowS (RdT.pair RdT.int (RdT.pair RdT.int (RdT.pair (RdT.tree mm) (RdT.tree mm)))) hF hM) (RdT.nowS (RdT.pair RdT.int (RdT.pair RdT.int (RdT.pair RdT.int (RdT.pair (RdT.pair RdT.int RdT.int) (RdT.pair RdT.int (RdT.pair (RdT.pair RdT.int (RdT.pair RdT.int (RdT.pair RdT.int (RdT.pair RdT.str (RdT.pair RdT.str (RdT.pair RdT.str (RdT.pair RdT.int (RdT.nil 0)))))))) (RdT.pair RdT.int (RdT.pair (RdT.nil 0) (RdT.pair RdT.int (RdT.pair RdT.int RdT.bool)))))))))) hF hM) _ hy17) ?_
     refine s1 ?_
     refine Give_R rfl rfl ?_
     rintro _ _ ⟨y17x0,rfl,rfl,rfl⟩
     refine s5 ?_
     refine sc ?_
     replace hp:=dd hp
     refine s4 ?_
     obtain rfl:=sj hp
     refine jW ((y12y0_1,y12y0_2,y12y0_3,X16):T_ENode) ?_
     refine s1 ?_
     refine res3 rfl (ResOK.cell rfl mm (by exact agg44.h)) (ResOK.tmp rfl) (ResOK.tmp rfl) ⟨(y12y0_1,y12y0_2,y12y0_3,X16),y17x0,true,rfl,rfl,rfl⟩ ms
    ·replace hp:=cond_f q13 hp
     refine s4 ?_
     refine L_buildSlice1 rfl rfl el42.h rfl (by decide) (by decide) rfl (fun bb79=>?_)
     replace hp:=ba hp;obtain ⟨y19,hy19,hp⟩:=hp
     refine L_conv (M':=treeH (TL.nil T_Id 0)::_) (fun w h=>addNilT (τ:=T_Id) 0 h) ?_
     refine L_conv (M':=treeH (TL.nil Int 0)::_) (fun w h=>addNilT (τ:=Int) 0 h) ?_
     refine jL (((a1_1,a1_2),v5_0,3,0,(TL.nil T_Id 0),(TL.nil Int 0),false):T_Lead) ?_
     refine L_app1m (X:=y3x0_4) (((a1_1,a1_2),v5_0,3,0,(TL.nil T_Id 0),(TL.nil Int 0),false):T_Lead) rfl rfl rfl el42.h rfl rfl pk mm pk hy19 (by decide) (fun X18 hdX18 hmX18=>?_)
     subst hdX18
     refine s4 ?_
     replace hp:=ba hp;obtain ⟨y20,hy20,hp⟩:=hp
     refine W_DS (pre:=[_,_,_,_,_]) (suf:=[_,_,_]) [82,86] [] _ pc mix (by kernel_rfl) (by kernel_rfl) rfl ?_
     refine s3 ?_
     refine D_build (xs:=[(0,.const (.int .i64 6)),(3,.tmp 83),(4,.tmp 84),(9,.const (.int .i64 (-1)))]) (ps:=[(0,.int .i64 6),(3,.agg #[.int .i64 a1_1,.int .i64 a1_2]),(4,.int .i64 v5_0),(9,.int .i64 (-1))]) (cs:=[.int .i64 6,.int .i64 0,.int .i64 0,.int .i64 a1_1,.int .i64 a1_2,.int .i64 v5_0,.int .i64 0,.int .i64 0,.int .i64 0,.string ByteArray.empty,.string ByteArray.empty,.string ByteArray.empty,.int .i64 0,(TL.hdr (TL.nil ByteArray 0)),.int .i64 0,(TL.hdr (TL.nil T_Id 0)),.int .i64 0,.int .i64 (-1),.bool false]) (OpVp.cons OpV.c (OpVp.cons (OpV.t rfl) (OpVp.cons (OpV.t rfl) (OpVp.cons OpV.c (OpVp.nil))))) bld103.h rfl ?_
     refine D_call1R (fun v M=>∃ (x0:TL T_EMsg),v=(TL.hdr x0)∧GT.dat x0=y20∧M=[treeH x0]) fn124.h (OpVs.cons (OpV.t rfl) (OpVs.cons (OpV.t rfl) (OpVs.nil))) (by exact fun w F hF hM=>i_ENode_sent_walk w bk7 (y12y0_1,y12y0_2,y12y0_3,X18) (6,0,0,(a1_1,a1_2),v5_0,(0,0,0,ByteArray.empty,ByteArray.empty,ByteArray.empty,0,(TL.nil ByteArray 0)),0,(TL.nil T_Id 0),0,(-1),false) (cells_of_blk (hM _ mm) hF.sees) (RdT.nowS (RdT.pair RdT.int (RdT.pair RdT.int (RdT.pair (RdT.tree mm) (RdT.tree mm)))) hF hM) (RdT.nowS (RdT.pair RdT.int (RdT.pair RdT.int (RdT.pair RdT.int (RdT.pair (RdT.pair RdT.int RdT.int) (RdT.pair RdT.int (RdT.pair (RdT.pair RdT.int (RdT.pair RdT.int (RdT.pair RdT.int (RdT.pair RdT.str (RdT.pair RdT.str (RdT.pair RdT.str (RdT.pair RdT.int (RdT.nil 0)))))))) (RdT.pair RdT.int (RdT.pair (RdT.nil 0) (RdT.pair RdT.int (RdT.pair RdT.int RdT.bool)))))))))) hF hM) _ hy20) ?_
     refine s1 ?_
     refine Give_R rfl rfl ?_
     rintro _ _ ⟨y20x0,rfl,rfl,rfl⟩
     refine s5 ?_
     refine sc ?_
     replace hp:=dd hp
     refine s4 ?_
     obtain rfl:=sj hp
     refine jW ((y12y0_1,y12y0_2,y12y0_3,X18):T_ENode) ?_
     refine s1 ?_
     refine res3 rfl (ResOK.cell rfl mm (by exact agg44.h)) (ResOK.tmp rfl) (ResOK.tmp rfl) ⟨(y12y0_1,y12y0_2,y12y0_3,X18),y20x0,true,rfl,rfl,rfl⟩ ms
noncomputable def i_ENodeFall (a0:D_ENode):Option (D_ENode×Bool) :=
 Option.bind (i_ENodeOk (a0.1,a0.2.1,a0.2.2.1,a0.2.2.2)) (fun y1=>cond (!y1) (some ((0,0,([]:List D_Inst),([]:List D_Lead)),false)) (Option.bind (i_copyENode (a0.1,a0.2.1,a0.2.2.1,a0.2.2.2)) (fun y3=>some ((y3.1,y3.2.1,y3.2.2.1,([]:List D_Lead)),true))))
theorem i_ENodeFall_walk (w:World) (a0:T_ENode) (h0:GT.rd w [] a0) (r:D_ENode×Bool) (hp:i_ENodeFall (GT.dat a0)=some r):Spec Tryz.prog 72 [.agg (GT.cells a0).toArray].toArray w [] (fun v M=>∃ (x0:T_ENode) (x1:Bool),v=.tuple #[.agg (GT.cells x0).toArray,.bool x1]∧(GT.dat x0,GT.dat x1)=r∧M=[treeH x0]):=by
 obtain ⟨a0_1,a0_2,a0_3,a0_4⟩:=a0
 change Spec _ _ ([Value.agg #[.int .i64 a0_1,.int .i64 a0_2,(TL.hdr a0_3),(TL.hdr a0_4)]]:List Value).toArray w [] _
 refine Spec.intro Tryz.func72 rfl Tryz.ntmps72 rfl ?_
 unfold i_ENodeFall at hp
 replace hp:=dd hp
 refine s2 ?_
 refine bx fun bk1=>?_
 refine al fun bk2=>?_
 refine s6 ?_
 replace hp:=ba hp;obtain ⟨y1,hy1,hp⟩:=hp
 refine L_callX rfl fn63.h rfl (by exact fun w hw=>i_ENodeOk_walk w (a0_1,a0_2,a0_3,a0_4) (RdT.now (RdT.pair RdT.int (RdT.pair RdT.int (RdT.pair (RdT.old h0.2.2.1) (RdT.old h0.2.2.2)))) hw) _ hy1) ?_
 refine s2 ?_
 refine kp [1,2,7] ?_
 refine W_cond rfl (fun q2=>?_) (fun q2=>?_)
 ·replace hp:=cond_t q2 hp
  refine s2 ?_
  refine L_build (xs:=[]) (cs:=[.int .i64 0,.int .i64 0,(TL.hdr (TL.nil T_Inst 0)),(TL.hdr (TL.nil T_Lead 0))]) rfl rfl bld44.h rfl ?_
  refine s3 ?_
  obtain rfl:=sj hp
  refine W_conv (M':=treeH (TL.nil T_Inst 0)::_) (fun w h=>addNilT (τ:=T_Inst) 0 h) ?_
  refine W_conv (M':=treeH (TL.nil T_Lead 0)::_) (fun w h=>addNilT (τ:=T_Lead) 0 h) ?_
  refine jW ((0,0,(TL.nil T_Inst 0),(TL.nil T_Lead 0)):T_ENode) ?_
  refine s1 ?_
  refine res2 rfl (ResOK.cell rfl mm (by exact agg44.h)) (ResOK.tmp rfl) ⟨(0,0,(TL.nil T_Inst 0),(TL.nil T_Lead 0)),false,rfl,rfl,rfl⟩ ms
 ·replace hp:=cond_f q2 hp
  refine s4 ?_
  replace hp:=ba hp;obtain ⟨y3,hy3,hp⟩:=hp
  refine L_callR rfl fn119.h rfl (by exact fun w hw=>i_copyENode_walk w (a0_1,a0_2,a0_3,a0_4) (RdT.now (RdT.pair RdT.int (RdT.pair RdT.int (RdT.pair (RdT.old h0.2.2.1) (RdT.old h0.2.2.2)))) hw) _ hy3) ?_
  rintro _ _ ⟨⟨y3x0_1,y3x0_2,y3x0_3,y3x0_4⟩,rfl,rfl,rfl⟩
  refine sc ?_
  replace hp:=dd hp
  refine xL ((y3x0_1,y3x0_2,y3x0_3,y3x0_4):T_ENode) ?_
  refine al fun bk4=>?_
  refine s13 ?_
  obtain rfl:=sj hp
  refine W_conv (M':=treeH (TL.nil T_Lead 0)::_) (fun w h=>addNilT (τ:=T_Lead) 0 h) ?_
  refine jW ((y3x0_1,y3x0_2,y3x0_3,(TL.nil T_Lead 0)):T_ENode) ?_
  refine s1 ?_
  refine res2 rfl (ResOK.cell rfl mm (by exact agg44.h)) (ResOK.tmp rfl) ⟨(y3x0_1,y3x0_2,y3x0_3,(TL.nil T_Lead 0)),true,rfl,rfl,rfl⟩ ms
end Go.Proofs.SL
