/- The texts of the proof, part 13: the base, walks of functions, plain Lean. -/
import Derived.Test.YthlbpedehajlgaaGreatT12
import Derived.Test.YthlbpedehajlgaaGreatT5
namespace Go.Proofs.SL
open Go
set_option maxHeartbeats 2000000
instance fn130:FnF Tryz.prog 130:=⟨_,Tryz.func130,by kernel_rfl,rfl⟩
instance fn227:FnF Tryz.prog 227:=⟨_,Tryz.func227,by kernel_rfl,rfl⟩
instance fn197:FnF Tryz.prog 197:=⟨_,Tryz.func197,by kernel_rfl,rfl⟩
instance fn166:FnF Tryz.prog 166:=⟨_,Tryz.func166,by kernel_rfl,rfl⟩
instance fn198:FnF Tryz.prog 198:=⟨_,Tryz.func198,by kernel_rfl,rfl⟩
instance fn228:FnF Tryz.prog 228:=⟨_,Tryz.func228,by kernel_rfl,rfl⟩
instance fn199:FnF Tryz.prog 199:=⟨_,Tryz.func199,by kernel_rfl,rfl⟩
instance fn200:FnF Tryz.prog 200:=⟨_,Tryz.func200,by kernel_rfl,rfl⟩
instance fn230:FnF Tryz.prog 230:=⟨_,Tryz.func230,by kernel_rfl,rfl⟩
instance fn202:FnF Tryz.prog 202:=⟨_,Tryz.func202,by kernel_rfl,rfl⟩
instance fn201:FnF Tryz.prog 201:=⟨_,Tryz.func201,by kernel_rfl,rfl⟩
instance fn170:FnF Tryz.prog 170:=⟨_,Tryz.func170,by kernel_rfl,rfl⟩
instance fn171:FnF Tryz.prog 171:=⟨_,Tryz.func171,by kernel_rfl,rfl⟩
instance fn172:FnF Tryz.prog 172:=⟨_,Tryz.func172,by kernel_rfl,rfl⟩
instance fn173:FnF Tryz.prog 173:=⟨_,Tryz.func173,by kernel_rfl,rfl⟩
instance fn174:FnF Tryz.prog 174:=⟨_,Tryz.func174,by kernel_rfl,rfl⟩
instance fn175:FnF Tryz.prog 175:=⟨_,Tryz.func175,by kernel_rfl,rfl⟩
instance fn64:FnF Tryz.prog 64:=⟨_,Tryz.func64,by kernel_rfl,rfl⟩
instance fn125:FnF Tryz.prog 125:=⟨_,Tryz.func125,by kernel_rfl,rfl⟩
noncomputable def i_JoinIds (a0:List D_Id) (a1:List D_Id):Option (List D_Id) :=
 Option.bind (i_IdsOk a0) (fun y1=>gb (!(!y1)) (i_IdsOk a1) (fun y2=>cond ((!y1)||(!y2)) (some ([]:List D_Id)) (Option.bind (some ([]:List D_Id)) (fun y5=>Option.bind (appP y5 a0) (fun y7=>Option.bind (appP y7 a1) (fun y9=>Option.bind (sortFn y9 (fun z0 z1=>i_compareIds z0 z1 )) (fun y10=>Option.bind (sl_Compact_implIdimplId y10) (fun y11=>some y11))))))))
theorem i_JoinIds_walk (w:World) (a0:TL T_Id) (a1:TL T_Id) (h0:GT.rd w [] a0) (h1:GT.rd w [] a1) (r:(List D_Id)) (hp:i_JoinIds (GT.dat a0) (GT.dat a1)=some r):Spec Tryz.prog 197 [(TL.hdr a0),(TL.hdr a1)].toArray w [] (fun v M=>∃ (x0:TL T_Id),v=(TL.hdr x0)∧GT.dat x0=r∧M=[treeH x0]):=by
 refine Spec.intro Tryz.func197 rfl Tryz.ntmps197 rfl ?_
 unfold i_JoinIds at hp
 replace hp:=dd hp
 refine s2 ?_
 refine L_assign (v:=(TL.hdr (TL.nil T_Id 0))) rfl rfl ?_
 refine s3 ?_
 replace hp:=ba hp;obtain ⟨y1,hy1,hp⟩:=hp
 replace hp:=gb_any hp;obtain ⟨y2,hy2,hp⟩:=hp
 refine W_D0 [13] mix (by kernel_rfl) rfl ?_
 refine s1 ?_
 refine D_callX GC.none fn164.h (OpVs.cons (OpV.t rfl) (OpVs.nil)) (by exact fun hg w F hF hM=>i_IdsOk_walk w a0 (RdT.nowS (RdT.old h0) hF hM) _ hy1) ?_
 refine s3 ?_
 refine D_callX (GC.some rfl rfl) fn164.h (OpVs.cons (OpV.s rfl) (OpVs.nil)) (by exact fun hg w F hF hM=>i_IdsOk_walk w a1 (RdT.nowS (RdT.old h1) hF hM) _ (hy2 (gnot hg.2))) ?_
 refine s12 ?_
 refine kp [0,1,13] ?_
 refine W_cond rfl (fun q3=>?_) (fun q3=>?_)
 ·replace hp:=cond_t q3 hp
  refine s2 ?_
  refine L_assign (v:=(TL.hdr (TL.nil T_Id 0))) rfl rfl ?_
  refine s1 ?_
  obtain rfl:=sj hp
  refine W_conv (M':=treeH (TL.nil T_Id 0)::_) (fun w h=>addNilT (τ:=T_Id) 0 h) ?_
  refine s1 ?_
  refine res1 rfl (ResOK.tmp rfl) ⟨(TL.nil T_Id 0),rfl,rfl,rfl⟩ ms
 ·replace hp:=cond_f q3 hp
  refine s3 ?_
  replace hp:=ba hp;obtain ⟨y5,hy5,hp⟩:=hp
  refine L_mk0 T_Id rfl el31.h (fun X4 hdX4=>?_)
  obtain rfl:GT.dat X4=y5:=hdX4.trans (Option.some.inj hy5)
  clear hy5 hdX4
  refine s1 ?_
  replace hp:=ba hp;obtain ⟨y7,hy7,hp⟩:=hp
  refine L_appT (X:=X4) (Y:=a0) rfl rfl rfl el31.h rfl rfl pk (RdT.old h0) hy7 (by decide) (fun X6 hdX6=>?_)
  subst hdX6
  refine s1 ?_
  replace hp:=ba hp;obtain ⟨y9,hy9,hp⟩:=hp
  refine L_appT (X:=X6) (Y:=a1) rfl rfl rfl el31.h rfl rfl pk (RdT.old h1) hy9 (by decide) (fun X8 hdX8=>?_)
  subst hdX8
  refine s5 ?_
  replace hp:=ba hp;obtain ⟨y10,hy10,hp⟩:=hp
  refine L_callM [treeH X8] _ rfl fn130.h rfl pc (by exact fun w hw=>sl_SortFunc_implIdimplId_walk w X8 128 [] (fun z0 z1=>i_compareIds z0 z1 ) fn128.h (fun w' F u0 u1 v hF hu0 hu1 hv=>i_compareIds_walk w' u0 u1 hu0 hu1 v hv) _ hy10) ?_
  rintro _ _ ⟨y10y0,rfl,rfl,rfl,hey10_0⟩
  try rw [← hey10_0]
  refine sc ?_
  replace hp:=dd hp
  refine s4 ?_
  replace hp:=ba hp;obtain ⟨y11,hy11,hp⟩:=hp
  refine L_callM [treeH y10y0] _ rfl fn227.h rfl pc (by exact fun w hw=>sl_Compact_implIdimplId_walk w y10y0  _ hy11) ?_
  rintro _ _ ⟨y11x0,rfl,rfl,rfl⟩
  refine sc ?_
  replace hp:=dd hp
  refine s2 ?_
  obtain rfl:=sj hp
  refine s1 ?_
  refine res1 rfl (ResOK.tmp rfl) ⟨y11x0,rfl,rfl,rfl⟩ ms
noncomputable def sl_Equal_implIdimplId (a0:List D_Id) (a1:List D_Id):Option Bool :=
 cond (!decide ((a0.length:Int)=(a1.length:Int))) (some false) (whileP (fun s2:Int=>cond (decide (s2 < (a0.length:Int))) (Option.bind (idx a0 s2) (fun y4=>Option.bind (idx a1 s2) (fun y5=>cond (!(decide (y4.1=y5.1)&&(decide (y4.2=y5.2)&&true))) (Option.map .inr (some false)) (some (.inl (IntKind.wrap .i64 (s2+1))))))) (Option.map .inr (some true))) 0)
theorem sl_Equal_implIdimplId_walk (w:World) (a0:TL T_Id) (a1:TL T_Id) (h0:GT.rd w [] a0) (h1:GT.rd w [] a1) (r:Bool) (hp:sl_Equal_implIdimplId (GT.dat a0) (GT.dat a1)=some r):Spec Tryz.prog 166 [(TL.hdr a0),(TL.hdr a1)].toArray w [] (IsV (.bool r)):=by
 refine Spec.intro Tryz.func166 rfl Tryz.ntmps166 rfl ?_
 unfold sl_Equal_implIdimplId at hp
 replace hp:=dd hp
 refine s13 ?_
 refine kp [0,1,10] ?_
 refine W_cond rfl (fun q1=>?_) (fun q1=>?_)
 ·replace hp:=cond_t q1 hp
  refine s4 ?_
  obtain rfl:=sj hp
  refine s1 ?_
  refine res1 rfl (ResOK.tmp rfl) ⟨rfl,rfl⟩ ms
 ·replace hp:=cond_f q1 hp
  refine s9 ?_
  refine W_while (σ:=Int) GT.dat (fun (v2_0:Int)=>[(13,.int .i64 v2_0)]) (fun (v2_0:Int)=>[]) [(0,_),(1,_),(12,_)] [] 0 hp sb ms ?_
  clear hp
  rintro v2_0 x2 hp hx2
  replace hp:=dd hp
  refine kq [0,1,12,13] ?_
  refine s5 ?_
  refine kp [0,1,12,13,14] ?_
  refine W_cond rfl (fun q3=>?_) (fun q3=>?_)
  ·replace hp:=cond_t q3 hp
   refine s9 ?_
   replace hp:=idx_bind hp;obtain ⟨⟨u4_1,u4_2⟩,hy4,hp⟩:=hp
   replace hp:=idx_bind hp;obtain ⟨⟨u5_1,u5_2⟩,hy5,hp⟩:=hp
   refine W_D0 [24] mix (by kernel_rfl) rfl ?_
   refine s2 ?_
   refine D_idxA (X:=a0) GC.none (OpV.t rfl) (OpV.t rfl) el31.h (RdT.old h0) (fun _=>hy4) ?_
   refine D_loadW GC.none (OpV.t rfl) (fun hg=>RdT.at (RdT.old h0) (hy4).2) (by exact agg35.h) ?_
   refine s2 ?_
   refine D_idxA (X:=a1) GC.none (OpV.t rfl) (OpV.t rfl) el31.h (RdT.old h1) (fun _=>hy5) ?_
   refine D_loadW GC.none (OpV.t rfl) (fun hg=>RdT.at (RdT.old h1) (hy5).2) (by exact agg35.h) ?_
   refine D_bin GC.none (OpV.t rfl) (OpV.t rfl) (fun hg=>(bv_aneq eqsh35 (EqS.consI one3.h und3.h rfl rfl (EqS.consI one3.h und3.h rfl rfl EqS.nil)))) ?_
   refine s11 ?_
   refine kp [0,1,12,13,24] ?_
   refine W_cond rfl (fun q6=>?_) (fun q6=>?_)
   ·replace hp:=cond_t q6 hp
    refine s4 ?_
    replace hp:=map_any hp;obtain ⟨a7,hp,z_7⟩:=hp
    obtain rfl:=hx2 _ z_7
    obtain rfl:=sj hp
    refine s1 ?_
    refine res1 rfl (ResOK.tmp rfl) ⟨rfl,rfl⟩ ms
   ·replace hp:=cond_f q6 hp
    refine s5 ?_
    exact ⟨IntKind.wrap .i64 (v2_0+1),sb,(.sub ms),some_eq hp⟩
  ·replace hp:=cond_f q3 hp
   refine W_exit ?_
   replace hp:=map_any hp;obtain ⟨a8,hp,z_8⟩:=hp
   obtain rfl:=hx2 _ z_8
   refine s4 ?_
   obtain rfl:=sj hp
   refine s1 ?_
   refine res1 rfl (ResOK.tmp rfl) ⟨rfl,rfl⟩ ms
noncomputable def i_ENode_pre (a0:D_ENode) (a1:D_EMsg):Option ((List D_EMsg)×Bool×D_ENode) :=
 Option.bind (i_InstAt a0.2.2.1 (a1.2.2.2.1.1,a1.2.2.2.1.2)) (fun y1=>cond ((decide (a1.2.2.2.2.1 < y1.2.1))||(decide (1 < y1.2.2.2.1))) (some (([]:List D_EMsg),false,(a0.1,a0.2.1,a0.2.2.1,a0.2.2.2))) (cond ((!decide (y1.2.2.2.1=1))||(!decide (y1.2.2.1=a1.2.2.2.2.1))) (Option.bind (i_AttrsOf a0.2.2.1 (a1.2.2.2.1.1,a1.2.2.2.1.2) (a1.2.2.2.2.2.1.1,a1.2.2.2.2.2.1.2.1,a1.2.2.2.2.2.1.2.2.1,a1.2.2.2.2.2.1.2.2.2.1,a1.2.2.2.2.2.1.2.2.2.2.1,a1.2.2.2.2.2.1.2.2.2.2.2.1,a1.2.2.2.2.2.1.2.2.2.2.2.2.1,a1.2.2.2.2.2.1.2.2.2.2.2.2.2)) (fun y4=>Option.bind (i_copyCmd (a1.2.2.2.2.2.1.1,a1.2.2.2.2.2.1.2.1,a1.2.2.2.2.2.1.2.2.1,a1.2.2.2.2.2.1.2.2.2.1,a1.2.2.2.2.2.1.2.2.2.2.1,a1.2.2.2.2.2.1.2.2.2.2.2.1,a1.2.2.2.2.2.1.2.2.2.2.2.2.1,a1.2.2.2.2.2.1.2.2.2.2.2.2.2)) (fun y5=>Option.bind (i_JoinIds a1.2.2.2.2.2.2.2.1 y4.2) (fun y6=>gb (decide ((if y4.1 > a1.2.2.2.2.2.2.1 then y4.1 else a1.2.2.2.2.2.2.1)=a1.2.2.2.2.2.2.1)) (sl_Equal_implIdimplId y6 a1.2.2.2.2.2.2.2.1) (fun y7=>Option.bind (i_ENode_put (a0.1,a0.2.1,a0.2.2.1,a0.2.2.2) ((y1.1.1,y1.1.2),a1.2.2.2.2.1,a1.2.2.2.2.1,1,(y5.1,y5.2.1,y5.2.2.1,y5.2.2.2.1,y5.2.2.2.2.1,y5.2.2.2.2.2.1,y5.2.2.2.2.2.2.1,y5.2.2.2.2.2.2.2),(if y4.1 > a1.2.2.2.2.2.2.1 then y4.1 else a1.2.2.2.2.2.2.1),y6,((decide ((if y4.1 > a1.2.2.2.2.2.2.1 then y4.1 else a1.2.2.2.2.2.2.1)=a1.2.2.2.2.2.2.1))&&y7))) (fun y8=>cond (!y8.1) (some (([]:List D_EMsg),false,(y8.2.1,y8.2.2.1,y8.2.2.2.1,y8.2.2.2.2))) (Option.bind (i_ENode_reply (y8.2.1,y8.2.2.1,y8.2.2.2.1,y8.2.2.2.2) (a1.1,a1.2.1,a1.2.2.1,(a1.2.2.2.1.1,a1.2.2.2.1.2),a1.2.2.2.2.1,(a1.2.2.2.2.2.1.1,a1.2.2.2.2.2.1.2.1,a1.2.2.2.2.2.1.2.2.1,a1.2.2.2.2.2.1.2.2.2.1,a1.2.2.2.2.2.1.2.2.2.2.1,a1.2.2.2.2.2.1.2.2.2.2.2.1,a1.2.2.2.2.2.1.2.2.2.2.2.2.1,a1.2.2.2.2.2.1.2.2.2.2.2.2.2),a1.2.2.2.2.2.2.1,a1.2.2.2.2.2.2.2.1,a1.2.2.2.2.2.2.2.2.1,a1.2.2.2.2.2.2.2.2.2.1,a1.2.2.2.2.2.2.2.2.2.2) (2,0,0,(0,0),a1.2.2.2.2.1,(0,0,0,ByteArray.empty,ByteArray.empty,ByteArray.empty,0,([]:List ByteArray)),(if y4.1 > a1.2.2.2.2.2.2.1 then y4.1 else a1.2.2.2.2.2.2.1),y6,0,(-1),((decide ((if y4.1 > a1.2.2.2.2.2.2.1 then y4.1 else a1.2.2.2.2.2.2.1)=a1.2.2.2.2.2.2.1))&&y7))) (fun y10=>some (y10,true,(y8.2.1,y8.2.2.1,y8.2.2.2.1,y8.2.2.2.2)))))))))) (Option.bind (i_ENode_reply (a0.1,a0.2.1,a0.2.2.1,a0.2.2.2) (a1.1,a1.2.1,a1.2.2.1,(a1.2.2.2.1.1,a1.2.2.2.1.2),a1.2.2.2.2.1,(a1.2.2.2.2.2.1.1,a1.2.2.2.2.2.1.2.1,a1.2.2.2.2.2.1.2.2.1,a1.2.2.2.2.2.1.2.2.2.1,a1.2.2.2.2.2.1.2.2.2.2.1,a1.2.2.2.2.2.1.2.2.2.2.2.1,a1.2.2.2.2.2.1.2.2.2.2.2.2.1,a1.2.2.2.2.2.1.2.2.2.2.2.2.2),a1.2.2.2.2.2.2.1,a1.2.2.2.2.2.2.2.1,a1.2.2.2.2.2.2.2.2.1,a1.2.2.2.2.2.2.2.2.2.1,a1.2.2.2.2.2.2.2.2.2.2) (2,0,0,(0,0),a1.2.2.2.2.1,(0,0,0,ByteArray.empty,ByteArray.empty,ByteArray.empty,0,([]:List ByteArray)),y1.2.2.2.2.2.1,y1.2.2.2.2.2.2.1,0,(-1),y1.2.2.2.2.2.2.2)) (fun y11=>some (y11,true,(a0.1,a0.2.1,a0.2.2.1,a0.2.2.2))))))
theorem i_ENode_pre_walk (w:World) (b0_:Nat) (a0:T_ENode) (a1:T_EMsg) (h1:GT.rd w (fps [blk b0_ (GT.cells a0) 44,treeH a0.2.2.1,treeH a0.2.2.2]) a1) (r:(List D_EMsg)×Bool×D_ENode) (hp:i_ENode_pre (GT.dat a0) (GT.dat a1)=some r):Spec Tryz.prog 170 [Value.pointer (some ⟨b0_,0,none⟩),.agg (GT.cells a1).toArray].toArray w [blk b0_ (GT.cells a0) 44,treeH a0.2.2.1,treeH a0.2.2.2] (fun v M=>∃ (x0:TL T_EMsg) (x1:Bool) (y0:T_ENode),v=.tuple #[(TL.hdr x0),.bool x1]∧(GT.dat x0,GT.dat x1,GT.dat y0)=r∧M=[treeH x0,blk b0_ (GT.cells y0) 44,treeH y0.2.2.1,treeH y0.2.2.2]):=by
 obtain ⟨a0_1,a0_2,a0_3,a0_4⟩:=a0
 obtain ⟨a1_1,a1_2,a1_3,⟨a1_4,a1_5⟩,a1_6,⟨a1_7,a1_8,a1_9,a1_10,a1_11,a1_12,a1_13,a1_14⟩,a1_15,a1_16,a1_17,a1_18,a1_19⟩:=a1
 change Spec _ _ ([Value.pointer (some ⟨b0_,0,none⟩),Value.agg #[.int .i64 a1_1,.int .i64 a1_2,.int .i64 a1_3,.int .i64 a1_4,.int .i64 a1_5,.int .i64 a1_6,.int .i64 a1_7,.int .i64 a1_8,.int .i64 a1_9,.string a1_10,.string a1_11,.string a1_12,.int .i64 a1_13,(TL.hdr a1_14),.int .i64 a1_15,(TL.hdr a1_16),.int .i64 a1_17,.int .i64 a1_18,.bool a1_19]]:List Value).toArray w _ _
 refine Spec.intro Tryz.func170 rfl Tryz.ntmps170 rfl ?_
 unfold i_ENode_pre at hp
 replace hp:=dd hp
 refine s2 ?_
 refine bx fun bk3=>?_
 refine L_assign (v:=(TL.hdr (TL.nil T_EMsg 0))) rfl rfl ?_
 refine s3 ?_
 replace hp:=ba hp;obtain ⟨y1,hy1,hp⟩:=hp
 refine W_DS (pre:=[_,_,_,_,_,_,_,_]) (suf:=[_]) [6,15] [] _ pc mix (by kernel_rfl) (by kernel_rfl) rfl ?_
 refine s5 ?_
 refine D_loadW GC.none (OpV.t rfl) (fun hg=>RdC.seg (RdC.blk mm) 3 2 rfl) (by exact agg35.h) ?_
 refine D_call1R (fun v M=>∃ (x0:T_Inst),v=.agg (GT.cells x0).toArray∧GT.dat x0=y1∧M=[treeH x0]) fn41.h (OpVs.cons (OpV.t rfl) (OpVs.cons (OpV.t rfl) (OpVs.nil))) (by exact fun w F hF hM=>i_InstAt_walk w a0_3 (a1_4,a1_5) (RdT.nowS (RdT.tree mm) hF hM) (RdT.nowS (RdT.pair RdT.int RdT.int) hF hM) _ hy1) ?_
 refine D_alloc zero48.h ?_
 refine s1 ?_
 refine Give_R rfl rfl ?_
 rintro _ _ ⟨bk6,rfl,rfl⟩
 simp only [List.cons_append,List.nil_append]
 refine Give_R rfl rfl ?_
 rintro _ _ ⟨⟨⟨y1x0_1,y1x0_2⟩,y1x0_3,y1x0_4,y1x0_5,⟨y1x0_6,y1x0_7,y1x0_8,y1x0_9,y1x0_10,y1x0_11,y1x0_12,y1x0_13⟩,y1x0_14,y1x0_15,y1x0_16⟩,rfl,rfl,rfl⟩
 refine s7 ?_
 refine sc ?_
 replace hp:=dd hp
 refine xL (((y1x0_1,y1x0_2),y1x0_3,y1x0_4,y1x0_5,(y1x0_6,y1x0_7,y1x0_8,y1x0_9,y1x0_10,y1x0_11,y1x0_12,y1x0_13),y1x0_14,y1x0_15,y1x0_16):T_Inst) ?_
 refine s4 ?_
 refine W_D0 [25] mix (by kernel_rfl) rfl ?_
 refine s20 ?_
 refine s2 ?_
 refine kp [0,3,6,25] ?_
 refine W_cond rfl (fun q2=>?_) (fun q2=>?_)
 ·replace hp:=cond_t q2 hp
  refine s2 ?_
  refine L_assign (v:=(TL.hdr (TL.nil T_EMsg 0))) rfl rfl ?_
  refine s2 ?_
  obtain rfl:=sj hp
  refine W_conv (M':=treeH (TL.nil T_EMsg 0)::_) (fun w h=>addNilT (τ:=T_EMsg) 0 h) ?_
  refine s1 ?_
  refine res2 rfl (ResOK.tmp rfl) (ResOK.tmp rfl) ⟨(TL.nil T_EMsg 0),false,(a0_1,a0_2,a0_3,a0_4),rfl,rfl,rfl⟩ ms
 ·replace hp:=cond_f q2 hp
  refine s3 ?_
  refine W_D0 [35] mix (by kernel_rfl) rfl ?_
  refine s20 ?_
  refine s2 ?_
  refine kp [0,3,6,35] ?_
  refine W_cond rfl (fun q3=>?_) (fun q3=>?_)
  ·replace hp:=cond_t q3 hp
   refine s1 ?_
   refine W_AH [] mix ?_
   refine AH_take 0 rfl (PU_move rfl rfl) (by kernel_rfl) (by kernel_rfl) (by kernel_rfl) trivial ?_
   refine AH_take 1 rfl (PU_nilCheck rfl rfl) (by kernel_rfl) (by kernel_rfl) (by kernel_rfl) trivial ?_
   refine AH_take 2 rfl (PU_fieldAddr rfl rfl fld44_2.h) (by kernel_rfl) (by kernel_rfl) (by kernel_rfl) trivial ?_
   refine AH_A [blk b0_ [.int .i64 a0_1,.int .i64 a0_2,(TL.hdr a0_3),(TL.hdr a0_4)] 44] trivial ?_
   refine AH_take 3 rfl (PU_load rfl rfl (RdC.blk mm) one41.h rfl) (by kernel_rfl) (by kernel_rfl) (by kernel_rfl) ⟨mm,trivial⟩ ?_
   refine AH_take 4 rfl (PU_fieldAddr rfl rfl fld103_3.h) (by kernel_rfl) (by kernel_rfl) (by kernel_rfl) ⟨mm,trivial⟩ ?_
   refine AH_A [blk bk3 [.int .i64 a1_1,.int .i64 a1_2,.int .i64 a1_3,.int .i64 a1_4,.int .i64 a1_5,.int .i64 a1_6,.int .i64 a1_7,.int .i64 a1_8,.int .i64 a1_9,.string a1_10,.string a1_11,.string a1_12,.int .i64 a1_13,(TL.hdr a1_14),.int .i64 a1_15,(TL.hdr a1_16),.int .i64 a1_17,.int .i64 a1_18,.bool a1_19] 103,blk b0_ [.int .i64 a0_1,.int .i64 a0_2,(TL.hdr a0_3),(TL.hdr a0_4)] 44] ⟨mm,trivial⟩ ?_
   refine AH_take 5 rfl (PU_loadW rfl rfl (RdC.seg (RdC.blk mm) 3 2 rfl) (by exact agg35.h)) (by kernel_rfl) (by kernel_rfl) (by kernel_rfl) ⟨mm,⟨mm,trivial⟩⟩ ?_
   refine AH_take 6 rfl (PU_fieldAddr rfl rfl fld103_5.h) (by kernel_rfl) (by kernel_rfl) (by kernel_rfl) ⟨mm,⟨mm,trivial⟩⟩ ?_
   refine AH_take 7 rfl (PU_loadW rfl rfl (RdC.seg (RdC.blk mm) 6 8 rfl) (by exact agg38.h)) (by kernel_rfl) (by kernel_rfl) (by kernel_rfl) ⟨mm,⟨mm,trivial⟩⟩ ?_
   refine AH_one 8 rfl rfl (by kernel_rfl) ?_
   replace hp:=ba hp;obtain ⟨y4,hy4,hp⟩:=hp
   refine L_callR rfl fn121.h rfl (by exact fun w hw=>i_AttrsOf_walk w a0_3 (a1_4,a1_5) (a1_7,a1_8,a1_9,a1_10,a1_11,a1_12,a1_13,a1_14) (RdT.now (RdT.tree mm) hw) (RdT.now (RdT.pair RdT.int RdT.int) hw) (RdT.now (RdT.pair RdT.int (RdT.pair RdT.int (RdT.pair RdT.int (RdT.pair RdT.str (RdT.pair RdT.str (RdT.pair RdT.str (RdT.pair RdT.int (RdT.old h1.2.2.2.2.2.1.2.2.2.2.2.2.2)))))))) hw) _ hy4) ?_
   rintro _ _ ⟨y4x0,y4x1,rfl,rfl,rfl⟩
   refine sc ?_
   replace hp:=dd hp
   refine L_nil ⟨⟨mm,⟨mm,trivial⟩⟩,?_⟩
   refine AH_take 9 rfl (PU_move rfl rfl) (by kernel_rfl) (by kernel_rfl) (by kernel_rfl) ⟨mm,⟨mm,trivial⟩⟩ ?_
   refine AH_take 10 rfl (PU_extract (v:=.int .i64 y4x0) rfl rfl rfl) (by kernel_rfl) (by kernel_rfl) (by kernel_rfl) ⟨mm,⟨mm,trivial⟩⟩ ?_
   refine AH_take 11 rfl (PU_extract rfl rfl rfl) (by kernel_rfl) (by kernel_rfl) (by kernel_rfl) ⟨mm,⟨mm,trivial⟩⟩ ?_
   refine AH_one 12 rfl rfl (by kernel_rfl) ?_
   refine s1 ?_
   refine L_nil ⟨⟨mm,⟨mm,trivial⟩⟩,?_⟩
   refine AH_one 13 rfl rfl (by kernel_rfl) ?_
   refine s1 ?_
   refine L_nil ⟨⟨mm,⟨mm,trivial⟩⟩,?_⟩
   refine AH_done (by kernel_rfl) ?_
   refine s20 ?_
   refine s2 ?_
   refine L_loadW rfl rfl (RdC.seg (RdC.blk mm) 6 8 rfl) (by exact agg38.h) ?_
   replace hp:=ba hp;obtain ⟨y5,hy5,hp⟩:=hp
   refine L_callR rfl fn135.h rfl (by exact fun w hw=>i_copyCmd_walk w (a1_7,a1_8,a1_9,a1_10,a1_11,a1_12,a1_13,a1_14) (RdT.now (RdT.pair RdT.int (RdT.pair RdT.int (RdT.pair RdT.int (RdT.pair RdT.str (RdT.pair RdT.str (RdT.pair RdT.str (RdT.pair RdT.int (RdT.old h1.2.2.2.2.2.1.2.2.2.2.2.2.2)))))))) hw) _ hy5) ?_
   rintro _ _ ⟨⟨y5x0_1,y5x0_2,y5x0_3,y5x0_4,y5x0_5,y5x0_6,y5x0_7,y5x0_8⟩,rfl,rfl,rfl⟩
   refine sc ?_
   replace hp:=dd hp
   refine xL ((y5x0_1,y5x0_2,y5x0_3,y5x0_4,y5x0_5,y5x0_6,y5x0_7,y5x0_8):T_Cmd) ?_
   refine s1 ?_
   refine L_storeA (fo:=5) rfl rfl pk (by exact agg38.h) (Nat.le_of_ble_eq_true rfl) ocs rfl ?_
   refine s6 ?_
   replace hp:=ba hp;obtain ⟨y6,hy6,hp⟩:=hp
   refine L_callR rfl fn197.h rfl (by exact fun w hw=>i_JoinIds_walk w a1_16 y4x1 (RdT.now (RdT.old h1.2.2.2.2.2.2.2.1) hw) (RdT.now (RdT.tree mm) hw) _ hy6) ?_
   rintro _ _ ⟨y6x0,rfl,rfl,rfl⟩
   refine sc ?_
   replace hp:=dd hp
   refine s8 ?_
   refine L_max rfl rfl rfl ?_
   refine s4 ?_
   replace hp:=gb_any hp;obtain ⟨y7,hy7,hp⟩:=hp
   refine W_DS (pre:=[_,_,_,_,_,_,_,_,_,_,_,_]) (suf:=[_,_]) [80] [] _ pc mix (by kernel_rfl) (by kernel_rfl) rfl ?_
   refine s10 ?_
   refine D_callX (GC.some rfl rfl) fn166.h (OpVs.cons (OpV.s rfl) (OpVs.cons (OpV.s rfl) (OpVs.nil))) (by exact fun hg w F hF hM=>sl_Equal_implIdimplId_walk w y6x0 a1_16 (RdT.nowS (RdT.tree mm) hF hM) (RdT.nowS (RdT.old h1.2.2.2.2.2.2.2.1) hF hM) _ (hy7 hg.2)) ?_
   refine s20 ?_
   refine s2 ?_
   replace hp:=ba hp;obtain ⟨y8,hy8,hp⟩:=hp
   refine L_callM [blk b0_ _ _,treeH a0_3] _ rfl fn122.h rfl pc (by exact fun w hw=>i_ENode_put_walk w b0_ (a0_1,a0_2,a0_3,a0_4) ((y1x0_1,y1x0_2),a1_6,a1_6,1,(y5x0_1,y5x0_2,y5x0_3,y5x0_4,y5x0_5,y5x0_6,y5x0_7,y5x0_8),(if y4x0 > a1_15 then y4x0 else a1_15),y6x0,((decide ((if y4x0 > a1_15 then y4x0 else a1_15)=a1_15))&&y7)) ((RdX.pair (RdX.pair RdX.int RdX.int) (RdX.pair RdX.int (RdX.pair RdX.int (RdX.pair RdX.int (RdX.pair (RdX.pair RdX.int (RdX.pair RdX.int (RdX.pair RdX.int (RdX.pair RdX.str (RdX.pair RdX.str (RdX.pair RdX.str (RdX.pair RdX.int (RdX.tree mm)))))))) (RdX.pair RdX.int (RdX.pair (RdX.tree mm) RdX.bool))))))) w hw) ((RdX.tree mm) w hw) _ hy8) ?_
   rintro _ _ ⟨y8x0,⟨y8y0_1,y8y0_2,y8y0_3,y8y0_4⟩,rfl,rfl,rfl,hey8_0⟩
   obtain rfl:a0_4=y8y0_4:=hey8_0.symm
   refine sc ?_
   replace hp:=dd hp
   refine s2 ?_
   refine kp [0,3,6,85] ?_
   refine W_cond rfl (fun q9=>?_) (fun q9=>?_)
   ·replace hp:=cond_t q9 hp
    refine s2 ?_
    refine L_assign (v:=(TL.hdr (TL.nil T_EMsg 0))) rfl rfl ?_
    refine s2 ?_
    obtain rfl:=sj hp
    refine W_conv (M':=treeH (TL.nil T_EMsg 0)::_) (fun w h=>addNilT (τ:=T_EMsg) 0 h) ?_
    refine s1 ?_
    refine res2 rfl (ResOK.tmp rfl) (ResOK.tmp rfl) ⟨(TL.nil T_EMsg 0),false,(y8y0_1,y8y0_2,y8y0_3,a0_4),rfl,rfl,rfl⟩ ms
   ·replace hp:=cond_f q9 hp
    refine s13 ?_
    refine L_build (xs:=[(0,.const (.int .i64 2)),(4,.tmp 89),(6,.tmp 91),(7,.tmp 93),(10,.tmp 95),(9,.const (.int .i64 (-1)))]) (cs:=[.int .i64 2,.int .i64 0,.int .i64 0,.int .i64 0,.int .i64 0,.int .i64 a1_6,.int .i64 0,.int .i64 0,.int .i64 0,.string ByteArray.empty,.string ByteArray.empty,.string ByteArray.empty,.int .i64 0,(TL.hdr (TL.nil ByteArray 0)),.int .i64 (if y4x0 > a1_15 then y4x0 else a1_15),(TL.hdr y6x0),.int .i64 0,.int .i64 (-1),.bool ((decide ((if y4x0 > a1_15 then y4x0 else a1_15)=a1_15))&&y7)]) rfl rfl bld103.h rfl ?_
    replace hp:=ba hp;obtain ⟨y10,hy10,hp⟩:=hp
    refine L_callR rfl fn198.h rfl (by exact fun w hw=>i_ENode_reply_walk w b0_ (y8y0_1,y8y0_2,y8y0_3,a0_4) (a1_1,a1_2,a1_3,(a1_4,a1_5),a1_6,(a1_7,a1_8,a1_9,a1_10,a1_11,a1_12,a1_13,a1_14),a1_15,a1_16,a1_17,a1_18,a1_19) (2,0,0,(0,0),a1_6,(0,0,0,ByteArray.empty,ByteArray.empty,ByteArray.empty,0,(TL.nil ByteArray 0)),(if y4x0 > a1_15 then y4x0 else a1_15),y6x0,0,(-1),((decide ((if y4x0 > a1_15 then y4x0 else a1_15)=a1_15))&&y7)) (cells_of_blk mm hw.sees) (RdT.now (RdT.pair RdT.int (RdT.pair RdT.int (RdT.pair (RdT.tree mm) (RdT.tree mm)))) hw) (RdT.now (RdT.pair RdT.int (RdT.pair RdT.int (RdT.pair RdT.int (RdT.pair (RdT.pair RdT.int RdT.int) (RdT.pair RdT.int (RdT.pair (RdT.pair RdT.int (RdT.pair RdT.int (RdT.pair RdT.int (RdT.pair RdT.str (RdT.pair RdT.str (RdT.pair RdT.str (RdT.pair RdT.int (RdT.old h1.2.2.2.2.2.1.2.2.2.2.2.2.2)))))))) (RdT.pair RdT.int (RdT.pair (RdT.old h1.2.2.2.2.2.2.2.1) (RdT.pair RdT.int (RdT.pair RdT.int RdT.bool)))))))))) hw) (RdT.now (RdT.pair RdT.int (RdT.pair RdT.int (RdT.pair RdT.int (RdT.pair (RdT.pair RdT.int RdT.int) (RdT.pair RdT.int (RdT.pair (RdT.pair RdT.int (RdT.pair RdT.int (RdT.pair RdT.int (RdT.pair RdT.str (RdT.pair RdT.str (RdT.pair RdT.str (RdT.pair RdT.int (RdT.nil 0)))))))) (RdT.pair RdT.int (RdT.pair (RdT.tree mm) (RdT.pair RdT.int (RdT.pair RdT.int RdT.bool)))))))))) hw) _ hy10) ?_
    rintro _ _ ⟨y10x0,rfl,rfl,rfl⟩
    refine sc ?_
    replace hp:=dd hp
    refine s3 ?_
    obtain rfl:=sj hp
    refine s1 ?_
    refine res2 rfl (ResOK.tmp rfl) (ResOK.tmp rfl) ⟨y10x0,true,(y8y0_1,y8y0_2,y8y0_3,a0_4),rfl,rfl,rfl⟩ ms
  ·replace hp:=cond_f q3 hp
   refine s13 ?_
   refine L_build (xs:=[(0,.const (.int .i64 2)),(4,.tmp 89),(6,.tmp 91),(7,.tmp 93),(10,.tmp 95),(9,.const (.int .i64 (-1)))]) (cs:=[.int .i64 2,.int .i64 0,.int .i64 0,.int .i64 0,.int .i64 0,.int .i64 a1_6,.int .i64 0,.int .i64 0,.int .i64 0,.string ByteArray.empty,.string ByteArray.empty,.string ByteArray.empty,.int .i64 0,(TL.hdr (TL.nil ByteArray 0)),.int .i64 y1x0_14,(TL.hdr y1x0_15),.int .i64 0,.int .i64 (-1),.bool y1x0_16]) rfl rfl bld103.h rfl ?_
   replace hp:=ba hp;obtain ⟨y11,hy11,hp⟩:=hp
   refine L_callR rfl fn198.h rfl (by exact fun w hw=>i_ENode_reply_walk w b0_ (a0_1,a0_2,a0_3,a0_4) (a1_1,a1_2,a1_3,(a1_4,a1_5),a1_6,(a1_7,a1_8,a1_9,a1_10,a1_11,a1_12,a1_13,a1_14),a1_15,a1_16,a1_17,a1_18,a1_19) (2,0,0,(0,0),a1_6,(0,0,0,ByteArray.empty,ByteArray.empty,ByteArray.empty,0,(TL.nil ByteArray 0)),y1x0_14,y1x0_15,0,(-1),y1x0_16) (cells_of_blk mm hw.sees) (RdT.now (RdT.pair RdT.int (RdT.pair RdT.int (RdT.pair (RdT.tree mm) (RdT.tree mm)))) hw) (RdT.now (RdT.pair RdT.int (RdT.pair RdT.int (RdT.pair RdT.int (RdT.pair (RdT.pair RdT.int RdT.int) (RdT.pair RdT.int (RdT.pair (RdT.pair RdT.int (RdT.pair RdT.int (RdT.pair RdT.int (RdT.pair RdT.str (RdT.pair RdT.str (RdT.pair RdT.str (RdT.pair RdT.int (RdT.old h1.2.2.2.2.2.1.2.2.2.2.2.2.2)))))))) (RdT.pair RdT.int (RdT.pair (RdT.old h1.2.2.2.2.2.2.2.1) (RdT.pair RdT.int (RdT.pair RdT.int RdT.bool)))))))))) hw) (RdT.now (RdT.pair RdT.int (RdT.pair RdT.int (RdT.pair RdT.int (RdT.pair (RdT.pair RdT.int RdT.int) (RdT.pair RdT.int (RdT.pair (RdT.pair RdT.int (RdT.pair RdT.int (RdT.pair RdT.int (RdT.pair RdT.str (RdT.pair RdT.str (RdT.pair RdT.str (RdT.pair RdT.int (RdT.nil 0)))))))) (RdT.pair RdT.int (RdT.pair (RdT.tree mm) (RdT.pair RdT.int (RdT.pair RdT.int RdT.bool)))))))))) hw) _ hy11) ?_
   rintro _ _ ⟨y11x0,rfl,rfl,rfl⟩
   refine sc ?_
   replace hp:=dd hp
   refine s3 ?_
   obtain rfl:=sj hp
   refine s1 ?_
   refine res2 rfl (ResOK.tmp rfl) (ResOK.tmp rfl) ⟨y11x0,true,(a0_1,a0_2,a0_3,a0_4),rfl,rfl,rfl⟩ ms
noncomputable def sl_Index_intint (a0:List Int) (a1:Int):Option Int :=
 whileP (fun s1:Int=>cond (decide (s1 < (a0.length:Int))) (Option.bind (idx a0 s1) (fun y3=>cond (decide (a1=y3)) (Option.map .inr (some s1)) (some (.inl (IntKind.wrap .i64 (s1+1)))))) (Option.map .inr (some (-1)))) 0
theorem sl_Index_intint_walk (w:World) (a0:TL Int) (a1:Int) (h0:GT.rd w [] a0) (r:Int) (hp:sl_Index_intint (GT.dat a0) a1=some r):Spec Tryz.prog 228 [(TL.hdr a0),.int .i64 a1].toArray w [] (IsV (.int .i64 r)):=by
 refine Spec.intro Tryz.func228 rfl Tryz.ntmps228 rfl ?_
 unfold sl_Index_intint at hp
 replace hp:=dd hp
 refine s12 ?_
 refine W_while (σ:=Int) GT.dat (fun (v1_0:Int)=>[(8,.int .i64 v1_0)]) (fun (v1_0:Int)=>[]) [(0,_),(1,_),(7,_)] [] 0 hp sb ms ?_
 clear hp
 rintro v1_0 x1 hp hx1
 replace hp:=dd hp
 refine kq [0,1,7,8] ?_
 refine s5 ?_
 refine kp [0,1,7,8,9] ?_
 refine W_cond rfl (fun q2=>?_) (fun q2=>?_)
 ·replace hp:=cond_t q2 hp
  refine s13 ?_
  replace hp:=idx_bind hp;obtain ⟨u3,hy3,hp⟩:=hp
  refine L_idxA (X:=a0) rfl rfl rfl el78.h (RdT.old h0) hy3 ?_
  refine L_load0 rfl rfl (RdT.at (RdT.old h0) (hy3).2) one3.h rfl ?_
  refine s2 ?_
  refine kp [0,1,5,7,8,16] ?_
  refine W_cond rfl (fun q4=>?_) (fun q4=>?_)
  ·replace hp:=cond_t q4 hp
   refine s5 ?_
   replace hp:=map_any hp;obtain ⟨a5,hp,z_5⟩:=hp
   obtain rfl:=hx1 _ z_5
   obtain rfl:=sj hp
   refine s1 ?_
   refine res1 rfl (ResOK.tmp rfl) ⟨rfl,rfl⟩ ms
  ·replace hp:=cond_f q4 hp
   refine s5 ?_
   exact ⟨IntKind.wrap .i64 (v1_0+1),sb,(.sub ms),some_eq hp⟩
 ·replace hp:=cond_f q2 hp
  refine W_exit ?_
  replace hp:=map_any hp;obtain ⟨a6,hp,z_6⟩:=hp
  obtain rfl:=hx1 _ z_6
  refine s4 ?_
  obtain rfl:=sj hp
  refine s1 ?_
  refine res1 rfl (ResOK.tmp rfl) ⟨rfl,rfl⟩ ms
noncomputable def sl_Contains_intint (a0:List Int) (a1:Int):Option Bool :=
 Option.bind (sl_Index_intint a0 a1) (fun y1=>some (decide (0≤y1)))
theorem sl_Contains_intint_walk (w:World) (a0:TL Int) (a1:Int) (h0:GT.rd w [] a0) (r:Bool) (hp:sl_Contains_intint (GT.dat a0) a1=some r):Spec Tryz.prog 199 [(TL.hdr a0),.int .i64 a1].toArray w [] (IsV (.bool r)):=by
 refine Spec.intro Tryz.func199 rfl Tryz.ntmps199 rfl ?_
 unfold sl_Contains_intint at hp
 replace hp:=dd hp
 refine s8 ?_
 replace hp:=ba hp;obtain ⟨y1,hy1,hp⟩:=hp
 refine L_callX rfl fn228.h rfl (by exact fun w hw=>sl_Index_intint_walk w a0 a1 (RdT.now (RdT.old h0) hw) _ hy1) ?_
 refine s3 ?_
 obtain rfl:=sj hp
 refine s1 ?_
 refine res1 rfl (ResOK.tmp rfl) ⟨rfl,rfl⟩ ms
noncomputable def i_ENode_preOk (a0:D_ENode) (a1:D_EMsg):Option ((List D_EMsg)×Bool×D_ENode) :=
 Option.bind (i_ENode_lead (a0.1,a0.2.1,a0.2.2.1,a0.2.2.2) (a1.2.2.2.1.1,a1.2.2.2.1.2)) (fun y1=>gb (!(decide (y1 < 0))) (idx a0.2.2.2 y1) (fun y2=>gb (!((decide (y1 < 0))||(!decide (y2.2.1=a1.2.2.2.2.1)))) (idx a0.2.2.2 y1) (fun y3=>gb (!(((decide (y1 < 0))||(!decide (y2.2.1=a1.2.2.2.2.1)))||(!decide (y3.2.2.1=1)))) (idx a0.2.2.2 y1) (fun y4=>gb (!(((decide (y1 < 0))||(!decide (y2.2.1=a1.2.2.2.2.1)))||(!decide (y3.2.2.1=1)))) (sl_Contains_intint y4.2.2.2.2.2.1 a1.2.1) (fun y5=>cond ((((decide (y1 < 0))||(!decide (y2.2.1=a1.2.2.2.2.1)))||(!decide (y3.2.2.1=1)))||y5) (some (([]:List D_EMsg),false,(a0.1,a0.2.1,a0.2.2.1,a0.2.2.2))) (Option.bind (idx a0.2.2.2 y1) (fun y7=>Option.bind (appP y7.2.2.2.2.2.1 [a1.2.1]) (fun y8=>Option.bind (some (a0.2.2.2.set (y1.toNat) ((y7.1.1,y7.1.2),y7.2.1,y7.2.2.1,y7.2.2.2.1,y7.2.2.2.2.1,y8,y7.2.2.2.2.2.2))) (fun y10=>Option.bind (idx y10 y1) (fun y12=>Option.bind (sortIP y12.2.2.2.2.2.1) (fun y13=>Option.bind (some (y10.set (y1.toNat) ((y12.1.1,y12.1.2),y12.2.1,y12.2.2.1,y12.2.2.2.1,y12.2.2.2.2.1,y13,y12.2.2.2.2.2.2))) (fun y14=>Option.bind (idx y14 y1) (fun y16=>Option.bind (some (y14.set (y1.toNat) ((y16.1.1,y16.1.2),y16.2.1,y16.2.2.1,(if y16.2.2.2.1 < a1.2.2.2.2.2.2.1 then a1.2.2.2.2.2.2.1 else y16.2.2.2.1),y16.2.2.2.2.1,y16.2.2.2.2.2.1,y16.2.2.2.2.2.2))) (fun y17=>Option.bind (idx y17 y1) (fun y19=>Option.bind (i_JoinIds y19.2.2.2.2.1 a1.2.2.2.2.2.2.2.1) (fun y20=>Option.bind (some (y17.set (y1.toNat) ((y19.1.1,y19.1.2),y19.2.1,y19.2.2.1,y19.2.2.2.1,y20,y19.2.2.2.2.2.1,y19.2.2.2.2.2.2))) (fun y21=>Option.bind (idx y21 y1) (fun y23=>Option.bind (some (y21.set (y1.toNat) ((y23.1.1,y23.1.2),y23.2.1,y23.2.2.1,y23.2.2.2.1,y23.2.2.2.2.1,y23.2.2.2.2.2.1,(y23.2.2.2.2.2.2&&a1.2.2.2.2.2.2.2.2.2.2)))) (fun y24=>Option.bind (idx y24 y1) (fun y26=>cond ((!decide (y26.2.1=a1.2.2.2.1.1))||(!y26.2.2.2.2.2.2)) (Option.bind (i_ENode_settle (a0.1,a0.2.1,a0.2.2.1,y24) y1 2) (fun y28=>some (y28.1,true,(y28.2.1,y28.2.2.1,y28.2.2.2.1,y28.2.2.2.2)))) (cond (decide (2≤(y26.2.2.2.2.2.1.length:Int))) (Option.bind (i_ENode_settle (a0.1,a0.2.1,a0.2.2.1,y24) y1 3) (fun y30=>some (y30.1,true,(y30.2.1,y30.2.2.1,y30.2.2.2.1,y30.2.2.2.2)))) (some (([]:List D_EMsg),true,(a0.1,a0.2.1,a0.2.2.1,y24))))))))))))))))))))))))
theorem i_ENode_preOk_walk (w:World) (b0_:Nat) (a0:T_ENode) (a1:T_EMsg) (h1:GT.rd w (fps [blk b0_ (GT.cells a0) 44,treeH a0.2.2.1,treeH a0.2.2.2]) a1) (r:(List D_EMsg)×Bool×D_ENode) (hp:i_ENode_preOk (GT.dat a0) (GT.dat a1)=some r):Spec Tryz.prog 171 [Value.pointer (some ⟨b0_,0,none⟩),.agg (GT.cells a1).toArray].toArray w [blk b0_ (GT.cells a0) 44,treeH a0.2.2.1,treeH a0.2.2.2] (fun v M=>∃ (x0:TL T_EMsg) (x1:Bool) (y0:T_ENode),v=.tuple #[(TL.hdr x0),.bool x1]∧(GT.dat x0,GT.dat x1,GT.dat y0)=r∧M=[treeH x0,blk b0_ (GT.cells y0) 44,treeH y0.2.2.1,treeH y0.2.2.2]):=by
 obtain ⟨a0_1,a0_2,a0_3,a0_4⟩:=a0
 obtain ⟨a1_1,a1_2,a1_3,⟨a1_4,a1_5⟩,a1_6,⟨a1_7,a1_8,a1_9,a1_10,a1_11,a1_12,a1_13,a1_14⟩,a1_15,a1_16,a1_17,a1_18,a1_19⟩:=a1
 change Spec _ _ ([Value.pointer (some ⟨b0_,0,none⟩),Value.agg #[.int .i64 a1_1,.int .i64 a1_2,.int .i64 a1_3,.int .i64 a1_4,.int .i64 a1_5,.int .i64 a1_6,.int .i64 a1_7,.int .i64 a1_8,.int .i64 a1_9,.string a1_10,.string a1_11,.string a1_12,.int .i64 a1_13,(TL.hdr a1_14),.int .i64 a1_15,(TL.hdr a1_16),.int .i64 a1_17,.int .i64 a1_18,.bool a1_19]]:List Value).toArray w _ _
 refine Spec.intro Tryz.func171 rfl Tryz.ntmps171 rfl ?_
 unfold i_ENode_preOk at hp
 replace hp:=dd hp
 refine s2 ?_
 refine bx fun bk3=>?_
 refine L_assign (v:=(TL.hdr (TL.nil T_EMsg 0))) rfl rfl ?_
 refine s6 ?_
 refine L_loadW rfl rfl (RdC.seg (RdC.blk mm) 3 2 rfl) (by exact agg35.h) ?_
 replace hp:=ba hp;obtain ⟨y1,hy1,hp⟩:=hp
 refine L_callX rfl fn112.h rfl (by exact fun w hw=>i_ENode_lead_walk w b0_ (a0_1,a0_2,a0_3,a0_4) (a1_4,a1_5) (cells_of_blk mm hw.sees) (RdT.now (RdT.pair RdT.int (RdT.pair RdT.int (RdT.pair (RdT.tree mm) (RdT.tree mm)))) hw) (RdT.now (RdT.pair RdT.int RdT.int) hw) _ hy1) ?_
 refine s4 ?_
 replace hp:=idx_gb hp;obtain ⟨⟨⟨u2_1,u2_2⟩,u2_3,u2_4,u2_5,u2_6,u2_7,u2_8⟩,hy2,hp⟩:=hp
 replace hp:=idx_gb hp;obtain ⟨⟨⟨u3_1,u3_2⟩,u3_3,u3_4,u3_5,u3_6,u3_7,u3_8⟩,hy3,hp⟩:=hp
 replace hp:=idx_gb hp;obtain ⟨⟨⟨u4_1,u4_2⟩,u4_3,u4_4,u4_5,u4_6,u4_7,u4_8⟩,hy4,hp⟩:=hp
 replace hp:=gb_any hp;obtain ⟨y5,hy5,hp⟩:=hp
 refine W_D0 [50] mix (by kernel_rfl) rfl ?_
 refine s8 ?_
 refine D_idxA (X:=a0_4) (GC.some rfl rfl) (OpV.s rfl) (OpV.s rfl) el42.h (RdT.tree mm) (fun hg=>hy2 (gnot hg.2)) ?_
 refine s1 ?_
 refine D_load (GC.some rfl rfl) (OpV.s rfl) (fun hg=>RdT.at (RdT.tree mm) (hy2 (gnot hg.2)).2) one3.h rfl ?_
 refine s10 ?_
 refine D_idxA (X:=a0_4) (GC.some rfl rfl) (OpV.s rfl) (OpV.s rfl) el42.h (RdT.tree mm) (fun hg=>hy3 (gnot hg.2)) ?_
 refine s1 ?_
 refine D_load (GC.some rfl rfl) (OpV.s rfl) (fun hg=>RdT.at (RdT.tree mm) (hy3 (gnot hg.2)).2) one3.h rfl ?_
 refine s8 ?_
 refine D_idxA (X:=a0_4) (GC.some rfl rfl) (OpV.s rfl) (OpV.s rfl) el42.h (RdT.tree mm) (fun hg=>hy4 (gnot hg.2)) ?_
 refine s1 ?_
 refine D_load (GC.some rfl rfl) (OpV.s rfl) (fun hg=>RdT.at (RdT.tree mm) (hy4 (gnot hg.2)).2) one78.h rfl ?_
 refine s2 ?_
 refine D_callX (GC.some rfl rfl) fn199.h (OpVs.cons (OpV.s rfl) (OpVs.cons (OpV.s rfl) (OpVs.nil))) (by exact fun hg w F hF hM=>sl_Contains_intint_walk w u4_7 a1_2 (RdT.nowS (RdT.fst (RdT.snd (RdT.snd (RdT.snd (RdT.snd (RdT.snd (RdT.of (RdT.tree mm) (hy4 (gnot hg.2)).2))))))) hF hM) _ (hy5 (gnot hg.2))) ?_
 refine s20 ?_
 refine s20 ?_
 refine s2 ?_
 refine kp [0,3,6,50] ?_
 refine W_cond rfl (fun q6=>?_) (fun q6=>?_)
 ·replace hp:=cond_t q6 hp
  refine s2 ?_
  refine L_assign (v:=(TL.hdr (TL.nil T_EMsg 0))) rfl rfl ?_
  refine s2 ?_
  obtain rfl:=sj hp
  refine W_conv (M':=treeH (TL.nil T_EMsg 0)::_) (fun w h=>addNilT (τ:=T_EMsg) 0 h) ?_
  refine s1 ?_
  refine res2 rfl (ResOK.tmp rfl) (ResOK.tmp rfl) ⟨(TL.nil T_EMsg 0),false,(a0_1,a0_2,a0_3,a0_4),rfl,rfl,rfl⟩ ms
 ·replace hp:=cond_f q6 hp
  refine s8 ?_
  replace hp:=idx_bind hp;obtain ⟨⟨⟨u7_1,u7_2⟩,u7_3,u7_4,u7_5,u7_6,u7_7,u7_8⟩,hy7,hp⟩:=hp
  refine L_idxA (X:=a0_4) rfl rfl rfl el42.h (RdT.tree mm) hy7 ?_
  refine s3 ?_
  refine W_conv (M':=treeH ((u7_1,u7_2),u7_3,u7_4,u7_5,u7_6,u7_7,u7_8)::holeH a0_4 (y1.toNat) (GT.cells ((u7_1,u7_2),u7_3,u7_4,u7_5,u7_6,u7_7,u7_8))::_) (fun w h=>hole_open hy7.2 pk h) ?_
  refine xW (((u7_1,u7_2),u7_3,u7_4,u7_5,u7_6,u7_7,u7_8):T_Lead) ?_
  replace hp:=ba hp;obtain ⟨y8,hy8,hp⟩:=hp
  refine W_DS (pre:=[_,_,_,_,_,_,_,_,_]) (suf:=[_,_,_]) [57,65] [treeH u7_7] _ pc mix (by kernel_rfl) (by kernel_rfl) rfl ?_
  refine s4 ?_
  refine D_load GC.none (OpV.t rfl) (fun hg=>RdC.hole (X:=a0_4) mm) one78.h rfl ?_
  refine s2 ?_
  refine D_bs1 (OpV.t rfl) el78.h rfl (by decide) (by decide) rfl ?_
  refine D_app1F (X:=u7_7) (t:=64) (a1_2:Int) (OpV.t rfl) rfl el78.h rfl rfl pk hy8 (by decide) (by kernel_rfl) ?_
  refine s1 ?_
  refine Give_R rfl rfl ?_
  rintro _ _ ⟨X9,rfl,rfl,rfl⟩
  simp only [List.cons_append,List.nil_append]
  refine s11 ?_
  refine L_stH (X:=a0_4) (i:=y1.toNat) (sz:=8) (fo:=6) (n:=1) rfl rfl pk rfl (.inr ⟨one78.h,rfl⟩) rfl (allOne rfl) (Nat.le_of_ble_eq_true rfl) ?_
  refine jL (((u7_1,u7_2),u7_3,u7_4,u7_5,u7_6,X9,u7_8):T_Lead) ?_
  replace hp:=ba hp;obtain ⟨y10,hy10,hp⟩:=hp
  refine L_close (X:=a0_4) (((u7_1,u7_2),u7_3,u7_4,u7_5,u7_6,X9,u7_8):T_Lead) rfl pk pk hy10 (fun X11 hdX11 hhX11=>?_)
  subst hdX11
  try simp only [cells_pair,cells_int,cells_bool,cells_str,cells_TL,List.cons_append,List.nil_append]
  try rw [← hhX11]
  try rw [← g_of_hdr hhX11]
  try rw [← o_of_hdr hhX11]
  refine s6 ?_
  replace hp:=idx_bind hp;obtain ⟨⟨⟨u12_1,u12_2⟩,u12_3,u12_4,u12_5,u12_6,u12_7,u12_8⟩,hy12,hp⟩:=hp
  refine L_load rfl rfl (RdT.at (RdT.tree mm) (hy12).2) one78.h rfl ?_
  replace hp:=ba hp;obtain ⟨y13,hy13,hp⟩:=hp
  refine L_conv (M':=treeH ((u12_1,u12_2),u12_3,u12_4,u12_5,u12_6,u12_7,u12_8)::holeH X11 (y1.toNat) (GT.cells ((u12_1,u12_2),u12_3,u12_4,u12_5,u12_6,u12_7,u12_8))::_) (fun w h=>hole_open hy12.2 pk h) ?_
  refine xL (((u12_1,u12_2),u12_3,u12_4,u12_5,u12_6,u12_7,u12_8):T_Lead) ?_
  refine L_callM [treeH u12_7] _ rfl fn200.h rfl pc (by exact fun w hw=>sl_Sort_intint_walk w u12_7  _ hy13) ?_
  rintro _ _ ⟨y13y0,rfl,rfl,rfl,hey13_0⟩
  try simp only [cells_pair,cells_int,cells_bool,cells_str,cells_TL,List.cons_append,List.nil_append]
  try rw [← hey13_0]
  try simp only [cells_pair,cells_int,cells_bool,cells_str,cells_TL,List.cons_append,List.nil_append]
  replace hp:=dd hp
  refine jL (((u12_1,u12_2),u12_3,u12_4,u12_5,u12_6,y13y0,u12_8):T_Lead) ?_
  replace hp:=ba hp;obtain ⟨y14,hy14,hp⟩:=hp
  refine L_close (X:=X11) (((u12_1,u12_2),u12_3,u12_4,u12_5,u12_6,y13y0,u12_8):T_Lead) rfl pk pk hy14 (fun X15 hdX15 hhX15=>?_)
  subst hdX15
  try simp only [cells_pair,cells_int,cells_bool,cells_str,cells_TL,List.cons_append,List.nil_append]
  try rw [← hhX15]
  try rw [← g_of_hdr hhX15]
  try rw [← o_of_hdr hhX15]
  refine s2 ?_
  replace hp:=idx_bind hp;obtain ⟨⟨⟨u16_1,u16_2⟩,u16_3,u16_4,u16_5,u16_6,u16_7,u16_8⟩,hy16,hp⟩:=hp
  refine W_DS (pre:=[_,_,_,_,_,_,_,_]) (suf:=[_,_,_]) [73,80] [] _ pc mix (by kernel_rfl) (by kernel_rfl) rfl ?_
  refine s4 ?_
  refine D_load GC.none (OpV.t rfl) (fun hg=>RdT.at (RdT.tree mm) (hy16).2) one3.h rfl ?_
  refine s2 ?_
  refine D_max GC.none (OpV.t rfl) (OpV.t rfl) ?_
  refine s12 ?_
  refine L_conv (M':=treeH ((u16_1,u16_2),u16_3,u16_4,u16_5,u16_6,u16_7,u16_8)::holeH X15 (y1.toNat) (GT.cells ((u16_1,u16_2),u16_3,u16_4,u16_5,u16_6,u16_7,u16_8))::_) (fun w h=>hole_open hy16.2 pk h) ?_
  refine xL (((u16_1,u16_2),u16_3,u16_4,u16_5,u16_6,u16_7,u16_8):T_Lead) ?_
  refine L_stH (X:=X15) (i:=y1.toNat) (sz:=8) (fo:=4) (n:=1) rfl rfl pk rfl (.inr ⟨one3.h,rfl⟩) rfl (allOne rfl) (Nat.le_of_ble_eq_true rfl) ?_
  refine jL (((u16_1,u16_2),u16_3,u16_4,(if u16_5 < a1_15 then a1_15 else u16_5),u16_6,u16_7,u16_8):T_Lead) ?_
  replace hp:=ba hp;obtain ⟨y17,hy17,hp⟩:=hp
  refine L_close (X:=X15) (((u16_1,u16_2),u16_3,u16_4,(if u16_5 < a1_15 then a1_15 else u16_5),u16_6,u16_7,u16_8):T_Lead) rfl pk pk hy17 (fun X18 hdX18 hhX18=>?_)
  subst hdX18
  try simp only [cells_pair,cells_int,cells_bool,cells_str,cells_TL,List.cons_append,List.nil_append]
  try rw [← hhX18]
  try rw [← g_of_hdr hhX18]
  try rw [← o_of_hdr hhX18]
  refine s2 ?_
  replace hp:=idx_bind hp;obtain ⟨⟨⟨u19_1,u19_2⟩,u19_3,u19_4,u19_5,u19_6,u19_7,u19_8⟩,hy19,hp⟩:=hp
  replace hp:=ba hp;obtain ⟨y20,hy20,hp⟩:=hp
  refine W_DS (pre:=[_,_,_,_,_,_,_,_]) (suf:=[_,_,_]) [83,90] [] _ pc mix (by kernel_rfl) (by kernel_rfl) rfl ?_
  refine s4 ?_
  refine D_load GC.none (OpV.t rfl) (fun hg=>RdT.at (RdT.tree mm) (hy19).2) one31.h rfl ?_
  refine s2 ?_
  refine D_call1R (fun v M=>∃ (x0:TL T_Id),v=(TL.hdr x0)∧GT.dat x0=y20∧M=[treeH x0]) fn197.h (OpVs.cons (OpV.t rfl) (OpVs.cons (OpV.t rfl) (OpVs.nil))) (by exact fun w F hF hM=>i_JoinIds_walk w u19_6 a1_16 (RdT.nowS (RdT.fst (RdT.snd (RdT.snd (RdT.snd (RdT.snd (RdT.of (RdT.tree mm) (hy19).2)))))) hF hM) (RdT.nowS (RdT.old h1.2.2.2.2.2.2.2.1) hF hM) _ hy20) ?_
  refine s1 ?_
  refine Give_R rfl rfl ?_
  rintro _ _ ⟨y20x0,rfl,rfl,rfl⟩
  refine s8 ?_
  refine sc ?_
  replace hp:=dd hp
  refine s2 ?_
  refine L_conv (M':=treeH ((u19_1,u19_2),u19_3,u19_4,u19_5,u19_6,u19_7,u19_8)::holeH X18 (y1.toNat) (GT.cells ((u19_1,u19_2),u19_3,u19_4,u19_5,u19_6,u19_7,u19_8))::_) (fun w h=>hole_open hy19.2 pk h) ?_
  refine xL (((u19_1,u19_2),u19_3,u19_4,u19_5,u19_6,u19_7,u19_8):T_Lead) ?_
  refine L_stH (X:=X18) (i:=y1.toNat) (sz:=8) (fo:=5) (n:=1) rfl rfl pk rfl (.inr ⟨one31.h,rfl⟩) rfl (allOne rfl) (Nat.le_of_ble_eq_true rfl) ?_
  refine jL (((u19_1,u19_2),u19_3,u19_4,u19_5,y20x0,u19_7,u19_8):T_Lead) ?_
  replace hp:=ba hp;obtain ⟨y21,hy21,hp⟩:=hp
  refine L_close (X:=X18) (((u19_1,u19_2),u19_3,u19_4,u19_5,y20x0,u19_7,u19_8):T_Lead) rfl pk pk hy21 (fun X22 hdX22 hhX22=>?_)
  subst hdX22
  try simp only [cells_pair,cells_int,cells_bool,cells_str,cells_TL,List.cons_append,List.nil_append]
  try rw [← hhX22]
  try rw [← g_of_hdr hhX22]
  try rw [← o_of_hdr hhX22]
  refine s2 ?_
  replace hp:=idx_bind hp;obtain ⟨⟨⟨u23_1,u23_2⟩,u23_3,u23_4,u23_5,u23_6,u23_7,u23_8⟩,hy23,hp⟩:=hp
  refine W_DS (pre:=[_,_,_,_,_,_,_,_,_]) (suf:=[_,_,_]) [93,101] [] _ pc mix (by kernel_rfl) (by kernel_rfl) rfl ?_
  refine s4 ?_
  refine D_load GC.none (OpV.t rfl) (fun hg=>RdT.at (RdT.tree mm) (hy23).2) one4.h rfl ?_
  refine s17 ?_
  refine L_conv (M':=treeH ((u23_1,u23_2),u23_3,u23_4,u23_5,u23_6,u23_7,u23_8)::holeH X22 (y1.toNat) (GT.cells ((u23_1,u23_2),u23_3,u23_4,u23_5,u23_6,u23_7,u23_8))::_) (fun w h=>hole_open hy23.2 pk h) ?_
  refine xL (((u23_1,u23_2),u23_3,u23_4,u23_5,u23_6,u23_7,u23_8):T_Lead) ?_
  refine L_stH (X:=X22) (i:=y1.toNat) (sz:=8) (fo:=7) (n:=1) rfl rfl pk rfl (.inr ⟨one4.h,rfl⟩) rfl (allOne rfl) (Nat.le_of_ble_eq_true rfl) ?_
  refine jL (((u23_1,u23_2),u23_3,u23_4,u23_5,u23_6,u23_7,(u23_8&&a1_19)):T_Lead) ?_
  replace hp:=ba hp;obtain ⟨y24,hy24,hp⟩:=hp
  refine L_close (X:=X22) (((u23_1,u23_2),u23_3,u23_4,u23_5,u23_6,u23_7,(u23_8&&a1_19)):T_Lead) rfl pk pk hy24 (fun X25 hdX25 hhX25=>?_)
  subst hdX25
  try simp only [cells_pair,cells_int,cells_bool,cells_str,cells_TL,List.cons_append,List.nil_append]
  try rw [← hhX25]
  try rw [← g_of_hdr hhX25]
  try rw [← o_of_hdr hhX25]
  refine s4 ?_
  replace hp:=idx_bind hp;obtain ⟨⟨⟨u26_1,u26_2⟩,u26_3,u26_4,u26_5,u26_6,u26_7,u26_8⟩,hy26,hp⟩:=hp
  refine W_D0 [104] mix (by kernel_rfl) rfl ?_
  refine s3 ?_
  refine D_load GC.none (OpV.t rfl) (fun hg=>RdT.at (RdT.tree mm) (hy26).2) one3.h rfl ?_
  refine s2 ?_
  refine D_load (fo:=3) GC.none (OpV.t rfl) (fun hg=>RdC.blk mm) one3.h rfl ?_
  refine s5 ?_
  refine D_load (GC.some rfl rfl) (OpV.s rfl) (fun hg=>RdT.at (RdT.tree mm) (hy26).2) one4.h rfl ?_
  refine s20 ?_
  refine s1 ?_
  refine kp [0,6,7,104] ?_
  refine W_cond rfl (fun q27=>?_) (fun q27=>?_)
  ·replace hp:=cond_t q27 hp
   refine s4 ?_
   replace hp:=ba hp;obtain ⟨y28,hy28,hp⟩:=hp
   refine L_callM [blk b0_ _ _,treeH a0_3,treeH X25] _ rfl fn126.h rfl pc (by exact fun w hw=>i_ENode_settle_walk w b0_ (a0_1,a0_2,a0_3,X25) y1 2  _ hy28) ?_
   rintro _ _ ⟨y28x0,⟨y28y0_1,y28y0_2,y28y0_3,y28y0_4⟩,rfl,rfl,rfl⟩
   refine sc ?_
   replace hp:=dd hp
   refine s3 ?_
   obtain rfl:=sj hp
   refine s1 ?_
   refine res2 rfl (ResOK.tmp rfl) (ResOK.tmp rfl) ⟨y28x0,true,(y28y0_1,y28y0_2,y28y0_3,y28y0_4),rfl,rfl,rfl⟩ ms
  ·replace hp:=cond_f q27 hp
   refine s5 ?_
   refine L_load rfl rfl (RdT.at (RdT.tree mm) (hy26).2) one78.h rfl ?_
   refine s4 ?_
   refine kp [0,6,123] ?_
   refine W_cond rfl (fun q29=>?_) (fun q29=>?_)
   ·replace hp:=cond_t q29 hp
    refine s4 ?_
    replace hp:=ba hp;obtain ⟨y30,hy30,hp⟩:=hp
    refine L_callM [blk b0_ _ _,treeH a0_3,treeH X25] _ rfl fn126.h rfl pc (by exact fun w hw=>i_ENode_settle_walk w b0_ (a0_1,a0_2,a0_3,X25) y1 3  _ hy30) ?_
    rintro _ _ ⟨y30x0,⟨y30y0_1,y30y0_2,y30y0_3,y30y0_4⟩,rfl,rfl,rfl⟩
    refine sc ?_
    replace hp:=dd hp
    refine s3 ?_
    obtain rfl:=sj hp
    refine s1 ?_
    refine res2 rfl (ResOK.tmp rfl) (ResOK.tmp rfl) ⟨y30x0,true,(y30y0_1,y30y0_2,y30y0_3,y30y0_4),rfl,rfl,rfl⟩ ms
   ·replace hp:=cond_f q29 hp
    refine s3 ?_
    refine L_assign (v:=(TL.hdr (TL.nil T_EMsg 0))) rfl rfl ?_
    refine s2 ?_
    obtain rfl:=sj hp
    refine W_conv (M':=treeH (TL.nil T_EMsg 0)::_) (fun w h=>addNilT (τ:=T_EMsg) 0 h) ?_
    refine s1 ?_
    refine res2 rfl (ResOK.tmp rfl) (ResOK.tmp rfl) ⟨(TL.nil T_EMsg 0),true,(a0_1,a0_2,a0_3,X25),rfl,rfl,rfl⟩ ms
noncomputable def i_ENode_acc (a0:D_ENode) (a1:D_EMsg):Option ((List D_EMsg)×Bool×D_ENode) :=
 Option.bind (i_InstAt a0.2.2.1 (a1.2.2.2.1.1,a1.2.2.2.1.2)) (fun y1=>cond ((decide (a1.2.2.2.2.1 < y1.2.1))||(decide (y1.2.2.2.1=3))) (some (([]:List D_EMsg),false,(a0.1,a0.2.1,a0.2.2.1,a0.2.2.2))) (Option.bind (i_ENode_put (a0.1,a0.2.1,a0.2.2.1,a0.2.2.2) ((a1.2.2.2.1.1,a1.2.2.2.1.2),a1.2.2.2.2.1,a1.2.2.2.2.1,2,(a1.2.2.2.2.2.1.1,a1.2.2.2.2.2.1.2.1,a1.2.2.2.2.2.1.2.2.1,a1.2.2.2.2.2.1.2.2.2.1,a1.2.2.2.2.2.1.2.2.2.2.1,a1.2.2.2.2.2.1.2.2.2.2.2.1,a1.2.2.2.2.2.1.2.2.2.2.2.2.1,a1.2.2.2.2.2.1.2.2.2.2.2.2.2),a1.2.2.2.2.2.2.1,a1.2.2.2.2.2.2.2.1,false)) (fun y3=>cond (!y3.1) (some (([]:List D_EMsg),false,(y3.2.1,y3.2.2.1,y3.2.2.2.1,y3.2.2.2.2))) (Option.bind (i_ENode_reply (y3.2.1,y3.2.2.1,y3.2.2.2.1,y3.2.2.2.2) (a1.1,a1.2.1,a1.2.2.1,(a1.2.2.2.1.1,a1.2.2.2.1.2),a1.2.2.2.2.1,(a1.2.2.2.2.2.1.1,a1.2.2.2.2.2.1.2.1,a1.2.2.2.2.2.1.2.2.1,a1.2.2.2.2.2.1.2.2.2.1,a1.2.2.2.2.2.1.2.2.2.2.1,a1.2.2.2.2.2.1.2.2.2.2.2.1,a1.2.2.2.2.2.1.2.2.2.2.2.2.1,a1.2.2.2.2.2.1.2.2.2.2.2.2.2),a1.2.2.2.2.2.2.1,a1.2.2.2.2.2.2.2.1,a1.2.2.2.2.2.2.2.2.1,a1.2.2.2.2.2.2.2.2.2.1,a1.2.2.2.2.2.2.2.2.2.2) (4,0,0,(0,0),a1.2.2.2.2.1,(0,0,0,ByteArray.empty,ByteArray.empty,ByteArray.empty,0,([]:List ByteArray)),0,([]:List D_Id),0,(-1),false)) (fun y5=>some (y5,true,(y3.2.1,y3.2.2.1,y3.2.2.2.1,y3.2.2.2.2)))))))
theorem i_ENode_acc_walk (w:World) (b0_:Nat) (a0:T_ENode) (a1:T_EMsg) (h1:GT.rd w (fps [blk b0_ (GT.cells a0) 44,treeH a0.2.2.1,treeH a0.2.2.2]) a1) (r:(List D_EMsg)×Bool×D_ENode) (hp:i_ENode_acc (GT.dat a0) (GT.dat a1)=some r):Spec Tryz.prog 172 [Value.pointer (some ⟨b0_,0,none⟩),.agg (GT.cells a1).toArray].toArray w [blk b0_ (GT.cells a0) 44,treeH a0.2.2.1,treeH a0.2.2.2] (fun v M=>∃ (x0:TL T_EMsg) (x1:Bool) (y0:T_ENode),v=.tuple #[(TL.hdr x0),.bool x1]∧(GT.dat x0,GT.dat x1,GT.dat y0)=r∧M=[treeH x0,blk b0_ (GT.cells y0) 44,treeH y0.2.2.1,treeH y0.2.2.2]):=by
 obtain ⟨a0_1,a0_2,a0_3,a0_4⟩:=a0
 obtain ⟨a1_1,a1_2,a1_3,⟨a1_4,a1_5⟩,a1_6,⟨a1_7,a1_8,a1_9,a1_10,a1_11,a1_12,a1_13,a1_14⟩,a1_15,a1_16,a1_17,a1_18,a1_19⟩:=a1
 change Spec _ _ ([Value.pointer (some ⟨b0_,0,none⟩),Value.agg #[.int .i64 a1_1,.int .i64 a1_2,.int .i64 a1_3,.int .i64 a1_4,.int .i64 a1_5,.int .i64 a1_6,.int .i64 a1_7,.int .i64 a1_8,.int .i64 a1_9,.string a1_10,.string a1_11,.string a1_12,.int .i64 a1_13,(TL.hdr a1_14),.int .i64 a1_15,(TL.hdr a1_16),.int .i64 a1_17,.int .i64 a1_18,.bool a1_19]]:List Value).toArray w _ _
 refine Spec.intro Tryz.func172 rfl Tryz.ntmps172 rfl ?_
 unfold i_ENode_acc at hp
 replace hp:=dd hp
 refine s2 ?_
 refine bx fun bk3=>?_
 refine L_assign (v:=(TL.hdr (TL.nil T_EMsg 0))) rfl rfl ?_
 refine s3 ?_
 replace hp:=ba hp;obtain ⟨y1,hy1,hp⟩:=hp
 refine W_DS (pre:=[_,_,_,_,_,_,_,_]) (suf:=[_]) [6,13] [] _ pc mix (by kernel_rfl) (by kernel_rfl) rfl ?_
 refine s5 ?_
 refine D_loadW GC.none (OpV.t rfl) (fun hg=>RdC.seg (RdC.blk mm) 3 2 rfl) (by exact agg35.h) ?_
 refine D_call1R (fun v M=>∃ (x0:T_Inst),v=.agg (GT.cells x0).toArray∧GT.dat x0=y1∧M=[treeH x0]) fn41.h (OpVs.cons (OpV.t rfl) (OpVs.cons (OpV.t rfl) (OpVs.nil))) (by exact fun w F hF hM=>i_InstAt_walk w a0_3 (a1_4,a1_5) (RdT.nowS (RdT.tree mm) hF hM) (RdT.nowS (RdT.pair RdT.int RdT.int) hF hM) _ hy1) ?_
 refine D_alloc zero48.h ?_
 refine s1 ?_
 refine Give_R rfl rfl ?_
 rintro _ _ ⟨bk6,rfl,rfl⟩
 simp only [List.cons_append,List.nil_append]
 refine Give_R rfl rfl ?_
 rintro _ _ ⟨⟨⟨y1x0_1,y1x0_2⟩,y1x0_3,y1x0_4,y1x0_5,⟨y1x0_6,y1x0_7,y1x0_8,y1x0_9,y1x0_10,y1x0_11,y1x0_12,y1x0_13⟩,y1x0_14,y1x0_15,y1x0_16⟩,rfl,rfl,rfl⟩
 refine s7 ?_
 refine sc ?_
 replace hp:=dd hp
 refine xL (((y1x0_1,y1x0_2),y1x0_3,y1x0_4,y1x0_5,(y1x0_6,y1x0_7,y1x0_8,y1x0_9,y1x0_10,y1x0_11,y1x0_12,y1x0_13),y1x0_14,y1x0_15,y1x0_16):T_Inst) ?_
 refine s4 ?_
 refine W_D0 [23] mix (by kernel_rfl) rfl ?_
 refine s20 ?_
 refine s2 ?_
 refine kp [0,3,6,23] ?_
 refine W_cond rfl (fun q2=>?_) (fun q2=>?_)
 ·replace hp:=cond_t q2 hp
  refine s2 ?_
  refine L_assign (v:=(TL.hdr (TL.nil T_EMsg 0))) rfl rfl ?_
  refine s2 ?_
  obtain rfl:=sj hp
  refine W_conv (M':=treeH (TL.nil T_EMsg 0)::_) (fun w h=>addNilT (τ:=T_EMsg) 0 h) ?_
  refine s1 ?_
  refine res2 rfl (ResOK.tmp rfl) (ResOK.tmp rfl) ⟨(TL.nil T_EMsg 0),false,(a0_1,a0_2,a0_3,a0_4),rfl,rfl,rfl⟩ ms
 ·replace hp:=cond_f q2 hp
  refine s4 ?_
  refine L_loadW rfl rfl (RdC.seg (RdC.blk mm) 3 2 rfl) (by exact agg35.h) ?_
  refine s5 ?_
  refine L_loadW rfl rfl (RdC.seg (RdC.blk mm) 6 8 rfl) (by exact agg38.h) ?_
  refine s4 ?_
  refine L_build (xs:=[(0,.tmp 25),(1,.tmp 27),(2,.tmp 29),(3,.const (.int .i64 2)),(4,.tmp 31),(5,.tmp 33),(6,.tmp 35)]) (cs:=[.int .i64 a1_4,.int .i64 a1_5,.int .i64 a1_6,.int .i64 a1_6,.int .i64 2,.int .i64 a1_7,.int .i64 a1_8,.int .i64 a1_9,.string a1_10,.string a1_11,.string a1_12,.int .i64 a1_13,(TL.hdr a1_14),.int .i64 a1_15,(TL.hdr a1_16),.bool false]) rfl rfl bld48.h rfl ?_
  refine s7 ?_
  replace hp:=ba hp;obtain ⟨y3,hy3,hp⟩:=hp
  refine L_callM [blk b0_ _ _,treeH a0_3] _ rfl fn122.h rfl pc (by exact fun w hw=>i_ENode_put_walk w b0_ (a0_1,a0_2,a0_3,a0_4) ((a1_4,a1_5),a1_6,a1_6,2,(a1_7,a1_8,a1_9,a1_10,a1_11,a1_12,a1_13,a1_14),a1_15,a1_16,false) ((RdX.pair (RdX.pair RdX.int RdX.int) (RdX.pair RdX.int (RdX.pair RdX.int (RdX.pair RdX.int (RdX.pair (RdX.pair RdX.int (RdX.pair RdX.int (RdX.pair RdX.int (RdX.pair RdX.str (RdX.pair RdX.str (RdX.pair RdX.str (RdX.pair RdX.int (RdX.old h1.2.2.2.2.2.1.2.2.2.2.2.2.2)))))))) (RdX.pair RdX.int (RdX.pair (RdX.old h1.2.2.2.2.2.2.2.1) RdX.bool))))))) w hw) ((RdX.tree mm) w hw) _ hy3) ?_
  rintro _ _ ⟨y3x0,⟨y3y0_1,y3y0_2,y3y0_3,y3y0_4⟩,rfl,rfl,rfl,hey3_0⟩
  obtain rfl:a0_4=y3y0_4:=hey3_0.symm
  refine sc ?_
  replace hp:=dd hp
  refine s2 ?_
  refine kp [0,3,40] ?_
  refine W_cond rfl (fun q4=>?_) (fun q4=>?_)
  ·replace hp:=cond_t q4 hp
   refine s2 ?_
   refine L_assign (v:=(TL.hdr (TL.nil T_EMsg 0))) rfl rfl ?_
   refine s2 ?_
   obtain rfl:=sj hp
   refine W_conv (M':=treeH (TL.nil T_EMsg 0)::_) (fun w h=>addNilT (τ:=T_EMsg) 0 h) ?_
   refine s1 ?_
   refine res2 rfl (ResOK.tmp rfl) (ResOK.tmp rfl) ⟨(TL.nil T_EMsg 0),false,(y3y0_1,y3y0_2,y3y0_3,a0_4),rfl,rfl,rfl⟩ ms
  ·replace hp:=cond_f q4 hp
   refine s7 ?_
   refine L_build (xs:=[(0,.const (.int .i64 4)),(4,.tmp 44),(9,.const (.int .i64 (-1)))]) (cs:=[.int .i64 4,.int .i64 0,.int .i64 0,.int .i64 0,.int .i64 0,.int .i64 a1_6,.int .i64 0,.int .i64 0,.int .i64 0,.string ByteArray.empty,.string ByteArray.empty,.string ByteArray.empty,.int .i64 0,(TL.hdr (TL.nil ByteArray 0)),.int .i64 0,(TL.hdr (TL.nil T_Id 0)),.int .i64 0,.int .i64 (-1),.bool false]) rfl rfl bld103.h rfl ?_
   replace hp:=ba hp;obtain ⟨y5,hy5,hp⟩:=hp
   refine L_callR rfl fn198.h rfl (by exact fun w hw=>i_ENode_reply_walk w b0_ (y3y0_1,y3y0_2,y3y0_3,a0_4) (a1_1,a1_2,a1_3,(a1_4,a1_5),a1_6,(a1_7,a1_8,a1_9,a1_10,a1_11,a1_12,a1_13,a1_14),a1_15,a1_16,a1_17,a1_18,a1_19) (4,0,0,(0,0),a1_6,(0,0,0,ByteArray.empty,ByteArray.empty,ByteArray.empty,0,(TL.nil ByteArray 0)),0,(TL.nil T_Id 0),0,(-1),false) (cells_of_blk mm hw.sees) (RdT.now (RdT.pair RdT.int (RdT.pair RdT.int (RdT.pair (RdT.tree mm) (RdT.tree mm)))) hw) (RdT.now (RdT.pair RdT.int (RdT.pair RdT.int (RdT.pair RdT.int (RdT.pair (RdT.pair RdT.int RdT.int) (RdT.pair RdT.int (RdT.pair (RdT.pair RdT.int (RdT.pair RdT.int (RdT.pair RdT.int (RdT.pair RdT.str (RdT.pair RdT.str (RdT.pair RdT.str (RdT.pair RdT.int (RdT.old h1.2.2.2.2.2.1.2.2.2.2.2.2.2)))))))) (RdT.pair RdT.int (RdT.pair (RdT.old h1.2.2.2.2.2.2.2.1) (RdT.pair RdT.int (RdT.pair RdT.int RdT.bool)))))))))) hw) (RdT.now (RdT.pair RdT.int (RdT.pair RdT.int (RdT.pair RdT.int (RdT.pair (RdT.pair RdT.int RdT.int) (RdT.pair RdT.int (RdT.pair (RdT.pair RdT.int (RdT.pair RdT.int (RdT.pair RdT.int (RdT.pair RdT.str (RdT.pair RdT.str (RdT.pair RdT.str (RdT.pair RdT.int (RdT.nil 0)))))))) (RdT.pair RdT.int (RdT.pair (RdT.nil 0) (RdT.pair RdT.int (RdT.pair RdT.int RdT.bool)))))))))) hw) _ hy5) ?_
   rintro _ _ ⟨y5x0,rfl,rfl,rfl⟩
   refine sc ?_
   replace hp:=dd hp
   refine s3 ?_
   obtain rfl:=sj hp
   refine s1 ?_
   refine res2 rfl (ResOK.tmp rfl) (ResOK.tmp rfl) ⟨y5x0,true,(y3y0_1,y3y0_2,y3y0_3,a0_4),rfl,rfl,rfl⟩ ms
noncomputable def i_ENode_com (a0:D_ENode) (a1:D_EMsg):Option ((List D_EMsg)×Bool×D_ENode) :=
 Option.bind (i_InstAt a0.2.2.1 (a1.2.2.2.1.1,a1.2.2.2.1.2)) (fun y1=>cond (decide (y1.2.2.2.1=3)) (some (([]:List D_EMsg),false,(a0.1,a0.2.1,a0.2.2.1,a0.2.2.2))) (Option.bind (i_ENode_put (a0.1,a0.2.1,a0.2.2.1,a0.2.2.2) ((a1.2.2.2.1.1,a1.2.2.2.1.2),y1.2.1,y1.2.2.1,3,(a1.2.2.2.2.2.1.1,a1.2.2.2.2.2.1.2.1,a1.2.2.2.2.2.1.2.2.1,a1.2.2.2.2.2.1.2.2.2.1,a1.2.2.2.2.2.1.2.2.2.2.1,a1.2.2.2.2.2.1.2.2.2.2.2.1,a1.2.2.2.2.2.1.2.2.2.2.2.2.1,a1.2.2.2.2.2.1.2.2.2.2.2.2.2),a1.2.2.2.2.2.2.1,a1.2.2.2.2.2.2.2.1,false)) (fun y3=>cond (!y3.1) (some (([]:List D_EMsg),false,(y3.2.1,y3.2.2.1,y3.2.2.2.1,y3.2.2.2.2))) (Option.bind (i_ENode_drop (y3.2.1,y3.2.2.1,y3.2.2.2.1,y3.2.2.2.2) (a1.2.2.2.1.1,a1.2.2.2.1.2)) (fun y5=>some (([]:List D_EMsg),true,(y5.1,y5.2.1,y5.2.2.1,y5.2.2.2)))))))
theorem i_ENode_com_walk (w:World) (b0_:Nat) (a0:T_ENode) (a1:T_EMsg) (h1:GT.rd w (fps [blk b0_ (GT.cells a0) 44,treeH a0.2.2.1,treeH a0.2.2.2]) a1) (r:(List D_EMsg)×Bool×D_ENode) (hp:i_ENode_com (GT.dat a0) (GT.dat a1)=some r):Spec Tryz.prog 173 [Value.pointer (some ⟨b0_,0,none⟩),.agg (GT.cells a1).toArray].toArray w [blk b0_ (GT.cells a0) 44,treeH a0.2.2.1,treeH a0.2.2.2] (fun v M=>∃ (x0:TL T_EMsg) (x1:Bool) (y0:T_ENode),v=.tuple #[(TL.hdr x0),.bool x1]∧(GT.dat x0,GT.dat x1,GT.dat y0)=r∧M=[treeH x0,blk b0_ (GT.cells y0) 44,treeH y0.2.2.1,treeH y0.2.2.2]):=by
 obtain ⟨a0_1,a0_2,a0_3,a0_4⟩:=a0
 obtain ⟨a1_1,a1_2,a1_3,⟨a1_4,a1_5⟩,a1_6,⟨a1_7,a1_8,a1_9,a1_10,a1_11,a1_12,a1_13,a1_14⟩,a1_15,a1_16,a1_17,a1_18,a1_19⟩:=a1
 change Spec _ _ ([Value.pointer (some ⟨b0_,0,none⟩),Value.agg #[.int .i64 a1_1,.int .i64 a1_2,.int .i64 a1_3,.int .i64 a1_4,.int .i64 a1_5,.int .i64 a1_6,.int .i64 a1_7,.int .i64 a1_8,.int .i64 a1_9,.string a1_10,.string a1_11,.string a1_12,.int .i64 a1_13,(TL.hdr a1_14),.int .i64 a1_15,(TL.hdr a1_16),.int .i64 a1_17,.int .i64 a1_18,.bool a1_19]]:List Value).toArray w _ _
 refine Spec.intro Tryz.func173 rfl Tryz.ntmps173 rfl ?_
 unfold i_ENode_com at hp
 replace hp:=dd hp
 refine s2 ?_
 refine bx fun bk3=>?_
 refine L_assign (v:=(TL.hdr (TL.nil T_EMsg 0))) rfl rfl ?_
 refine s3 ?_
 replace hp:=ba hp;obtain ⟨y1,hy1,hp⟩:=hp
 refine W_DS (pre:=[_,_,_,_,_,_,_,_]) (suf:=[_]) [6,13] [] _ pc mix (by kernel_rfl) (by kernel_rfl) rfl ?_
 refine s5 ?_
 refine D_loadW GC.none (OpV.t rfl) (fun hg=>RdC.seg (RdC.blk mm) 3 2 rfl) (by exact agg35.h) ?_
 refine D_call1R (fun v M=>∃ (x0:T_Inst),v=.agg (GT.cells x0).toArray∧GT.dat x0=y1∧M=[treeH x0]) fn41.h (OpVs.cons (OpV.t rfl) (OpVs.cons (OpV.t rfl) (OpVs.nil))) (by exact fun w F hF hM=>i_InstAt_walk w a0_3 (a1_4,a1_5) (RdT.nowS (RdT.tree mm) hF hM) (RdT.nowS (RdT.pair RdT.int RdT.int) hF hM) _ hy1) ?_
 refine D_alloc zero48.h ?_
 refine s1 ?_
 refine Give_R rfl rfl ?_
 rintro _ _ ⟨bk6,rfl,rfl⟩
 simp only [List.cons_append,List.nil_append]
 refine Give_R rfl rfl ?_
 rintro _ _ ⟨⟨⟨y1x0_1,y1x0_2⟩,y1x0_3,y1x0_4,y1x0_5,⟨y1x0_6,y1x0_7,y1x0_8,y1x0_9,y1x0_10,y1x0_11,y1x0_12,y1x0_13⟩,y1x0_14,y1x0_15,y1x0_16⟩,rfl,rfl,rfl⟩
 refine s7 ?_
 refine sc ?_
 replace hp:=dd hp
 refine xL (((y1x0_1,y1x0_2),y1x0_3,y1x0_4,y1x0_5,(y1x0_6,y1x0_7,y1x0_8,y1x0_9,y1x0_10,y1x0_11,y1x0_12,y1x0_13),y1x0_14,y1x0_15,y1x0_16):T_Inst) ?_
 refine s9 ?_
 refine kp [0,3,6,16] ?_
 refine W_cond rfl (fun q2=>?_) (fun q2=>?_)
 ·replace hp:=cond_t q2 hp
  refine s2 ?_
  refine L_assign (v:=(TL.hdr (TL.nil T_EMsg 0))) rfl rfl ?_
  refine s2 ?_
  obtain rfl:=sj hp
  refine W_conv (M':=treeH (TL.nil T_EMsg 0)::_) (fun w h=>addNilT (τ:=T_EMsg) 0 h) ?_
  refine s1 ?_
  refine res2 rfl (ResOK.tmp rfl) (ResOK.tmp rfl) ⟨(TL.nil T_EMsg 0),false,(a0_1,a0_2,a0_3,a0_4),rfl,rfl,rfl⟩ ms
 ·replace hp:=cond_f q2 hp
  refine s4 ?_
  refine L_loadW rfl rfl (RdC.seg (RdC.blk mm) 3 2 rfl) (by exact agg35.h) ?_
  refine s5 ?_
  refine L_loadW rfl rfl (RdC.seg (RdC.blk mm) 6 8 rfl) (by exact agg38.h) ?_
  refine s4 ?_
  refine L_build (xs:=[(0,.tmp 18),(1,.tmp 20),(2,.tmp 22),(3,.const (.int .i64 3)),(4,.tmp 24),(5,.tmp 26),(6,.tmp 28)]) (cs:=[.int .i64 a1_4,.int .i64 a1_5,.int .i64 y1x0_3,.int .i64 y1x0_4,.int .i64 3,.int .i64 a1_7,.int .i64 a1_8,.int .i64 a1_9,.string a1_10,.string a1_11,.string a1_12,.int .i64 a1_13,(TL.hdr a1_14),.int .i64 a1_15,(TL.hdr a1_16),.bool false]) rfl rfl bld48.h rfl ?_
  refine s7 ?_
  replace hp:=ba hp;obtain ⟨y3,hy3,hp⟩:=hp
  refine L_callM [blk b0_ _ _,treeH a0_3] _ rfl fn122.h rfl pc (by exact fun w hw=>i_ENode_put_walk w b0_ (a0_1,a0_2,a0_3,a0_4) ((a1_4,a1_5),y1x0_3,y1x0_4,3,(a1_7,a1_8,a1_9,a1_10,a1_11,a1_12,a1_13,a1_14),a1_15,a1_16,false) ((RdX.pair (RdX.pair RdX.int RdX.int) (RdX.pair RdX.int (RdX.pair RdX.int (RdX.pair RdX.int (RdX.pair (RdX.pair RdX.int (RdX.pair RdX.int (RdX.pair RdX.int (RdX.pair RdX.str (RdX.pair RdX.str (RdX.pair RdX.str (RdX.pair RdX.int (RdX.old h1.2.2.2.2.2.1.2.2.2.2.2.2.2)))))))) (RdX.pair RdX.int (RdX.pair (RdX.old h1.2.2.2.2.2.2.2.1) RdX.bool))))))) w hw) ((RdX.tree mm) w hw) _ hy3) ?_
  rintro _ _ ⟨y3x0,⟨y3y0_1,y3y0_2,y3y0_3,y3y0_4⟩,rfl,rfl,rfl,hey3_0⟩
  obtain rfl:a0_4=y3y0_4:=hey3_0.symm
  refine sc ?_
  replace hp:=dd hp
  refine s2 ?_
  refine kp [0,3,33] ?_
  refine W_cond rfl (fun q4=>?_) (fun q4=>?_)
  ·replace hp:=cond_t q4 hp
   refine s2 ?_
   refine L_assign (v:=(TL.hdr (TL.nil T_EMsg 0))) rfl rfl ?_
   refine s2 ?_
   obtain rfl:=sj hp
   refine W_conv (M':=treeH (TL.nil T_EMsg 0)::_) (fun w h=>addNilT (τ:=T_EMsg) 0 h) ?_
   refine s1 ?_
   refine res2 rfl (ResOK.tmp rfl) (ResOK.tmp rfl) ⟨(TL.nil T_EMsg 0),false,(y3y0_1,y3y0_2,y3y0_3,a0_4),rfl,rfl,rfl⟩ ms
  ·replace hp:=cond_f q4 hp
   refine s5 ?_
   refine L_loadW rfl rfl (RdC.seg (RdC.blk mm) 3 2 rfl) (by exact agg35.h) ?_
   replace hp:=ba hp;obtain ⟨y5,hy5,hp⟩:=hp
   refine L_callM [blk b0_ _ _,treeH y3y0_3,treeH a0_4] _ rfl fn176.h rfl pc (by exact fun w hw=>i_ENode_drop_walk w b0_ (y3y0_1,y3y0_2,y3y0_3,a0_4) (a1_4,a1_5) ((RdX.pair RdX.int RdX.int) w hw) _ hy5) ?_
   rintro _ _ ⟨⟨y5y0_1,y5y0_2,y5y0_3,y5y0_4⟩,rfl,rfl,rfl⟩
   refine sc ?_
   replace hp:=dd hp
   refine s3 ?_
   refine L_assign (v:=(TL.hdr (TL.nil T_EMsg 0))) rfl rfl ?_
   refine s2 ?_
   obtain rfl:=sj hp
   refine W_conv (M':=treeH (TL.nil T_EMsg 0)::_) (fun w h=>addNilT (τ:=T_EMsg) 0 h) ?_
   refine s1 ?_
   refine res2 rfl (ResOK.tmp rfl) (ResOK.tmp rfl) ⟨(TL.nil T_EMsg 0),true,(y5y0_1,y5y0_2,y5y0_3,y5y0_4),rfl,rfl,rfl⟩ ms
noncomputable def i_ENode_prep (a0:D_ENode) (a1:D_EMsg):Option ((List D_EMsg)×Bool×D_ENode) :=
 Option.bind (i_InstAt a0.2.2.1 (a1.2.2.2.1.1,a1.2.2.2.1.2)) (fun y1=>cond (decide (a1.2.2.2.2.1≤y1.2.1)) (some (([]:List D_EMsg),false,(a0.1,a0.2.1,a0.2.2.1,a0.2.2.2))) (Option.bind (i_ENode_put (a0.1,a0.2.1,a0.2.2.1,a0.2.2.2) ((y1.1.1,y1.1.2),a1.2.2.2.2.1,y1.2.2.1,y1.2.2.2.1,(y1.2.2.2.2.1.1,y1.2.2.2.2.1.2.1,y1.2.2.2.2.1.2.2.1,y1.2.2.2.2.1.2.2.2.1,y1.2.2.2.2.1.2.2.2.2.1,y1.2.2.2.2.1.2.2.2.2.2.1,y1.2.2.2.2.1.2.2.2.2.2.2.1,y1.2.2.2.2.1.2.2.2.2.2.2.2),y1.2.2.2.2.2.1,y1.2.2.2.2.2.2.1,y1.2.2.2.2.2.2.2)) (fun y3=>cond (!y3.1) (some (([]:List D_EMsg),false,(y3.2.1,y3.2.2.1,y3.2.2.2.1,y3.2.2.2.2))) (Option.bind (i_ENode_reply (y3.2.1,y3.2.2.1,y3.2.2.2.1,y3.2.2.2.2) (a1.1,a1.2.1,a1.2.2.1,(a1.2.2.2.1.1,a1.2.2.2.1.2),a1.2.2.2.2.1,(a1.2.2.2.2.2.1.1,a1.2.2.2.2.2.1.2.1,a1.2.2.2.2.2.1.2.2.1,a1.2.2.2.2.2.1.2.2.2.1,a1.2.2.2.2.2.1.2.2.2.2.1,a1.2.2.2.2.2.1.2.2.2.2.2.1,a1.2.2.2.2.2.1.2.2.2.2.2.2.1,a1.2.2.2.2.2.1.2.2.2.2.2.2.2),a1.2.2.2.2.2.2.1,a1.2.2.2.2.2.2.2.1,a1.2.2.2.2.2.2.2.2.1,a1.2.2.2.2.2.2.2.2.2.1,a1.2.2.2.2.2.2.2.2.2.2) (7,0,0,(0,0),a1.2.2.2.2.1,(y1.2.2.2.2.1.1,y1.2.2.2.2.1.2.1,y1.2.2.2.2.1.2.2.1,y1.2.2.2.2.1.2.2.2.1,y1.2.2.2.2.1.2.2.2.2.1,y1.2.2.2.2.1.2.2.2.2.2.1,y1.2.2.2.2.1.2.2.2.2.2.2.1,y1.2.2.2.2.1.2.2.2.2.2.2.2),y1.2.2.2.2.2.1,y1.2.2.2.2.2.2.1,y1.2.2.2.1,y1.2.2.1,y1.2.2.2.2.2.2.2)) (fun y5=>some (y5,true,(y3.2.1,y3.2.2.1,y3.2.2.2.1,y3.2.2.2.2)))))))
theorem i_ENode_prep_walk (w:World) (b0_:Nat) (a0:T_ENode) (a1:T_EMsg) (h1:GT.rd w (fps [blk b0_ (GT.cells a0) 44,treeH a0.2.2.1,treeH a0.2.2.2]) a1) (r:(List D_EMsg)×Bool×D_ENode) (hp:i_ENode_prep (GT.dat a0) (GT.dat a1)=some r):Spec Tryz.prog 174 [Value.pointer (some ⟨b0_,0,none⟩),.agg (GT.cells a1).toArray].toArray w [blk b0_ (GT.cells a0) 44,treeH a0.2.2.1,treeH a0.2.2.2] (fun v M=>∃ (x0:TL T_EMsg) (x1:Bool) (y0:T_ENode),v=.tuple #[(TL.hdr x0),.bool x1]∧(GT.dat x0,GT.dat x1,GT.dat y0)=r∧M=[treeH x0,blk b0_ (GT.cells y0) 44,treeH y0.2.2.1,treeH y0.2.2.2]):=by
 obtain ⟨a0_1,a0_2,a0_3,a0_4⟩:=a0
 obtain ⟨a1_1,a1_2,a1_3,⟨a1_4,a1_5⟩,a1_6,⟨a1_7,a1_8,a1_9,a1_10,a1_11,a1_12,a1_13,a1_14⟩,a1_15,a1_16,a1_17,a1_18,a1_19⟩:=a1
 change Spec _ _ ([Value.pointer (some ⟨b0_,0,none⟩),Value.agg #[.int .i64 a1_1,.int .i64 a1_2,.int .i64 a1_3,.int .i64 a1_4,.int .i64 a1_5,.int .i64 a1_6,.int .i64 a1_7,.int .i64 a1_8,.int .i64 a1_9,.string a1_10,.string a1_11,.string a1_12,.int .i64 a1_13,(TL.hdr a1_14),.int .i64 a1_15,(TL.hdr a1_16),.int .i64 a1_17,.int .i64 a1_18,.bool a1_19]]:List Value).toArray w _ _
 refine Spec.intro Tryz.func174 rfl Tryz.ntmps174 rfl ?_
 unfold i_ENode_prep at hp
 replace hp:=dd hp
 refine s2 ?_
 refine bx fun bk3=>?_
 refine L_assign (v:=(TL.hdr (TL.nil T_EMsg 0))) rfl rfl ?_
 refine s3 ?_
 replace hp:=ba hp;obtain ⟨y1,hy1,hp⟩:=hp
 refine W_DS (pre:=[_,_,_,_,_,_,_,_]) (suf:=[_]) [6,13] [] _ pc mix (by kernel_rfl) (by kernel_rfl) rfl ?_
 refine s5 ?_
 refine D_loadW GC.none (OpV.t rfl) (fun hg=>RdC.seg (RdC.blk mm) 3 2 rfl) (by exact agg35.h) ?_
 refine D_call1R (fun v M=>∃ (x0:T_Inst),v=.agg (GT.cells x0).toArray∧GT.dat x0=y1∧M=[treeH x0]) fn41.h (OpVs.cons (OpV.t rfl) (OpVs.cons (OpV.t rfl) (OpVs.nil))) (by exact fun w F hF hM=>i_InstAt_walk w a0_3 (a1_4,a1_5) (RdT.nowS (RdT.tree mm) hF hM) (RdT.nowS (RdT.pair RdT.int RdT.int) hF hM) _ hy1) ?_
 refine D_alloc zero48.h ?_
 refine s1 ?_
 refine Give_R rfl rfl ?_
 rintro _ _ ⟨bk6,rfl,rfl⟩
 simp only [List.cons_append,List.nil_append]
 refine Give_R rfl rfl ?_
 rintro _ _ ⟨⟨⟨y1x0_1,y1x0_2⟩,y1x0_3,y1x0_4,y1x0_5,⟨y1x0_6,y1x0_7,y1x0_8,y1x0_9,y1x0_10,y1x0_11,y1x0_12,y1x0_13⟩,y1x0_14,y1x0_15,y1x0_16⟩,rfl,rfl,rfl⟩
 refine s7 ?_
 refine sc ?_
 replace hp:=dd hp
 refine xL (((y1x0_1,y1x0_2),y1x0_3,y1x0_4,y1x0_5,(y1x0_6,y1x0_7,y1x0_8,y1x0_9,y1x0_10,y1x0_11,y1x0_12,y1x0_13),y1x0_14,y1x0_15,y1x0_16):T_Inst) ?_
 refine s11 ?_
 refine kp [0,3,6,18] ?_
 refine W_cond rfl (fun q2=>?_) (fun q2=>?_)
 ·replace hp:=cond_t q2 hp
  refine s2 ?_
  refine L_assign (v:=(TL.hdr (TL.nil T_EMsg 0))) rfl rfl ?_
  refine s2 ?_
  obtain rfl:=sj hp
  refine W_conv (M':=treeH (TL.nil T_EMsg 0)::_) (fun w h=>addNilT (τ:=T_EMsg) 0 h) ?_
  refine s1 ?_
  refine res2 rfl (ResOK.tmp rfl) (ResOK.tmp rfl) ⟨(TL.nil T_EMsg 0),false,(a0_1,a0_2,a0_3,a0_4),rfl,rfl,rfl⟩ ms
 ·replace hp:=cond_f q2 hp
  refine s13 ?_
  replace hp:=ba hp;obtain ⟨y3,hy3,hp⟩:=hp
  refine L_callM [blk b0_ _ _,treeH a0_3] _ rfl fn122.h rfl pc (by exact fun w hw=>i_ENode_put_walk w b0_ (a0_1,a0_2,a0_3,a0_4) ((y1x0_1,y1x0_2),a1_6,y1x0_4,y1x0_5,(y1x0_6,y1x0_7,y1x0_8,y1x0_9,y1x0_10,y1x0_11,y1x0_12,y1x0_13),y1x0_14,y1x0_15,y1x0_16) ((RdX.pair (RdX.pair RdX.int RdX.int) (RdX.pair RdX.int (RdX.pair RdX.int (RdX.pair RdX.int (RdX.pair (RdX.pair RdX.int (RdX.pair RdX.int (RdX.pair RdX.int (RdX.pair RdX.str (RdX.pair RdX.str (RdX.pair RdX.str (RdX.pair RdX.int (RdX.tree mm)))))))) (RdX.pair RdX.int (RdX.pair (RdX.tree mm) RdX.bool))))))) w hw) ((RdX.tree mm) w hw) _ hy3) ?_
  rintro _ _ ⟨y3x0,⟨y3y0_1,y3y0_2,y3y0_3,y3y0_4⟩,rfl,rfl,rfl,hey3_0⟩
  obtain rfl:a0_4=y3y0_4:=hey3_0.symm
  refine sc ?_
  replace hp:=dd hp
  refine s2 ?_
  refine kp [0,3,6,25] ?_
  refine W_cond rfl (fun q4=>?_) (fun q4=>?_)
  ·replace hp:=cond_t q4 hp
   refine s2 ?_
   refine L_assign (v:=(TL.hdr (TL.nil T_EMsg 0))) rfl rfl ?_
   refine s2 ?_
   obtain rfl:=sj hp
   refine W_conv (M':=treeH (TL.nil T_EMsg 0)::_) (fun w h=>addNilT (τ:=T_EMsg) 0 h) ?_
   refine s1 ?_
   refine res2 rfl (ResOK.tmp rfl) (ResOK.tmp rfl) ⟨(TL.nil T_EMsg 0),false,(y3y0_1,y3y0_2,y3y0_3,a0_4),rfl,rfl,rfl⟩ ms
  ·replace hp:=cond_f q4 hp
   refine s12 ?_
   refine L_loadW rfl rfl (RdC.seg (RdC.blk mm) 5 8 rfl) (by exact agg38.h) ?_
   refine s6 ?_
   refine L_build (xs:=[(0,.const (.int .i64 7)),(4,.tmp 29),(8,.tmp 31),(9,.tmp 33),(5,.tmp 35),(6,.tmp 37),(7,.tmp 39),(10,.tmp 41)]) (cs:=[.int .i64 7,.int .i64 0,.int .i64 0,.int .i64 0,.int .i64 0,.int .i64 a1_6,.int .i64 y1x0_6,.int .i64 y1x0_7,.int .i64 y1x0_8,.string y1x0_9,.string y1x0_10,.string y1x0_11,.int .i64 y1x0_12,(TL.hdr y1x0_13),.int .i64 y1x0_14,(TL.hdr y1x0_15),.int .i64 y1x0_5,.int .i64 y1x0_4,.bool y1x0_16]) rfl rfl bld103.h rfl ?_
   replace hp:=ba hp;obtain ⟨y5,hy5,hp⟩:=hp
   refine L_callR rfl fn198.h rfl (by exact fun w hw=>i_ENode_reply_walk w b0_ (y3y0_1,y3y0_2,y3y0_3,a0_4) (a1_1,a1_2,a1_3,(a1_4,a1_5),a1_6,(a1_7,a1_8,a1_9,a1_10,a1_11,a1_12,a1_13,a1_14),a1_15,a1_16,a1_17,a1_18,a1_19) (7,0,0,(0,0),a1_6,(y1x0_6,y1x0_7,y1x0_8,y1x0_9,y1x0_10,y1x0_11,y1x0_12,y1x0_13),y1x0_14,y1x0_15,y1x0_5,y1x0_4,y1x0_16) (cells_of_blk mm hw.sees) (RdT.now (RdT.pair RdT.int (RdT.pair RdT.int (RdT.pair (RdT.tree mm) (RdT.tree mm)))) hw) (RdT.now (RdT.pair RdT.int (RdT.pair RdT.int (RdT.pair RdT.int (RdT.pair (RdT.pair RdT.int RdT.int) (RdT.pair RdT.int (RdT.pair (RdT.pair RdT.int (RdT.pair RdT.int (RdT.pair RdT.int (RdT.pair RdT.str (RdT.pair RdT.str (RdT.pair RdT.str (RdT.pair RdT.int (RdT.old h1.2.2.2.2.2.1.2.2.2.2.2.2.2)))))))) (RdT.pair RdT.int (RdT.pair (RdT.old h1.2.2.2.2.2.2.2.1) (RdT.pair RdT.int (RdT.pair RdT.int RdT.bool)))))))))) hw) (RdT.now (RdT.pair RdT.int (RdT.pair RdT.int (RdT.pair RdT.int (RdT.pair (RdT.pair RdT.int RdT.int) (RdT.pair RdT.int (RdT.pair (RdT.pair RdT.int (RdT.pair RdT.int (RdT.pair RdT.int (RdT.pair RdT.str (RdT.pair RdT.str (RdT.pair RdT.str (RdT.pair RdT.int (RdT.tree mm)))))))) (RdT.pair RdT.int (RdT.pair (RdT.tree mm) (RdT.pair RdT.int (RdT.pair RdT.int RdT.bool)))))))))) hw) _ hy5) ?_
   rintro _ _ ⟨y5x0,rfl,rfl,rfl⟩
   refine sc ?_
   replace hp:=dd hp
   refine s3 ?_
   obtain rfl:=sj hp
   refine s1 ?_
   refine res2 rfl (ResOK.tmp rfl) (ResOK.tmp rfl) ⟨y5x0,true,(y3y0_1,y3y0_2,y3y0_3,a0_4),rfl,rfl,rfl⟩ ms
noncomputable def i_instOf (a0:D_EMsg):Option D_Inst :=
 some ((a0.2.2.2.1.1,a0.2.2.2.1.2),0,a0.2.2.2.2.2.2.2.2.2.1,a0.2.2.2.2.2.2.2.2.1,(a0.2.2.2.2.2.1.1,a0.2.2.2.2.2.1.2.1,a0.2.2.2.2.2.1.2.2.1,a0.2.2.2.2.2.1.2.2.2.1,a0.2.2.2.2.2.1.2.2.2.2.1,a0.2.2.2.2.2.1.2.2.2.2.2.1,a0.2.2.2.2.2.1.2.2.2.2.2.2.1,a0.2.2.2.2.2.1.2.2.2.2.2.2.2),a0.2.2.2.2.2.2.1,a0.2.2.2.2.2.2.2.1,a0.2.2.2.2.2.2.2.2.2.2)
theorem i_instOf_walk (w:World) (a0:T_EMsg) (h0:GT.rd w [] a0) (r:D_Inst) (hp:i_instOf (GT.dat a0)=some r):Spec Tryz.prog 202 [.agg (GT.cells a0).toArray].toArray w [] (fun v M=>∃ (x0:T_Inst),v=.agg (GT.cells x0).toArray∧GT.dat x0=r∧M=[]∧(∀ (w':World) (S:List Nat),GT.rd w' S a0→GT.rd w' S x0)):=by
 obtain ⟨a0_1,a0_2,a0_3,⟨a0_4,a0_5⟩,a0_6,⟨a0_7,a0_8,a0_9,a0_10,a0_11,a0_12,a0_13,a0_14⟩,a0_15,a0_16,a0_17,a0_18,a0_19⟩:=a0
 change Spec _ _ ([Value.agg #[.int .i64 a0_1,.int .i64 a0_2,.int .i64 a0_3,.int .i64 a0_4,.int .i64 a0_5,.int .i64 a0_6,.int .i64 a0_7,.int .i64 a0_8,.int .i64 a0_9,.string a0_10,.string a0_11,.string a0_12,.int .i64 a0_13,(TL.hdr a0_14),.int .i64 a0_15,(TL.hdr a0_16),.int .i64 a0_17,.int .i64 a0_18,.bool a0_19]]:List Value).toArray w [] _
 refine Spec.intro Tryz.func202 rfl Tryz.ntmps202 rfl ?_
 unfold i_instOf at hp
 replace hp:=dd hp
 refine s2 ?_
 refine bx fun bk1=>?_
 refine al fun bk2=>?_
 refine s4 ?_
 refine L_loadW rfl rfl (RdC.seg (RdC.blk mm) 3 2 rfl) (by exact agg35.h) ?_
 refine s5 ?_
 refine L_loadW rfl rfl (RdC.seg (RdC.blk mm) 6 8 rfl) (by exact agg38.h) ?_
 refine s6 ?_
 refine L_build (xs:=[(0,.tmp 4),(2,.tmp 6),(3,.tmp 8),(4,.tmp 10),(5,.tmp 12),(6,.tmp 14),(7,.tmp 16)]) (cs:=[.int .i64 a0_4,.int .i64 a0_5,.int .i64 0,.int .i64 a0_18,.int .i64 a0_17,.int .i64 a0_7,.int .i64 a0_8,.int .i64 a0_9,.string a0_10,.string a0_11,.string a0_12,.int .i64 a0_13,(TL.hdr a0_14),.int .i64 a0_15,(TL.hdr a0_16),.bool a0_19]) rfl rfl bld48.h rfl ?_
 refine s2 ?_
 obtain rfl:=sj hp
 refine s1 ?_
 refine res1 rfl (ResOK.cell rfl mm (by exact agg48.h)) ⟨((a0_4,a0_5),0,a0_18,a0_17,(a0_7,a0_8,a0_9,a0_10,a0_11,a0_12,a0_13,a0_14),a0_15,a0_16,a0_19),rfl,rfl,rfl,(fun w' S h0=>(RdO.pair (RdO.pair RdO.int RdO.int) (RdO.pair RdO.int (RdO.pair RdO.int (RdO.pair RdO.int (RdO.pair (RdO.pair RdO.int (RdO.pair RdO.int (RdO.pair RdO.int (RdO.pair RdO.str (RdO.pair RdO.str (RdO.pair RdO.str (RdO.pair RdO.int (RdO.old h0.2.2.2.2.2.1.2.2.2.2.2.2.2)))))))) (RdO.pair RdO.int (RdO.pair (RdO.old h0.2.2.2.2.2.2.2.1) RdO.bool))))))))⟩ ms
noncomputable def i_isFirst (a0:D_Inst):Option Bool :=
 some (((decide (a0.2.2.2.1=1))&&(decide (a0.2.2.1=a0.1.1)))&&a0.2.2.2.2.2.2.2)
theorem i_isFirst_walk (w:World) (a0:T_Inst) (h0:GT.rd w [] a0) (r:Bool) (hp:i_isFirst (GT.dat a0)=some r):Spec Tryz.prog 230 [.agg (GT.cells a0).toArray].toArray w [] (IsV (.bool r)):=by
 obtain ⟨⟨a0_1,a0_2⟩,a0_3,a0_4,a0_5,⟨a0_6,a0_7,a0_8,a0_9,a0_10,a0_11,a0_12,a0_13⟩,a0_14,a0_15,a0_16⟩:=a0
 change Spec _ _ ([Value.agg #[.int .i64 a0_1,.int .i64 a0_2,.int .i64 a0_3,.int .i64 a0_4,.int .i64 a0_5,.int .i64 a0_6,.int .i64 a0_7,.int .i64 a0_8,.string a0_9,.string a0_10,.string a0_11,.int .i64 a0_12,(TL.hdr a0_13),.int .i64 a0_14,(TL.hdr a0_15),.bool a0_16]]:List Value).toArray w [] _
 refine Spec.intro Tryz.func230 rfl Tryz.ntmps230 rfl ?_
 unfold i_isFirst at hp
 replace hp:=dd hp
 refine s2 ?_
 refine bx fun bk1=>?_
 refine s3 ?_
 refine W_D0 [2] mix (by kernel_rfl) rfl ?_
 refine s8 ?_
 refine D_load (fo:=0) (GC.some rfl rfl) (OpV.s rfl) (fun hg=>RdC.blk mm) one3.h rfl ?_
 refine s20 ?_
 refine s5 ?_
 obtain rfl:=sj hp
 refine s1 ?_
 refine res1 rfl (ResOK.tmp rfl) ⟨rfl,rfl⟩ ms
noncomputable def i_pick (a0:D_Inst) (a1:D_Inst):Option (D_Inst×Int) :=
 cond (decide (a0.2.2.2.1=3)) (some (((a0.1.1,a0.1.2),a0.2.1,a0.2.2.1,a0.2.2.2.1,(a0.2.2.2.2.1.1,a0.2.2.2.2.1.2.1,a0.2.2.2.2.1.2.2.1,a0.2.2.2.2.1.2.2.2.1,a0.2.2.2.2.1.2.2.2.2.1,a0.2.2.2.2.1.2.2.2.2.2.1,a0.2.2.2.2.1.2.2.2.2.2.2.1,a0.2.2.2.2.1.2.2.2.2.2.2.2),a0.2.2.2.2.2.1,a0.2.2.2.2.2.2.1,a0.2.2.2.2.2.2.2),1)) (cond (decide (a1.2.2.2.1=3)) (some (((a1.1.1,a1.1.2),a1.2.1,a1.2.2.1,a1.2.2.2.1,(a1.2.2.2.2.1.1,a1.2.2.2.2.1.2.1,a1.2.2.2.2.1.2.2.1,a1.2.2.2.2.1.2.2.2.1,a1.2.2.2.2.1.2.2.2.2.1,a1.2.2.2.2.1.2.2.2.2.2.1,a1.2.2.2.2.1.2.2.2.2.2.2.1,a1.2.2.2.2.1.2.2.2.2.2.2.2),a1.2.2.2.2.2.1,a1.2.2.2.2.2.2.1,a1.2.2.2.2.2.2.2),1)) (cond ((decide (a0.2.2.2.1=2))&&((!decide (a1.2.2.2.1=2))||(decide (a1.2.2.1≤a0.2.2.1)))) (some (((a0.1.1,a0.1.2),a0.2.1,a0.2.2.1,a0.2.2.2.1,(a0.2.2.2.2.1.1,a0.2.2.2.2.1.2.1,a0.2.2.2.2.1.2.2.1,a0.2.2.2.2.1.2.2.2.1,a0.2.2.2.2.1.2.2.2.2.1,a0.2.2.2.2.1.2.2.2.2.2.1,a0.2.2.2.2.1.2.2.2.2.2.2.1,a0.2.2.2.2.1.2.2.2.2.2.2.2),a0.2.2.2.2.2.1,a0.2.2.2.2.2.2.1,a0.2.2.2.2.2.2.2),2)) (cond (decide (a1.2.2.2.1=2)) (some (((a1.1.1,a1.1.2),a1.2.1,a1.2.2.1,a1.2.2.2.1,(a1.2.2.2.2.1.1,a1.2.2.2.2.1.2.1,a1.2.2.2.2.1.2.2.1,a1.2.2.2.2.1.2.2.2.1,a1.2.2.2.2.1.2.2.2.2.1,a1.2.2.2.2.1.2.2.2.2.2.1,a1.2.2.2.2.1.2.2.2.2.2.2.1,a1.2.2.2.2.1.2.2.2.2.2.2.2),a1.2.2.2.2.2.1,a1.2.2.2.2.2.2.1,a1.2.2.2.2.2.2.2),2)) (Option.bind (i_isFirst ((a0.1.1,a0.1.2),a0.2.1,a0.2.2.1,a0.2.2.2.1,(a0.2.2.2.2.1.1,a0.2.2.2.2.1.2.1,a0.2.2.2.2.1.2.2.1,a0.2.2.2.2.1.2.2.2.1,a0.2.2.2.2.1.2.2.2.2.1,a0.2.2.2.2.1.2.2.2.2.2.1,a0.2.2.2.2.1.2.2.2.2.2.2.1,a0.2.2.2.2.1.2.2.2.2.2.2.2),a0.2.2.2.2.2.1,a0.2.2.2.2.2.2.1,a0.2.2.2.2.2.2.2)) (fun y5=>gb y5 (i_isFirst ((a1.1.1,a1.1.2),a1.2.1,a1.2.2.1,a1.2.2.2.1,(a1.2.2.2.2.1.1,a1.2.2.2.2.1.2.1,a1.2.2.2.2.1.2.2.1,a1.2.2.2.2.1.2.2.2.1,a1.2.2.2.2.1.2.2.2.2.1,a1.2.2.2.2.1.2.2.2.2.2.1,a1.2.2.2.2.1.2.2.2.2.2.2.1,a1.2.2.2.2.1.2.2.2.2.2.2.2),a1.2.2.2.2.2.1,a1.2.2.2.2.2.2.1,a1.2.2.2.2.2.2.2)) (fun y6=>gb ((y5&&y6)&&(decide (a0.2.2.2.2.2.1=a1.2.2.2.2.2.1))) (sl_Equal_implIdimplId a0.2.2.2.2.2.2.1 a1.2.2.2.2.2.2.1) (fun y7=>cond (((y5&&y6)&&(decide (a0.2.2.2.2.2.1=a1.2.2.2.2.2.1)))&&y7) (some (((a0.1.1,a0.1.2),a0.2.1,a0.2.2.1,a0.2.2.2.1,(a0.2.2.2.2.1.1,a0.2.2.2.2.1.2.1,a0.2.2.2.2.1.2.2.1,a0.2.2.2.2.1.2.2.2.1,a0.2.2.2.2.1.2.2.2.2.1,a0.2.2.2.2.1.2.2.2.2.2.1,a0.2.2.2.2.1.2.2.2.2.2.2.1,a0.2.2.2.2.1.2.2.2.2.2.2.2),a0.2.2.2.2.2.1,a0.2.2.2.2.2.2.1,a0.2.2.2.2.2.2.2),3)) (cond (decide (a0.2.2.2.1=1)) (some (((a0.1.1,a0.1.2),a0.2.1,a0.2.2.1,a0.2.2.2.1,(a0.2.2.2.2.1.1,a0.2.2.2.2.1.2.1,a0.2.2.2.2.1.2.2.1,a0.2.2.2.2.1.2.2.2.1,a0.2.2.2.2.1.2.2.2.2.1,a0.2.2.2.2.1.2.2.2.2.2.1,a0.2.2.2.2.1.2.2.2.2.2.2.1,a0.2.2.2.2.1.2.2.2.2.2.2.2),a0.2.2.2.2.2.1,a0.2.2.2.2.2.2.1,a0.2.2.2.2.2.2.2),4)) (cond (decide (a1.2.2.2.1=1)) (some (((a1.1.1,a1.1.2),a1.2.1,a1.2.2.1,a1.2.2.2.1,(a1.2.2.2.2.1.1,a1.2.2.2.2.1.2.1,a1.2.2.2.2.1.2.2.1,a1.2.2.2.2.1.2.2.2.1,a1.2.2.2.2.1.2.2.2.2.1,a1.2.2.2.2.1.2.2.2.2.2.1,a1.2.2.2.2.1.2.2.2.2.2.2.1,a1.2.2.2.2.1.2.2.2.2.2.2.2),a1.2.2.2.2.2.1,a1.2.2.2.2.2.2.1,a1.2.2.2.2.2.2.2),4)) (some (((0,0),0,0,0,(0,0,0,ByteArray.empty,ByteArray.empty,ByteArray.empty,0,([]:List ByteArray)),0,([]:List D_Id),false),5)))))))))))
theorem i_pick_walk (w:World) (a0:T_Inst) (a1:T_Inst) (h0:GT.rd w [] a0) (h1:GT.rd w [] a1) (r:D_Inst×Int) (hp:i_pick (GT.dat a0) (GT.dat a1)=some r):Spec Tryz.prog 201 [.agg (GT.cells a0).toArray,.agg (GT.cells a1).toArray].toArray w [] (fun v M=>∃ (x0:T_Inst) (x1:Int),v=.tuple #[.agg (GT.cells x0).toArray,.int .i64 x1]∧(GT.dat x0,GT.dat x1)=r∧M=[]∧(∀ (w':World) (S:List Nat),GT.rd w' S a0→GT.rd w' S a1→GT.rd w' S x0)):=by
 obtain ⟨⟨a0_1,a0_2⟩,a0_3,a0_4,a0_5,⟨a0_6,a0_7,a0_8,a0_9,a0_10,a0_11,a0_12,a0_13⟩,a0_14,a0_15,a0_16⟩:=a0
 obtain ⟨⟨a1_1,a1_2⟩,a1_3,a1_4,a1_5,⟨a1_6,a1_7,a1_8,a1_9,a1_10,a1_11,a1_12,a1_13⟩,a1_14,a1_15,a1_16⟩:=a1
 change Spec _ _ ([Value.agg #[.int .i64 a0_1,.int .i64 a0_2,.int .i64 a0_3,.int .i64 a0_4,.int .i64 a0_5,.int .i64 a0_6,.int .i64 a0_7,.int .i64 a0_8,.string a0_9,.string a0_10,.string a0_11,.int .i64 a0_12,(TL.hdr a0_13),.int .i64 a0_14,(TL.hdr a0_15),.bool a0_16],Value.agg #[.int .i64 a1_1,.int .i64 a1_2,.int .i64 a1_3,.int .i64 a1_4,.int .i64 a1_5,.int .i64 a1_6,.int .i64 a1_7,.int .i64 a1_8,.string a1_9,.string a1_10,.string a1_11,.int .i64 a1_12,(TL.hdr a1_13),.int .i64 a1_14,(TL.hdr a1_15),.bool a1_16]]:List Value).toArray w [] _
 refine Spec.intro Tryz.func201 rfl Tryz.ntmps201 rfl ?_
 unfold i_pick at hp
 replace hp:=dd hp
 refine s2 ?_
 refine bx fun bk2=>?_
 refine bx fun bk3=>?_
 refine al fun bk4=>?_
 refine s11 ?_
 refine kp [2,3,4,6] ?_
 refine W_cond rfl (fun q1=>?_) (fun q1=>?_)
 ·replace hp:=cond_t q1 hp
  refine s6 ?_
  obtain rfl:=sj hp
  refine s1 ?_
  refine res2 rfl (ResOK.cell rfl mm (by exact agg48.h)) (ResOK.tmp rfl) ⟨((a0_1,a0_2),a0_3,a0_4,a0_5,(a0_6,a0_7,a0_8,a0_9,a0_10,a0_11,a0_12,a0_13),a0_14,a0_15,a0_16),1,rfl,rfl,rfl,(fun w' S h0 h1=>(RdO.pair (RdO.pair RdO.int RdO.int) (RdO.pair RdO.int (RdO.pair RdO.int (RdO.pair RdO.int (RdO.pair (RdO.pair RdO.int (RdO.pair RdO.int (RdO.pair RdO.int (RdO.pair RdO.str (RdO.pair RdO.str (RdO.pair RdO.str (RdO.pair RdO.int (RdO.old h0.2.2.2.2.1.2.2.2.2.2.2.2)))))))) (RdO.pair RdO.int (RdO.pair (RdO.old h0.2.2.2.2.2.2.1) RdO.bool))))))))⟩ ms
 ·replace hp:=cond_f q1 hp
  refine s7 ?_
  refine kp [2,3,4,11] ?_
  refine W_cond rfl (fun q2=>?_) (fun q2=>?_)
  ·replace hp:=cond_t q2 hp
   refine s6 ?_
   obtain rfl:=sj hp
   refine s1 ?_
   refine res2 rfl (ResOK.cell rfl mm (by exact agg48.h)) (ResOK.tmp rfl) ⟨((a1_1,a1_2),a1_3,a1_4,a1_5,(a1_6,a1_7,a1_8,a1_9,a1_10,a1_11,a1_12,a1_13),a1_14,a1_15,a1_16),1,rfl,rfl,rfl,(fun w' S h0 h1=>(RdO.pair (RdO.pair RdO.int RdO.int) (RdO.pair RdO.int (RdO.pair RdO.int (RdO.pair RdO.int (RdO.pair (RdO.pair RdO.int (RdO.pair RdO.int (RdO.pair RdO.int (RdO.pair RdO.str (RdO.pair RdO.str (RdO.pair RdO.str (RdO.pair RdO.int (RdO.old h1.2.2.2.2.1.2.2.2.2.2.2.2)))))))) (RdO.pair RdO.int (RdO.pair (RdO.old h1.2.2.2.2.2.2.1) RdO.bool))))))))⟩ ms
  ·replace hp:=cond_f q2 hp
   refine s1 ?_
   refine W_D0 [16] mix (by kernel_rfl) rfl ?_
   refine s20 ?_
   refine s14 ?_
   refine kp [2,3,4,16] ?_
   refine W_cond rfl (fun q3=>?_) (fun q3=>?_)
   ·replace hp:=cond_t q3 hp
    refine s6 ?_
    obtain rfl:=sj hp
    refine s1 ?_
    refine res2 rfl (ResOK.cell rfl mm (by exact agg48.h)) (ResOK.tmp rfl) ⟨((a0_1,a0_2),a0_3,a0_4,a0_5,(a0_6,a0_7,a0_8,a0_9,a0_10,a0_11,a0_12,a0_13),a0_14,a0_15,a0_16),2,rfl,rfl,rfl,(fun w' S h0 h1=>(RdO.pair (RdO.pair RdO.int RdO.int) (RdO.pair RdO.int (RdO.pair RdO.int (RdO.pair RdO.int (RdO.pair (RdO.pair RdO.int (RdO.pair RdO.int (RdO.pair RdO.int (RdO.pair RdO.str (RdO.pair RdO.str (RdO.pair RdO.str (RdO.pair RdO.int (RdO.old h0.2.2.2.2.1.2.2.2.2.2.2.2)))))))) (RdO.pair RdO.int (RdO.pair (RdO.old h0.2.2.2.2.2.2.1) RdO.bool))))))))⟩ ms
   ·replace hp:=cond_f q3 hp
    refine s7 ?_
    refine kp [2,3,4,33] ?_
    refine W_cond rfl (fun q4=>?_) (fun q4=>?_)
    ·replace hp:=cond_t q4 hp
     refine s6 ?_
     obtain rfl:=sj hp
     refine s1 ?_
     refine res2 rfl (ResOK.cell rfl mm (by exact agg48.h)) (ResOK.tmp rfl) ⟨((a1_1,a1_2),a1_3,a1_4,a1_5,(a1_6,a1_7,a1_8,a1_9,a1_10,a1_11,a1_12,a1_13),a1_14,a1_15,a1_16),2,rfl,rfl,rfl,(fun w' S h0 h1=>(RdO.pair (RdO.pair RdO.int RdO.int) (RdO.pair RdO.int (RdO.pair RdO.int (RdO.pair RdO.int (RdO.pair (RdO.pair RdO.int (RdO.pair RdO.int (RdO.pair RdO.int (RdO.pair RdO.str (RdO.pair RdO.str (RdO.pair RdO.str (RdO.pair RdO.int (RdO.old h1.2.2.2.2.1.2.2.2.2.2.2.2)))))))) (RdO.pair RdO.int (RdO.pair (RdO.old h1.2.2.2.2.2.2.1) RdO.bool))))))))⟩ ms
    ·replace hp:=cond_f q4 hp
     refine s1 ?_
     replace hp:=ba hp;obtain ⟨y5,hy5,hp⟩:=hp
     replace hp:=gb_any hp;obtain ⟨y6,hy6,hp⟩:=hp
     replace hp:=gb_any hp;obtain ⟨y7,hy7,hp⟩:=hp
     refine W_D0 [38] mix (by kernel_rfl) rfl ?_
     refine s1 ?_
     refine D_callX GC.none fn230.h (OpVs.cons (OpV.t rfl) (OpVs.nil)) (by exact fun hg w F hF hM=>i_isFirst_walk w ((a0_1,a0_2),a0_3,a0_4,a0_5,(a0_6,a0_7,a0_8,a0_9,a0_10,a0_11,a0_12,a0_13),a0_14,a0_15,a0_16) (RdT.nowS (RdT.pair (RdT.pair RdT.int RdT.int) (RdT.pair RdT.int (RdT.pair RdT.int (RdT.pair RdT.int (RdT.pair (RdT.pair RdT.int (RdT.pair RdT.int (RdT.pair RdT.int (RdT.pair RdT.str (RdT.pair RdT.str (RdT.pair RdT.str (RdT.pair RdT.int (RdT.old h0.2.2.2.2.1.2.2.2.2.2.2.2)))))))) (RdT.pair RdT.int (RdT.pair (RdT.old h0.2.2.2.2.2.2.1) RdT.bool))))))) hF hM) _ hy5) ?_
     refine s2 ?_
     refine D_callX (GC.some rfl rfl) fn230.h (OpVs.cons (OpV.s rfl) (OpVs.nil)) (by exact fun hg w F hF hM=>i_isFirst_walk w ((a1_1,a1_2),a1_3,a1_4,a1_5,(a1_6,a1_7,a1_8,a1_9,a1_10,a1_11,a1_12,a1_13),a1_14,a1_15,a1_16) (RdT.nowS (RdT.pair (RdT.pair RdT.int RdT.int) (RdT.pair RdT.int (RdT.pair RdT.int (RdT.pair RdT.int (RdT.pair (RdT.pair RdT.int (RdT.pair RdT.int (RdT.pair RdT.int (RdT.pair RdT.str (RdT.pair RdT.str (RdT.pair RdT.str (RdT.pair RdT.int (RdT.old h1.2.2.2.2.1.2.2.2.2.2.2.2)))))))) (RdT.pair RdT.int (RdT.pair (RdT.old h1.2.2.2.2.2.2.1) RdT.bool))))))) hF hM) _ (hy6 hg.2)) ?_
     refine s13 ?_
     refine D_callX (GC.some rfl rfl) fn166.h (OpVs.cons (OpV.s rfl) (OpVs.cons (OpV.s rfl) (OpVs.nil))) (by exact fun hg w F hF hM=>sl_Equal_implIdimplId_walk w a0_15 a1_15 (RdT.nowS (RdT.old h0.2.2.2.2.2.2.1) hF hM) (RdT.nowS (RdT.old h1.2.2.2.2.2.2.1) hF hM) _ (hy7 hg.2)) ?_
     refine s20 ?_
     refine s5 ?_
     refine kp [2,3,4,38] ?_
     refine W_cond rfl (fun q8=>?_) (fun q8=>?_)
     ·replace hp:=cond_t q8 hp
      refine s6 ?_
      obtain rfl:=sj hp
      refine s1 ?_
      refine res2 rfl (ResOK.cell rfl mm (by exact agg48.h)) (ResOK.tmp rfl) ⟨((a0_1,a0_2),a0_3,a0_4,a0_5,(a0_6,a0_7,a0_8,a0_9,a0_10,a0_11,a0_12,a0_13),a0_14,a0_15,a0_16),3,rfl,rfl,rfl,(fun w' S h0 h1=>(RdO.pair (RdO.pair RdO.int RdO.int) (RdO.pair RdO.int (RdO.pair RdO.int (RdO.pair RdO.int (RdO.pair (RdO.pair RdO.int (RdO.pair RdO.int (RdO.pair RdO.int (RdO.pair RdO.str (RdO.pair RdO.str (RdO.pair RdO.str (RdO.pair RdO.int (RdO.old h0.2.2.2.2.1.2.2.2.2.2.2.2)))))))) (RdO.pair RdO.int (RdO.pair (RdO.old h0.2.2.2.2.2.2.1) RdO.bool))))))))⟩ ms
     ·replace hp:=cond_f q8 hp
      refine s7 ?_
      refine kp [2,3,4,60] ?_
      refine W_cond rfl (fun q9=>?_) (fun q9=>?_)
      ·replace hp:=cond_t q9 hp
       refine s6 ?_
       obtain rfl:=sj hp
       refine s1 ?_
       refine res2 rfl (ResOK.cell rfl mm (by exact agg48.h)) (ResOK.tmp rfl) ⟨((a0_1,a0_2),a0_3,a0_4,a0_5,(a0_6,a0_7,a0_8,a0_9,a0_10,a0_11,a0_12,a0_13),a0_14,a0_15,a0_16),4,rfl,rfl,rfl,(fun w' S h0 h1=>(RdO.pair (RdO.pair RdO.int RdO.int) (RdO.pair RdO.int (RdO.pair RdO.int (RdO.pair RdO.int (RdO.pair (RdO.pair RdO.int (RdO.pair RdO.int (RdO.pair RdO.int (RdO.pair RdO.str (RdO.pair RdO.str (RdO.pair RdO.str (RdO.pair RdO.int (RdO.old h0.2.2.2.2.1.2.2.2.2.2.2.2)))))))) (RdO.pair RdO.int (RdO.pair (RdO.old h0.2.2.2.2.2.2.1) RdO.bool))))))))⟩ ms
      ·replace hp:=cond_f q9 hp
       refine s7 ?_
       refine kp [3,4,65] ?_
       refine W_cond rfl (fun q10=>?_) (fun q10=>?_)
       ·replace hp:=cond_t q10 hp
        refine s6 ?_
        obtain rfl:=sj hp
        refine s1 ?_
        refine res2 rfl (ResOK.cell rfl mm (by exact agg48.h)) (ResOK.tmp rfl) ⟨((a1_1,a1_2),a1_3,a1_4,a1_5,(a1_6,a1_7,a1_8,a1_9,a1_10,a1_11,a1_12,a1_13),a1_14,a1_15,a1_16),4,rfl,rfl,rfl,(fun w' S h0 h1=>(RdO.pair (RdO.pair RdO.int RdO.int) (RdO.pair RdO.int (RdO.pair RdO.int (RdO.pair RdO.int (RdO.pair (RdO.pair RdO.int (RdO.pair RdO.int (RdO.pair RdO.int (RdO.pair RdO.str (RdO.pair RdO.str (RdO.pair RdO.str (RdO.pair RdO.int (RdO.old h1.2.2.2.2.1.2.2.2.2.2.2.2)))))))) (RdO.pair RdO.int (RdO.pair (RdO.old h1.2.2.2.2.2.2.1) RdO.bool))))))))⟩ ms
       ·replace hp:=cond_f q10 hp
        refine s3 ?_
        refine L_build (xs:=[]) (cs:=[.int .i64 0,.int .i64 0,.int .i64 0,.int .i64 0,.int .i64 0,.int .i64 0,.int .i64 0,.int .i64 0,.string ByteArray.empty,.string ByteArray.empty,.string ByteArray.empty,.int .i64 0,(TL.hdr (TL.nil ByteArray 0)),.int .i64 0,(TL.hdr (TL.nil T_Id 0)),.bool false]) rfl rfl bld48.h rfl ?_
        refine s3 ?_
        obtain rfl:=sj hp
        refine s1 ?_
        refine res2 rfl (ResOK.cell rfl mm (by exact agg48.h)) (ResOK.tmp rfl) ⟨((0,0),0,0,0,(0,0,0,ByteArray.empty,ByteArray.empty,ByteArray.empty,0,(TL.nil ByteArray 0)),0,(TL.nil T_Id 0),false),5,rfl,rfl,rfl,(fun w' S h0 h1=>(RdO.pair (RdO.pair RdO.int RdO.int) (RdO.pair RdO.int (RdO.pair RdO.int (RdO.pair RdO.int (RdO.pair (RdO.pair RdO.int (RdO.pair RdO.int (RdO.pair RdO.int (RdO.pair RdO.str (RdO.pair RdO.str (RdO.pair RdO.str (RdO.pair RdO.int (RdO.nil 0)))))))) (RdO.pair RdO.int (RdO.pair (RdO.nil 0) RdO.bool))))))))⟩ ms
noncomputable def i_ENode_prepOk (a0:D_ENode) (a1:D_EMsg):Option ((List D_EMsg)×Bool×D_ENode) :=
 Option.bind (i_ENode_lead (a0.1,a0.2.1,a0.2.2.1,a0.2.2.2) (a1.2.2.2.1.1,a1.2.2.2.1.2)) (fun y1=>Option.bind (i_InstAt a0.2.2.1 (a1.2.2.2.1.1,a1.2.2.2.1.2)) (fun y2=>gb (!(decide (y1 < 0))) (idx a0.2.2.2 y1) (fun y3=>gb (!((decide (y1 < 0))||(!decide (y3.2.1=a1.2.2.2.2.1)))) (idx a0.2.2.2 y1) (fun y4=>cond ((((decide (y1 < 0))||(!decide (y3.2.1=a1.2.2.2.2.1)))||(!decide (y4.2.2.1=3)))||(!decide (y2.2.1=a1.2.2.2.2.1))) (some (([]:List D_EMsg),false,(a0.1,a0.2.1,a0.2.2.1,a0.2.2.2))) (Option.bind (i_instOf (a1.1,a1.2.1,a1.2.2.1,(a1.2.2.2.1.1,a1.2.2.2.1.2),a1.2.2.2.2.1,(a1.2.2.2.2.2.1.1,a1.2.2.2.2.2.1.2.1,a1.2.2.2.2.2.1.2.2.1,a1.2.2.2.2.2.1.2.2.2.1,a1.2.2.2.2.2.1.2.2.2.2.1,a1.2.2.2.2.2.1.2.2.2.2.2.1,a1.2.2.2.2.2.1.2.2.2.2.2.2.1,a1.2.2.2.2.2.1.2.2.2.2.2.2.2),a1.2.2.2.2.2.2.1,a1.2.2.2.2.2.2.2.1,a1.2.2.2.2.2.2.2.2.1,a1.2.2.2.2.2.2.2.2.2.1,a1.2.2.2.2.2.2.2.2.2.2)) (fun y7=>Option.bind (i_pick ((y2.1.1,y2.1.2),y2.2.1,y2.2.2.1,y2.2.2.2.1,(y2.2.2.2.2.1.1,y2.2.2.2.2.1.2.1,y2.2.2.2.2.1.2.2.1,y2.2.2.2.2.1.2.2.2.1,y2.2.2.2.2.1.2.2.2.2.1,y2.2.2.2.2.1.2.2.2.2.2.1,y2.2.2.2.2.1.2.2.2.2.2.2.1,y2.2.2.2.2.1.2.2.2.2.2.2.2),y2.2.2.2.2.2.1,y2.2.2.2.2.2.2.1,y2.2.2.2.2.2.2.2) ((y7.1.1,y7.1.2),y7.2.1,y7.2.2.1,y7.2.2.2.1,(y7.2.2.2.2.1.1,y7.2.2.2.2.1.2.1,y7.2.2.2.2.1.2.2.1,y7.2.2.2.2.1.2.2.2.1,y7.2.2.2.2.1.2.2.2.2.1,y7.2.2.2.2.1.2.2.2.2.2.1,y7.2.2.2.2.1.2.2.2.2.2.2.1,y7.2.2.2.2.1.2.2.2.2.2.2.2),y7.2.2.2.2.2.1,y7.2.2.2.2.2.2.1,y7.2.2.2.2.2.2.2)) (fun y9=>cond (decide (y9.2=4)) (Option.bind (i_AttrsOf a0.2.2.1 (a1.2.2.2.1.1,a1.2.2.2.1.2) (y9.1.2.2.2.2.1.1,y9.1.2.2.2.2.1.2.1,y9.1.2.2.2.2.1.2.2.1,y9.1.2.2.2.2.1.2.2.2.1,y9.1.2.2.2.2.1.2.2.2.2.1,y9.1.2.2.2.2.1.2.2.2.2.2.1,y9.1.2.2.2.2.1.2.2.2.2.2.2.1,y9.1.2.2.2.2.1.2.2.2.2.2.2.2)) (fun y11=>Option.bind (i_ENode_put (a0.1,a0.2.1,a0.2.2.1,a0.2.2.2) ((a1.2.2.2.1.1,a1.2.2.2.1.2),y2.2.1,y2.2.1,1,(y9.1.2.2.2.2.1.1,y9.1.2.2.2.2.1.2.1,y9.1.2.2.2.2.1.2.2.1,y9.1.2.2.2.2.1.2.2.2.1,y9.1.2.2.2.2.1.2.2.2.2.1,y9.1.2.2.2.2.1.2.2.2.2.2.1,y9.1.2.2.2.2.1.2.2.2.2.2.2.1,y9.1.2.2.2.2.1.2.2.2.2.2.2.2),y11.1,y11.2,true)) (fun y12=>cond (!y12.1) (some (([]:List D_EMsg),false,(y12.2.1,y12.2.2.1,y12.2.2.2.1,y12.2.2.2.2))) (Option.bind (idx y12.2.2.2.2 y1) (fun y14=>Option.bind (some (y12.2.2.2.2.set (y1.toNat) ((y14.1.1,y14.1.2),y14.2.1,y14.2.2.1,y11.1,y14.2.2.2.2.1,y14.2.2.2.2.2.1,y14.2.2.2.2.2.2))) (fun y15=>Option.bind (i_copyIds y11.2) (fun y17=>Option.bind (idx y15 y1) (fun y18=>Option.bind (some (y15.set (y1.toNat) ((y18.1.1,y18.1.2),y18.2.1,y18.2.2.1,y18.2.2.2.1,y17,y18.2.2.2.2.2.1,y18.2.2.2.2.2.2))) (fun y19=>Option.bind (idx y19 y1) (fun y21=>Option.bind (some (y19.set (y1.toNat) ((y21.1.1,y21.1.2),y21.2.1,y21.2.2.1,y21.2.2.2.1,y21.2.2.2.2.1,([]:List Int),y21.2.2.2.2.2.2))) (fun y22=>cond (decide (y9.2=1)) (Option.bind (i_ENode_settle (y12.2.1,y12.2.2.1,y12.2.2.2.1,y22) y1 3) (fun y25=>some (y25.1,true,(y25.2.1,y25.2.2.1,y25.2.2.2.1,y25.2.2.2.2)))) (cond (decide (y9.2=4)) (Option.bind (idx y22 y1) (fun y27=>Option.bind (some (y22.set (y1.toNat) ((y27.1.1,y27.1.2),y27.2.1,1,y27.2.2.2.1,y27.2.2.2.2.1,y27.2.2.2.2.2.1,y27.2.2.2.2.2.2))) (fun y28=>Option.bind (idx y28 y1) (fun y30=>Option.bind (some (y28.set (y1.toNat) ((y30.1.1,y30.1.2),y30.2.1,y30.2.2.1,y30.2.2.2.1,y30.2.2.2.2.1,y30.2.2.2.2.2.1,true))) (fun y31=>Option.bind (i_ENode_sent (y12.2.1,y12.2.2.1,y12.2.2.2.1,y31) (1,0,0,(a1.2.2.2.1.1,a1.2.2.2.1.2),a1.2.2.2.2.1,(y9.1.2.2.2.2.1.1,y9.1.2.2.2.2.1.2.1,y9.1.2.2.2.2.1.2.2.1,y9.1.2.2.2.2.1.2.2.2.1,y9.1.2.2.2.2.1.2.2.2.2.1,y9.1.2.2.2.2.1.2.2.2.2.2.1,y9.1.2.2.2.2.1.2.2.2.2.2.2.1,y9.1.2.2.2.2.1.2.2.2.2.2.2.2),y11.1,y11.2,0,(-1),false)) (fun y33=>some (y33,true,(y12.2.1,y12.2.2.1,y12.2.2.2.1,y31)))))))) (Option.bind (i_ENode_settle (y12.2.1,y12.2.2.1,y12.2.2.2.1,y22) y1 2) (fun y34=>some (y34.1,true,(y34.2.1,y34.2.2.1,y34.2.2.2.1,y34.2.2.2.2)))))))))))))))) (Option.bind (i_ENode_put (a0.1,a0.2.1,a0.2.2.1,a0.2.2.2) ((a1.2.2.2.1.1,a1.2.2.2.1.2),y2.2.1,y2.2.1,1,(y9.1.2.2.2.2.1.1,y9.1.2.2.2.2.1.2.1,y9.1.2.2.2.2.1.2.2.1,y9.1.2.2.2.2.1.2.2.2.1,y9.1.2.2.2.2.1.2.2.2.2.1,y9.1.2.2.2.2.1.2.2.2.2.2.1,y9.1.2.2.2.2.1.2.2.2.2.2.2.1,y9.1.2.2.2.2.1.2.2.2.2.2.2.2),y9.1.2.2.2.2.2.1,y9.1.2.2.2.2.2.2.1,false)) (fun y35=>cond (!y35.1) (some (([]:List D_EMsg),false,(y35.2.1,y35.2.2.1,y35.2.2.2.1,y35.2.2.2.2))) (Option.bind (idx y35.2.2.2.2 y1) (fun y37=>Option.bind (some (y35.2.2.2.2.set (y1.toNat) ((y37.1.1,y37.1.2),y37.2.1,y37.2.2.1,y9.1.2.2.2.2.2.1,y37.2.2.2.2.1,y37.2.2.2.2.2.1,y37.2.2.2.2.2.2))) (fun y38=>Option.bind (i_copyIds y9.1.2.2.2.2.2.2.1) (fun y40=>Option.bind (idx y38 y1) (fun y41=>Option.bind (some (y38.set (y1.toNat) ((y41.1.1,y41.1.2),y41.2.1,y41.2.2.1,y41.2.2.2.1,y40,y41.2.2.2.2.2.1,y41.2.2.2.2.2.2))) (fun y42=>Option.bind (idx y42 y1) (fun y44=>Option.bind (some (y42.set (y1.toNat) ((y44.1.1,y44.1.2),y44.2.1,y44.2.2.1,y44.2.2.2.1,y44.2.2.2.2.1,([]:List Int),y44.2.2.2.2.2.2))) (fun y45=>cond (decide (y9.2=1)) (Option.bind (i_ENode_settle (y35.2.1,y35.2.2.1,y35.2.2.2.1,y45) y1 3) (fun y48=>some (y48.1,true,(y48.2.1,y48.2.2.1,y48.2.2.2.1,y48.2.2.2.2)))) (cond (decide (y9.2=4)) (Option.bind (idx y45 y1) (fun y50=>Option.bind (some (y45.set (y1.toNat) ((y50.1.1,y50.1.2),y50.2.1,1,y50.2.2.2.1,y50.2.2.2.2.1,y50.2.2.2.2.2.1,y50.2.2.2.2.2.2))) (fun y51=>Option.bind (idx y51 y1) (fun y53=>Option.bind (some (y51.set (y1.toNat) ((y53.1.1,y53.1.2),y53.2.1,y53.2.2.1,y53.2.2.2.1,y53.2.2.2.2.1,y53.2.2.2.2.2.1,true))) (fun y54=>Option.bind (i_ENode_sent (y35.2.1,y35.2.2.1,y35.2.2.2.1,y54) (1,0,0,(a1.2.2.2.1.1,a1.2.2.2.1.2),a1.2.2.2.2.1,(y9.1.2.2.2.2.1.1,y9.1.2.2.2.2.1.2.1,y9.1.2.2.2.2.1.2.2.1,y9.1.2.2.2.2.1.2.2.2.1,y9.1.2.2.2.2.1.2.2.2.2.1,y9.1.2.2.2.2.1.2.2.2.2.2.1,y9.1.2.2.2.2.1.2.2.2.2.2.2.1,y9.1.2.2.2.2.1.2.2.2.2.2.2.2),y9.1.2.2.2.2.2.1,y9.1.2.2.2.2.2.2.1,0,(-1),false)) (fun y56=>some (y56,true,(y35.2.1,y35.2.2.1,y35.2.2.2.1,y54)))))))) (Option.bind (i_ENode_settle (y35.2.1,y35.2.2.1,y35.2.2.2.1,y45) y1 2) (fun y57=>some (y57.1,true,(y57.2.1,y57.2.2.1,y57.2.2.2.1,y57.2.2.2.2))))))))))))))))))))))
theorem i_ENode_prepOk_walk (w:World) (b0_:Nat) (a0:T_ENode) (a1:T_EMsg) (h1:GT.rd w (fps [blk b0_ (GT.cells a0) 44,treeH a0.2.2.1,treeH a0.2.2.2]) a1) (r:(List D_EMsg)×Bool×D_ENode) (hp:i_ENode_prepOk (GT.dat a0) (GT.dat a1)=some r):Spec Tryz.prog 175 [Value.pointer (some ⟨b0_,0,none⟩),.agg (GT.cells a1).toArray].toArray w [blk b0_ (GT.cells a0) 44,treeH a0.2.2.1,treeH a0.2.2.2] (fun v M=>∃ (x0:TL T_EMsg) (x1:Bool) (y0:T_ENode),v=.tuple #[(TL.hdr x0),.bool x1]∧(GT.dat x0,GT.dat x1,GT.dat y0)=r∧M=[treeH x0,blk b0_ (GT.cells y0) 44,treeH y0.2.2.1,treeH y0.2.2.2]):=by
 obtain ⟨a0_1,a0_2,a0_3,a0_4⟩:=a0
 obtain ⟨a1_1,a1_2,a1_3,⟨a1_4,a1_5⟩,a1_6,⟨a1_7,a1_8,a1_9,a1_10,a1_11,a1_12,a1_13,a1_14⟩,a1_15,a1_16,a1_17,a1_18,a1_19⟩:=a1
 change Spec _ _ ([Value.pointer (some ⟨b0_,0,none⟩),Value.agg #[.int .i64 a1_1,.int .i64 a1_2,.int .i64 a1_3,.int .i64 a1_4,.int .i64 a1_5,.int .i64 a1_6,.int .i64 a1_7,.int .i64 a1_8,.int .i64 a1_9,.string a1_10,.string a1_11,.string a1_12,.int .i64 a1_13,(TL.hdr a1_14),.int .i64 a1_15,(TL.hdr a1_16),.int .i64 a1_17,.int .i64 a1_18,.bool a1_19]]:List Value).toArray w _ _
 refine Spec.intro Tryz.func175 rfl Tryz.ntmps175 rfl ?_
 unfold i_ENode_prepOk at hp
 replace hp:=dd hp
 refine s2 ?_
 refine bx fun bk3=>?_
 refine L_assign (v:=(TL.hdr (TL.nil T_EMsg 0))) rfl rfl ?_
 refine s6 ?_
 refine L_loadW rfl rfl (RdC.seg (RdC.blk mm) 3 2 rfl) (by exact agg35.h) ?_
 replace hp:=ba hp;obtain ⟨y1,hy1,hp⟩:=hp
 refine L_callX rfl fn112.h rfl (by exact fun w hw=>i_ENode_lead_walk w b0_ (a0_1,a0_2,a0_3,a0_4) (a1_4,a1_5) (cells_of_blk mm hw.sees) (RdT.now (RdT.pair RdT.int (RdT.pair RdT.int (RdT.pair (RdT.tree mm) (RdT.tree mm)))) hw) (RdT.now (RdT.pair RdT.int RdT.int) hw) _ hy1) ?_
 refine s3 ?_
 replace hp:=ba hp;obtain ⟨y2,hy2,hp⟩:=hp
 refine W_DS (pre:=[_,_,_,_,_,_,_,_]) (suf:=[_]) [7,22] [] _ pc mix (by kernel_rfl) (by kernel_rfl) rfl ?_
 refine s5 ?_
 refine D_loadW GC.none (OpV.t rfl) (fun hg=>RdC.seg (RdC.blk mm) 3 2 rfl) (by exact agg35.h) ?_
 refine D_call1R (fun v M=>∃ (x0:T_Inst),v=.agg (GT.cells x0).toArray∧GT.dat x0=y2∧M=[treeH x0]) fn41.h (OpVs.cons (OpV.t rfl) (OpVs.cons (OpV.t rfl) (OpVs.nil))) (by exact fun w F hF hM=>i_InstAt_walk w a0_3 (a1_4,a1_5) (RdT.nowS (RdT.tree mm) hF hM) (RdT.nowS (RdT.pair RdT.int RdT.int) hF hM) _ hy2) ?_
 refine D_alloc zero48.h ?_
 refine s1 ?_
 refine Give_R rfl rfl ?_
 rintro _ _ ⟨bk7,rfl,rfl⟩
 simp only [List.cons_append,List.nil_append]
 refine Give_R rfl rfl ?_
 rintro _ _ ⟨⟨⟨y2x0_1,y2x0_2⟩,y2x0_3,y2x0_4,y2x0_5,⟨y2x0_6,y2x0_7,y2x0_8,y2x0_9,y2x0_10,y2x0_11,y2x0_12,y2x0_13⟩,y2x0_14,y2x0_15,y2x0_16⟩,rfl,rfl,rfl⟩
 refine s7 ?_
 refine sc ?_
 replace hp:=dd hp
 refine xL (((y2x0_1,y2x0_2),y2x0_3,y2x0_4,y2x0_5,(y2x0_6,y2x0_7,y2x0_8,y2x0_9,y2x0_10,y2x0_11,y2x0_12,y2x0_13),y2x0_14,y2x0_15,y2x0_16):T_Inst) ?_
 refine s4 ?_
 replace hp:=idx_gb hp;obtain ⟨⟨⟨u3_1,u3_2⟩,u3_3,u3_4,u3_5,u3_6,u3_7,u3_8⟩,hy3,hp⟩:=hp
 replace hp:=idx_gb hp;obtain ⟨⟨⟨u4_1,u4_2⟩,u4_3,u4_4,u4_5,u4_6,u4_7,u4_8⟩,hy4,hp⟩:=hp
 refine W_D0 [55] mix (by kernel_rfl) rfl ?_
 refine s8 ?_
 refine D_idxA (X:=a0_4) (GC.some rfl rfl) (OpV.s rfl) (OpV.s rfl) el42.h (RdT.tree mm) (fun hg=>hy3 (gnot hg.2)) ?_
 refine s1 ?_
 refine D_load (GC.some rfl rfl) (OpV.s rfl) (fun hg=>RdT.at (RdT.tree mm) (hy3 (gnot hg.2)).2) one3.h rfl ?_
 refine s10 ?_
 refine D_idxA (X:=a0_4) (GC.some rfl rfl) (OpV.s rfl) (OpV.s rfl) el42.h (RdT.tree mm) (fun hg=>hy4 (gnot hg.2)) ?_
 refine s1 ?_
 refine D_load (GC.some rfl rfl) (OpV.s rfl) (fun hg=>RdT.at (RdT.tree mm) (hy4 (gnot hg.2)).2) one3.h rfl ?_
 refine s20 ?_
 refine s20 ?_
 refine s4 ?_
 refine kp [0,3,6,7,55] ?_
 refine W_cond rfl (fun q5=>?_) (fun q5=>?_)
 ·replace hp:=cond_t q5 hp
  refine s2 ?_
  refine L_assign (v:=(TL.hdr (TL.nil T_EMsg 0))) rfl rfl ?_
  refine s2 ?_
  obtain rfl:=sj hp
  refine W_conv (M':=treeH (TL.nil T_EMsg 0)::_) (fun w h=>addNilT (τ:=T_EMsg) 0 h) ?_
  refine s1 ?_
  refine res2 rfl (ResOK.tmp rfl) (ResOK.tmp rfl) ⟨(TL.nil T_EMsg 0),false,(a0_1,a0_2,a0_3,a0_4),rfl,rfl,rfl⟩ ms
 ·replace hp:=cond_f q5 hp
  refine s2 ?_
  refine W_AP [] 7 8 [.int .i64 0,.int .i64 0,.int .i64 0,.int .i64 0,.int .i64 0,.int .i64 0,.int .i64 0,.int .i64 0,.string ByteArray.empty,.string ByteArray.empty,.string ByteArray.empty,.int .i64 0,.slice none 0 0,.int .i64 0,.slice none 0 0,.bool false] 48 9 mix rfl ?_
  refine AP_A [blk bk7 [.int .i64 y2x0_1,.int .i64 y2x0_2,.int .i64 y2x0_3,.int .i64 y2x0_4,.int .i64 y2x0_5,.int .i64 y2x0_6,.int .i64 y2x0_7,.int .i64 y2x0_8,.string y2x0_9,.string y2x0_10,.string y2x0_11,.int .i64 y2x0_12,(TL.hdr y2x0_13),.int .i64 y2x0_14,(TL.hdr y2x0_15),.bool y2x0_16] 48] trivial ?_
  refine AP_take 0 rfl (PU_loadW rfl rfl (RdC.blk mm) (by exact agg48.h)) (by kernel_rfl) (by kernel_rfl) (by kernel_rfl) (by kernel_rfl) (by kernel_rfl) rfl rfl rfl ⟨mm,trivial⟩ ?_
  refine AP_A [blk bk3 [.int .i64 a1_1,.int .i64 a1_2,.int .i64 a1_3,.int .i64 a1_4,.int .i64 a1_5,.int .i64 a1_6,.int .i64 a1_7,.int .i64 a1_8,.int .i64 a1_9,.string a1_10,.string a1_11,.string a1_12,.int .i64 a1_13,(TL.hdr a1_14),.int .i64 a1_15,(TL.hdr a1_16),.int .i64 a1_17,.int .i64 a1_18,.bool a1_19] 103,blk bk7 [.int .i64 y2x0_1,.int .i64 y2x0_2,.int .i64 y2x0_3,.int .i64 y2x0_4,.int .i64 y2x0_5,.int .i64 y2x0_6,.int .i64 y2x0_7,.int .i64 y2x0_8,.string y2x0_9,.string y2x0_10,.string y2x0_11,.int .i64 y2x0_12,(TL.hdr y2x0_13),.int .i64 y2x0_14,(TL.hdr y2x0_15),.bool y2x0_16] 48] ⟨mm,trivial⟩ ?_
  refine AP_take 1 rfl (PU_loadW rfl rfl (RdC.blk mm) (by exact agg103.h)) (by kernel_rfl) (by kernel_rfl) (by kernel_rfl) (by kernel_rfl) (by kernel_rfl) rfl rfl rfl ⟨mm,⟨mm,trivial⟩⟩ ?_
  refine AP_step 2 rfl rfl (by first | exact .inl (by kernel_rfl) | exact .inr (by kernel_rfl)) (by kernel_rfl) rfl rfl rfl rfl rfl (fun l M=>L_alloc rfl zero48.h (fun b=>L_nil ⟨b,rfl,rfl⟩)) ⟨mm,⟨mm,trivial⟩⟩ (fun fr6=>?_)
  replace hp:=ba hp;obtain ⟨y7,hy7,hp⟩:=hp
  refine L_callR rfl fn202.h rfl (by exact fun w hw=>i_instOf_walk w (a1_1,a1_2,a1_3,(a1_4,a1_5),a1_6,(a1_7,a1_8,a1_9,a1_10,a1_11,a1_12,a1_13,a1_14),a1_15,a1_16,a1_17,a1_18,a1_19) (RdT.now (RdT.pair RdT.int (RdT.pair RdT.int (RdT.pair RdT.int (RdT.pair (RdT.pair RdT.int RdT.int) (RdT.pair RdT.int (RdT.pair (RdT.pair RdT.int (RdT.pair RdT.int (RdT.pair RdT.int (RdT.pair RdT.str (RdT.pair RdT.str (RdT.pair RdT.str (RdT.pair RdT.int (RdT.old h1.2.2.2.2.2.1.2.2.2.2.2.2.2)))))))) (RdT.pair RdT.int (RdT.pair (RdT.old h1.2.2.2.2.2.2.2.1) (RdT.pair RdT.int (RdT.pair RdT.int RdT.bool)))))))))) hw) _ hy7) ?_
  rintro _ _ ⟨⟨⟨y7x0_1,y7x0_2⟩,y7x0_3,y7x0_4,y7x0_5,⟨y7x0_6,y7x0_7,y7x0_8,y7x0_9,y7x0_10,y7x0_11,y7x0_12,y7x0_13⟩,y7x0_14,y7x0_15,y7x0_16⟩,rfl,rfl,rfl,hby7x0⟩
  refine sc ?_
  replace hp:=dd hp
  refine L_nil ⟨_,pk,⟨mm,⟨mm,trivial⟩⟩,rfl,?_⟩
  refine AP_step 3 rfl rfl (by first | exact .inl (by kernel_rfl) | exact .inr (by kernel_rfl)) (by kernel_rfl) rfl rfl rfl rfl rfl (fun l M=>L_alloc rfl zero48.h (fun b=>L_nil ⟨b,rfl,rfl⟩)) ⟨mm,⟨mm,trivial⟩⟩ (fun fr8=>?_)
  replace hp:=ba hp;obtain ⟨y9,hy9,hp⟩:=hp
  refine L_callR rfl fn201.h rfl (by exact fun w hw=>i_pick_walk w ((y2x0_1,y2x0_2),y2x0_3,y2x0_4,y2x0_5,(y2x0_6,y2x0_7,y2x0_8,y2x0_9,y2x0_10,y2x0_11,y2x0_12,y2x0_13),y2x0_14,y2x0_15,y2x0_16) ((y7x0_1,y7x0_2),y7x0_3,y7x0_4,y7x0_5,(y7x0_6,y7x0_7,y7x0_8,y7x0_9,y7x0_10,y7x0_11,y7x0_12,y7x0_13),y7x0_14,y7x0_15,y7x0_16) (RdT.now (RdT.pair (RdT.pair RdT.int RdT.int) (RdT.pair RdT.int (RdT.pair RdT.int (RdT.pair RdT.int (RdT.pair (RdT.pair RdT.int (RdT.pair RdT.int (RdT.pair RdT.int (RdT.pair RdT.str (RdT.pair RdT.str (RdT.pair RdT.str (RdT.pair RdT.int (RdT.tree mm)))))))) (RdT.pair RdT.int (RdT.pair (RdT.tree mm) RdT.bool))))))) hw) (RdT.now (RdT.pair (RdT.pair RdT.int RdT.int) (RdT.pair RdT.int (RdT.pair RdT.int (RdT.pair RdT.int (RdT.pair (RdT.pair RdT.int (RdT.pair RdT.int (RdT.pair RdT.int (RdT.pair RdT.str (RdT.pair RdT.str (RdT.pair RdT.str (RdT.pair RdT.int (RdT.snd (RdT.snd (RdT.snd (RdT.snd (RdT.snd (RdT.snd (RdT.snd (RdT.fst (RdT.snd (RdT.snd (RdT.snd (RdT.snd (RdT.map hby7x0 (RdT.pair RdT.int (RdT.pair RdT.int (RdT.pair RdT.int (RdT.pair (RdT.pair RdT.int RdT.int) (RdT.pair RdT.int (RdT.pair (RdT.pair RdT.int (RdT.pair RdT.int (RdT.pair RdT.int (RdT.pair RdT.str (RdT.pair RdT.str (RdT.pair RdT.str (RdT.pair RdT.int (RdT.old h1.2.2.2.2.2.1.2.2.2.2.2.2.2)))))))) (RdT.pair RdT.int (RdT.pair (RdT.old h1.2.2.2.2.2.2.2.1) (RdT.pair RdT.int (RdT.pair RdT.int RdT.bool)))))))))))))))))))))))))))))) (RdT.pair RdT.int (RdT.pair (RdT.fst (RdT.snd (RdT.snd (RdT.snd (RdT.snd (RdT.snd (RdT.snd (RdT.map hby7x0 (RdT.pair RdT.int (RdT.pair RdT.int (RdT.pair RdT.int (RdT.pair (RdT.pair RdT.int RdT.int) (RdT.pair RdT.int (RdT.pair (RdT.pair RdT.int (RdT.pair RdT.int (RdT.pair RdT.int (RdT.pair RdT.str (RdT.pair RdT.str (RdT.pair RdT.str (RdT.pair RdT.int (RdT.old h1.2.2.2.2.2.1.2.2.2.2.2.2.2)))))))) (RdT.pair RdT.int (RdT.pair (RdT.old h1.2.2.2.2.2.2.2.1) (RdT.pair RdT.int (RdT.pair RdT.int RdT.bool)))))))))))))))))) RdT.bool))))))) hw) _ hy9) ?_
  rintro _ _ ⟨⟨⟨y9x0_1,y9x0_2⟩,y9x0_3,y9x0_4,y9x0_5,⟨y9x0_6,y9x0_7,y9x0_8,y9x0_9,y9x0_10,y9x0_11,y9x0_12,y9x0_13⟩,y9x0_14,y9x0_15,y9x0_16⟩,y9x1,rfl,rfl,rfl,hby9x0⟩
  refine sc ?_
  replace hp:=dd hp
  refine L_nil ⟨_,pk,⟨mm,⟨mm,trivial⟩⟩,rfl,?_⟩
  refine AP_take 4 rfl (PU_move rfl rfl) (by kernel_rfl) (by kernel_rfl) (by kernel_rfl) (by kernel_rfl) (by kernel_rfl) rfl rfl rfl ⟨mm,⟨mm,trivial⟩⟩ ?_
  refine AP_take 5 rfl (PU_extract rfl rfl rfl) (by kernel_rfl) (by kernel_rfl) (by kernel_rfl) (by kernel_rfl) (by kernel_rfl) rfl rfl rfl ⟨mm,⟨mm,trivial⟩⟩ ?_
  refine AP_take 6 rfl (PU_extract (v:=.int .i64 y9x1) rfl rfl rfl) (by kernel_rfl) (by kernel_rfl) (by kernel_rfl) (by kernel_rfl) (by kernel_rfl) rfl rfl rfl ⟨mm,⟨mm,trivial⟩⟩ ?_
  refine AP_end (by kernel_rfl) rfl rfl (fun l M=>L_alloc rfl zero48.h (fun b=>L_nil ⟨b,rfl,rfl⟩)) ⟨mm,⟨mm,trivial⟩⟩ (fun bk8=>?_)
  refine AH_one 8 rfl rfl (by kernel_rfl) ?_
  refine s1 ?_
  refine L_nil ⟨⟨mm,⟨mm,trivial⟩⟩,?_⟩
  refine AH_one 9 rfl rfl (by kernel_rfl) ?_
  refine s1 ?_
  refine L_nil ⟨⟨mm,⟨mm,trivial⟩⟩,?_⟩
  refine AH_done (by kernel_rfl) ?_
  refine s3 ?_
  refine L_loadW rfl rfl (RdC.seg (RdC.blk mm) 3 2 rfl) (by exact agg35.h) ?_
  refine s5 ?_
  refine L_loadW rfl rfl (RdC.seg (RdC.blk mm) 5 8 rfl) (by exact agg38.h) ?_
  refine s4 ?_
  refine L_build (xs:=[(0,.tmp 64),(1,.tmp 66),(2,.tmp 68),(3,.const (.int .i64 1)),(4,.tmp 70),(5,.tmp 72),(6,.tmp 74)]) (cs:=[.int .i64 a1_4,.int .i64 a1_5,.int .i64 y2x0_3,.int .i64 y2x0_3,.int .i64 1,.int .i64 y9x0_6,.int .i64 y9x0_7,.int .i64 y9x0_8,.string y9x0_9,.string y9x0_10,.string y9x0_11,.int .i64 y9x0_12,(TL.hdr y9x0_13),.int .i64 y9x0_14,(TL.hdr y9x0_15),.bool false]) rfl rfl bld48.h rfl ?_
  refine al fun bk10=>?_
  refine s8 ?_
  refine kp [0,3,6,8,9,10,77] ?_
  refine W_cond rfl (fun q10=>?_) (fun q10=>?_)
  ·replace hp:=cond_t q10 hp
   refine s1 ?_
   refine W_AG [] 15 mix ?_
   refine AG_take 0 [] rfl (PU_move rfl rfl) (by kernel_rfl) (by kernel_rfl) (by kernel_rfl) (by kernel_rfl) rfl (by kernel_rfl) trivial ?_
   refine AG_take 1 [] rfl (PU_nilCheck rfl rfl) (by kernel_rfl) (by kernel_rfl) (by kernel_rfl) (by kernel_rfl) rfl (by kernel_rfl) trivial ?_
   refine AG_take 2 [] rfl (PU_fieldAddr rfl rfl fld44_2.h) (by kernel_rfl) (by kernel_rfl) (by kernel_rfl) (by kernel_rfl) rfl (by kernel_rfl) trivial ?_
   refine AG_A [blk b0_ [.int .i64 a0_1,.int .i64 a0_2,(TL.hdr a0_3),(TL.hdr a0_4)] 44] trivial ?_
   refine AG_take 3 [] rfl (PU_load rfl rfl (RdC.blk mm) one41.h rfl) (by kernel_rfl) (by kernel_rfl) (by kernel_rfl) (by kernel_rfl) rfl (by kernel_rfl) ⟨mm,trivial⟩ ?_
   refine AG_take 4 [] rfl (PU_fieldAddr rfl rfl fld103_3.h) (by kernel_rfl) (by kernel_rfl) (by kernel_rfl) (by kernel_rfl) rfl (by kernel_rfl) ⟨mm,trivial⟩ ?_
   refine AG_A [blk bk3 [.int .i64 a1_1,.int .i64 a1_2,.int .i64 a1_3,.int .i64 a1_4,.int .i64 a1_5,.int .i64 a1_6,.int .i64 a1_7,.int .i64 a1_8,.int .i64 a1_9,.string a1_10,.string a1_11,.string a1_12,.int .i64 a1_13,(TL.hdr a1_14),.int .i64 a1_15,(TL.hdr a1_16),.int .i64 a1_17,.int .i64 a1_18,.bool a1_19] 103,blk b0_ [.int .i64 a0_1,.int .i64 a0_2,(TL.hdr a0_3),(TL.hdr a0_4)] 44] ⟨mm,trivial⟩ ?_
   refine AG_take 5 [] rfl (PU_loadW rfl rfl (RdC.seg (RdC.blk mm) 3 2 rfl) (by exact agg35.h)) (by kernel_rfl) (by kernel_rfl) (by kernel_rfl) (by kernel_rfl) rfl (by kernel_rfl) ⟨mm,⟨mm,trivial⟩⟩ ?_
   refine AG_take 6 [] rfl (PU_fieldAddr rfl rfl fld48_4.h) (by kernel_rfl) (by kernel_rfl) (by kernel_rfl) (by kernel_rfl) rfl (by kernel_rfl) ⟨mm,⟨mm,trivial⟩⟩ ?_
   refine AG_A [blk bk8 [.int .i64 y9x0_1,.int .i64 y9x0_2,.int .i64 y9x0_3,.int .i64 y9x0_4,.int .i64 y9x0_5,.int .i64 y9x0_6,.int .i64 y9x0_7,.int .i64 y9x0_8,.string y9x0_9,.string y9x0_10,.string y9x0_11,.int .i64 y9x0_12,(TL.hdr y9x0_13),.int .i64 y9x0_14,(TL.hdr y9x0_15),.bool y9x0_16] 48,blk bk3 [.int .i64 a1_1,.int .i64 a1_2,.int .i64 a1_3,.int .i64 a1_4,.int .i64 a1_5,.int .i64 a1_6,.int .i64 a1_7,.int .i64 a1_8,.int .i64 a1_9,.string a1_10,.string a1_11,.string a1_12,.int .i64 a1_13,(TL.hdr a1_14),.int .i64 a1_15,(TL.hdr a1_16),.int .i64 a1_17,.int .i64 a1_18,.bool a1_19] 103,blk b0_ [.int .i64 a0_1,.int .i64 a0_2,(TL.hdr a0_3),(TL.hdr a0_4)] 44] ⟨mm,⟨mm,trivial⟩⟩ ?_
   refine AG_take 7 [] rfl (PU_loadW rfl rfl (RdC.seg (RdC.blk mm) 5 8 rfl) (by exact agg38.h)) (by kernel_rfl) (by kernel_rfl) (by kernel_rfl) (by kernel_rfl) rfl (by kernel_rfl) ⟨mm,⟨mm,⟨mm,trivial⟩⟩⟩ ?_
   refine AG_one 8 rfl rfl (by kernel_rfl) ?_
   replace hp:=ba hp;obtain ⟨y11,hy11,hp⟩:=hp
   refine L_callR rfl fn121.h rfl (by exact fun w hw=>i_AttrsOf_walk w a0_3 (a1_4,a1_5) (y9x0_6,y9x0_7,y9x0_8,y9x0_9,y9x0_10,y9x0_11,y9x0_12,y9x0_13) (RdT.now (RdT.tree mm) hw) (RdT.now (RdT.pair RdT.int RdT.int) hw) (RdT.now (RdT.pair RdT.int (RdT.pair RdT.int (RdT.pair RdT.int (RdT.pair RdT.str (RdT.pair RdT.str (RdT.pair RdT.str (RdT.pair RdT.int (RdT.snd (RdT.snd (RdT.snd (RdT.snd (RdT.snd (RdT.snd (RdT.snd (RdT.fst (RdT.snd (RdT.snd (RdT.snd (RdT.snd (RdT.map2 hby9x0 (RdT.pair (RdT.pair RdT.int RdT.int) (RdT.pair RdT.int (RdT.pair RdT.int (RdT.pair RdT.int (RdT.pair (RdT.pair RdT.int (RdT.pair RdT.int (RdT.pair RdT.int (RdT.pair RdT.str (RdT.pair RdT.str (RdT.pair RdT.str (RdT.pair RdT.int (RdT.tree mm)))))))) (RdT.pair RdT.int (RdT.pair (RdT.tree mm) RdT.bool))))))) (RdT.pair (RdT.pair RdT.int RdT.int) (RdT.pair RdT.int (RdT.pair RdT.int (RdT.pair RdT.int (RdT.pair (RdT.pair RdT.int (RdT.pair RdT.int (RdT.pair RdT.int (RdT.pair RdT.str (RdT.pair RdT.str (RdT.pair RdT.str (RdT.pair RdT.int (RdT.snd (RdT.snd (RdT.snd (RdT.snd (RdT.snd (RdT.snd (RdT.snd (RdT.fst (RdT.snd (RdT.snd (RdT.snd (RdT.snd (RdT.map hby7x0 (RdT.pair RdT.int (RdT.pair RdT.int (RdT.pair RdT.int (RdT.pair (RdT.pair RdT.int RdT.int) (RdT.pair RdT.int (RdT.pair (RdT.pair RdT.int (RdT.pair RdT.int (RdT.pair RdT.int (RdT.pair RdT.str (RdT.pair RdT.str (RdT.pair RdT.str (RdT.pair RdT.int (RdT.old h1.2.2.2.2.2.1.2.2.2.2.2.2.2)))))))) (RdT.pair RdT.int (RdT.pair (RdT.old h1.2.2.2.2.2.2.2.1) (RdT.pair RdT.int (RdT.pair RdT.int RdT.bool)))))))))))))))))))))))))))))) (RdT.pair RdT.int (RdT.pair (RdT.fst (RdT.snd (RdT.snd (RdT.snd (RdT.snd (RdT.snd (RdT.snd (RdT.map hby7x0 (RdT.pair RdT.int (RdT.pair RdT.int (RdT.pair RdT.int (RdT.pair (RdT.pair RdT.int RdT.int) (RdT.pair RdT.int (RdT.pair (RdT.pair RdT.int (RdT.pair RdT.int (RdT.pair RdT.int (RdT.pair RdT.str (RdT.pair RdT.str (RdT.pair RdT.str (RdT.pair RdT.int (RdT.old h1.2.2.2.2.2.1.2.2.2.2.2.2.2)))))))) (RdT.pair RdT.int (RdT.pair (RdT.old h1.2.2.2.2.2.2.2.1) (RdT.pair RdT.int (RdT.pair RdT.int RdT.bool)))))))))))))))))) RdT.bool))))))))))))))))))))))))))) hw) _ hy11) ?_
   rintro _ _ ⟨y11x0,y11x1,rfl,rfl,rfl⟩
   refine sc ?_
   replace hp:=dd hp
   refine L_nil ⟨⟨mm,⟨mm,⟨mm,trivial⟩⟩⟩,?_⟩
   refine AG_take 9 [] rfl (PU_move rfl rfl) (by kernel_rfl) (by kernel_rfl) (by kernel_rfl) (by kernel_rfl) rfl (by kernel_rfl) ⟨mm,⟨mm,⟨mm,trivial⟩⟩⟩ ?_
   refine AG_take 10 [] rfl (PU_extract (v:=.int .i64 y11x0) rfl rfl rfl) (by kernel_rfl) (by kernel_rfl) (by kernel_rfl) (by kernel_rfl) rfl (by kernel_rfl) ⟨mm,⟨mm,⟨mm,trivial⟩⟩⟩ ?_
   refine AG_take 11 [] rfl (PU_extract rfl rfl rfl) (by kernel_rfl) (by kernel_rfl) (by kernel_rfl) (by kernel_rfl) rfl (by kernel_rfl) ⟨mm,⟨mm,⟨mm,trivial⟩⟩⟩ ?_
   refine AG_take 12 [] rfl (PU_fieldAddr rfl rfl fld48_5.h) (by kernel_rfl) (by kernel_rfl) (by kernel_rfl) (by kernel_rfl) rfl (by kernel_rfl) ⟨mm,⟨mm,⟨mm,trivial⟩⟩⟩ ?_
   refine AG_one 13 rfl rfl (by kernel_rfl) ?_
   refine s1 ?_
   refine L_nil ⟨⟨mm,⟨mm,⟨mm,trivial⟩⟩⟩,?_⟩
   refine AG_take 14 [] rfl (PU_fieldAddr rfl rfl fld48_6.h) (by kernel_rfl) (by kernel_rfl) (by kernel_rfl) (by kernel_rfl) rfl (by kernel_rfl) ⟨mm,⟨mm,⟨mm,trivial⟩⟩⟩ ?_
   refine AG_last 15 rfl rfl (by kernel_rfl) (by kernel_rfl) ?_
   refine s2 ?_
   refine AG_done (by kernel_rfl) ?_
   refine s9 ?_
   replace hp:=ba hp;obtain ⟨y12,hy12,hp⟩:=hp
   refine L_callM [blk b0_ _ _,treeH a0_3] _ rfl fn122.h rfl pc (by exact fun w hw=>i_ENode_put_walk w b0_ (a0_1,a0_2,a0_3,a0_4) ((a1_4,a1_5),y2x0_3,y2x0_3,1,(y9x0_6,y9x0_7,y9x0_8,y9x0_9,y9x0_10,y9x0_11,y9x0_12,y9x0_13),y11x0,y11x1,true) ((RdX.pair (RdX.pair RdX.int RdX.int) (RdX.pair RdX.int (RdX.pair RdX.int (RdX.pair RdX.int (RdX.pair (RdX.pair RdX.int (RdX.pair RdX.int (RdX.pair RdX.int (RdX.pair RdX.str (RdX.pair RdX.str (RdX.pair RdX.str (RdX.pair RdX.int (RdX.snd (RdX.snd (RdX.snd (RdX.snd (RdX.snd (RdX.snd (RdX.snd (RdX.fst (RdX.snd (RdX.snd (RdX.snd (RdX.snd (RdX.map2 hby9x0 (RdX.pair (RdX.pair RdX.int RdX.int) (RdX.pair RdX.int (RdX.pair RdX.int (RdX.pair RdX.int (RdX.pair (RdX.pair RdX.int (RdX.pair RdX.int (RdX.pair RdX.int (RdX.pair RdX.str (RdX.pair RdX.str (RdX.pair RdX.str (RdX.pair RdX.int (RdX.tree mm)))))))) (RdX.pair RdX.int (RdX.pair (RdX.tree mm) RdX.bool))))))) (RdX.pair (RdX.pair RdX.int RdX.int) (RdX.pair RdX.int (RdX.pair RdX.int (RdX.pair RdX.int (RdX.pair (RdX.pair RdX.int (RdX.pair RdX.int (RdX.pair RdX.int (RdX.pair RdX.str (RdX.pair RdX.str (RdX.pair RdX.str (RdX.pair RdX.int (RdX.snd (RdX.snd (RdX.snd (RdX.snd (RdX.snd (RdX.snd (RdX.snd (RdX.fst (RdX.snd (RdX.snd (RdX.snd (RdX.snd (RdX.map hby7x0 (RdX.pair RdX.int (RdX.pair RdX.int (RdX.pair RdX.int (RdX.pair (RdX.pair RdX.int RdX.int) (RdX.pair RdX.int (RdX.pair (RdX.pair RdX.int (RdX.pair RdX.int (RdX.pair RdX.int (RdX.pair RdX.str (RdX.pair RdX.str (RdX.pair RdX.str (RdX.pair RdX.int (RdX.old h1.2.2.2.2.2.1.2.2.2.2.2.2.2)))))))) (RdX.pair RdX.int (RdX.pair (RdX.old h1.2.2.2.2.2.2.2.1) (RdX.pair RdX.int (RdX.pair RdX.int RdX.bool)))))))))))))))))))))))))))))) (RdX.pair RdX.int (RdX.pair (RdX.fst (RdX.snd (RdX.snd (RdX.snd (RdX.snd (RdX.snd (RdX.snd (RdX.map hby7x0 (RdX.pair RdX.int (RdX.pair RdX.int (RdX.pair RdX.int (RdX.pair (RdX.pair RdX.int RdX.int) (RdX.pair RdX.int (RdX.pair (RdX.pair RdX.int (RdX.pair RdX.int (RdX.pair RdX.int (RdX.pair RdX.str (RdX.pair RdX.str (RdX.pair RdX.str (RdX.pair RdX.int (RdX.old h1.2.2.2.2.2.1.2.2.2.2.2.2.2)))))))) (RdX.pair RdX.int (RdX.pair (RdX.old h1.2.2.2.2.2.2.2.1) (RdX.pair RdX.int (RdX.pair RdX.int RdX.bool)))))))))))))))))) RdX.bool))))))))))))))))))))))))))) (RdX.pair RdX.int (RdX.pair (RdX.tree mm) RdX.bool))))))) w hw) ((RdX.tree mm) w hw) _ hy12) ?_
   rintro _ _ ⟨y12x0,⟨y12y0_1,y12y0_2,y12y0_3,y12y0_4⟩,rfl,rfl,rfl,hey12_0⟩
   obtain rfl:a0_4=y12y0_4:=hey12_0.symm
   refine sc ?_
   replace hp:=dd hp
   refine s2 ?_
   refine kp [0,3,6,9,10,96] ?_
   refine W_cond rfl (fun q13=>?_) (fun q13=>?_)
   ·replace hp:=cond_t q13 hp
    refine s2 ?_
    refine L_assign (v:=(TL.hdr (TL.nil T_EMsg 0))) rfl rfl ?_
    refine s2 ?_
    obtain rfl:=sj hp
    refine W_conv (M':=treeH (TL.nil T_EMsg 0)::_) (fun w h=>addNilT (τ:=T_EMsg) 0 h) ?_
    refine s1 ?_
    refine res2 rfl (ResOK.tmp rfl) (ResOK.tmp rfl) ⟨(TL.nil T_EMsg 0),false,(y12y0_1,y12y0_2,y12y0_3,a0_4),rfl,rfl,rfl⟩ ms
   ·replace hp:=cond_f q13 hp
    refine s8 ?_
    replace hp:=idx_bind hp;obtain ⟨⟨⟨u14_1,u14_2⟩,u14_3,u14_4,u14_5,u14_6,u14_7,u14_8⟩,hy14,hp⟩:=hp
    refine L_idxA (X:=a0_4) rfl rfl rfl el42.h (RdT.tree mm) hy14 ?_
    refine s9 ?_
    refine L_conv (M':=treeH ((u14_1,u14_2),u14_3,u14_4,u14_5,u14_6,u14_7,u14_8)::holeH a0_4 (y1.toNat) (GT.cells ((u14_1,u14_2),u14_3,u14_4,u14_5,u14_6,u14_7,u14_8))::_) (fun w h=>hole_open hy14.2 pk h) ?_
    refine xL (((u14_1,u14_2),u14_3,u14_4,u14_5,u14_6,u14_7,u14_8):T_Lead) ?_
    refine L_stH (X:=a0_4) (i:=y1.toNat) (sz:=8) (fo:=4) (n:=1) rfl rfl pk rfl (.inr ⟨one3.h,rfl⟩) rfl (allOne rfl) (Nat.le_of_ble_eq_true rfl) ?_
    refine jL (((u14_1,u14_2),u14_3,u14_4,y11x0,u14_6,u14_7,u14_8):T_Lead) ?_
    replace hp:=ba hp;obtain ⟨y15,hy15,hp⟩:=hp
    refine L_close (X:=a0_4) (((u14_1,u14_2),u14_3,u14_4,y11x0,u14_6,u14_7,u14_8):T_Lead) rfl pk pk hy15 (fun X16 hdX16 hhX16=>?_)
    subst hdX16
    try simp only [cells_pair,cells_int,cells_bool,cells_str,cells_TL,List.cons_append,List.nil_append]
    try rw [← hhX16]
    try rw [← g_of_hdr hhX16]
    try rw [← o_of_hdr hhX16]
    refine s6 ?_
    replace hp:=ba hp;obtain ⟨y17,hy17,hp⟩:=hp
    refine L_callR rfl fn123.h rfl (by exact fun w hw=>i_copyIds_walk w y11x1 (RdT.now (RdT.tree mm) hw) _ hy17) ?_
    rintro _ _ ⟨y17x0,rfl,rfl,rfl⟩
    refine sc ?_
    replace hp:=dd hp
    refine s2 ?_
    replace hp:=idx_bind hp;obtain ⟨⟨⟨u18_1,u18_2⟩,u18_3,u18_4,u18_5,u18_6,u18_7,u18_8⟩,hy18,hp⟩:=hp
    refine L_conv (M':=treeH ((u18_1,u18_2),u18_3,u18_4,u18_5,u18_6,u18_7,u18_8)::holeH X16 (y1.toNat) (GT.cells ((u18_1,u18_2),u18_3,u18_4,u18_5,u18_6,u18_7,u18_8))::_) (fun w h=>hole_open hy18.2 pk h) ?_
    refine xL (((u18_1,u18_2),u18_3,u18_4,u18_5,u18_6,u18_7,u18_8):T_Lead) ?_
    refine L_stH (X:=X16) (i:=y1.toNat) (sz:=8) (fo:=5) (n:=1) rfl rfl pk rfl (.inr ⟨one31.h,rfl⟩) rfl (allOne rfl) (Nat.le_of_ble_eq_true rfl) ?_
    refine jL (((u18_1,u18_2),u18_3,u18_4,u18_5,y17x0,u18_7,u18_8):T_Lead) ?_
    replace hp:=ba hp;obtain ⟨y19,hy19,hp⟩:=hp
    refine L_close (X:=X16) (((u18_1,u18_2),u18_3,u18_4,u18_5,y17x0,u18_7,u18_8):T_Lead) rfl pk pk hy19 (fun X20 hdX20 hhX20=>?_)
    subst hdX20
    try simp only [cells_pair,cells_int,cells_bool,cells_str,cells_TL,List.cons_append,List.nil_append]
    try rw [← hhX20]
    try rw [← g_of_hdr hhX20]
    try rw [← o_of_hdr hhX20]
    refine s6 ?_
    replace hp:=idx_bind hp;obtain ⟨⟨⟨u21_1,u21_2⟩,u21_3,u21_4,u21_5,u21_6,u21_7,u21_8⟩,hy21,hp⟩:=hp
    refine L_conv (M':=treeH ((u21_1,u21_2),u21_3,u21_4,u21_5,u21_6,u21_7,u21_8)::holeH X20 (y1.toNat) (GT.cells ((u21_1,u21_2),u21_3,u21_4,u21_5,u21_6,u21_7,u21_8))::_) (fun w h=>hole_open hy21.2 pk h) ?_
    refine xL (((u21_1,u21_2),u21_3,u21_4,u21_5,u21_6,u21_7,u21_8):T_Lead) ?_
    refine L_stH (X:=X20) (i:=y1.toNat) (sz:=8) (fo:=6) (n:=1) rfl rfl pk rfl (.inr ⟨one78.h,rfl⟩) rfl (allOne rfl) (Nat.le_of_ble_eq_true rfl) ?_
    refine L_conv (M':=treeH (TL.nil Int 0)::_) (fun w h=>addNilT (τ:=Int) 0 h) ?_
    refine jL (((u21_1,u21_2),u21_3,u21_4,u21_5,u21_6,(TL.nil Int 0),u21_8):T_Lead) ?_
    replace hp:=ba hp;obtain ⟨y22,hy22,hp⟩:=hp
    refine L_close (X:=X20) (((u21_1,u21_2),u21_3,u21_4,u21_5,u21_6,(TL.nil Int 0),u21_8):T_Lead) rfl pk pk hy22 (fun X23 hdX23 hhX23=>?_)
    subst hdX23
    try simp only [cells_pair,cells_int,cells_bool,cells_str,cells_TL,List.cons_append,List.nil_append]
    try rw [← hhX23]
    try rw [← g_of_hdr hhX23]
    try rw [← o_of_hdr hhX23]
    refine s12 ?_
    refine kp [0,3,6,10,11,117,118] ?_
    refine W_cond rfl (fun q24=>?_) (fun q24=>?_)
    ·replace hp:=cond_t q24 hp
     refine s4 ?_
     replace hp:=ba hp;obtain ⟨y25,hy25,hp⟩:=hp
     refine L_callM [blk b0_ _ _,treeH y12y0_3,treeH X23] _ rfl fn126.h rfl pc (by exact fun w hw=>i_ENode_settle_walk w b0_ (y12y0_1,y12y0_2,y12y0_3,X23) y1 3  _ hy25) ?_
     rintro _ _ ⟨y25x0,⟨y25y0_1,y25y0_2,y25y0_3,y25y0_4⟩,rfl,rfl,rfl⟩
     refine sc ?_
     replace hp:=dd hp
     refine s3 ?_
     obtain rfl:=sj hp
     refine s1 ?_
     refine res2 rfl (ResOK.tmp rfl) (ResOK.tmp rfl) ⟨y25x0,true,(y25y0_1,y25y0_2,y25y0_3,y25y0_4),rfl,rfl,rfl⟩ ms
    ·replace hp:=cond_f q24 hp
     refine s5 ?_
     refine kp [0,3,6,10,11,123] ?_
     refine W_cond rfl (fun q26=>?_) (fun q26=>?_)
     ·replace hp:=cond_t q26 hp
      refine s5 ?_
      replace hp:=idx_bind hp;obtain ⟨⟨⟨u27_1,u27_2⟩,u27_3,u27_4,u27_5,u27_6,u27_7,u27_8⟩,hy27,hp⟩:=hp
      refine L_conv (M':=treeH ((u27_1,u27_2),u27_3,u27_4,u27_5,u27_6,u27_7,u27_8)::holeH X23 (y1.toNat) (GT.cells ((u27_1,u27_2),u27_3,u27_4,u27_5,u27_6,u27_7,u27_8))::_) (fun w h=>hole_open hy27.2 pk h) ?_
      refine xL (((u27_1,u27_2),u27_3,u27_4,u27_5,u27_6,u27_7,u27_8):T_Lead) ?_
      refine L_stH (X:=X23) (i:=y1.toNat) (sz:=8) (fo:=3) (n:=1) rfl rfl pk rfl (.inr ⟨one3.h,rfl⟩) rfl (allOne rfl) (Nat.le_of_ble_eq_true rfl) ?_
      refine jL (((u27_1,u27_2),u27_3,1,u27_5,u27_6,u27_7,u27_8):T_Lead) ?_
      replace hp:=ba hp;obtain ⟨y28,hy28,hp⟩:=hp
      refine L_close (X:=X23) (((u27_1,u27_2),u27_3,1,u27_5,u27_6,u27_7,u27_8):T_Lead) rfl pk pk hy28 (fun X29 hdX29 hhX29=>?_)
      subst hdX29
      try simp only [cells_pair,cells_int,cells_bool,cells_str,cells_TL,List.cons_append,List.nil_append]
      try rw [← hhX29]
      try rw [← g_of_hdr hhX29]
      try rw [← o_of_hdr hhX29]
      refine s6 ?_
      replace hp:=idx_bind hp;obtain ⟨⟨⟨u30_1,u30_2⟩,u30_3,u30_4,u30_5,u30_6,u30_7,u30_8⟩,hy30,hp⟩:=hp
      refine L_conv (M':=treeH ((u30_1,u30_2),u30_3,u30_4,u30_5,u30_6,u30_7,u30_8)::holeH X29 (y1.toNat) (GT.cells ((u30_1,u30_2),u30_3,u30_4,u30_5,u30_6,u30_7,u30_8))::_) (fun w h=>hole_open hy30.2 pk h) ?_
      refine xL (((u30_1,u30_2),u30_3,u30_4,u30_5,u30_6,u30_7,u30_8):T_Lead) ?_
      refine L_stH (X:=X29) (i:=y1.toNat) (sz:=8) (fo:=7) (n:=1) rfl rfl pk rfl (.inr ⟨one4.h,rfl⟩) rfl (allOne rfl) (Nat.le_of_ble_eq_true rfl) ?_
      refine jL (((u30_1,u30_2),u30_3,u30_4,u30_5,u30_6,u30_7,true):T_Lead) ?_
      replace hp:=ba hp;obtain ⟨y31,hy31,hp⟩:=hp
      refine L_close (X:=X29) (((u30_1,u30_2),u30_3,u30_4,u30_5,u30_6,u30_7,true):T_Lead) rfl pk pk hy31 (fun X32 hdX32 hhX32=>?_)
      subst hdX32
      try simp only [cells_pair,cells_int,cells_bool,cells_str,cells_TL,List.cons_append,List.nil_append]
      try rw [← hhX32]
      try rw [← g_of_hdr hhX32]
      try rw [← o_of_hdr hhX32]
      refine s5 ?_
      refine L_loadW rfl rfl (RdC.seg (RdC.blk mm) 3 2 rfl) (by exact agg35.h) ?_
      refine s3 ?_
      refine L_loadW rfl rfl (RdC.seg (RdC.blk mm) 5 8 rfl) (by exact agg38.h) ?_
      refine s4 ?_
      refine L_build (xs:=[(0,.const (.int .i64 1)),(3,.tmp 133),(4,.tmp 135),(5,.tmp 137),(6,.tmp 139),(7,.tmp 141),(9,.const (.int .i64 (-1)))]) (cs:=[.int .i64 1,.int .i64 0,.int .i64 0,.int .i64 a1_4,.int .i64 a1_5,.int .i64 a1_6,.int .i64 y9x0_6,.int .i64 y9x0_7,.int .i64 y9x0_8,.string y9x0_9,.string y9x0_10,.string y9x0_11,.int .i64 y9x0_12,(TL.hdr y9x0_13),.int .i64 y11x0,(TL.hdr y11x1),.int .i64 0,.int .i64 (-1),.bool false]) rfl rfl bld103.h rfl ?_
      replace hp:=ba hp;obtain ⟨y33,hy33,hp⟩:=hp
      refine L_callR rfl fn124.h rfl (by exact fun w hw=>i_ENode_sent_walk w b0_ (y12y0_1,y12y0_2,y12y0_3,X32) (1,0,0,(a1_4,a1_5),a1_6,(y9x0_6,y9x0_7,y9x0_8,y9x0_9,y9x0_10,y9x0_11,y9x0_12,y9x0_13),y11x0,y11x1,0,(-1),false) (cells_of_blk mm hw.sees) (RdT.now (RdT.pair RdT.int (RdT.pair RdT.int (RdT.pair (RdT.tree mm) (RdT.tree mm)))) hw) (RdT.now (RdT.pair RdT.int (RdT.pair RdT.int (RdT.pair RdT.int (RdT.pair (RdT.pair RdT.int RdT.int) (RdT.pair RdT.int (RdT.pair (RdT.pair RdT.int (RdT.pair RdT.int (RdT.pair RdT.int (RdT.pair RdT.str (RdT.pair RdT.str (RdT.pair RdT.str (RdT.pair RdT.int (RdT.snd (RdT.snd (RdT.snd (RdT.snd (RdT.snd (RdT.snd (RdT.snd (RdT.fst (RdT.snd (RdT.snd (RdT.snd (RdT.snd (RdT.map2 hby9x0 (RdT.pair (RdT.pair RdT.int RdT.int) (RdT.pair RdT.int (RdT.pair RdT.int (RdT.pair RdT.int (RdT.pair (RdT.pair RdT.int (RdT.pair RdT.int (RdT.pair RdT.int (RdT.pair RdT.str (RdT.pair RdT.str (RdT.pair RdT.str (RdT.pair RdT.int (RdT.tree mm)))))))) (RdT.pair RdT.int (RdT.pair (RdT.tree mm) RdT.bool))))))) (RdT.pair (RdT.pair RdT.int RdT.int) (RdT.pair RdT.int (RdT.pair RdT.int (RdT.pair RdT.int (RdT.pair (RdT.pair RdT.int (RdT.pair RdT.int (RdT.pair RdT.int (RdT.pair RdT.str (RdT.pair RdT.str (RdT.pair RdT.str (RdT.pair RdT.int (RdT.snd (RdT.snd (RdT.snd (RdT.snd (RdT.snd (RdT.snd (RdT.snd (RdT.fst (RdT.snd (RdT.snd (RdT.snd (RdT.snd (RdT.map hby7x0 (RdT.pair RdT.int (RdT.pair RdT.int (RdT.pair RdT.int (RdT.pair (RdT.pair RdT.int RdT.int) (RdT.pair RdT.int (RdT.pair (RdT.pair RdT.int (RdT.pair RdT.int (RdT.pair RdT.int (RdT.pair RdT.str (RdT.pair RdT.str (RdT.pair RdT.str (RdT.pair RdT.int (RdT.old h1.2.2.2.2.2.1.2.2.2.2.2.2.2)))))))) (RdT.pair RdT.int (RdT.pair (RdT.old h1.2.2.2.2.2.2.2.1) (RdT.pair RdT.int (RdT.pair RdT.int RdT.bool)))))))))))))))))))))))))))))) (RdT.pair RdT.int (RdT.pair (RdT.fst (RdT.snd (RdT.snd (RdT.snd (RdT.snd (RdT.snd (RdT.snd (RdT.map hby7x0 (RdT.pair RdT.int (RdT.pair RdT.int (RdT.pair RdT.int (RdT.pair (RdT.pair RdT.int RdT.int) (RdT.pair RdT.int (RdT.pair (RdT.pair RdT.int (RdT.pair RdT.int (RdT.pair RdT.int (RdT.pair RdT.str (RdT.pair RdT.str (RdT.pair RdT.str (RdT.pair RdT.int (RdT.old h1.2.2.2.2.2.1.2.2.2.2.2.2.2)))))))) (RdT.pair RdT.int (RdT.pair (RdT.old h1.2.2.2.2.2.2.2.1) (RdT.pair RdT.int (RdT.pair RdT.int RdT.bool)))))))))))))))))) RdT.bool))))))))))))))))))))))))))) (RdT.pair RdT.int (RdT.pair (RdT.tree mm) (RdT.pair RdT.int (RdT.pair RdT.int RdT.bool)))))))))) hw) _ hy33) ?_
      rintro _ _ ⟨y33x0,rfl,rfl,rfl⟩
      refine sc ?_
      replace hp:=dd hp
      refine s3 ?_
      obtain rfl:=sj hp
      refine s1 ?_
      refine res2 rfl (ResOK.tmp rfl) (ResOK.tmp rfl) ⟨y33x0,true,(y12y0_1,y12y0_2,y12y0_3,X32),rfl,rfl,rfl⟩ ms
     ·replace hp:=cond_f q26 hp
      refine s5 ?_
      replace hp:=ba hp;obtain ⟨y34,hy34,hp⟩:=hp
      refine L_callM [blk b0_ _ _,treeH y12y0_3,treeH X23] _ rfl fn126.h rfl pc (by exact fun w hw=>i_ENode_settle_walk w b0_ (y12y0_1,y12y0_2,y12y0_3,X23) y1 2  _ hy34) ?_
      rintro _ _ ⟨y34x0,⟨y34y0_1,y34y0_2,y34y0_3,y34y0_4⟩,rfl,rfl,rfl⟩
      refine sc ?_
      replace hp:=dd hp
      refine s3 ?_
      obtain rfl:=sj hp
      refine s1 ?_
      refine res2 rfl (ResOK.tmp rfl) (ResOK.tmp rfl) ⟨y34x0,true,(y34y0_1,y34y0_2,y34y0_3,y34y0_4),rfl,rfl,rfl⟩ ms
  ·replace hp:=cond_f q10 hp
   refine s6 ?_
   replace hp:=ba hp;obtain ⟨y35,hy35,hp⟩:=hp
   refine L_callM [blk b0_ _ _,treeH a0_3] _ rfl fn122.h rfl pc (by exact fun w hw=>i_ENode_put_walk w b0_ (a0_1,a0_2,a0_3,a0_4) ((a1_4,a1_5),y2x0_3,y2x0_3,1,(y9x0_6,y9x0_7,y9x0_8,y9x0_9,y9x0_10,y9x0_11,y9x0_12,y9x0_13),y9x0_14,y9x0_15,false) ((RdX.pair (RdX.pair RdX.int RdX.int) (RdX.pair RdX.int (RdX.pair RdX.int (RdX.pair RdX.int (RdX.pair (RdX.pair RdX.int (RdX.pair RdX.int (RdX.pair RdX.int (RdX.pair RdX.str (RdX.pair RdX.str (RdX.pair RdX.str (RdX.pair RdX.int (RdX.snd (RdX.snd (RdX.snd (RdX.snd (RdX.snd (RdX.snd (RdX.snd (RdX.fst (RdX.snd (RdX.snd (RdX.snd (RdX.snd (RdX.map2 hby9x0 (RdX.pair (RdX.pair RdX.int RdX.int) (RdX.pair RdX.int (RdX.pair RdX.int (RdX.pair RdX.int (RdX.pair (RdX.pair RdX.int (RdX.pair RdX.int (RdX.pair RdX.int (RdX.pair RdX.str (RdX.pair RdX.str (RdX.pair RdX.str (RdX.pair RdX.int (RdX.tree mm)))))))) (RdX.pair RdX.int (RdX.pair (RdX.tree mm) RdX.bool))))))) (RdX.pair (RdX.pair RdX.int RdX.int) (RdX.pair RdX.int (RdX.pair RdX.int (RdX.pair RdX.int (RdX.pair (RdX.pair RdX.int (RdX.pair RdX.int (RdX.pair RdX.int (RdX.pair RdX.str (RdX.pair RdX.str (RdX.pair RdX.str (RdX.pair RdX.int (RdX.snd (RdX.snd (RdX.snd (RdX.snd (RdX.snd (RdX.snd (RdX.snd (RdX.fst (RdX.snd (RdX.snd (RdX.snd (RdX.snd (RdX.map hby7x0 (RdX.pair RdX.int (RdX.pair RdX.int (RdX.pair RdX.int (RdX.pair (RdX.pair RdX.int RdX.int) (RdX.pair RdX.int (RdX.pair (RdX.pair RdX.int (RdX.pair RdX.int (RdX.pair RdX.int (RdX.pair RdX.str (RdX.pair RdX.str (RdX.pair RdX.str (RdX.pair RdX.int (RdX.old h1.2.2.2.2.2.1.2.2.2.2.2.2.2)))))))) (RdX.pair RdX.int (RdX.pair (RdX.old h1.2.2.2.2.2.2.2.1) (RdX.pair RdX.int (RdX.pair RdX.int RdX.bool)))))))))))))))))))))))))))))) (RdX.pair RdX.int (RdX.pair (RdX.fst (RdX.snd (RdX.snd (RdX.snd (RdX.snd (RdX.snd (RdX.snd (RdX.map hby7x0 (RdX.pair RdX.int (RdX.pair RdX.int (RdX.pair RdX.int (RdX.pair (RdX.pair RdX.int RdX.int) (RdX.pair RdX.int (RdX.pair (RdX.pair RdX.int (RdX.pair RdX.int (RdX.pair RdX.int (RdX.pair RdX.str (RdX.pair RdX.str (RdX.pair RdX.str (RdX.pair RdX.int (RdX.old h1.2.2.2.2.2.1.2.2.2.2.2.2.2)))))))) (RdX.pair RdX.int (RdX.pair (RdX.old h1.2.2.2.2.2.2.2.1) (RdX.pair RdX.int (RdX.pair RdX.int RdX.bool)))))))))))))))))) RdX.bool))))))))))))))))))))))))))) (RdX.pair RdX.int (RdX.pair (RdX.fst (RdX.snd (RdX.snd (RdX.snd (RdX.snd (RdX.snd (RdX.snd (RdX.map2 hby9x0 (RdX.pair (RdX.pair RdX.int RdX.int) (RdX.pair RdX.int (RdX.pair RdX.int (RdX.pair RdX.int (RdX.pair (RdX.pair RdX.int (RdX.pair RdX.int (RdX.pair RdX.int (RdX.pair RdX.str (RdX.pair RdX.str (RdX.pair RdX.str (RdX.pair RdX.int (RdX.tree mm)))))))) (RdX.pair RdX.int (RdX.pair (RdX.tree mm) RdX.bool))))))) (RdX.pair (RdX.pair RdX.int RdX.int) (RdX.pair RdX.int (RdX.pair RdX.int (RdX.pair RdX.int (RdX.pair (RdX.pair RdX.int (RdX.pair RdX.int (RdX.pair RdX.int (RdX.pair RdX.str (RdX.pair RdX.str (RdX.pair RdX.str (RdX.pair RdX.int (RdX.snd (RdX.snd (RdX.snd (RdX.snd (RdX.snd (RdX.snd (RdX.snd (RdX.fst (RdX.snd (RdX.snd (RdX.snd (RdX.snd (RdX.map hby7x0 (RdX.pair RdX.int (RdX.pair RdX.int (RdX.pair RdX.int (RdX.pair (RdX.pair RdX.int RdX.int) (RdX.pair RdX.int (RdX.pair (RdX.pair RdX.int (RdX.pair RdX.int (RdX.pair RdX.int (RdX.pair RdX.str (RdX.pair RdX.str (RdX.pair RdX.str (RdX.pair RdX.int (RdX.old h1.2.2.2.2.2.1.2.2.2.2.2.2.2)))))))) (RdX.pair RdX.int (RdX.pair (RdX.old h1.2.2.2.2.2.2.2.1) (RdX.pair RdX.int (RdX.pair RdX.int RdX.bool)))))))))))))))))))))))))))))) (RdX.pair RdX.int (RdX.pair (RdX.fst (RdX.snd (RdX.snd (RdX.snd (RdX.snd (RdX.snd (RdX.snd (RdX.map hby7x0 (RdX.pair RdX.int (RdX.pair RdX.int (RdX.pair RdX.int (RdX.pair (RdX.pair RdX.int RdX.int) (RdX.pair RdX.int (RdX.pair (RdX.pair RdX.int (RdX.pair RdX.int (RdX.pair RdX.int (RdX.pair RdX.str (RdX.pair RdX.str (RdX.pair RdX.str (RdX.pair RdX.int (RdX.old h1.2.2.2.2.2.1.2.2.2.2.2.2.2)))))))) (RdX.pair RdX.int (RdX.pair (RdX.old h1.2.2.2.2.2.2.2.1) (RdX.pair RdX.int (RdX.pair RdX.int RdX.bool)))))))))))))))))) RdX.bool))))))))))))))) RdX.bool))))))) w hw) ((RdX.tree mm) w hw) _ hy35) ?_
   rintro _ _ ⟨y35x0,⟨y35y0_1,y35y0_2,y35y0_3,y35y0_4⟩,rfl,rfl,rfl,hey35_0⟩
   obtain rfl:a0_4=y35y0_4:=hey35_0.symm
   refine sc ?_
   replace hp:=dd hp
   refine s2 ?_
   refine kp [0,3,6,9,10,96] ?_
   refine W_cond rfl (fun q36=>?_) (fun q36=>?_)
   ·replace hp:=cond_t q36 hp
    refine s2 ?_
    refine L_assign (v:=(TL.hdr (TL.nil T_EMsg 0))) rfl rfl ?_
    refine s2 ?_
    obtain rfl:=sj hp
    refine W_conv (M':=treeH (TL.nil T_EMsg 0)::_) (fun w h=>addNilT (τ:=T_EMsg) 0 h) ?_
    refine s1 ?_
    refine res2 rfl (ResOK.tmp rfl) (ResOK.tmp rfl) ⟨(TL.nil T_EMsg 0),false,(y35y0_1,y35y0_2,y35y0_3,a0_4),rfl,rfl,rfl⟩ ms
   ·replace hp:=cond_f q36 hp
    refine s8 ?_
    replace hp:=idx_bind hp;obtain ⟨⟨⟨u37_1,u37_2⟩,u37_3,u37_4,u37_5,u37_6,u37_7,u37_8⟩,hy37,hp⟩:=hp
    refine L_idxA (X:=a0_4) rfl rfl rfl el42.h (RdT.tree mm) hy37 ?_
    refine s9 ?_
    refine L_conv (M':=treeH ((u37_1,u37_2),u37_3,u37_4,u37_5,u37_6,u37_7,u37_8)::holeH a0_4 (y1.toNat) (GT.cells ((u37_1,u37_2),u37_3,u37_4,u37_5,u37_6,u37_7,u37_8))::_) (fun w h=>hole_open hy37.2 pk h) ?_
    refine xL (((u37_1,u37_2),u37_3,u37_4,u37_5,u37_6,u37_7,u37_8):T_Lead) ?_
    refine L_stH (X:=a0_4) (i:=y1.toNat) (sz:=8) (fo:=4) (n:=1) rfl rfl pk rfl (.inr ⟨one3.h,rfl⟩) rfl (allOne rfl) (Nat.le_of_ble_eq_true rfl) ?_
    refine jL (((u37_1,u37_2),u37_3,u37_4,y9x0_14,u37_6,u37_7,u37_8):T_Lead) ?_
    replace hp:=ba hp;obtain ⟨y38,hy38,hp⟩:=hp
    refine L_close (X:=a0_4) (((u37_1,u37_2),u37_3,u37_4,y9x0_14,u37_6,u37_7,u37_8):T_Lead) rfl pk pk hy38 (fun X39 hdX39 hhX39=>?_)
    subst hdX39
    try simp only [cells_pair,cells_int,cells_bool,cells_str,cells_TL,List.cons_append,List.nil_append]
    try rw [← hhX39]
    try rw [← g_of_hdr hhX39]
    try rw [← o_of_hdr hhX39]
    refine s6 ?_
    replace hp:=ba hp;obtain ⟨y40,hy40,hp⟩:=hp
    refine L_callR rfl fn123.h rfl (by exact fun w hw=>i_copyIds_walk w y9x0_15 (RdT.now (RdT.fst (RdT.snd (RdT.snd (RdT.snd (RdT.snd (RdT.snd (RdT.snd (RdT.map2 hby9x0 (RdT.pair (RdT.pair RdT.int RdT.int) (RdT.pair RdT.int (RdT.pair RdT.int (RdT.pair RdT.int (RdT.pair (RdT.pair RdT.int (RdT.pair RdT.int (RdT.pair RdT.int (RdT.pair RdT.str (RdT.pair RdT.str (RdT.pair RdT.str (RdT.pair RdT.int (RdT.tree mm)))))))) (RdT.pair RdT.int (RdT.pair (RdT.tree mm) RdT.bool))))))) (RdT.pair (RdT.pair RdT.int RdT.int) (RdT.pair RdT.int (RdT.pair RdT.int (RdT.pair RdT.int (RdT.pair (RdT.pair RdT.int (RdT.pair RdT.int (RdT.pair RdT.int (RdT.pair RdT.str (RdT.pair RdT.str (RdT.pair RdT.str (RdT.pair RdT.int (RdT.snd (RdT.snd (RdT.snd (RdT.snd (RdT.snd (RdT.snd (RdT.snd (RdT.fst (RdT.snd (RdT.snd (RdT.snd (RdT.snd (RdT.map hby7x0 (RdT.pair RdT.int (RdT.pair RdT.int (RdT.pair RdT.int (RdT.pair (RdT.pair RdT.int RdT.int) (RdT.pair RdT.int (RdT.pair (RdT.pair RdT.int (RdT.pair RdT.int (RdT.pair RdT.int (RdT.pair RdT.str (RdT.pair RdT.str (RdT.pair RdT.str (RdT.pair RdT.int (RdT.old h1.2.2.2.2.2.1.2.2.2.2.2.2.2)))))))) (RdT.pair RdT.int (RdT.pair (RdT.old h1.2.2.2.2.2.2.2.1) (RdT.pair RdT.int (RdT.pair RdT.int RdT.bool)))))))))))))))))))))))))))))) (RdT.pair RdT.int (RdT.pair (RdT.fst (RdT.snd (RdT.snd (RdT.snd (RdT.snd (RdT.snd (RdT.snd (RdT.map hby7x0 (RdT.pair RdT.int (RdT.pair RdT.int (RdT.pair RdT.int (RdT.pair (RdT.pair RdT.int RdT.int) (RdT.pair RdT.int (RdT.pair (RdT.pair RdT.int (RdT.pair RdT.int (RdT.pair RdT.int (RdT.pair RdT.str (RdT.pair RdT.str (RdT.pair RdT.str (RdT.pair RdT.int (RdT.old h1.2.2.2.2.2.1.2.2.2.2.2.2.2)))))))) (RdT.pair RdT.int (RdT.pair (RdT.old h1.2.2.2.2.2.2.2.1) (RdT.pair RdT.int (RdT.pair RdT.int RdT.bool)))))))))))))))))) RdT.bool))))))))))))))) hw) _ hy40) ?_
    rintro _ _ ⟨y40x0,rfl,rfl,rfl⟩
    refine sc ?_
    replace hp:=dd hp
    refine s2 ?_
    replace hp:=idx_bind hp;obtain ⟨⟨⟨u41_1,u41_2⟩,u41_3,u41_4,u41_5,u41_6,u41_7,u41_8⟩,hy41,hp⟩:=hp
    refine L_conv (M':=treeH ((u41_1,u41_2),u41_3,u41_4,u41_5,u41_6,u41_7,u41_8)::holeH X39 (y1.toNat) (GT.cells ((u41_1,u41_2),u41_3,u41_4,u41_5,u41_6,u41_7,u41_8))::_) (fun w h=>hole_open hy41.2 pk h) ?_
    refine xL (((u41_1,u41_2),u41_3,u41_4,u41_5,u41_6,u41_7,u41_8):T_Lead) ?_
    refine L_stH (X:=X39) (i:=y1.toNat) (sz:=8) (fo:=5) (n:=1) rfl rfl pk rfl (.inr ⟨one31.h,rfl⟩) rfl (allOne rfl) (Nat.le_of_ble_eq_true rfl) ?_
    refine jL (((u41_1,u41_2),u41_3,u41_4,u41_5,y40x0,u41_7,u41_8):T_Lead) ?_
    replace hp:=ba hp;obtain ⟨y42,hy42,hp⟩:=hp
    refine L_close (X:=X39) (((u41_1,u41_2),u41_3,u41_4,u41_5,y40x0,u41_7,u41_8):T_Lead) rfl pk pk hy42 (fun X43 hdX43 hhX43=>?_)
    subst hdX43
    try simp only [cells_pair,cells_int,cells_bool,cells_str,cells_TL,List.cons_append,List.nil_append]
    try rw [← hhX43]
    try rw [← g_of_hdr hhX43]
    try rw [← o_of_hdr hhX43]
    refine s6 ?_
    replace hp:=idx_bind hp;obtain ⟨⟨⟨u44_1,u44_2⟩,u44_3,u44_4,u44_5,u44_6,u44_7,u44_8⟩,hy44,hp⟩:=hp
    refine L_conv (M':=treeH ((u44_1,u44_2),u44_3,u44_4,u44_5,u44_6,u44_7,u44_8)::holeH X43 (y1.toNat) (GT.cells ((u44_1,u44_2),u44_3,u44_4,u44_5,u44_6,u44_7,u44_8))::_) (fun w h=>hole_open hy44.2 pk h) ?_
    refine xL (((u44_1,u44_2),u44_3,u44_4,u44_5,u44_6,u44_7,u44_8):T_Lead) ?_
    refine L_stH (X:=X43) (i:=y1.toNat) (sz:=8) (fo:=6) (n:=1) rfl rfl pk rfl (.inr ⟨one78.h,rfl⟩) rfl (allOne rfl) (Nat.le_of_ble_eq_true rfl) ?_
    refine L_conv (M':=treeH (TL.nil Int 0)::_) (fun w h=>addNilT (τ:=Int) 0 h) ?_
    refine jL (((u44_1,u44_2),u44_3,u44_4,u44_5,u44_6,(TL.nil Int 0),u44_8):T_Lead) ?_
    replace hp:=ba hp;obtain ⟨y45,hy45,hp⟩:=hp
    refine L_close (X:=X43) (((u44_1,u44_2),u44_3,u44_4,u44_5,u44_6,(TL.nil Int 0),u44_8):T_Lead) rfl pk pk hy45 (fun X46 hdX46 hhX46=>?_)
    subst hdX46
    try simp only [cells_pair,cells_int,cells_bool,cells_str,cells_TL,List.cons_append,List.nil_append]
    try rw [← hhX46]
    try rw [← g_of_hdr hhX46]
    try rw [← o_of_hdr hhX46]
    refine s12 ?_
    refine kp [0,3,6,10,11,117,118] ?_
    refine W_cond rfl (fun q47=>?_) (fun q47=>?_)
    ·replace hp:=cond_t q47 hp
     refine s4 ?_
     replace hp:=ba hp;obtain ⟨y48,hy48,hp⟩:=hp
     refine L_callM [blk b0_ _ _,treeH y35y0_3,treeH X46] _ rfl fn126.h rfl pc (by exact fun w hw=>i_ENode_settle_walk w b0_ (y35y0_1,y35y0_2,y35y0_3,X46) y1 3  _ hy48) ?_
     rintro _ _ ⟨y48x0,⟨y48y0_1,y48y0_2,y48y0_3,y48y0_4⟩,rfl,rfl,rfl⟩
     refine sc ?_
     replace hp:=dd hp
     refine s3 ?_
     obtain rfl:=sj hp
     refine s1 ?_
     refine res2 rfl (ResOK.tmp rfl) (ResOK.tmp rfl) ⟨y48x0,true,(y48y0_1,y48y0_2,y48y0_3,y48y0_4),rfl,rfl,rfl⟩ ms
    ·replace hp:=cond_f q47 hp
     refine s5 ?_
     refine kp [0,3,6,10,11,123] ?_
     refine W_cond rfl (fun q49=>?_) (fun q49=>?_)
     ·replace hp:=cond_t q49 hp
      refine s5 ?_
      replace hp:=idx_bind hp;obtain ⟨⟨⟨u50_1,u50_2⟩,u50_3,u50_4,u50_5,u50_6,u50_7,u50_8⟩,hy50,hp⟩:=hp
      refine L_conv (M':=treeH ((u50_1,u50_2),u50_3,u50_4,u50_5,u50_6,u50_7,u50_8)::holeH X46 (y1.toNat) (GT.cells ((u50_1,u50_2),u50_3,u50_4,u50_5,u50_6,u50_7,u50_8))::_) (fun w h=>hole_open hy50.2 pk h) ?_
      refine xL (((u50_1,u50_2),u50_3,u50_4,u50_5,u50_6,u50_7,u50_8):T_Lead) ?_
      refine L_stH (X:=X46) (i:=y1.toNat) (sz:=8) (fo:=3) (n:=1) rfl rfl pk rfl (.inr ⟨one3.h,rfl⟩) rfl (allOne rfl) (Nat.le_of_ble_eq_true rfl) ?_
      refine jL (((u50_1,u50_2),u50_3,1,u50_5,u50_6,u50_7,u50_8):T_Lead) ?_
      replace hp:=ba hp;obtain ⟨y51,hy51,hp⟩:=hp
      refine L_close (X:=X46) (((u50_1,u50_2),u50_3,1,u50_5,u50_6,u50_7,u50_8):T_Lead) rfl pk pk hy51 (fun X52 hdX52 hhX52=>?_)
      subst hdX52
      try simp only [cells_pair,cells_int,cells_bool,cells_str,cells_TL,List.cons_append,List.nil_append]
      try rw [← hhX52]
      try rw [← g_of_hdr hhX52]
      try rw [← o_of_hdr hhX52]
      refine s6 ?_
      replace hp:=idx_bind hp;obtain ⟨⟨⟨u53_1,u53_2⟩,u53_3,u53_4,u53_5,u53_6,u53_7,u53_8⟩,hy53,hp⟩:=hp
      refine L_conv (M':=treeH ((u53_1,u53_2),u53_3,u53_4,u53_5,u53_6,u53_7,u53_8)::holeH X52 (y1.toNat) (GT.cells ((u53_1,u53_2),u53_3,u53_4,u53_5,u53_6,u53_7,u53_8))::_) (fun w h=>hole_open hy53.2 pk h) ?_
      refine xL (((u53_1,u53_2),u53_3,u53_4,u53_5,u53_6,u53_7,u53_8):T_Lead) ?_
      refine L_stH (X:=X52) (i:=y1.toNat) (sz:=8) (fo:=7) (n:=1) rfl rfl pk rfl (.inr ⟨one4.h,rfl⟩) rfl (allOne rfl) (Nat.le_of_ble_eq_true rfl) ?_
      refine jL (((u53_1,u53_2),u53_3,u53_4,u53_5,u53_6,u53_7,true):T_Lead) ?_
      replace hp:=ba hp;obtain ⟨y54,hy54,hp⟩:=hp
      refine L_close (X:=X52) (((u53_1,u53_2),u53_3,u53_4,u53_5,u53_6,u53_7,true):T_Lead) rfl pk pk hy54 (fun X55 hdX55 hhX55=>?_)
      subst hdX55
      try simp only [cells_pair,cells_int,cells_bool,cells_str,cells_TL,List.cons_append,List.nil_append]
      try rw [← hhX55]
      try rw [← g_of_hdr hhX55]
      try rw [← o_of_hdr hhX55]
      refine s5 ?_
      refine L_loadW rfl rfl (RdC.seg (RdC.blk mm) 3 2 rfl) (by exact agg35.h) ?_
      refine s3 ?_
      refine L_loadW rfl rfl (RdC.seg (RdC.blk mm) 5 8 rfl) (by exact agg38.h) ?_
      refine s4 ?_
      refine L_build (xs:=[(0,.const (.int .i64 1)),(3,.tmp 133),(4,.tmp 135),(5,.tmp 137),(6,.tmp 139),(7,.tmp 141),(9,.const (.int .i64 (-1)))]) (cs:=[.int .i64 1,.int .i64 0,.int .i64 0,.int .i64 a1_4,.int .i64 a1_5,.int .i64 a1_6,.int .i64 y9x0_6,.int .i64 y9x0_7,.int .i64 y9x0_8,.string y9x0_9,.string y9x0_10,.string y9x0_11,.int .i64 y9x0_12,(TL.hdr y9x0_13),.int .i64 y9x0_14,(TL.hdr y9x0_15),.int .i64 0,.int .i64 (-1),.bool false]) rfl rfl bld103.h rfl ?_
      replace hp:=ba hp;obtain ⟨y56,hy56,hp⟩:=hp
      refine L_callR rfl fn124.h rfl (by exact fun w hw=>i_ENode_sent_walk w b0_ (y35y0_1,y35y0_2,y35y0_3,X55) (1,0,0,(a1_4,a1_5),a1_6,(y9x0_6,y9x0_7,y9x0_8,y9x0_9,y9x0_10,y9x0_11,y9x0_12,y9x0_13),y9x0_14,y9x0_15,0,(-1),false) (cells_of_blk mm hw.sees) (RdT.now (RdT.pair RdT.int (RdT.pair RdT.int (RdT.pair (RdT.tree mm) (RdT.tree mm)))) hw) (RdT.now (RdT.pair RdT.int (RdT.pair RdT.int (RdT.pair RdT.int (RdT.pair (RdT.pair RdT.int RdT.int) (RdT.pair RdT.int (RdT.pair (RdT.pair RdT.int (RdT.pair RdT.int (RdT.pair RdT.int (RdT.pair RdT.str (RdT.pair RdT.str (RdT.pair RdT.str (RdT.pair RdT.int (RdT.snd (RdT.snd (RdT.snd (RdT.snd (RdT.snd (RdT.snd (RdT.snd (RdT.fst (RdT.snd (RdT.snd (RdT.snd (RdT.snd (RdT.map2 hby9x0 (RdT.pair (RdT.pair RdT.int RdT.int) (RdT.pair RdT.int (RdT.pair RdT.int (RdT.pair RdT.int (RdT.pair (RdT.pair RdT.int (RdT.pair RdT.int (RdT.pair RdT.int (RdT.pair RdT.str (RdT.pair RdT.str (RdT.pair RdT.str (RdT.pair RdT.int (RdT.tree mm)))))))) (RdT.pair RdT.int (RdT.pair (RdT.tree mm) RdT.bool))))))) (RdT.pair (RdT.pair RdT.int RdT.int) (RdT.pair RdT.int (RdT.pair RdT.int (RdT.pair RdT.int (RdT.pair (RdT.pair RdT.int (RdT.pair RdT.int (RdT.pair RdT.int (RdT.pair RdT.str (RdT.pair RdT.str (RdT.pair RdT.str (RdT.pair RdT.int (RdT.snd (RdT.snd (RdT.snd (RdT.snd (RdT.snd (RdT.snd (RdT.snd (RdT.fst (RdT.snd (RdT.snd (RdT.snd (RdT.snd (RdT.map hby7x0 (RdT.pair RdT.int (RdT.pair RdT.int (RdT.pair RdT.int (RdT.pair (RdT.pair RdT.int RdT.int) (RdT.pair RdT.int (RdT.pair (RdT.pair RdT.int (RdT.pair RdT.int (RdT.pair RdT.int (RdT.pair RdT.str (RdT.pair RdT.str (RdT.pair RdT.str (RdT.pair RdT.int (RdT.old h1.2.2.2.2.2.1.2.2.2.2.2.2.2)))))))) (RdT.pair RdT.int (RdT.pair (RdT.old h1.2.2.2.2.2.2.2.1) (RdT.pair RdT.int (RdT.pair RdT.int RdT.bool)))))))))))))))))))))))))))))) (RdT.pair RdT.int (RdT.pair (RdT.fst (RdT.snd (RdT.snd (RdT.snd (RdT.snd (RdT.snd (RdT.snd (RdT.map hby7x0 (RdT.pair RdT.int (RdT.pair RdT.int (RdT.pair RdT.int (RdT.pair (RdT.pair RdT.int RdT.int) (RdT.pair RdT.int (RdT.pair (RdT.pair RdT.int (RdT.pair RdT.int (RdT.pair RdT.int (RdT.pair RdT.str (RdT.pair RdT.str (RdT.pair RdT.str (RdT.pair RdT.int (RdT.old h1.2.2.2.2.2.1.2.2.2.2.2.2.2)))))))) (RdT.pair RdT.int (RdT.pair (RdT.old h1.2.2.2.2.2.2.2.1) (RdT.pair RdT.int (RdT.pair RdT.int RdT.bool)))))))))))))))))) RdT.bool))))))))))))))))))))))))))) (RdT.pair RdT.int (RdT.pair (RdT.fst (RdT.snd (RdT.snd (RdT.snd (RdT.snd (RdT.snd (RdT.snd (RdT.map2 hby9x0 (RdT.pair (RdT.pair RdT.int RdT.int) (RdT.pair RdT.int (RdT.pair RdT.int (RdT.pair RdT.int (RdT.pair (RdT.pair RdT.int (RdT.pair RdT.int (RdT.pair RdT.int (RdT.pair RdT.str (RdT.pair RdT.str (RdT.pair RdT.str (RdT.pair RdT.int (RdT.tree mm)))))))) (RdT.pair RdT.int (RdT.pair (RdT.tree mm) RdT.bool))))))) (RdT.pair (RdT.pair RdT.int RdT.int) (RdT.pair RdT.int (RdT.pair RdT.int (RdT.pair RdT.int (RdT.pair (RdT.pair RdT.int (RdT.pair RdT.int (RdT.pair RdT.int (RdT.pair RdT.str (RdT.pair RdT.str (RdT.pair RdT.str (RdT.pair RdT.int (RdT.snd (RdT.snd (RdT.snd (RdT.snd (RdT.snd (RdT.snd (RdT.snd (RdT.fst (RdT.snd (RdT.snd (RdT.snd (RdT.snd (RdT.map hby7x0 (RdT.pair RdT.int (RdT.pair RdT.int (RdT.pair RdT.int (RdT.pair (RdT.pair RdT.int RdT.int) (RdT.pair RdT.int (RdT.pair (RdT.pair RdT.int (RdT.pair RdT.int (RdT.pair RdT.int (RdT.pair RdT.str (RdT.pair RdT.str (RdT.pair RdT.str (RdT.pair RdT.int (RdT.old h1.2.2.2.2.2.1.2.2.2.2.2.2.2)))))))) (RdT.pair RdT.int (RdT.pair (RdT.old h1.2.2.2.2.2.2.2.1) (RdT.pair RdT.int (RdT.pair RdT.int RdT.bool)))))))))))))))))))))))))))))) (RdT.pair RdT.int (RdT.pair (RdT.fst (RdT.snd (RdT.snd (RdT.snd (RdT.snd (RdT.snd (RdT.snd (RdT.map hby7x0 (RdT.pair RdT.int (RdT.pair RdT.int (RdT.pair RdT.int (RdT.pair (RdT.pair RdT.int RdT.int) (RdT.pair RdT.int (RdT.pair (RdT.pair RdT.int (RdT.pair RdT.int (RdT.pair RdT.int (RdT.pair RdT.str (RdT.pair RdT.str (RdT.pair RdT.str (RdT.pair RdT.int (RdT.old h1.2.2.2.2.2.1.2.2.2.2.2.2.2)))))))) (RdT.pair RdT.int (RdT.pair (RdT.old h1.2.2.2.2.2.2.2.1) (RdT.pair RdT.int (RdT.pair RdT.int RdT.bool)))))))))))))))))) RdT.bool))))))))))))))) (RdT.pair RdT.int (RdT.pair RdT.int RdT.bool)))))))))) hw) _ hy56) ?_
      rintro _ _ ⟨y56x0,rfl,rfl,rfl⟩
      refine sc ?_
      replace hp:=dd hp
      refine s3 ?_
      obtain rfl:=sj hp
      refine s1 ?_
      refine res2 rfl (ResOK.tmp rfl) (ResOK.tmp rfl) ⟨y56x0,true,(y35y0_1,y35y0_2,y35y0_3,X55),rfl,rfl,rfl⟩ ms
     ·replace hp:=cond_f q49 hp
      refine s5 ?_
      replace hp:=ba hp;obtain ⟨y57,hy57,hp⟩:=hp
      refine L_callM [blk b0_ _ _,treeH y35y0_3,treeH X46] _ rfl fn126.h rfl pc (by exact fun w hw=>i_ENode_settle_walk w b0_ (y35y0_1,y35y0_2,y35y0_3,X46) y1 2  _ hy57) ?_
      rintro _ _ ⟨y57x0,⟨y57y0_1,y57y0_2,y57y0_3,y57y0_4⟩,rfl,rfl,rfl⟩
      refine sc ?_
      replace hp:=dd hp
      refine s3 ?_
      obtain rfl:=sj hp
      refine s1 ?_
      refine res2 rfl (ResOK.tmp rfl) (ResOK.tmp rfl) ⟨y57x0,true,(y57y0_1,y57y0_2,y57y0_3,y57y0_4),rfl,rfl,rfl⟩ ms
noncomputable def i_ENode_get (a0:D_ENode) (a1:D_EMsg):Option ((List D_EMsg)×Bool×D_ENode) :=
 cond (decide (a1.1=1)) (Option.bind (i_ENode_pre (a0.1,a0.2.1,a0.2.2.1,a0.2.2.2) (a1.1,a1.2.1,a1.2.2.1,(a1.2.2.2.1.1,a1.2.2.2.1.2),a1.2.2.2.2.1,(a1.2.2.2.2.2.1.1,a1.2.2.2.2.2.1.2.1,a1.2.2.2.2.2.1.2.2.1,a1.2.2.2.2.2.1.2.2.2.1,a1.2.2.2.2.2.1.2.2.2.2.1,a1.2.2.2.2.2.1.2.2.2.2.2.1,a1.2.2.2.2.2.1.2.2.2.2.2.2.1,a1.2.2.2.2.2.1.2.2.2.2.2.2.2),a1.2.2.2.2.2.2.1,a1.2.2.2.2.2.2.2.1,a1.2.2.2.2.2.2.2.2.1,a1.2.2.2.2.2.2.2.2.2.1,a1.2.2.2.2.2.2.2.2.2.2)) (fun y2=>some (y2.1,y2.2.1,(y2.2.2.1,y2.2.2.2.1,y2.2.2.2.2.1,y2.2.2.2.2.2)))) (cond (decide (a1.1=2)) (Option.bind (i_ENode_preOk (a0.1,a0.2.1,a0.2.2.1,a0.2.2.2) (a1.1,a1.2.1,a1.2.2.1,(a1.2.2.2.1.1,a1.2.2.2.1.2),a1.2.2.2.2.1,(a1.2.2.2.2.2.1.1,a1.2.2.2.2.2.1.2.1,a1.2.2.2.2.2.1.2.2.1,a1.2.2.2.2.2.1.2.2.2.1,a1.2.2.2.2.2.1.2.2.2.2.1,a1.2.2.2.2.2.1.2.2.2.2.2.1,a1.2.2.2.2.2.1.2.2.2.2.2.2.1,a1.2.2.2.2.2.1.2.2.2.2.2.2.2),a1.2.2.2.2.2.2.1,a1.2.2.2.2.2.2.2.1,a1.2.2.2.2.2.2.2.2.1,a1.2.2.2.2.2.2.2.2.2.1,a1.2.2.2.2.2.2.2.2.2.2)) (fun y4=>some (y4.1,y4.2.1,(y4.2.2.1,y4.2.2.2.1,y4.2.2.2.2.1,y4.2.2.2.2.2)))) (cond (decide (a1.1=3)) (Option.bind (i_ENode_acc (a0.1,a0.2.1,a0.2.2.1,a0.2.2.2) (a1.1,a1.2.1,a1.2.2.1,(a1.2.2.2.1.1,a1.2.2.2.1.2),a1.2.2.2.2.1,(a1.2.2.2.2.2.1.1,a1.2.2.2.2.2.1.2.1,a1.2.2.2.2.2.1.2.2.1,a1.2.2.2.2.2.1.2.2.2.1,a1.2.2.2.2.2.1.2.2.2.2.1,a1.2.2.2.2.2.1.2.2.2.2.2.1,a1.2.2.2.2.2.1.2.2.2.2.2.2.1,a1.2.2.2.2.2.1.2.2.2.2.2.2.2),a1.2.2.2.2.2.2.1,a1.2.2.2.2.2.2.2.1,a1.2.2.2.2.2.2.2.2.1,a1.2.2.2.2.2.2.2.2.2.1,a1.2.2.2.2.2.2.2.2.2.2)) (fun y6=>some (y6.1,y6.2.1,(y6.2.2.1,y6.2.2.2.1,y6.2.2.2.2.1,y6.2.2.2.2.2)))) (cond (decide (a1.1=4)) (Option.bind (i_ENode_lead (a0.1,a0.2.1,a0.2.2.1,a0.2.2.2) (a1.2.2.2.1.1,a1.2.2.2.1.2)) (fun y8=>gb (!(decide (y8 < 0))) (idx a0.2.2.2 y8) (fun y9=>gb (!((decide (y8 < 0))||(!decide (y9.2.1=a1.2.2.2.2.1)))) (idx a0.2.2.2 y8) (fun y10=>cond (((decide (y8 < 0))||(!decide (y9.2.1=a1.2.2.2.2.1)))||(!decide (y10.2.2.1=2))) (some (([]:List D_EMsg),false,(a0.1,a0.2.1,a0.2.2.1,a0.2.2.2))) (Option.bind (i_ENode_settle (a0.1,a0.2.1,a0.2.2.1,a0.2.2.2) y8 3) (fun y12=>some (y12.1,true,(y12.2.1,y12.2.2.1,y12.2.2.2.1,y12.2.2.2.2)))))))) (cond (decide (a1.1=5)) (Option.bind (i_ENode_com (a0.1,a0.2.1,a0.2.2.1,a0.2.2.2) (a1.1,a1.2.1,a1.2.2.1,(a1.2.2.2.1.1,a1.2.2.2.1.2),a1.2.2.2.2.1,(a1.2.2.2.2.2.1.1,a1.2.2.2.2.2.1.2.1,a1.2.2.2.2.2.1.2.2.1,a1.2.2.2.2.2.1.2.2.2.1,a1.2.2.2.2.2.1.2.2.2.2.1,a1.2.2.2.2.2.1.2.2.2.2.2.1,a1.2.2.2.2.2.1.2.2.2.2.2.2.1,a1.2.2.2.2.2.1.2.2.2.2.2.2.2),a1.2.2.2.2.2.2.1,a1.2.2.2.2.2.2.2.1,a1.2.2.2.2.2.2.2.2.1,a1.2.2.2.2.2.2.2.2.2.1,a1.2.2.2.2.2.2.2.2.2.2)) (fun y14=>some (y14.1,y14.2.1,(y14.2.2.1,y14.2.2.2.1,y14.2.2.2.2.1,y14.2.2.2.2.2)))) (cond (decide (a1.1=6)) (Option.bind (i_ENode_prep (a0.1,a0.2.1,a0.2.2.1,a0.2.2.2) (a1.1,a1.2.1,a1.2.2.1,(a1.2.2.2.1.1,a1.2.2.2.1.2),a1.2.2.2.2.1,(a1.2.2.2.2.2.1.1,a1.2.2.2.2.2.1.2.1,a1.2.2.2.2.2.1.2.2.1,a1.2.2.2.2.2.1.2.2.2.1,a1.2.2.2.2.2.1.2.2.2.2.1,a1.2.2.2.2.2.1.2.2.2.2.2.1,a1.2.2.2.2.2.1.2.2.2.2.2.2.1,a1.2.2.2.2.2.1.2.2.2.2.2.2.2),a1.2.2.2.2.2.2.1,a1.2.2.2.2.2.2.2.1,a1.2.2.2.2.2.2.2.2.1,a1.2.2.2.2.2.2.2.2.2.1,a1.2.2.2.2.2.2.2.2.2.2)) (fun y16=>some (y16.1,y16.2.1,(y16.2.2.1,y16.2.2.2.1,y16.2.2.2.2.1,y16.2.2.2.2.2)))) (Option.bind (i_ENode_prepOk (a0.1,a0.2.1,a0.2.2.1,a0.2.2.2) (a1.1,a1.2.1,a1.2.2.1,(a1.2.2.2.1.1,a1.2.2.2.1.2),a1.2.2.2.2.1,(a1.2.2.2.2.2.1.1,a1.2.2.2.2.2.1.2.1,a1.2.2.2.2.2.1.2.2.1,a1.2.2.2.2.2.1.2.2.2.1,a1.2.2.2.2.2.1.2.2.2.2.1,a1.2.2.2.2.2.1.2.2.2.2.2.1,a1.2.2.2.2.2.1.2.2.2.2.2.2.1,a1.2.2.2.2.2.1.2.2.2.2.2.2.2),a1.2.2.2.2.2.2.1,a1.2.2.2.2.2.2.2.1,a1.2.2.2.2.2.2.2.2.1,a1.2.2.2.2.2.2.2.2.2.1,a1.2.2.2.2.2.2.2.2.2.2)) (fun y17=>some (y17.1,y17.2.1,(y17.2.2.1,y17.2.2.2.1,y17.2.2.2.2.1,y17.2.2.2.2.2)))))))))
theorem i_ENode_get_walk (w:World) (b0_:Nat) (a0:T_ENode) (a1:T_EMsg) (h1:GT.rd w (fps [blk b0_ (GT.cells a0) 44,treeH a0.2.2.1,treeH a0.2.2.2]) a1) (r:(List D_EMsg)×Bool×D_ENode) (hp:i_ENode_get (GT.dat a0) (GT.dat a1)=some r):Spec Tryz.prog 125 [Value.pointer (some ⟨b0_,0,none⟩),.agg (GT.cells a1).toArray].toArray w [blk b0_ (GT.cells a0) 44,treeH a0.2.2.1,treeH a0.2.2.2] (fun v M=>∃ (x0:TL T_EMsg) (x1:Bool) (y0:T_ENode),v=.tuple #[(TL.hdr x0),.bool x1]∧(GT.dat x0,GT.dat x1,GT.dat y0)=r∧M=[treeH x0,blk b0_ (GT.cells y0) 44,treeH y0.2.2.1,treeH y0.2.2.2]):=by
 obtain ⟨a0_1,a0_2,a0_3,a0_4⟩:=a0
 obtain ⟨a1_1,a1_2,a1_3,⟨a1_4,a1_5⟩,a1_6,⟨a1_7,a1_8,a1_9,a1_10,a1_11,a1_12,a1_13,a1_14⟩,a1_15,a1_16,a1_17,a1_18,a1_19⟩:=a1
 change Spec _ _ ([Value.pointer (some ⟨b0_,0,none⟩),Value.agg #[.int .i64 a1_1,.int .i64 a1_2,.int .i64 a1_3,.int .i64 a1_4,.int .i64 a1_5,.int .i64 a1_6,.int .i64 a1_7,.int .i64 a1_8,.int .i64 a1_9,.string a1_10,.string a1_11,.string a1_12,.int .i64 a1_13,(TL.hdr a1_14),.int .i64 a1_15,(TL.hdr a1_16),.int .i64 a1_17,.int .i64 a1_18,.bool a1_19]]:List Value).toArray w _ _
 refine Spec.intro Tryz.func125 rfl Tryz.ntmps125 rfl ?_
 unfold i_ENode_get at hp
 replace hp:=dd hp
 refine s2 ?_
 refine bx fun bk3=>?_
 refine L_assign (v:=(TL.hdr (TL.nil T_EMsg 0))) rfl rfl ?_
 refine s14 ?_
 refine kp [0,3,8,9] ?_
 refine W_cond rfl (fun q1=>?_) (fun q1=>?_)
 ·replace hp:=cond_t q1 hp
  refine s4 ?_
  replace hp:=ba hp;obtain ⟨y2,hy2,hp⟩:=hp
  refine L_callM [blk b0_ _ _,treeH a0_3,treeH a0_4] _ rfl fn170.h rfl pc (by exact fun w hw=>i_ENode_pre_walk w b0_ (a0_1,a0_2,a0_3,a0_4) (a1_1,a1_2,a1_3,(a1_4,a1_5),a1_6,(a1_7,a1_8,a1_9,a1_10,a1_11,a1_12,a1_13,a1_14),a1_15,a1_16,a1_17,a1_18,a1_19) ((RdX.pair RdX.int (RdX.pair RdX.int (RdX.pair RdX.int (RdX.pair (RdX.pair RdX.int RdX.int) (RdX.pair RdX.int (RdX.pair (RdX.pair RdX.int (RdX.pair RdX.int (RdX.pair RdX.int (RdX.pair RdX.str (RdX.pair RdX.str (RdX.pair RdX.str (RdX.pair RdX.int (RdX.old h1.2.2.2.2.2.1.2.2.2.2.2.2.2)))))))) (RdX.pair RdX.int (RdX.pair (RdX.old h1.2.2.2.2.2.2.2.1) (RdX.pair RdX.int (RdX.pair RdX.int RdX.bool)))))))))) w hw) _ hy2) ?_
  rintro _ _ ⟨y2x0,y2x1,⟨y2y0_1,y2y0_2,y2y0_3,y2y0_4⟩,rfl,rfl,rfl⟩
  refine sc ?_
  replace hp:=dd hp
  refine s5 ?_
  obtain rfl:=sj hp
  refine s1 ?_
  refine res2 rfl (ResOK.tmp rfl) (ResOK.tmp rfl) ⟨y2x0,y2x1,(y2y0_1,y2y0_2,y2y0_3,y2y0_4),rfl,rfl,rfl⟩ ms
 ·replace hp:=cond_f q1 hp
  refine s5 ?_
  refine kp [0,3,8,16] ?_
  refine W_cond rfl (fun q3=>?_) (fun q3=>?_)
  ·replace hp:=cond_t q3 hp
   refine s4 ?_
   replace hp:=ba hp;obtain ⟨y4,hy4,hp⟩:=hp
   refine L_callM [blk b0_ _ _,treeH a0_3,treeH a0_4] _ rfl fn171.h rfl pc (by exact fun w hw=>i_ENode_preOk_walk w b0_ (a0_1,a0_2,a0_3,a0_4) (a1_1,a1_2,a1_3,(a1_4,a1_5),a1_6,(a1_7,a1_8,a1_9,a1_10,a1_11,a1_12,a1_13,a1_14),a1_15,a1_16,a1_17,a1_18,a1_19) ((RdX.pair RdX.int (RdX.pair RdX.int (RdX.pair RdX.int (RdX.pair (RdX.pair RdX.int RdX.int) (RdX.pair RdX.int (RdX.pair (RdX.pair RdX.int (RdX.pair RdX.int (RdX.pair RdX.int (RdX.pair RdX.str (RdX.pair RdX.str (RdX.pair RdX.str (RdX.pair RdX.int (RdX.old h1.2.2.2.2.2.1.2.2.2.2.2.2.2)))))))) (RdX.pair RdX.int (RdX.pair (RdX.old h1.2.2.2.2.2.2.2.1) (RdX.pair RdX.int (RdX.pair RdX.int RdX.bool)))))))))) w hw) _ hy4) ?_
   rintro _ _ ⟨y4x0,y4x1,⟨y4y0_1,y4y0_2,y4y0_3,y4y0_4⟩,rfl,rfl,rfl⟩
   refine sc ?_
   replace hp:=dd hp
   refine s5 ?_
   obtain rfl:=sj hp
   refine s1 ?_
   refine res2 rfl (ResOK.tmp rfl) (ResOK.tmp rfl) ⟨y4x0,y4x1,(y4y0_1,y4y0_2,y4y0_3,y4y0_4),rfl,rfl,rfl⟩ ms
  ·replace hp:=cond_f q3 hp
   refine s5 ?_
   refine kp [0,3,8,23] ?_
   refine W_cond rfl (fun q5=>?_) (fun q5=>?_)
   ·replace hp:=cond_t q5 hp
    refine s4 ?_
    replace hp:=ba hp;obtain ⟨y6,hy6,hp⟩:=hp
    refine L_callM [blk b0_ _ _,treeH a0_3,treeH a0_4] _ rfl fn172.h rfl pc (by exact fun w hw=>i_ENode_acc_walk w b0_ (a0_1,a0_2,a0_3,a0_4) (a1_1,a1_2,a1_3,(a1_4,a1_5),a1_6,(a1_7,a1_8,a1_9,a1_10,a1_11,a1_12,a1_13,a1_14),a1_15,a1_16,a1_17,a1_18,a1_19) ((RdX.pair RdX.int (RdX.pair RdX.int (RdX.pair RdX.int (RdX.pair (RdX.pair RdX.int RdX.int) (RdX.pair RdX.int (RdX.pair (RdX.pair RdX.int (RdX.pair RdX.int (RdX.pair RdX.int (RdX.pair RdX.str (RdX.pair RdX.str (RdX.pair RdX.str (RdX.pair RdX.int (RdX.old h1.2.2.2.2.2.1.2.2.2.2.2.2.2)))))))) (RdX.pair RdX.int (RdX.pair (RdX.old h1.2.2.2.2.2.2.2.1) (RdX.pair RdX.int (RdX.pair RdX.int RdX.bool)))))))))) w hw) _ hy6) ?_
    rintro _ _ ⟨y6x0,y6x1,⟨y6y0_1,y6y0_2,y6y0_3,y6y0_4⟩,rfl,rfl,rfl⟩
    refine sc ?_
    replace hp:=dd hp
    refine s5 ?_
    obtain rfl:=sj hp
    refine s1 ?_
    refine res2 rfl (ResOK.tmp rfl) (ResOK.tmp rfl) ⟨y6x0,y6x1,(y6y0_1,y6y0_2,y6y0_3,y6y0_4),rfl,rfl,rfl⟩ ms
   ·replace hp:=cond_f q5 hp
    refine s5 ?_
    refine kp [0,3,8,30] ?_
    refine W_cond rfl (fun q7=>?_) (fun q7=>?_)
    ·replace hp:=cond_t q7 hp
     refine s4 ?_
     refine L_loadW rfl rfl (RdC.seg (RdC.blk mm) 3 2 rfl) (by exact agg35.h) ?_
     replace hp:=ba hp;obtain ⟨y8,hy8,hp⟩:=hp
     refine L_callX rfl fn112.h rfl (by exact fun w hw=>i_ENode_lead_walk w b0_ (a0_1,a0_2,a0_3,a0_4) (a1_4,a1_5) (cells_of_blk mm hw.sees) (RdT.now (RdT.pair RdT.int (RdT.pair RdT.int (RdT.pair (RdT.tree mm) (RdT.tree mm)))) hw) (RdT.now (RdT.pair RdT.int RdT.int) hw) _ hy8) ?_
     refine s4 ?_
     replace hp:=idx_gb hp;obtain ⟨⟨⟨u9_1,u9_2⟩,u9_3,u9_4,u9_5,u9_6,u9_7,u9_8⟩,hy9,hp⟩:=hp
     replace hp:=idx_gb hp;obtain ⟨⟨⟨u10_1,u10_2⟩,u10_3,u10_4,u10_5,u10_6,u10_7,u10_8⟩,hy10,hp⟩:=hp
     refine W_D0 [61] mix (by kernel_rfl) rfl ?_
     refine s8 ?_
     refine D_idxA (X:=a0_4) (GC.some rfl rfl) (OpV.s rfl) (OpV.s rfl) el42.h (RdT.tree mm) (fun hg=>hy9 (gnot hg.2)) ?_
     refine s1 ?_
     refine D_load (GC.some rfl rfl) (OpV.s rfl) (fun hg=>RdT.at (RdT.tree mm) (hy9 (gnot hg.2)).2) one3.h rfl ?_
     refine s10 ?_
     refine D_idxA (X:=a0_4) (GC.some rfl rfl) (OpV.s rfl) (OpV.s rfl) el42.h (RdT.tree mm) (fun hg=>hy10 (gnot hg.2)) ?_
     refine s1 ?_
     refine D_load (GC.some rfl rfl) (OpV.s rfl) (fun hg=>RdT.at (RdT.tree mm) (hy10 (gnot hg.2)).2) one3.h rfl ?_
     refine s20 ?_
     refine s10 ?_
     refine kp [0,6,61] ?_
     refine W_cond rfl (fun q11=>?_) (fun q11=>?_)
     ·replace hp:=cond_t q11 hp
      refine s2 ?_
      refine L_assign (v:=(TL.hdr (TL.nil T_EMsg 0))) rfl rfl ?_
      refine s2 ?_
      obtain rfl:=sj hp
      refine W_conv (M':=treeH (TL.nil T_EMsg 0)::_) (fun w h=>addNilT (τ:=T_EMsg) 0 h) ?_
      refine s1 ?_
      refine res2 rfl (ResOK.tmp rfl) (ResOK.tmp rfl) ⟨(TL.nil T_EMsg 0),false,(a0_1,a0_2,a0_3,a0_4),rfl,rfl,rfl⟩ ms
     ·replace hp:=cond_f q11 hp
      refine s5 ?_
      replace hp:=ba hp;obtain ⟨y12,hy12,hp⟩:=hp
      refine L_callM [blk b0_ _ _,treeH a0_3,treeH a0_4] _ rfl fn126.h rfl pc (by exact fun w hw=>i_ENode_settle_walk w b0_ (a0_1,a0_2,a0_3,a0_4) y8 3  _ hy12) ?_
      rintro _ _ ⟨y12x0,⟨y12y0_1,y12y0_2,y12y0_3,y12y0_4⟩,rfl,rfl,rfl⟩
      refine sc ?_
      replace hp:=dd hp
      refine s3 ?_
      obtain rfl:=sj hp
      refine s1 ?_
      refine res2 rfl (ResOK.tmp rfl) (ResOK.tmp rfl) ⟨y12x0,true,(y12y0_1,y12y0_2,y12y0_3,y12y0_4),rfl,rfl,rfl⟩ ms
    ·replace hp:=cond_f q7 hp
     refine s5 ?_
     refine kp [0,3,8,65] ?_
     refine W_cond rfl (fun q13=>?_) (fun q13=>?_)
     ·replace hp:=cond_t q13 hp
      refine s4 ?_
      replace hp:=ba hp;obtain ⟨y14,hy14,hp⟩:=hp
      refine L_callM [blk b0_ _ _,treeH a0_3,treeH a0_4] _ rfl fn173.h rfl pc (by exact fun w hw=>i_ENode_com_walk w b0_ (a0_1,a0_2,a0_3,a0_4) (a1_1,a1_2,a1_3,(a1_4,a1_5),a1_6,(a1_7,a1_8,a1_9,a1_10,a1_11,a1_12,a1_13,a1_14),a1_15,a1_16,a1_17,a1_18,a1_19) ((RdX.pair RdX.int (RdX.pair RdX.int (RdX.pair RdX.int (RdX.pair (RdX.pair RdX.int RdX.int) (RdX.pair RdX.int (RdX.pair (RdX.pair RdX.int (RdX.pair RdX.int (RdX.pair RdX.int (RdX.pair RdX.str (RdX.pair RdX.str (RdX.pair RdX.str (RdX.pair RdX.int (RdX.old h1.2.2.2.2.2.1.2.2.2.2.2.2.2)))))))) (RdX.pair RdX.int (RdX.pair (RdX.old h1.2.2.2.2.2.2.2.1) (RdX.pair RdX.int (RdX.pair RdX.int RdX.bool)))))))))) w hw) _ hy14) ?_
      rintro _ _ ⟨y14x0,y14x1,⟨y14y0_1,y14y0_2,y14y0_3,y14y0_4⟩,rfl,rfl,rfl⟩
      refine sc ?_
      replace hp:=dd hp
      refine s5 ?_
      obtain rfl:=sj hp
      refine s1 ?_
      refine res2 rfl (ResOK.tmp rfl) (ResOK.tmp rfl) ⟨y14x0,y14x1,(y14y0_1,y14y0_2,y14y0_3,y14y0_4),rfl,rfl,rfl⟩ ms
     ·replace hp:=cond_f q13 hp
      refine s5 ?_
      refine kp [0,3,72] ?_
      refine W_cond rfl (fun q15=>?_) (fun q15=>?_)
      ·replace hp:=cond_t q15 hp
       refine s4 ?_
       replace hp:=ba hp;obtain ⟨y16,hy16,hp⟩:=hp
       refine L_callM [blk b0_ _ _,treeH a0_3,treeH a0_4] _ rfl fn174.h rfl pc (by exact fun w hw=>i_ENode_prep_walk w b0_ (a0_1,a0_2,a0_3,a0_4) (a1_1,a1_2,a1_3,(a1_4,a1_5),a1_6,(a1_7,a1_8,a1_9,a1_10,a1_11,a1_12,a1_13,a1_14),a1_15,a1_16,a1_17,a1_18,a1_19) ((RdX.pair RdX.int (RdX.pair RdX.int (RdX.pair RdX.int (RdX.pair (RdX.pair RdX.int RdX.int) (RdX.pair RdX.int (RdX.pair (RdX.pair RdX.int (RdX.pair RdX.int (RdX.pair RdX.int (RdX.pair RdX.str (RdX.pair RdX.str (RdX.pair RdX.str (RdX.pair RdX.int (RdX.old h1.2.2.2.2.2.1.2.2.2.2.2.2.2)))))))) (RdX.pair RdX.int (RdX.pair (RdX.old h1.2.2.2.2.2.2.2.1) (RdX.pair RdX.int (RdX.pair RdX.int RdX.bool)))))))))) w hw) _ hy16) ?_
       rintro _ _ ⟨y16x0,y16x1,⟨y16y0_1,y16y0_2,y16y0_3,y16y0_4⟩,rfl,rfl,rfl⟩
       refine sc ?_
       replace hp:=dd hp
       refine s5 ?_
       obtain rfl:=sj hp
       refine s1 ?_
       refine res2 rfl (ResOK.tmp rfl) (ResOK.tmp rfl) ⟨y16x0,y16x1,(y16y0_1,y16y0_2,y16y0_3,y16y0_4),rfl,rfl,rfl⟩ ms
      ·replace hp:=cond_f q15 hp
       refine s5 ?_
       replace hp:=ba hp;obtain ⟨y17,hy17,hp⟩:=hp
       refine L_callM [blk b0_ _ _,treeH a0_3,treeH a0_4] _ rfl fn175.h rfl pc (by exact fun w hw=>i_ENode_prepOk_walk w b0_ (a0_1,a0_2,a0_3,a0_4) (a1_1,a1_2,a1_3,(a1_4,a1_5),a1_6,(a1_7,a1_8,a1_9,a1_10,a1_11,a1_12,a1_13,a1_14),a1_15,a1_16,a1_17,a1_18,a1_19) ((RdX.pair RdX.int (RdX.pair RdX.int (RdX.pair RdX.int (RdX.pair (RdX.pair RdX.int RdX.int) (RdX.pair RdX.int (RdX.pair (RdX.pair RdX.int (RdX.pair RdX.int (RdX.pair RdX.int (RdX.pair RdX.str (RdX.pair RdX.str (RdX.pair RdX.str (RdX.pair RdX.int (RdX.old h1.2.2.2.2.2.1.2.2.2.2.2.2.2)))))))) (RdX.pair RdX.int (RdX.pair (RdX.old h1.2.2.2.2.2.2.2.1) (RdX.pair RdX.int (RdX.pair RdX.int RdX.bool)))))))))) w hw) _ hy17) ?_
       rintro _ _ ⟨y17x0,y17x1,⟨y17y0_1,y17y0_2,y17y0_3,y17y0_4⟩,rfl,rfl,rfl⟩
       refine sc ?_
       replace hp:=dd hp
       refine s5 ?_
       obtain rfl:=sj hp
       refine s1 ?_
       refine res2 rfl (ResOK.tmp rfl) (ResOK.tmp rfl) ⟨y17x0,y17x1,(y17y0_1,y17y0_2,y17y0_3,y17y0_4),rfl,rfl,rfl⟩ ms
noncomputable def i_EMsgOk (a0:D_EMsg):Option Bool :=
 Option.bind (i_within a0.1 1 7) (fun y1=>gb y1 (i_isRep a0.2.1) (fun y2=>gb (y1&&y2) (i_isRep a0.2.2.1) (fun y3=>gb (((y1&&y2)&&y3)&&(!decide (a0.2.1=a0.2.2.1))) (i_idOk (a0.2.2.2.1.1,a0.2.2.2.1.2)) (fun y4=>gb ((((y1&&y2)&&y3)&&(!decide (a0.2.1=a0.2.2.1)))&&y4) (i_within a0.2.2.2.2.1 0 600) (fun y5=>gb (((((y1&&y2)&&y3)&&(!decide (a0.2.1=a0.2.2.1)))&&y4)&&y5) (i_CmdOk (a0.2.2.2.2.2.1.1,a0.2.2.2.2.2.1.2.1,a0.2.2.2.2.2.1.2.2.1,a0.2.2.2.2.2.1.2.2.2.1,a0.2.2.2.2.2.1.2.2.2.2.1,a0.2.2.2.2.2.1.2.2.2.2.2.1,a0.2.2.2.2.2.1.2.2.2.2.2.2.1,a0.2.2.2.2.2.1.2.2.2.2.2.2.2)) (fun y6=>gb ((((((y1&&y2)&&y3)&&(!decide (a0.2.1=a0.2.2.1)))&&y4)&&y5)&&y6) (i_within a0.2.2.2.2.2.2.1 0 60) (fun y7=>gb (((((((y1&&y2)&&y3)&&(!decide (a0.2.1=a0.2.2.1)))&&y4)&&y5)&&y6)&&y7) (i_areDeps a0.2.2.2.2.2.2.2.1 (a0.2.2.2.1.1,a0.2.2.2.1.2)) (fun y8=>gb ((((((((y1&&y2)&&y3)&&(!decide (a0.2.1=a0.2.2.1)))&&y4)&&y5)&&y6)&&y7)&&y8) (i_within a0.2.2.2.2.2.2.2.2.1 0 3) (fun y9=>gb (((((((((y1&&y2)&&y3)&&(!decide (a0.2.1=a0.2.2.1)))&&y4)&&y5)&&y6)&&y7)&&y8)&&y9) (i_within a0.2.2.2.2.2.2.2.2.2.1 (-1) 600) (fun y10=>some ((((((((((y1&&y2)&&y3)&&(!decide (a0.2.1=a0.2.2.1)))&&y4)&&y5)&&y6)&&y7)&&y8)&&y9)&&y10)))))))))))
theorem i_EMsgOk_walk (w:World) (a0:T_EMsg) (h0:GT.rd w [] a0) (r:Bool) (hp:i_EMsgOk (GT.dat a0)=some r):Spec Tryz.prog 64 [.agg (GT.cells a0).toArray].toArray w [] (IsV (.bool r)):=by
 obtain ⟨a0_1,a0_2,a0_3,⟨a0_4,a0_5⟩,a0_6,⟨a0_7,a0_8,a0_9,a0_10,a0_11,a0_12,a0_13,a0_14⟩,a0_15,a0_16,a0_17,a0_18,a0_19⟩:=a0
 change Spec _ _ ([Value.agg #[.int .i64 a0_1,.int .i64 a0_2,.int .i64 a0_3,.int .i64 a0_4,.int .i64 a0_5,.int .i64 a0_6,.int .i64 a0_7,.int .i64 a0_8,.int .i64 a0_9,.string a0_10,.string a0_11,.string a0_12,.int .i64 a0_13,(TL.hdr a0_14),.int .i64 a0_15,(TL.hdr a0_16),.int .i64 a0_17,.int .i64 a0_18,.bool a0_19]]:List Value).toArray w [] _
 refine Spec.intro Tryz.func64 rfl Tryz.ntmps64 rfl ?_
 unfold i_EMsgOk at hp
 replace hp:=dd hp
 refine s2 ?_
 refine bx fun bk1=>?_
 refine s3 ?_
 replace hp:=ba hp;obtain ⟨y1,hy1,hp⟩:=hp
 replace hp:=gb_any hp;obtain ⟨y2,hy2,hp⟩:=hp
 replace hp:=gb_any hp;obtain ⟨y3,hy3,hp⟩:=hp
 replace hp:=gb_any hp;obtain ⟨y4,hy4,hp⟩:=hp
 replace hp:=gb_any hp;obtain ⟨y5,hy5,hp⟩:=hp
 replace hp:=gb_any hp;obtain ⟨y6,hy6,hp⟩:=hp
 replace hp:=gb_any hp;obtain ⟨y7,hy7,hp⟩:=hp
 replace hp:=gb_any hp;obtain ⟨y8,hy8,hp⟩:=hp
 replace hp:=gb_any hp;obtain ⟨y9,hy9,hp⟩:=hp
 replace hp:=gb_any hp;obtain ⟨y10,hy10,hp⟩:=hp
 refine W_D0 [2] mix (by kernel_rfl) rfl ?_
 refine s2 ?_
 refine D_callX GC.none fn66.h (OpVs.cons (OpV.t rfl) (OpVs.cons OpV.c (OpVs.cons OpV.c (OpVs.nil)))) (by exact fun hg w F hF hM=>i_within_walk w a0_1 1 7  _ hy1) ?_
 refine s3 ?_
 refine D_callX (GC.some rfl rfl) fn62.h (OpVs.cons (OpV.s rfl) (OpVs.nil)) (by exact fun hg w F hF hM=>i_isRep_walk w a0_2  _ (hy2 hg.2)) ?_
 refine s4 ?_
 refine D_callX (GC.some rfl rfl) fn62.h (OpVs.cons (OpV.s rfl) (OpVs.nil)) (by exact fun hg w F hF hM=>i_isRep_walk w a0_3  _ (hy3 hg.2)) ?_
 refine s10 ?_
 refine D_loadW (GC.some rfl rfl) (OpV.s rfl) (fun hg=>RdC.seg (RdC.blk mm) 3 2 rfl) (by exact agg35.h) ?_
 refine D_callX (GC.some rfl rfl) fn113.h (OpVs.cons (OpV.s rfl) (OpVs.nil)) (by exact fun hg w F hF hM=>i_idOk_walk w (a0_4,a0_5) (RdT.nowS (RdT.pair RdT.int RdT.int) hF hM) _ (hy4 hg.2)) ?_
 refine s4 ?_
 refine D_callX (GC.some rfl rfl) fn66.h (OpVs.cons (OpV.s rfl) (OpVs.cons OpV.c (OpVs.cons OpV.c (OpVs.nil)))) (by exact fun hg w F hF hM=>i_within_walk w a0_6 0 600  _ (hy5 hg.2)) ?_
 refine s3 ?_
 refine D_loadW (GC.some rfl rfl) (OpV.s rfl) (fun hg=>RdC.seg (RdC.blk mm) 6 8 rfl) (by exact agg38.h) ?_
 refine D_callX (GC.some rfl rfl) fn114.h (OpVs.cons (OpV.s rfl) (OpVs.nil)) (by exact fun hg w F hF hM=>i_CmdOk_walk w (a0_7,a0_8,a0_9,a0_10,a0_11,a0_12,a0_13,a0_14) (RdT.nowS (RdT.pair RdT.int (RdT.pair RdT.int (RdT.pair RdT.int (RdT.pair RdT.str (RdT.pair RdT.str (RdT.pair RdT.str (RdT.pair RdT.int (RdT.old h0.2.2.2.2.2.1.2.2.2.2.2.2.2)))))))) hF hM) _ (hy6 hg.2)) ?_
 refine s4 ?_
 refine D_callX (GC.some rfl rfl) fn66.h (OpVs.cons (OpV.s rfl) (OpVs.cons OpV.c (OpVs.cons OpV.c (OpVs.nil)))) (by exact fun hg w F hF hM=>i_within_walk w a0_15 0 60  _ (hy7 hg.2)) ?_
 refine s5 ?_
 refine D_loadW (GC.some rfl rfl) (OpV.s rfl) (fun hg=>RdC.seg (RdC.blk mm) 3 2 rfl) (by exact agg35.h) ?_
 refine D_callX (GC.some rfl rfl) fn115.h (OpVs.cons (OpV.s rfl) (OpVs.cons (OpV.s rfl) (OpVs.nil))) (by exact fun hg w F hF hM=>i_areDeps_walk w a0_16 (a0_4,a0_5) (RdT.nowS (RdT.old h0.2.2.2.2.2.2.2.1) hF hM) (RdT.nowS (RdT.pair RdT.int RdT.int) hF hM) _ (hy8 hg.2)) ?_
 refine s4 ?_
 refine D_callX (GC.some rfl rfl) fn66.h (OpVs.cons (OpV.s rfl) (OpVs.cons OpV.c (OpVs.cons OpV.c (OpVs.nil)))) (by exact fun hg w F hF hM=>i_within_walk w a0_17 0 3  _ (hy9 hg.2)) ?_
 refine s4 ?_
 refine D_callX (GC.some rfl rfl) fn66.h (OpVs.cons (OpV.s rfl) (OpVs.cons OpV.c (OpVs.cons OpV.c (OpVs.nil)))) (by exact fun hg w F hF hM=>i_within_walk w a0_18 (-1) 600  _ (hy10 hg.2)) ?_
 refine s20 ?_
 refine s20 ?_
 refine s20 ?_
 refine s2 ?_
 obtain rfl:=sj hp
 refine s1 ?_
 refine res1 rfl (ResOK.tmp rfl) ⟨rfl,rfl⟩ ms
noncomputable def i_ENodeGet (a0:D_ENode) (a1:D_EMsg):Option (D_ENode×(List D_EMsg)×Bool) :=
 Option.bind (i_ENodeOk (a0.1,a0.2.1,a0.2.2.1,a0.2.2.2)) (fun y1=>cond (!y1) (some ((0,0,([]:List D_Inst),([]:List D_Lead)),([]:List D_EMsg),false)) (Option.bind (i_EMsgOk (a1.1,a1.2.1,a1.2.2.1,(a1.2.2.2.1.1,a1.2.2.2.1.2),a1.2.2.2.2.1,(a1.2.2.2.2.2.1.1,a1.2.2.2.2.2.1.2.1,a1.2.2.2.2.2.1.2.2.1,a1.2.2.2.2.2.1.2.2.2.1,a1.2.2.2.2.2.1.2.2.2.2.1,a1.2.2.2.2.2.1.2.2.2.2.2.1,a1.2.2.2.2.2.1.2.2.2.2.2.2.1,a1.2.2.2.2.2.1.2.2.2.2.2.2.2),a1.2.2.2.2.2.2.1,a1.2.2.2.2.2.2.2.1,a1.2.2.2.2.2.2.2.2.1,a1.2.2.2.2.2.2.2.2.2.1,a1.2.2.2.2.2.2.2.2.2.2)) (fun y3=>gb (!((!y3)||(!decide (a1.2.2.1=a0.1)))) (i_ENode_unknown (a0.1,a0.2.1,a0.2.2.1,a0.2.2.2) (a1.2.2.2.1.1,a1.2.2.2.1.2)) (fun y4=>cond (((!y3)||(!decide (a1.2.2.1=a0.1)))||y4) (Option.bind (i_copyENode (a0.1,a0.2.1,a0.2.2.1,a0.2.2.2)) (fun y6=>some ((y6.1,y6.2.1,y6.2.2.1,y6.2.2.2),([]:List D_EMsg),false))) (Option.bind (i_copyENode (a0.1,a0.2.1,a0.2.2.1,a0.2.2.2)) (fun y7=>Option.bind (i_ENode_get (y7.1,y7.2.1,y7.2.2.1,y7.2.2.2) (a1.1,a1.2.1,a1.2.2.1,(a1.2.2.2.1.1,a1.2.2.2.1.2),a1.2.2.2.2.1,(a1.2.2.2.2.2.1.1,a1.2.2.2.2.2.1.2.1,a1.2.2.2.2.2.1.2.2.1,a1.2.2.2.2.2.1.2.2.2.1,a1.2.2.2.2.2.1.2.2.2.2.1,a1.2.2.2.2.2.1.2.2.2.2.2.1,a1.2.2.2.2.2.1.2.2.2.2.2.2.1,a1.2.2.2.2.2.1.2.2.2.2.2.2.2),a1.2.2.2.2.2.2.1,a1.2.2.2.2.2.2.2.1,a1.2.2.2.2.2.2.2.2.1,a1.2.2.2.2.2.2.2.2.2.1,a1.2.2.2.2.2.2.2.2.2.2)) (fun y8=>cond (!y8.2.1) (Option.bind (i_copyENode (a0.1,a0.2.1,a0.2.2.1,a0.2.2.2)) (fun y10=>some ((y10.1,y10.2.1,y10.2.2.1,y10.2.2.2),([]:List D_EMsg),false))) (some ((y8.2.2.1,y8.2.2.2.1,y8.2.2.2.2.1,y8.2.2.2.2.2),y8.1,true)))))))))
theorem i_ENodeGet_walk (w:World) (a0:T_ENode) (a1:T_EMsg) (h0:GT.rd w [] a0) (h1:GT.rd w [] a1) (r:D_ENode×(List D_EMsg)×Bool) (hp:i_ENodeGet (GT.dat a0) (GT.dat a1)=some r):Spec Tryz.prog 69 [.agg (GT.cells a0).toArray,.agg (GT.cells a1).toArray].toArray w [] (fun v M=>∃ (x0:T_ENode) (x1:TL T_EMsg) (x2:Bool),v=.tuple #[.agg (GT.cells x0).toArray,(TL.hdr x1),.bool x2]∧(GT.dat x0,GT.dat x1,GT.dat x2)=r∧M=[treeH x0,treeH x1]):=by
 obtain ⟨a0_1,a0_2,a0_3,a0_4⟩:=a0
 obtain ⟨a1_1,a1_2,a1_3,⟨a1_4,a1_5⟩,a1_6,⟨a1_7,a1_8,a1_9,a1_10,a1_11,a1_12,a1_13,a1_14⟩,a1_15,a1_16,a1_17,a1_18,a1_19⟩:=a1
 change Spec _ _ ([Value.agg #[.int .i64 a0_1,.int .i64 a0_2,(TL.hdr a0_3),(TL.hdr a0_4)],Value.agg #[.int .i64 a1_1,.int .i64 a1_2,.int .i64 a1_3,.int .i64 a1_4,.int .i64 a1_5,.int .i64 a1_6,.int .i64 a1_7,.int .i64 a1_8,.int .i64 a1_9,.string a1_10,.string a1_11,.string a1_12,.int .i64 a1_13,(TL.hdr a1_14),.int .i64 a1_15,(TL.hdr a1_16),.int .i64 a1_17,.int .i64 a1_18,.bool a1_19]]:List Value).toArray w [] _
 refine Spec.intro Tryz.func69 rfl Tryz.ntmps69 rfl ?_
 unfold i_ENodeGet at hp
 replace hp:=dd hp
 refine s2 ?_
 refine bx fun bk2=>?_
 refine bx fun bk3=>?_
 refine al fun bk4=>?_
 refine L_assign (v:=(TL.hdr (TL.nil T_EMsg 0))) rfl rfl ?_
 refine s6 ?_
 replace hp:=ba hp;obtain ⟨y1,hy1,hp⟩:=hp
 refine L_callX rfl fn63.h rfl (by exact fun w hw=>i_ENodeOk_walk w (a0_1,a0_2,a0_3,a0_4) (RdT.now (RdT.pair RdT.int (RdT.pair RdT.int (RdT.pair (RdT.old h0.2.2.1) (RdT.old h0.2.2.2)))) hw) _ hy1) ?_
 refine s2 ?_
 refine kp [2,3,4,12] ?_
 refine W_cond rfl (fun q2=>?_) (fun q2=>?_)
 ·replace hp:=cond_t q2 hp
  refine s2 ?_
  refine L_build (xs:=[]) (cs:=[.int .i64 0,.int .i64 0,(TL.hdr (TL.nil T_Inst 0)),(TL.hdr (TL.nil T_Lead 0))]) rfl rfl bld44.h rfl ?_
  refine s1 ?_
  refine L_assign (v:=(TL.hdr (TL.nil T_EMsg 0))) rfl rfl ?_
  refine s2 ?_
  obtain rfl:=sj hp
  refine W_conv (M':=treeH (TL.nil T_Inst 0)::_) (fun w h=>addNilT (τ:=T_Inst) 0 h) ?_
  refine W_conv (M':=treeH (TL.nil T_Lead 0)::_) (fun w h=>addNilT (τ:=T_Lead) 0 h) ?_
  refine jW ((0,0,(TL.nil T_Inst 0),(TL.nil T_Lead 0)):T_ENode) ?_
  refine W_conv (M':=treeH (TL.nil T_EMsg 0)::_) (fun w h=>addNilT (τ:=T_EMsg) 0 h) ?_
  refine s1 ?_
  refine res3 rfl (ResOK.cell rfl mm (by exact agg44.h)) (ResOK.tmp rfl) (ResOK.tmp rfl) ⟨(0,0,(TL.nil T_Inst 0),(TL.nil T_Lead 0)),(TL.nil T_EMsg 0),false,rfl,rfl,rfl⟩ ms
 ·replace hp:=cond_f q2 hp
  refine s3 ?_
  replace hp:=ba hp;obtain ⟨y3,hy3,hp⟩:=hp
  replace hp:=gb_any hp;obtain ⟨y4,hy4,hp⟩:=hp
  refine W_D0 [28] mix (by kernel_rfl) rfl ?_
  refine s1 ?_
  refine D_callX GC.none fn64.h (OpVs.cons (OpV.t rfl) (OpVs.nil)) (by exact fun hg w F hF hM=>i_EMsgOk_walk w (a1_1,a1_2,a1_3,(a1_4,a1_5),a1_6,(a1_7,a1_8,a1_9,a1_10,a1_11,a1_12,a1_13,a1_14),a1_15,a1_16,a1_17,a1_18,a1_19) (RdT.nowS (RdT.pair RdT.int (RdT.pair RdT.int (RdT.pair RdT.int (RdT.pair (RdT.pair RdT.int RdT.int) (RdT.pair RdT.int (RdT.pair (RdT.pair RdT.int (RdT.pair RdT.int (RdT.pair RdT.int (RdT.pair RdT.str (RdT.pair RdT.str (RdT.pair RdT.str (RdT.pair RdT.int (RdT.old h1.2.2.2.2.2.1.2.2.2.2.2.2.2)))))))) (RdT.pair RdT.int (RdT.pair (RdT.old h1.2.2.2.2.2.2.2.1) (RdT.pair RdT.int (RdT.pair RdT.int RdT.bool)))))))))) hF hM) _ hy3) ?_
  refine s10 ?_
  refine D_loadW (GC.some rfl rfl) (OpV.s rfl) (fun hg=>RdC.seg (RdC.blk mm) 3 2 rfl) (by exact agg35.h) ?_
  refine D_callX (GC.some rfl rfl) fn110.h (OpVs.cons (OpV.t rfl) (OpVs.cons (OpV.s rfl) (OpVs.nil))) (by exact fun hg w F hF hM=>i_ENode_unknown_walk w bk2 (a0_1,a0_2,a0_3,a0_4) (a1_4,a1_5) (cells_of_blk (hM _ mm) hF.sees) (RdT.nowS (RdT.pair RdT.int (RdT.pair RdT.int (RdT.pair (RdT.old h0.2.2.1) (RdT.old h0.2.2.2)))) hF hM) (RdT.nowS (RdT.pair RdT.int RdT.int) hF hM) _ (hy4 (gnot hg.2))) ?_
  refine s18 ?_
  refine kp [2,3,4,28] ?_
  refine W_cond rfl (fun q5=>?_) (fun q5=>?_)
  ·replace hp:=cond_t q5 hp
   refine s3 ?_
   replace hp:=ba hp;obtain ⟨y6,hy6,hp⟩:=hp
   refine L_callR rfl fn119.h rfl (by exact fun w hw=>i_copyENode_walk w (a0_1,a0_2,a0_3,a0_4) (RdT.now (RdT.pair RdT.int (RdT.pair RdT.int (RdT.pair (RdT.old h0.2.2.1) (RdT.old h0.2.2.2)))) hw) _ hy6) ?_
   rintro _ _ ⟨⟨y6x0_1,y6x0_2,y6x0_3,y6x0_4⟩,rfl,rfl,rfl⟩
   refine sc ?_
   replace hp:=dd hp
   refine xL ((y6x0_1,y6x0_2,y6x0_3,y6x0_4):T_ENode) ?_
   refine s1 ?_
   refine L_assign (v:=(TL.hdr (TL.nil T_EMsg 0))) rfl rfl ?_
   refine s2 ?_
   obtain rfl:=sj hp
   refine jW ((y6x0_1,y6x0_2,y6x0_3,y6x0_4):T_ENode) ?_
   refine W_conv (M':=treeH (TL.nil T_EMsg 0)::_) (fun w h=>addNilT (τ:=T_EMsg) 0 h) ?_
   refine s1 ?_
   refine res3 rfl (ResOK.cell rfl mm (by exact agg44.h)) (ResOK.tmp rfl) (ResOK.tmp rfl) ⟨(y6x0_1,y6x0_2,y6x0_3,y6x0_4),(TL.nil T_EMsg 0),false,rfl,rfl,rfl⟩ ms
  ·replace hp:=cond_f q5 hp
   refine s4 ?_
   replace hp:=ba hp;obtain ⟨y7,hy7,hp⟩:=hp
   refine L_callR rfl fn119.h rfl (by exact fun w hw=>i_copyENode_walk w (a0_1,a0_2,a0_3,a0_4) (RdT.now (RdT.pair RdT.int (RdT.pair RdT.int (RdT.pair (RdT.old h0.2.2.1) (RdT.old h0.2.2.2)))) hw) _ hy7) ?_
   rintro _ _ ⟨⟨y7x0_1,y7x0_2,y7x0_3,y7x0_4⟩,rfl,rfl,rfl⟩
   refine sc ?_
   replace hp:=dd hp
   refine xL ((y7x0_1,y7x0_2,y7x0_3,y7x0_4):T_ENode) ?_
   refine al fun bk7=>?_
   refine s5 ?_
   replace hp:=ba hp;obtain ⟨y8,hy8,hp⟩:=hp
   refine L_callM [blk bk7 _ _,treeH y7x0_3,treeH y7x0_4] _ rfl fn125.h rfl pc (by exact fun w hw=>i_ENode_get_walk w bk7 (y7x0_1,y7x0_2,y7x0_3,y7x0_4) (a1_1,a1_2,a1_3,(a1_4,a1_5),a1_6,(a1_7,a1_8,a1_9,a1_10,a1_11,a1_12,a1_13,a1_14),a1_15,a1_16,a1_17,a1_18,a1_19) ((RdX.pair RdX.int (RdX.pair RdX.int (RdX.pair RdX.int (RdX.pair (RdX.pair RdX.int RdX.int) (RdX.pair RdX.int (RdX.pair (RdX.pair RdX.int (RdX.pair RdX.int (RdX.pair RdX.int (RdX.pair RdX.str (RdX.pair RdX.str (RdX.pair RdX.str (RdX.pair RdX.int (RdX.old h1.2.2.2.2.2.1.2.2.2.2.2.2.2)))))))) (RdX.pair RdX.int (RdX.pair (RdX.old h1.2.2.2.2.2.2.2.1) (RdX.pair RdX.int (RdX.pair RdX.int RdX.bool)))))))))) w hw) _ hy8) ?_
   rintro _ _ ⟨y8x0,y8x1,⟨y8y0_1,y8y0_2,y8y0_3,y8y0_4⟩,rfl,rfl,rfl⟩
   refine sc ?_
   replace hp:=dd hp
   refine s12 ?_
   refine kp [2,4,7,8,39] ?_
   refine W_cond rfl (fun q9=>?_) (fun q9=>?_)
   ·replace hp:=cond_t q9 hp
    refine s3 ?_
    replace hp:=ba hp;obtain ⟨y10,hy10,hp⟩:=hp
    refine L_callR rfl fn119.h rfl (by exact fun w hw=>i_copyENode_walk w (a0_1,a0_2,a0_3,a0_4) (RdT.now (RdT.pair RdT.int (RdT.pair RdT.int (RdT.pair (RdT.old h0.2.2.1) (RdT.old h0.2.2.2)))) hw) _ hy10) ?_
    rintro _ _ ⟨⟨y10x0_1,y10x0_2,y10x0_3,y10x0_4⟩,rfl,rfl,rfl⟩
    refine sc ?_
    replace hp:=dd hp
    refine xL ((y10x0_1,y10x0_2,y10x0_3,y10x0_4):T_ENode) ?_
    refine s1 ?_
    refine L_assign (v:=(TL.hdr (TL.nil T_EMsg 0))) rfl rfl ?_
    refine s2 ?_
    obtain rfl:=sj hp
    refine jW ((y10x0_1,y10x0_2,y10x0_3,y10x0_4):T_ENode) ?_
    refine W_conv (M':=treeH (TL.nil T_EMsg 0)::_) (fun w h=>addNilT (τ:=T_EMsg) 0 h) ?_
    refine s1 ?_
    refine res3 rfl (ResOK.cell rfl mm (by exact agg44.h)) (ResOK.tmp rfl) (ResOK.tmp rfl) ⟨(y10x0_1,y10x0_2,y10x0_3,y10x0_4),(TL.nil T_EMsg 0),false,rfl,rfl,rfl⟩ ms
   ·replace hp:=cond_f q9 hp
    refine s9 ?_
    obtain rfl:=sj hp
    refine jW ((y8y0_1,y8y0_2,y8y0_3,y8y0_4):T_ENode) ?_
    refine s1 ?_
    refine res3 rfl (ResOK.cell rfl mm (by exact agg44.h)) (ResOK.tmp rfl) (ResOK.tmp rfl) ⟨(y8y0_1,y8y0_2,y8y0_3,y8y0_4),y8x0,true,rfl,rfl,rfl⟩ ms
end Go.Proofs.SL
