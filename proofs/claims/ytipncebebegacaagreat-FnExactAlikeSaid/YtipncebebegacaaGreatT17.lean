/- The texts of the proof, part 17: the base, walks of functions, plain Lean. -/
import Derived.Test.YtipncebebegacaaGreatT16
import Derived.Test.YtipncebebegacaaGreatT12
import Derived.Test.YtipncebebegacaaGreatT6
namespace Go.Proofs.SL
open Go
set_option maxHeartbeats 2000000
instance fn53:FnF Tryz.prog 53:=⟨_,Tryz.func53,by kernel_rfl,rfl⟩
instance fn127:FnF Tryz.prog 127:=⟨_,Tryz.func127,by kernel_rfl,rfl⟩
instance fn128:FnF Tryz.prog 128:=⟨_,Tryz.func128,by kernel_rfl,rfl⟩
instance fn131:FnF Tryz.prog 131:=⟨_,Tryz.func131,by kernel_rfl,rfl⟩
instance fn130:FnF Tryz.prog 130:=⟨_,Tryz.func130,by kernel_rfl,rfl⟩
instance fn132:FnF Tryz.prog 132:=⟨_,Tryz.func132,by kernel_rfl,rfl⟩
instance fn133:FnF Tryz.prog 133:=⟨_,Tryz.func133,by kernel_rfl,rfl⟩
instance fn78:FnF Tryz.prog 78:=⟨_,Tryz.func78,by kernel_rfl,rfl⟩
instance fn33:FnF Tryz.prog 33:=⟨_,Tryz.func33,by kernel_rfl,rfl⟩
instance fn34:FnF Tryz.prog 34:=⟨_,Tryz.func34,by kernel_rfl,rfl⟩
noncomputable def i_ExecCmds (a0:List D_Inst):Option (List D_Cmd) :=
 Option.bind (some ([]:List D_Cmd)) (fun y2=>Option.bind (i_ExecOrder a0) (fun y3=>whileP (fun s4:(List D_Cmd)×Int=>cond (decide (s4.2 < (y3.length:Int))) (Option.bind (idx y3 s4.2) (fun y6=>Option.bind (i_InstAt a0 (y6.1,y6.2)) (fun y7=>cond (!decide (y7.2.2.2.2.1.1=0)) (Option.bind (appP s4.1 [(y7.2.2.2.2.1.1,y7.2.2.2.2.1.2.1,y7.2.2.2.2.1.2.2.1,y7.2.2.2.2.1.2.2.2.1,y7.2.2.2.2.1.2.2.2.2.1,y7.2.2.2.2.1.2.2.2.2.2.1,y7.2.2.2.2.1.2.2.2.2.2.2.1,y7.2.2.2.2.1.2.2.2.2.2.2.2)]) (fun y10=>some (.inl ((y10,IntKind.wrap .i64 (s4.2+1)))))) (some (.inl ((s4.1,IntKind.wrap .i64 (s4.2+1)))))))) (Option.map .inr (some s4.1))) (y2,0)))
theorem i_ExecCmds_walk (w:World) (a0:TL T_Inst) (h0:GT.rd w [] a0) (r:(List D_Cmd)) (hp:i_ExecCmds (GT.dat a0)=some r):Spec Tryz.prog 33 [(TL.hdr a0)].toArray w [] (fun v M=>∃ (x0:TL T_Cmd),v=(TL.hdr x0)∧GT.dat x0=r∧M=[treeH x0]):=by
 refine Spec.intro Tryz.func33 rfl Tryz.ntmps33 rfl ?_
 unfold i_ExecCmds at hp
 replace hp:=dd hp
 refine s2 ?_
 refine L_assign (v:=(TL.hdr (TL.nil T_Cmd 0))) rfl rfl ?_
 refine s3 ?_
 replace hp:=ba hp;obtain ⟨y2,hy2,hp⟩:=hp
 refine L_mk0 T_Cmd rfl el63.h (fun X1 hdX1=>?_)
 obtain rfl:GT.dat X1=y2:=hdX1.trans (Option.some.inj hy2)
 clear hy2 hdX1
 refine s6 ?_
 replace hp:=ba hp;obtain ⟨y3,hy3,hp⟩:=hp
 refine L_callR rfl fn53.h rfl (by exact fun w hw=>i_ExecOrder_walk w a0 (RdT.now (RdT.old h0) hw) _ hy3) ?_
 rintro _ _ ⟨y3x0,rfl,rfl,rfl⟩
 refine sc ?_
 replace hp:=dd hp
 refine s4 ?_
 refine W_while (σ:=(TL T_Cmd)×Int) GT.dat (fun ((v4_0,v4_1):(TL T_Cmd)×Int)=>[(3,(TL.hdr v4_0)),(11,.int .i64 v4_1)]) (fun ((v4_0,v4_1):(TL T_Cmd)×Int)=>[treeH v4_0]) [(0,_),(9,_),(10,_)] [treeH y3x0] (X1,0) hp sb ms ?_
 clear hp
 rintro ⟨v4_0,v4_1⟩ x4 hp hx4
 replace hp:=dd hp
 refine kq [0,3,9,10,11] ?_
 refine s5 ?_
 refine kp [0,3,9,10,11,12] ?_
 refine W_cond rfl (fun q5=>?_) (fun q5=>?_)
 ·replace hp:=cond_t q5 hp
  refine s5 ?_
  replace hp:=idx_bind hp;obtain ⟨⟨u6_1,u6_2⟩,hy6,hp⟩:=hp
  refine L_idxA (X:=y3x0) rfl rfl rfl el85.h (RdT.tree mm) hy6 ?_
  refine L_loadW rfl rfl (RdT.at (RdT.tree mm) (hy6).2) (by exact agg92.h) ?_
  refine al fun bk5=>?_
  refine s6 ?_
  replace hp:=ba hp;obtain ⟨y7,hy7,hp⟩:=hp
  refine L_callR rfl fn77.h rfl (by exact fun w hw=>i_InstAt_walk w a0 (u6_1,u6_2) (RdT.now (RdT.old h0) hw) (RdT.now (RdT.pair RdT.int RdT.int) hw) _ hy7) ?_
  rintro _ _ ⟨⟨⟨y7x0_1,y7x0_2⟩,y7x0_3,y7x0_4,y7x0_5,⟨y7x0_6,y7x0_7,y7x0_8,y7x0_9,y7x0_10,y7x0_11,y7x0_12,y7x0_13⟩,y7x0_14,y7x0_15,y7x0_16⟩,rfl,rfl,rfl⟩
  refine sc ?_
  replace hp:=dd hp
  refine xL (((y7x0_1,y7x0_2),y7x0_3,y7x0_4,y7x0_5,(y7x0_6,y7x0_7,y7x0_8,y7x0_9,y7x0_10,y7x0_11,y7x0_12,y7x0_13),y7x0_14,y7x0_15,y7x0_16):T_Inst) ?_
  refine L_fieldA (us:=[.int .i64 y7x0_6,.int .i64 y7x0_7,.int .i64 y7x0_8,.string y7x0_9,.string y7x0_10,.string y7x0_11,.int .i64 y7x0_12,(TL.hdr y7x0_13)]) rfl rfl (show fldA _ 111 4=some (5,8) by kernel_rfl) rfl ?_
  refine al fun bk6=>?_
  refine s8 ?_
  refine kp [0,3,6,9,10,11,21] ?_
  refine W_cond rfl (fun q8=>?_) (fun q8=>?_)
  ·replace hp:=cond_t q8 hp
   refine s3 ?_
   refine L_buildSlice1 rfl rfl el63.h rfl (by decide) (by decide) rfl (fun bb24=>?_)
   replace hp:=ba hp;obtain ⟨y10,hy10,hp⟩:=hp
   refine jL ((y7x0_6,y7x0_7,y7x0_8,y7x0_9,y7x0_10,y7x0_11,y7x0_12,y7x0_13):T_Cmd) ?_
   refine L_app1m (X:=v4_0) ((y7x0_6,y7x0_7,y7x0_8,y7x0_9,y7x0_10,y7x0_11,y7x0_12,y7x0_13):T_Cmd) rfl rfl rfl el63.h rfl rfl pk mm pk hy10 (by decide) (fun X9 hdX9 hmX9=>?_)
   subst hdX9
   refine s6 ?_
   exact ⟨(X9,IntKind.wrap .i64 (v4_1+1)),sb,(.sub ms),some_eq hp⟩
  ·replace hp:=cond_f q8 hp
   refine s5 ?_
   exact ⟨(v4_0,IntKind.wrap .i64 (v4_1+1)),sb,(.sub ms),some_eq hp⟩
 ·replace hp:=cond_f q5 hp
  refine W_exit ?_
  replace hp:=map_any hp;obtain ⟨a11,hp,z_11⟩:=hp
  obtain rfl:=hx4 _ z_11
  refine s5 ?_
  obtain rfl:=sj hp
  refine s1 ?_
  refine res1 rfl (ResOK.tmp rfl) ⟨v4_0,rfl,rfl,rfl⟩ ms
noncomputable def i_StateDo (a0:D_State) (a1:D_Cmd):Option (D_State×ByteArray) :=
 Option.bind (i_copyState (a0.1,a0.2)) (fun y1=>Option.bind (i_StateOk (a0.1,a0.2)) (fun y2=>cond (!y2) (some ((([]:List D_CSet),([]:List D_Said)),ByteArray.empty)) (Option.bind (i_CmdOk (a1.1,a1.2.1,a1.2.2.1,a1.2.2.2.1,a1.2.2.2.2.1,a1.2.2.2.2.2.1,a1.2.2.2.2.2.2.1,a1.2.2.2.2.2.2.2)) (fun y4=>cond ((!y4)||(decide (a1.1=0))) (some ((y1.1,y1.2),ByteArray.empty)) (Option.bind (sl_IndexFunc_implSaidimplSaid a0.2 (fun z0=>i_StateDo_c1 z0 (a1.1,a1.2.1,a1.2.2.1,a1.2.2.2.1,a1.2.2.2.2.1,a1.2.2.2.2.2.1,a1.2.2.2.2.2.2.1,a1.2.2.2.2.2.2.2))) (fun y6=>gb (decide (0≤y6)) (idx a0.2 y6) (fun y7=>gb ((decide (0≤y6))&&(decide (y7.1=a1.2.1))) (idx a0.2 y6) (fun y8=>cond (((decide (0≤y6))&&(decide (y7.1=a1.2.1)))&&(decide (y8.2.1=a1.2.2.1))) (Option.bind (idx a0.2 y6) (fun y10=>some ((y1.1,y1.2),y10.2.2))) (gb ((decide (0≤y6))&&(decide (y7.1=a1.2.1))) (idx a0.2 y6) (fun y11=>cond (((decide (0≤y6))&&(decide (y7.1=a1.2.1)))&&(decide (a1.2.2.1 < y11.2.1))) (some ((y1.1,y1.2),(ByteArray.mk #[111,108,100]))) (Option.bind (i_CatDo a0.1 (a1.1,a1.2.1,a1.2.2.1,a1.2.2.2.1,a1.2.2.2.2.1,a1.2.2.2.2.2.1,a1.2.2.2.2.2.2.1,a1.2.2.2.2.2.2.2)) (fun y13=>cond ((decide (0≤y6))&&(decide (y7.1=a1.2.1))) (Option.bind (idx y1.2 y6) (fun y15=>Option.bind (some (y1.2.set (y6.toNat) (a1.2.1,a1.2.2.1,y13.2))) (fun y16=>some ((y13.1,y16),y13.2)))) (cond (decide (0≤y6)) (Option.bind (insP y1.2 y6 (a1.2.1,a1.2.2.1,y13.2)) (fun y19=>some ((y13.1,y19),y13.2))) (Option.bind (appP y1.2 [(a1.2.1,a1.2.2.1,y13.2)]) (fun y22=>some ((y13.1,y22),y13.2))))))))))))))))
theorem i_StateDo_walk (w:World) (a0:T_State) (a1:T_Cmd) (h0:GT.rd w [] a0) (h1:GT.rd w [] a1) (r:D_State×ByteArray) (hp:i_StateDo (GT.dat a0) (GT.dat a1)=some r):Spec Tryz.prog 78 [.agg (GT.cells a0).toArray,.agg (GT.cells a1).toArray].toArray w [] (fun v M=>∃ (x0:T_State) (x1:ByteArray),v=.tuple #[.agg (GT.cells x0).toArray,.string x1]∧(GT.dat x0,GT.dat x1)=r∧M=[treeH x0]):=by
 obtain ⟨a0_1,a0_2⟩:=a0
 obtain ⟨a1_1,a1_2,a1_3,a1_4,a1_5,a1_6,a1_7,a1_8⟩:=a1
 change Spec _ _ ([Value.agg #[(TL.hdr a0_1),(TL.hdr a0_2)],Value.agg #[.int .i64 a1_1,.int .i64 a1_2,.int .i64 a1_3,.string a1_4,.string a1_5,.string a1_6,.int .i64 a1_7,(TL.hdr a1_8)]]:List Value).toArray w [] _
 refine Spec.intro Tryz.func78 rfl Tryz.ntmps78 rfl ?_
 unfold i_StateDo at hp
 replace hp:=dd hp
 refine s2 ?_
 refine bx fun bk2=>?_
 refine bx fun bk3=>?_
 refine al fun bk4=>?_
 refine s5 ?_
 replace hp:=ba hp;obtain ⟨y1,hy1,hp⟩:=hp
 refine L_callR rfl fn127.h rfl (by exact fun w hw=>i_copyState_walk w (a0_1,a0_2) (RdT.now (RdT.pair (RdT.old h0.1) (RdT.old h0.2)) hw) _ hy1) ?_
 rintro _ _ ⟨⟨y1x0_1,y1x0_2⟩,rfl,rfl,rfl⟩
 refine sc ?_
 replace hp:=dd hp
 refine xL ((y1x0_1,y1x0_2):T_State) ?_
 refine al fun bk6=>?_
 refine s6 ?_
 replace hp:=ba hp;obtain ⟨y2,hy2,hp⟩:=hp
 refine L_callX rfl fn128.h rfl (by exact fun w hw=>i_StateOk_walk w (a0_1,a0_2) (RdT.now (RdT.pair (RdT.old h0.1) (RdT.old h0.2)) hw) _ hy2) ?_
 refine s2 ?_
 refine kp [2,3,4,6,16] ?_
 refine W_cond rfl (fun q3=>?_) (fun q3=>?_)
 ·replace hp:=cond_t q3 hp
  refine s2 ?_
  refine L_build (xs:=[]) (cs:=[(TL.hdr (TL.nil T_CSet 0)),(TL.hdr (TL.nil T_Said 0))]) rfl rfl bld43.h rfl ?_
  refine s3 ?_
  obtain rfl:=sj hp
  refine W_conv (M':=treeH (TL.nil T_CSet 0)::_) (fun w h=>addNilT (τ:=T_CSet) 0 h) ?_
  refine W_conv (M':=treeH (TL.nil T_Said 0)::_) (fun w h=>addNilT (τ:=T_Said) 0 h) ?_
  refine jW (((TL.nil T_CSet 0),(TL.nil T_Said 0)):T_State) ?_
  refine s1 ?_
  refine res2 rfl (ResOK.cell rfl mm (by exact agg43.h)) (ResOK.tmp rfl) ⟨((TL.nil T_CSet 0),(TL.nil T_Said 0)),ByteArray.empty,rfl,rfl,rfl⟩ ms
 ·replace hp:=cond_f q3 hp
  refine s3 ?_
  replace hp:=ba hp;obtain ⟨y4,hy4,hp⟩:=hp
  refine W_D0 [25] mix (by kernel_rfl) rfl ?_
  refine s1 ?_
  refine D_callX GC.none fn129.h (OpVs.cons (OpV.t rfl) (OpVs.nil)) (by exact fun hg w F hF hM=>i_CmdOk_walk w (a1_1,a1_2,a1_3,a1_4,a1_5,a1_6,a1_7,a1_8) (RdT.nowS (RdT.pair RdT.int (RdT.pair RdT.int (RdT.pair RdT.int (RdT.pair RdT.str (RdT.pair RdT.str (RdT.pair RdT.str (RdT.pair RdT.int (RdT.old h1.2.2.2.2.2.2.2)))))))) hF hM) _ hy4) ?_
  refine s16 ?_
  refine kp [2,3,4,6,25] ?_
  refine W_cond rfl (fun q5=>?_) (fun q5=>?_)
  ·replace hp:=cond_t q5 hp
   refine s6 ?_
   obtain rfl:=sj hp
   refine jW ((y1x0_1,y1x0_2):T_State) ?_
   refine s1 ?_
   refine res2 rfl (ResOK.cell rfl mm (by exact agg43.h)) (ResOK.tmp rfl) ⟨(y1x0_1,y1x0_2),ByteArray.empty,rfl,rfl,rfl⟩ ms
  ·replace hp:=cond_f q5 hp
   refine s5 ?_
   refine L_makeFunc (fs:=[]) (cs:=[.tmp 3]) rfl rfl rfl ?_
   replace hp:=ba hp;obtain ⟨y6,hy6,hp⟩:=hp
   refine L_callX rfl fn130.h rfl (by exact fun w hw=>sl_IndexFunc_implSaidimplSaid_walk w a0_2 131 [Value.pointer (some ⟨bk3,0,none⟩)] (fun z0=>i_StateDo_c1 z0 (a1_1,a1_2,a1_3,a1_4,a1_5,a1_6,a1_7,GT.dat a1_8)) (RdT.now (RdT.old h0.2) hw) fn131.h (fun w' F u0 v hF hu0 hv=>i_StateDo_c1_walk w' u0 bk3 (a1_1,a1_2,a1_3,a1_4,a1_5,a1_6,a1_7,a1_8) hu0 ((cells_of_blk mm hw.sees).carry hF) (rd_carry (RdT.now (RdT.pair RdT.int (RdT.pair RdT.int (RdT.pair RdT.int (RdT.pair RdT.str (RdT.pair RdT.str (RdT.pair RdT.str (RdT.pair RdT.int (RdT.old h1.2.2.2.2.2.2.2)))))))) hw) hF) v hv) _ hy6) ?_
   refine s3 ?_
   replace hp:=idx_gb hp;obtain ⟨⟨u7_1,u7_2,u7_3⟩,hy7,hp⟩:=hp
   refine W_D0 [8] mix (by kernel_rfl) rfl ?_
   refine s6 ?_
   refine D_idxA (X:=a0_2) (GC.some rfl rfl) (OpV.s rfl) (OpV.s rfl) el27.h (RdT.old h0.2) (fun hg=>hy7 hg.2) ?_
   refine s1 ?_
   refine D_load (GC.some rfl rfl) (OpV.s rfl) (fun hg=>RdT.at (RdT.old h0.2) (hy7 hg.2).2) one3.h rfl ?_
   refine s20 ?_
   refine s3 ?_
   replace hp:=idx_gb hp;obtain ⟨⟨u8_1,u8_2,u8_3⟩,hy8,hp⟩:=hp
   refine W_D0 [55] mix (by kernel_rfl) rfl ?_
   refine s5 ?_
   refine D_idxA (X:=a0_2) (GC.some rfl rfl) (OpV.s rfl) (OpV.s rfl) el27.h (RdT.old h0.2) (fun hg=>hy8 hg.2) ?_
   refine s1 ?_
   refine D_load (GC.some rfl rfl) (OpV.s rfl) (fun hg=>RdT.at (RdT.old h0.2) (hy8 hg.2).2) one3.h rfl ?_
   refine s18 ?_
   refine kp [2,3,4,6,7,8,55] ?_
   refine W_cond rfl (fun q9=>?_) (fun q9=>?_)
   ·replace hp:=cond_t q9 hp
    refine s1 ?_
    replace hp:=idx_bind hp;obtain ⟨⟨u10_1,u10_2,u10_3⟩,hy10,hp⟩:=hp
    refine W_DS (pre:=[_,_,_,_,_,_,_,_,_]) (suf:=[]) [5] [blk bk4 _ _] _ pc mix (by kernel_rfl) (by kernel_rfl) rfl ?_
    refine s4 ?_
    refine D_idxA (X:=a0_2) GC.none (OpV.t rfl) (OpV.t rfl) el27.h (RdT.old h0.2) (fun _=>hy10) ?_
    refine s1 ?_
    refine D_load GC.none (OpV.t rfl) (fun hg=>RdT.at (RdT.old h0.2) (hy10).2) one9.h rfl ?_
    refine D_storeW (OpV.t rfl) (OpV.t rfl) pk (by exact agg43.h) (by rfl) ocs ?_
    refine s13 ?_
    obtain rfl:=sj hp
    refine jW ((y1x0_1,y1x0_2):T_State) ?_
    refine s1 ?_
    refine res2 rfl (ResOK.cell rfl mm (by exact agg43.h)) (ResOK.tmp rfl) ⟨(y1x0_1,y1x0_2),u10_3,rfl,rfl,rfl⟩ ms
   ·replace hp:=cond_f q9 hp
    refine s3 ?_
    replace hp:=idx_gb hp;obtain ⟨⟨u11_1,u11_2,u11_3⟩,hy11,hp⟩:=hp
    refine W_D0 [74] mix (by kernel_rfl) rfl ?_
    refine s5 ?_
    refine D_idxA (X:=a0_2) (GC.some rfl rfl) (OpV.s rfl) (OpV.s rfl) el27.h (RdT.old h0.2) (fun hg=>hy11 hg.2) ?_
    refine s1 ?_
    refine D_load (GC.some rfl rfl) (OpV.s rfl) (fun hg=>RdT.at (RdT.old h0.2) (hy11 hg.2).2) one3.h rfl ?_
    refine s18 ?_
    refine kp [2,3,4,6,7,8,74] ?_
    refine W_cond rfl (fun q12=>?_) (fun q12=>?_)
    ·replace hp:=cond_t q12 hp
     refine s6 ?_
     obtain rfl:=sj hp
     refine jW ((y1x0_1,y1x0_2):T_State) ?_
     refine s1 ?_
     refine res2 rfl (ResOK.cell rfl mm (by exact agg43.h)) (ResOK.tmp rfl) ⟨(y1x0_1,y1x0_2),(ByteArray.mk #[111,108,100]),rfl,rfl,rfl⟩ ms
    ·replace hp:=cond_f q12 hp
     refine s4 ?_
     refine L_loadW rfl rfl (RdC.seg (RdC.blk mm) 0 1 rfl) (by exact agg41.h) ?_
     refine s1 ?_
     replace hp:=ba hp;obtain ⟨y13,hy13,hp⟩:=hp
     refine L_callR rfl fn132.h rfl (by exact fun w hw=>i_CatDo_walk w a0_1 (a1_1,a1_2,a1_3,a1_4,a1_5,a1_6,a1_7,a1_8) (RdT.now (RdT.old h0.1) hw) (RdT.now (RdT.pair RdT.int (RdT.pair RdT.int (RdT.pair RdT.int (RdT.pair RdT.str (RdT.pair RdT.str (RdT.pair RdT.str (RdT.pair RdT.int (RdT.old h1.2.2.2.2.2.2.2)))))))) hw) _ hy13) ?_
     rintro _ _ ⟨y13x0,y13x1,rfl,rfl,rfl⟩
     refine sc ?_
     replace hp:=dd hp
     refine s3 ?_
     refine al fun bk9=>?_
     refine s7 ?_
     refine L_storeA (fo:=0) rfl rfl pk (by exact agg41.h) (Nat.le_of_ble_eq_true rfl) ocs rfl ?_
     refine s8 ?_
     refine L_build (xs:=[(0,.tmp 86),(1,.tmp 88),(2,.tmp 89)]) (cs:=[.int .i64 a1_2,.int .i64 a1_3,.string y13x1]) rfl rfl bld71.h rfl ?_
     refine al fun bk11=>?_
     refine s9 ?_
     refine kp [4,6,7,10,11,97] ?_
     refine W_cond rfl (fun q14=>?_) (fun q14=>?_)
     ·replace hp:=cond_t q14 hp
      refine s5 ?_
      replace hp:=idx_bind hp;obtain ⟨⟨u15_1,u15_2,u15_3⟩,hy15,hp⟩:=hp
      refine L_idxA (X:=y1x0_2) rfl rfl rfl el27.h (RdT.tree mm) hy15 ?_
      refine L_conv (M':=treeH (u15_1,u15_2,u15_3)::holeH y1x0_2 (y6.toNat) (GT.cells (u15_1,u15_2,u15_3))::_) (fun w h=>hole_open hy15.2 pk h) ?_
      refine L_stH (X:=y1x0_2) (i:=y6.toNat) (sz:=3) (fo:=0) (n:=3) rfl rfl pk rfl (.inl agg71.h) rfl (allOne rfl) (Nat.le_of_ble_eq_true rfl) ?_
      refine L_conv (M':=treeH ((a1_2,a1_3,y13x1):T_Said)::_) (fun w h=>addF ((a1_2,a1_3,y13x1):T_Said) h) ?_
      replace hp:=ba hp;obtain ⟨y16,hy16,hp⟩:=hp
      refine L_close (X:=y1x0_2) ((a1_2,a1_3,y13x1):T_Said) rfl pk pk hy16 (fun X17 hdX17 hhX17=>?_)
      subst hdX17
      try rw [← hhX17]
      try rw [← g_of_hdr hhX17]
      try rw [← o_of_hdr hhX17]
      refine s8 ?_
      obtain rfl:=sj hp
      refine jW ((y13x0,X17):T_State) ?_
      refine s1 ?_
      refine res2 rfl (ResOK.cell rfl mm (by exact agg43.h)) (ResOK.tmp rfl) ⟨(y13x0,X17),y13x1,rfl,rfl,rfl⟩ ms
     ·replace hp:=cond_f q14 hp
      refine s6 ?_
      refine kp [4,6,7,10,11,104] ?_
      refine W_cond rfl (fun q18=>?_) (fun q18=>?_)
      ·replace hp:=cond_t q18 hp
       refine s5 ?_
       refine L_buildSlice1 rfl rfl el27.h rfl (by decide) (by decide) rfl (fun bb111=>?_)
       refine L_conv (M':=treeH ((a1_2,a1_3,y13x1):T_Said)::_) (fun w h=>addF ((a1_2,a1_3,y13x1):T_Said) h) ?_
       replace hp:=ba hp;obtain ⟨y19,hy19,hp⟩:=hp
       refine L_callM [treeH y1x0_2,blk bb111 _ _,treeH ((a1_2,a1_3,y13x1):T_Said)] _ rfl fn133.h rfl pc (by exact fun w hw=>sl_Insert_implSaidimplSaid_walk w y1x0_2 y6 bb111 ((a1_2,a1_3,y13x1):T_Said) _ _ hy19) ?_
       rintro _ _ ⟨X20,rfl,rfl,rfl⟩
       refine sc ?_
       refine s10 ?_
       obtain rfl:=sj hp
       refine jW ((y13x0,X20):T_State) ?_
       refine s1 ?_
       refine res2 rfl (ResOK.cell rfl mm (by exact agg43.h)) (ResOK.tmp rfl) ⟨(y13x0,X20),y13x1,rfl,rfl,rfl⟩ ms
      ·replace hp:=cond_f q18 hp
       refine s4 ?_
       refine L_buildSlice1 rfl rfl el27.h rfl (by decide) (by decide) rfl (fun bb94=>?_)
       replace hp:=ba hp;obtain ⟨y22,hy22,hp⟩:=hp
       refine L_app1F (X:=y1x0_2) ((a1_2,a1_3,y13x1):T_Said) rfl rfl rfl el27.h rfl rfl pk mm  hy22 (by decide) (fun X21 hdX21=>?_)
       subst hdX21
       refine s10 ?_
       obtain rfl:=sj hp
       refine jW ((y13x0,X21):T_State) ?_
       refine s1 ?_
       refine res2 rfl (ResOK.cell rfl mm (by exact agg43.h)) (ResOK.tmp rfl) ⟨(y13x0,X21),y13x1,rfl,rfl,rfl⟩ ms
noncomputable def i_StatePlay (a0:List D_Cmd):Option (D_State×(List ByteArray)) :=
 Option.bind (some ([]:List ByteArray)) (fun y2=>whileP (fun s3:(List ByteArray)×Int×(List D_CSet)×(List D_Said)=>cond (decide (s3.2.1 < (a0.length:Int))) (Option.bind (idx a0 s3.2.1) (fun y5=>Option.bind (i_StateDo (s3.2.2.1,s3.2.2.2) (y5.1,y5.2.1,y5.2.2.1,y5.2.2.2.1,y5.2.2.2.2.1,y5.2.2.2.2.2.1,y5.2.2.2.2.2.2.1,y5.2.2.2.2.2.2.2)) (fun y6=>Option.bind (appP s3.1 [y6.2]) (fun y8=>some (.inl ((y8,IntKind.wrap .i64 (s3.2.1+1),y6.1.1,y6.1.2))))))) (Option.map .inr (some ((s3.2.2.1,s3.2.2.2),s3.1)))) (y2,0,([]:List D_CSet),([]:List D_Said)))
theorem i_StatePlay_walk (w:World) (a0:TL T_Cmd) (h0:GT.rd w [] a0) (r:D_State×(List ByteArray)) (hp:i_StatePlay (GT.dat a0)=some r):Spec Tryz.prog 34 [(TL.hdr a0)].toArray w [] (fun v M=>∃ (x0:T_State) (x1:TL ByteArray),v=.tuple #[.agg (GT.cells x0).toArray,(TL.hdr x1)]∧(GT.dat x0,GT.dat x1)=r∧M=[treeH x0,treeH x1]):=by
 refine Spec.intro Tryz.func34 rfl Tryz.ntmps34 rfl ?_
 unfold i_StatePlay at hp
 replace hp:=dd hp
 refine s2 ?_
 refine al fun bk2=>?_
 refine L_assign (v:=(TL.hdr (TL.nil ByteArray 0))) rfl rfl ?_
 refine s3 ?_
 refine L_build (xs:=[]) (cs:=[(TL.hdr (TL.nil T_CSet 0)),(TL.hdr (TL.nil T_Said 0))]) rfl rfl bld43.h rfl ?_
 refine al fun bk4=>?_
 refine s4 ?_
 replace hp:=ba hp;obtain ⟨y2,hy2,hp⟩:=hp
 refine L_mk0 ByteArray rfl el65.h (fun X1 hdX1=>?_)
 obtain rfl:GT.dat X1=y2:=hdX1.trans (Option.some.inj hy2)
 clear hy2 hdX1
 refine s10 ?_
 refine W_conv (M':=treeH (TL.nil T_CSet 0)::_) (fun w h=>addNilT (τ:=T_CSet) 0 h) ?_
 refine W_conv (M':=treeH (TL.nil T_Said 0)::_) (fun w h=>addNilT (τ:=T_Said) 0 h) ?_
 refine W_while (σ:=(TL ByteArray)×Int×(TL T_CSet)×(TL T_Said)) GT.dat (fun ((v3_0,v3_1,v3_2,v3_3):(TL ByteArray)×Int×(TL T_CSet)×(TL T_Said))=>[(5,(TL.hdr v3_0)),(14,.int .i64 v3_1)]) (fun ((v3_0,v3_1,v3_2,v3_3):(TL ByteArray)×Int×(TL T_CSet)×(TL T_Said))=>[blk bk4 [(TL.hdr v3_2),(TL.hdr v3_3)] 43,treeH v3_0,treeH v3_2,treeH v3_3]) [(2,_),(4,_),(12,_),(13,_)] [blk bk2 _ _] (X1,0,(TL.nil T_CSet 0),(TL.nil T_Said 0)) hp sb ms ?_
 clear hp
 rintro ⟨v3_0,v3_1,v3_2,v3_3⟩ x3 hp hx3
 replace hp:=dd hp
 refine kq [2,4,5,12,13,14] ?_
 refine s5 ?_
 refine kp [2,4,5,12,13,14,15] ?_
 refine W_cond rfl (fun q4=>?_) (fun q4=>?_)
 ·replace hp:=cond_t q4 hp
  refine s5 ?_
  replace hp:=idx_bind hp;obtain ⟨⟨u5_1,u5_2,u5_3,u5_4,u5_5,u5_6,u5_7,u5_8⟩,hy5,hp⟩:=hp
  refine L_idxA (X:=a0) rfl rfl rfl el63.h (RdT.old h0) hy5 ?_
  refine L_loadW rfl rfl (RdT.at (RdT.old h0) (hy5).2) (by exact agg69.h) ?_
  refine al fun bk7=>?_
  refine s6 ?_
  replace hp:=ba hp;obtain ⟨y6,hy6,hp⟩:=hp
  refine L_callR rfl fn78.h rfl (by exact fun w hw=>i_StateDo_walk w (v3_2,v3_3) (u5_1,u5_2,u5_3,u5_4,u5_5,u5_6,u5_7,u5_8) (RdT.now (RdT.pair (RdT.tree mm) (RdT.tree mm)) hw) (RdT.now (RdT.pair RdT.int (RdT.pair RdT.int (RdT.pair RdT.int (RdT.pair RdT.str (RdT.pair RdT.str (RdT.pair RdT.str (RdT.pair RdT.int (RdT.snd (RdT.snd (RdT.snd (RdT.snd (RdT.snd (RdT.snd (RdT.snd (RdT.of (RdT.old h0) (hy5).2))))))))))))))) hw) _ hy6) ?_
  rintro _ _ ⟨⟨y6x0_1,y6x0_2⟩,y6x1,rfl,rfl,rfl⟩
  refine sc ?_
  replace hp:=dd hp
  refine xL ((y6x0_1,y6x0_2):T_State) ?_
  refine s3 ?_
  refine al fun bk8=>?_
  refine s11 ?_
  refine L_buildSlice1 rfl rfl el65.h rfl (by decide) (by decide) rfl (fun bb27=>?_)
  replace hp:=ba hp;obtain ⟨y8,hy8,hp⟩:=hp
  refine L_app1F (X:=v3_0) (y6x1:ByteArray) rfl rfl rfl el65.h rfl rfl pk mm  hy8 (by decide) (fun X7 hdX7=>?_)
  subst hdX7
  refine s6 ?_
  exact ⟨(X7,IntKind.wrap .i64 (v3_1+1),y6x0_1,y6x0_2),sb,(.sub ms),some_eq hp⟩
 ·replace hp:=cond_f q4 hp
  refine W_exit ?_
  replace hp:=map_any hp;obtain ⟨a9,hp,z_9⟩:=hp
  obtain rfl:=hx3 _ z_9
  refine s7 ?_
  obtain rfl:=sj hp
  refine jW ((v3_2,v3_3):T_State) ?_
  refine s1 ?_
  refine res2 rfl (ResOK.cell rfl mm (by exact agg43.h)) (ResOK.tmp rfl) ⟨(v3_2,v3_3),v3_0,rfl,rfl,rfl⟩ ms
noncomputable def i_NodeState (a0:D_ENode):Option D_State :=
 Option.bind (i_ENodeOk (a0.1,a0.2.1,a0.2.2.1,a0.2.2.2)) (fun y1=>cond (!y1) (some (([]:List D_CSet),([]:List D_Said))) (Option.bind (i_ExecCmds a0.2.2.1) (fun y3=>Option.bind (i_StatePlay y3) (fun y4=>some (y4.1.1,y4.1.2)))))
theorem i_NodeState_walk (w:World) (a0:T_ENode) (h0:GT.rd w [] a0) (r:D_State) (hp:i_NodeState (GT.dat a0)=some r):Spec Tryz.prog 16 [.agg (GT.cells a0).toArray].toArray w [] (fun v M=>∃ (x0:T_State),v=.agg (GT.cells x0).toArray∧GT.dat x0=r∧M=[treeH x0]):=by
 obtain ⟨a0_1,a0_2,a0_3,a0_4⟩:=a0
 change Spec _ _ ([Value.agg #[.int .i64 a0_1,.int .i64 a0_2,(TL.hdr a0_3),(TL.hdr a0_4)]]:List Value).toArray w [] _
 refine Spec.intro Tryz.func16 rfl Tryz.ntmps16 rfl ?_
 unfold i_NodeState at hp
 replace hp:=dd hp
 refine s2 ?_
 refine bx fun bk1=>?_
 refine al fun bk2=>?_
 refine s5 ?_
 replace hp:=ba hp;obtain ⟨y1,hy1,hp⟩:=hp
 refine L_callX rfl fn32.h rfl (by exact fun w hw=>i_ENodeOk_walk w (a0_1,a0_2,a0_3,a0_4) (RdT.now (RdT.pair RdT.int (RdT.pair RdT.int (RdT.pair (RdT.old h0.2.2.1) (RdT.old h0.2.2.2)))) hw) _ hy1) ?_
 refine s2 ?_
 refine kp [1,2,7] ?_
 refine W_cond rfl (fun q2=>?_) (fun q2=>?_)
 ·replace hp:=cond_t q2 hp
  refine s2 ?_
  refine L_build (xs:=[]) (cs:=[(TL.hdr (TL.nil T_CSet 0)),(TL.hdr (TL.nil T_Said 0))]) rfl rfl bld43.h rfl ?_
  refine s2 ?_
  obtain rfl:=sj hp
  refine W_conv (M':=treeH (TL.nil T_CSet 0)::_) (fun w h=>addNilT (τ:=T_CSet) 0 h) ?_
  refine W_conv (M':=treeH (TL.nil T_Said 0)::_) (fun w h=>addNilT (τ:=T_Said) 0 h) ?_
  refine jW (((TL.nil T_CSet 0),(TL.nil T_Said 0)):T_State) ?_
  refine s1 ?_
  refine res1 rfl (ResOK.cell rfl mm (by exact agg43.h)) ⟨((TL.nil T_CSet 0),(TL.nil T_Said 0)),rfl,rfl,rfl⟩ ms
 ·replace hp:=cond_f q2 hp
  refine s5 ?_
  replace hp:=ba hp;obtain ⟨y3,hy3,hp⟩:=hp
  refine L_callR rfl fn33.h rfl (by exact fun w hw=>i_ExecCmds_walk w a0_3 (RdT.now (RdT.old h0.2.2.1) hw) _ hy3) ?_
  rintro _ _ ⟨y3x0,rfl,rfl,rfl⟩
  refine sc ?_
  replace hp:=dd hp
  replace hp:=ba hp;obtain ⟨y4,hy4,hp⟩:=hp
  refine L_callR rfl fn34.h rfl (by exact fun w hw=>i_StatePlay_walk w y3x0 (RdT.now (RdT.tree mm) hw) _ hy4) ?_
  rintro _ _ ⟨⟨y4x0_1,y4x0_2⟩,y4x1,rfl,rfl,rfl⟩
  refine sc ?_
  replace hp:=dd hp
  refine xL ((y4x0_1,y4x0_2):T_State) ?_
  refine s3 ?_
  refine al fun bk3=>?_
  refine s8 ?_
  obtain rfl:=sj hp
  refine jW ((y4x0_1,y4x0_2):T_State) ?_
  refine s1 ?_
  refine res1 rfl (ResOK.cell rfl mm (by exact agg43.h)) ⟨(y4x0_1,y4x0_2),rfl,rfl,rfl⟩ ms
end Go.Proofs.SL
