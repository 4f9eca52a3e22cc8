/- The texts of the proof, part 14: the base, walks of functions, plain Lean. -/
import Derived.Test.YtipncebebegacaaGreatT12
import Derived.Test.YtipncebebegacaaGreatT13
import Derived.Test.YtipncebebegacaaGreatT8
import Derived.Test.YtipncebebegacaaGreatT7
import Derived.Test.YtipncebebegacaaGreatT6
namespace Go.Proofs.SL
open Go
set_option maxHeartbeats 2000000
abbrev D_CSnap:=ByteArray×ByteArray×(List ByteArray)
abbrev D_CSet:=ByteArray×(List D_CSnap)
abbrev D_Catalog:=(List D_CSet)
instance el63:ElF Tryz.prog 63 69 8 104 [.int .i64 0,.int .i64 0,.int .i64 0,.string ByteArray.empty,.string ByteArray.empty,.string ByteArray.empty,.int .i64 0,.slice none 0 0]:=⟨by kernel_rfl⟩
instance fn48:FnF Tryz.prog 48:=⟨_,Tryz.func48,by kernel_rfl,rfl⟩
instance fn67:FnF Tryz.prog 67:=⟨_,Tryz.func67,by kernel_rfl,rfl⟩
instance fld147_0:FldF Tryz.prog 147 0 0:=⟨by kernel_rfl⟩
instance fld147_1:FldF Tryz.prog 147 1 1:=⟨by kernel_rfl⟩
instance fld147_2:FldF Tryz.prog 147 2 2:=⟨by kernel_rfl⟩
instance fld144_1:FldF Tryz.prog 144 1 1:=⟨by kernel_rfl⟩
instance one142:OneF Tryz.prog 142:=⟨by kernel_rfl⟩
instance el142:ElF Tryz.prog 142 147 3 56 [.string ByteArray.empty,.string ByteArray.empty,.slice none 0 0]:=⟨by kernel_rfl⟩
instance fld41_0:FldF Tryz.prog 41 0 0:=⟨by kernel_rfl⟩
instance one39:OneF Tryz.prog 39:=⟨by kernel_rfl⟩
instance el39:ElF Tryz.prog 39 144 2 40 [.string ByteArray.empty,.slice none 0 0]:=⟨by kernel_rfl⟩
instance agg144:AggF Tryz.prog 144 2:=⟨by kernel_rfl⟩
instance zero144:ZerF Tryz.prog 144 [.string ByteArray.empty,.slice none 0 0]:=⟨by kernel_rfl⟩
instance fld144_0:FldF Tryz.prog 144 0 0:=⟨by kernel_rfl⟩
instance agg147:AggF Tryz.prog 147 3:=⟨by kernel_rfl⟩
instance fn207:FnF Tryz.prog 207:=⟨_,Tryz.func207,by kernel_rfl,rfl⟩
instance fn208:FnF Tryz.prog 208:=⟨_,Tryz.func208,by kernel_rfl,rfl⟩
instance zero41:ZerF Tryz.prog 41 [.slice none 0 0]:=⟨by kernel_rfl⟩
instance bld41:BldF Tryz.prog 41 [(0,1)] [.slice none 0 0]:=⟨by kernel_rfl⟩
instance agg41:AggF Tryz.prog 41 1:=⟨by kernel_rfl⟩
instance bld144:BldF Tryz.prog 144 [(0,1),(1,1)] [.string ByteArray.empty,.slice none 0 0]:=⟨by kernel_rfl⟩
instance zero147:ZerF Tryz.prog 147 [.string ByteArray.empty,.string ByteArray.empty,.slice none 0 0]:=⟨by kernel_rfl⟩
instance fn176:FnF Tryz.prog 176:=⟨_,Tryz.func176,by kernel_rfl,rfl⟩
instance und5:UndF Tryz.prog 5 (.int .u8):=⟨by kernel_rfl⟩
instance el128:ElF Tryz.prog 128 5 1 1 [.int .u8 0]:=⟨by kernel_rfl⟩
instance und128:UndF Tryz.prog 128 (.slice 5):=⟨by kernel_rfl⟩
instance und9:UndF Tryz.prog 9 (.string):=⟨by kernel_rfl⟩
instance bld147:BldF Tryz.prog 147 [(0,1),(1,1),(2,1)] [.string ByteArray.empty,.string ByteArray.empty,.slice none 0 0]:=⟨by kernel_rfl⟩
instance fn219:FnF Tryz.prog 219:=⟨_,Tryz.func219,by kernel_rfl,rfl⟩
instance fn220:FnF Tryz.prog 220:=⟨_,Tryz.func220,by kernel_rfl,rfl⟩
instance fn221:FnF Tryz.prog 221:=⟨_,Tryz.func221,by kernel_rfl,rfl⟩
instance fn145:FnF Tryz.prog 145:=⟨_,Tryz.func145,by kernel_rfl,rfl⟩
instance fn172:FnF Tryz.prog 172:=⟨_,Tryz.func172,by kernel_rfl,rfl⟩
instance fn175:FnF Tryz.prog 175:=⟨_,Tryz.func175,by kernel_rfl,rfl⟩
instance fn177:FnF Tryz.prog 177:=⟨_,Tryz.func177,by kernel_rfl,rfl⟩
noncomputable def s_ExecCmds (a0:List D_Inst):Option (List D_Cmd) :=
 Option.bind (some ([]:List D_Cmd)) (fun y2=>Option.bind (s_ExecOrder a0) (fun y3=>whileP (fun s4:(List D_Cmd)×Int=>cond (decide (s4.2 < (y3.length:Int))) (Option.bind (idx y3 s4.2) (fun y6=>Option.bind (s_InstAt a0 (y6.1,y6.2)) (fun y7=>cond (!decide (y7.2.2.2.2.1.1=0)) (Option.bind (appP s4.1 [(y7.2.2.2.2.1.1,y7.2.2.2.2.1.2.1,y7.2.2.2.2.1.2.2.1,y7.2.2.2.2.1.2.2.2.1,y7.2.2.2.2.1.2.2.2.2.1,y7.2.2.2.2.1.2.2.2.2.2.1,y7.2.2.2.2.1.2.2.2.2.2.2.1,y7.2.2.2.2.1.2.2.2.2.2.2.2)]) (fun y10=>some (.inl ((y10,IntKind.wrap .i64 (s4.2+1)))))) (some (.inl ((s4.1,IntKind.wrap .i64 (s4.2+1)))))))) (Option.map .inr (some s4.1))) (y2,0)))
theorem s_ExecCmds_walk (w:World) (a0:TL T_Inst) (h0:GT.rd w [] a0) (r:(List D_Cmd)) (hp:s_ExecCmds (GT.dat a0)=some r):Spec Tryz.prog 28 [(TL.hdr a0)].toArray w [] (fun v M=>∃ (x0:TL T_Cmd),v=(TL.hdr x0)∧GT.dat x0=r∧M=[treeH x0]):=by
 refine Spec.intro Tryz.func28 rfl Tryz.ntmps28 rfl ?_
 unfold s_ExecCmds at hp
 replace hp:=dd hp
 refine s2 ?_
 refine L_assign (v:=(TL.hdr (TL.nil T_Cmd 0))) rfl rfl ?_
 refine s3 ?_
 replace hp:=ba hp;obtain ⟨y2,hy2,hp⟩:=hp
 refine L_mk0 T_Cmd rfl el63.h (fun X1 hdX1=>?_)
 obtain rfl:GT.dat X1=y2:=hdX1.trans (Option.some.inj hy2)
 clear hy2 hdX1
 refine s5 ?_
 replace hp:=ba hp;obtain ⟨y3,hy3,hp⟩:=hp
 refine L_callR rfl fn48.h rfl (by exact fun w hw=>s_ExecOrder_walk w a0 (RdT.now (RdT.old h0) hw) _ hy3) ?_
 rintro _ _ ⟨y3x0,rfl,rfl,rfl⟩
 refine sc ?_
 replace hp:=dd hp
 refine s8 ?_
 refine W_while (σ:=(TL T_Cmd)×Int) GT.dat (fun ((v4_0,v4_1):(TL T_Cmd)×Int)=>[(3,(TL.hdr v4_0)),(5,.int .i64 v4_1)]) (fun ((v4_0,v4_1):(TL T_Cmd)×Int)=>[treeH v4_0]) [(0,_),(4,_)] [treeH y3x0] (X1,0) hp sb ms ?_
 clear hp
 rintro ⟨v4_0,v4_1⟩ x4 hp hx4
 replace hp:=dd hp
 refine kq [0,3,4,5] ?_
 refine s8 ?_
 refine kp [0,3,4,5,13] ?_
 refine W_cond rfl (fun q5=>?_) (fun q5=>?_)
 ·replace hp:=cond_t q5 hp
  refine s8 ?_
  replace hp:=idx_bind hp;obtain ⟨⟨u6_1,u6_2⟩,hy6,hp⟩:=hp
  refine L_idxA (X:=y3x0) rfl rfl rfl el85.h (RdT.tree mm) hy6 ?_
  refine L_loadW rfl rfl (RdT.at (RdT.tree mm) (hy6).2) (by exact agg92.h) ?_
  replace hp:=ba hp;obtain ⟨y7,hy7,hp⟩:=hp
  refine L_callR rfl fn67.h rfl (by exact fun w hw=>s_InstAt_walk w a0 (u6_1,u6_2) (RdT.now (RdT.old h0) hw) (RdT.now (RdT.pair RdT.int RdT.int) hw) _ hy7) ?_
  rintro _ _ ⟨⟨⟨y7x0_1,y7x0_2⟩,y7x0_3,y7x0_4,y7x0_5,⟨y7x0_6,y7x0_7,y7x0_8,y7x0_9,y7x0_10,y7x0_11,y7x0_12,y7x0_13⟩,y7x0_14,y7x0_15,y7x0_16⟩,rfl,rfl,rfl⟩
  refine sc ?_
  replace hp:=dd hp
  refine xL (((y7x0_1,y7x0_2),y7x0_3,y7x0_4,y7x0_5,(y7x0_6,y7x0_7,y7x0_8,y7x0_9,y7x0_10,y7x0_11,y7x0_12,y7x0_13),y7x0_14,y7x0_15,y7x0_16):T_Inst) ?_
  refine L_fieldA (us:=[.int .i64 y7x0_6,.int .i64 y7x0_7,.int .i64 y7x0_8,.string y7x0_9,.string y7x0_10,.string y7x0_11,.int .i64 y7x0_12,(TL.hdr y7x0_13)]) rfl rfl (show fldA _ 111 4=some (5,8) by kernel_rfl) rfl ?_
  refine al fun bk6=>?_
  refine s8 ?_
  refine kp [0,3,4,5,6,25] ?_
  refine W_cond rfl (fun q8=>?_) (fun q8=>?_)
  ·replace hp:=cond_t q8 hp
   refine s3 ?_
   refine L_buildSlice1 rfl rfl el63.h rfl (by decide) (by decide) rfl (fun bb28=>?_)
   replace hp:=ba hp;obtain ⟨y10,hy10,hp⟩:=hp
   refine jL ((y7x0_6,y7x0_7,y7x0_8,y7x0_9,y7x0_10,y7x0_11,y7x0_12,y7x0_13):T_Cmd) ?_
   refine L_app1m (X:=v4_0) ((y7x0_6,y7x0_7,y7x0_8,y7x0_9,y7x0_10,y7x0_11,y7x0_12,y7x0_13):T_Cmd) rfl rfl rfl el63.h rfl rfl pk mm pk hy10 (by decide) (fun X9 hdX9 hmX9=>?_)
   subst hdX9
   refine s7 ?_
   exact ⟨(X9,IntKind.wrap .i64 (v4_1+1)),sb,(.sub ms),some_eq hp⟩
  ·replace hp:=cond_f q8 hp
   refine s6 ?_
   exact ⟨(v4_0,IntKind.wrap .i64 (v4_1+1)),sb,(.sub ms),some_eq hp⟩
 ·replace hp:=cond_f q5 hp
  refine W_exit ?_
  replace hp:=map_any hp;obtain ⟨a11,hp,z_11⟩:=hp
  obtain rfl:=hx4 _ z_11
  refine s5 ?_
  obtain rfl:=sj hp
  refine s1 ?_
  refine res1 rfl (ResOK.tmp rfl) ⟨v4_0,rfl,rfl,rfl⟩ ms
noncomputable def s_l15Snap (a0:D_CSnap):Option Bool :=
 Option.bind (s_l4Word a0.1) (fun y1=>gb ((!(!y1))&&(!decide (a0.2.1=ByteArray.empty))) (s_l4Word a0.2.1) (fun y2=>gb (!((!y1)||((!decide (a0.2.1=ByteArray.empty))&&(!y2)))) (s_l1In (a0.2.2.length:Int) 1 4) (fun y3=>cond (((!y1)||((!decide (a0.2.1=ByteArray.empty))&&(!y2)))||(!y3)) (some false) (whileP (fun s5:Int=>cond (decide (s5 < (a0.2.2.length:Int))) (Option.bind (idx a0.2.2 s5) (fun y7=>cond (!decide ((y7.size:Int)=8)) (Option.map .inr (some false)) (some (.inl (IntKind.wrap .i64 (s5+1)))))) (Option.map .inr (some true))) 0))))
theorem s_l15Snap_walk (w:World) (a0:T_CSnap) (h0:GT.rd w [] a0) (r:Bool) (hp:s_l15Snap (GT.dat a0)=some r):Spec Tryz.prog 207 [.agg (GT.cells a0).toArray].toArray w [] (IsV (.bool r)):=by
 obtain ⟨a0_1,a0_2,a0_3⟩:=a0
 change Spec _ _ ([Value.agg #[.string a0_1,.string a0_2,(TL.hdr a0_3)]]:List Value).toArray w [] _
 refine Spec.intro Tryz.func207 rfl Tryz.ntmps207 rfl ?_
 unfold s_l15Snap at hp
 replace hp:=dd hp
 refine s2 ?_
 refine bx fun bk1=>?_
 refine s4 ?_
 replace hp:=ba hp;obtain ⟨y1,hy1,hp⟩:=hp
 replace hp:=gb_any hp;obtain ⟨y2,hy2,hp⟩:=hp
 replace hp:=gb_any hp;obtain ⟨y3,hy3,hp⟩:=hp
 refine W_D0 [25] mix (by kernel_rfl) rfl ?_
 refine s2 ?_
 refine D_callX GC.none fn206.h (OpVs.cons (OpV.t rfl) (OpVs.nil)) (by exact fun hg w F hF hM=>s_l4Word_walk w a0_1  _ hy1) ?_
 refine s8 ?_
 refine D_callX (GC.some rfl rfl) fn206.h (OpVs.cons (OpV.s rfl) (OpVs.nil)) (by exact fun hg w F hF hM=>s_l4Word_walk w a0_2  _ (hy2 (gand (gnot hg.1.2) hg.2))) ?_
 refine s6 ?_
 refine D_lenP (X:=a0_3) (GC.some rfl rfl) (OpV.s rfl) el65.h ?_
 refine D_callX (GC.some rfl rfl) fn63.h (OpVs.cons (OpV.s rfl) (OpVs.cons OpV.c (OpVs.cons OpV.c (OpVs.nil)))) (by exact fun hg w F hF hM=>s_l1In_walk w ((GT.dat a0_3).length:Int) 1 4  _ (hy3 (gnot hg.2))) ?_
 refine s20 ?_
 refine s6 ?_
 refine kp [1,25] ?_
 refine W_cond rfl (fun q4=>?_) (fun q4=>?_)
 ·replace hp:=cond_t q4 hp
  refine s4 ?_
  obtain rfl:=sj hp
  refine s1 ?_
  refine res1 rfl (ResOK.tmp rfl) ⟨rfl,rfl⟩ ms
 ·replace hp:=cond_f q4 hp
  refine s7 ?_
  refine W_while (σ:=Int) GT.dat (fun (v5_0:Int)=>[(3,.int .i64 v5_0)]) (fun (v5_0:Int)=>[]) [(1,_)] [blk bk1 _ _] 0 hp sb ms ?_
  clear hp
  rintro v5_0 x5 hp hx5
  replace hp:=dd hp
  refine kq [1,3] ?_
  refine s9 ?_
  refine kp [1,3,30] ?_
  refine W_cond rfl (fun q6=>?_) (fun q6=>?_)
  ·replace hp:=cond_t q6 hp
   refine s8 ?_
   replace hp:=idx_bind hp;obtain ⟨u7,hy7,hp⟩:=hp
   refine L_idxA (X:=a0_3) rfl rfl rfl el65.h (RdT.old h0.2.2) hy7 ?_
   refine L_load0 rfl rfl (RdT.at (RdT.old h0.2.2) (hy7).2) one9.h rfl ?_
   refine s3 ?_
   refine kp [1,3,39] ?_
   refine W_cond rfl (fun q8=>?_) (fun q8=>?_)
   ·replace hp:=cond_t q8 hp
    refine s4 ?_
    replace hp:=map_any hp;obtain ⟨a9,hp,z_9⟩:=hp
    obtain rfl:=hx5 _ z_9
    obtain rfl:=sj hp
    refine s1 ?_
    refine res1 rfl (ResOK.tmp rfl) ⟨rfl,rfl⟩ ms
   ·replace hp:=cond_f q8 hp
    refine s6 ?_
    exact ⟨IntKind.wrap .i64 (v5_0+1),sb,(.sub ms),some_eq hp⟩
  ·replace hp:=cond_f q6 hp
   refine W_exit ?_
   replace hp:=map_any hp;obtain ⟨a10,hp,z_10⟩:=hp
   obtain rfl:=hx5 _ z_10
   refine s4 ?_
   obtain rfl:=sj hp
   refine s1 ?_
   refine res1 rfl (ResOK.tmp rfl) ⟨rfl,rfl⟩ ms
noncomputable def s_l15Find (a0:D_CSet) (a1:ByteArray):Option Int :=
 whileP (fun s1:Int=>cond (decide (s1 < (a0.2.length:Int))) (Option.bind (idx a0.2 s1) (fun y3=>cond (decide (y3.1=a1)) (Option.map .inr (some s1)) (some (.inl (IntKind.wrap .i64 (s1+1)))))) (Option.map .inr (some (-1)))) 0
theorem s_l15Find_walk (w:World) (a0:T_CSet) (a1:ByteArray) (h0:GT.rd w [] a0) (r:Int) (hp:s_l15Find (GT.dat a0) a1=some r):Spec Tryz.prog 208 [.agg (GT.cells a0).toArray,.string a1].toArray w [] (IsV (.int .i64 r)):=by
 obtain ⟨a0_1,a0_2⟩:=a0
 change Spec _ _ ([Value.agg #[.string a0_1,(TL.hdr a0_2)],.string a1]:List Value).toArray w [] _
 refine Spec.intro Tryz.func208 rfl Tryz.ntmps208 rfl ?_
 unfold s_l15Find at hp
 replace hp:=dd hp
 refine s2 ?_
 refine bx fun bk2=>?_
 refine s8 ?_
 refine W_while (σ:=Int) GT.dat (fun (v1_0:Int)=>[(5,.int .i64 v1_0)]) (fun (v1_0:Int)=>[]) [(1,_),(2,_)] [blk bk2 _ _] 0 hp sb ms ?_
 clear hp
 rintro v1_0 x1 hp hx1
 replace hp:=dd hp
 refine kq [1,2,5] ?_
 refine s9 ?_
 refine kp [1,2,5,10] ?_
 refine W_cond rfl (fun q2=>?_) (fun q2=>?_)
 ·replace hp:=cond_t q2 hp
  refine s8 ?_
  replace hp:=idx_bind hp;obtain ⟨⟨u3_1,u3_2,u3_3⟩,hy3,hp⟩:=hp
  refine L_idxA (X:=a0_2) rfl rfl rfl el142.h (RdT.old h0.2) hy3 ?_
  refine s1 ?_
  refine L_load rfl rfl (RdT.at (RdT.old h0.2) (hy3).2) one9.h rfl ?_
  refine s3 ?_
  refine kp [1,2,5,20] ?_
  refine W_cond rfl (fun q4=>?_) (fun q4=>?_)
  ·replace hp:=cond_t q4 hp
   refine s5 ?_
   replace hp:=map_any hp;obtain ⟨a5,hp,z_5⟩:=hp
   obtain rfl:=hx1 _ z_5
   obtain rfl:=sj hp
   refine s1 ?_
   refine res1 rfl (ResOK.tmp rfl) ⟨rfl,rfl⟩ ms
  ·replace hp:=cond_f q4 hp
   refine s6 ?_
   exact ⟨IntKind.wrap .i64 (v1_0+1),sb,(.sub ms),some_eq hp⟩
 ·replace hp:=cond_f q2 hp
  refine W_exit ?_
  replace hp:=map_any hp;obtain ⟨a6,hp,z_6⟩:=hp
  obtain rfl:=hx1 _ z_6
  refine s4 ?_
  obtain rfl:=sj hp
  refine s1 ?_
  refine res1 rfl (ResOK.tmp rfl) ⟨rfl,rfl⟩ ms
noncomputable def s_CatOk (a0:D_Catalog):Option Bool :=
 cond (decide (5 < (a0.length:Int))) (some false) (whileP (fun s2:Int=>cond (decide (s2 < (a0.length:Int))) (Option.bind (idx a0 s2) (fun y4=>Option.bind (s_l4Word y4.1) (fun y5=>gb ((!(!y5))&&(decide (0 < s2))) (idx a0 (IntKind.wrap .i64 (s2 - 1))) (fun y6=>cond (((!y5)||((decide (0 < s2))&&(!sLt y6.1 y4.1)))||(decide (5 < (y4.2.length:Int)))) (Option.map .inr (some false)) (whileP (fun s9:Int=>cond (decide (s9 < (y4.2.length:Int))) (Option.bind (idx y4.2 s9) (fun y11=>Option.bind (s_l15Snap (y11.1,y11.2.1,y11.2.2)) (fun y12=>gb (!(!y12)) (idx y4.2 s9) (fun y13=>gb (!(!y12)) (s_l15Find (y4.1,y4.2) y13.1) (fun y14=>cond ((!y12)||(!decide (y14=s9))) (Option.map .inr (Option.map .inr (some false))) (some (.inl (IntKind.wrap .i64 (s9+1))))))))) (Option.map .inr (some (.inl (IntKind.wrap .i64 (s2+1)))))) 0))))) (Option.map .inr (some true))) 0)
theorem s_CatOk_walk (w:World) (a0:T_Catalog) (h0:GT.rd w [] a0) (r:Bool) (hp:s_CatOk (GT.dat a0)=some r):Spec Tryz.prog 145 [.agg (GT.cells a0).toArray].toArray w [] (IsV (.bool r)):=by
 change Spec _ _ ([Value.agg #[(TL.hdr a0)]]:List Value).toArray w [] _
 refine Spec.intro Tryz.func145 rfl Tryz.ntmps145 rfl ?_
 unfold s_CatOk at hp
 replace hp:=dd hp
 refine s2 ?_
 refine bx fun bk1=>?_
 refine s10 ?_
 refine kp [1,9] ?_
 refine W_cond rfl (fun q1=>?_) (fun q1=>?_)
 ·replace hp:=cond_t q1 hp
  refine s4 ?_
  obtain rfl:=sj hp
  refine s1 ?_
  refine res1 rfl (ResOK.tmp rfl) ⟨rfl,rfl⟩ ms
 ·replace hp:=cond_f q1 hp
  refine s7 ?_
  refine W_while (σ:=Int) GT.dat (fun (v2_0:Int)=>[(3,.int .i64 v2_0)]) (fun (v2_0:Int)=>[]) [(1,_)] [blk bk1 _ _] 0 hp sb ms ?_
  clear hp
  rintro v2_0 x2 hp hx2
  replace hp:=dd hp
  refine kq [1,3] ?_
  refine s9 ?_
  refine kp [1,3,14] ?_
  refine W_cond rfl (fun q3=>?_) (fun q3=>?_)
  ·replace hp:=cond_t q3 hp
   refine s8 ?_
   replace hp:=idx_bind hp;obtain ⟨⟨u4_1,u4_2⟩,hy4,hp⟩:=hp
   refine L_idxA (X:=a0) rfl rfl rfl el39.h (RdT.old h0) hy4 ?_
   refine L_loadW rfl rfl (RdT.at (RdT.old h0) (hy4).2) (by exact agg144.h) ?_
   refine al fun bk4=>?_
   refine s4 ?_
   replace hp:=ba hp;obtain ⟨y5,hy5,hp⟩:=hp
   replace hp:=idx_gb hp;obtain ⟨⟨u6_1,u6_2⟩,hy6,hp⟩:=hp
   refine W_D0 [47] mix (by kernel_rfl) rfl ?_
   refine s2 ?_
   refine D_callX GC.none fn206.h (OpVs.cons (OpV.t rfl) (OpVs.nil)) (by exact fun hg w F hF hM=>s_l4Word_walk w u4_1  _ hy5) ?_
   refine s9 ?_
   refine D_idxA (X:=a0) (GC.some rfl rfl) (OpV.s rfl) (OpV.s rfl) el39.h (RdT.old h0) (fun hg=>hy6 (gand (gnot hg.1.2) hg.2)) ?_
   refine s1 ?_
   refine D_load (GC.some rfl rfl) (OpV.s rfl) (fun hg=>RdT.at (RdT.old h0) (hy6 (gand (gnot hg.1.2) hg.2)).2) one9.h rfl ?_
   refine s8 ?_
   refine D_lenP (X:=u4_2) (GC.some rfl rfl) (OpV.s rfl) el142.h ?_
   refine s20 ?_
   refine s10 ?_
   refine kp [1,3,4,47] ?_
   refine W_cond rfl (fun q7=>?_) (fun q7=>?_)
   ·replace hp:=cond_t q7 hp
    refine s4 ?_
    replace hp:=map_any hp;obtain ⟨a8,hp,z_8⟩:=hp
    obtain rfl:=hx2 _ z_8
    obtain rfl:=sj hp
    refine s1 ?_
    refine res1 rfl (ResOK.tmp rfl) ⟨rfl,rfl⟩ ms
   ·replace hp:=cond_f q7 hp
    refine s6 ?_
    refine W_while (σ:=Int) GT.dat (fun (v9_0:Int)=>[(5,.int .i64 v9_0)]) (fun (v9_0:Int)=>[]) [(1,_),(3,_),(4,_)] [blk bk1 _ _,blk bk4 _ _] 0 hp sb ms ?_
    clear hp
    rintro v9_0 x9 hp hx9
    replace hp:=dd hp
    refine kq [1,3,4,5] ?_
    refine s9 ?_
    refine kp [1,3,4,5,52] ?_
    refine W_cond rfl (fun q10=>?_) (fun q10=>?_)
    ·replace hp:=cond_t q10 hp
     refine s4 ?_
     replace hp:=idx_bind hp;obtain ⟨⟨u11_1,u11_2,u11_3⟩,hy11,hp⟩:=hp
     replace hp:=ba hp;obtain ⟨y12,hy12,hp⟩:=hp
     replace hp:=idx_gb hp;obtain ⟨⟨u13_1,u13_2,u13_3⟩,hy13,hp⟩:=hp
     replace hp:=gb_any hp;obtain ⟨y14,hy14,hp⟩:=hp
     refine W_D0 [73] mix (by kernel_rfl) rfl ?_
     refine s3 ?_
     refine D_idxA (X:=u4_2) GC.none (OpV.t rfl) (OpV.t rfl) el142.h (RdT.snd (RdT.of (RdT.old h0) (hy4).2)) (fun _=>hy11) ?_
     refine D_loadW GC.none (OpV.t rfl) (fun hg=>RdT.at (RdT.snd (RdT.of (RdT.old h0) (hy4).2)) (hy11).2) (by exact agg147.h) ?_
     refine D_callX GC.none fn207.h (OpVs.cons (OpV.t rfl) (OpVs.nil)) (by exact fun hg w F hF hM=>s_l15Snap_walk w (u11_1,u11_2,u11_3) (RdT.nowS (RdT.pair RdT.str (RdT.pair RdT.str (RdT.snd (RdT.snd (RdT.of (RdT.snd (RdT.of (RdT.old h0) (hy4).2)) (hy11).2))))) hF hM) _ hy12) ?_
     refine s6 ?_
     refine D_idxA (X:=u4_2) (GC.some rfl rfl) (OpV.s rfl) (OpV.s rfl) el142.h (RdT.snd (RdT.of (RdT.old h0) (hy4).2)) (fun hg=>hy13 (gnot hg.2)) ?_
     refine s1 ?_
     refine D_load (GC.some rfl rfl) (OpV.s rfl) (fun hg=>RdT.at (RdT.snd (RdT.of (RdT.old h0) (hy4).2)) (hy13 (gnot hg.2)).2) one9.h rfl ?_
     refine D_callX (GC.some rfl rfl) fn208.h (OpVs.cons (OpV.s rfl) (OpVs.cons (OpV.s rfl) (OpVs.nil))) (by exact fun hg w F hF hM=>s_l15Find_walk w (u4_1,u4_2) u13_1 (RdT.nowS (RdT.pair RdT.str (RdT.snd (RdT.of (RdT.old h0) (hy4).2))) hF hM) _ (hy14 (gnot hg.2))) ?_
     refine s20 ?_
     refine s4 ?_
     refine kp [1,3,4,5,73] ?_
     refine W_cond rfl (fun q15=>?_) (fun q15=>?_)
     ·replace hp:=cond_t q15 hp
      refine s4 ?_
      replace hp:=map_any hp;obtain ⟨a16,hp,z_16⟩:=hp
      obtain rfl:=hx9 _ z_16
      replace hp:=map_any hp;obtain ⟨a17,hp,z_17⟩:=hp
      obtain rfl:=hx2 _ z_17
      obtain rfl:=sj hp
      refine s1 ?_
      refine res1 rfl (ResOK.tmp rfl) ⟨rfl,rfl⟩ ms
     ·replace hp:=cond_f q15 hp
      refine s6 ?_
      exact ⟨IntKind.wrap .i64 (v9_0+1),sb,(.sub ms),some_eq hp⟩
    ·replace hp:=cond_f q10 hp
     refine W_exit ?_
     replace hp:=map_any hp;obtain ⟨a18,hp,z_18⟩:=hp
     obtain rfl:=hx9 _ z_18
     refine s5 ?_
     exact ⟨IntKind.wrap .i64 (v2_0+1),sb,(.sub ms),some_eq hp⟩
  ·replace hp:=cond_f q3 hp
   refine W_exit ?_
   replace hp:=map_any hp;obtain ⟨a19,hp,z_19⟩:=hp
   obtain rfl:=hx2 _ z_19
   refine s4 ?_
   obtain rfl:=sj hp
   refine s1 ?_
   refine res1 rfl (ResOK.tmp rfl) ⟨rfl,rfl⟩ ms
noncomputable def s_l15Copy (a0:D_Catalog):Option D_Catalog :=
 whileP (fun s1:Int×(List D_CSet)=>cond (decide (s1.1 < (a0.length:Int))) (Option.bind (idx a0 s1.1) (fun y3=>whileP (fun s4:Int×(List D_CSnap)=>Option.bind (idx a0 s1.1) (fun y5=>cond (decide (s4.1 < (y5.2.length:Int))) (Option.bind (idx a0 s1.1) (fun y7=>Option.bind (idx y7.2 s4.1) (fun y8=>Option.bind (some ([]:List ByteArray)) (fun y10=>Option.bind (appP y10 y8.2.2) (fun y12=>Option.bind (appP s4.2 [(y8.1,y8.2.1,y12)]) (fun y14=>some (.inl ((IntKind.wrap .i64 (s4.1+1),y14))))))))) (Option.map .inr (Option.bind (appP s1.2 [(y3.1,s4.2)]) (fun y17=>some (.inl ((IntKind.wrap .i64 (s1.1+1),y17)))))))) (0,([]:List D_CSnap)))) (Option.map .inr (some s1.2))) (0,([]:List D_CSet))
theorem s_l15Copy_walk (w:World) (a0:T_Catalog) (h0:GT.rd w [] a0) (r:D_Catalog) (hp:s_l15Copy (GT.dat a0)=some r):Spec Tryz.prog 172 [.agg (GT.cells a0).toArray].toArray w [] (fun v M=>∃ (x0:T_Catalog),v=.agg (GT.cells x0).toArray∧GT.dat x0=r∧M=[treeH x0]):=by
 change Spec _ _ ([Value.agg #[(TL.hdr a0)]]:List Value).toArray w [] _
 refine Spec.intro Tryz.func172 rfl Tryz.ntmps172 rfl ?_
 unfold s_l15Copy at hp
 replace hp:=dd hp
 refine s2 ?_
 refine bx fun bk1=>?_
 refine al fun bk2=>?_
 refine s3 ?_
 refine L_build (xs:=[]) (cs:=[(TL.hdr (TL.nil T_CSet 0))]) rfl rfl bld41.h rfl ?_
 refine al fun bk3=>?_
 refine s8 ?_
 refine W_conv (M':=treeH (TL.nil T_CSet 0)::_) (fun w h=>addNilT (τ:=T_CSet) 0 h) ?_
 refine W_while (σ:=Int×(TL T_CSet)) GT.dat (fun ((v1_0,v1_1):Int×(TL T_CSet))=>[(4,.int .i64 v1_0)]) (fun ((v1_0,v1_1):Int×(TL T_CSet))=>[blk bk3 [(TL.hdr v1_1)] 41,treeH v1_1]) [(1,_),(2,_),(3,_)] [blk bk1 _ _,blk bk2 _ _] (0,(TL.nil T_CSet 0)) hp sb ms ?_
 clear hp
 rintro ⟨v1_0,v1_1⟩ x1 hp hx1
 replace hp:=dd hp
 refine kq [1,2,3,4] ?_
 refine s9 ?_
 refine kp [1,2,3,4,13] ?_
 refine W_cond rfl (fun q2=>?_) (fun q2=>?_)
 ·replace hp:=cond_t q2 hp
  refine s8 ?_
  replace hp:=idx_bind hp;obtain ⟨⟨u3_1,u3_2⟩,hy3,hp⟩:=hp
  refine L_idxA (X:=a0) rfl rfl rfl el39.h (RdT.old h0) hy3 ?_
  refine s1 ?_
  refine L_load rfl rfl (RdT.at (RdT.old h0) (hy3).2) one9.h rfl ?_
  refine L_build (xs:=[(0,.tmp 21)]) (cs:=[.string u3_1,(TL.hdr (TL.nil T_CSnap 0))]) rfl rfl bld144.h rfl ?_
  refine al fun bk5=>?_
  refine s8 ?_
  refine W_conv (M':=treeH (TL.nil T_CSnap 0)::_) (fun w h=>addNilT (τ:=T_CSnap) 0 h) ?_
  refine W_while (σ:=Int×(TL T_CSnap)) GT.dat (fun ((v4_0,v4_1):Int×(TL T_CSnap))=>[(6,.int .i64 v4_0)]) (fun ((v4_0,v4_1):Int×(TL T_CSnap))=>[blk bk5 [.string u3_1,(TL.hdr v4_1)] 144,treeH v4_1]) [(1,_),(2,_),(3,_),(4,_),(5,_)] [blk bk1 _ _,blk bk2 _ _,blk bk3 _ _,treeH v1_1] (0,(TL.nil T_CSnap 0)) hp sb ms ?_
  clear hp
  rintro ⟨v4_0,v4_1⟩ x4 hp hx4
  replace hp:=dd hp
  refine kq [1,2,3,4,5,6] ?_
  refine s7 ?_
  replace hp:=idx_bind hp;obtain ⟨u5,hy5,hp⟩:=hp
  obtain rfl:(u3_1,u3_2)=u5:=Option.some.inj (hy3.2.symm.trans hy5.2)
  refine L_idxA (X:=a0) rfl rfl rfl el39.h (RdT.old h0) hy3 ?_
  refine s1 ?_
  refine L_load rfl rfl (RdT.at (RdT.old h0) (hy3).2) one142.h rfl ?_
  refine s3 ?_
  refine kp [1,2,3,4,5,6,31] ?_
  refine W_cond rfl (fun q6=>?_) (fun q6=>?_)
  ·replace hp:=cond_t q6 hp
   refine s8 ?_
   replace hp:=idx_bind hp;obtain ⟨u7,hy7,hp⟩:=hp
   obtain rfl:(u3_1,u3_2)=u7:=Option.some.inj (hy3.2.symm.trans hy7.2)
   refine L_idxA (X:=a0) rfl rfl rfl el39.h (RdT.old h0) hy3 ?_
   refine s1 ?_
   refine L_load rfl rfl (RdT.at (RdT.old h0) (hy3).2) one142.h rfl ?_
   refine s1 ?_
   replace hp:=idx_bind hp;obtain ⟨⟨u8_1,u8_2,u8_3⟩,hy8,hp⟩:=hp
   refine L_idxA (X:=u3_2) rfl rfl rfl el142.h (RdT.snd (RdT.of (RdT.old h0) (hy3).2)) hy8 ?_
   refine L_loadW rfl rfl (RdT.at (RdT.snd (RdT.of (RdT.old h0) (hy3).2)) (hy8).2) (by exact agg147.h) ?_
   refine al fun bk7=>?_
   refine s4 ?_
   replace hp:=ba hp;obtain ⟨y10,hy10,hp⟩:=hp
   refine L_mk0 ByteArray rfl el65.h (fun X9 hdX9=>?_)
   obtain rfl:GT.dat X9=y10:=hdX9.trans (Option.some.inj hy10)
   clear hy10 hdX9
   refine s2 ?_
   replace hp:=ba hp;obtain ⟨y12,hy12,hp⟩:=hp
   refine L_appT (X:=X9) (Y:=u8_3) rfl rfl rfl el65.h rfl rfl pk (RdT.snd (RdT.snd (RdT.of (RdT.snd (RdT.of (RdT.old h0) (hy3).2)) (hy8).2))) hy12 (by decide) (fun X11 hdX11=>?_)
   subst hdX11
   refine s7 ?_
   refine L_buildSlice1 rfl rfl el142.h rfl (by decide) (by decide) rfl (fun bb51=>?_)
   replace hp:=ba hp;obtain ⟨y14,hy14,hp⟩:=hp
   refine jL ((u8_1,u8_2,X11):T_CSnap) ?_
   refine L_app1m (X:=v4_1) ((u8_1,u8_2,X11):T_CSnap) rfl rfl rfl el142.h rfl rfl pk mm pk hy14 (by decide) (fun X13 hdX13 hmX13=>?_)
   subst hdX13
   refine s8 ?_
   exact ⟨(IntKind.wrap .i64 (v4_0+1),X13),sb,(.sub ms),some_eq hp⟩
  ·replace hp:=cond_f q6 hp
   refine W_exit ?_
   replace hp:=map_any hp;obtain ⟨a15,hp,z_15⟩:=hp
   obtain rfl:=hx4 _ z_15
   refine s4 ?_
   refine L_buildSlice1 rfl rfl el39.h rfl (by decide) (by decide) rfl (fun bb57=>?_)
   replace hp:=ba hp;obtain ⟨y17,hy17,hp⟩:=hp
   refine jL ((u3_1,v4_1):T_CSet) ?_
   refine L_app1m (X:=v1_1) ((u3_1,v4_1):T_CSet) rfl rfl rfl el39.h rfl rfl pk mm pk hy17 (by decide) (fun X16 hdX16 hmX16=>?_)
   subst hdX16
   refine s8 ?_
   exact ⟨(IntKind.wrap .i64 (v1_0+1),X16),sb,(.sub ms),some_eq hp⟩
 ·replace hp:=cond_f q2 hp
  refine W_exit ?_
  replace hp:=map_any hp;obtain ⟨a18,hp,z_18⟩:=hp
  obtain rfl:=hx1 _ z_18
  refine s5 ?_
  obtain rfl:=sj hp
  refine s1 ?_
  refine res1 rfl (ResOK.cell rfl mm (by exact agg41.h)) ⟨v1_1,rfl,rfl,rfl⟩ ms
noncomputable def s_l15At (a0:D_Catalog) (a1:ByteArray):Option Int :=
 whileP (fun s1:Int=>cond (decide (s1 < (a0.length:Int))) (Option.bind (idx a0 s1) (fun y3=>cond (decide (y3.1=a1)) (Option.map .inr (some s1)) (some (.inl (IntKind.wrap .i64 (s1+1)))))) (Option.map .inr (some (-1)))) 0
theorem s_l15At_walk (w:World) (a0:T_Catalog) (a1:ByteArray) (h0:GT.rd w [] a0) (r:Int) (hp:s_l15At (GT.dat a0) a1=some r):Spec Tryz.prog 176 [.agg (GT.cells a0).toArray,.string a1].toArray w [] (IsV (.int .i64 r)):=by
 change Spec _ _ ([Value.agg #[(TL.hdr a0)],.string a1]:List Value).toArray w [] _
 refine Spec.intro Tryz.func176 rfl Tryz.ntmps176 rfl ?_
 unfold s_l15At at hp
 replace hp:=dd hp
 refine s2 ?_
 refine bx fun bk2=>?_
 refine s8 ?_
 refine W_while (σ:=Int) GT.dat (fun (v1_0:Int)=>[(5,.int .i64 v1_0)]) (fun (v1_0:Int)=>[]) [(1,_),(2,_)] [blk bk2 _ _] 0 hp sb ms ?_
 clear hp
 rintro v1_0 x1 hp hx1
 replace hp:=dd hp
 refine kq [1,2,5] ?_
 refine s9 ?_
 refine kp [1,2,5,10] ?_
 refine W_cond rfl (fun q2=>?_) (fun q2=>?_)
 ·replace hp:=cond_t q2 hp
  refine s8 ?_
  replace hp:=idx_bind hp;obtain ⟨⟨u3_1,u3_2⟩,hy3,hp⟩:=hp
  refine L_idxA (X:=a0) rfl rfl rfl el39.h (RdT.old h0) hy3 ?_
  refine s1 ?_
  refine L_load rfl rfl (RdT.at (RdT.old h0) (hy3).2) one9.h rfl ?_
  refine s3 ?_
  refine kp [1,2,5,20] ?_
  refine W_cond rfl (fun q4=>?_) (fun q4=>?_)
  ·replace hp:=cond_t q4 hp
   refine s5 ?_
   replace hp:=map_any hp;obtain ⟨a5,hp,z_5⟩:=hp
   obtain rfl:=hx1 _ z_5
   obtain rfl:=sj hp
   refine s1 ?_
   refine res1 rfl (ResOK.tmp rfl) ⟨rfl,rfl⟩ ms
  ·replace hp:=cond_f q4 hp
   refine s6 ?_
   exact ⟨IntKind.wrap .i64 (v1_0+1),sb,(.sub ms),some_eq hp⟩
 ·replace hp:=cond_f q2 hp
  refine W_exit ?_
  replace hp:=map_any hp;obtain ⟨a6,hp,z_6⟩:=hp
  obtain rfl:=hx1 _ z_6
  refine s4 ?_
  obtain rfl:=sj hp
  refine s1 ?_
  refine res1 rfl (ResOK.tmp rfl) ⟨rfl,rfl⟩ ms
noncomputable def s_l15Create (a0:D_Catalog) (a1:ByteArray):Option (D_Catalog×ByteArray) :=
 Option.bind (s_l15At a0 a1) (fun y1=>cond (decide (0≤y1)) (some (a0,(ByteArray.mk #[101,120,105,115,116,115]))) (cond (decide (5≤(a0.length:Int))) (some (a0,(ByteArray.mk #[102,117,108,108]))) (Option.bind (some ([]:List D_CSet)) (fun y5=>whileP (fun s6:(List D_CSet)×Bool×Int=>cond (decide (s6.2.2 < (a0.length:Int))) (gb (!s6.2.1) (idx a0 s6.2.2) (fun y8=>cond ((!s6.2.1)&&(!sLt y8.1 a1&&!decide (y8.1=a1))) (Option.bind (appP s6.1 [(a1,([]:List D_CSnap))]) (fun y11=>Option.bind (idx a0 s6.2.2) (fun y12=>Option.bind (appP y11 [(y12.1,y12.2)]) (fun y14=>some (.inl ((y14,true,IntKind.wrap .i64 (s6.2.2+1)))))))) (Option.bind (idx a0 s6.2.2) (fun y15=>Option.bind (appP s6.1 [(y15.1,y15.2)]) (fun y17=>some (.inl ((y17,s6.2.1,IntKind.wrap .i64 (s6.2.2+1))))))))) (Option.map .inr (cond (!s6.2.1) (Option.bind (appP s6.1 [(a1,([]:List D_CSnap))]) (fun y21=>some (y21,(ByteArray.mk #[111,107])))) (some (s6.1,(ByteArray.mk #[111,107])))))) (y5,false,0)))))
theorem s_l15Create_walk (w:World) (a0:T_Catalog) (a1:ByteArray)  (r:D_Catalog×ByteArray) (hp:s_l15Create (GT.dat a0) a1=some r):Spec Tryz.prog 175 [.agg (GT.cells a0).toArray,.string a1].toArray w [treeH a0] (fun v M=>∃ (x0:T_Catalog) (x1:ByteArray),v=.tuple #[.agg (GT.cells x0).toArray,.string x1]∧(GT.dat x0,GT.dat x1)=r∧M=[treeH x0]):=by
 change Spec _ _ ([Value.agg #[(TL.hdr a0)],.string a1]:List Value).toArray w _ _
 refine Spec.intro Tryz.func175 rfl Tryz.ntmps175 rfl ?_
 unfold s_l15Create at hp
 replace hp:=dd hp
 refine s2 ?_
 refine bx fun bk2=>?_
 refine al fun bk4=>?_
 refine s7 ?_
 replace hp:=ba hp;obtain ⟨y1,hy1,hp⟩:=hp
 refine L_callX rfl fn176.h rfl (by exact fun w hw=>s_l15At_walk w a0 a1 (RdT.now (RdT.tree mm) hw) _ hy1) ?_
 refine s2 ?_
 refine kp [1,2,4,12] ?_
 refine W_cond rfl (fun q2=>?_) (fun q2=>?_)
 ·replace hp:=cond_t q2 hp
  refine s6 ?_
  obtain rfl:=sj hp
  refine s1 ?_
  refine res2 rfl (ResOK.cell rfl mm (by exact agg41.h)) (ResOK.tmp rfl) ⟨a0,(ByteArray.mk #[101,120,105,115,116,115]),rfl,rfl,rfl⟩ ms
 ·replace hp:=cond_f q2 hp
  refine s9 ?_
  refine kp [1,2,4,17] ?_
  refine W_cond rfl (fun q3=>?_) (fun q3=>?_)
  ·replace hp:=cond_t q3 hp
   refine s6 ?_
   obtain rfl:=sj hp
   refine s1 ?_
   refine res2 rfl (ResOK.cell rfl mm (by exact agg41.h)) (ResOK.tmp rfl) ⟨a0,(ByteArray.mk #[102,117,108,108]),rfl,rfl,rfl⟩ ms
  ·replace hp:=cond_f q3 hp
   refine s3 ?_
   replace hp:=ba hp;obtain ⟨y5,hy5,hp⟩:=hp
   refine L_mk0 T_CSet rfl el39.h (fun X4 hdX4=>?_)
   obtain rfl:GT.dat X4=y5:=hdX4.trans (Option.some.inj hy5)
   clear hy5 hdX4
   refine s12 ?_
   refine W_conv (M':=rowH a0::elsT (a0.els.drop 0)::_) (fun w h=>els_start pk h) ?_
   refine W_while (σ:=(TL T_CSet)×Bool×Int) GT.dat (fun ((v6_0,v6_1,v6_2):(TL T_CSet)×Bool×Int)=>[(6,(TL.hdr v6_0)),(7,.bool v6_1),(8,.int .i64 v6_2)]) (fun ((v6_0,v6_1,v6_2):(TL T_CSet)×Bool×Int)=>[treeH v6_0,elsT (a0.els.drop (v6_2.toNat))]) [(1,_),(2,_),(4,_)] [blk bk2 _ _,blk bk4 _ _,rowH a0] (X4,false,0) hp sb ms ?_
   clear hp
   rintro ⟨v6_0,v6_1,v6_2⟩ x6 hp hx6
   replace hp:=dd hp
   refine kq [1,2,4,6,7,8] ?_
   refine s9 ?_
   refine kp [1,2,4,6,7,8,24] ?_
   refine W_cond rfl (fun q7=>?_) (fun q7=>?_)
   ·replace hp:=cond_t q7 hp
    refine s5 ?_
    replace hp:=idx_gb hp;obtain ⟨⟨u8_1,u8_2⟩,hy8,hp⟩:=hp
    refine W_D0 [38] mix (by kernel_rfl) rfl ?_
    refine s6 ?_
    refine D_idxR (X:=a0) (GC.some rfl rfl) (OpV.s rfl) (OpV.s rfl) el39.h mm (fun hg=>hy8 hg.2) ?_
    refine s1 ?_
    refine D_load (GC.some rfl rfl) (OpV.s rfl) (fun hg=>RdC.row (X:=a0) mm (hy8 hg.2).2) one9.h rfl ?_
    refine s17 ?_
    refine kp [1,2,4,6,7,8,38] ?_
    refine W_cond rfl (fun q9=>?_) (fun q9=>?_)
    ·replace hp:=cond_t q9 hp
     refine s4 ?_
     refine L_build (xs:=[(0,.tmp 40)]) (cs:=[.string a1,(TL.hdr (TL.nil T_CSnap 0))]) rfl rfl bld144.h rfl ?_
     refine L_buildSlice1 rfl rfl el39.h rfl (by decide) (by decide) rfl (fun bb42=>?_)
     replace hp:=ba hp;obtain ⟨y11,hy11,hp⟩:=hp
     refine L_conv (M':=treeH (TL.nil T_CSnap 0)::_) (fun w h=>addNilT (τ:=T_CSnap) 0 h) ?_
     refine jL ((a1,(TL.nil T_CSnap 0)):T_CSet) ?_
     refine L_app1m (X:=v6_0) ((a1,(TL.nil T_CSnap 0)):T_CSet) rfl rfl rfl el39.h rfl rfl pk mm pk hy11 (by decide) (fun X10 hdX10 hmX10=>?_)
     subst hdX10
     refine s10 ?_
     replace hp:=idx_bind hp;obtain ⟨⟨u12_1,u12_2⟩,hy12,hp⟩:=hp
     refine L_idxR (X:=a0) rfl rfl rfl el39.h mm hy12 ?_
     refine L_conv (M':=treeH (u12_1,u12_2)::elsT (a0.els.drop (v6_2.toNat+1))::_) (fun w h=>els_next hy12.2 pk h) ?_
     refine xL ((u12_1,u12_2):T_CSet) ?_
     refine L_loadW rfl rfl (RdC.row (X:=a0) mm hy12.2) (by exact agg144.h) ?_
     refine L_buildSlice1 rfl rfl el39.h rfl (by decide) (by decide) rfl (fun bb50=>?_)
     replace hp:=ba hp;obtain ⟨y14,hy14,hp⟩:=hp
     refine jL ((u12_1,u12_2):T_CSet) ?_
     refine L_app1m (X:=X10) ((u12_1,u12_2):T_CSet) rfl rfl rfl el39.h rfl rfl pk mm pk hy14 (by decide) (fun X13 hdX13 hmX13=>?_)
     subst hdX13
     refine s7 ?_
     exact ⟨(X13,true,IntKind.wrap .i64 (v6_2+1)),sb,⟨_,fun w h=>(els_step hy12 mm pk h),ms⟩,some_eq hp⟩
    ·replace hp:=cond_f q9 hp
     refine s6 ?_
     replace hp:=idx_bind hp;obtain ⟨⟨u15_1,u15_2⟩,hy15,hp⟩:=hp
     refine L_idxR (X:=a0) rfl rfl rfl el39.h mm hy15 ?_
     refine L_conv (M':=treeH (u15_1,u15_2)::elsT (a0.els.drop (v6_2.toNat+1))::_) (fun w h=>els_next hy15.2 pk h) ?_
     refine xL ((u15_1,u15_2):T_CSet) ?_
     refine L_loadW rfl rfl (RdC.row (X:=a0) mm hy15.2) (by exact agg144.h) ?_
     refine L_buildSlice1 rfl rfl el39.h rfl (by decide) (by decide) rfl (fun bb50=>?_)
     replace hp:=ba hp;obtain ⟨y17,hy17,hp⟩:=hp
     refine jL ((u15_1,u15_2):T_CSet) ?_
     refine L_app1m (X:=v6_0) ((u15_1,u15_2):T_CSet) rfl rfl rfl el39.h rfl rfl pk mm pk hy17 (by decide) (fun X16 hdX16 hmX16=>?_)
     subst hdX16
     refine s7 ?_
     exact ⟨(X16,v6_1,IntKind.wrap .i64 (v6_2+1)),sb,⟨_,fun w h=>(els_step hy15 mm pk h),ms⟩,some_eq hp⟩
   ·replace hp:=cond_f q7 hp
    refine W_exit ?_
    replace hp:=map_any hp;obtain ⟨a18,hp,z_18⟩:=hp
    obtain rfl:=hx6 _ z_18
    refine s6 ?_
    refine kp [1,2,4,6,53] ?_
    refine W_cond rfl (fun q19=>?_) (fun q19=>?_)
    ·replace hp:=cond_t q19 hp
     refine s3 ?_
     refine L_build (xs:=[(0,.tmp 55)]) (cs:=[.string a1,(TL.hdr (TL.nil T_CSnap 0))]) rfl rfl bld144.h rfl ?_
     refine L_buildSlice1 rfl rfl el39.h rfl (by decide) (by decide) rfl (fun bb57=>?_)
     replace hp:=ba hp;obtain ⟨y21,hy21,hp⟩:=hp
     refine L_conv (M':=treeH (TL.nil T_CSnap 0)::_) (fun w h=>addNilT (τ:=T_CSnap) 0 h) ?_
     refine jL ((a1,(TL.nil T_CSnap 0)):T_CSet) ?_
     refine L_app1m (X:=v6_0) ((a1,(TL.nil T_CSnap 0)):T_CSet) rfl rfl rfl el39.h rfl rfl pk mm pk hy21 (by decide) (fun X20 hdX20 hmX20=>?_)
     subst hdX20
     refine s14 ?_
     obtain rfl:=sj hp
     refine s1 ?_
     refine res2 rfl (ResOK.cell rfl mm (by exact agg41.h)) (ResOK.tmp rfl) ⟨X20,(ByteArray.mk #[111,107]),rfl,rfl,rfl⟩ ms
    ·replace hp:=cond_f q19 hp
     refine s13 ?_
     obtain rfl:=sj hp
     refine s1 ?_
     refine res2 rfl (ResOK.cell rfl mm (by exact agg41.h)) (ResOK.tmp rfl) ⟨v6_0,(ByteArray.mk #[111,107]),rfl,rfl,rfl⟩ ms
noncomputable def s_l15Prune (a0:List D_CSnap) (a1:Int):Option ((List D_CSnap)×Int) :=
 whileP (fun s1:Int×Int=>cond (decide (s1.2 < (a0.length:Int))) (Option.bind (idx a0 s1.2) (fun y3=>cond (decide (y3.2.1=ByteArray.empty)) (some (.inl ((IntKind.wrap .i64 (s1.1+1),IntKind.wrap .i64 (s1.2+1))))) (some (.inl ((s1.1,IntKind.wrap .i64 (s1.2+1))))))) (Option.map .inr (Option.bind (some ([]:List D_CSnap)) (fun y7=>whileP (fun s8:Int×(List D_CSnap)×Int=>cond (decide (s8.2.2 < (a0.length:Int))) (Option.bind (idx a0 s8.2.2) (fun y10=>cond (decide (y10.2.1=ByteArray.empty)) (cond (decide (a1≤IntKind.wrap .i64 (s8.1 - 1))) (some (.inl ((IntKind.wrap .i64 (s8.1 - 1),s8.2.1,IntKind.wrap .i64 (s8.2.2+1))))) (Option.bind (idx a0 s8.2.2) (fun y13=>Option.bind (appP s8.2.1 [(y13.1,y13.2.1,y13.2.2)]) (fun y15=>some (.inl ((IntKind.wrap .i64 (s8.1 - 1),y15,IntKind.wrap .i64 (s8.2.2+1)))))))) (Option.bind (idx a0 s8.2.2) (fun y16=>Option.bind (appP s8.2.1 [(y16.1,y16.2.1,y16.2.2)]) (fun y18=>some (.inl ((s8.1,y18,IntKind.wrap .i64 (s8.2.2+1))))))))) (Option.map .inr (some (s8.2.1,IntKind.wrap .i64 ((a0.length:Int) - (s8.2.1.length:Int)))))) (s1.1,y7,0))))) (0,0)
theorem s_l15Prune_walk (w:World) (a0:TL T_CSnap) (a1:Int)  (r:(List D_CSnap)×Int) (hp:s_l15Prune (GT.dat a0) a1=some r):Spec Tryz.prog 219 [(TL.hdr a0),.int .i64 a1].toArray w [treeH a0] (fun v M=>∃ (x0:TL T_CSnap) (x1:Int),v=.tuple #[(TL.hdr x0),.int .i64 x1]∧(GT.dat x0,GT.dat x1)=r∧M=[treeH x0]):=by
 refine Spec.intro Tryz.func219 rfl Tryz.ntmps219 rfl ?_
 unfold s_l15Prune at hp
 replace hp:=dd hp
 refine s2 ?_
 refine L_assign (v:=(TL.hdr (TL.nil T_CSnap 0))) rfl rfl ?_
 refine s12 ?_
 refine W_while (σ:=Int×Int) GT.dat (fun ((v1_0,v1_1):Int×Int)=>[(6,.int .i64 v1_0),(7,.int .i64 v1_1)]) (fun ((v1_0,v1_1):Int×Int)=>[]) [(0,_),(1,_)] [treeH a0] (0,0) hp sb ms ?_
 clear hp
 rintro ⟨v1_0,v1_1⟩ x1 hp hx1
 replace hp:=dd hp
 refine kq [0,1,6,7] ?_
 refine s8 ?_
 refine kp [0,1,6,7,13] ?_
 refine W_cond rfl (fun q2=>?_) (fun q2=>?_)
 ·replace hp:=cond_t q2 hp
  refine s7 ?_
  replace hp:=idx_bind hp;obtain ⟨⟨u3_1,u3_2,u3_3⟩,hy3,hp⟩:=hp
  refine L_idxA (X:=a0) rfl rfl rfl el142.h (RdT.tree mm) hy3 ?_
  refine s1 ?_
  refine L_load rfl rfl (RdT.at (RdT.tree mm) (hy3).2) one9.h rfl ?_
  refine s2 ?_
  refine kp [0,1,6,7,21] ?_
  refine W_cond rfl (fun q4=>?_) (fun q4=>?_)
  ·replace hp:=cond_t q4 hp
   refine s10 ?_
   exact ⟨(IntKind.wrap .i64 (v1_0+1),IntKind.wrap .i64 (v1_1+1)),sb,(.sub ms),some_eq hp⟩
  ·replace hp:=cond_f q4 hp
   refine s6 ?_
   exact ⟨(v1_0,IntKind.wrap .i64 (v1_1+1)),sb,(.sub ms),some_eq hp⟩
 ·replace hp:=cond_f q2 hp
  refine W_exit ?_
  replace hp:=map_any hp;obtain ⟨a5,hp,z_5⟩:=hp
  obtain rfl:=hx1 _ z_5
  refine s2 ?_
  replace hp:=ba hp;obtain ⟨y7,hy7,hp⟩:=hp
  refine L_mk0 T_CSnap rfl el142.h (fun X6 hdX6=>?_)
  obtain rfl:GT.dat X6=y7:=hdX6.trans (Option.some.inj hy7)
  clear hy7 hdX6
  refine s8 ?_
  refine W_conv (M':=rowH a0::elsT (a0.els.drop 0)::_) (fun w h=>els_start pk h) ?_
  refine W_while (σ:=Int×(TL T_CSnap)×Int) GT.dat (fun ((v8_0,v8_1,v8_2):Int×(TL T_CSnap)×Int)=>[(6,.int .i64 v8_0),(8,(TL.hdr v8_1)),(9,.int .i64 v8_2)]) (fun ((v8_0,v8_1,v8_2):Int×(TL T_CSnap)×Int)=>[treeH v8_1,elsT (a0.els.drop (v8_2.toNat))]) [(0,_),(1,_)] [rowH a0] (v1_0,X6,0) hp sb ms ?_
  clear hp
  rintro ⟨v8_0,v8_1,v8_2⟩ x8 hp hx8
  replace hp:=dd hp
  refine kq [0,1,6,8,9] ?_
  refine s8 ?_
  refine kp [0,1,6,8,9,28] ?_
  refine W_cond rfl (fun q9=>?_) (fun q9=>?_)
  ·replace hp:=cond_t q9 hp
   refine s8 ?_
   replace hp:=idx_bind hp;obtain ⟨⟨u10_1,u10_2,u10_3⟩,hy10,hp⟩:=hp
   refine L_idxR (X:=a0) rfl rfl rfl el142.h mm hy10 ?_
   refine s1 ?_
   refine L_load rfl rfl (RdC.row (X:=a0) mm (hy10).2) one9.h rfl ?_
   refine s2 ?_
   refine kp [0,1,6,8,9,36] ?_
   refine W_cond rfl (fun q11=>?_) (fun q11=>?_)
   ·replace hp:=cond_t q11 hp
    refine s12 ?_
    refine kp [0,1,6,8,9,41] ?_
    refine W_cond rfl (fun q12=>?_) (fun q12=>?_)
    ·replace hp:=cond_t q12 hp
     refine W_exit ?_
     refine s5 ?_
     exact ⟨(IntKind.wrap .i64 (v8_0 - 1),v8_1,IntKind.wrap .i64 (v8_2+1)),sb,⟨_,fun w h=>(els_skip hy10 mm pk h),ms⟩,some_eq hp⟩
    ·replace hp:=cond_f q12 hp
     refine s5 ?_
     replace hp:=idx_bind hp;obtain ⟨u13,hy13,hp⟩:=hp
     obtain rfl:(u10_1,u10_2,u10_3)=u13:=Option.some.inj (hy10.2.symm.trans hy13.2)
     refine L_idxR (X:=a0) rfl rfl rfl el142.h mm hy10 ?_
     refine L_conv (M':=treeH (u10_1,u10_2,u10_3)::elsT (a0.els.drop (v8_2.toNat+1))::_) (fun w h=>els_next hy10.2 pk h) ?_
     refine xL ((u10_1,u10_2,u10_3):T_CSnap) ?_
     refine L_loadW rfl rfl (RdC.row (X:=a0) mm hy10.2) (by exact agg147.h) ?_
     refine L_buildSlice1 rfl rfl el142.h rfl (by decide) (by decide) rfl (fun bb47=>?_)
     replace hp:=ba hp;obtain ⟨y15,hy15,hp⟩:=hp
     refine jL ((u10_1,u10_2,u10_3):T_CSnap) ?_
     refine L_app1m (X:=v8_1) ((u10_1,u10_2,u10_3):T_CSnap) rfl rfl rfl el142.h rfl rfl pk mm pk hy15 (by decide) (fun X14 hdX14 hmX14=>?_)
     subst hdX14
     refine s7 ?_
     exact ⟨(IntKind.wrap .i64 (v8_0 - 1),X14,IntKind.wrap .i64 (v8_2+1)),sb,⟨_,fun w h=>(els_step hy10 mm pk h),ms⟩,some_eq hp⟩
   ·replace hp:=cond_f q11 hp
    refine s5 ?_
    replace hp:=idx_bind hp;obtain ⟨u16,hy16,hp⟩:=hp
    obtain rfl:(u10_1,u10_2,u10_3)=u16:=Option.some.inj (hy10.2.symm.trans hy16.2)
    refine L_idxR (X:=a0) rfl rfl rfl el142.h mm hy10 ?_
    refine L_conv (M':=treeH (u10_1,u10_2,u10_3)::elsT (a0.els.drop (v8_2.toNat+1))::_) (fun w h=>els_next hy10.2 pk h) ?_
    refine xL ((u10_1,u10_2,u10_3):T_CSnap) ?_
    refine L_loadW rfl rfl (RdC.row (X:=a0) mm hy10.2) (by exact agg147.h) ?_
    refine L_buildSlice1 rfl rfl el142.h rfl (by decide) (by decide) rfl (fun bb47=>?_)
    replace hp:=ba hp;obtain ⟨y18,hy18,hp⟩:=hp
    refine jL ((u10_1,u10_2,u10_3):T_CSnap) ?_
    refine L_app1m (X:=v8_1) ((u10_1,u10_2,u10_3):T_CSnap) rfl rfl rfl el142.h rfl rfl pk mm pk hy18 (by decide) (fun X17 hdX17 hmX17=>?_)
    subst hdX17
    refine s7 ?_
    exact ⟨(v8_0,X17,IntKind.wrap .i64 (v8_2+1)),sb,⟨_,fun w h=>(els_step hy10 mm pk h),ms⟩,some_eq hp⟩
  ·replace hp:=cond_f q9 hp
   refine W_exit ?_
   replace hp:=map_any hp;obtain ⟨a19,hp,z_19⟩:=hp
   obtain rfl:=hx8 _ z_19
   refine s11 ?_
   obtain rfl:=sj hp
   refine s1 ?_
   refine res2 rfl (ResOK.tmp rfl) (ResOK.tmp rfl) ⟨v8_1,IntKind.wrap .i64 (((GT.dat a0).length:Int) - ((GT.dat v8_1).length:Int)),rfl,rfl,rfl⟩ ms
noncomputable def s_Dec (a0:Int):Option ByteArray :=
 cond (decide (a0=0)) (some (ByteArray.mk #[48])) (whileP (fun s2:Int×ByteArray=>cond (!decide (s2.1=0)) (cond (decide ((s2.1).tmod 10 < 0)) (Option.bind (u8P (IntKind.wrap .u8 (IntKind.wrap .i64 (48+IntKind.wrap .i64 (-((s2.1).tmod 10)))))) (fun y5=>Option.bind (some ([y5]:List UInt8)) (fun y6=>Option.bind (catP (strP y6) s2.2) (fun y8=>some (.inl ((IntKind.wrap .i64 ((s2.1).tdiv 10),y8))))))) (Option.bind (u8P (IntKind.wrap .u8 (IntKind.wrap .i64 (48+(s2.1).tmod 10)))) (fun y9=>Option.bind (some ([y9]:List UInt8)) (fun y10=>Option.bind (catP (strP y10) s2.2) (fun y12=>some (.inl ((IntKind.wrap .i64 ((s2.1).tdiv 10),y12)))))))) (Option.map .inr (cond (decide (a0 < 0)) (Option.bind (catP (ByteArray.mk #[45]) s2.2) (fun y15=>some y15)) (some s2.2)))) (a0,ByteArray.empty))
theorem s_Dec_walk (w:World) (a0:Int)  (r:ByteArray) (hp:s_Dec a0=some r):Spec Tryz.prog 220 [.int .i64 a0].toArray w [] (IsV (.string r)):=by
 refine Spec.intro Tryz.func220 rfl Tryz.ntmps220 rfl ?_
 unfold s_Dec at hp
 replace hp:=dd hp
 refine s10 ?_
 refine kp [0,7] ?_
 refine W_cond rfl (fun q1=>?_) (fun q1=>?_)
 ·replace hp:=cond_t q1 hp
  refine s4 ?_
  obtain rfl:=sj hp
  refine s1 ?_
  refine res1 rfl (ResOK.tmp rfl) ⟨rfl,rfl⟩ ms
 ·replace hp:=cond_f q1 hp
  refine s13 ?_
  refine W_while (σ:=Int×ByteArray) GT.dat (fun ((v2_0,v2_1):Int×ByteArray)=>[(0,.int .i64 v2_0),(3,.string v2_1)]) (fun ((v2_0,v2_1):Int×ByteArray)=>[]) [(4,_)] [] (a0,ByteArray.empty) hp sb ms ?_
  clear hp
  rintro ⟨v2_0,v2_1⟩ x2 hp hx2
  replace hp:=dd hp
  refine kq [0,3,4] ?_
  refine s6 ?_
  refine kp [0,3,4,11] ?_
  refine W_cond rfl (fun q3=>?_) (fun q3=>?_)
  ·replace hp:=cond_t q3 hp
   refine s14 ?_
   refine kp [0,3,4,5,15] ?_
   refine W_cond rfl (fun q4=>?_) (fun q4=>?_)
   ·replace hp:=cond_t q4 hp
    refine s2 ?_
    refine L_negW rfl rfl ?_
    refine s6 ?_
    refine L_convInt rfl rfl und5.h (by rw [und3.h];rfl) ?_
    replace hp:=ba hp;obtain ⟨y5,hy5,hp⟩:=hp
    have ey5:=u8P_some hy5
    try simp only [dat_u8] at ey5
    try simp only [ey5]
    replace hp:=ba hp;obtain ⟨y6,hy6,hp⟩:=hp
    refine L_bsN ([y5]:List UInt8) (xs:=[(0,.tmp 20)]) rfl rfl el128.h rfl rfl rfl rfl rfl rfl rfl hy6 (fun X7 hdX7=>?_)
    subst hdX7
    refine L_toStr (X:=X7) rfl rfl und128.h und5.h und9.h (RdT.tree mm) ?_
    refine s1 ?_
    replace hp:=ba hp;obtain ⟨y8,hy8,hp⟩:=hp
    refine L_binV rfl rfl rfl (bv_saddP hy8) ?_
    refine s7 ?_
    exact ⟨(IntKind.wrap .i64 ((v2_0).tdiv 10),y8),sb,(.sub ms),some_eq hp⟩
   ·replace hp:=cond_f q4 hp
    refine s5 ?_
    refine L_convInt rfl rfl und5.h (by rw [und3.h];rfl) ?_
    replace hp:=ba hp;obtain ⟨y9,hy9,hp⟩:=hp
    have ey9:=u8P_some hy9
    try simp only [dat_u8] at ey9
    try simp only [ey9]
    replace hp:=ba hp;obtain ⟨y10,hy10,hp⟩:=hp
    refine L_bsN ([y9]:List UInt8) (xs:=[(0,.tmp 20)]) rfl rfl el128.h rfl rfl rfl rfl rfl rfl rfl hy10 (fun X11 hdX11=>?_)
    subst hdX11
    refine L_toStr (X:=X11) rfl rfl und128.h und5.h und9.h (RdT.tree mm) ?_
    refine s1 ?_
    replace hp:=ba hp;obtain ⟨y12,hy12,hp⟩:=hp
    refine L_binV rfl rfl rfl (bv_saddP hy12) ?_
    refine s7 ?_
    exact ⟨(IntKind.wrap .i64 ((v2_0).tdiv 10),y12),sb,(.sub ms),some_eq hp⟩
  ·replace hp:=cond_f q3 hp
   refine W_exit ?_
   replace hp:=map_any hp;obtain ⟨a13,hp,z_13⟩:=hp
   obtain rfl:=hx2 _ z_13
   refine s5 ?_
   refine kp [3,27] ?_
   refine W_cond rfl (fun q14=>?_) (fun q14=>?_)
   ·replace hp:=cond_t q14 hp
    refine s3 ?_
    replace hp:=ba hp;obtain ⟨y15,hy15,hp⟩:=hp
    refine L_binV rfl rfl rfl (bv_saddP hy15) ?_
    refine s2 ?_
    obtain rfl:=sj hp
    refine s1 ?_
    refine res1 rfl (ResOK.tmp rfl) ⟨rfl,rfl⟩ ms
   ·replace hp:=cond_f q14 hp
    refine s6 ?_
    obtain rfl:=sj hp
    refine s1 ?_
    refine res1 rfl (ResOK.tmp rfl) ⟨rfl,rfl⟩ ms
noncomputable def s_l15Read (a0:D_CSet):Option ByteArray :=
 whileP (fun s1:ByteArray×Int=>cond (decide (s1.2 < (a0.2.length:Int))) (jbind (cond (decide (0 < s1.2)) (Option.bind (catP s1.1 (ByteArray.mk #[32])) (fun y5=>some (.inl (y5)))) (some (.inl (s1.1)))) (fun s3:ByteArray=>Option.bind (idx a0.2 s1.2) (fun y6=>Option.bind (catP s3 y6.1) (fun y7=>Option.bind (catP y7 (ByteArray.mk #[58])) (fun y8=>Option.bind (idx a0.2 s1.2) (fun y9=>Option.bind (catP y8 y9.2.1) (fun y10=>some (.inl ((y10,IntKind.wrap .i64 (s1.2+1))))))))))) (Option.map .inr (some s1.1))) (ByteArray.empty,0)
theorem s_l15Read_walk (w:World) (a0:T_CSet) (h0:GT.rd w [] a0) (r:ByteArray) (hp:s_l15Read (GT.dat a0)=some r):Spec Tryz.prog 221 [.agg (GT.cells a0).toArray].toArray w [] (IsV (.string r)):=by
 obtain ⟨a0_1,a0_2⟩:=a0
 change Spec _ _ ([Value.agg #[.string a0_1,(TL.hdr a0_2)]]:List Value).toArray w [] _
 refine Spec.intro Tryz.func221 rfl Tryz.ntmps221 rfl ?_
 unfold s_l15Read at hp
 replace hp:=dd hp
 refine s2 ?_
 refine bx fun bk1=>?_
 refine s12 ?_
 refine W_while (σ:=ByteArray×Int) GT.dat (fun ((v1_0,v1_1):ByteArray×Int)=>[(3,.string v1_0),(4,.int .i64 v1_1)]) (fun ((v1_0,v1_1):ByteArray×Int)=>[]) [(1,_)] [blk bk1 _ _] (ByteArray.empty,0) hp sb ms ?_
 clear hp
 rintro ⟨v1_0,v1_1⟩ x1 hp hx1
 replace hp:=dd hp
 refine kq [1,3,4] ?_
 refine s9 ?_
 refine kp [1,3,4,9] ?_
 refine W_cond rfl (fun q2=>?_) (fun q2=>?_)
 ·replace hp:=cond_t q2 hp
  refine s3 ?_
  refine W_jn (σ:=ByteArray) GT.dat (fun (v3_0:ByteArray)=>[(3,.string v3_0)]) (fun (v3_0:ByteArray)=>[]) [(1,.pointer (some ⟨bk1,0,none⟩)),(4,.int .i64 v1_1)] [blk bk1 [.string a0_1,(TL.hdr a0_2)] 144] hp ?_ ?_
  ·clear hp
   intro x3 hp hx3
   refine s5 ?_
   refine kp [1,3,4,13] ?_
   refine W_cond rfl (fun q4=>?_) (fun q4=>?_)
   ·replace hp:=cond_t q4 hp
    refine s2 ?_
    replace hp:=ba hp;obtain ⟨y5,hy5,hp⟩:=hp
    refine L_binV rfl rfl rfl (bv_saddP hy5) ?_
    refine s2 ?_
    exact ⟨y5,sb,(.sub ms),some_eq hp⟩
   ·replace hp:=cond_f q4 hp
    refine s1 ?_
    exact ⟨v1_0,sb,(.sub ms),some_eq hp⟩
  ·clear hp
   rintro v3_0 hp
   replace hp:=dd hp
   refine kq [1,3,4] ?_
   replace hp:=idx_bind hp;obtain ⟨⟨u6_1,u6_2,u6_3⟩,hy6,hp⟩:=hp
   replace hp:=ba hp;obtain ⟨y7,hy7,hp⟩:=hp
   replace hp:=ba hp;obtain ⟨y8,hy8,hp⟩:=hp
   replace hp:=idx_bind hp;obtain ⟨u9,hy9,hp⟩:=hp
   obtain rfl:(u6_1,u6_2,u6_3)=u9:=Option.some.inj (hy6.2.symm.trans hy9.2)
   replace hp:=ba hp;obtain ⟨y10,hy10,hp⟩:=hp
   refine W_D0 [3] mix (by kernel_rfl) rfl ?_
   refine s4 ?_
   refine D_idxA (X:=a0_2) GC.none (OpV.t rfl) (OpV.t rfl) el142.h (RdT.old h0.2) (fun _=>hy6) ?_
   refine s1 ?_
   refine D_load GC.none (OpV.t rfl) (fun hg=>RdT.at (RdT.old h0.2) (hy6).2) one9.h rfl ?_
   refine D_bin GC.none (OpV.t rfl) (OpV.t rfl) (fun hg=>(bv_saddP hy7)) ?_
   refine D_bin GC.none (OpV.t rfl) OpV.c (fun hg=>(bv_saddP hy8)) ?_
   refine s3 ?_
   refine D_idxA (X:=a0_2) GC.none (OpV.t rfl) (OpV.t rfl) el142.h (RdT.old h0.2) (fun _=>hy6) ?_
   refine s1 ?_
   refine D_load GC.none (OpV.t rfl) (fun hg=>RdT.at (RdT.old h0.2) (hy6).2) one9.h rfl ?_
   refine D_bin GC.none (OpV.t rfl) (OpV.t rfl) (fun hg=>(bv_saddP hy10)) ?_
   refine s20 ?_
   refine s5 ?_
   exact ⟨(y10,IntKind.wrap .i64 (v1_1+1)),sb,(.sub ms),some_eq hp⟩
 ·replace hp:=cond_f q2 hp
  refine W_exit ?_
  replace hp:=map_any hp;obtain ⟨a11,hp,z_11⟩:=hp
  obtain rfl:=hx1 _ z_11
  refine s5 ?_
  obtain rfl:=sj hp
  refine s1 ?_
  refine res1 rfl (ResOK.tmp rfl) ⟨rfl,rfl⟩ ms
noncomputable def s_l15Set (a0:D_Catalog) (a1:Int) (a2:D_Cmd):Option (D_Catalog×ByteArray) :=
 Option.bind (idx a0 a1) (fun y1=>Option.bind (s_l15Find (y1.1,y1.2) a2.2.2.2.2.1) (fun y2=>cond (decide (a2.1=2)) (Option.bind (some ([]:List D_CSet)) (fun y5=>Option.bind (slcP a0 (0:Int) a1) (fun y6=>Option.bind (chkP (decide (0≤((0:Int)).toNat))) (fun y9=>Option.bind (appP y5 y6) (fun y10=>Option.bind (slcP a0 (IntKind.wrap .i64 (a1+1)) (a0.length:Int)) (fun y11=>Option.bind (chkP (decide ((a1).toNat≤(IntKind.wrap .i64 (a1+1)).toNat))) (fun y14=>Option.bind (appP y10 y11) (fun y15=>some (y15,(ByteArray.mk #[111,107])))))))))) (cond (decide (a2.1=3)) (cond (decide (0≤y2)) (some (a0,(ByteArray.mk #[101,120,105,115,116,115]))) (cond (decide (5≤(y1.2.length:Int))) (some (a0,(ByteArray.mk #[102,117,108,108]))) (Option.bind (some ([]:List D_CSnap)) (fun y20=>Option.bind (appP y20 y1.2) (fun y22=>Option.bind (some ([]:List ByteArray)) (fun y23=>Option.bind (appP ([]:List ByteArray) a2.2.2.2.2.2.2.2) (fun y25=>Option.bind (appP y22 [(a2.2.2.2.2.1,ByteArray.empty,y25)]) (fun y27=>Option.bind (idx a0 a1) (fun y29=>Option.bind (some (a0.set (a1.toNat) (y1.1,y27))) (fun y30=>some (y30,(ByteArray.mk #[111,107])))))))))))) (cond (decide (a2.1=4)) (cond (decide (y2 < 0)) (some (a0,(ByteArray.mk #[110,111,110,101]))) (Option.bind (idx a0 a1) (fun y34=>Option.bind (idx y34.2 y2) (fun y35=>Option.bind (some (y34.2.set (y2.toNat) (y35.1,a2.2.2.2.2.2.1,y35.2.2))) (fun y36=>Option.bind (some (a0.set (a1.toNat) (y34.1,y36))) (fun y38=>some (y38,(ByteArray.mk #[111,107])))))))) (cond (decide (a2.1=5)) (Option.bind (s_l15Prune y1.2 a2.2.2.2.2.2.2.1) (fun y41=>Option.bind (idx a0 a1) (fun y42=>Option.bind (some (a0.set (a1.toNat) (y1.1,y41.1))) (fun y43=>Option.bind (s_Dec y41.2) (fun y45=>some (y43,y45)))))) (Option.bind (s_l15Read (y1.1,y1.2)) (fun y46=>some (a0,y46))))))))
theorem s_l15Set_walk (w:World) (a0:T_Catalog) (a1:Int) (a2:T_Cmd) (h2:GT.rd w (fps [treeH a0]) a2) (r:D_Catalog×ByteArray) (hp:s_l15Set (GT.dat a0) a1 (GT.dat a2)=some r):Spec Tryz.prog 177 [.agg (GT.cells a0).toArray,.int .i64 a1,.agg (GT.cells a2).toArray].toArray w [treeH a0] (fun v M=>∃ (x0:T_Catalog) (x1:ByteArray),v=.tuple #[.agg (GT.cells x0).toArray,.string x1]∧(GT.dat x0,GT.dat x1)=r∧M=[treeH x0]):=by
 obtain ⟨a2_1,a2_2,a2_3,a2_4,a2_5,a2_6,a2_7,a2_8⟩:=a2
 change Spec _ _ ([Value.agg #[(TL.hdr a0)],.int .i64 a1,Value.agg #[.int .i64 a2_1,.int .i64 a2_2,.int .i64 a2_3,.string a2_4,.string a2_5,.string a2_6,.int .i64 a2_7,(TL.hdr a2_8)]]:List Value).toArray w _ _
 refine Spec.intro Tryz.func177 rfl Tryz.ntmps177 rfl ?_
 unfold s_l15Set at hp
 replace hp:=dd hp
 refine s2 ?_
 refine bx fun bk3=>?_
 refine bx fun bk5=>?_
 refine al fun bk6=>?_
 refine s7 ?_
 replace hp:=idx_bind hp;obtain ⟨⟨u1_1,u1_2⟩,hy1,hp⟩:=hp
 refine L_idxA (X:=a0) rfl rfl rfl el39.h (RdT.tree mm) hy1 ?_
 refine L_loadW rfl rfl (RdT.at (RdT.tree mm) (hy1).2) (by exact agg144.h) ?_
 refine al fun bk8=>?_
 refine s7 ?_
 replace hp:=ba hp;obtain ⟨y2,hy2,hp⟩:=hp
 refine L_callX rfl fn208.h rfl (by exact fun w hw=>s_l15Find_walk w (u1_1,u1_2) a2_5 (RdT.now (RdT.pair RdT.str (RdT.snd (RdT.of (RdT.tree mm) (hy1).2))) hw) _ hy2) ?_
 refine s14 ?_
 refine kp [1,3,5,6,8,9,24,25] ?_
 refine W_cond rfl (fun q3=>?_) (fun q3=>?_)
 ·replace hp:=cond_t q3 hp
  refine s2 ?_
  replace hp:=ba hp;obtain ⟨y5,hy5,hp⟩:=hp
  refine L_mk0 T_CSet rfl el39.h (fun X4 hdX4=>?_)
  obtain rfl:GT.dat X4=y5:=hdX4.trans (Option.some.inj hy5)
  clear hy5 hdX4
  refine s3 ?_
  refine L_conv (M':=rowH a0::elsT (a0.els.drop 0)::_) (fun w h=>els_start pk h) ?_
  replace hp:=ba hp;obtain ⟨y6,hy6,hp⟩:=hp
  refine L_slM (X:=a0) rfl rfl rfl rfl el39.h rfl mm hy6 (fun X7 hdX7 heX7=>?_)
  have hsX7:=hy6
  subst hdX7
  replace hp:=ba hp;obtain ⟨y9,hy9,hp⟩:=hp
  replace hp:=ba hp;obtain ⟨y10,hy10,hp⟩:=hp
  refine L_appM (X:=X4) (V:=a0) (Y:=X7) rfl rfl rfl el39.h rfl rfl pk heX7 hsX7 mm pk hy9 hy10 (by decide) (fun X8 hdX8=>?_)
  subst hdX8
  refine s9 ?_
  replace hp:=ba hp;obtain ⟨y11,hy11,hp⟩:=hp
  refine L_slM (X:=a0) rfl rfl rfl rfl el39.h rfl mm hy11 (fun X12 hdX12 heX12=>?_)
  have hsX12:=hy11
  subst hdX12
  replace hp:=ba hp;obtain ⟨y14,hy14,hp⟩:=hp
  replace hp:=ba hp;obtain ⟨y15,hy15,hp⟩:=hp
  refine L_appM (X:=X8) (V:=a0) (Y:=X12) rfl rfl rfl el39.h rfl rfl pk heX12 hsX12 mm pk hy14 hy15 (by decide) (fun X13 hdX13=>?_)
  subst hdX13
  refine s9 ?_
  obtain rfl:=sj hp
  refine s1 ?_
  refine res2 rfl (ResOK.cell rfl mm (by exact agg41.h)) (ResOK.tmp rfl) ⟨X13,(ByteArray.mk #[111,107]),rfl,rfl,rfl⟩ ms
 ·replace hp:=cond_f q3 hp
  refine s5 ?_
  refine kp [1,3,5,6,8,9,24,42] ?_
  refine W_cond rfl (fun q16=>?_) (fun q16=>?_)
  ·replace hp:=cond_t q16 hp
   refine s6 ?_
   refine kp [1,3,5,6,8,45] ?_
   refine W_cond rfl (fun q17=>?_) (fun q17=>?_)
   ·replace hp:=cond_t q17 hp
    refine s6 ?_
    obtain rfl:=sj hp
    refine s1 ?_
    refine res2 rfl (ResOK.cell rfl mm (by exact agg41.h)) (ResOK.tmp rfl) ⟨a0,(ByteArray.mk #[101,120,105,115,116,115]),rfl,rfl,rfl⟩ ms
   ·replace hp:=cond_f q17 hp
    refine s9 ?_
    refine kp [1,3,5,6,8,50] ?_
    refine W_cond rfl (fun q18=>?_) (fun q18=>?_)
    ·replace hp:=cond_t q18 hp
     refine s6 ?_
     obtain rfl:=sj hp
     refine s1 ?_
     refine res2 rfl (ResOK.cell rfl mm (by exact agg41.h)) (ResOK.tmp rfl) ⟨a0,(ByteArray.mk #[102,117,108,108]),rfl,rfl,rfl⟩ ms
    ·replace hp:=cond_f q18 hp
     refine s3 ?_
     replace hp:=ba hp;obtain ⟨y20,hy20,hp⟩:=hp
     refine L_mk0 T_CSnap rfl el142.h (fun X19 hdX19=>?_)
     obtain rfl:GT.dat X19=y20:=hdX19.trans (Option.some.inj hy20)
     clear hy20 hdX19
     refine s2 ?_
     refine L_conv (M':=treeH (u1_1,u1_2)::holeH a0 (a1.toNat) (GT.cells (u1_1,u1_2))::_) (fun w h=>hole_open hy1.2 pk h) ?_
     refine xL ((u1_1,u1_2):T_CSet) ?_
     replace hp:=ba hp;obtain ⟨y22,hy22,hp⟩:=hp
     refine L_appAll (X:=X19) (Y:=u1_2) rfl rfl rfl el142.h rfl rfl pk pk hy22 (by decide) (fun X21 hdX21=>?_)
     subst hdX21
     refine s3 ?_
     replace hp:=ba hp;obtain ⟨y23,hy23,hp⟩:=hp
     obtain rfl:=Option.some.inj hy23
     replace hp:=ba hp;obtain ⟨y25,hy25,hp⟩:=hp
     replace hp:=ba hp;obtain ⟨y27,hy27,hp⟩:=hp
     refine W_DS (pre:=[_,_,_,_,_,_,_,_,_,_,_,_,_]) (suf:=[_,_,_]) [57,58,68] [treeH X21] _ pc mix (by kernel_rfl) (by kernel_rfl) rfl ?_
     refine s6 ?_
     refine D_mk0 ByteArray el65.h ?_
     refine s2 ?_
     refine D_appTO (Y:=a2_8) (t:=62) rfl (OpV.t rfl) el65.h rfl rfl (RdT.old h2.2.2.2.2.2.2.2) hy25 (by decide) (by kernel_rfl) ?_
     refine D_buildO (τ:=ByteArray) (t:=65) (xs:=[(0,.tmp 61),(2,.tmp 65)]) (ps:=fun u=>[(0,.string a2_5),(2,u)]) (cs:=fun u=>[.string a2_5,.string ByteArray.empty,u]) rfl (fun u=>(OpVp.cons (OpV.t rfl) (OpVp.cons (OpV.t rfl) (OpVp.nil)))) bld147.h (fun X=>rfl) (by kernel_rfl) ?_
     refine D_bs1O (t:=66) rfl el142.h rfl (by decide) (by decide) (fun X=>rfl) (by kernel_rfl) ?_
     refine D_app1O (X:=X21) (t:=67) (fun Y=>((a2_5,ByteArray.empty,Y):T_CSnap)) _ (OpV.t rfl) rfl el142.h rfl rfl (fun Y=>rfl) (fun Y=>by first | rfl | exact List.append_nil _) (fun w Y h=>by repeat (first | exact h | exact trivial | exact (flat_nil _).ow _ | constructor)) (fun Y h=>by subst h;rfl) pk hy27 (by decide) (by kernel_rfl) ?_
     refine s1 ?_
     refine Give_R rfl rfl ?_
     rintro _ _ ⟨X28,rfl,rfl,rfl⟩
     simp only [List.cons_append,List.nil_append]
     refine s13 ?_
     replace hp:=idx_bind hp;obtain ⟨u29,hy29,hp⟩:=hp
     obtain rfl:(u1_1,u1_2)=u29:=Option.some.inj (hy1.2.symm.trans hy29.2)
     refine L_idxH (X:=a0) (cs:=_) rfl rfl rfl el39.h mm hy1 ?_
     refine s1 ?_
     refine L_stH (X:=a0) (i:=a1.toNat) (sz:=2) (fo:=1) (n:=1) rfl rfl pk rfl (.inr ⟨one142.h,rfl⟩) rfl (allOne rfl) (Nat.le_of_ble_eq_true rfl) ?_
     refine jL ((u1_1,X28):T_CSet) ?_
     replace hp:=ba hp;obtain ⟨y30,hy30,hp⟩:=hp
     refine L_close (X:=a0) ((u1_1,X28):T_CSet) rfl pk pk hy30 (fun X31 hdX31 hhX31=>?_)
     subst hdX31
     try rw [← hhX31]
     try rw [← g_of_hdr hhX31]
     try rw [← o_of_hdr hhX31]
     refine s7 ?_
     obtain rfl:=sj hp
     refine s1 ?_
     refine res2 rfl (ResOK.cell rfl mm (by exact agg41.h)) (ResOK.tmp rfl) ⟨X31,(ByteArray.mk #[111,107]),rfl,rfl,rfl⟩ ms
  ·replace hp:=cond_f q16 hp
   refine s5 ?_
   refine kp [1,3,5,6,8,9,24,72] ?_
   refine W_cond rfl (fun q32=>?_) (fun q32=>?_)
   ·replace hp:=cond_t q32 hp
    refine s6 ?_
    refine kp [1,3,5,6,9,75] ?_
    refine W_cond rfl (fun q33=>?_) (fun q33=>?_)
    ·replace hp:=cond_t q33 hp
     refine s6 ?_
     obtain rfl:=sj hp
     refine s1 ?_
     refine res2 rfl (ResOK.cell rfl mm (by exact agg41.h)) (ResOK.tmp rfl) ⟨a0,(ByteArray.mk #[110,111,110,101]),rfl,rfl,rfl⟩ ms
    ·replace hp:=cond_f q33 hp
     refine s2 ?_
     replace hp:=idx_bind hp;obtain ⟨u34,hy34,hp⟩:=hp
     obtain rfl:(u1_1,u1_2)=u34:=Option.some.inj (hy1.2.symm.trans hy34.2)
     refine W_DS (pre:=[_,_,_,_,_,_,_,_,_]) (suf:=[_,_,_]) [82,83,85] [] _ pc mix (by kernel_rfl) (by kernel_rfl) rfl ?_
     refine s3 ?_
     refine D_idxA (X:=a0) GC.none (OpV.t rfl) (OpV.t rfl) el39.h (RdT.tree mm) (fun _=>hy1) ?_
     refine s1 ?_
     refine D_load GC.none (OpV.t rfl) (fun hg=>RdT.at (RdT.tree mm) (hy1).2) one142.h rfl ?_
     refine s14 ?_
     replace hp:=idx_bind hp;obtain ⟨⟨u35_1,u35_2,u35_3⟩,hy35,hp⟩:=hp
     refine L_idxA (X:=u1_2) rfl rfl rfl el142.h (RdT.snd (RdT.of (RdT.tree mm) (hy1).2)) hy35 ?_
     refine s1 ?_
     refine L_conv (M':=treeH (u1_1,u1_2)::holeH a0 (a1.toNat) (GT.cells (u1_1,u1_2))::_) (fun w h=>hole_open hy1.2 pk h) ?_
     refine xL ((u1_1,u1_2):T_CSet) ?_
     refine L_conv (M':=treeH (u35_1,u35_2,u35_3)::holeH u1_2 (y2.toNat) (GT.cells (u35_1,u35_2,u35_3))::_) (fun w h=>hole_open hy35.2 pk h) ?_
     refine xL ((u35_1,u35_2,u35_3):T_CSnap) ?_
     refine L_stH (X:=u1_2) (i:=y2.toNat) (sz:=3) (fo:=1) (n:=1) rfl rfl pk rfl (.inr ⟨one9.h,rfl⟩) rfl (allOne rfl) (Nat.le_of_ble_eq_true rfl) ?_
     refine jL ((u35_1,a2_6,u35_3):T_CSnap) ?_
     replace hp:=ba hp;obtain ⟨y36,hy36,hp⟩:=hp
     refine L_close (X:=u1_2) ((u35_1,a2_6,u35_3):T_CSnap) rfl pk pk hy36 (fun X37 hdX37 hhX37=>?_)
     subst hdX37
     try simp only [cells_pair,cells_int,cells_bool,cells_str,cells_TL,List.cons_append,List.nil_append]
     try rw [← hhX37]
     try rw [← g_of_hdr hhX37]
     try rw [← o_of_hdr hhX37]
     refine jL ((u1_1,X37):T_CSet) ?_
     replace hp:=ba hp;obtain ⟨y38,hy38,hp⟩:=hp
     refine L_close (X:=a0) ((u1_1,X37):T_CSet) rfl pk pk hy38 (fun X39 hdX39 hhX39=>?_)
     subst hdX39
     try rw [← hhX39]
     try rw [← g_of_hdr hhX39]
     try rw [← o_of_hdr hhX39]
     refine s7 ?_
     obtain rfl:=sj hp
     refine s1 ?_
     refine res2 rfl (ResOK.cell rfl mm (by exact agg41.h)) (ResOK.tmp rfl) ⟨X39,(ByteArray.mk #[111,107]),rfl,rfl,rfl⟩ ms
   ·replace hp:=cond_f q32 hp
    refine s5 ?_
    refine kp [1,3,5,6,8,89] ?_
    refine W_cond rfl (fun q40=>?_) (fun q40=>?_)
    ·replace hp:=cond_t q40 hp
     refine s6 ?_
     replace hp:=ba hp;obtain ⟨y41,hy41,hp⟩:=hp
     refine L_conv (M':=treeH (u1_1,u1_2)::holeH a0 (a1.toNat) (GT.cells (u1_1,u1_2))::_) (fun w h=>hole_open hy1.2 pk h) ?_
     refine xL ((u1_1,u1_2):T_CSet) ?_
     refine L_callM [treeH u1_2] _ rfl fn219.h rfl pc (by exact fun w hw=>s_l15Prune_walk w u1_2 a2_7  _ hy41) ?_
     rintro _ _ ⟨y41x0,y41x1,rfl,rfl,rfl⟩
     refine sc ?_
     replace hp:=dd hp
     refine s12 ?_
     replace hp:=idx_bind hp;obtain ⟨u42,hy42,hp⟩:=hp
     obtain rfl:(u1_1,u1_2)=u42:=Option.some.inj (hy1.2.symm.trans hy42.2)
     refine L_idxH (X:=a0) (cs:=_) rfl rfl rfl el39.h mm hy1 ?_
     refine s1 ?_
     refine L_stH (X:=a0) (i:=a1.toNat) (sz:=2) (fo:=1) (n:=1) rfl rfl pk rfl (.inr ⟨one142.h,rfl⟩) rfl (allOne rfl) (Nat.le_of_ble_eq_true rfl) ?_
     refine jL ((u1_1,y41x0):T_CSet) ?_
     replace hp:=ba hp;obtain ⟨y43,hy43,hp⟩:=hp
     refine L_close (X:=a0) ((u1_1,y41x0):T_CSet) rfl pk pk hy43 (fun X44 hdX44 hhX44=>?_)
     subst hdX44
     try rw [← hhX44]
     try rw [← g_of_hdr hhX44]
     try rw [← o_of_hdr hhX44]
     refine s2 ?_
     replace hp:=ba hp;obtain ⟨y45,hy45,hp⟩:=hp
     refine W_DS (pre:=[_,_,_]) (suf:=[_,_]) [105,107] [] _ pc mix (by kernel_rfl) (by kernel_rfl) rfl ?_
     refine s2 ?_
     refine D_callX GC.none fn220.h (OpVs.cons (OpV.t rfl) (OpVs.nil)) (by exact fun hg w F hF hM=>s_Dec_walk w y41x1  _ hy45) ?_
     refine s8 ?_
     obtain rfl:=sj hp
     refine s1 ?_
     refine res2 rfl (ResOK.cell rfl mm (by exact agg41.h)) (ResOK.tmp rfl) ⟨X44,y45,rfl,rfl,rfl⟩ ms
    ·replace hp:=cond_f q40 hp
     refine s2 ?_
     replace hp:=ba hp;obtain ⟨y46,hy46,hp⟩:=hp
     refine W_DS (pre:=[_,_,_]) (suf:=[_,_]) [108,110] [] _ pc mix (by kernel_rfl) (by kernel_rfl) rfl ?_
     refine s2 ?_
     refine D_callX GC.none fn221.h (OpVs.cons (OpV.t rfl) (OpVs.nil)) (by exact fun hg w F hF hM=>s_l15Read_walk w (u1_1,u1_2) (RdT.nowS (RdT.pair RdT.str (RdT.snd (RdT.of (RdT.tree mm) (hy1).2))) hF hM) _ hy46) ?_
     refine s8 ?_
     obtain rfl:=sj hp
     refine s1 ?_
     refine res2 rfl (ResOK.cell rfl mm (by exact agg41.h)) (ResOK.tmp rfl) ⟨a0,y46,rfl,rfl,rfl⟩ ms
noncomputable def s_CatDo (a0:D_Catalog) (a1:D_Cmd):Option (D_Catalog×ByteArray) :=
 Option.bind (s_CatOk a0) (fun y1=>cond (!y1) (some (([]:List D_CSet),ByteArray.empty)) (Option.bind (s_l15Copy a0) (fun y3=>Option.bind (s_CmdOk (a1.1,a1.2.1,a1.2.2.1,a1.2.2.2.1,a1.2.2.2.2.1,a1.2.2.2.2.2.1,a1.2.2.2.2.2.2.1,a1.2.2.2.2.2.2.2)) (fun y4=>cond ((!y4)||(decide (a1.1=0))) (some (y3,ByteArray.empty)) (cond (decide (a1.1=1)) (Option.bind (s_l15Create y3 a1.2.2.2.1) (fun y7=>some (y7.1,y7.2))) (cond (decide (a1.1=7)) (whileP (fun s9:ByteArray×Int=>cond (decide (s9.2 < (y3.length:Int))) (cond (decide (0 < s9.2)) (Option.bind (catP s9.1 (ByteArray.mk #[32])) (fun y12=>Option.bind (idx y3 s9.2) (fun y13=>Option.bind (catP y12 y13.1) (fun y14=>some (.inl ((y14,IntKind.wrap .i64 (s9.2+1)))))))) (Option.bind (idx y3 s9.2) (fun y15=>Option.bind (catP s9.1 y15.1) (fun y16=>some (.inl ((y16,IntKind.wrap .i64 (s9.2+1)))))))) (Option.map .inr (some (y3,s9.1)))) (ByteArray.empty,0)) (Option.bind (s_l15At y3 a1.2.2.2.1) (fun y18=>cond (decide (y18 < 0)) (some (y3,(ByteArray.mk #[110,111,110,101]))) (Option.bind (s_l15Set y3 y18 (a1.1,a1.2.1,a1.2.2.1,a1.2.2.2.1,a1.2.2.2.2.1,a1.2.2.2.2.2.1,a1.2.2.2.2.2.2.1,a1.2.2.2.2.2.2.2)) (fun y20=>some (y20.1,y20.2)))))))))))
theorem s_CatDo_walk (w:World) (a0:T_Catalog) (a1:T_Cmd) (h0:GT.rd w [] a0) (h1:GT.rd w [] a1) (r:D_Catalog×ByteArray) (hp:s_CatDo (GT.dat a0) (GT.dat a1)=some r):Spec Tryz.prog 114 [.agg (GT.cells a0).toArray,.agg (GT.cells a1).toArray].toArray w [] (fun v M=>∃ (x0:T_Catalog) (x1:ByteArray),v=.tuple #[.agg (GT.cells x0).toArray,.string x1]∧(GT.dat x0,GT.dat x1)=r∧M=[treeH x0]):=by
 obtain ⟨a1_1,a1_2,a1_3,a1_4,a1_5,a1_6,a1_7,a1_8⟩:=a1
 change Spec _ _ ([Value.agg #[(TL.hdr a0)],Value.agg #[.int .i64 a1_1,.int .i64 a1_2,.int .i64 a1_3,.string a1_4,.string a1_5,.string a1_6,.int .i64 a1_7,(TL.hdr a1_8)]]:List Value).toArray w [] _
 refine Spec.intro Tryz.func114 rfl Tryz.ntmps114 rfl ?_
 unfold s_CatDo at hp
 replace hp:=dd hp
 refine s2 ?_
 refine bx fun bk2=>?_
 refine bx fun bk3=>?_
 refine al fun bk4=>?_
 refine s6 ?_
 replace hp:=ba hp;obtain ⟨y1,hy1,hp⟩:=hp
 refine L_callX rfl fn145.h rfl (by exact fun w hw=>s_CatOk_walk w a0 (RdT.now (RdT.old h0) hw) _ hy1) ?_
 refine s2 ?_
 refine kp [2,3,4,16] ?_
 refine W_cond rfl (fun q2=>?_) (fun q2=>?_)
 ·replace hp:=cond_t q2 hp
  refine s2 ?_
  refine L_build (xs:=[]) (cs:=[(TL.hdr (TL.nil T_CSet 0))]) rfl rfl bld41.h rfl ?_
  refine s3 ?_
  obtain rfl:=sj hp
  refine W_conv (M':=treeH (TL.nil T_CSet 0)::_) (fun w h=>addNilT (τ:=T_CSet) 0 h) ?_
  refine s1 ?_
  refine res2 rfl (ResOK.cell rfl mm (by exact agg41.h)) (ResOK.tmp rfl) ⟨(TL.nil T_CSet 0),ByteArray.empty,rfl,rfl,rfl⟩ ms
 ·replace hp:=cond_f q2 hp
  refine s4 ?_
  replace hp:=ba hp;obtain ⟨y3,hy3,hp⟩:=hp
  refine L_callR rfl fn172.h rfl (by exact fun w hw=>s_l15Copy_walk w a0 (RdT.now (RdT.old h0) hw) _ hy3) ?_
  rintro _ _ ⟨y3x0,rfl,rfl,rfl⟩
  refine sc ?_
  replace hp:=dd hp
  refine al fun bk6=>?_
  refine s4 ?_
  replace hp:=ba hp;obtain ⟨y4,hy4,hp⟩:=hp
  refine W_D0 [27] mix (by kernel_rfl) rfl ?_
  refine s1 ?_
  refine D_callX GC.none fn113.h (OpVs.cons (OpV.t rfl) (OpVs.nil)) (by exact fun hg w F hF hM=>s_CmdOk_walk w (a1_1,a1_2,a1_3,a1_4,a1_5,a1_6,a1_7,a1_8) (RdT.nowS (RdT.pair RdT.int (RdT.pair RdT.int (RdT.pair RdT.int (RdT.pair RdT.str (RdT.pair RdT.str (RdT.pair RdT.str (RdT.pair RdT.int (RdT.old h1.2.2.2.2.2.2.2)))))))) hF hM) _ hy4) ?_
  refine s16 ?_
  refine kp [3,4,6,27] ?_
  refine W_cond rfl (fun q5=>?_) (fun q5=>?_)
  ·replace hp:=cond_t q5 hp
   refine s6 ?_
   obtain rfl:=sj hp
   refine s1 ?_
   refine res2 rfl (ResOK.cell rfl mm (by exact agg41.h)) (ResOK.tmp rfl) ⟨y3x0,ByteArray.empty,rfl,rfl,rfl⟩ ms
  ·replace hp:=cond_f q5 hp
   refine s8 ?_
   refine kp [3,4,6,31] ?_
   refine W_cond rfl (fun q6=>?_) (fun q6=>?_)
   ·replace hp:=cond_t q6 hp
    refine s5 ?_
    replace hp:=ba hp;obtain ⟨y7,hy7,hp⟩:=hp
    refine L_callM [treeH y3x0] _ rfl fn175.h rfl pc (by exact fun w hw=>s_l15Create_walk w y3x0 a1_4  _ hy7) ?_
    rintro _ _ ⟨y7x0,y7x1,rfl,rfl,rfl⟩
    refine sc ?_
    replace hp:=dd hp
    refine s3 ?_
    refine al fun bk7=>?_
    refine s10 ?_
    obtain rfl:=sj hp
    refine s1 ?_
    refine res2 rfl (ResOK.cell rfl mm (by exact agg41.h)) (ResOK.tmp rfl) ⟨y7x0,y7x1,rfl,rfl,rfl⟩ ms
   ·replace hp:=cond_f q6 hp
    refine s8 ?_
    refine kp [3,4,6,43] ?_
    refine W_cond rfl (fun q8=>?_) (fun q8=>?_)
    ·replace hp:=cond_t q8 hp
     refine s10 ?_
     refine W_while (σ:=ByteArray×Int) GT.dat (fun ((v9_0,v9_1):ByteArray×Int)=>[(9,.string v9_0),(10,.int .i64 v9_1)]) (fun ((v9_0,v9_1):ByteArray×Int)=>[]) [(4,_),(6,_)] [blk bk4 _ _,blk bk6 _ _,treeH y3x0] (ByteArray.empty,0) hp sb ms ?_
     clear hp
     rintro ⟨v9_0,v9_1⟩ x9 hp hx9
     replace hp:=dd hp
     refine kq [4,6,9,10] ?_
     refine s9 ?_
     refine kp [4,6,9,10,48] ?_
     refine W_cond rfl (fun q10=>?_) (fun q10=>?_)
     ·replace hp:=cond_t q10 hp
      refine s9 ?_
      refine kp [4,6,9,10,52] ?_
      refine W_cond rfl (fun q11=>?_) (fun q11=>?_)
      ·replace hp:=cond_t q11 hp
       refine s2 ?_
       replace hp:=ba hp;obtain ⟨y12,hy12,hp⟩:=hp
       refine L_binV rfl rfl rfl (bv_saddP hy12) ?_
       refine s7 ?_
       replace hp:=idx_bind hp;obtain ⟨⟨u13_1,u13_2⟩,hy13,hp⟩:=hp
       refine L_idxA (X:=y3x0) rfl rfl rfl el39.h (RdT.tree mm) hy13 ?_
       refine s1 ?_
       refine L_load rfl rfl (RdT.at (RdT.tree mm) (hy13).2) one9.h rfl ?_
       replace hp:=ba hp;obtain ⟨y14,hy14,hp⟩:=hp
       refine L_binV rfl rfl rfl (bv_saddP hy14) ?_
       refine s7 ?_
       exact ⟨(y14,IntKind.wrap .i64 (v9_1+1)),sb,(.sub ms),some_eq hp⟩
      ·replace hp:=cond_f q11 hp
       refine s6 ?_
       replace hp:=idx_bind hp;obtain ⟨⟨u15_1,u15_2⟩,hy15,hp⟩:=hp
       refine L_idxA (X:=y3x0) rfl rfl rfl el39.h (RdT.tree mm) hy15 ?_
       refine s1 ?_
       refine L_load rfl rfl (RdT.at (RdT.tree mm) (hy15).2) one9.h rfl ?_
       replace hp:=ba hp;obtain ⟨y16,hy16,hp⟩:=hp
       refine L_binV rfl rfl rfl (bv_saddP hy16) ?_
       refine s7 ?_
       exact ⟨(y16,IntKind.wrap .i64 (v9_1+1)),sb,(.sub ms),some_eq hp⟩
     ·replace hp:=cond_f q10 hp
      refine W_exit ?_
      replace hp:=map_any hp;obtain ⟨a17,hp,z_17⟩:=hp
      obtain rfl:=hx9 _ z_17
      refine s7 ?_
      obtain rfl:=sj hp
      refine s1 ?_
      refine res2 rfl (ResOK.cell rfl mm (by exact agg41.h)) (ResOK.tmp rfl) ⟨y3x0,v9_0,rfl,rfl,rfl⟩ ms
    ·replace hp:=cond_f q8 hp
     refine s6 ?_
     replace hp:=ba hp;obtain ⟨y18,hy18,hp⟩:=hp
     refine L_callX rfl fn176.h rfl (by exact fun w hw=>s_l15At_walk w y3x0 a1_4 (RdT.now (RdT.tree mm) hw) _ hy18) ?_
     refine s8 ?_
     refine kp [3,4,6,11,70] ?_
     refine W_cond rfl (fun q19=>?_) (fun q19=>?_)
     ·replace hp:=cond_t q19 hp
      refine s6 ?_
      obtain rfl:=sj hp
      refine s1 ?_
      refine res2 rfl (ResOK.cell rfl mm (by exact agg41.h)) (ResOK.tmp rfl) ⟨y3x0,(ByteArray.mk #[110,111,110,101]),rfl,rfl,rfl⟩ ms
     ·replace hp:=cond_f q19 hp
      refine s6 ?_
      replace hp:=ba hp;obtain ⟨y20,hy20,hp⟩:=hp
      refine L_callM [treeH y3x0] _ rfl fn177.h rfl pc (by exact fun w hw=>s_l15Set_walk w y3x0 y18 (a1_1,a1_2,a1_3,a1_4,a1_5,a1_6,a1_7,a1_8) ((RdX.pair RdX.int (RdX.pair RdX.int (RdX.pair RdX.int (RdX.pair RdX.str (RdX.pair RdX.str (RdX.pair RdX.str (RdX.pair RdX.int (RdX.old h1.2.2.2.2.2.2.2)))))))) w hw) _ hy20) ?_
      rintro _ _ ⟨y20x0,y20x1,rfl,rfl,rfl⟩
      refine sc ?_
      replace hp:=dd hp
      refine s3 ?_
      refine al fun bk12=>?_
      refine s10 ?_
      obtain rfl:=sj hp
      refine s1 ?_
      refine res2 rfl (ResOK.cell rfl mm (by exact agg41.h)) (ResOK.tmp rfl) ⟨y20x0,y20x1,rfl,rfl,rfl⟩ ms
end Go.Proofs.SL
