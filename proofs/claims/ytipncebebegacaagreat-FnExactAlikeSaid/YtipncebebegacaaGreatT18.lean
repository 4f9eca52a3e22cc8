/- The texts of the proof, part 18: the base, walks of functions, plain Lean. -/
import Derived.Test.YtipncebebegacaaGreatT17
import Derived.Test.YtipncebebegacaaGreatT6
namespace Go.Proofs.SL
open Go
set_option maxHeartbeats 2000000
instance fn93:FnF Tryz.prog 93:=⟨_,Tryz.func93,by kernel_rfl,rfl⟩
instance fn94:FnF Tryz.prog 94:=⟨_,Tryz.func94,by kernel_rfl,rfl⟩
instance fn95:FnF Tryz.prog 95:=⟨_,Tryz.func95,by kernel_rfl,rfl⟩
instance agg56:AggF Tryz.prog 56 2:=⟨by kernel_rfl⟩
instance fn46:FnF Tryz.prog 46:=⟨_,Tryz.func46,by kernel_rfl,rfl⟩
instance fn47:FnF Tryz.prog 47:=⟨_,Tryz.func47,by kernel_rfl,rfl⟩
instance fn15:FnF Tryz.prog 15:=⟨_,Tryz.func15,by kernel_rfl,rfl⟩
instance fn49:FnF Tryz.prog 49:=⟨_,Tryz.func49,by kernel_rfl,rfl⟩
instance fn168:FnF Tryz.prog 168:=⟨_,Tryz.func168,by kernel_rfl,rfl⟩
instance fn169:FnF Tryz.prog 169:=⟨_,Tryz.func169,by kernel_rfl,rfl⟩
instance fn16:FnF Tryz.prog 16:=⟨_,Tryz.func16,by kernel_rfl,rfl⟩
instance fn102:FnF Tryz.prog 102:=⟨_,Tryz.func102,by kernel_rfl,rfl⟩
instance fn52:FnF Tryz.prog 52:=⟨_,Tryz.func52,by kernel_rfl,rfl⟩
instance fn57:FnF Tryz.prog 57:=⟨_,Tryz.func57,by kernel_rfl,rfl⟩
noncomputable def s_l27Same (a0:List D_Id) (a1:List D_Id):Option Bool :=
 whileP (fun s1:Int=>cond (decide (s1 < (a0.length:Int))) (Option.bind (idx a0 s1) (fun y3=>Option.bind (s_l8Has a1 (y3.1,y3.2)) (fun y4=>cond (!y4) (Option.map .inr (some false)) (some (.inl (IntKind.wrap .i64 (s1+1))))))) (Option.map .inr (some (decide ((a0.length:Int)=(a1.length:Int)))))) 0
theorem s_l27Same_walk (w:World) (a0:TL T_Id) (a1:TL T_Id) (h0:GT.rd w [] a0) (h1:GT.rd w [] a1) (r:Bool) (hp:s_l27Same (GT.dat a0) (GT.dat a1)=some r):Spec Tryz.prog 47 [(TL.hdr a0),(TL.hdr a1)].toArray w [] (IsV (.bool r)):=by
 refine Spec.intro Tryz.func47 rfl Tryz.ntmps47 rfl ?_
 unfold s_l27Same at hp
 replace hp:=dd hp
 refine s10 ?_
 refine W_while (σ:=Int) GT.dat (fun (v1_0:Int)=>[(5,.int .i64 v1_0)]) (fun (v1_0:Int)=>[]) [(0,_),(1,_)] [] 0 hp sb ms ?_
 clear hp
 rintro v1_0 x1 hp hx1
 replace hp:=dd hp
 refine kq [0,1,5] ?_
 refine s8 ?_
 refine kp [0,1,5,9] ?_
 refine W_cond rfl (fun q2=>?_) (fun q2=>?_)
 ·replace hp:=cond_t q2 hp
  refine s8 ?_
  replace hp:=idx_bind hp;obtain ⟨⟨u3_1,u3_2⟩,hy3,hp⟩:=hp
  refine L_idxA (X:=a0) rfl rfl rfl el85.h (RdT.old h0) hy3 ?_
  refine L_loadW rfl rfl (RdT.at (RdT.old h0) (hy3).2) (by exact agg92.h) ?_
  replace hp:=ba hp;obtain ⟨y4,hy4,hp⟩:=hp
  refine L_callX rfl fn90.h rfl (by exact fun w hw=>s_l8Has_walk w a1 (u3_1,u3_2) (RdT.now (RdT.old h1) hw) (RdT.now (RdT.pair RdT.int RdT.int) hw) _ hy4) ?_
  refine s2 ?_
  refine kp [0,1,5,18] ?_
  refine W_cond rfl (fun q5=>?_) (fun q5=>?_)
  ·replace hp:=cond_t q5 hp
   refine s4 ?_
   replace hp:=map_any hp;obtain ⟨a6,hp,z_6⟩:=hp
   obtain rfl:=hx1 _ z_6
   obtain rfl:=sj hp
   refine s1 ?_
   refine res1 rfl (ResOK.tmp rfl) ⟨rfl,rfl⟩ ms
  ·replace hp:=cond_f q5 hp
   refine s6 ?_
   exact ⟨IntKind.wrap .i64 (v1_0+1),sb,(.sub ms),some_eq hp⟩
 ·replace hp:=cond_f q2 hp
  refine W_exit ?_
  replace hp:=map_any hp;obtain ⟨a7,hp,z_7⟩:=hp
  obtain rfl:=hx1 _ z_7
  refine s9 ?_
  obtain rfl:=sj hp
  refine s1 ?_
  refine res1 rfl (ResOK.tmp rfl) ⟨rfl,rfl⟩ ms
noncomputable def s_Var (a0:Int):Option ByteArray :=
 Option.bind (s_l1In a0 0 562949953421311) (fun y1=>cond (!y1) (some ByteArray.empty) (Option.bind (some ([]:List UInt8)) (fun y4=>whileP (fun s5:Int×(List UInt8)=>cond (decide (128≤s5.1)) (Option.bind (u8P (IntKind.wrap .u8 (IntKind.wrap .i64 (128+(s5.1).tmod 128)))) (fun y7=>Option.bind (appP s5.2 [y7]) (fun y9=>some (.inl ((IntKind.wrap .i64 ((s5.1).tdiv 128),y9)))))) (Option.map .inr (Option.bind (u8P (IntKind.wrap .u8 s5.1)) (fun y11=>Option.bind (appP s5.2 [y11]) (fun y13=>some (strP y13)))))) (a0,y4))))
theorem s_Var_walk (w:World) (a0:Int)  (r:ByteArray) (hp:s_Var a0=some r):Spec Tryz.prog 93 [.int .i64 a0].toArray w [] (IsV (.string r)):=by
 refine Spec.intro Tryz.func93 rfl Tryz.ntmps93 rfl ?_
 unfold s_Var at hp
 replace hp:=dd hp
 refine s8 ?_
 replace hp:=ba hp;obtain ⟨y1,hy1,hp⟩:=hp
 refine L_callX rfl fn63.h rfl (by exact fun w hw=>s_l1In_walk w a0 0 562949953421311  _ hy1) ?_
 refine s2 ?_
 refine kp [0,6] ?_
 refine W_cond rfl (fun q2=>?_) (fun q2=>?_)
 ·replace hp:=cond_t q2 hp
  refine s4 ?_
  obtain rfl:=sj hp
  refine s1 ?_
  refine res1 rfl (ResOK.tmp rfl) ⟨rfl,rfl⟩ ms
 ·replace hp:=cond_f q2 hp
  refine s3 ?_
  replace hp:=ba hp;obtain ⟨y4,hy4,hp⟩:=hp
  refine L_mk0 UInt8 rfl el128.h (fun X3 hdX3=>?_)
  obtain rfl:GT.dat X3=y4:=hdX3.trans (Option.some.inj hy4)
  clear hy4 hdX3
  refine s4 ?_
  refine W_while (σ:=Int×(TL UInt8)) GT.dat (fun ((v5_0,v5_1):Int×(TL UInt8))=>[(0,.int .i64 v5_0),(3,(TL.hdr v5_1))]) (fun ((v5_0,v5_1):Int×(TL UInt8))=>[treeH v5_1]) [] [] (a0,X3) hp sb ms ?_
  clear hp
  rintro ⟨v5_0,v5_1⟩ x5 hp hx5
  replace hp:=dd hp
  refine kq [0,3] ?_
  refine s6 ?_
  refine kp [0,3,9] ?_
  refine W_cond rfl (fun q6=>?_) (fun q6=>?_)
  ·replace hp:=cond_t q6 hp
   refine s8 ?_
   refine L_convInt rfl rfl und5.h (by rw [und3.h];rfl) ?_
   replace hp:=ba hp;obtain ⟨y7,hy7,hp⟩:=hp
   have ey7:=u8P_some hy7
   try simp only [dat_u8] at ey7
   try simp only [ey7]
   refine L_buildSlice1 rfl rfl el128.h rfl (by decide) (by decide) rfl (fun bb15=>?_)
   replace hp:=ba hp;obtain ⟨y9,hy9,hp⟩:=hp
   refine L_app1F (X:=v5_1) (y7:UInt8) rfl rfl rfl el128.h rfl rfl pk mm  hy9 (by decide) (fun X8 hdX8=>?_)
   subst hdX8
   refine s7 ?_
   exact ⟨(IntKind.wrap .i64 ((v5_0).tdiv 128),X8),sb,(.sub ms),some_eq hp⟩
  ·replace hp:=cond_f q6 hp
   refine W_exit ?_
   replace hp:=map_any hp;obtain ⟨a10,hp,z_10⟩:=hp
   obtain rfl:=hx5 _ z_10
   refine s4 ?_
   refine L_convInt rfl rfl und5.h (by rw [und3.h];rfl) ?_
   replace hp:=ba hp;obtain ⟨y11,hy11,hp⟩:=hp
   have ey11:=u8P_some hy11
   try simp only [dat_u8] at ey11
   try simp only [ey11]
   refine L_buildSlice1 rfl rfl el128.h rfl (by decide) (by decide) rfl (fun bb22=>?_)
   replace hp:=ba hp;obtain ⟨y13,hy13,hp⟩:=hp
   refine L_app1F (X:=v5_1) (y11:UInt8) rfl rfl rfl el128.h rfl rfl pk mm  hy13 (by decide) (fun X12 hdX12=>?_)
   subst hdX12
   refine L_toStr (X:=X12) rfl rfl und128.h und5.h und9.h (RdT.tree mm) ?_
   refine s2 ?_
   obtain rfl:=sj hp
   refine s1 ?_
   refine res1 rfl (ResOK.tmp rfl) ⟨rfl,rfl⟩ ms
noncomputable def s_l4Piece (a0:ByteArray):Option ByteArray :=
 Option.bind (s_Var (a0.size:Int)) (fun y1=>Option.bind (catP y1 a0) (fun y2=>some y2))
theorem s_l4Piece_walk (w:World) (a0:ByteArray)  (r:ByteArray) (hp:s_l4Piece a0=some r):Spec Tryz.prog 94 [.string a0].toArray w [] (IsV (.string r)):=by
 refine Spec.intro Tryz.func94 rfl Tryz.ntmps94 rfl ?_
 unfold s_l4Piece at hp
 replace hp:=dd hp
 refine s8 ?_
 replace hp:=ba hp;obtain ⟨y1,hy1,hp⟩:=hp
 refine L_callX rfl fn93.h rfl (by exact fun w hw=>s_Var_walk w (a0.size:Int)  _ hy1) ?_
 refine s1 ?_
 replace hp:=ba hp;obtain ⟨y2,hy2,hp⟩:=hp
 refine L_binV rfl rfl rfl (bv_saddP hy2) ?_
 refine s2 ?_
 obtain rfl:=sj hp
 refine s1 ?_
 refine res1 rfl (ResOK.tmp rfl) ⟨rfl,rfl⟩ ms
noncomputable def s_l26Texts (a0:List ByteArray):Option ByteArray :=
 whileP (fun s1:ByteArray×Int=>cond (decide (s1.2 < (a0.length:Int))) (Option.bind (idx a0 s1.2) (fun y3=>Option.bind (s_l4Piece y3) (fun y4=>Option.bind (catP s1.1 y4) (fun y5=>some (.inl ((y5,IntKind.wrap .i64 (s1.2+1)))))))) (Option.map .inr (some s1.1))) (ByteArray.empty,0)
theorem s_l26Texts_walk (w:World) (a0:TL ByteArray) (h0:GT.rd w [] a0) (r:ByteArray) (hp:s_l26Texts (GT.dat a0)=some r):Spec Tryz.prog 95 [(TL.hdr a0)].toArray w [] (IsV (.string r)):=by
 refine Spec.intro Tryz.func95 rfl Tryz.ntmps95 rfl ?_
 unfold s_l26Texts at hp
 replace hp:=dd hp
 refine s14 ?_
 refine W_while (σ:=ByteArray×Int) GT.dat (fun ((v1_0,v1_1):ByteArray×Int)=>[(3,.string v1_0),(4,.int .i64 v1_1)]) (fun ((v1_0,v1_1):ByteArray×Int)=>[]) [(0,_)] [] (ByteArray.empty,0) hp sb ms ?_
 clear hp
 rintro ⟨v1_0,v1_1⟩ x1 hp hx1
 replace hp:=dd hp
 refine kq [0,3,4] ?_
 refine s8 ?_
 refine kp [0,3,4,8] ?_
 refine W_cond rfl (fun q2=>?_) (fun q2=>?_)
 ·replace hp:=cond_t q2 hp
  refine s7 ?_
  replace hp:=idx_bind hp;obtain ⟨u3,hy3,hp⟩:=hp
  refine L_idxA (X:=a0) rfl rfl rfl el65.h (RdT.old h0) hy3 ?_
  refine L_load0 rfl rfl (RdT.at (RdT.old h0) (hy3).2) one9.h rfl ?_
  replace hp:=ba hp;obtain ⟨y4,hy4,hp⟩:=hp
  refine L_callX rfl fn94.h rfl (by exact fun w hw=>s_l4Piece_walk w u3  _ hy4) ?_
  replace hp:=ba hp;obtain ⟨y5,hy5,hp⟩:=hp
  refine L_binV rfl rfl rfl (bv_saddP hy5) ?_
  refine s7 ?_
  exact ⟨(y5,IntKind.wrap .i64 (v1_1+1)),sb,(.sub ms),some_eq hp⟩
 ·replace hp:=cond_f q2 hp
  refine W_exit ?_
  replace hp:=map_any hp;obtain ⟨a6,hp,z_6⟩:=hp
  obtain rfl:=hx1 _ z_6
  refine s5 ?_
  obtain rfl:=sj hp
  refine s1 ?_
  refine res1 rfl (ResOK.tmp rfl) ⟨rfl,rfl⟩ ms
noncomputable def s_ShowState (a0:D_State):Option ByteArray :=
 Option.bind (s_StateOk (a0.1,a0.2)) (fun y1=>cond (!y1) (some ByteArray.empty) (Option.bind (s_Var (a0.1.length:Int)) (fun y3=>whileP (fun s4:ByteArray×Int=>cond (decide (s4.2 < (a0.1.length:Int))) (Option.bind (idx a0.1 s4.2) (fun y6=>Option.bind (s_l4Piece y6.1) (fun y7=>Option.bind (catP s4.1 y7) (fun y8=>Option.bind (s_Var (y6.2.length:Int)) (fun y9=>Option.bind (catP y8 y9) (fun y10=>whileP (fun s11:ByteArray×Int=>cond (decide (s11.2 < (y6.2.length:Int))) (Option.bind (idx y6.2 s11.2) (fun y13=>Option.bind (s_l4Piece y13.1) (fun y14=>Option.bind (catP s11.1 y14) (fun y15=>Option.bind (s_l4Piece y13.2.1) (fun y16=>Option.bind (catP y15 y16) (fun y17=>Option.bind (s_Var (y13.2.2.length:Int)) (fun y18=>Option.bind (catP y17 y18) (fun y19=>Option.bind (s_l26Texts y13.2.2) (fun y20=>Option.bind (catP y19 y20) (fun y21=>some (.inl ((y21,IntKind.wrap .i64 (s11.2+1)))))))))))))) (Option.map .inr (some (.inl ((s11.1,IntKind.wrap .i64 (s4.2+1))))))) (y10,0))))))) (Option.map .inr (Option.bind (s_Var (a0.2.length:Int)) (fun y24=>Option.bind (catP s4.1 y24) (fun y25=>whileP (fun s26:ByteArray×Int=>cond (decide (s26.2 < (a0.2.length:Int))) (Option.bind (idx a0.2 s26.2) (fun y28=>Option.bind (s_Var y28.1) (fun y29=>Option.bind (catP s26.1 y29) (fun y30=>Option.bind (idx a0.2 s26.2) (fun y31=>Option.bind (s_Var y31.2.1) (fun y32=>Option.bind (catP y30 y32) (fun y33=>Option.bind (idx a0.2 s26.2) (fun y34=>Option.bind (s_l4Piece y34.2.2) (fun y35=>Option.bind (catP y33 y35) (fun y36=>some (.inl ((y36,IntKind.wrap .i64 (s26.2+1)))))))))))))) (Option.map .inr (some s26.1))) (y25,0)))))) (y3,0))))
theorem s_ShowState_walk (w:World) (a0:T_State) (h0:GT.rd w [] a0) (r:ByteArray) (hp:s_ShowState (GT.dat a0)=some r):Spec Tryz.prog 49 [.agg (GT.cells a0).toArray].toArray w [] (IsV (.string r)):=by
 obtain ⟨a0_1,a0_2⟩:=a0
 change Spec _ _ ([Value.agg #[(TL.hdr a0_1),(TL.hdr a0_2)]]:List Value).toArray w [] _
 refine Spec.intro Tryz.func49 rfl Tryz.ntmps49 rfl ?_
 unfold s_ShowState at hp
 replace hp:=dd hp
 refine s2 ?_
 refine bx fun bk1=>?_
 refine s6 ?_
 replace hp:=ba hp;obtain ⟨y1,hy1,hp⟩:=hp
 refine L_callX rfl fn92.h rfl (by exact fun w hw=>s_StateOk_walk w (a0_1,a0_2) (RdT.now (RdT.pair (RdT.old h0.1) (RdT.old h0.2)) hw) _ hy1) ?_
 refine s2 ?_
 refine kp [1,11] ?_
 refine W_cond rfl (fun q2=>?_) (fun q2=>?_)
 ·replace hp:=cond_t q2 hp
  refine s4 ?_
  obtain rfl:=sj hp
  refine s1 ?_
  refine res1 rfl (ResOK.tmp rfl) ⟨rfl,rfl⟩ ms
 ·replace hp:=cond_f q2 hp
  refine s5 ?_
  refine L_load (fo:=0) rfl rfl (RdC.blk mm) one39.h rfl ?_
  refine s1 ?_
  replace hp:=ba hp;obtain ⟨y3,hy3,hp⟩:=hp
  refine L_callX rfl fn93.h rfl (by exact fun w hw=>s_Var_walk w ((GT.dat a0_1).length:Int)  _ hy3) ?_
  refine s8 ?_
  refine W_while (σ:=ByteArray×Int) GT.dat (fun ((v4_0,v4_1):ByteArray×Int)=>[(3,.string v4_0),(4,.int .i64 v4_1)]) (fun ((v4_0,v4_1):ByteArray×Int)=>[]) [(1,_)] [blk bk1 _ _] (y3,0) hp sb ms ?_
  clear hp
  rintro ⟨v4_0,v4_1⟩ x4 hp hx4
  replace hp:=dd hp
  refine kq [1,3,4] ?_
  refine s6 ?_
  refine L_load (fo:=0) rfl rfl (RdC.blk mm) one39.h rfl ?_
  refine s3 ?_
  refine kp [1,3,4,22] ?_
  refine W_cond rfl (fun q5=>?_) (fun q5=>?_)
  ·replace hp:=cond_t q5 hp
   refine s7 ?_
   refine L_load (fo:=0) rfl rfl (RdC.blk mm) one39.h rfl ?_
   refine s1 ?_
   replace hp:=idx_bind hp;obtain ⟨⟨u6_1,u6_2⟩,hy6,hp⟩:=hp
   refine L_idxA (X:=a0_1) rfl rfl rfl el39.h (RdT.old h0.1) hy6 ?_
   refine L_loadW rfl rfl (RdT.at (RdT.old h0.1) (hy6).2) (by exact agg144.h) ?_
   refine al fun bk5=>?_
   refine s3 ?_
   replace hp:=ba hp;obtain ⟨y7,hy7,hp⟩:=hp
   replace hp:=ba hp;obtain ⟨y8,hy8,hp⟩:=hp
   replace hp:=ba hp;obtain ⟨y9,hy9,hp⟩:=hp
   replace hp:=ba hp;obtain ⟨y10,hy10,hp⟩:=hp
   refine W_D0 [3] mix (by kernel_rfl) rfl ?_
   refine s3 ?_
   refine D_callX GC.none fn94.h (OpVs.cons (OpV.t rfl) (OpVs.nil)) (by exact fun hg w F hF hM=>s_l4Piece_walk w u6_1  _ hy7) ?_
   refine D_bin GC.none (OpV.t rfl) (OpV.t rfl) (fun hg=>(bv_saddP hy8)) ?_
   refine s2 ?_
   refine D_lenP (X:=u6_2) GC.none (OpV.t rfl) el142.h ?_
   refine D_callX GC.none fn93.h (OpVs.cons (OpV.t rfl) (OpVs.nil)) (by exact fun hg w F hF hM=>s_Var_walk w ((GT.dat u6_2).length:Int)  _ hy9) ?_
   refine D_bin GC.none (OpV.t rfl) (OpV.t rfl) (fun hg=>(bv_saddP hy10)) ?_
   refine s19 ?_
   refine W_while (σ:=ByteArray×Int) GT.dat (fun ((v11_0,v11_1):ByteArray×Int)=>[(3,.string v11_0),(6,.int .i64 v11_1)]) (fun ((v11_0,v11_1):ByteArray×Int)=>[]) [(1,_),(4,_),(5,_)] [blk bk1 _ _,blk bk5 _ _] (y10,0) hp sb ms ?_
   clear hp
   rintro ⟨v11_0,v11_1⟩ x11 hp hx11
   replace hp:=dd hp
   refine kq [1,3,4,5,6] ?_
   refine s9 ?_
   refine kp [1,3,4,5,6,45] ?_
   refine W_cond rfl (fun q12=>?_) (fun q12=>?_)
   ·replace hp:=cond_t q12 hp
    refine s8 ?_
    replace hp:=idx_bind hp;obtain ⟨⟨u13_1,u13_2,u13_3⟩,hy13,hp⟩:=hp
    refine L_idxA (X:=u6_2) rfl rfl rfl el142.h (RdT.snd (RdT.of (RdT.old h0.1) (hy6).2)) hy13 ?_
    refine L_loadW rfl rfl (RdT.at (RdT.snd (RdT.of (RdT.old h0.1) (hy6).2)) (hy13).2) (by exact agg147.h) ?_
    refine al fun bk7=>?_
    refine s2 ?_
    replace hp:=ba hp;obtain ⟨y14,hy14,hp⟩:=hp
    replace hp:=ba hp;obtain ⟨y15,hy15,hp⟩:=hp
    replace hp:=ba hp;obtain ⟨y16,hy16,hp⟩:=hp
    replace hp:=ba hp;obtain ⟨y17,hy17,hp⟩:=hp
    replace hp:=ba hp;obtain ⟨y18,hy18,hp⟩:=hp
    replace hp:=ba hp;obtain ⟨y19,hy19,hp⟩:=hp
    replace hp:=ba hp;obtain ⟨y20,hy20,hp⟩:=hp
    replace hp:=ba hp;obtain ⟨y21,hy21,hp⟩:=hp
    refine W_D0 [3] mix (by kernel_rfl) rfl ?_
    refine s3 ?_
    refine D_callX GC.none fn94.h (OpVs.cons (OpV.t rfl) (OpVs.nil)) (by exact fun hg w F hF hM=>s_l4Piece_walk w u13_1  _ hy14) ?_
    refine D_bin GC.none (OpV.t rfl) (OpV.t rfl) (fun hg=>(bv_saddP hy15)) ?_
    refine s2 ?_
    refine D_callX GC.none fn94.h (OpVs.cons (OpV.t rfl) (OpVs.nil)) (by exact fun hg w F hF hM=>s_l4Piece_walk w u13_2  _ hy16) ?_
    refine D_bin GC.none (OpV.t rfl) (OpV.t rfl) (fun hg=>(bv_saddP hy17)) ?_
    refine s2 ?_
    refine D_lenP (X:=u13_3) GC.none (OpV.t rfl) el65.h ?_
    refine D_callX GC.none fn93.h (OpVs.cons (OpV.t rfl) (OpVs.nil)) (by exact fun hg w F hF hM=>s_Var_walk w ((GT.dat u13_3).length:Int)  _ hy18) ?_
    refine D_bin GC.none (OpV.t rfl) (OpV.t rfl) (fun hg=>(bv_saddP hy19)) ?_
    refine s2 ?_
    refine D_callX GC.none fn95.h (OpVs.cons (OpV.t rfl) (OpVs.nil)) (by exact fun hg w F hF hM=>s_l26Texts_walk w u13_3 (RdT.nowS (RdT.snd (RdT.snd (RdT.of (RdT.snd (RdT.of (RdT.old h0.1) (hy6).2)) (hy13).2))) hF hM) _ hy20) ?_
    refine D_bin GC.none (OpV.t rfl) (OpV.t rfl) (fun hg=>(bv_saddP hy21)) ?_
    refine s20 ?_
    refine s7 ?_
    exact ⟨(y21,IntKind.wrap .i64 (v11_1+1)),sb,(.sub ms),some_eq hp⟩
   ·replace hp:=cond_f q12 hp
    refine W_exit ?_
    replace hp:=map_any hp;obtain ⟨a22,hp,z_22⟩:=hp
    obtain rfl:=hx11 _ z_22
    refine s5 ?_
    exact ⟨(v11_0,IntKind.wrap .i64 (v4_1+1)),sb,(.sub ms),some_eq hp⟩
  ·replace hp:=cond_f q5 hp
   refine W_exit ?_
   replace hp:=map_any hp;obtain ⟨a23,hp,z_23⟩:=hp
   obtain rfl:=hx4 _ z_23
   refine s6 ?_
   replace hp:=ba hp;obtain ⟨y24,hy24,hp⟩:=hp
   refine L_callX rfl fn93.h rfl (by exact fun w hw=>s_Var_walk w ((GT.dat a0_2).length:Int)  _ hy24) ?_
   replace hp:=ba hp;obtain ⟨y25,hy25,hp⟩:=hp
   refine L_binV rfl rfl rfl (bv_saddP hy25) ?_
   refine s8 ?_
   refine W_while (σ:=ByteArray×Int) GT.dat (fun ((v26_0,v26_1):ByteArray×Int)=>[(3,.string v26_0),(8,.int .i64 v26_1)]) (fun ((v26_0,v26_1):ByteArray×Int)=>[]) [(1,_)] [blk bk1 _ _] (y25,0) hp sb ms ?_
   clear hp
   rintro ⟨v26_0,v26_1⟩ x26 hp hx26
   replace hp:=dd hp
   refine kq [1,3,8] ?_
   refine s9 ?_
   refine kp [1,3,8,81] ?_
   refine W_cond rfl (fun q27=>?_) (fun q27=>?_)
   ·replace hp:=cond_t q27 hp
    refine s3 ?_
    replace hp:=idx_bind hp;obtain ⟨⟨u28_1,u28_2,u28_3⟩,hy28,hp⟩:=hp
    replace hp:=ba hp;obtain ⟨y29,hy29,hp⟩:=hp
    replace hp:=ba hp;obtain ⟨y30,hy30,hp⟩:=hp
    replace hp:=idx_bind hp;obtain ⟨u31,hy31,hp⟩:=hp
    obtain rfl:(u28_1,u28_2,u28_3)=u31:=Option.some.inj (hy28.2.symm.trans hy31.2)
    replace hp:=ba hp;obtain ⟨y32,hy32,hp⟩:=hp
    replace hp:=ba hp;obtain ⟨y33,hy33,hp⟩:=hp
    replace hp:=idx_bind hp;obtain ⟨u34,hy34,hp⟩:=hp
    obtain rfl:(u28_1,u28_2,u28_3)=u34:=Option.some.inj (hy28.2.symm.trans hy34.2)
    replace hp:=ba hp;obtain ⟨y35,hy35,hp⟩:=hp
    replace hp:=ba hp;obtain ⟨y36,hy36,hp⟩:=hp
    refine W_D0 [3] mix (by kernel_rfl) rfl ?_
    refine s4 ?_
    refine D_idxA (X:=a0_2) GC.none (OpV.t rfl) (OpV.t rfl) el27.h (RdT.old h0.2) (fun _=>hy28) ?_
    refine s1 ?_
    refine D_load GC.none (OpV.t rfl) (fun hg=>RdT.at (RdT.old h0.2) (hy28).2) one3.h rfl ?_
    refine D_callX GC.none fn93.h (OpVs.cons (OpV.t rfl) (OpVs.nil)) (by exact fun hg w F hF hM=>s_Var_walk w u28_1  _ hy29) ?_
    refine D_bin GC.none (OpV.t rfl) (OpV.t rfl) (fun hg=>(bv_saddP hy30)) ?_
    refine s3 ?_
    refine D_idxA (X:=a0_2) GC.none (OpV.t rfl) (OpV.t rfl) el27.h (RdT.old h0.2) (fun _=>hy28) ?_
    refine s1 ?_
    refine D_load GC.none (OpV.t rfl) (fun hg=>RdT.at (RdT.old h0.2) (hy28).2) one3.h rfl ?_
    refine D_callX GC.none fn93.h (OpVs.cons (OpV.t rfl) (OpVs.nil)) (by exact fun hg w F hF hM=>s_Var_walk w u28_2  _ hy32) ?_
    refine D_bin GC.none (OpV.t rfl) (OpV.t rfl) (fun hg=>(bv_saddP hy33)) ?_
    refine s3 ?_
    refine D_idxA (X:=a0_2) GC.none (OpV.t rfl) (OpV.t rfl) el27.h (RdT.old h0.2) (fun _=>hy28) ?_
    refine s1 ?_
    refine D_load GC.none (OpV.t rfl) (fun hg=>RdT.at (RdT.old h0.2) (hy28).2) one9.h rfl ?_
    refine D_callX GC.none fn94.h (OpVs.cons (OpV.t rfl) (OpVs.nil)) (by exact fun hg w F hF hM=>s_l4Piece_walk w u28_3  _ hy35) ?_
    refine D_bin GC.none (OpV.t rfl) (OpV.t rfl) (fun hg=>(bv_saddP hy36)) ?_
    refine s20 ?_
    refine s14 ?_
    exact ⟨(y36,IntKind.wrap .i64 (v26_1+1)),sb,(.sub ms),some_eq hp⟩
   ·replace hp:=cond_f q27 hp
    refine W_exit ?_
    replace hp:=map_any hp;obtain ⟨a37,hp,z_37⟩:=hp
    obtain rfl:=hx26 _ z_37
    refine s5 ?_
    obtain rfl:=sj hp
    refine s1 ?_
    refine res1 rfl (ResOK.tmp rfl) ⟨rfl,rfl⟩ ms
noncomputable def s_Alike (a0:D_ENet):Option Bool :=
 Option.bind (s_ENetOk (a0.1,a0.2)) (fun y1=>cond (!y1) (some false) (whileP (fun s3:Int=>cond (decide (s3 < 3)) (whileP (fun s5:Int=>cond (decide (s5 < s3)) (Option.bind (idx a0.1 s3) (fun y7=>Option.bind (idx a0.1 s5) (fun y8=>Option.bind (s_ExecOrder y7.2.2.1) (fun y9=>Option.bind (s_ExecOrder y8.2.2.1) (fun y10=>Option.bind (s_l27Same y9 y10) (fun y11=>cond (!y11) (some (.inl (IntKind.wrap .i64 (s5+1)))) (Option.bind (s_NodeState (y7.1,y7.2.1,y7.2.2.1,y7.2.2.2)) (fun y13=>Option.bind (s_NodeState (y8.1,y8.2.1,y8.2.2.1,y8.2.2.2)) (fun y14=>Option.bind (s_ShowState (y13.1,([]:List D_Said))) (fun y15=>Option.bind (s_ShowState (y14.1,([]:List D_Said))) (fun y16=>cond (!decide (y15=y16)) (Option.map .inr (Option.map .inr (some false))) (some (.inl (IntKind.wrap .i64 (s5+1))))))))))))))) (Option.map .inr (some (.inl (IntKind.wrap .i64 (s3+1)))))) 0) (Option.map .inr (some true))) 0))
theorem s_Alike_walk (w:World) (a0:T_ENet) (h0:GT.rd w [] a0) (r:Bool) (hp:s_Alike (GT.dat a0)=some r):Spec Tryz.prog 21 [.agg (GT.cells a0).toArray].toArray w [] (IsV (.bool r)):=by
 obtain ⟨a0_1,a0_2⟩:=a0
 change Spec _ _ ([Value.agg #[(TL.hdr a0_1),(TL.hdr a0_2)]]:List Value).toArray w [] _
 refine Spec.intro Tryz.func21 rfl Tryz.ntmps21 rfl ?_
 unfold s_Alike at hp
 replace hp:=dd hp
 refine s2 ?_
 refine bx fun bk1=>?_
 refine s6 ?_
 replace hp:=ba hp;obtain ⟨y1,hy1,hp⟩:=hp
 refine L_callX rfl fn46.h rfl (by exact fun w hw=>s_ENetOk_walk w (a0_1,a0_2) (RdT.now (RdT.pair (RdT.old h0.1) (RdT.old h0.2)) hw) _ hy1) ?_
 refine s2 ?_
 refine kp [1,11] ?_
 refine W_cond rfl (fun q2=>?_) (fun q2=>?_)
 ·replace hp:=cond_t q2 hp
  refine s4 ?_
  obtain rfl:=sj hp
  refine s1 ?_
  refine res1 rfl (ResOK.tmp rfl) ⟨rfl,rfl⟩ ms
 ·replace hp:=cond_f q2 hp
  refine s7 ?_
  refine W_while (σ:=Int) GT.dat (fun (v3_0:Int)=>[(3,.int .i64 v3_0)]) (fun (v3_0:Int)=>[]) [(1,_)] [blk bk1 _ _] 0 hp sb ms ?_
  clear hp
  rintro v3_0 x3 hp hx3
  replace hp:=dd hp
  refine kq [1,3] ?_
  refine s6 ?_
  refine kp [1,3,13] ?_
  refine W_cond rfl (fun q4=>?_) (fun q4=>?_)
  ·replace hp:=cond_t q4 hp
   refine s8 ?_
   refine W_while (σ:=Int) GT.dat (fun (v5_0:Int)=>[(4,.int .i64 v5_0)]) (fun (v5_0:Int)=>[]) [(1,_),(3,_)] [blk bk1 _ _] 0 hp sb ms ?_
   clear hp
   rintro v5_0 x5 hp hx5
   replace hp:=dd hp
   refine kq [1,3,4] ?_
   refine s7 ?_
   refine kp [1,3,4,18] ?_
   refine W_cond rfl (fun q6=>?_) (fun q6=>?_)
   ·replace hp:=cond_t q6 hp
    refine s8 ?_
    replace hp:=idx_bind hp;obtain ⟨⟨u7_1,u7_2,u7_3,u7_4⟩,hy7,hp⟩:=hp
    refine L_idxA (X:=a0_1) rfl rfl rfl el53.h (RdT.old h0.1) hy7 ?_
    refine L_loadW rfl rfl (RdT.at (RdT.old h0.1) (hy7).2) (by exact agg32.h) ?_
    refine al fun bk5=>?_
    refine s7 ?_
    replace hp:=idx_bind hp;obtain ⟨⟨u8_1,u8_2,u8_3,u8_4⟩,hy8,hp⟩:=hp
    refine L_idxA (X:=a0_1) rfl rfl rfl el53.h (RdT.old h0.1) hy8 ?_
    refine L_loadW rfl rfl (RdT.at (RdT.old h0.1) (hy8).2) (by exact agg32.h) ?_
    refine al fun bk6=>?_
    refine s4 ?_
    replace hp:=ba hp;obtain ⟨y9,hy9,hp⟩:=hp
    refine W_DS (pre:=[_,_,_,_,_]) (suf:=[_,_,_]) [33,35] [] _ pc mix (by kernel_rfl) (by kernel_rfl) rfl ?_
    refine s2 ?_
    refine D_call1R (fun v M=>∃ (x0:TL T_Id),v=(TL.hdr x0)∧GT.dat x0=y9∧M=[treeH x0]) fn48.h (OpVs.cons (OpV.t rfl) (OpVs.nil)) (by exact fun w F hF hM=>s_ExecOrder_walk w u7_3 (RdT.nowS (RdT.fst (RdT.snd (RdT.snd (RdT.of (RdT.old h0.1) (hy7).2)))) hF hM) _ hy9) ?_
    refine s5 ?_
    refine Give_R rfl rfl ?_
    rintro _ _ ⟨y9x0,rfl,rfl,rfl⟩
    refine s3 ?_
    refine sc ?_
    replace hp:=dd hp
    replace hp:=ba hp;obtain ⟨y10,hy10,hp⟩:=hp
    refine L_callR rfl fn48.h rfl (by exact fun w hw=>s_ExecOrder_walk w u8_3 (RdT.now (RdT.fst (RdT.snd (RdT.snd (RdT.of (RdT.old h0.1) (hy8).2)))) hw) _ hy10) ?_
    rintro _ _ ⟨y10x0,rfl,rfl,rfl⟩
    refine sc ?_
    replace hp:=dd hp
    replace hp:=ba hp;obtain ⟨y11,hy11,hp⟩:=hp
    refine L_callX rfl fn47.h rfl (by exact fun w hw=>s_l27Same_walk w y9x0 y10x0 (RdT.now (RdT.tree mm) hw) (RdT.now (RdT.tree mm) hw) _ hy11) ?_
    refine s2 ?_
    refine kp [1,3,4,5,6,38] ?_
    refine W_cond rfl (fun q12=>?_) (fun q12=>?_)
    ·replace hp:=cond_t q12 hp
     refine W_exit ?_
     refine s5 ?_
     exact ⟨IntKind.wrap .i64 (v5_0+1),sb,(.sub ms),some_eq hp⟩
    ·replace hp:=cond_f q12 hp
     refine s4 ?_
     replace hp:=ba hp;obtain ⟨y13,hy13,hp⟩:=hp
     refine L_callR rfl fn15.h rfl (by exact fun w hw=>s_NodeState_walk w (u7_1,u7_2,u7_3,u7_4) (RdT.now (RdT.pair RdT.int (RdT.pair RdT.int (RdT.pair (RdT.fst (RdT.snd (RdT.snd (RdT.of (RdT.old h0.1) (hy7).2)))) (RdT.snd (RdT.snd (RdT.snd (RdT.of (RdT.old h0.1) (hy7).2))))))) hw) _ hy13) ?_
     rintro _ _ ⟨⟨y13x0_1,y13x0_2⟩,rfl,rfl,rfl⟩
     refine sc ?_
     replace hp:=dd hp
     refine xL ((y13x0_1,y13x0_2):T_State) ?_
     refine L_fieldA (us:=[(TL.hdr y13x0_1)]) rfl rfl (show fldA _ 43 0=some (0,1) by kernel_rfl) rfl ?_
     refine L_build (xs:=[(0,.tmp 41)]) (cs:=[(TL.hdr y13x0_1),(TL.hdr (TL.nil T_Said 0))]) rfl rfl bld43.h rfl ?_
     refine al fun bk7=>?_
     refine s5 ?_
     replace hp:=ba hp;obtain ⟨y14,hy14,hp⟩:=hp
     refine L_callR rfl fn15.h rfl (by exact fun w hw=>s_NodeState_walk w (u8_1,u8_2,u8_3,u8_4) (RdT.now (RdT.pair RdT.int (RdT.pair RdT.int (RdT.pair (RdT.fst (RdT.snd (RdT.snd (RdT.of (RdT.old h0.1) (hy8).2)))) (RdT.snd (RdT.snd (RdT.snd (RdT.of (RdT.old h0.1) (hy8).2))))))) hw) _ hy14) ?_
     rintro _ _ ⟨⟨y14x0_1,y14x0_2⟩,rfl,rfl,rfl⟩
     refine sc ?_
     replace hp:=dd hp
     refine xL ((y14x0_1,y14x0_2):T_State) ?_
     refine L_fieldA (us:=[(TL.hdr y14x0_1)]) rfl rfl (show fldA _ 43 0=some (0,1) by kernel_rfl) rfl ?_
     refine L_build (xs:=[(0,.tmp 45)]) (cs:=[(TL.hdr y14x0_1),(TL.hdr (TL.nil T_Said 0))]) rfl rfl bld43.h rfl ?_
     refine al fun bk8=>?_
     refine s3 ?_
     replace hp:=ba hp;obtain ⟨y15,hy15,hp⟩:=hp
     replace hp:=ba hp;obtain ⟨y16,hy16,hp⟩:=hp
     refine W_D0 [51] mix (by kernel_rfl) rfl ?_
     refine s1 ?_
     refine D_callX GC.none fn49.h (OpVs.cons (OpV.t rfl) (OpVs.nil)) (by exact fun hg w F hF hM=>s_ShowState_walk w (y13x0_1,(TL.nil T_Said 0)) (RdT.nowS (RdT.pair (RdT.tree mm) (RdT.nil 0)) hF hM) _ hy15) ?_
     refine s1 ?_
     refine D_callX GC.none fn49.h (OpVs.cons (OpV.t rfl) (OpVs.nil)) (by exact fun hg w F hF hM=>s_ShowState_walk w (y14x0_1,(TL.nil T_Said 0)) (RdT.nowS (RdT.pair (RdT.tree mm) (RdT.nil 0)) hF hM) _ hy16) ?_
     refine s8 ?_
     refine kp [1,3,4,51] ?_
     refine W_cond rfl (fun q17=>?_) (fun q17=>?_)
     ·replace hp:=cond_t q17 hp
      refine s4 ?_
      replace hp:=map_any hp;obtain ⟨a18,hp,z_18⟩:=hp
      obtain rfl:=hx5 _ z_18
      replace hp:=map_any hp;obtain ⟨a19,hp,z_19⟩:=hp
      obtain rfl:=hx3 _ z_19
      obtain rfl:=sj hp
      refine s1 ?_
      refine res1 rfl (ResOK.tmp rfl) ⟨rfl,rfl⟩ ms
     ·replace hp:=cond_f q17 hp
      refine s6 ?_
      exact ⟨IntKind.wrap .i64 (v5_0+1),sb,(.sub ms),some_eq hp⟩
   ·replace hp:=cond_f q6 hp
    refine W_exit ?_
    replace hp:=map_any hp;obtain ⟨a20,hp,z_20⟩:=hp
    obtain rfl:=hx5 _ z_20
    refine s5 ?_
    exact ⟨IntKind.wrap .i64 (v3_0+1),sb,(.sub ms),some_eq hp⟩
  ·replace hp:=cond_f q4 hp
   refine W_exit ?_
   replace hp:=map_any hp;obtain ⟨a21,hp,z_21⟩:=hp
   obtain rfl:=hx3 _ z_21
   refine s4 ?_
   obtain rfl:=sj hp
   refine s1 ?_
   refine res1 rfl (ResOK.tmp rfl) ⟨rfl,rfl⟩ ms
noncomputable def i_Var (a0:Int):Option ByteArray :=
 Option.bind (i_within a0 0 562949953421311) (fun y1=>cond (!y1) (some ByteArray.empty) (Option.bind (some ([]:List UInt8)) (fun y4=>whileP (fun s5:Int×(List UInt8)=>cond (decide (127 < s5.1)) (Option.bind (u8P (IntKind.wrap .u8 (bits .or .i64 (bits .and .i64 s5.1 127) 128))) (fun y7=>Option.bind (appP s5.2 [y7]) (fun y9=>some (.inl (((s5.1 / 2 ^ (7:Int).toNat),y9)))))) (Option.map .inr (Option.bind (u8P (IntKind.wrap .u8 s5.1)) (fun y11=>Option.bind (appP s5.2 [y11]) (fun y13=>some (strP y13)))))) (a0,y4))))
theorem i_Var_walk (w:World) (a0:Int)  (r:ByteArray) (hp:i_Var a0=some r):Spec Tryz.prog 168 [.int .i64 a0].toArray w [] (IsV (.string r)):=by
 refine Spec.intro Tryz.func168 rfl Tryz.ntmps168 rfl ?_
 unfold i_Var at hp
 replace hp:=dd hp
 refine s8 ?_
 replace hp:=ba hp;obtain ⟨y1,hy1,hp⟩:=hp
 refine L_callX rfl fn72.h rfl (by exact fun w hw=>i_within_walk w a0 0 562949953421311  _ hy1) ?_
 refine s2 ?_
 refine kp [0,6] ?_
 refine W_cond rfl (fun q2=>?_) (fun q2=>?_)
 ·replace hp:=cond_t q2 hp
  refine s4 ?_
  obtain rfl:=sj hp
  refine s1 ?_
  refine res1 rfl (ResOK.tmp rfl) ⟨rfl,rfl⟩ ms
 ·replace hp:=cond_f q2 hp
  refine s3 ?_
  replace hp:=ba hp;obtain ⟨y4,hy4,hp⟩:=hp
  refine L_mk0 UInt8 rfl el128.h (fun X3 hdX3=>?_)
  obtain rfl:GT.dat X3=y4:=hdX3.trans (Option.some.inj hy4)
  clear hy4 hdX3
  refine s4 ?_
  refine W_while (σ:=Int×(TL UInt8)) GT.dat (fun ((v5_0,v5_1):Int×(TL UInt8))=>[(0,.int .i64 v5_0),(3,(TL.hdr v5_1))]) (fun ((v5_0,v5_1):Int×(TL UInt8))=>[treeH v5_1]) [] [] (a0,X3) hp sb ms ?_
  clear hp
  rintro ⟨v5_0,v5_1⟩ x5 hp hx5
  replace hp:=dd hp
  refine kq [0,3] ?_
  refine s6 ?_
  refine kp [0,3,9] ?_
  refine W_cond rfl (fun q6=>?_) (fun q6=>?_)
  ·replace hp:=cond_t q6 hp
   refine s8 ?_
   refine L_convInt rfl rfl und5.h (by rw [und3.h];rfl) ?_
   replace hp:=ba hp;obtain ⟨y7,hy7,hp⟩:=hp
   have ey7:=u8P_some hy7
   try simp only [dat_u8] at ey7
   try simp only [ey7]
   refine L_buildSlice1 rfl rfl el128.h rfl (by decide) (by decide) rfl (fun bb15=>?_)
   replace hp:=ba hp;obtain ⟨y9,hy9,hp⟩:=hp
   refine L_app1F (X:=v5_1) (y7:UInt8) rfl rfl rfl el128.h rfl rfl pk mm  hy9 (by decide) (fun X8 hdX8=>?_)
   subst hdX8
   refine s7 ?_
   exact ⟨((v5_0 / 2 ^ (7:Int).toNat),X8),sb,(.sub ms),some_eq hp⟩
  ·replace hp:=cond_f q6 hp
   refine W_exit ?_
   replace hp:=map_any hp;obtain ⟨a10,hp,z_10⟩:=hp
   obtain rfl:=hx5 _ z_10
   refine s4 ?_
   refine L_convInt rfl rfl und5.h (by rw [und3.h];rfl) ?_
   replace hp:=ba hp;obtain ⟨y11,hy11,hp⟩:=hp
   have ey11:=u8P_some hy11
   try simp only [dat_u8] at ey11
   try simp only [ey11]
   refine L_buildSlice1 rfl rfl el128.h rfl (by decide) (by decide) rfl (fun bb22=>?_)
   replace hp:=ba hp;obtain ⟨y13,hy13,hp⟩:=hp
   refine L_app1F (X:=v5_1) (y11:UInt8) rfl rfl rfl el128.h rfl rfl pk mm  hy13 (by decide) (fun X12 hdX12=>?_)
   subst hdX12
   refine L_toStr (X:=X12) rfl rfl und128.h und5.h und9.h (RdT.tree mm) ?_
   refine s2 ?_
   obtain rfl:=sj hp
   refine s1 ?_
   refine res1 rfl (ResOK.tmp rfl) ⟨rfl,rfl⟩ ms
noncomputable def i_sized (a0:ByteArray):Option ByteArray :=
 Option.bind (i_Var (a0.size:Int)) (fun y1=>Option.bind (catP y1 a0) (fun y2=>some y2))
theorem i_sized_walk (w:World) (a0:ByteArray)  (r:ByteArray) (hp:i_sized a0=some r):Spec Tryz.prog 169 [.string a0].toArray w [] (IsV (.string r)):=by
 refine Spec.intro Tryz.func169 rfl Tryz.ntmps169 rfl ?_
 unfold i_sized at hp
 replace hp:=dd hp
 refine s8 ?_
 replace hp:=ba hp;obtain ⟨y1,hy1,hp⟩:=hp
 refine L_callX rfl fn168.h rfl (by exact fun w hw=>i_Var_walk w (a0.size:Int)  _ hy1) ?_
 refine s1 ?_
 replace hp:=ba hp;obtain ⟨y2,hy2,hp⟩:=hp
 refine L_binV rfl rfl rfl (bv_saddP hy2) ?_
 refine s2 ?_
 obtain rfl:=sj hp
 refine s1 ?_
 refine res1 rfl (ResOK.tmp rfl) ⟨rfl,rfl⟩ ms
noncomputable def i_ShowState (a0:D_State):Option ByteArray :=
 Option.bind (i_StateOk (a0.1,a0.2)) (fun y1=>cond (!y1) (some ByteArray.empty) (Option.bind (i_Var (a0.1.length:Int)) (fun y3=>whileP (fun s4:ByteArray×Int=>cond (decide (s4.2 < (a0.1.length:Int))) (Option.bind (idx a0.1 s4.2) (fun y6=>Option.bind (i_sized y6.1) (fun y7=>Option.bind (catP s4.1 y7) (fun y8=>Option.bind (i_Var (y6.2.length:Int)) (fun y9=>Option.bind (catP y8 y9) (fun y10=>whileP (fun s11:ByteArray×Int=>cond (decide (s11.2 < (y6.2.length:Int))) (Option.bind (idx y6.2 s11.2) (fun y13=>Option.bind (i_sized y13.1) (fun y14=>Option.bind (catP s11.1 y14) (fun y15=>Option.bind (i_sized y13.2.1) (fun y16=>Option.bind (catP y15 y16) (fun y17=>Option.bind (i_Var (y13.2.2.length:Int)) (fun y18=>Option.bind (catP y17 y18) (fun y19=>whileP (fun s20:ByteArray×Int=>cond (decide (s20.2 < (y13.2.2.length:Int))) (Option.bind (idx y13.2.2 s20.2) (fun y22=>Option.bind (i_sized y22) (fun y23=>Option.bind (catP s20.1 y23) (fun y24=>some (.inl ((y24,IntKind.wrap .i64 (s20.2+1)))))))) (Option.map .inr (some (.inl ((s20.1,IntKind.wrap .i64 (s11.2+1))))))) (y19,0))))))))) (Option.map .inr (some (.inl ((s11.1,IntKind.wrap .i64 (s4.2+1))))))) (y10,0))))))) (Option.map .inr (Option.bind (i_Var (a0.2.length:Int)) (fun y28=>Option.bind (catP s4.1 y28) (fun y29=>whileP (fun s30:ByteArray×Int=>cond (decide (s30.2 < (a0.2.length:Int))) (Option.bind (idx a0.2 s30.2) (fun y32=>Option.bind (i_Var y32.1) (fun y33=>Option.bind (catP s30.1 y33) (fun y34=>Option.bind (i_Var y32.2.1) (fun y35=>Option.bind (catP y34 y35) (fun y36=>Option.bind (i_sized y32.2.2) (fun y37=>Option.bind (catP y36 y37) (fun y38=>some (.inl ((y38,IntKind.wrap .i64 (s30.2+1)))))))))))) (Option.map .inr (some s30.1))) (y29,0)))))) (y3,0))))
theorem i_ShowState_walk (w:World) (a0:T_State) (h0:GT.rd w [] a0) (r:ByteArray) (hp:i_ShowState (GT.dat a0)=some r):Spec Tryz.prog 102 [.agg (GT.cells a0).toArray].toArray w [] (IsV (.string r)):=by
 obtain ⟨a0_1,a0_2⟩:=a0
 change Spec _ _ ([Value.agg #[(TL.hdr a0_1),(TL.hdr a0_2)]]:List Value).toArray w [] _
 refine Spec.intro Tryz.func102 rfl Tryz.ntmps102 rfl ?_
 unfold i_ShowState at hp
 replace hp:=dd hp
 refine s2 ?_
 refine bx fun bk1=>?_
 refine s6 ?_
 replace hp:=ba hp;obtain ⟨y1,hy1,hp⟩:=hp
 refine L_callX rfl fn128.h rfl (by exact fun w hw=>i_StateOk_walk w (a0_1,a0_2) (RdT.now (RdT.pair (RdT.old h0.1) (RdT.old h0.2)) hw) _ hy1) ?_
 refine s2 ?_
 refine kp [1,14] ?_
 refine W_cond rfl (fun q2=>?_) (fun q2=>?_)
 ·replace hp:=cond_t q2 hp
  refine s4 ?_
  obtain rfl:=sj hp
  refine s1 ?_
  refine res1 rfl (ResOK.tmp rfl) ⟨rfl,rfl⟩ ms
 ·replace hp:=cond_f q2 hp
  refine s5 ?_
  refine L_load (fo:=0) rfl rfl (RdC.blk mm) one39.h rfl ?_
  refine s1 ?_
  replace hp:=ba hp;obtain ⟨y3,hy3,hp⟩:=hp
  refine L_callX rfl fn168.h rfl (by exact fun w hw=>i_Var_walk w ((GT.dat a0_1).length:Int)  _ hy3) ?_
  refine s7 ?_
  refine L_load (fo:=0) rfl rfl (RdC.blk mm) one39.h rfl ?_
  refine s4 ?_
  refine W_while (σ:=ByteArray×Int) GT.dat (fun ((v4_0,v4_1):ByteArray×Int)=>[(3,.string v4_0),(24,.int .i64 v4_1)]) (fun ((v4_0,v4_1):ByteArray×Int)=>[]) [(1,_),(22,_),(23,_)] [blk bk1 _ _] (y3,0) hp sb ms ?_
  clear hp
  rintro ⟨v4_0,v4_1⟩ x4 hp hx4
  replace hp:=dd hp
  refine kq [1,3,22,23,24] ?_
  refine s5 ?_
  refine kp [1,3,22,23,24,25] ?_
  refine W_cond rfl (fun q5=>?_) (fun q5=>?_)
  ·replace hp:=cond_t q5 hp
   refine s5 ?_
   replace hp:=idx_bind hp;obtain ⟨⟨u6_1,u6_2⟩,hy6,hp⟩:=hp
   refine L_idxA (X:=a0_1) rfl rfl rfl el39.h (RdT.old h0.1) hy6 ?_
   refine L_loadW rfl rfl (RdT.at (RdT.old h0.1) (hy6).2) (by exact agg144.h) ?_
   refine al fun bk5=>?_
   refine s3 ?_
   replace hp:=ba hp;obtain ⟨y7,hy7,hp⟩:=hp
   replace hp:=ba hp;obtain ⟨y8,hy8,hp⟩:=hp
   replace hp:=ba hp;obtain ⟨y9,hy9,hp⟩:=hp
   replace hp:=ba hp;obtain ⟨y10,hy10,hp⟩:=hp
   refine W_D0 [3] mix (by kernel_rfl) rfl ?_
   refine s3 ?_
   refine D_callX GC.none fn169.h (OpVs.cons (OpV.t rfl) (OpVs.nil)) (by exact fun hg w F hF hM=>i_sized_walk w u6_1  _ hy7) ?_
   refine D_bin GC.none (OpV.t rfl) (OpV.t rfl) (fun hg=>(bv_saddP hy8)) ?_
   refine s2 ?_
   refine D_lenP (X:=u6_2) GC.none (OpV.t rfl) el142.h ?_
   refine D_callX GC.none fn168.h (OpVs.cons (OpV.t rfl) (OpVs.nil)) (by exact fun hg w F hF hM=>i_Var_walk w ((GT.dat u6_2).length:Int)  _ hy9) ?_
   refine D_bin GC.none (OpV.t rfl) (OpV.t rfl) (fun hg=>(bv_saddP hy10)) ?_
   refine s20 ?_
   refine s2 ?_
   refine W_while (σ:=ByteArray×Int) GT.dat (fun ((v11_0,v11_1):ByteArray×Int)=>[(3,.string v11_0),(41,.int .i64 v11_1)]) (fun ((v11_0,v11_1):ByteArray×Int)=>[]) [(1,_),(22,_),(23,_),(24,_),(39,_),(40,_)] [blk bk1 _ _] (y10,0) hp sb ms ?_
   clear hp
   rintro ⟨v11_0,v11_1⟩ x11 hp hx11
   replace hp:=dd hp
   refine kq [1,3,22,23,24,39,40,41] ?_
   refine s5 ?_
   refine kp [1,3,22,23,24,39,40,41,42] ?_
   refine W_cond rfl (fun q12=>?_) (fun q12=>?_)
   ·replace hp:=cond_t q12 hp
    refine s5 ?_
    replace hp:=idx_bind hp;obtain ⟨⟨u13_1,u13_2,u13_3⟩,hy13,hp⟩:=hp
    refine L_idxA (X:=u6_2) rfl rfl rfl el142.h (RdT.snd (RdT.of (RdT.old h0.1) (hy6).2)) hy13 ?_
    refine L_loadW rfl rfl (RdT.at (RdT.snd (RdT.of (RdT.old h0.1) (hy6).2)) (hy13).2) (by exact agg147.h) ?_
    refine al fun bk7=>?_
    refine s3 ?_
    replace hp:=ba hp;obtain ⟨y14,hy14,hp⟩:=hp
    replace hp:=ba hp;obtain ⟨y15,hy15,hp⟩:=hp
    replace hp:=ba hp;obtain ⟨y16,hy16,hp⟩:=hp
    replace hp:=ba hp;obtain ⟨y17,hy17,hp⟩:=hp
    replace hp:=ba hp;obtain ⟨y18,hy18,hp⟩:=hp
    replace hp:=ba hp;obtain ⟨y19,hy19,hp⟩:=hp
    refine W_D0 [3] mix (by kernel_rfl) rfl ?_
    refine s3 ?_
    refine D_callX GC.none fn169.h (OpVs.cons (OpV.t rfl) (OpVs.nil)) (by exact fun hg w F hF hM=>i_sized_walk w u13_1  _ hy14) ?_
    refine D_bin GC.none (OpV.t rfl) (OpV.t rfl) (fun hg=>(bv_saddP hy15)) ?_
    refine s2 ?_
    refine D_callX GC.none fn169.h (OpVs.cons (OpV.t rfl) (OpVs.nil)) (by exact fun hg w F hF hM=>i_sized_walk w u13_2  _ hy16) ?_
    refine D_bin GC.none (OpV.t rfl) (OpV.t rfl) (fun hg=>(bv_saddP hy17)) ?_
    refine s2 ?_
    refine D_lenP (X:=u13_3) GC.none (OpV.t rfl) el65.h ?_
    refine D_callX GC.none fn168.h (OpVs.cons (OpV.t rfl) (OpVs.nil)) (by exact fun hg w F hF hM=>i_Var_walk w ((GT.dat u13_3).length:Int)  _ hy18) ?_
    refine D_bin GC.none (OpV.t rfl) (OpV.t rfl) (fun hg=>(bv_saddP hy19)) ?_
    refine s20 ?_
    refine s6 ?_
    refine W_while (σ:=ByteArray×Int) GT.dat (fun ((v20_0,v20_1):ByteArray×Int)=>[(3,.string v20_0),(62,.int .i64 v20_1)]) (fun ((v20_0,v20_1):ByteArray×Int)=>[]) [(1,_),(22,_),(23,_),(24,_),(39,_),(40,_),(41,_),(60,_),(61,_)] [blk bk1 _ _] (y19,0) hp sb ms ?_
    clear hp
    rintro ⟨v20_0,v20_1⟩ x20 hp hx20
    replace hp:=dd hp
    refine kq [1,3,22,23,24,39,40,41,60,61,62] ?_
    refine s5 ?_
    refine kp [1,3,22,23,24,39,40,41,60,61,62,63] ?_
    refine W_cond rfl (fun q21=>?_) (fun q21=>?_)
    ·replace hp:=cond_t q21 hp
     refine s5 ?_
     replace hp:=idx_bind hp;obtain ⟨u22,hy22,hp⟩:=hp
     refine L_idxA (X:=u13_3) rfl rfl rfl el65.h (RdT.snd (RdT.snd (RdT.of (RdT.snd (RdT.of (RdT.old h0.1) (hy6).2)) (hy13).2))) hy22 ?_
     refine L_load0 rfl rfl (RdT.at (RdT.snd (RdT.snd (RdT.of (RdT.snd (RdT.of (RdT.old h0.1) (hy6).2)) (hy13).2))) (hy22).2) one9.h rfl ?_
     refine s5 ?_
     replace hp:=ba hp;obtain ⟨y23,hy23,hp⟩:=hp
     refine L_callX rfl fn169.h rfl (by exact fun w hw=>i_sized_walk w u22  _ hy23) ?_
     replace hp:=ba hp;obtain ⟨y24,hy24,hp⟩:=hp
     refine L_binV rfl rfl rfl (bv_saddP hy24) ?_
     refine s6 ?_
     exact ⟨(y24,IntKind.wrap .i64 (v20_1+1)),sb,(.sub ms),some_eq hp⟩
    ·replace hp:=cond_f q21 hp
     refine W_exit ?_
     replace hp:=map_any hp;obtain ⟨a25,hp,z_25⟩:=hp
     obtain rfl:=hx20 _ z_25
     refine s4 ?_
     exact ⟨(v20_0,IntKind.wrap .i64 (v11_1+1)),sb,(.sub ms),some_eq hp⟩
   ·replace hp:=cond_f q12 hp
    refine W_exit ?_
    replace hp:=map_any hp;obtain ⟨a26,hp,z_26⟩:=hp
    obtain rfl:=hx11 _ z_26
    refine s4 ?_
    exact ⟨(v11_0,IntKind.wrap .i64 (v4_1+1)),sb,(.sub ms),some_eq hp⟩
  ·replace hp:=cond_f q5 hp
   refine W_exit ?_
   replace hp:=map_any hp;obtain ⟨a27,hp,z_27⟩:=hp
   obtain rfl:=hx4 _ z_27
   refine s6 ?_
   replace hp:=ba hp;obtain ⟨y28,hy28,hp⟩:=hp
   refine L_callX rfl fn168.h rfl (by exact fun w hw=>i_Var_walk w ((GT.dat a0_2).length:Int)  _ hy28) ?_
   replace hp:=ba hp;obtain ⟨y29,hy29,hp⟩:=hp
   refine L_binV rfl rfl rfl (bv_saddP hy29) ?_
   refine s11 ?_
   refine W_while (σ:=ByteArray×Int) GT.dat (fun ((v30_0,v30_1):ByteArray×Int)=>[(3,.string v30_0),(82,.int .i64 v30_1)]) (fun ((v30_0,v30_1):ByteArray×Int)=>[]) [(80,_),(81,_)] [] (y29,0) hp sb ms ?_
   clear hp
   rintro ⟨v30_0,v30_1⟩ x30 hp hx30
   replace hp:=dd hp
   refine kq [3,80,81,82] ?_
   refine s5 ?_
   refine kp [3,80,81,82,83] ?_
   refine W_cond rfl (fun q31=>?_) (fun q31=>?_)
   ·replace hp:=cond_t q31 hp
    refine s5 ?_
    replace hp:=idx_bind hp;obtain ⟨⟨u32_1,u32_2,u32_3⟩,hy32,hp⟩:=hp
    refine L_idxA (X:=a0_2) rfl rfl rfl el27.h (RdT.old h0.2) hy32 ?_
    refine L_loadW rfl rfl (RdT.at (RdT.old h0.2) (hy32).2) (by exact agg71.h) ?_
    refine al fun bk11=>?_
    refine s2 ?_
    replace hp:=ba hp;obtain ⟨y33,hy33,hp⟩:=hp
    replace hp:=ba hp;obtain ⟨y34,hy34,hp⟩:=hp
    replace hp:=ba hp;obtain ⟨y35,hy35,hp⟩:=hp
    replace hp:=ba hp;obtain ⟨y36,hy36,hp⟩:=hp
    replace hp:=ba hp;obtain ⟨y37,hy37,hp⟩:=hp
    replace hp:=ba hp;obtain ⟨y38,hy38,hp⟩:=hp
    refine W_D0 [3] mix (by kernel_rfl) rfl ?_
    refine s3 ?_
    refine D_callX GC.none fn168.h (OpVs.cons (OpV.t rfl) (OpVs.nil)) (by exact fun hg w F hF hM=>i_Var_walk w u32_1  _ hy33) ?_
    refine D_bin GC.none (OpV.t rfl) (OpV.t rfl) (fun hg=>(bv_saddP hy34)) ?_
    refine s2 ?_
    refine D_callX GC.none fn168.h (OpVs.cons (OpV.t rfl) (OpVs.nil)) (by exact fun hg w F hF hM=>i_Var_walk w u32_2  _ hy35) ?_
    refine D_bin GC.none (OpV.t rfl) (OpV.t rfl) (fun hg=>(bv_saddP hy36)) ?_
    refine s2 ?_
    refine D_callX GC.none fn169.h (OpVs.cons (OpV.t rfl) (OpVs.nil)) (by exact fun hg w F hF hM=>i_sized_walk w u32_3  _ hy37) ?_
    refine D_bin GC.none (OpV.t rfl) (OpV.t rfl) (fun hg=>(bv_saddP hy38)) ?_
    refine s20 ?_
    refine s1 ?_
    exact ⟨(y38,IntKind.wrap .i64 (v30_1+1)),sb,(.sub ms),some_eq hp⟩
   ·replace hp:=cond_f q31 hp
    refine W_exit ?_
    replace hp:=map_any hp;obtain ⟨a39,hp,z_39⟩:=hp
    obtain rfl:=hx30 _ z_39
    refine s5 ?_
    obtain rfl:=sj hp
    refine s1 ?_
    refine res1 rfl (ResOK.tmp rfl) ⟨rfl,rfl⟩ ms
noncomputable def i_catalogOf (a0:D_ENode):Option ByteArray :=
 Option.bind (i_NodeState (a0.1,a0.2.1,a0.2.2.1,a0.2.2.2)) (fun y1=>Option.bind (i_ShowState (y1.1,([]:List D_Said))) (fun y2=>some y2))
theorem i_catalogOf_walk (w:World) (a0:T_ENode) (h0:GT.rd w [] a0) (r:ByteArray) (hp:i_catalogOf (GT.dat a0)=some r):Spec Tryz.prog 57 [.agg (GT.cells a0).toArray].toArray w [] (IsV (.string r)):=by
 obtain ⟨a0_1,a0_2,a0_3,a0_4⟩:=a0
 change Spec _ _ ([Value.agg #[.int .i64 a0_1,.int .i64 a0_2,(TL.hdr a0_3),(TL.hdr a0_4)]]:List Value).toArray w [] _
 refine Spec.intro Tryz.func57 rfl Tryz.ntmps57 rfl ?_
 unfold i_catalogOf at hp
 replace hp:=dd hp
 refine s2 ?_
 refine bx fun bk1=>?_
 refine s5 ?_
 replace hp:=ba hp;obtain ⟨y1,hy1,hp⟩:=hp
 refine L_callR rfl fn16.h rfl (by exact fun w hw=>i_NodeState_walk w (a0_1,a0_2,a0_3,a0_4) (RdT.now (RdT.pair RdT.int (RdT.pair RdT.int (RdT.pair (RdT.old h0.2.2.1) (RdT.old h0.2.2.2)))) hw) _ hy1) ?_
 rintro _ _ ⟨⟨y1x0_1,y1x0_2⟩,rfl,rfl,rfl⟩
 refine sc ?_
 replace hp:=dd hp
 refine xL ((y1x0_1,y1x0_2):T_State) ?_
 refine L_fieldA (us:=[(TL.hdr y1x0_1)]) rfl rfl (show fldA _ 43 0=some (0,1) by kernel_rfl) rfl ?_
 refine L_build (xs:=[(0,.tmp 5)]) (cs:=[(TL.hdr y1x0_1),(TL.hdr (TL.nil T_Said 0))]) rfl rfl bld43.h rfl ?_
 replace hp:=ba hp;obtain ⟨y2,hy2,hp⟩:=hp
 refine L_callX rfl fn102.h rfl (by exact fun w hw=>i_ShowState_walk w (y1x0_1,(TL.nil T_Said 0)) (RdT.now (RdT.pair (RdT.tree mm) (RdT.nil 0)) hw) _ hy2) ?_
 refine s2 ?_
 obtain rfl:=sj hp
 refine s1 ?_
 refine res1 rfl (ResOK.tmp rfl) ⟨rfl,rfl⟩ ms
noncomputable def i_Alike (a0:D_ENet):Option Bool :=
 Option.bind (i_ENetOk (a0.1,a0.2)) (fun y1=>cond (!y1) (some false) (whileP (fun s3:Int=>cond (decide (s3 < (a0.1.length:Int))) (Option.bind (idx a0.1 s3) (fun y5=>Option.bind (slcP a0.1 0 s3) (fun y6=>whileP (fun s8:Int=>cond (decide (s8 < (y6.length:Int))) (Option.bind (idx y6 s8) (fun y10=>Option.bind (i_ExecOrder y5.2.2.1) (fun y11=>Option.bind (i_ExecOrder y10.2.2.1) (fun y12=>Option.bind (sortFn y11 (fun z0 z1=>i_compareIds z0 z1 )) (fun y13=>Option.bind (sortFn y12 (fun z0 z1=>i_compareIds z0 z1 )) (fun y14=>Option.bind (sl_Equal_implIdimplId y13 y14) (fun y15=>gb y15 (i_catalogOf (y5.1,y5.2.1,y5.2.2.1,y5.2.2.2)) (fun y16=>gb y15 (i_catalogOf (y10.1,y10.2.1,y10.2.2.1,y10.2.2.2)) (fun y17=>cond (y15&&(!decide (y16=y17))) (Option.map .inr (Option.map .inr (some false))) (some (.inl (IntKind.wrap .i64 (s8+1))))))))))))) (Option.map .inr (some (.inl (IntKind.wrap .i64 (s3+1)))))) 0))) (Option.map .inr (some true))) 0))
theorem i_Alike_walk (w:World) (a0:T_ENet) (h0:GT.rd w [] a0) (r:Bool) (hp:i_Alike (GT.dat a0)=some r):Spec Tryz.prog 23 [.agg (GT.cells a0).toArray].toArray w [] (IsV (.bool r)):=by
 obtain ⟨a0_1,a0_2⟩:=a0
 change Spec _ _ ([Value.agg #[(TL.hdr a0_1),(TL.hdr a0_2)]]:List Value).toArray w [] _
 refine Spec.intro Tryz.func23 rfl Tryz.ntmps23 rfl ?_
 unfold i_Alike at hp
 replace hp:=dd hp
 refine s2 ?_
 refine bx fun bk1=>?_
 refine s6 ?_
 replace hp:=ba hp;obtain ⟨y1,hy1,hp⟩:=hp
 refine L_callX rfl fn52.h rfl (by exact fun w hw=>i_ENetOk_walk w (a0_1,a0_2) (RdT.now (RdT.pair (RdT.old h0.1) (RdT.old h0.2)) hw) _ hy1) ?_
 refine s2 ?_
 refine kp [1,11] ?_
 refine W_cond rfl (fun q2=>?_) (fun q2=>?_)
 ·replace hp:=cond_t q2 hp
  refine s4 ?_
  obtain rfl:=sj hp
  refine s1 ?_
  refine res1 rfl (ResOK.tmp rfl) ⟨rfl,rfl⟩ ms
 ·replace hp:=cond_f q2 hp
  refine s10 ?_
  refine W_while (σ:=Int) GT.dat (fun (v3_0:Int)=>[(15,.int .i64 v3_0)]) (fun (v3_0:Int)=>[]) [(1,_),(13,_),(14,_)] [blk bk1 _ _] 0 hp sb ms ?_
  clear hp
  rintro v3_0 x3 hp hx3
  replace hp:=dd hp
  refine kq [1,13,14,15] ?_
  refine s5 ?_
  refine kp [1,13,14,15,16] ?_
  refine W_cond rfl (fun q4=>?_) (fun q4=>?_)
  ·replace hp:=cond_t q4 hp
   refine s6 ?_
   replace hp:=idx_bind hp;obtain ⟨⟨u5_1,u5_2,u5_3,u5_4⟩,hy5,hp⟩:=hp
   refine L_idxA (X:=a0_1) rfl rfl rfl el53.h (RdT.old h0.1) hy5 ?_
   refine L_loadW rfl rfl (RdT.at (RdT.old h0.1) (hy5).2) (by exact agg32.h) ?_
   refine al fun bk4=>?_
   refine s8 ?_
   replace hp:=ba hp;obtain ⟨y6,hy6,hp⟩:=hp
   refine L_slc (X:=a0_1) rfl rfl rfl rfl el53.h rfl (RdT.old h0.1) hy6 (fun X7 hdX7 hRX7=>?_)
   subst hdX7
   refine s4 ?_
   refine W_while (σ:=Int) GT.dat (fun (v8_0:Int)=>[(25,.int .i64 v8_0)]) (fun (v8_0:Int)=>[]) [(1,_),(4,_),(13,_),(14,_),(15,_),(23,_),(24,_)] [blk bk1 _ _,blk bk4 _ _] 0 hp sb ms ?_
   clear hp
   rintro v8_0 x8 hp hx8
   replace hp:=dd hp
   refine kq [1,4,13,14,15,23,24,25] ?_
   refine s5 ?_
   refine kp [1,4,13,14,15,23,24,25,26] ?_
   refine W_cond rfl (fun q9=>?_) (fun q9=>?_)
   ·replace hp:=cond_t q9 hp
    refine s5 ?_
    replace hp:=idx_bind hp;obtain ⟨⟨u10_1,u10_2,u10_3,u10_4⟩,hy10,hp⟩:=hp
    refine L_idxA (X:=X7) rfl rfl rfl el53.h (RdT.map hRX7 (RdT.old h0.1)) hy10 ?_
    refine L_loadW rfl rfl (RdT.at (RdT.map hRX7 (RdT.old h0.1)) (hy10).2) (by exact agg32.h) ?_
    refine al fun bk6=>?_
    refine s3 ?_
    replace hp:=ba hp;obtain ⟨y11,hy11,hp⟩:=hp
    refine W_DS (pre:=[_,_,_,_,_]) (suf:=[_,_,_]) [31,33] [] _ pc mix (by kernel_rfl) (by kernel_rfl) rfl ?_
    refine s2 ?_
    refine D_call1R (fun v M=>∃ (x0:TL T_Id),v=(TL.hdr x0)∧GT.dat x0=y11∧M=[treeH x0]) fn53.h (OpVs.cons (OpV.t rfl) (OpVs.nil)) (by exact fun w F hF hM=>i_ExecOrder_walk w u5_3 (RdT.nowS (RdT.fst (RdT.snd (RdT.snd (RdT.of (RdT.old h0.1) (hy5).2)))) hF hM) _ hy11) ?_
    refine s5 ?_
    refine Give_R rfl rfl ?_
    rintro _ _ ⟨y11x0,rfl,rfl,rfl⟩
    refine s3 ?_
    refine sc ?_
    replace hp:=dd hp
    replace hp:=ba hp;obtain ⟨y12,hy12,hp⟩:=hp
    refine L_callR rfl fn53.h rfl (by exact fun w hw=>i_ExecOrder_walk w u10_3 (RdT.now (RdT.fst (RdT.snd (RdT.snd (RdT.of (RdT.map hRX7 (RdT.old h0.1)) (hy10).2)))) hw) _ hy12) ?_
    rintro _ _ ⟨y12x0,rfl,rfl,rfl⟩
    refine sc ?_
    replace hp:=dd hp
    refine s6 ?_
    replace hp:=ba hp;obtain ⟨y13,hy13,hp⟩:=hp
    refine L_callM [treeH y11x0] _ rfl fn54.h rfl pc (by exact fun w hw=>sl_SortFunc_implIdimplId_walk w y11x0 55 [] (fun z0 z1=>i_compareIds z0 z1 ) fn55.h (fun w' F u0 u1 v hF hu0 hu1 hv=>i_compareIds_walk w' u0 u1 hu0 hu1 v hv) _ hy13) ?_
    rintro _ _ ⟨y13y0,rfl,rfl,rfl,hey13_0⟩
    try rw [← hey13_0]
    refine sc ?_
    replace hp:=dd hp
    refine s4 ?_
    replace hp:=ba hp;obtain ⟨y14,hy14,hp⟩:=hp
    refine L_callM [treeH y12x0] _ rfl fn54.h rfl pc (by exact fun w hw=>sl_SortFunc_implIdimplId_walk w y12x0 55 [] (fun z0 z1=>i_compareIds z0 z1 ) fn55.h (fun w' F u0 u1 v hF hu0 hu1 hv=>i_compareIds_walk w' u0 u1 hu0 hu1 v hv) _ hy14) ?_
    rintro _ _ ⟨y14y0,rfl,rfl,rfl,hey14_0⟩
    try rw [← hey14_0]
    refine sc ?_
    replace hp:=dd hp
    refine s2 ?_
    replace hp:=ba hp;obtain ⟨y15,hy15,hp⟩:=hp
    replace hp:=gb_any hp;obtain ⟨y16,hy16,hp⟩:=hp
    replace hp:=gb_any hp;obtain ⟨y17,hy17,hp⟩:=hp
    refine W_D0 [48] mix (by kernel_rfl) rfl ?_
    refine s2 ?_
    refine D_callX GC.none fn56.h (OpVs.cons (OpV.t rfl) (OpVs.cons (OpV.t rfl) (OpVs.nil))) (by exact fun hg w F hF hM=>sl_Equal_implIdimplId_walk w y13y0 y14y0 (RdT.nowS (RdT.tree mm) hF hM) (RdT.nowS (RdT.tree mm) hF hM) _ hy15) ?_
    refine s2 ?_
    refine D_callX (GC.some rfl rfl) fn57.h (OpVs.cons (OpV.s rfl) (OpVs.nil)) (by exact fun hg w F hF hM=>i_catalogOf_walk w (u5_1,u5_2,u5_3,u5_4) (RdT.nowS (RdT.pair RdT.int (RdT.pair RdT.int (RdT.pair (RdT.fst (RdT.snd (RdT.snd (RdT.of (RdT.old h0.1) (hy5).2)))) (RdT.snd (RdT.snd (RdT.snd (RdT.of (RdT.old h0.1) (hy5).2))))))) hF hM) _ (hy16 hg.2)) ?_
    refine s1 ?_
    refine D_callX (GC.some rfl rfl) fn57.h (OpVs.cons (OpV.s rfl) (OpVs.nil)) (by exact fun hg w F hF hM=>i_catalogOf_walk w (u10_1,u10_2,u10_3,u10_4) (RdT.nowS (RdT.pair RdT.int (RdT.pair RdT.int (RdT.pair (RdT.fst (RdT.snd (RdT.snd (RdT.of (RdT.map hRX7 (RdT.old h0.1)) (hy10).2)))) (RdT.snd (RdT.snd (RdT.snd (RdT.of (RdT.map hRX7 (RdT.old h0.1)) (hy10).2))))))) hF hM) _ (hy17 hg.2)) ?_
    refine s14 ?_
    refine kp [1,4,13,14,15,23,24,25,48] ?_
    refine W_cond rfl (fun q18=>?_) (fun q18=>?_)
    ·replace hp:=cond_t q18 hp
     refine s4 ?_
     replace hp:=map_any hp;obtain ⟨a19,hp,z_19⟩:=hp
     obtain rfl:=hx8 _ z_19
     replace hp:=map_any hp;obtain ⟨a20,hp,z_20⟩:=hp
     obtain rfl:=hx3 _ z_20
     obtain rfl:=sj hp
     refine s1 ?_
     refine res1 rfl (ResOK.tmp rfl) ⟨rfl,rfl⟩ ms
    ·replace hp:=cond_f q18 hp
     refine s5 ?_
     exact ⟨IntKind.wrap .i64 (v8_0+1),sb,(.sub ms),some_eq hp⟩
   ·replace hp:=cond_f q9 hp
    refine W_exit ?_
    replace hp:=map_any hp;obtain ⟨a21,hp,z_21⟩:=hp
    obtain rfl:=hx8 _ z_21
    refine s4 ?_
    exact ⟨IntKind.wrap .i64 (v3_0+1),sb,(.sub ms),some_eq hp⟩
  ·replace hp:=cond_f q4 hp
   refine W_exit ?_
   replace hp:=map_any hp;obtain ⟨a22,hp,z_22⟩:=hp
   obtain rfl:=hx3 _ z_22
   refine s4 ?_
   obtain rfl:=sj hp
   refine s1 ?_
   refine res1 rfl (ResOK.tmp rfl) ⟨rfl,rfl⟩ ms
end Go.Proofs.SL
