/- The texts of the proof, part 7: the base, walks of functions, plain Lean. -/
import Derived.Test.YthlbpedehajlgaaGreatT6
import Derived.Test.YthlbpedehajlgaaGreatT5
namespace Go.Proofs.SL
open Go
set_option maxHeartbeats 2000000
abbrev D_Id:=Int×Int
abbrev D_Inst:=D_Id×Int×Int×Int×D_Cmd×Int×(List D_Id)×Bool
instance fld35_0:FldF Tryz.prog 35 0 0:=⟨by kernel_rfl⟩
instance fld35_1:FldF Tryz.prog 35 1 1:=⟨by kernel_rfl⟩
instance el31:ElF Tryz.prog 31 35 2 16 [.int .i64 0,.int .i64 0]:=⟨by kernel_rfl⟩
instance agg35:AggF Tryz.prog 35 2:=⟨by kernel_rfl⟩
instance fn140:FnF Tryz.prog 140:=⟨_,Tryz.func140,by kernel_rfl,rfl⟩
instance fn181:FnF Tryz.prog 181:=⟨_,Tryz.func181,by kernel_rfl,rfl⟩
instance und3:UndF Tryz.prog 3 (.int .i64):=⟨by kernel_rfl⟩
theorem eqsh35:eqShape Tryz.prog 35=some [(3,0),(3,1)]:=by kernel_rfl
instance fld48_0:FldF Tryz.prog 48 0 0:=⟨by kernel_rfl⟩
instance fld48_1:FldF Tryz.prog 48 1 2:=⟨by kernel_rfl⟩
instance fld48_2:FldF Tryz.prog 48 2 3:=⟨by kernel_rfl⟩
instance fld48_3:FldF Tryz.prog 48 3 4:=⟨by kernel_rfl⟩
instance fld48_4:FldF Tryz.prog 48 4 5:=⟨by kernel_rfl⟩
instance fn38:FnF Tryz.prog 38:=⟨_,Tryz.func38,by kernel_rfl,rfl⟩
instance fld48_5:FldF Tryz.prog 48 5 13:=⟨by kernel_rfl⟩
instance fld48_6:FldF Tryz.prog 48 6 14:=⟨by kernel_rfl⟩
instance one31:OneF Tryz.prog 31:=⟨by kernel_rfl⟩
instance fn141:FnF Tryz.prog 141:=⟨_,Tryz.func141,by kernel_rfl,rfl⟩
instance fn142:FnF Tryz.prog 142:=⟨_,Tryz.func142,by kernel_rfl,rfl⟩
instance fld48_7:FldF Tryz.prog 48 7 15:=⟨by kernel_rfl⟩
instance one4:OneF Tryz.prog 4:=⟨by kernel_rfl⟩
instance el41:ElF Tryz.prog 41 48 16 184 [.int .i64 0,.int .i64 0,.int .i64 0,.int .i64 0,.int .i64 0,.int .i64 0,.int .i64 0,.int .i64 0,.string ByteArray.empty,.string ByteArray.empty,.string ByteArray.empty,.int .i64 0,.slice none 0 0,.int .i64 0,.slice none 0 0,.bool false]:=⟨by kernel_rfl⟩
instance agg48:AggF Tryz.prog 48 16:=⟨by kernel_rfl⟩
instance fn180:FnF Tryz.prog 180:=⟨_,Tryz.func180,by kernel_rfl,rfl⟩
instance zero35:ZerF Tryz.prog 35 [.int .i64 0,.int .i64 0]:=⟨by kernel_rfl⟩
instance fn113:FnF Tryz.prog 113:=⟨_,Tryz.func113,by kernel_rfl,rfl⟩
instance fn128:FnF Tryz.prog 128:=⟨_,Tryz.func128,by kernel_rfl,rfl⟩
instance fn40:FnF Tryz.prog 40:=⟨_,Tryz.func40,by kernel_rfl,rfl⟩
instance fn114:FnF Tryz.prog 114:=⟨_,Tryz.func114,by kernel_rfl,rfl⟩
instance fn164:FnF Tryz.prog 164:=⟨_,Tryz.func164,by kernel_rfl,rfl⟩
instance fn76:FnF Tryz.prog 76:=⟨_,Tryz.func76,by kernel_rfl,rfl⟩
instance zero48:ZerF Tryz.prog 48 [.int .i64 0,.int .i64 0,.int .i64 0,.int .i64 0,.int .i64 0,.int .i64 0,.int .i64 0,.int .i64 0,.string ByteArray.empty,.string ByteArray.empty,.string ByteArray.empty,.int .i64 0,.slice none 0 0,.int .i64 0,.slice none 0 0,.bool false]:=⟨by kernel_rfl⟩
instance fn127:FnF Tryz.prog 127:=⟨_,Tryz.func127,by kernel_rfl,rfl⟩
noncomputable def s_l8Id (a0:D_Id):Option Bool :=
 Option.bind (s_l1In a0.1 0 2) (fun y1=>gb y1 (s_l1In a0.2 1 6) (fun y2=>some (y1&&y2)))
theorem s_l8Id_walk (w:World) (a0:T_Id) (h0:GT.rd w [] a0) (r:Bool) (hp:s_l8Id (GT.dat a0)=some r):Spec Tryz.prog 140 [.agg (GT.cells a0).toArray].toArray w [] (IsV (.bool r)):=by
 obtain ⟨a0_1,a0_2⟩:=a0
 change Spec _ _ ([Value.agg #[.int .i64 a0_1,.int .i64 a0_2]]:List Value).toArray w [] _
 refine Spec.intro Tryz.func140 rfl Tryz.ntmps140 rfl ?_
 unfold s_l8Id at hp
 replace hp:=dd hp
 refine s2 ?_
 refine bx fun bk1=>?_
 refine s3 ?_
 replace hp:=ba hp;obtain ⟨y1,hy1,hp⟩:=hp
 replace hp:=gb_any hp;obtain ⟨y2,hy2,hp⟩:=hp
 refine W_D0 [2] mix (by kernel_rfl) rfl ?_
 refine s2 ?_
 refine D_callX GC.none fn83.h (OpVs.cons (OpV.t rfl) (OpVs.cons OpV.c (OpVs.cons OpV.c (OpVs.nil)))) (by exact fun hg w F hF hM=>s_l1In_walk w a0_1 0 2  _ hy1) ?_
 refine s3 ?_
 refine D_callX (GC.some rfl rfl) fn83.h (OpVs.cons (OpV.s rfl) (OpVs.cons OpV.c (OpVs.cons OpV.c (OpVs.nil)))) (by exact fun hg w F hF hM=>s_l1In_walk w a0_2 1 6  _ (hy2 hg.2)) ?_
 refine s13 ?_
 obtain rfl:=sj hp
 refine s1 ?_
 refine res1 rfl (ResOK.tmp rfl) ⟨rfl,rfl⟩ ms
noncomputable def s_l8Less (a0:D_Id) (a1:D_Id):Option Bool :=
 some ((decide (a0.1 < a1.1))||((decide (a0.1=a1.1))&&(decide (a0.2 < a1.2))))
theorem s_l8Less_walk (w:World) (a0:T_Id) (a1:T_Id) (h0:GT.rd w [] a0) (h1:GT.rd w [] a1) (r:Bool) (hp:s_l8Less (GT.dat a0) (GT.dat a1)=some r):Spec Tryz.prog 181 [.agg (GT.cells a0).toArray,.agg (GT.cells a1).toArray].toArray w [] (IsV (.bool r)):=by
 obtain ⟨a0_1,a0_2⟩:=a0
 obtain ⟨a1_1,a1_2⟩:=a1
 change Spec _ _ ([Value.agg #[.int .i64 a0_1,.int .i64 a0_2],Value.agg #[.int .i64 a1_1,.int .i64 a1_2]]:List Value).toArray w [] _
 refine Spec.intro Tryz.func181 rfl Tryz.ntmps181 rfl ?_
 unfold s_l8Less at hp
 replace hp:=dd hp
 refine s2 ?_
 refine bx fun bk2=>?_
 refine bx fun bk3=>?_
 refine s3 ?_
 refine W_D0 [4] mix (by kernel_rfl) rfl ?_
 refine s20 ?_
 refine s20 ?_
 refine s2 ?_
 obtain rfl:=sj hp
 refine s1 ?_
 refine res1 rfl (ResOK.tmp rfl) ⟨rfl,rfl⟩ ms
noncomputable def s_IdsOk (a0:List D_Id):Option Bool :=
 whileP (fun s1:Int=>cond (decide (s1 < (a0.length:Int))) (Option.bind (idx a0 s1) (fun y3=>Option.bind (s_l8Id (y3.1,y3.2)) (fun y4=>gb ((!(!y4))&&(decide (0 < s1))) (idx a0 (IntKind.wrap .i64 (s1 - 1))) (fun y5=>gb ((!(!y4))&&(decide (0 < s1))) (idx a0 s1) (fun y6=>gb ((!(!y4))&&(decide (0 < s1))) (s_l8Less (y5.1,y5.2) (y6.1,y6.2)) (fun y7=>cond ((!y4)||((decide (0 < s1))&&(!y7))) (Option.map .inr (some false)) (some (.inl (IntKind.wrap .i64 (s1+1)))))))))) (Option.map .inr (some true))) 0
theorem s_IdsOk_walk (w:World) (a0:TL T_Id) (h0:GT.rd w [] a0) (r:Bool) (hp:s_IdsOk (GT.dat a0)=some r):Spec Tryz.prog 141 [(TL.hdr a0)].toArray w [] (IsV (.bool r)):=by
 refine Spec.intro Tryz.func141 rfl Tryz.ntmps141 rfl ?_
 unfold s_IdsOk at hp
 replace hp:=dd hp
 refine s10 ?_
 refine W_while (σ:=Int) GT.dat (fun (v1_0:Int)=>[(3,.int .i64 v1_0)]) (fun (v1_0:Int)=>[]) [(0,_)] [] 0 hp sb ms ?_
 clear hp
 rintro v1_0 x1 hp hx1
 replace hp:=dd hp
 refine kq [0,3] ?_
 refine s8 ?_
 refine kp [0,3,7] ?_
 refine W_cond rfl (fun q2=>?_) (fun q2=>?_)
 ·replace hp:=cond_t q2 hp
  refine s4 ?_
  replace hp:=idx_bind hp;obtain ⟨⟨u3_1,u3_2⟩,hy3,hp⟩:=hp
  replace hp:=ba hp;obtain ⟨y4,hy4,hp⟩:=hp
  replace hp:=idx_gb hp;obtain ⟨⟨u5_1,u5_2⟩,hy5,hp⟩:=hp
  replace hp:=idx_gb hp;obtain ⟨⟨u6_1,u6_2⟩,hy6,hp⟩:=hp
  replace hp:=gb_any hp;obtain ⟨y7,hy7,hp⟩:=hp
  refine W_D0 [32] mix (by kernel_rfl) rfl ?_
  refine s2 ?_
  refine D_idxA (X:=a0) GC.none (OpV.t rfl) (OpV.t rfl) el31.h (RdT.old h0) (fun _=>hy3) ?_
  refine D_loadW GC.none (OpV.t rfl) (fun hg=>RdT.at (RdT.old h0) (hy3).2) (by exact agg35.h) ?_
  refine D_callX GC.none fn140.h (OpVs.cons (OpV.t rfl) (OpVs.nil)) (by exact fun hg w F hF hM=>s_l8Id_walk w (u3_1,u3_2) (RdT.nowS (RdT.pair RdT.int RdT.int) hF hM) _ hy4) ?_
  refine s8 ?_
  refine D_idxA (X:=a0) (GC.some rfl rfl) (OpV.s rfl) (OpV.s rfl) el31.h (RdT.old h0) (fun hg=>hy5 (gand (gnot hg.1.2) hg.2)) ?_
  refine D_loadW (GC.some rfl rfl) (OpV.s rfl) (fun hg=>RdT.at (RdT.old h0) (hy5 (gand (gnot hg.1.2) hg.2)).2) (by exact agg35.h) ?_
  refine s2 ?_
  refine D_idxA (X:=a0) (GC.some rfl rfl) (OpV.s rfl) (OpV.s rfl) el31.h (RdT.old h0) (fun hg=>hy6 (gand (gnot hg.1.2) hg.2)) ?_
  refine D_loadW (GC.some rfl rfl) (OpV.s rfl) (fun hg=>RdT.at (RdT.old h0) (hy6 (gand (gnot hg.1.2) hg.2)).2) (by exact agg35.h) ?_
  refine D_callX (GC.some rfl rfl) fn181.h (OpVs.cons (OpV.s rfl) (OpVs.cons (OpV.s rfl) (OpVs.nil))) (by exact fun hg w F hF hM=>s_l8Less_walk w (u5_1,u5_2) (u6_1,u6_2) (RdT.nowS (RdT.pair RdT.int RdT.int) hF hM) (RdT.nowS (RdT.pair RdT.int RdT.int) hF hM) _ (hy7 (gand (gnot hg.1.2) hg.2))) ?_
  refine s20 ?_
  refine s8 ?_
  refine kp [0,3,32] ?_
  refine W_cond rfl (fun q8=>?_) (fun q8=>?_)
  ·replace hp:=cond_t q8 hp
   refine s4 ?_
   replace hp:=map_any hp;obtain ⟨a9,hp,z_9⟩:=hp
   obtain rfl:=hx1 _ z_9
   obtain rfl:=sj hp
   refine s1 ?_
   refine res1 rfl (ResOK.tmp rfl) ⟨rfl,rfl⟩ ms
  ·replace hp:=cond_f q8 hp
   refine s6 ?_
   exact ⟨IntKind.wrap .i64 (v1_0+1),sb,(.sub ms),some_eq hp⟩
 ·replace hp:=cond_f q2 hp
  refine W_exit ?_
  replace hp:=map_any hp;obtain ⟨a10,hp,z_10⟩:=hp
  obtain rfl:=hx1 _ z_10
  refine s4 ?_
  obtain rfl:=sj hp
  refine s1 ?_
  refine res1 rfl (ResOK.tmp rfl) ⟨rfl,rfl⟩ ms
noncomputable def s_l8Has (a0:List D_Id) (a1:D_Id):Option Bool :=
 whileP (fun s1:Int=>cond (decide (s1 < (a0.length:Int))) (Option.bind (idx a0 s1) (fun y3=>cond (decide (y3.1=a1.1)&&(decide (y3.2=a1.2)&&true)) (Option.map .inr (some true)) (some (.inl (IntKind.wrap .i64 (s1+1)))))) (Option.map .inr (some false))) 0
theorem s_l8Has_walk (w:World) (a0:TL T_Id) (a1:T_Id) (h0:GT.rd w [] a0) (h1:GT.rd w [] a1) (r:Bool) (hp:s_l8Has (GT.dat a0) (GT.dat a1)=some r):Spec Tryz.prog 142 [(TL.hdr a0),.agg (GT.cells a1).toArray].toArray w [] (IsV (.bool r)):=by
 obtain ⟨a1_1,a1_2⟩:=a1
 change Spec _ _ ([(TL.hdr a0),Value.agg #[.int .i64 a1_1,.int .i64 a1_2]]:List Value).toArray w [] _
 refine Spec.intro Tryz.func142 rfl Tryz.ntmps142 rfl ?_
 unfold s_l8Has at hp
 replace hp:=dd hp
 refine s2 ?_
 refine bx fun bk3=>?_
 refine s8 ?_
 refine W_while (σ:=Int) GT.dat (fun (v1_0:Int)=>[(5,.int .i64 v1_0)]) (fun (v1_0:Int)=>[]) [(0,_),(3,_)] [blk bk3 _ _] 0 hp sb ms ?_
 clear hp
 rintro v1_0 x1 hp hx1
 replace hp:=dd hp
 refine kq [0,3,5] ?_
 refine s8 ?_
 refine kp [0,3,5,9] ?_
 refine W_cond rfl (fun q2=>?_) (fun q2=>?_)
 ·replace hp:=cond_t q2 hp
  refine s4 ?_
  replace hp:=idx_bind hp;obtain ⟨⟨u3_1,u3_2⟩,hy3,hp⟩:=hp
  refine W_D0 [17] mix (by kernel_rfl) rfl ?_
  refine s2 ?_
  refine D_idxA (X:=a0) GC.none (OpV.t rfl) (OpV.t rfl) el31.h (RdT.old h0) (fun _=>hy3) ?_
  refine D_loadW GC.none (OpV.t rfl) (fun hg=>RdT.at (RdT.old h0) (hy3).2) (by exact agg35.h) ?_
  refine s1 ?_
  refine D_bin GC.none (OpV.t rfl) (OpV.t rfl) (fun hg=>(bv_aeql eqsh35 (EqS.consI one3.h und3.h rfl rfl (EqS.consI one3.h und3.h rfl rfl EqS.nil)))) ?_
  refine s8 ?_
  refine kp [0,3,5,17] ?_
  refine W_cond rfl (fun q4=>?_) (fun q4=>?_)
  ·replace hp:=cond_t q4 hp
   refine s4 ?_
   replace hp:=map_any hp;obtain ⟨a5,hp,z_5⟩:=hp
   obtain rfl:=hx1 _ z_5
   obtain rfl:=sj hp
   refine s1 ?_
   refine res1 rfl (ResOK.tmp rfl) ⟨rfl,rfl⟩ ms
  ·replace hp:=cond_f q4 hp
   refine s6 ?_
   exact ⟨IntKind.wrap .i64 (v1_0+1),sb,(.sub ms),some_eq hp⟩
 ·replace hp:=cond_f q2 hp
  refine W_exit ?_
  replace hp:=map_any hp;obtain ⟨a6,hp,z_6⟩:=hp
  obtain rfl:=hx1 _ z_6
  refine s4 ?_
  obtain rfl:=sj hp
  refine s1 ?_
  refine res1 rfl (ResOK.tmp rfl) ⟨rfl,rfl⟩ ms
noncomputable def s_l8Inst (a0:D_Inst):Option Bool :=
 Option.bind (s_l8Id (a0.1.1,a0.1.2)) (fun y1=>gb (!(!y1)) (s_l1In a0.2.1 (-1) 600) (fun y2=>gb (!((!y1)||(!y2))) (s_l1In a0.2.2.1 (-1) a0.2.1) (fun y3=>gb (!(((!y1)||(!y2))||(!y3))) (s_l1In a0.2.2.2.1 0 3) (fun y4=>gb (!((((!y1)||(!y2))||(!y3))||(!y4))) (s_CmdOk (a0.2.2.2.2.1.1,a0.2.2.2.2.1.2.1,a0.2.2.2.2.1.2.2.1,a0.2.2.2.2.1.2.2.2.1,a0.2.2.2.2.1.2.2.2.2.1,a0.2.2.2.2.1.2.2.2.2.2.1,a0.2.2.2.2.1.2.2.2.2.2.2.1,a0.2.2.2.2.1.2.2.2.2.2.2.2)) (fun y5=>gb (!(((((!y1)||(!y2))||(!y3))||(!y4))||(!y5))) (s_l1In a0.2.2.2.2.2.1 0 60) (fun y6=>gb (!((((((!y1)||(!y2))||(!y3))||(!y4))||(!y5))||(!y6))) (s_IdsOk a0.2.2.2.2.2.2.1) (fun y7=>gb (!(((((((!y1)||(!y2))||(!y3))||(!y4))||(!y5))||(!y6))||(!y7))) (s_l8Has a0.2.2.2.2.2.2.1 (a0.1.1,a0.1.2)) (fun y8=>cond ((((((((!y1)||(!y2))||(!y3))||(!y4))||(!y5))||(!y6))||(!y7))||y8) (some false) (some ((!decide (a0.2.2.2.1=0))||(((((decide (a0.2.2.1=(-1)))&&(decide (a0.2.2.2.2.1.1=0)))&&(decide (a0.2.2.2.2.2.1=0)))&&(decide ((a0.2.2.2.2.2.2.1.length:Int)=0)))&&(!a0.2.2.2.2.2.2.2))))))))))))
theorem s_l8Inst_walk (w:World) (a0:T_Inst) (h0:GT.rd w [] a0) (r:Bool) (hp:s_l8Inst (GT.dat a0)=some r):Spec Tryz.prog 180 [.agg (GT.cells a0).toArray].toArray w [] (IsV (.bool r)):=by
 obtain ⟨⟨a0_1,a0_2⟩,a0_3,a0_4,a0_5,⟨a0_6,a0_7,a0_8,a0_9,a0_10,a0_11,a0_12,a0_13⟩,a0_14,a0_15,a0_16⟩:=a0
 change Spec _ _ ([Value.agg #[.int .i64 a0_1,.int .i64 a0_2,.int .i64 a0_3,.int .i64 a0_4,.int .i64 a0_5,.int .i64 a0_6,.int .i64 a0_7,.int .i64 a0_8,.string a0_9,.string a0_10,.string a0_11,.int .i64 a0_12,(TL.hdr a0_13),.int .i64 a0_14,(TL.hdr a0_15),.bool a0_16]]:List Value).toArray w [] _
 refine Spec.intro Tryz.func180 rfl Tryz.ntmps180 rfl ?_
 unfold s_l8Inst at hp
 replace hp:=dd hp
 refine s2 ?_
 refine bx fun bk1=>?_
 refine s4 ?_
 replace hp:=ba hp;obtain ⟨y1,hy1,hp⟩:=hp
 replace hp:=gb_any hp;obtain ⟨y2,hy2,hp⟩:=hp
 replace hp:=gb_any hp;obtain ⟨y3,hy3,hp⟩:=hp
 replace hp:=gb_any hp;obtain ⟨y4,hy4,hp⟩:=hp
 replace hp:=gb_any hp;obtain ⟨y5,hy5,hp⟩:=hp
 replace hp:=gb_any hp;obtain ⟨y6,hy6,hp⟩:=hp
 replace hp:=gb_any hp;obtain ⟨y7,hy7,hp⟩:=hp
 replace hp:=gb_any hp;obtain ⟨y8,hy8,hp⟩:=hp
 refine W_D0 [51] mix (by kernel_rfl) rfl ?_
 refine s1 ?_
 refine D_loadW GC.none (OpV.t rfl) (fun hg=>RdC.seg (RdC.blk mm) 0 2 rfl) (by exact agg35.h) ?_
 refine D_callX GC.none fn140.h (OpVs.cons (OpV.t rfl) (OpVs.nil)) (by exact fun hg w F hF hM=>s_l8Id_walk w (a0_1,a0_2) (RdT.nowS (RdT.pair RdT.int RdT.int) hF hM) _ hy1) ?_
 refine s4 ?_
 refine D_callX (GC.some rfl rfl) fn83.h (OpVs.cons (OpV.s rfl) (OpVs.cons OpV.c (OpVs.cons OpV.c (OpVs.nil)))) (by exact fun hg w F hF hM=>s_l1In_walk w a0_3 (-1) 600  _ (hy2 (gnot hg.2))) ?_
 refine s7 ?_
 refine D_callX (GC.some rfl rfl) fn83.h (OpVs.cons (OpV.s rfl) (OpVs.cons OpV.c (OpVs.cons (OpV.s rfl) (OpVs.nil)))) (by exact fun hg w F hF hM=>s_l1In_walk w a0_4 (-1) a0_3  _ (hy3 (gnot hg.2))) ?_
 refine s5 ?_
 refine D_callX (GC.some rfl rfl) fn83.h (OpVs.cons (OpV.s rfl) (OpVs.cons OpV.c (OpVs.cons OpV.c (OpVs.nil)))) (by exact fun hg w F hF hM=>s_l1In_walk w a0_5 0 3  _ (hy4 (gnot hg.2))) ?_
 refine s4 ?_
 refine D_loadW (GC.some rfl rfl) (OpV.s rfl) (fun hg=>RdC.seg (RdC.blk mm) 5 8 rfl) (by exact agg38.h) ?_
 refine D_callX (GC.some rfl rfl) fn38.h (OpVs.cons (OpV.s rfl) (OpVs.nil)) (by exact fun hg w F hF hM=>s_CmdOk_walk w (a0_6,a0_7,a0_8,a0_9,a0_10,a0_11,a0_12,a0_13) (RdT.nowS (RdT.pair RdT.int (RdT.pair RdT.int (RdT.pair RdT.int (RdT.pair RdT.str (RdT.pair RdT.str (RdT.pair RdT.str (RdT.pair RdT.int (RdT.old h0.2.2.2.2.1.2.2.2.2.2.2.2)))))))) hF hM) _ (hy5 (gnot hg.2))) ?_
 refine s5 ?_
 refine D_callX (GC.some rfl rfl) fn83.h (OpVs.cons (OpV.s rfl) (OpVs.cons OpV.c (OpVs.cons OpV.c (OpVs.nil)))) (by exact fun hg w F hF hM=>s_l1In_walk w a0_14 0 60  _ (hy6 (gnot hg.2))) ?_
 refine s5 ?_
 refine D_callX (GC.some rfl rfl) fn141.h (OpVs.cons (OpV.s rfl) (OpVs.nil)) (by exact fun hg w F hF hM=>s_IdsOk_walk w a0_15 (RdT.nowS (RdT.old h0.2.2.2.2.2.2.1) hF hM) _ (hy7 (gnot hg.2))) ?_
 refine s6 ?_
 refine D_loadW (GC.some rfl rfl) (OpV.s rfl) (fun hg=>RdC.seg (RdC.blk mm) 0 2 rfl) (by exact agg35.h) ?_
 refine D_callX (GC.some rfl rfl) fn142.h (OpVs.cons (OpV.s rfl) (OpVs.cons (OpV.s rfl) (OpVs.nil))) (by exact fun hg w F hF hM=>s_l8Has_walk w a0_15 (a0_1,a0_2) (RdT.nowS (RdT.old h0.2.2.2.2.2.2.1) hF hM) (RdT.nowS (RdT.pair RdT.int RdT.int) hF hM) _ (hy8 (gnot hg.2))) ?_
 refine s20 ?_
 refine s20 ?_
 refine s12 ?_
 refine kp [1,51] ?_
 refine W_cond rfl (fun q9=>?_) (fun q9=>?_)
 ·replace hp:=cond_t q9 hp
  refine s4 ?_
  obtain rfl:=sj hp
  refine s1 ?_
  refine res1 rfl (ResOK.tmp rfl) ⟨rfl,rfl⟩ ms
 ·replace hp:=cond_f q9 hp
  refine s2 ?_
  refine W_D0 [2] mix (by kernel_rfl) rfl ?_
  refine s10 ?_
  refine D_load (fo:=5) (GC.some rfl rfl) (OpV.s rfl) (fun hg=>RdC.blk mm) one3.h rfl ?_
  refine s10 ?_
  refine D_lenP (X:=a0_15) (GC.some rfl rfl) (OpV.s rfl) el31.h ?_
  refine s20 ?_
  refine s20 ?_
  refine s2 ?_
  obtain rfl:=sj hp
  refine s1 ?_
  refine res1 rfl (ResOK.tmp rfl) ⟨rfl,rfl⟩ ms
noncomputable def s_InstsOk (a0:List D_Inst):Option Bool :=
 whileP (fun s1:Int=>cond (decide (s1 < (a0.length:Int))) (Option.bind (idx a0 s1) (fun y3=>Option.bind (s_l8Inst ((y3.1.1,y3.1.2),y3.2.1,y3.2.2.1,y3.2.2.2.1,(y3.2.2.2.2.1.1,y3.2.2.2.2.1.2.1,y3.2.2.2.2.1.2.2.1,y3.2.2.2.2.1.2.2.2.1,y3.2.2.2.2.1.2.2.2.2.1,y3.2.2.2.2.1.2.2.2.2.2.1,y3.2.2.2.2.1.2.2.2.2.2.2.1,y3.2.2.2.2.1.2.2.2.2.2.2.2),y3.2.2.2.2.2.1,y3.2.2.2.2.2.2.1,y3.2.2.2.2.2.2.2)) (fun y4=>gb ((!(!y4))&&(decide (0 < s1))) (idx a0 (IntKind.wrap .i64 (s1 - 1))) (fun y5=>gb ((!(!y4))&&(decide (0 < s1))) (idx a0 s1) (fun y6=>gb ((!(!y4))&&(decide (0 < s1))) (s_l8Less (y5.1.1,y5.1.2) (y6.1.1,y6.1.2)) (fun y7=>cond ((!y4)||((decide (0 < s1))&&(!y7))) (Option.map .inr (some false)) (some (.inl (IntKind.wrap .i64 (s1+1)))))))))) (Option.map .inr (some true))) 0
theorem s_InstsOk_walk (w:World) (a0:TL T_Inst) (h0:GT.rd w [] a0) (r:Bool) (hp:s_InstsOk (GT.dat a0)=some r):Spec Tryz.prog 137 [(TL.hdr a0)].toArray w [] (IsV (.bool r)):=by
 refine Spec.intro Tryz.func137 rfl Tryz.ntmps137 rfl ?_
 unfold s_InstsOk at hp
 replace hp:=dd hp
 refine s10 ?_
 refine W_while (σ:=Int) GT.dat (fun (v1_0:Int)=>[(3,.int .i64 v1_0)]) (fun (v1_0:Int)=>[]) [(0,_)] [] 0 hp sb ms ?_
 clear hp
 rintro v1_0 x1 hp hx1
 replace hp:=dd hp
 refine kq [0,3] ?_
 refine s8 ?_
 refine kp [0,3,7] ?_
 refine W_cond rfl (fun q2=>?_) (fun q2=>?_)
 ·replace hp:=cond_t q2 hp
  refine s4 ?_
  replace hp:=idx_bind hp;obtain ⟨⟨⟨u3_1,u3_2⟩,u3_3,u3_4,u3_5,⟨u3_6,u3_7,u3_8,u3_9,u3_10,u3_11,u3_12,u3_13⟩,u3_14,u3_15,u3_16⟩,hy3,hp⟩:=hp
  replace hp:=ba hp;obtain ⟨y4,hy4,hp⟩:=hp
  replace hp:=idx_gb hp;obtain ⟨⟨⟨u5_1,u5_2⟩,u5_3,u5_4,u5_5,⟨u5_6,u5_7,u5_8,u5_9,u5_10,u5_11,u5_12,u5_13⟩,u5_14,u5_15,u5_16⟩,hy5,hp⟩:=hp
  replace hp:=idx_gb hp;obtain ⟨⟨⟨u6_1,u6_2⟩,u6_3,u6_4,u6_5,⟨u6_6,u6_7,u6_8,u6_9,u6_10,u6_11,u6_12,u6_13⟩,u6_14,u6_15,u6_16⟩,hy6,hp⟩:=hp
  replace hp:=gb_any hp;obtain ⟨y7,hy7,hp⟩:=hp
  refine W_D0 [34] mix (by kernel_rfl) rfl ?_
  refine s2 ?_
  refine D_idxA (X:=a0) GC.none (OpV.t rfl) (OpV.t rfl) el41.h (RdT.old h0) (fun _=>hy3) ?_
  refine D_loadW GC.none (OpV.t rfl) (fun hg=>RdT.at (RdT.old h0) (hy3).2) (by exact agg48.h) ?_
  refine D_callX GC.none fn180.h (OpVs.cons (OpV.t rfl) (OpVs.nil)) (by exact fun hg w F hF hM=>s_l8Inst_walk w ((u3_1,u3_2),u3_3,u3_4,u3_5,(u3_6,u3_7,u3_8,u3_9,u3_10,u3_11,u3_12,u3_13),u3_14,u3_15,u3_16) (RdT.nowS (RdT.pair (RdT.pair RdT.int RdT.int) (RdT.pair RdT.int (RdT.pair RdT.int (RdT.pair RdT.int (RdT.pair (RdT.pair RdT.int (RdT.pair RdT.int (RdT.pair RdT.int (RdT.pair RdT.str (RdT.pair RdT.str (RdT.pair RdT.str (RdT.pair RdT.int (RdT.snd (RdT.snd (RdT.snd (RdT.snd (RdT.snd (RdT.snd (RdT.snd (RdT.fst (RdT.snd (RdT.snd (RdT.snd (RdT.snd (RdT.of (RdT.old h0) (hy3).2)))))))))))))))))))) (RdT.pair RdT.int (RdT.pair (RdT.fst (RdT.snd (RdT.snd (RdT.snd (RdT.snd (RdT.snd (RdT.snd (RdT.of (RdT.old h0) (hy3).2)))))))) RdT.bool))))))) hF hM) _ hy4) ?_
  refine s8 ?_
  refine D_idxA (X:=a0) (GC.some rfl rfl) (OpV.s rfl) (OpV.s rfl) el41.h (RdT.old h0) (fun hg=>hy5 (gand (gnot hg.1.2) hg.2)) ?_
  refine s1 ?_
  refine D_loadW (GC.some rfl rfl) (OpV.s rfl) (fun hg=>RdC.seg (RdT.at (RdT.old h0) (hy5 (gand (gnot hg.1.2) hg.2)).2) 0 2 rfl) (by exact agg35.h) ?_
  refine s2 ?_
  refine D_idxA (X:=a0) (GC.some rfl rfl) (OpV.s rfl) (OpV.s rfl) el41.h (RdT.old h0) (fun hg=>hy6 (gand (gnot hg.1.2) hg.2)) ?_
  refine s1 ?_
  refine D_loadW (GC.some rfl rfl) (OpV.s rfl) (fun hg=>RdC.seg (RdT.at (RdT.old h0) (hy6 (gand (gnot hg.1.2) hg.2)).2) 0 2 rfl) (by exact agg35.h) ?_
  refine D_callX (GC.some rfl rfl) fn181.h (OpVs.cons (OpV.s rfl) (OpVs.cons (OpV.s rfl) (OpVs.nil))) (by exact fun hg w F hF hM=>s_l8Less_walk w (u5_1,u5_2) (u6_1,u6_2) (RdT.nowS (RdT.pair RdT.int RdT.int) hF hM) (RdT.nowS (RdT.pair RdT.int RdT.int) hF hM) _ (hy7 (gand (gnot hg.1.2) hg.2))) ?_
  refine s20 ?_
  refine s10 ?_
  refine kp [0,3,34] ?_
  refine W_cond rfl (fun q8=>?_) (fun q8=>?_)
  ·replace hp:=cond_t q8 hp
   refine s4 ?_
   replace hp:=map_any hp;obtain ⟨a9,hp,z_9⟩:=hp
   obtain rfl:=hx1 _ z_9
   obtain rfl:=sj hp
   refine s1 ?_
   refine res1 rfl (ResOK.tmp rfl) ⟨rfl,rfl⟩ ms
  ·replace hp:=cond_f q8 hp
   refine s6 ?_
   exact ⟨IntKind.wrap .i64 (v1_0+1),sb,(.sub ms),some_eq hp⟩
 ·replace hp:=cond_f q2 hp
  refine W_exit ?_
  replace hp:=map_any hp;obtain ⟨a10,hp,z_10⟩:=hp
  obtain rfl:=hx1 _ z_10
  refine s4 ?_
  obtain rfl:=sj hp
  refine s1 ?_
  refine res1 rfl (ResOK.tmp rfl) ⟨rfl,rfl⟩ ms
noncomputable def i_idOk (a0:D_Id):Option Bool :=
 Option.bind (i_within a0.1 0 2) (fun y1=>gb y1 (i_within a0.2 1 6) (fun y2=>some (y1&&y2)))
theorem i_idOk_walk (w:World) (a0:T_Id) (h0:GT.rd w [] a0) (r:Bool) (hp:i_idOk (GT.dat a0)=some r):Spec Tryz.prog 113 [.agg (GT.cells a0).toArray].toArray w [] (IsV (.bool r)):=by
 obtain ⟨a0_1,a0_2⟩:=a0
 change Spec _ _ ([Value.agg #[.int .i64 a0_1,.int .i64 a0_2]]:List Value).toArray w [] _
 refine Spec.intro Tryz.func113 rfl Tryz.ntmps113 rfl ?_
 unfold i_idOk at hp
 replace hp:=dd hp
 refine s2 ?_
 refine bx fun bk1=>?_
 refine s3 ?_
 replace hp:=ba hp;obtain ⟨y1,hy1,hp⟩:=hp
 replace hp:=gb_any hp;obtain ⟨y2,hy2,hp⟩:=hp
 refine W_D0 [2] mix (by kernel_rfl) rfl ?_
 refine s2 ?_
 refine D_callX GC.none fn66.h (OpVs.cons (OpV.t rfl) (OpVs.cons OpV.c (OpVs.cons OpV.c (OpVs.nil)))) (by exact fun hg w F hF hM=>i_within_walk w a0_1 0 2  _ hy1) ?_
 refine s3 ?_
 refine D_callX (GC.some rfl rfl) fn66.h (OpVs.cons (OpV.s rfl) (OpVs.cons OpV.c (OpVs.cons OpV.c (OpVs.nil)))) (by exact fun hg w F hF hM=>i_within_walk w a0_2 1 6  _ (hy2 hg.2)) ?_
 refine s13 ?_
 obtain rfl:=sj hp
 refine s1 ?_
 refine res1 rfl (ResOK.tmp rfl) ⟨rfl,rfl⟩ ms
noncomputable def i_compareIds (a0:D_Id) (a1:D_Id):Option Int :=
 cond ((decide (a0.1 < a1.1))||((decide (a0.1=a1.1))&&(decide (a0.2 < a1.2)))) (some (-1)) (cond (decide (a0.1=a1.1)&&(decide (a0.2=a1.2)&&true)) (some 0) (some 1))
theorem i_compareIds_walk (w:World) (a0:T_Id) (a1:T_Id) (h0:GT.rd w [] a0) (h1:GT.rd w [] a1) (r:Int) (hp:i_compareIds (GT.dat a0) (GT.dat a1)=some r):Spec Tryz.prog 128 [.agg (GT.cells a0).toArray,.agg (GT.cells a1).toArray].toArray w [] (IsV (.int .i64 r)):=by
 obtain ⟨a0_1,a0_2⟩:=a0
 obtain ⟨a1_1,a1_2⟩:=a1
 change Spec _ _ ([Value.agg #[.int .i64 a0_1,.int .i64 a0_2],Value.agg #[.int .i64 a1_1,.int .i64 a1_2]]:List Value).toArray w [] _
 refine Spec.intro Tryz.func128 rfl Tryz.ntmps128 rfl ?_
 unfold i_compareIds at hp
 replace hp:=dd hp
 refine s2 ?_
 refine bx fun bk2=>?_
 refine bx fun bk3=>?_
 refine s5 ?_
 refine W_D0 [5] mix (by kernel_rfl) rfl ?_
 refine s20 ?_
 refine s20 ?_
 refine s2 ?_
 refine kp [2,3,5] ?_
 refine W_cond rfl (fun q1=>?_) (fun q1=>?_)
 ·replace hp:=cond_t q1 hp
  refine s4 ?_
  obtain rfl:=sj hp
  refine s1 ?_
  refine res1 rfl (ResOK.tmp rfl) ⟨rfl,rfl⟩ ms
 ·replace hp:=cond_f q1 hp
  refine s4 ?_
  refine L_binV rfl rfl rfl (bv_aeql eqsh35 (EqS.consI one3.h und3.h rfl rfl (EqS.consI one3.h und3.h rfl rfl EqS.nil))) ?_
  refine s2 ?_
  refine kp [25] ?_
  refine W_cond rfl (fun q2=>?_) (fun q2=>?_)
  ·replace hp:=cond_t q2 hp
   refine s4 ?_
   obtain rfl:=sj hp
   refine s1 ?_
   refine res1 rfl (ResOK.tmp rfl) ⟨rfl,rfl⟩ ms
  ·replace hp:=cond_f q2 hp
   refine s5 ?_
   obtain rfl:=sj hp
   refine s1 ?_
   refine res1 rfl (ResOK.tmp rfl) ⟨rfl,rfl⟩ ms
noncomputable def i_IdsOk (a0:List D_Id):Option Bool :=
 whileP (fun s1:Int=>cond (decide (s1 < (a0.length:Int))) (Option.bind (idx a0 s1) (fun y3=>Option.bind (i_idOk (y3.1,y3.2)) (fun y4=>gb ((!(!y4))&&(decide (0 < s1))) (idx a0 (IntKind.wrap .i64 (s1 - 1))) (fun y5=>gb ((!(!y4))&&(decide (0 < s1))) (i_compareIds (y5.1,y5.2) (y3.1,y3.2)) (fun y6=>cond ((!y4)||((decide (0 < s1))&&(decide (0≤y6)))) (Option.map .inr (some false)) (some (.inl (IntKind.wrap .i64 (s1+1))))))))) (Option.map .inr (some true))) 0
theorem i_IdsOk_walk (w:World) (a0:TL T_Id) (h0:GT.rd w [] a0) (r:Bool) (hp:i_IdsOk (GT.dat a0)=some r):Spec Tryz.prog 164 [(TL.hdr a0)].toArray w [] (IsV (.bool r)):=by
 refine Spec.intro Tryz.func164 rfl Tryz.ntmps164 rfl ?_
 unfold i_IdsOk at hp
 replace hp:=dd hp
 refine s12 ?_
 refine W_while (σ:=Int) GT.dat (fun (v1_0:Int)=>[(7,.int .i64 v1_0)]) (fun (v1_0:Int)=>[]) [(0,_),(5,_),(6,_)] [] 0 hp sb ms ?_
 clear hp
 rintro v1_0 x1 hp hx1
 replace hp:=dd hp
 refine kq [0,5,6,7] ?_
 refine s5 ?_
 refine kp [0,5,6,7,8] ?_
 refine W_cond rfl (fun q2=>?_) (fun q2=>?_)
 ·replace hp:=cond_t q2 hp
  refine s6 ?_
  replace hp:=idx_bind hp;obtain ⟨⟨u3_1,u3_2⟩,hy3,hp⟩:=hp
  refine L_idxA (X:=a0) rfl rfl rfl el31.h (RdT.old h0) hy3 ?_
  refine L_loadW rfl rfl (RdT.at (RdT.old h0) (hy3).2) (by exact agg35.h) ?_
  refine al fun bk4=>?_
  refine s4 ?_
  replace hp:=ba hp;obtain ⟨y4,hy4,hp⟩:=hp
  replace hp:=idx_gb hp;obtain ⟨⟨u5_1,u5_2⟩,hy5,hp⟩:=hp
  replace hp:=gb_any hp;obtain ⟨y6,hy6,hp⟩:=hp
  refine W_D0 [28] mix (by kernel_rfl) rfl ?_
  refine s1 ?_
  refine D_callX GC.none fn113.h (OpVs.cons (OpV.t rfl) (OpVs.nil)) (by exact fun hg w F hF hM=>i_idOk_walk w (u3_1,u3_2) (RdT.nowS (RdT.pair RdT.int RdT.int) hF hM) _ hy4) ?_
  refine s8 ?_
  refine D_idxA (X:=a0) (GC.some rfl rfl) (OpV.s rfl) (OpV.s rfl) el31.h (RdT.old h0) (fun hg=>hy5 (gand (gnot hg.1.2) hg.2)) ?_
  refine D_loadW (GC.some rfl rfl) (OpV.s rfl) (fun hg=>RdT.at (RdT.old h0) (hy5 (gand (gnot hg.1.2) hg.2)).2) (by exact agg35.h) ?_
  refine s1 ?_
  refine D_callX (GC.some rfl rfl) fn128.h (OpVs.cons (OpV.s rfl) (OpVs.cons (OpV.s rfl) (OpVs.nil))) (by exact fun hg w F hF hM=>i_compareIds_walk w (u5_1,u5_2) (u3_1,u3_2) (RdT.nowS (RdT.pair RdT.int RdT.int) hF hM) (RdT.nowS (RdT.pair RdT.int RdT.int) hF hM) _ (hy6 (gand (gnot hg.1.2) hg.2))) ?_
  refine s20 ?_
  refine s2 ?_
  refine kp [0,5,6,7,28] ?_
  refine W_cond rfl (fun q7=>?_) (fun q7=>?_)
  ·replace hp:=cond_t q7 hp
   refine s4 ?_
   replace hp:=map_any hp;obtain ⟨a8,hp,z_8⟩:=hp
   obtain rfl:=hx1 _ z_8
   obtain rfl:=sj hp
   refine s1 ?_
   refine res1 rfl (ResOK.tmp rfl) ⟨rfl,rfl⟩ ms
  ·replace hp:=cond_f q7 hp
   refine s5 ?_
   exact ⟨IntKind.wrap .i64 (v1_0+1),sb,(.sub ms),some_eq hp⟩
 ·replace hp:=cond_f q2 hp
  refine W_exit ?_
  replace hp:=map_any hp;obtain ⟨a9,hp,z_9⟩:=hp
  obtain rfl:=hx1 _ z_9
  refine s4 ?_
  obtain rfl:=sj hp
  refine s1 ?_
  refine res1 rfl (ResOK.tmp rfl) ⟨rfl,rfl⟩ ms
noncomputable def sl_Index_implIdimplId (a0:List D_Id) (a1:D_Id):Option Int :=
 whileP (fun s1:Int=>cond (decide (s1 < (a0.length:Int))) (Option.bind (idx a0 s1) (fun y3=>cond (decide (a1.1=y3.1)&&(decide (a1.2=y3.2)&&true)) (Option.map .inr (some s1)) (some (.inl (IntKind.wrap .i64 (s1+1)))))) (Option.map .inr (some (-1)))) 0
theorem sl_Index_implIdimplId_walk (w:World) (a0:TL T_Id) (a1:T_Id) (h0:GT.rd w [] a0) (h1:GT.rd w [] a1) (r:Int) (hp:sl_Index_implIdimplId (GT.dat a0) (GT.dat a1)=some r):Spec Tryz.prog 40 [(TL.hdr a0),.agg (GT.cells a1).toArray].toArray w [] (IsV (.int .i64 r)):=by
 obtain ⟨a1_1,a1_2⟩:=a1
 change Spec _ _ ([(TL.hdr a0),Value.agg #[.int .i64 a1_1,.int .i64 a1_2]]:List Value).toArray w [] _
 refine Spec.intro Tryz.func40 rfl Tryz.ntmps40 rfl ?_
 unfold sl_Index_implIdimplId at hp
 replace hp:=dd hp
 refine s2 ?_
 refine bx fun bk3=>?_
 refine s10 ?_
 refine W_while (σ:=Int) GT.dat (fun (v1_0:Int)=>[(8,.int .i64 v1_0)]) (fun (v1_0:Int)=>[]) [(0,_),(3,_),(7,_)] [blk bk3 _ _] 0 hp sb ms ?_
 clear hp
 rintro v1_0 x1 hp hx1
 replace hp:=dd hp
 refine kq [0,3,7,8] ?_
 refine s5 ?_
 refine kp [0,3,7,8,9] ?_
 refine W_cond rfl (fun q2=>?_) (fun q2=>?_)
 ·replace hp:=cond_t q2 hp
  refine s9 ?_
  replace hp:=idx_bind hp;obtain ⟨⟨u3_1,u3_2⟩,hy3,hp⟩:=hp
  refine W_D0 [16] mix (by kernel_rfl) rfl ?_
  refine s3 ?_
  refine D_idxA (X:=a0) GC.none (OpV.t rfl) (OpV.t rfl) el31.h (RdT.old h0) (fun _=>hy3) ?_
  refine D_loadW GC.none (OpV.t rfl) (fun hg=>RdT.at (RdT.old h0) (hy3).2) (by exact agg35.h) ?_
  refine D_bin GC.none (OpV.t rfl) (OpV.t rfl) (fun hg=>(bv_aeql eqsh35 (EqS.consI one3.h und3.h rfl rfl (EqS.consI one3.h und3.h rfl rfl EqS.nil)))) ?_
  refine s8 ?_
  refine kp [0,3,5,7,8,16] ?_
  refine W_cond rfl (fun q4=>?_) (fun q4=>?_)
  ·replace hp:=cond_t q4 hp
   refine s5 ?_
   replace hp:=map_any hp;obtain ⟨a5,hp,z_5⟩:=hp
   obtain rfl:=hx1 _ z_5
   obtain rfl:=sj hp
   refine s1 ?_
   refine res1 rfl (ResOK.tmp rfl) ⟨rfl,rfl⟩ ms
  ·replace hp:=cond_f q4 hp
   refine s5 ?_
   exact ⟨IntKind.wrap .i64 (v1_0+1),sb,(.sub ms),some_eq hp⟩
 ·replace hp:=cond_f q2 hp
  refine W_exit ?_
  replace hp:=map_any hp;obtain ⟨a6,hp,z_6⟩:=hp
  obtain rfl:=hx1 _ z_6
  refine s4 ?_
  obtain rfl:=sj hp
  refine s1 ?_
  refine res1 rfl (ResOK.tmp rfl) ⟨rfl,rfl⟩ ms
noncomputable def sl_Contains_implIdimplId (a0:List D_Id) (a1:D_Id):Option Bool :=
 Option.bind (sl_Index_implIdimplId a0 (a1.1,a1.2)) (fun y1=>some (decide (0≤y1)))
theorem sl_Contains_implIdimplId_walk (w:World) (a0:TL T_Id) (a1:T_Id) (h0:GT.rd w [] a0) (h1:GT.rd w [] a1) (r:Bool) (hp:sl_Contains_implIdimplId (GT.dat a0) (GT.dat a1)=some r):Spec Tryz.prog 76 [(TL.hdr a0),.agg (GT.cells a1).toArray].toArray w [] (IsV (.bool r)):=by
 obtain ⟨a1_1,a1_2⟩:=a1
 change Spec _ _ ([(TL.hdr a0),Value.agg #[.int .i64 a1_1,.int .i64 a1_2]]:List Value).toArray w [] _
 refine Spec.intro Tryz.func76 rfl Tryz.ntmps76 rfl ?_
 unfold sl_Contains_implIdimplId at hp
 replace hp:=dd hp
 refine s2 ?_
 refine bx fun bk3=>?_
 refine s6 ?_
 replace hp:=ba hp;obtain ⟨y1,hy1,hp⟩:=hp
 refine L_callX rfl fn40.h rfl (by exact fun w hw=>sl_Index_implIdimplId_walk w a0 (a1_1,a1_2) (RdT.now (RdT.old h0) hw) (RdT.now (RdT.pair RdT.int RdT.int) hw) _ hy1) ?_
 refine s3 ?_
 obtain rfl:=sj hp
 refine s1 ?_
 refine res1 rfl (ResOK.tmp rfl) ⟨rfl,rfl⟩ ms
noncomputable def i_instOk (a0:D_Inst):Option Bool :=
 Option.bind (i_idOk (a0.1.1,a0.1.2)) (fun y1=>gb (!(!y1)) (i_within a0.2.1 (-1) 600) (fun y2=>gb (!((!y1)||(!y2))) (i_within a0.2.2.1 (-1) a0.2.1) (fun y3=>gb (!(((!y1)||(!y2))||(!y3))) (i_within a0.2.2.2.1 0 3) (fun y4=>gb (!((((!y1)||(!y2))||(!y3))||(!y4))) (i_CmdOk (a0.2.2.2.2.1.1,a0.2.2.2.2.1.2.1,a0.2.2.2.2.1.2.2.1,a0.2.2.2.2.1.2.2.2.1,a0.2.2.2.2.1.2.2.2.2.1,a0.2.2.2.2.1.2.2.2.2.2.1,a0.2.2.2.2.1.2.2.2.2.2.2.1,a0.2.2.2.2.1.2.2.2.2.2.2.2)) (fun y5=>gb (!(((((!y1)||(!y2))||(!y3))||(!y4))||(!y5))) (i_within a0.2.2.2.2.2.1 0 60) (fun y6=>gb (!((((((!y1)||(!y2))||(!y3))||(!y4))||(!y5))||(!y6))) (i_IdsOk a0.2.2.2.2.2.2.1) (fun y7=>gb (!(((((((!y1)||(!y2))||(!y3))||(!y4))||(!y5))||(!y6))||(!y7))) (sl_Contains_implIdimplId a0.2.2.2.2.2.2.1 (a0.1.1,a0.1.2)) (fun y8=>cond ((((((((!y1)||(!y2))||(!y3))||(!y4))||(!y5))||(!y6))||(!y7))||y8) (some false) (some ((!decide (a0.2.2.2.1=0))||(((((decide (a0.2.2.1=(-1)))&&(decide (a0.2.2.2.2.1.1=0)))&&(decide (a0.2.2.2.2.2.1=0)))&&(decide ((a0.2.2.2.2.2.2.1.length:Int)=0)))&&(!a0.2.2.2.2.2.2.2))))))))))))
theorem i_instOk_walk (w:World) (a0:T_Inst) (h0:GT.rd w [] a0) (r:Bool) (hp:i_instOk (GT.dat a0)=some r):Spec Tryz.prog 127 [.agg (GT.cells a0).toArray].toArray w [] (IsV (.bool r)):=by
 obtain ⟨⟨a0_1,a0_2⟩,a0_3,a0_4,a0_5,⟨a0_6,a0_7,a0_8,a0_9,a0_10,a0_11,a0_12,a0_13⟩,a0_14,a0_15,a0_16⟩:=a0
 change Spec _ _ ([Value.agg #[.int .i64 a0_1,.int .i64 a0_2,.int .i64 a0_3,.int .i64 a0_4,.int .i64 a0_5,.int .i64 a0_6,.int .i64 a0_7,.int .i64 a0_8,.string a0_9,.string a0_10,.string a0_11,.int .i64 a0_12,(TL.hdr a0_13),.int .i64 a0_14,(TL.hdr a0_15),.bool a0_16]]:List Value).toArray w [] _
 refine Spec.intro Tryz.func127 rfl Tryz.ntmps127 rfl ?_
 unfold i_instOk at hp
 replace hp:=dd hp
 refine s2 ?_
 refine bx fun bk1=>?_
 refine s4 ?_
 replace hp:=ba hp;obtain ⟨y1,hy1,hp⟩:=hp
 replace hp:=gb_any hp;obtain ⟨y2,hy2,hp⟩:=hp
 replace hp:=gb_any hp;obtain ⟨y3,hy3,hp⟩:=hp
 replace hp:=gb_any hp;obtain ⟨y4,hy4,hp⟩:=hp
 replace hp:=gb_any hp;obtain ⟨y5,hy5,hp⟩:=hp
 replace hp:=gb_any hp;obtain ⟨y6,hy6,hp⟩:=hp
 replace hp:=gb_any hp;obtain ⟨y7,hy7,hp⟩:=hp
 replace hp:=gb_any hp;obtain ⟨y8,hy8,hp⟩:=hp
 refine W_D0 [51] mix (by kernel_rfl) rfl ?_
 refine s1 ?_
 refine D_loadW GC.none (OpV.t rfl) (fun hg=>RdC.seg (RdC.blk mm) 0 2 rfl) (by exact agg35.h) ?_
 refine D_callX GC.none fn113.h (OpVs.cons (OpV.t rfl) (OpVs.nil)) (by exact fun hg w F hF hM=>i_idOk_walk w (a0_1,a0_2) (RdT.nowS (RdT.pair RdT.int RdT.int) hF hM) _ hy1) ?_
 refine s4 ?_
 refine D_callX (GC.some rfl rfl) fn66.h (OpVs.cons (OpV.s rfl) (OpVs.cons OpV.c (OpVs.cons OpV.c (OpVs.nil)))) (by exact fun hg w F hF hM=>i_within_walk w a0_3 (-1) 600  _ (hy2 (gnot hg.2))) ?_
 refine s7 ?_
 refine D_callX (GC.some rfl rfl) fn66.h (OpVs.cons (OpV.s rfl) (OpVs.cons OpV.c (OpVs.cons (OpV.s rfl) (OpVs.nil)))) (by exact fun hg w F hF hM=>i_within_walk w a0_4 (-1) a0_3  _ (hy3 (gnot hg.2))) ?_
 refine s5 ?_
 refine D_callX (GC.some rfl rfl) fn66.h (OpVs.cons (OpV.s rfl) (OpVs.cons OpV.c (OpVs.cons OpV.c (OpVs.nil)))) (by exact fun hg w F hF hM=>i_within_walk w a0_5 0 3  _ (hy4 (gnot hg.2))) ?_
 refine s4 ?_
 refine D_loadW (GC.some rfl rfl) (OpV.s rfl) (fun hg=>RdC.seg (RdC.blk mm) 5 8 rfl) (by exact agg38.h) ?_
 refine D_callX (GC.some rfl rfl) fn114.h (OpVs.cons (OpV.s rfl) (OpVs.nil)) (by exact fun hg w F hF hM=>i_CmdOk_walk w (a0_6,a0_7,a0_8,a0_9,a0_10,a0_11,a0_12,a0_13) (RdT.nowS (RdT.pair RdT.int (RdT.pair RdT.int (RdT.pair RdT.int (RdT.pair RdT.str (RdT.pair RdT.str (RdT.pair RdT.str (RdT.pair RdT.int (RdT.old h0.2.2.2.2.1.2.2.2.2.2.2.2)))))))) hF hM) _ (hy5 (gnot hg.2))) ?_
 refine s5 ?_
 refine D_callX (GC.some rfl rfl) fn66.h (OpVs.cons (OpV.s rfl) (OpVs.cons OpV.c (OpVs.cons OpV.c (OpVs.nil)))) (by exact fun hg w F hF hM=>i_within_walk w a0_14 0 60  _ (hy6 (gnot hg.2))) ?_
 refine s5 ?_
 refine D_callX (GC.some rfl rfl) fn164.h (OpVs.cons (OpV.s rfl) (OpVs.nil)) (by exact fun hg w F hF hM=>i_IdsOk_walk w a0_15 (RdT.nowS (RdT.old h0.2.2.2.2.2.2.1) hF hM) _ (hy7 (gnot hg.2))) ?_
 refine s6 ?_
 refine D_loadW (GC.some rfl rfl) (OpV.s rfl) (fun hg=>RdC.seg (RdC.blk mm) 0 2 rfl) (by exact agg35.h) ?_
 refine D_callX (GC.some rfl rfl) fn76.h (OpVs.cons (OpV.s rfl) (OpVs.cons (OpV.s rfl) (OpVs.nil))) (by exact fun hg w F hF hM=>sl_Contains_implIdimplId_walk w a0_15 (a0_1,a0_2) (RdT.nowS (RdT.old h0.2.2.2.2.2.2.1) hF hM) (RdT.nowS (RdT.pair RdT.int RdT.int) hF hM) _ (hy8 (gnot hg.2))) ?_
 refine s20 ?_
 refine s20 ?_
 refine s12 ?_
 refine kp [1,51] ?_
 refine W_cond rfl (fun q9=>?_) (fun q9=>?_)
 ·replace hp:=cond_t q9 hp
  refine s4 ?_
  obtain rfl:=sj hp
  refine s1 ?_
  refine res1 rfl (ResOK.tmp rfl) ⟨rfl,rfl⟩ ms
 ·replace hp:=cond_f q9 hp
  refine s2 ?_
  refine W_D0 [2] mix (by kernel_rfl) rfl ?_
  refine s10 ?_
  refine D_load (fo:=5) (GC.some rfl rfl) (OpV.s rfl) (fun hg=>RdC.blk mm) one3.h rfl ?_
  refine s10 ?_
  refine D_lenP (X:=a0_15) (GC.some rfl rfl) (OpV.s rfl) el31.h ?_
  refine s20 ?_
  refine s20 ?_
  refine s2 ?_
  obtain rfl:=sj hp
  refine s1 ?_
  refine res1 rfl (ResOK.tmp rfl) ⟨rfl,rfl⟩ ms
noncomputable def i_InstsOk (a0:List D_Inst):Option Bool :=
 whileP (fun s1:Int=>cond (decide (s1 < (a0.length:Int))) (Option.bind (idx a0 s1) (fun y3=>Option.bind (i_instOk ((y3.1.1,y3.1.2),y3.2.1,y3.2.2.1,y3.2.2.2.1,(y3.2.2.2.2.1.1,y3.2.2.2.2.1.2.1,y3.2.2.2.2.1.2.2.1,y3.2.2.2.2.1.2.2.2.1,y3.2.2.2.2.1.2.2.2.2.1,y3.2.2.2.2.1.2.2.2.2.2.1,y3.2.2.2.2.1.2.2.2.2.2.2.1,y3.2.2.2.2.1.2.2.2.2.2.2.2),y3.2.2.2.2.2.1,y3.2.2.2.2.2.2.1,y3.2.2.2.2.2.2.2)) (fun y4=>gb ((!(!y4))&&(decide (0 < s1))) (idx a0 (IntKind.wrap .i64 (s1 - 1))) (fun y5=>gb ((!(!y4))&&(decide (0 < s1))) (i_compareIds (y5.1.1,y5.1.2) (y3.1.1,y3.1.2)) (fun y6=>cond ((!y4)||((decide (0 < s1))&&(decide (0≤y6)))) (Option.map .inr (some false)) (some (.inl (IntKind.wrap .i64 (s1+1))))))))) (Option.map .inr (some true))) 0
theorem i_InstsOk_walk (w:World) (a0:TL T_Inst) (h0:GT.rd w [] a0) (r:Bool) (hp:i_InstsOk (GT.dat a0)=some r):Spec Tryz.prog 73 [(TL.hdr a0)].toArray w [] (IsV (.bool r)):=by
 refine Spec.intro Tryz.func73 rfl Tryz.ntmps73 rfl ?_
 unfold i_InstsOk at hp
 replace hp:=dd hp
 refine s12 ?_
 refine W_while (σ:=Int) GT.dat (fun (v1_0:Int)=>[(7,.int .i64 v1_0)]) (fun (v1_0:Int)=>[]) [(0,_),(5,_),(6,_)] [] 0 hp sb ms ?_
 clear hp
 rintro v1_0 x1 hp hx1
 replace hp:=dd hp
 refine kq [0,5,6,7] ?_
 refine s5 ?_
 refine kp [0,5,6,7,8] ?_
 refine W_cond rfl (fun q2=>?_) (fun q2=>?_)
 ·replace hp:=cond_t q2 hp
  refine s6 ?_
  replace hp:=idx_bind hp;obtain ⟨⟨⟨u3_1,u3_2⟩,u3_3,u3_4,u3_5,⟨u3_6,u3_7,u3_8,u3_9,u3_10,u3_11,u3_12,u3_13⟩,u3_14,u3_15,u3_16⟩,hy3,hp⟩:=hp
  refine L_idxA (X:=a0) rfl rfl rfl el41.h (RdT.old h0) hy3 ?_
  refine L_loadW rfl rfl (RdT.at (RdT.old h0) (hy3).2) (by exact agg48.h) ?_
  refine al fun bk4=>?_
  refine s4 ?_
  replace hp:=ba hp;obtain ⟨y4,hy4,hp⟩:=hp
  replace hp:=idx_gb hp;obtain ⟨⟨⟨u5_1,u5_2⟩,u5_3,u5_4,u5_5,⟨u5_6,u5_7,u5_8,u5_9,u5_10,u5_11,u5_12,u5_13⟩,u5_14,u5_15,u5_16⟩,hy5,hp⟩:=hp
  replace hp:=gb_any hp;obtain ⟨y6,hy6,hp⟩:=hp
  refine W_D0 [30] mix (by kernel_rfl) rfl ?_
  refine s1 ?_
  refine D_callX GC.none fn127.h (OpVs.cons (OpV.t rfl) (OpVs.nil)) (by exact fun hg w F hF hM=>i_instOk_walk w ((u3_1,u3_2),u3_3,u3_4,u3_5,(u3_6,u3_7,u3_8,u3_9,u3_10,u3_11,u3_12,u3_13),u3_14,u3_15,u3_16) (RdT.nowS (RdT.pair (RdT.pair RdT.int RdT.int) (RdT.pair RdT.int (RdT.pair RdT.int (RdT.pair RdT.int (RdT.pair (RdT.pair RdT.int (RdT.pair RdT.int (RdT.pair RdT.int (RdT.pair RdT.str (RdT.pair RdT.str (RdT.pair RdT.str (RdT.pair RdT.int (RdT.snd (RdT.snd (RdT.snd (RdT.snd (RdT.snd (RdT.snd (RdT.snd (RdT.fst (RdT.snd (RdT.snd (RdT.snd (RdT.snd (RdT.of (RdT.old h0) (hy3).2)))))))))))))))))))) (RdT.pair RdT.int (RdT.pair (RdT.fst (RdT.snd (RdT.snd (RdT.snd (RdT.snd (RdT.snd (RdT.snd (RdT.of (RdT.old h0) (hy3).2)))))))) RdT.bool))))))) hF hM) _ hy4) ?_
  refine s8 ?_
  refine D_idxA (X:=a0) (GC.some rfl rfl) (OpV.s rfl) (OpV.s rfl) el41.h (RdT.old h0) (fun hg=>hy5 (gand (gnot hg.1.2) hg.2)) ?_
  refine s1 ?_
  refine D_loadW (GC.some rfl rfl) (OpV.s rfl) (fun hg=>RdC.seg (RdT.at (RdT.old h0) (hy5 (gand (gnot hg.1.2) hg.2)).2) 0 2 rfl) (by exact agg35.h) ?_
  refine s1 ?_
  refine D_loadW (GC.some rfl rfl) (OpV.s rfl) (fun hg=>RdC.seg (RdC.blk mm) 0 2 rfl) (by exact agg35.h) ?_
  refine D_callX (GC.some rfl rfl) fn128.h (OpVs.cons (OpV.s rfl) (OpVs.cons (OpV.s rfl) (OpVs.nil))) (by exact fun hg w F hF hM=>i_compareIds_walk w (u5_1,u5_2) (u3_1,u3_2) (RdT.nowS (RdT.pair RdT.int RdT.int) hF hM) (RdT.nowS (RdT.pair RdT.int RdT.int) hF hM) _ (hy6 (gand (gnot hg.1.2) hg.2))) ?_
  refine s20 ?_
  refine s4 ?_
  refine kp [0,5,6,7,30] ?_
  refine W_cond rfl (fun q7=>?_) (fun q7=>?_)
  ·replace hp:=cond_t q7 hp
   refine s4 ?_
   replace hp:=map_any hp;obtain ⟨a8,hp,z_8⟩:=hp
   obtain rfl:=hx1 _ z_8
   obtain rfl:=sj hp
   refine s1 ?_
   refine res1 rfl (ResOK.tmp rfl) ⟨rfl,rfl⟩ ms
  ·replace hp:=cond_f q7 hp
   refine s5 ?_
   exact ⟨IntKind.wrap .i64 (v1_0+1),sb,(.sub ms),some_eq hp⟩
 ·replace hp:=cond_f q2 hp
  refine W_exit ?_
  replace hp:=map_any hp;obtain ⟨a9,hp,z_9⟩:=hp
  obtain rfl:=hx1 _ z_9
  refine s4 ?_
  obtain rfl:=sj hp
  refine s1 ?_
  refine res1 rfl (ResOK.tmp rfl) ⟨rfl,rfl⟩ ms
end Go.Proofs.SL
