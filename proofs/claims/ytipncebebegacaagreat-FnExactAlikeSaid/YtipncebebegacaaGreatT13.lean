/- The texts of the proof, part 13: the base, walks of functions, plain Lean. -/
import Derived.Test.YtipncebebegacaaGreatT11
import Derived.Test.YtipncebebegacaaGreatT8
import Derived.Test.YtipncebebegacaaGreatT6
import Derived.Test.YtipncebebegacaaGreatT12
namespace Go.Proofs.SL
open Go
set_option maxHeartbeats 2000000
instance fn203:FnF Tryz.prog 203:=⟨_,Tryz.func203,by kernel_rfl,rfl⟩
instance fn205:FnF Tryz.prog 205:=⟨_,Tryz.func205,by kernel_rfl,rfl⟩
instance fn234:FnF Tryz.prog 234:=⟨_,Tryz.func234,by kernel_rfl,rfl⟩
instance fn204:FnF Tryz.prog 204:=⟨_,Tryz.func204,by kernel_rfl,rfl⟩
instance fn142:FnF Tryz.prog 142:=⟨_,Tryz.func142,by kernel_rfl,rfl⟩
instance fn143:FnF Tryz.prog 143:=⟨_,Tryz.func143,by kernel_rfl,rfl⟩
instance fn144:FnF Tryz.prog 144:=⟨_,Tryz.func144,by kernel_rfl,rfl⟩
instance fn91:FnF Tryz.prog 91:=⟨_,Tryz.func91,by kernel_rfl,rfl⟩
noncomputable def s_l12Find (a0:List D_Inst) (a1:D_Id):Option Int :=
 whileP (fun s1:Int=>cond (decide (s1 < (a0.length:Int))) (Option.bind (idx a0 s1) (fun y3=>gb (decide (y3.1.1=a1.1)&&(decide (y3.1.2=a1.2)&&true)) (idx a0 s1) (fun y4=>cond ((decide (y3.1.1=a1.1)&&(decide (y3.1.2=a1.2)&&true))&&(decide (y4.2.2.2.1=3))) (Option.map .inr (some s1)) (some (.inl (IntKind.wrap .i64 (s1+1))))))) (Option.map .inr (some (-1)))) 0
theorem s_l12Find_walk (w:World) (a0:TL T_Inst) (a1:T_Id) (h0:GT.rd w [] a0) (h1:GT.rd w [] a1) (r:Int) (hp:s_l12Find (GT.dat a0) (GT.dat a1)=some r):Spec Tryz.prog 203 [(TL.hdr a0),.agg (GT.cells a1).toArray].toArray w [] (IsV (.int .i64 r)):=by
 obtain ⟨a1_1,a1_2⟩:=a1
 change Spec _ _ ([(TL.hdr a0),Value.agg #[.int .i64 a1_1,.int .i64 a1_2]]:List Value).toArray w [] _
 refine Spec.intro Tryz.func203 rfl Tryz.ntmps203 rfl ?_
 unfold s_l12Find at hp
 replace hp:=dd hp
 refine s2 ?_
 refine bx fun bk3=>?_
 refine s8 ?_
 refine W_while (σ:=Int) GT.dat (fun (v1_0:Int)=>[(5,.int .i64 v1_0)]) (fun (v1_0:Int)=>[]) [(0,_),(3,_)] [blk bk3 _ _] 0 hp sb ms ?_
 clear hp
 rintro v1_0 x1 hp hx1
 replace hp:=dd hp
 refine kq [0,3,5] ?_
 refine s8 ?_
 refine kp [0,3,5,9] ?_
 refine W_cond rfl (fun q2=>?_) (fun q2=>?_)
 ·replace hp:=cond_t q2 hp
  refine s4 ?_
  replace hp:=idx_bind hp;obtain ⟨⟨⟨u3_1,u3_2⟩,u3_3,u3_4,u3_5,⟨u3_6,u3_7,u3_8,u3_9,u3_10,u3_11,u3_12,u3_13⟩,u3_14,u3_15,u3_16⟩,hy3,hp⟩:=hp
  replace hp:=idx_gb hp;obtain ⟨⟨⟨u4_1,u4_2⟩,u4_3,u4_4,u4_5,⟨u4_6,u4_7,u4_8,u4_9,u4_10,u4_11,u4_12,u4_13⟩,u4_14,u4_15,u4_16⟩,hy4,hp⟩:=hp
  refine W_D0 [26] mix (by kernel_rfl) rfl ?_
  refine s2 ?_
  refine D_idxA (X:=a0) GC.none (OpV.t rfl) (OpV.t rfl) el29.h (RdT.old h0) (fun _=>hy3) ?_
  refine s1 ?_
  refine D_loadW GC.none (OpV.t rfl) (fun hg=>RdC.seg (RdT.at (RdT.old h0) (hy3).2) 0 2 rfl) (by exact agg92.h) ?_
  refine s1 ?_
  refine D_bin GC.none (OpV.t rfl) (OpV.t rfl) (fun hg=>(bv_aeql eqsh92 (EqS.consI one3.h und3.h rfl rfl (EqS.consI one3.h und3.h rfl rfl EqS.nil)))) ?_
  refine s3 ?_
  refine D_idxA (X:=a0) (GC.some rfl rfl) (OpV.s rfl) (OpV.s rfl) el29.h (RdT.old h0) (fun hg=>hy4 hg.2) ?_
  refine s1 ?_
  refine D_load (GC.some rfl rfl) (OpV.s rfl) (fun hg=>RdT.at (RdT.old h0) (hy4 hg.2).2) one3.h rfl ?_
  refine s19 ?_
  refine kp [0,3,5,26] ?_
  refine W_cond rfl (fun q5=>?_) (fun q5=>?_)
  ·replace hp:=cond_t q5 hp
   refine s5 ?_
   replace hp:=map_any hp;obtain ⟨a6,hp,z_6⟩:=hp
   obtain rfl:=hx1 _ z_6
   obtain rfl:=sj hp
   refine s1 ?_
   refine res1 rfl (ResOK.tmp rfl) ⟨rfl,rfl⟩ ms
  ·replace hp:=cond_f q5 hp
   refine s6 ?_
   exact ⟨IntKind.wrap .i64 (v1_0+1),sb,(.sub ms),some_eq hp⟩
 ·replace hp:=cond_f q2 hp
  refine W_exit ?_
  replace hp:=map_any hp;obtain ⟨a7,hp,z_7⟩:=hp
  obtain rfl:=hx1 _ z_7
  refine s4 ?_
  obtain rfl:=sj hp
  refine s1 ?_
  refine res1 rfl (ResOK.tmp rfl) ⟨rfl,rfl⟩ ms
noncomputable def s_l12Deps (a0:List D_Inst) (a1:D_Id):Option (List D_Id) :=
 Option.bind (s_l12Find a0 (a1.1,a1.2)) (fun y1=>cond (decide (y1 < 0)) (Option.bind (some ([]:List D_Id)) (fun y4=>some y4)) (Option.bind (idx a0 y1) (fun y5=>some y5.2.2.2.2.2.2.1)))
theorem s_l12Deps_walk (w:World) (a0:TL T_Inst) (a1:T_Id) (h0:GT.rd w [] a0) (h1:GT.rd w [] a1) (r:(List D_Id)) (hp:s_l12Deps (GT.dat a0) (GT.dat a1)=some r):Spec Tryz.prog 205 [(TL.hdr a0),.agg (GT.cells a1).toArray].toArray w [] (fun v M=>∃ (x0:TL T_Id),v=(TL.hdr x0)∧GT.dat x0=r∧M=[]∧(∀ (w':World) (S:List Nat),GT.rd w' S a0→GT.rd w' S a1→GT.rd w' S x0)):=by
 obtain ⟨a1_1,a1_2⟩:=a1
 change Spec _ _ ([(TL.hdr a0),Value.agg #[.int .i64 a1_1,.int .i64 a1_2]]:List Value).toArray w [] _
 refine Spec.intro Tryz.func205 rfl Tryz.ntmps205 rfl ?_
 unfold s_l12Deps at hp
 replace hp:=dd hp
 refine s2 ?_
 refine bx fun bk3=>?_
 refine L_assign (v:=(TL.hdr (TL.nil T_Id 0))) rfl rfl ?_
 refine s5 ?_
 replace hp:=ba hp;obtain ⟨y1,hy1,hp⟩:=hp
 refine L_callX rfl fn203.h rfl (by exact fun w hw=>s_l12Find_walk w a0 (a1_1,a1_2) (RdT.now (RdT.old h0) hw) (RdT.now (RdT.pair RdT.int RdT.int) hw) _ hy1) ?_
 refine s8 ?_
 refine kp [0,5,10] ?_
 refine W_cond rfl (fun q2=>?_) (fun q2=>?_)
 ·replace hp:=cond_t q2 hp
  refine s2 ?_
  replace hp:=ba hp;obtain ⟨y4,hy4,hp⟩:=hp
  refine L_mk0r T_Id rfl el85.h (fun X3 hdX3 hrX3=>?_)
  obtain rfl:GT.dat X3=y4:=hdX3.trans (Option.some.inj hy4)
  clear hy4 hdX3
  refine s2 ?_
  obtain rfl:=sj hp
  refine s1 ?_
  refine res1 rfl (ResOK.tmp rfl) ⟨X3,rfl,rfl,rfl,(fun w' S h0 h1=>(RdO.any hrX3))⟩ ms
 ·replace hp:=cond_f q2 hp
  refine s5 ?_
  replace hp:=idx_bind hp;obtain ⟨⟨⟨u5_1,u5_2⟩,u5_3,u5_4,u5_5,⟨u5_6,u5_7,u5_8,u5_9,u5_10,u5_11,u5_12,u5_13⟩,u5_14,u5_15,u5_16⟩,hy5,hp⟩:=hp
  refine L_idxA (X:=a0) rfl rfl rfl el29.h (RdT.old h0) hy5 ?_
  refine s1 ?_
  refine L_load rfl rfl (RdT.at (RdT.old h0) (hy5).2) one85.h rfl ?_
  refine s2 ?_
  obtain rfl:=sj hp
  refine s1 ?_
  refine res1 rfl (ResOK.tmp rfl) ⟨u5_15,rfl,rfl,rfl,(fun w' S h0 h1=>(RdO.fst (RdO.snd (RdO.snd (RdO.snd (RdO.snd (RdO.snd (RdO.snd (RdO.of (RdO.old h0) (hy5).2)))))))))⟩ ms
noncomputable def s_l8Join (a0:List D_Id) (a1:List D_Id):Option (List D_Id) :=
 Option.bind (some ([]:List D_Id)) (fun y2=>whileP (fun s3:(List D_Id)×Int×Int=>cond (decide (s3.2.2 < (a1.length:Int))) (whileP (fun s5:(List D_Id)×Int=>gb (decide (s5.2 < (a0.length:Int))) (idx a0 s5.2) (fun y6=>gb (decide (s5.2 < (a0.length:Int))) (idx a1 s3.2.2) (fun y7=>gb (decide (s5.2 < (a0.length:Int))) (s_l8Less (y6.1,y6.2) (y7.1,y7.2)) (fun y8=>cond ((decide (s5.2 < (a0.length:Int)))&&y8) (Option.bind (idx a0 s5.2) (fun y10=>Option.bind (appP s5.1 [(y10.1,y10.2)]) (fun y12=>some (.inl ((y12,IntKind.wrap .i64 (s5.2+1))))))) (Option.map .inr (gb (decide (s5.2 < (a0.length:Int))) (idx a0 s5.2) (fun y14=>gb (decide (s5.2 < (a0.length:Int))) (idx a1 s3.2.2) (fun y15=>cond ((decide (s5.2 < (a0.length:Int)))&&(decide (y14.1=y15.1)&&(decide (y14.2=y15.2)&&true))) (Option.bind (idx a1 s3.2.2) (fun y17=>Option.bind (appP s5.1 [(y17.1,y17.2)]) (fun y19=>some (.inl ((y19,IntKind.wrap .i64 (s5.2+1),IntKind.wrap .i64 (s3.2.2+1))))))) (Option.bind (idx a1 s3.2.2) (fun y20=>Option.bind (appP s5.1 [(y20.1,y20.2)]) (fun y22=>some (.inl ((y22,s5.2,IntKind.wrap .i64 (s3.2.2+1))))))))))))))) (s3.1,s3.2.1)) (Option.map .inr (Option.bind (slcP a0 s3.2.1 (a0.length:Int)) (fun y24=>Option.bind (appP s3.1 y24) (fun y27=>some y27))))) (y2,0,0))
theorem s_l8Join_walk (w:World) (a0:TL T_Id) (a1:TL T_Id) (h0:GT.rd w [] a0) (h1:GT.rd w [] a1) (r:(List D_Id)) (hp:s_l8Join (GT.dat a0) (GT.dat a1)=some r):Spec Tryz.prog 234 [(TL.hdr a0),(TL.hdr a1)].toArray w [] (fun v M=>∃ (x0:TL T_Id),v=(TL.hdr x0)∧GT.dat x0=r∧M=[treeH x0]):=by
 refine Spec.intro Tryz.func234 rfl Tryz.ntmps234 rfl ?_
 unfold s_l8Join at hp
 replace hp:=dd hp
 refine s2 ?_
 refine L_assign (v:=(TL.hdr (TL.nil T_Id 0))) rfl rfl ?_
 refine s3 ?_
 replace hp:=ba hp;obtain ⟨y2,hy2,hp⟩:=hp
 refine L_mk0 T_Id rfl el85.h (fun X1 hdX1=>?_)
 obtain rfl:GT.dat X1=y2:=hdX1.trans (Option.some.inj hy2)
 clear hy2 hdX1
 refine s12 ?_
 refine W_while (σ:=(TL T_Id)×Int×Int) GT.dat (fun ((v3_0,v3_1,v3_2):(TL T_Id)×Int×Int)=>[(5,(TL.hdr v3_0)),(6,.int .i64 v3_1),(7,.int .i64 v3_2)]) (fun ((v3_0,v3_1,v3_2):(TL T_Id)×Int×Int)=>[treeH v3_0]) [(0,_),(1,_)] [] (X1,0,0) hp sb ms ?_
 clear hp
 rintro ⟨v3_0,v3_1,v3_2⟩ x3 hp hx3
 replace hp:=dd hp
 refine kq [0,1,5,6,7] ?_
 refine s8 ?_
 refine kp [0,1,5,6,7,12] ?_
 refine W_cond rfl (fun q4=>?_) (fun q4=>?_)
 ·replace hp:=cond_t q4 hp
  refine s5 ?_
  refine W_while (σ:=(TL T_Id)×Int) GT.dat (fun ((v5_0,v5_1):(TL T_Id)×Int)=>[(5,(TL.hdr v5_0)),(6,.int .i64 v5_1)]) (fun ((v5_0,v5_1):(TL T_Id)×Int)=>[treeH v5_0]) [(0,_),(1,_),(7,_)] [] (v3_0,v3_1) hp sb ms ?_
  clear hp
  rintro ⟨v5_0,v5_1⟩ x5 hp hx5
  replace hp:=dd hp
  refine kq [0,1,5,6,7] ?_
  refine s2 ?_
  replace hp:=idx_gb hp;obtain ⟨⟨u6_1,u6_2⟩,hy6,hp⟩:=hp
  replace hp:=idx_gb hp;obtain ⟨⟨u7_1,u7_2⟩,hy7,hp⟩:=hp
  replace hp:=gb_any hp;obtain ⟨y8,hy8,hp⟩:=hp
  refine W_D0 [29] mix (by kernel_rfl) rfl ?_
  refine s2 ?_
  refine D_lenP (X:=a0) GC.none (OpV.t rfl) el85.h ?_
  refine s4 ?_
  refine D_idxA (X:=a0) (GC.some rfl rfl) (OpV.s rfl) (OpV.s rfl) el85.h (RdT.old h0) (fun hg=>hy6 hg.2) ?_
  refine D_loadW (GC.some rfl rfl) (OpV.s rfl) (fun hg=>RdT.at (RdT.old h0) (hy6 hg.2).2) (by exact agg92.h) ?_
  refine s2 ?_
  refine D_idxA (X:=a1) (GC.some rfl rfl) (OpV.s rfl) (OpV.s rfl) el85.h (RdT.old h1) (fun hg=>hy7 hg.2) ?_
  refine D_loadW (GC.some rfl rfl) (OpV.s rfl) (fun hg=>RdT.at (RdT.old h1) (hy7 hg.2).2) (by exact agg92.h) ?_
  refine D_callX (GC.some rfl rfl) fn108.h (OpVs.cons (OpV.s rfl) (OpVs.cons (OpV.s rfl) (OpVs.nil))) (by exact fun hg w F hF hM=>s_l8Less_walk w (u6_1,u6_2) (u7_1,u7_2) (RdT.nowS (RdT.pair RdT.int RdT.int) hF hM) (RdT.nowS (RdT.pair RdT.int RdT.int) hF hM) _ (hy8 hg.2)) ?_
  refine s18 ?_
  refine kp [0,1,5,6,7,29] ?_
  refine W_cond rfl (fun q9=>?_) (fun q9=>?_)
  ·replace hp:=cond_t q9 hp
   refine s7 ?_
   replace hp:=idx_bind hp;obtain ⟨⟨u10_1,u10_2⟩,hy10,hp⟩:=hp
   refine L_idxA (X:=a0) rfl rfl rfl el85.h (RdT.old h0) hy10 ?_
   refine L_loadW rfl rfl (RdT.at (RdT.old h0) (hy10).2) (by exact agg92.h) ?_
   refine L_buildSlice1 rfl rfl el85.h rfl (by decide) (by decide) rfl (fun bb35=>?_)
   replace hp:=ba hp;obtain ⟨y12,hy12,hp⟩:=hp
   refine L_app1F (X:=v5_0) ((u10_1,u10_2):T_Id) rfl rfl rfl el85.h rfl rfl pk mm  hy12 (by decide) (fun X11 hdX11=>?_)
   subst hdX11
   refine s7 ?_
   exact ⟨(X11,IntKind.wrap .i64 (v5_1+1)),sb,(.sub ms),some_eq hp⟩
  ·replace hp:=cond_f q9 hp
   refine W_exit ?_
   replace hp:=map_any hp;obtain ⟨a13,hp,z_13⟩:=hp
   obtain rfl:=hx5 _ z_13
   refine s2 ?_
   replace hp:=idx_gb hp;obtain ⟨⟨u14_1,u14_2⟩,hy14,hp⟩:=hp
   replace hp:=idx_gb hp;obtain ⟨⟨u15_1,u15_2⟩,hy15,hp⟩:=hp
   refine W_D0 [53] mix (by kernel_rfl) rfl ?_
   refine s2 ?_
   refine D_lenP (X:=a0) GC.none (OpV.t rfl) el85.h ?_
   refine s4 ?_
   refine D_idxA (X:=a0) (GC.some rfl rfl) (OpV.s rfl) (OpV.s rfl) el85.h (RdT.old h0) (fun hg=>hy14 hg.2) ?_
   refine D_loadW (GC.some rfl rfl) (OpV.s rfl) (fun hg=>RdT.at (RdT.old h0) (hy14 hg.2).2) (by exact agg92.h) ?_
   refine s2 ?_
   refine D_idxA (X:=a1) (GC.some rfl rfl) (OpV.s rfl) (OpV.s rfl) el85.h (RdT.old h1) (fun hg=>hy15 hg.2) ?_
   refine D_loadW (GC.some rfl rfl) (OpV.s rfl) (fun hg=>RdT.at (RdT.old h1) (hy15 hg.2).2) (by exact agg92.h) ?_
   refine D_bin (GC.some rfl rfl) (OpV.s rfl) (OpV.s rfl) (fun hg=>(bv_aeql eqsh92 (EqS.consI one3.h und3.h rfl rfl (EqS.consI one3.h und3.h rfl rfl EqS.nil)))) ?_
   refine s18 ?_
   refine kp [0,1,5,6,7,53] ?_
   refine W_cond rfl (fun q16=>?_) (fun q16=>?_)
   ·replace hp:=cond_t q16 hp
    refine s9 ?_
    replace hp:=idx_bind hp;obtain ⟨⟨u17_1,u17_2⟩,hy17,hp⟩:=hp
    refine L_idxA (X:=a1) rfl rfl rfl el85.h (RdT.old h1) hy17 ?_
    refine L_loadW rfl rfl (RdT.at (RdT.old h1) (hy17).2) (by exact agg92.h) ?_
    refine L_buildSlice1 rfl rfl el85.h rfl (by decide) (by decide) rfl (fun bb61=>?_)
    replace hp:=ba hp;obtain ⟨y19,hy19,hp⟩:=hp
    refine L_app1F (X:=v5_0) ((u17_1,u17_2):T_Id) rfl rfl rfl el85.h rfl rfl pk mm  hy19 (by decide) (fun X18 hdX18=>?_)
    subst hdX18
    refine s7 ?_
    exact ⟨(X18,IntKind.wrap .i64 (v5_1+1),IntKind.wrap .i64 (v3_2+1)),sb,(.sub ms),some_eq hp⟩
   ·replace hp:=cond_f q16 hp
    refine s5 ?_
    replace hp:=idx_bind hp;obtain ⟨⟨u20_1,u20_2⟩,hy20,hp⟩:=hp
    refine L_idxA (X:=a1) rfl rfl rfl el85.h (RdT.old h1) hy20 ?_
    refine L_loadW rfl rfl (RdT.at (RdT.old h1) (hy20).2) (by exact agg92.h) ?_
    refine L_buildSlice1 rfl rfl el85.h rfl (by decide) (by decide) rfl (fun bb61=>?_)
    replace hp:=ba hp;obtain ⟨y22,hy22,hp⟩:=hp
    refine L_app1F (X:=v5_0) ((u20_1,u20_2):T_Id) rfl rfl rfl el85.h rfl rfl pk mm  hy22 (by decide) (fun X21 hdX21=>?_)
    subst hdX21
    refine s7 ?_
    exact ⟨(X21,v5_1,IntKind.wrap .i64 (v3_2+1)),sb,(.sub ms),some_eq hp⟩
 ·replace hp:=cond_f q4 hp
  refine W_exit ?_
  replace hp:=map_any hp;obtain ⟨a23,hp,z_23⟩:=hp
  obtain rfl:=hx3 _ z_23
  refine s5 ?_
  replace hp:=ba hp;obtain ⟨y24,hy24,hp⟩:=hp
  refine L_slc (X:=a0) rfl rfl rfl rfl el85.h rfl (RdT.old h0) hy24 (fun X25 hdX25 hRX25=>?_)
  subst hdX25
  replace hp:=ba hp;obtain ⟨y27,hy27,hp⟩:=hp
  refine L_appT (X:=v3_0) (Y:=X25) rfl rfl rfl el85.h rfl rfl pk (RdT.map hRX25 (RdT.old h0)) hy27 (by decide) (fun X26 hdX26=>?_)
  subst hdX26
  refine s2 ?_
  obtain rfl:=sj hp
  refine s1 ?_
  refine res1 rfl (ResOK.tmp rfl) ⟨X26,rfl,rfl,rfl⟩ ms
noncomputable def s_l12Reach (a0:List D_Inst) (a1:D_Id):Option (List D_Id) :=
 Option.bind (some ([]:List D_Id)) (fun y2=>Option.bind (s_l12Deps a0 (a1.1,a1.2)) (fun y3=>Option.bind (s_l8Join y2 y3) (fun y4=>whileP (fun s5:(List D_Id)×Int=>cond (decide (s5.2 < 18)) (cond (decide (0 < (s5.1.length:Int))) (Option.bind (idx s5.1 0) (fun y8=>Option.bind (s_l12Deps a0 (y8.1,y8.2)) (fun y9=>Option.bind (s_l8Join s5.1 y9) (fun y10=>whileP (fun s11:(List D_Id)×Int=>cond (decide (s11.2 < (s5.1.length:Int))) (Option.bind (idx s5.1 s11.2) (fun y13=>Option.bind (s_l12Deps a0 (y13.1,y13.2)) (fun y14=>Option.bind (s_l8Join s11.1 y14) (fun y15=>some (.inl ((y15,IntKind.wrap .i64 (s11.2+1)))))))) (Option.map .inr (cond (decide ((s11.1.length:Int)=(s5.1.length:Int))) (Option.map .inr (some s5.1)) (some (.inl ((s11.1,IntKind.wrap .i64 (s5.2+1)))))))) (y10,IntKind.wrap .i64 (0+1)))))) (cond (decide ((s5.1.length:Int)=(s5.1.length:Int))) (Option.map .inr (some s5.1)) (some (.inl ((s5.1,IntKind.wrap .i64 (s5.2+1))))))) (Option.map .inr (some s5.1))) (y4,0))))
theorem s_l12Reach_walk (w:World) (a0:TL T_Inst) (a1:T_Id) (h0:GT.rd w [] a0) (h1:GT.rd w [] a1) (r:(List D_Id)) (hp:s_l12Reach (GT.dat a0) (GT.dat a1)=some r):Spec Tryz.prog 204 [(TL.hdr a0),.agg (GT.cells a1).toArray].toArray w [] (fun v M=>∃ (x0:TL T_Id),v=(TL.hdr x0)∧GT.dat x0=r∧M=[treeH x0]):=by
 obtain ⟨a1_1,a1_2⟩:=a1
 change Spec _ _ ([(TL.hdr a0),Value.agg #[.int .i64 a1_1,.int .i64 a1_2]]:List Value).toArray w [] _
 refine Spec.intro Tryz.func204 rfl Tryz.ntmps204 rfl ?_
 unfold s_l12Reach at hp
 replace hp:=dd hp
 refine s2 ?_
 refine bx fun bk3=>?_
 refine L_assign (v:=(TL.hdr (TL.nil T_Id 0))) rfl rfl ?_
 refine s3 ?_
 replace hp:=ba hp;obtain ⟨y2,hy2,hp⟩:=hp
 refine L_mk0 T_Id rfl el85.h (fun X1 hdX1=>?_)
 obtain rfl:GT.dat X1=y2:=hdX1.trans (Option.some.inj hy2)
 clear hy2 hdX1
 refine s2 ?_
 replace hp:=ba hp;obtain ⟨y3,hy3,hp⟩:=hp
 refine L_callR rfl fn205.h rfl (by exact fun w hw=>s_l12Deps_walk w a0 (a1_1,a1_2) (RdT.now (RdT.old h0) hw) (RdT.now (RdT.pair RdT.int RdT.int) hw) _ hy3) ?_
 rintro _ _ ⟨y3x0,rfl,rfl,rfl,hby3x0⟩
 refine sc ?_
 replace hp:=dd hp
 replace hp:=ba hp;obtain ⟨y4,hy4,hp⟩:=hp
 refine L_callR rfl fn234.h rfl (by exact fun w hw=>s_l8Join_walk w X1 y3x0 (RdT.now (RdT.tree mm) hw) (RdT.now (RdT.map2 hby3x0 (RdT.old h0) (RdT.pair RdT.int RdT.int)) hw) _ hy4) ?_
 rintro _ _ ⟨y4x0,rfl,rfl,rfl⟩
 refine sc ?_
 replace hp:=dd hp
 refine s8 ?_
 refine W_while (σ:=(TL T_Id)×Int) GT.dat (fun ((v5_0,v5_1):(TL T_Id)×Int)=>[(5,(TL.hdr v5_0)),(6,.int .i64 v5_1)]) (fun ((v5_0,v5_1):(TL T_Id)×Int)=>[treeH v5_0]) [(0,_)] [] (y4x0,0) hp sb ms ?_
 clear hp
 rintro ⟨v5_0,v5_1⟩ x5 hp hx5
 replace hp:=dd hp
 refine kq [0,5,6] ?_
 refine s6 ?_
 refine kp [0,5,6,15] ?_
 refine W_cond rfl (fun q6=>?_) (fun q6=>?_)
 ·replace hp:=cond_t q6 hp
  refine s14 ?_
  refine W_peel ?_
  refine s8 ?_
  refine kp [0,5,6,7,8,22] ?_
  refine W_cond rfl (fun q7=>?_) (fun q7=>?_)
  ·replace hp:=cond_t q7 hp
   refine s8 ?_
   replace hp:=idx_bind hp;obtain ⟨⟨u8_1,u8_2⟩,hy8,hp⟩:=hp
   refine L_idxA (X:=v5_0) rfl rfl rfl el85.h (RdT.tree mm) hy8 ?_
   refine L_loadW rfl rfl (RdT.at (RdT.tree mm) (hy8).2) (by exact agg92.h) ?_
   replace hp:=ba hp;obtain ⟨y9,hy9,hp⟩:=hp
   refine L_callR rfl fn205.h rfl (by exact fun w hw=>s_l12Deps_walk w a0 (u8_1,u8_2) (RdT.now (RdT.old h0) hw) (RdT.now (RdT.pair RdT.int RdT.int) hw) _ hy9) ?_
   rintro _ _ ⟨y9x0,rfl,rfl,rfl,hby9x0⟩
   refine sc ?_
   replace hp:=dd hp
   replace hp:=ba hp;obtain ⟨y10,hy10,hp⟩:=hp
   refine L_callR rfl fn234.h rfl (by exact fun w hw=>s_l8Join_walk w v5_0 y9x0 (RdT.now (RdT.tree mm) hw) (RdT.now (RdT.map2 hby9x0 (RdT.old h0) (RdT.pair RdT.int RdT.int)) hw) _ hy10) ?_
   rintro _ _ ⟨y10x0,rfl,rfl,rfl⟩
   refine sc ?_
   replace hp:=dd hp
   refine s7 ?_
   refine WL_while (σ:=(TL T_Id)×Int) GT.dat (fun ((v11_0,v11_1):(TL T_Id)×Int)=>[(7,(TL.hdr v11_0)),(8,.int .i64 v11_1)]) (fun ((v11_0,v11_1):(TL T_Id)×Int)=>[treeH v11_0]) [(0,_),(5,_),(6,_)] [treeH v5_0] (y10x0,IntKind.wrap .i64 (0+1)) hp sb ms ?_
   clear hp
   rintro ⟨v11_0,v11_1⟩ x11 hp hx11
   replace hp:=dd hp
   refine kq [0,5,6,7,8] ?_
   refine s8 ?_
   refine kp [0,5,6,7,8,22] ?_
   refine W_cond rfl (fun q12=>?_) (fun q12=>?_)
   ·replace hp:=cond_t q12 hp
    refine s8 ?_
    replace hp:=idx_bind hp;obtain ⟨⟨u13_1,u13_2⟩,hy13,hp⟩:=hp
    refine L_idxA (X:=v5_0) rfl rfl rfl el85.h (RdT.tree mm) hy13 ?_
    refine L_loadW rfl rfl (RdT.at (RdT.tree mm) (hy13).2) (by exact agg92.h) ?_
    replace hp:=ba hp;obtain ⟨y14,hy14,hp⟩:=hp
    refine L_callR rfl fn205.h rfl (by exact fun w hw=>s_l12Deps_walk w a0 (u13_1,u13_2) (RdT.now (RdT.old h0) hw) (RdT.now (RdT.pair RdT.int RdT.int) hw) _ hy14) ?_
    rintro _ _ ⟨y14x0,rfl,rfl,rfl,hby14x0⟩
    refine sc ?_
    replace hp:=dd hp
    replace hp:=ba hp;obtain ⟨y15,hy15,hp⟩:=hp
    refine L_callR rfl fn234.h rfl (by exact fun w hw=>s_l8Join_walk w v11_0 y14x0 (RdT.now (RdT.tree mm) hw) (RdT.now (RdT.map2 hby14x0 (RdT.old h0) (RdT.pair RdT.int RdT.int)) hw) _ hy15) ?_
    rintro _ _ ⟨y15x0,rfl,rfl,rfl⟩
    refine sc ?_
    replace hp:=dd hp
    refine s7 ?_
    exact ⟨(y15x0,IntKind.wrap .i64 (v11_1+1)),sb,(.sub ms),some_eq hp⟩
   ·replace hp:=cond_f q12 hp
    refine W_exit ?_
    replace hp:=map_any hp;obtain ⟨a16,hp,z_16⟩:=hp
    obtain rfl:=hx11 _ z_16
    refine s9 ?_
    refine kp [0,5,6,7,37] ?_
    refine W_cond rfl (fun q17=>?_) (fun q17=>?_)
    ·replace hp:=cond_t q17 hp
     refine s5 ?_
     replace hp:=map_any hp;obtain ⟨a18,hp,z_18⟩:=hp
     obtain rfl:=hx5 _ z_18
     obtain rfl:=sj hp
     refine s1 ?_
     refine res1 rfl (ResOK.tmp rfl) ⟨v5_0,rfl,rfl,rfl⟩ ms
    ·replace hp:=cond_f q17 hp
     refine s10 ?_
     exact ⟨(v11_0,IntKind.wrap .i64 (v5_1+1)),sb,(.sub ms),some_eq hp⟩
  ·replace hp:=cond_f q7 hp
   refine W_exit ?_
   refine s9 ?_
   refine kp [0,5,6,7,37] ?_
   refine W_cond rfl (fun q19=>?_) (fun q19=>?_)
   ·replace hp:=cond_t q19 hp
    refine s5 ?_
    replace hp:=map_any hp;obtain ⟨a20,hp,z_20⟩:=hp
    obtain rfl:=hx5 _ z_20
    obtain rfl:=sj hp
    refine s1 ?_
    refine res1 rfl (ResOK.tmp rfl) ⟨v5_0,rfl,rfl,rfl⟩ ms
   ·replace hp:=cond_f q19 hp
    refine s10 ?_
    exact ⟨(v5_0,IntKind.wrap .i64 (v5_1+1)),sb,(.sub ms),some_eq hp⟩
 ·replace hp:=cond_f q6 hp
  refine W_exit ?_
  replace hp:=map_any hp;obtain ⟨a21,hp,z_21⟩:=hp
  obtain rfl:=hx5 _ z_21
  refine s5 ?_
  obtain rfl:=sj hp
  refine s1 ?_
  refine res1 rfl (ResOK.tmp rfl) ⟨v5_0,rfl,rfl,rfl⟩ ms
noncomputable def s_l12Ready (a0:List D_Inst) (a1:D_Id):Option Bool :=
 Option.bind (s_l12Find a0 (a1.1,a1.2)) (fun y1=>cond (decide (y1 < 0)) (some false) (Option.bind (s_l12Reach a0 (a1.1,a1.2)) (fun y3=>whileP (fun s4:Int=>cond (decide (s4 < (y3.length:Int))) (Option.bind (idx y3 s4) (fun y6=>Option.bind (s_l12Find a0 (y6.1,y6.2)) (fun y7=>cond (decide (y7 < 0)) (Option.map .inr (some false)) (some (.inl (IntKind.wrap .i64 (s4+1))))))) (Option.map .inr (some true))) 0)))
theorem s_l12Ready_walk (w:World) (a0:TL T_Inst) (a1:T_Id) (h0:GT.rd w [] a0) (h1:GT.rd w [] a1) (r:Bool) (hp:s_l12Ready (GT.dat a0) (GT.dat a1)=some r):Spec Tryz.prog 142 [(TL.hdr a0),.agg (GT.cells a1).toArray].toArray w [] (IsV (.bool r)):=by
 obtain ⟨a1_1,a1_2⟩:=a1
 change Spec _ _ ([(TL.hdr a0),Value.agg #[.int .i64 a1_1,.int .i64 a1_2]]:List Value).toArray w [] _
 refine Spec.intro Tryz.func142 rfl Tryz.ntmps142 rfl ?_
 unfold s_l12Ready at hp
 replace hp:=dd hp
 refine s2 ?_
 refine bx fun bk3=>?_
 refine s7 ?_
 replace hp:=ba hp;obtain ⟨y1,hy1,hp⟩:=hp
 refine L_callX rfl fn203.h rfl (by exact fun w hw=>s_l12Find_walk w a0 (a1_1,a1_2) (RdT.now (RdT.old h0) hw) (RdT.now (RdT.pair RdT.int RdT.int) hw) _ hy1) ?_
 refine s2 ?_
 refine kp [0,3,10] ?_
 refine W_cond rfl (fun q2=>?_) (fun q2=>?_)
 ·replace hp:=cond_t q2 hp
  refine s4 ?_
  obtain rfl:=sj hp
  refine s1 ?_
  refine res1 rfl (ResOK.tmp rfl) ⟨rfl,rfl⟩ ms
 ·replace hp:=cond_f q2 hp
  refine s5 ?_
  replace hp:=ba hp;obtain ⟨y3,hy3,hp⟩:=hp
  refine L_callR rfl fn204.h rfl (by exact fun w hw=>s_l12Reach_walk w a0 (a1_1,a1_2) (RdT.now (RdT.old h0) hw) (RdT.now (RdT.pair RdT.int RdT.int) hw) _ hy3) ?_
  rintro _ _ ⟨y3x0,rfl,rfl,rfl⟩
  refine sc ?_
  replace hp:=dd hp
  refine s8 ?_
  refine W_while (σ:=Int) GT.dat (fun (v4_0:Int)=>[(6,.int .i64 v4_0)]) (fun (v4_0:Int)=>[]) [(0,_),(5,_)] [treeH y3x0] 0 hp sb ms ?_
  clear hp
  rintro v4_0 x4 hp hx4
  replace hp:=dd hp
  refine kq [0,5,6] ?_
  refine s8 ?_
  refine kp [0,5,6,17] ?_
  refine W_cond rfl (fun q5=>?_) (fun q5=>?_)
  ·replace hp:=cond_t q5 hp
   refine s8 ?_
   replace hp:=idx_bind hp;obtain ⟨⟨u6_1,u6_2⟩,hy6,hp⟩:=hp
   refine L_idxA (X:=y3x0) rfl rfl rfl el85.h (RdT.tree mm) hy6 ?_
   refine L_loadW rfl rfl (RdT.at (RdT.tree mm) (hy6).2) (by exact agg92.h) ?_
   replace hp:=ba hp;obtain ⟨y7,hy7,hp⟩:=hp
   refine L_callX rfl fn203.h rfl (by exact fun w hw=>s_l12Find_walk w a0 (u6_1,u6_2) (RdT.now (RdT.old h0) hw) (RdT.now (RdT.pair RdT.int RdT.int) hw) _ hy7) ?_
   refine s2 ?_
   refine kp [0,5,6,26] ?_
   refine W_cond rfl (fun q8=>?_) (fun q8=>?_)
   ·replace hp:=cond_t q8 hp
    refine s4 ?_
    replace hp:=map_any hp;obtain ⟨a9,hp,z_9⟩:=hp
    obtain rfl:=hx4 _ z_9
    obtain rfl:=sj hp
    refine s1 ?_
    refine res1 rfl (ResOK.tmp rfl) ⟨rfl,rfl⟩ ms
   ·replace hp:=cond_f q8 hp
    refine s6 ?_
    exact ⟨IntKind.wrap .i64 (v4_0+1),sb,(.sub ms),some_eq hp⟩
  ·replace hp:=cond_f q5 hp
   refine W_exit ?_
   replace hp:=map_any hp;obtain ⟨a10,hp,z_10⟩:=hp
   obtain rfl:=hx4 _ z_10
   refine s4 ?_
   obtain rfl:=sj hp
   refine s1 ?_
   refine res1 rfl (ResOK.tmp rfl) ⟨rfl,rfl⟩ ms
noncomputable def s_l12Part (a0:List D_Inst) (a1:D_Id):Option (List D_Id) :=
 Option.bind (some ([]:List D_Id)) (fun y2=>Option.bind (s_l12Reach a0 (a1.1,a1.2)) (fun y3=>whileP (fun s4:(List D_Id)×Int=>cond (decide (s4.2 < (a0.length:Int))) (Option.bind (idx a0 s4.2) (fun y6=>gb (!(decide (y6.1.1=a1.1)&&(decide (y6.1.2=a1.2)&&true))) (s_l8Has y3 (y6.1.1,y6.1.2)) (fun y7=>gb ((!(decide (y6.1.1=a1.1)&&(decide (y6.1.2=a1.2)&&true)))&&(!(!y7))) (s_l12Reach a0 (y6.1.1,y6.1.2)) (fun y8=>gb ((!(decide (y6.1.1=a1.1)&&(decide (y6.1.2=a1.2)&&true)))&&(!(!y7))) (s_l8Has y8 (a1.1,a1.2)) (fun y9=>cond ((!(decide (y6.1.1=a1.1)&&(decide (y6.1.2=a1.2)&&true)))&&((!y7)||(!y9))) (some (.inl ((s4.1,IntKind.wrap .i64 (s4.2+1))))) (whileP (fun s11:Int=>gb (decide (0 < s11)) (idx s4.1 (IntKind.wrap .i64 (s11 - 1))) (fun y12=>gb (decide (0 < s11)) (s_l12Find a0 (y12.1,y12.2)) (fun y13=>gb (decide (0 < s11)) (idx a0 y13) (fun y14=>gb (decide (0 < s11)) (idx a0 s4.2) (fun y15=>cond ((decide (0 < s11))&&(decide (y15.2.2.2.2.2.1 < y14.2.2.2.2.2.1))) (some (.inl (IntKind.wrap .i64 (s11 - 1)))) (Option.map .inr (Option.bind (some ([]:List D_Id)) (fun y19=>Option.bind (slcP s4.1 s11 (s4.1.length:Int)) (fun y20=>Option.bind (appP y19 y20) (fun y23=>Option.bind (slcP s4.1 0 s11) (fun y24=>Option.bind (appP y24 [(y6.1.1,y6.1.2)]) (fun y28=>Option.bind (appP y28 y23) (fun y30=>some (.inl ((y30,IntKind.wrap .i64 (s4.2+1))))))))))))))))) (s4.1.length:Int))))))) (Option.map .inr (some s4.1))) (y2,0)))
theorem s_l12Part_walk (w:World) (a0:TL T_Inst) (a1:T_Id) (h0:GT.rd w [] a0) (h1:GT.rd w [] a1) (r:(List D_Id)) (hp:s_l12Part (GT.dat a0) (GT.dat a1)=some r):Spec Tryz.prog 143 [(TL.hdr a0),.agg (GT.cells a1).toArray].toArray w [] (fun v M=>∃ (x0:TL T_Id),v=(TL.hdr x0)∧GT.dat x0=r∧M=[treeH x0]):=by
 obtain ⟨a1_1,a1_2⟩:=a1
 change Spec _ _ ([(TL.hdr a0),Value.agg #[.int .i64 a1_1,.int .i64 a1_2]]:List Value).toArray w [] _
 refine Spec.intro Tryz.func143 rfl Tryz.ntmps143 rfl ?_
 unfold s_l12Part at hp
 replace hp:=dd hp
 refine s2 ?_
 refine bx fun bk3=>?_
 refine L_assign (v:=(TL.hdr (TL.nil T_Id 0))) rfl rfl ?_
 refine s3 ?_
 replace hp:=ba hp;obtain ⟨y2,hy2,hp⟩:=hp
 refine L_mk0 T_Id rfl el85.h (fun X1 hdX1=>?_)
 obtain rfl:GT.dat X1=y2:=hdX1.trans (Option.some.inj hy2)
 clear hy2 hdX1
 refine s6 ?_
 replace hp:=ba hp;obtain ⟨y3,hy3,hp⟩:=hp
 refine L_callR rfl fn204.h rfl (by exact fun w hw=>s_l12Reach_walk w a0 (a1_1,a1_2) (RdT.now (RdT.old h0) hw) (RdT.now (RdT.pair RdT.int RdT.int) hw) _ hy3) ?_
 rintro _ _ ⟨y3x0,rfl,rfl,rfl⟩
 refine sc ?_
 replace hp:=dd hp
 refine s8 ?_
 refine W_while (σ:=(TL T_Id)×Int) GT.dat (fun ((v4_0,v4_1):(TL T_Id)×Int)=>[(5,(TL.hdr v4_0)),(7,.int .i64 v4_1)]) (fun ((v4_0,v4_1):(TL T_Id)×Int)=>[treeH v4_0]) [(0,_),(3,_),(6,_)] [blk bk3 _ _,treeH y3x0] (X1,0) hp sb ms ?_
 clear hp
 rintro ⟨v4_0,v4_1⟩ x4 hp hx4
 replace hp:=dd hp
 refine kq [0,3,5,6,7] ?_
 refine s8 ?_
 refine kp [0,3,5,6,7,18] ?_
 refine W_cond rfl (fun q5=>?_) (fun q5=>?_)
 ·replace hp:=cond_t q5 hp
  refine s7 ?_
  replace hp:=idx_bind hp;obtain ⟨⟨⟨u6_1,u6_2⟩,u6_3,u6_4,u6_5,⟨u6_6,u6_7,u6_8,u6_9,u6_10,u6_11,u6_12,u6_13⟩,u6_14,u6_15,u6_16⟩,hy6,hp⟩:=hp
  refine L_idxA (X:=a0) rfl rfl rfl el29.h (RdT.old h0) hy6 ?_
  refine s1 ?_
  refine L_loadW rfl rfl (RdC.seg (RdT.at (RdT.old h0) (hy6).2) 0 2 rfl) (by exact agg92.h) ?_
  refine al fun bk8=>?_
  refine s4 ?_
  replace hp:=gb_any hp;obtain ⟨y7,hy7,hp⟩:=hp
  replace hp:=gb_any hp;obtain ⟨y8,hy8,hp⟩:=hp
  replace hp:=gb_any hp;obtain ⟨y9,hy9,hp⟩:=hp
  refine W_D0 [42] mix (by kernel_rfl) rfl ?_
  refine s2 ?_
  refine D_bin GC.none (OpV.t rfl) (OpV.t rfl) (fun hg=>(bv_aneq eqsh92 (EqS.consI one3.h und3.h rfl rfl (EqS.consI one3.h und3.h rfl rfl EqS.nil)))) ?_
  refine s3 ?_
  refine D_callX (GC.some rfl rfl) fn90.h (OpVs.cons (OpV.s rfl) (OpVs.cons (OpV.s rfl) (OpVs.nil))) (by exact fun hg w F hF hM=>s_l8Has_walk w y3x0 (u6_1,u6_2) (RdT.nowS (RdT.tree mm) hF hM) (RdT.nowS (RdT.pair RdT.int RdT.int) hF hM) _ (hy7 hg.2)) ?_
  refine s4 ?_
  refine D_callGV (fun v M=>∃ (x0:TL T_Id),v=(TL.hdr x0)∧GT.dat x0=y8∧M=[treeH x0]) (GC.some rfl rfl) fn204.h (OpVs.cons (OpV.s rfl) (OpVs.cons (OpV.s rfl) (OpVs.nil))) (by exact fun hg w F hF hM=>s_l12Reach_walk w a0 (u6_1,u6_2) (RdT.nowS (RdT.old h0) hF hM) (RdT.nowS (RdT.pair RdT.int RdT.int) hF hM) _ (hy8 (gand hg.1.2 (gnot hg.2)))) ?_
  refine s1 ?_
  refine D_callGR [_,_] (GC.some rfl rfl) fn90.h ⟨⟨_,rfl,fun _ _ h=>h⟩,⟨⟨_,rfl,fun _ _ h=>h⟩,trivial⟩⟩ (by rintro hg w F vs hF hM ⟨v0,u0,M0,rfl,g0,hin0,⟨v1,u1,M1,rfl,g1,hin1,rfl⟩⟩;obtain ⟨m0,rfl,hd0,rfl⟩:=g0.1 hg;subst hd0;obtain rfl:=g1.2.1 hg;exact s_l8Has_walk w m0 (a1_1,a1_2) (rd_of_tree (hin0 _ (List.mem_singleton.2 rfl)) hF.sees) (RdT.nowS (RdT.pair RdT.int RdT.int) hF hM) _ (hy9 (gand hg.1.2 (gnot hg.2)))) ?_
  refine s20 ?_
  refine s2 ?_
  refine kp [0,3,5,6,7,8,42] ?_
  refine W_cond rfl (fun q10=>?_) (fun q10=>?_)
  ·replace hp:=cond_t q10 hp
   refine W_exit ?_
   refine s5 ?_
   exact ⟨(v4_0,IntKind.wrap .i64 (v4_1+1)),sb,(.sub ms),some_eq hp⟩
  ·replace hp:=cond_f q10 hp
   refine s9 ?_
   refine W_while (σ:=Int) GT.dat (fun (v11_0:Int)=>[(9,.int .i64 v11_0)]) (fun (v11_0:Int)=>[]) [(0,_),(3,_),(5,_),(6,_),(7,_),(8,_)] [blk bk3 _ _,blk bk8 _ _,treeH v4_0,treeH y3x0] ((GT.dat v4_0).length:Int) hp sb ms ?_
   clear hp
   rintro v11_0 x11 hp hx11
   replace hp:=dd hp
   refine kq [0,3,5,6,7,8,9] ?_
   refine s2 ?_
   replace hp:=idx_gb hp;obtain ⟨⟨u12_1,u12_2⟩,hy12,hp⟩:=hp
   replace hp:=gb_any hp;obtain ⟨y13,hy13,hp⟩:=hp
   replace hp:=idx_gb hp;obtain ⟨⟨⟨u14_1,u14_2⟩,u14_3,u14_4,u14_5,⟨u14_6,u14_7,u14_8,u14_9,u14_10,u14_11,u14_12,u14_13⟩,u14_14,u14_15,u14_16⟩,hy14,hp⟩:=hp
   replace hp:=idx_gb hp;obtain ⟨⟨⟨u15_1,u15_2⟩,u15_3,u15_4,u15_5,⟨u15_6,u15_7,u15_8,u15_9,u15_10,u15_11,u15_12,u15_13⟩,u15_14,u15_15,u15_16⟩,hy15,hp⟩:=hp
   refine W_D0 [65] mix (by kernel_rfl) rfl ?_
   refine s8 ?_
   refine D_idxA (X:=v4_0) (GC.some rfl rfl) (OpV.s rfl) (OpV.s rfl) el85.h (RdT.tree mm) (fun hg=>hy12 hg.2) ?_
   refine D_loadW (GC.some rfl rfl) (OpV.s rfl) (fun hg=>RdT.at (RdT.tree mm) (hy12 hg.2).2) (by exact agg92.h) ?_
   refine D_callX (GC.some rfl rfl) fn203.h (OpVs.cons (OpV.s rfl) (OpVs.cons (OpV.s rfl) (OpVs.nil))) (by exact fun hg w F hF hM=>s_l12Find_walk w a0 (u12_1,u12_2) (RdT.nowS (RdT.old h0) hF hM) (RdT.nowS (RdT.pair RdT.int RdT.int) hF hM) _ (hy13 hg.2)) ?_
   refine D_idxA (X:=a0) (GC.some rfl rfl) (OpV.s rfl) (OpV.s rfl) el29.h (RdT.old h0) (fun hg=>hy14 hg.2) ?_
   refine s1 ?_
   refine D_load (GC.some rfl rfl) (OpV.s rfl) (fun hg=>RdT.at (RdT.old h0) (hy14 hg.2).2) one3.h rfl ?_
   refine s2 ?_
   refine D_idxA (X:=a0) (GC.some rfl rfl) (OpV.s rfl) (OpV.s rfl) el29.h (RdT.old h0) (fun hg=>hy15 hg.2) ?_
   refine s1 ?_
   refine D_load (GC.some rfl rfl) (OpV.s rfl) (fun hg=>RdT.at (RdT.old h0) (hy15 hg.2).2) one3.h rfl ?_
   refine s20 ?_
   refine s5 ?_
   refine kp [0,3,5,6,7,8,9,65] ?_
   refine W_cond rfl (fun q16=>?_) (fun q16=>?_)
   ·replace hp:=cond_t q16 hp
    refine s7 ?_
    exact ⟨IntKind.wrap .i64 (v11_0 - 1),sb,(.sub ms),some_eq hp⟩
   ·replace hp:=cond_f q16 hp
    refine W_exit ?_
    replace hp:=map_any hp;obtain ⟨a17,hp,z_17⟩:=hp
    obtain rfl:=hx11 _ z_17
    refine s2 ?_
    replace hp:=ba hp;obtain ⟨y19,hy19,hp⟩:=hp
    refine L_mk0 T_Id rfl el85.h (fun X18 hdX18=>?_)
    obtain rfl:GT.dat X18=y19:=hdX18.trans (Option.some.inj hy19)
    clear hy19 hdX18
    refine s2 ?_
    replace hp:=ba hp;obtain ⟨y20,hy20,hp⟩:=hp
    refine L_slcE (X:=v4_0) rfl rfl rfl rfl el85.h rfl (RdT.tree mm) hy20 (fun X21 hdX21 heX21=>?_)
    have hsX21:=hy20
    subst hdX21
    replace hp:=ba hp;obtain ⟨y23,hy23,hp⟩:=hp
    refine L_appT (X:=X18) (Y:=X21) rfl rfl rfl el85.h rfl rfl pk (RdT.map (slcE_rd heX21 hsX21) (RdT.tree mm)) hy23 (by decide) (fun X22 hdX22=>?_)
    subst hdX22
    refine s2 ?_
    refine W_fact (fun w h=>cap_of pk h) (fun (hcapv4_0:v4_0.els.length≤v4_0.cap)=>?_)
    refine W_AH [] mix ?_
    refine AH_take 0 rfl (PU_move rfl rfl) (by kernel_rfl) (by kernel_rfl) (by kernel_rfl) trivial ?_
    refine AH_take 1 rfl (PU_move rfl rfl) (by kernel_rfl) (by kernel_rfl) (by kernel_rfl) trivial ?_
    replace hp:=ba hp;obtain ⟨y24,hy24,hp⟩:=hp
    refine AH_take 2 rfl (PU_slcF (X:=v4_0) (a:=(0:Int)) (b:=v11_0) rfl rfl rfl rfl el85.h rfl hcapv4_0 hy24) (by kernel_rfl) (by kernel_rfl) (by kernel_rfl) trivial ?_
    obtain ⟨X25,heX25,hdX25⟩:=slc_ex hy24
    rw [← heX25]
    have hsX25:=hy24
    subst hdX25
    refine AH_A [blk bk8 [.int .i64 u6_1,.int .i64 u6_2] 92] trivial ?_
    refine AH_take 3 rfl (PU_loadW rfl rfl (RdC.blk mm) (by exact agg92.h)) (by kernel_rfl) (by kernel_rfl) (by kernel_rfl) ⟨mm,trivial⟩ ?_
    refine AH_take 6 rfl (PU_move rfl rfl) (by kernel_rfl) (by kernel_rfl) (by kernel_rfl) ⟨mm,trivial⟩ ?_
    refine AH_one 4 rfl rfl (by kernel_rfl) ?_
    refine L_buildSlice1 rfl rfl el85.h rfl (by decide) (by decide) rfl (fun bb77=>?_)
    refine L_nil ⟨⟨mm,trivial⟩,?_⟩
    refine AH_one 5 rfl rfl (by kernel_rfl) ?_
    refine L_trunc (X:=v4_0) (Y:=X25) (u:=()) heX25 hsX25 rfl pk (fun X26 hdX26 hhX26=>?_)
    try rw [← hdX26] at hp
    try rw [← hdX26]
    try rw [← hhX26]
    replace hp:=ba hp;obtain ⟨y28,hy28,hp⟩:=hp
    refine L_app1F (X:=X26) ((u6_1,u6_2):T_Id) rfl rfl rfl el85.h rfl rfl pk mm  hy28 (by decide) (fun X27 hdX27=>?_)
    subst hdX27
    refine L_nil ⟨⟨mm,trivial⟩,?_⟩
    refine AH_one 7 rfl rfl (by kernel_rfl) ?_
    replace hp:=ba hp;obtain ⟨y30,hy30,hp⟩:=hp
    refine L_appT (X:=X27) (Y:=X22) rfl rfl rfl el85.h rfl rfl pk (RdT.tree mm) hy30 (by decide) (fun X29 hdX29=>?_)
    subst hdX29
    refine L_nil ⟨⟨mm,trivial⟩,?_⟩
    refine AH_one 8 rfl rfl (by kernel_rfl) ?_
    refine s1 ?_
    refine L_nil ⟨⟨mm,trivial⟩,?_⟩
    refine AH_done (by kernel_rfl) ?_
    refine s5 ?_
    exact ⟨(X29,IntKind.wrap .i64 (v4_1+1)),sb,(.sub ms),some_eq hp⟩
 ·replace hp:=cond_f q5 hp
  refine W_exit ?_
  replace hp:=map_any hp;obtain ⟨a31,hp,z_31⟩:=hp
  obtain rfl:=hx4 _ z_31
  refine s5 ?_
  obtain rfl:=sj hp
  refine s1 ?_
  refine res1 rfl (ResOK.tmp rfl) ⟨v4_0,rfl,rfl,rfl⟩ ms
noncomputable def s_l12May (a0:List D_Inst) (a1:List D_Id) (a2:List D_Id):Option Bool :=
 whileP (fun s1:Int=>cond (decide (s1 < (a1.length:Int))) (Option.bind (idx a1 s1) (fun y3=>Option.bind (s_l12Deps a0 (y3.1,y3.2)) (fun y4=>whileP (fun s5:Int=>cond (decide (s5 < (y4.length:Int))) (Option.bind (idx y4 s5) (fun y7=>Option.bind (s_l8Has a1 (y7.1,y7.2)) (fun y8=>gb (!y8) (idx y4 s5) (fun y9=>gb (!y8) (s_l8Has a2 (y9.1,y9.2)) (fun y10=>cond ((!y8)&&(!y10)) (Option.map .inr (Option.map .inr (some false))) (some (.inl (IntKind.wrap .i64 (s5+1))))))))) (Option.map .inr (some (.inl (IntKind.wrap .i64 (s1+1)))))) 0))) (Option.map .inr (some true))) 0
theorem s_l12May_walk (w:World) (a0:TL T_Inst) (a1:TL T_Id) (a2:TL T_Id) (h0:GT.rd w [] a0) (h1:GT.rd w [] a1) (h2:GT.rd w [] a2) (r:Bool) (hp:s_l12May (GT.dat a0) (GT.dat a1) (GT.dat a2)=some r):Spec Tryz.prog 144 [(TL.hdr a0),(TL.hdr a1),(TL.hdr a2)].toArray w [] (IsV (.bool r)):=by
 refine Spec.intro Tryz.func144 rfl Tryz.ntmps144 rfl ?_
 unfold s_l12May at hp
 replace hp:=dd hp
 refine s10 ?_
 refine W_while (σ:=Int) GT.dat (fun (v1_0:Int)=>[(7,.int .i64 v1_0)]) (fun (v1_0:Int)=>[]) [(0,_),(1,_),(2,_)] [] 0 hp sb ms ?_
 clear hp
 rintro v1_0 x1 hp hx1
 replace hp:=dd hp
 refine kq [0,1,2,7] ?_
 refine s8 ?_
 refine kp [0,1,2,7,13] ?_
 refine W_cond rfl (fun q2=>?_) (fun q2=>?_)
 ·replace hp:=cond_t q2 hp
  refine s8 ?_
  replace hp:=idx_bind hp;obtain ⟨⟨u3_1,u3_2⟩,hy3,hp⟩:=hp
  refine L_idxA (X:=a1) rfl rfl rfl el85.h (RdT.old h1) hy3 ?_
  refine L_loadW rfl rfl (RdT.at (RdT.old h1) (hy3).2) (by exact agg92.h) ?_
  replace hp:=ba hp;obtain ⟨y4,hy4,hp⟩:=hp
  refine L_callR rfl fn205.h rfl (by exact fun w hw=>s_l12Deps_walk w a0 (u3_1,u3_2) (RdT.now (RdT.old h0) hw) (RdT.now (RdT.pair RdT.int RdT.int) hw) _ hy4) ?_
  rintro _ _ ⟨y4x0,rfl,rfl,rfl,hby4x0⟩
  refine sc ?_
  replace hp:=dd hp
  refine s7 ?_
  refine W_while (σ:=Int) GT.dat (fun (v5_0:Int)=>[(9,.int .i64 v5_0)]) (fun (v5_0:Int)=>[]) [(0,_),(1,_),(2,_),(7,_),(8,_)] [] 0 hp sb ms ?_
  clear hp
  rintro v5_0 x5 hp hx5
  replace hp:=dd hp
  refine kq [0,1,2,7,8,9] ?_
  refine s8 ?_
  refine kp [0,1,2,7,8,9,25] ?_
  refine W_cond rfl (fun q6=>?_) (fun q6=>?_)
  ·replace hp:=cond_t q6 hp
   refine s4 ?_
   replace hp:=idx_bind hp;obtain ⟨⟨u7_1,u7_2⟩,hy7,hp⟩:=hp
   replace hp:=ba hp;obtain ⟨y8,hy8,hp⟩:=hp
   replace hp:=idx_gb hp;obtain ⟨⟨u9_1,u9_2⟩,hy9,hp⟩:=hp
   replace hp:=gb_any hp;obtain ⟨y10,hy10,hp⟩:=hp
   refine W_D0 [43] mix (by kernel_rfl) rfl ?_
   refine s3 ?_
   refine D_idxA (X:=y4x0) GC.none (OpV.t rfl) (OpV.t rfl) el85.h (RdT.map2 hby4x0 (RdT.old h0) (RdT.pair RdT.int RdT.int)) (fun _=>hy7) ?_
   refine D_loadW GC.none (OpV.t rfl) (fun hg=>RdT.at (RdT.map2 hby4x0 (RdT.old h0) (RdT.pair RdT.int RdT.int)) (hy7).2) (by exact agg92.h) ?_
   refine D_callX GC.none fn90.h (OpVs.cons (OpV.t rfl) (OpVs.cons (OpV.t rfl) (OpVs.nil))) (by exact fun hg w F hF hM=>s_l8Has_walk w a1 (u7_1,u7_2) (RdT.nowS (RdT.old h1) hF hM) (RdT.nowS (RdT.pair RdT.int RdT.int) hF hM) _ hy8) ?_
   refine s5 ?_
   refine D_idxA (X:=y4x0) (GC.some rfl rfl) (OpV.s rfl) (OpV.s rfl) el85.h (RdT.map2 hby4x0 (RdT.old h0) (RdT.pair RdT.int RdT.int)) (fun hg=>hy9 hg.2) ?_
   refine D_loadW (GC.some rfl rfl) (OpV.s rfl) (fun hg=>RdT.at (RdT.map2 hby4x0 (RdT.old h0) (RdT.pair RdT.int RdT.int)) (hy9 hg.2).2) (by exact agg92.h) ?_
   refine D_callX (GC.some rfl rfl) fn90.h (OpVs.cons (OpV.s rfl) (OpVs.cons (OpV.s rfl) (OpVs.nil))) (by exact fun hg w F hF hM=>s_l8Has_walk w a2 (u9_1,u9_2) (RdT.nowS (RdT.old h2) hF hM) (RdT.nowS (RdT.pair RdT.int RdT.int) hF hM) _ (hy10 hg.2)) ?_
   refine s20 ?_
   refine kp [0,1,2,7,8,9,43] ?_
   refine W_cond rfl (fun q11=>?_) (fun q11=>?_)
   ·replace hp:=cond_t q11 hp
    refine s4 ?_
    replace hp:=map_any hp;obtain ⟨a12,hp,z_12⟩:=hp
    obtain rfl:=hx5 _ z_12
    replace hp:=map_any hp;obtain ⟨a13,hp,z_13⟩:=hp
    obtain rfl:=hx1 _ z_13
    obtain rfl:=sj hp
    refine s1 ?_
    refine res1 rfl (ResOK.tmp rfl) ⟨rfl,rfl⟩ ms
   ·replace hp:=cond_f q11 hp
    refine s6 ?_
    exact ⟨IntKind.wrap .i64 (v5_0+1),sb,(.sub ms),some_eq hp⟩
  ·replace hp:=cond_f q6 hp
   refine W_exit ?_
   replace hp:=map_any hp;obtain ⟨a14,hp,z_14⟩:=hp
   obtain rfl:=hx5 _ z_14
   refine s5 ?_
   exact ⟨IntKind.wrap .i64 (v1_0+1),sb,(.sub ms),some_eq hp⟩
 ·replace hp:=cond_f q2 hp
  refine W_exit ?_
  replace hp:=map_any hp;obtain ⟨a15,hp,z_15⟩:=hp
  obtain rfl:=hx1 _ z_15
  refine s4 ?_
  obtain rfl:=sj hp
  refine s1 ?_
  refine res1 rfl (ResOK.tmp rfl) ⟨rfl,rfl⟩ ms
noncomputable def s_Parts (a0:List D_Inst):Option (List (List D_Id)) :=
 Option.bind (some ([]:List (List D_Id))) (fun y2=>Option.bind (some ([]:List D_Id)) (fun y4=>whileP (fun s5:(List (List D_Id))×(List D_Id)=>Option.bind (s_InstsOk a0) (fun y6=>cond y6 (whileP (fun s8:(List (List D_Id))×(List D_Id)×Bool×Int=>cond ((decide (s8.2.2.2 < (a0.length:Int)))&&(!s8.2.2.1)) (Option.bind (idx a0 s8.2.2.2) (fun y10=>Option.bind (s_l8Has s8.2.1 (y10.1.1,y10.1.2)) (fun y11=>gb (!y11) (idx a0 s8.2.2.2) (fun y12=>gb (!y11) (s_l12Ready a0 (y12.1.1,y12.1.2)) (fun y13=>cond (y11||(!y13)) (some (.inl ((s8.1,s8.2.1,s8.2.2.1,IntKind.wrap .i64 (s8.2.2.2+1))))) (Option.bind (idx a0 s8.2.2.2) (fun y15=>Option.bind (s_l12Part a0 (y15.1.1,y15.1.2)) (fun y16=>Option.bind (s_l12May a0 y16 s8.2.1) (fun y17=>cond y17 (Option.bind (appP s8.1 [y16]) (fun y20=>Option.bind (appP s8.2.1 y16) (fun y22=>some (.inl ((y20,y22,true,IntKind.wrap .i64 (s8.2.2.2+1))))))) (some (.inl ((s8.1,s8.2.1,s8.2.2.1,IntKind.wrap .i64 (s8.2.2.2+1)))))))))))))) (Option.map .inr (cond (!s8.2.2.1) (Option.map .inr (some s8.1)) (some (.inl ((s8.1,s8.2.1))))))) (s5.1,s5.2,false,0)) (Option.map .inr (some s5.1)))) (y2,y4)))
theorem s_Parts_walk (w:World) (a0:TL T_Inst) (h0:GT.rd w [] a0) (r:(List (List D_Id))) (hp:s_Parts (GT.dat a0)=some r):Spec Tryz.prog 91 [(TL.hdr a0)].toArray w [] (fun v M=>∃ (x0:TL (TL T_Id)),v=(TL.hdr x0)∧GT.dat x0=r∧M=[treeH x0]):=by
 refine Spec.intro Tryz.func91 rfl Tryz.ntmps91 rfl ?_
 unfold s_Parts at hp
 replace hp:=dd hp
 refine s2 ?_
 refine L_assign (v:=(TL.hdr (TL.nil (TL T_Id) 0))) rfl rfl ?_
 refine s3 ?_
 replace hp:=ba hp;obtain ⟨y2,hy2,hp⟩:=hp
 refine L_mk0 (TL T_Id) rfl el139.h (fun X1 hdX1=>?_)
 obtain rfl:GT.dat X1=y2:=hdX1.trans (Option.some.inj hy2)
 clear hy2 hdX1
 refine s4 ?_
 replace hp:=ba hp;obtain ⟨y4,hy4,hp⟩:=hp
 refine L_mk0 T_Id rfl el85.h (fun X3 hdX3=>?_)
 obtain rfl:GT.dat X3=y4:=hdX3.trans (Option.some.inj hy4)
 clear hy4 hdX3
 refine s4 ?_
 refine W_while (σ:=(TL (TL T_Id))×(TL T_Id)) GT.dat (fun ((v5_0,v5_1):(TL (TL T_Id))×(TL T_Id))=>[(3,(TL.hdr v5_0)),(4,(TL.hdr v5_1))]) (fun ((v5_0,v5_1):(TL (TL T_Id))×(TL T_Id))=>[treeH v5_0,treeH v5_1]) [(0,_)] [] (X1,X3) hp sb ms ?_
 clear hp
 rintro ⟨v5_0,v5_1⟩ x5 hp hx5
 replace hp:=dd hp
 refine kq [0,3,4] ?_
 refine s4 ?_
 replace hp:=ba hp;obtain ⟨y6,hy6,hp⟩:=hp
 refine L_callX rfl fn64.h rfl (by exact fun w hw=>s_InstsOk_walk w a0 (RdT.now (RdT.old h0) hw) _ hy6) ?_
 refine s1 ?_
 refine kp [0,3,4,11] ?_
 refine W_cond rfl (fun q7=>?_) (fun q7=>?_)
 ·replace hp:=cond_t q7 hp
  refine s12 ?_
  refine W_while (σ:=(TL (TL T_Id))×(TL T_Id)×Bool×Int) GT.dat (fun ((v8_0,v8_1,v8_2,v8_3):(TL (TL T_Id))×(TL T_Id)×Bool×Int)=>[(3,(TL.hdr v8_0)),(4,(TL.hdr v8_1)),(5,.bool v8_2),(6,.int .i64 v8_3)]) (fun ((v8_0,v8_1,v8_2,v8_3):(TL (TL T_Id))×(TL T_Id)×Bool×Int)=>[treeH v8_0,treeH v8_1]) [(0,_)] [] (v5_0,v5_1,false,0) hp sb ms ?_
  clear hp
  rintro ⟨v8_0,v8_1,v8_2,v8_3⟩ x8 hp hx8
  replace hp:=dd hp
  refine kq [0,3,4,5,6] ?_
  refine s2 ?_
  refine W_D0 [19] mix (by kernel_rfl) rfl ?_
  refine s2 ?_
  refine D_lenP (X:=a0) GC.none (OpV.t rfl) el29.h ?_
  refine s15 ?_
  refine kp [0,3,4,5,6,19] ?_
  refine W_cond rfl (fun q9=>?_) (fun q9=>?_)
  ·replace hp:=cond_t q9 hp
   refine s5 ?_
   replace hp:=idx_bind hp;obtain ⟨⟨⟨u10_1,u10_2⟩,u10_3,u10_4,u10_5,⟨u10_6,u10_7,u10_8,u10_9,u10_10,u10_11,u10_12,u10_13⟩,u10_14,u10_15,u10_16⟩,hy10,hp⟩:=hp
   replace hp:=ba hp;obtain ⟨y11,hy11,hp⟩:=hp
   replace hp:=idx_gb hp;obtain ⟨⟨⟨u12_1,u12_2⟩,u12_3,u12_4,u12_5,⟨u12_6,u12_7,u12_8,u12_9,u12_10,u12_11,u12_12,u12_13⟩,u12_14,u12_15,u12_16⟩,hy12,hp⟩:=hp
   replace hp:=gb_any hp;obtain ⟨y13,hy13,hp⟩:=hp
   refine W_D0 [38] mix (by kernel_rfl) rfl ?_
   refine s3 ?_
   refine D_idxA (X:=a0) GC.none (OpV.t rfl) (OpV.t rfl) el29.h (RdT.old h0) (fun _=>hy10) ?_
   refine s1 ?_
   refine D_loadW GC.none (OpV.t rfl) (fun hg=>RdC.seg (RdT.at (RdT.old h0) (hy10).2) 0 2 rfl) (by exact agg92.h) ?_
   refine D_callX GC.none fn90.h (OpVs.cons (OpV.t rfl) (OpVs.cons (OpV.t rfl) (OpVs.nil))) (by exact fun hg w F hF hM=>s_l8Has_walk w v8_1 (u10_1,u10_2) (RdT.nowS (RdT.tree mm) hF hM) (RdT.nowS (RdT.pair RdT.int RdT.int) hF hM) _ hy11) ?_
   refine s4 ?_
   refine D_idxA (X:=a0) (GC.some rfl rfl) (OpV.s rfl) (OpV.s rfl) el29.h (RdT.old h0) (fun hg=>hy12 (gnot hg.2)) ?_
   refine s1 ?_
   refine D_loadW (GC.some rfl rfl) (OpV.s rfl) (fun hg=>RdC.seg (RdT.at (RdT.old h0) (hy12 (gnot hg.2)).2) 0 2 rfl) (by exact agg92.h) ?_
   refine D_callX (GC.some rfl rfl) fn142.h (OpVs.cons (OpV.s rfl) (OpVs.cons (OpV.s rfl) (OpVs.nil))) (by exact fun hg w F hF hM=>s_l12Ready_walk w a0 (u12_1,u12_2) (RdT.nowS (RdT.old h0) hF hM) (RdT.nowS (RdT.pair RdT.int RdT.int) hF hM) _ (hy13 (gnot hg.2))) ?_
   refine s20 ?_
   refine s1 ?_
   refine kp [0,3,4,5,6,38] ?_
   refine W_cond rfl (fun q14=>?_) (fun q14=>?_)
   ·replace hp:=cond_t q14 hp
    refine W_exit ?_
    refine s5 ?_
    exact ⟨(v8_0,v8_1,v8_2,IntKind.wrap .i64 (v8_3+1)),sb,(.sub ms),some_eq hp⟩
   ·replace hp:=cond_f q14 hp
    refine s6 ?_
    replace hp:=idx_bind hp;obtain ⟨u15,hy15,hp⟩:=hp
    obtain rfl:((u10_1,u10_2),u10_3,u10_4,u10_5,(u10_6,u10_7,u10_8,u10_9,u10_10,u10_11,u10_12,u10_13),u10_14,u10_15,u10_16)=u15:=Option.some.inj (hy10.2.symm.trans hy15.2)
    refine L_idxA (X:=a0) rfl rfl rfl el29.h (RdT.old h0) hy10 ?_
    refine s1 ?_
    refine L_loadW rfl rfl (RdC.seg (RdT.at (RdT.old h0) (hy10).2) 0 2 rfl) (by exact agg92.h) ?_
    replace hp:=ba hp;obtain ⟨y16,hy16,hp⟩:=hp
    refine L_callR rfl fn143.h rfl (by exact fun w hw=>s_l12Part_walk w a0 (u10_1,u10_2) (RdT.now (RdT.old h0) hw) (RdT.now (RdT.pair RdT.int RdT.int) hw) _ hy16) ?_
    rintro _ _ ⟨y16x0,rfl,rfl,rfl⟩
    refine sc ?_
    replace hp:=dd hp
    refine s7 ?_
    replace hp:=ba hp;obtain ⟨y17,hy17,hp⟩:=hp
    refine L_callX rfl fn144.h rfl (by exact fun w hw=>s_l12May_walk w a0 y16x0 v8_1 (RdT.now (RdT.old h0) hw) (RdT.now (RdT.tree mm) hw) (RdT.now (RdT.tree mm) hw) _ hy17) ?_
    refine s1 ?_
    refine kp [0,3,4,5,6,7,49] ?_
    refine W_cond rfl (fun q18=>?_) (fun q18=>?_)
    ·replace hp:=cond_t q18 hp
     refine s4 ?_
     refine L_buildSlice1 rfl rfl el139.h rfl (by decide) (by decide) rfl (fun bb52=>?_)
     replace hp:=ba hp;obtain ⟨y20,hy20,hp⟩:=hp
     refine L_app1m (X:=v8_0) (y16x0:(TL T_Id)) rfl rfl rfl el139.h rfl rfl pk mm pk hy20 (by decide) (fun X19 hdX19 hmX19=>?_)
     subst hdX19
     refine s6 ?_
     replace hp:=ba hp;obtain ⟨y22,hy22,hp⟩:=hp
     refine L_appT (X:=v8_1) (Y:=y16x0) rfl rfl rfl el85.h rfl rfl pk (RdT.el (RdT.tree mm) hmX19) hy22 (by decide) (fun X21 hdX21=>?_)
     subst hdX21
     refine s10 ?_
     exact ⟨(X19,X21,true,IntKind.wrap .i64 (v8_3+1)),sb,(.sub ms),some_eq hp⟩
    ·replace hp:=cond_f q18 hp
     refine s6 ?_
     exact ⟨(v8_0,v8_1,v8_2,IntKind.wrap .i64 (v8_3+1)),sb,(.sub ms),some_eq hp⟩
  ·replace hp:=cond_f q9 hp
   refine W_exit ?_
   replace hp:=map_any hp;obtain ⟨a23,hp,z_23⟩:=hp
   obtain rfl:=hx8 _ z_23
   refine s5 ?_
   refine kp [0,3,4,58] ?_
   refine W_cond rfl (fun q24=>?_) (fun q24=>?_)
   ·replace hp:=cond_t q24 hp
    refine s5 ?_
    replace hp:=map_any hp;obtain ⟨a25,hp,z_25⟩:=hp
    obtain rfl:=hx5 _ z_25
    obtain rfl:=sj hp
    refine s1 ?_
    refine res1 rfl (ResOK.tmp rfl) ⟨v8_0,rfl,rfl,rfl⟩ ms
   ·replace hp:=cond_f q24 hp
    refine s1 ?_
    exact ⟨(v8_0,v8_1),sb,(.sub ms),some_eq hp⟩
 ·replace hp:=cond_f q7 hp
  refine W_exit ?_
  replace hp:=map_any hp;obtain ⟨a26,hp,z_26⟩:=hp
  obtain rfl:=hx5 _ z_26
  refine s5 ?_
  obtain rfl:=sj hp
  refine s1 ?_
  refine res1 rfl (ResOK.tmp rfl) ⟨v5_0,rfl,rfl,rfl⟩ ms
noncomputable def s_ExecOrder (a0:List D_Inst):Option (List D_Id) :=
 Option.bind (some ([]:List D_Id)) (fun y2=>Option.bind (s_Parts a0) (fun y3=>whileP (fun s4:(List D_Id)×Int=>cond (decide (s4.2 < (y3.length:Int))) (Option.bind (idx y3 s4.2) (fun y6=>Option.bind (appP s4.1 y6) (fun y8=>some (.inl ((y8,IntKind.wrap .i64 (s4.2+1))))))) (Option.map .inr (some s4.1))) (y2,0)))
theorem s_ExecOrder_walk (w:World) (a0:TL T_Inst) (h0:GT.rd w [] a0) (r:(List D_Id)) (hp:s_ExecOrder (GT.dat a0)=some r):Spec Tryz.prog 48 [(TL.hdr a0)].toArray w [] (fun v M=>∃ (x0:TL T_Id),v=(TL.hdr x0)∧GT.dat x0=r∧M=[treeH x0]):=by
 refine Spec.intro Tryz.func48 rfl Tryz.ntmps48 rfl ?_
 unfold s_ExecOrder at hp
 replace hp:=dd hp
 refine s2 ?_
 refine L_assign (v:=(TL.hdr (TL.nil T_Id 0))) rfl rfl ?_
 refine s3 ?_
 replace hp:=ba hp;obtain ⟨y2,hy2,hp⟩:=hp
 refine L_mk0 T_Id rfl el85.h (fun X1 hdX1=>?_)
 obtain rfl:GT.dat X1=y2:=hdX1.trans (Option.some.inj hy2)
 clear hy2 hdX1
 refine s5 ?_
 replace hp:=ba hp;obtain ⟨y3,hy3,hp⟩:=hp
 refine L_callR rfl fn91.h rfl (by exact fun w hw=>s_Parts_walk w a0 (RdT.now (RdT.old h0) hw) _ hy3) ?_
 rintro _ _ ⟨y3x0,rfl,rfl,rfl⟩
 refine sc ?_
 replace hp:=dd hp
 refine s8 ?_
 refine W_while (σ:=(TL T_Id)×Int) GT.dat (fun ((v4_0,v4_1):(TL T_Id)×Int)=>[(3,(TL.hdr v4_0)),(5,.int .i64 v4_1)]) (fun ((v4_0,v4_1):(TL T_Id)×Int)=>[treeH v4_0]) [(4,_)] [treeH y3x0] (X1,0) hp sb ms ?_
 clear hp
 rintro ⟨v4_0,v4_1⟩ x4 hp hx4
 replace hp:=dd hp
 refine kq [3,4,5] ?_
 refine s8 ?_
 refine kp [3,4,5,12] ?_
 refine W_cond rfl (fun q5=>?_) (fun q5=>?_)
 ·replace hp:=cond_t q5 hp
  refine s7 ?_
  replace hp:=idx_bind hp;obtain ⟨u6,hy6,hp⟩:=hp
  refine L_idxA (X:=y3x0) rfl rfl rfl el139.h (RdT.tree mm) hy6 ?_
  refine L_load0 rfl rfl (RdT.at (RdT.tree mm) (hy6).2) one85.h rfl ?_
  replace hp:=ba hp;obtain ⟨y8,hy8,hp⟩:=hp
  refine L_appT (X:=v4_0) (Y:=u6) rfl rfl rfl el85.h rfl rfl pk (RdT.of (RdT.tree mm) (hy6).2) hy8 (by decide) (fun X7 hdX7=>?_)
  subst hdX7
  refine s7 ?_
  exact ⟨(X7,IntKind.wrap .i64 (v4_1+1)),sb,(.sub ms),some_eq hp⟩
 ·replace hp:=cond_f q5 hp
  refine W_exit ?_
  replace hp:=map_any hp;obtain ⟨a9,hp,z_9⟩:=hp
  obtain rfl:=hx4 _ z_9
  refine s5 ?_
  obtain rfl:=sj hp
  refine s1 ?_
  refine res1 rfl (ResOK.tmp rfl) ⟨v4_0,rfl,rfl,rfl⟩ ms
end Go.Proofs.SL
