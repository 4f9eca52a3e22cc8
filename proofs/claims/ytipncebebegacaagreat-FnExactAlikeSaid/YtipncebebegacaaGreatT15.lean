/- The texts of the proof, part 15: the base, walks of functions, plain Lean. -/
import Derived.Test.YtipncebebegacaaGreatT14
import Derived.Test.YtipncebebegacaaGreatT13
import Derived.Test.YtipncebebegacaaGreatT6
import Derived.Test.YtipncebebegacaaGreatT7
import Derived.Test.YtipncebebegacaaGreatT12
namespace Go.Proofs.SL
open Go
set_option maxHeartbeats 2000000
abbrev D_Said:=Int×Int×ByteArray
abbrev D_State:=D_Catalog×(List D_Said)
instance fld43_0:FldF Tryz.prog 43 0 0:=⟨by kernel_rfl⟩
instance fld43_1:FldF Tryz.prog 43 1 1:=⟨by kernel_rfl⟩
instance one27:OneF Tryz.prog 27:=⟨by kernel_rfl⟩
instance el27:ElF Tryz.prog 27 71 3 32 [.int .i64 0,.int .i64 0,.string ByteArray.empty]:=⟨by kernel_rfl⟩
instance agg71:AggF Tryz.prog 71 3:=⟨by kernel_rfl⟩
instance zero71:ZerF Tryz.prog 71 [.int .i64 0,.int .i64 0,.string ByteArray.empty]:=⟨by kernel_rfl⟩
instance fld71_0:FldF Tryz.prog 71 0 0:=⟨by kernel_rfl⟩
instance fld71_1:FldF Tryz.prog 71 1 1:=⟨by kernel_rfl⟩
instance zero43:ZerF Tryz.prog 43 [.slice none 0 0,.slice none 0 0]:=⟨by kernel_rfl⟩
instance bld43:BldF Tryz.prog 43 [(0,1),(1,1)] [.slice none 0 0,.slice none 0 0]:=⟨by kernel_rfl⟩
instance agg43:AggF Tryz.prog 43 2:=⟨by kernel_rfl⟩
instance fn92:FnF Tryz.prog 92:=⟨_,Tryz.func92,by kernel_rfl,rfl⟩
instance fn112:FnF Tryz.prog 112:=⟨_,Tryz.func112,by kernel_rfl,rfl⟩
instance fld71_2:FldF Tryz.prog 71 2 2:=⟨by kernel_rfl⟩
instance fn114:FnF Tryz.prog 114:=⟨_,Tryz.func114,by kernel_rfl,rfl⟩
instance bld71:BldF Tryz.prog 71 [(0,1),(1,1),(2,1)] [.int .i64 0,.int .i64 0,.string ByteArray.empty]:=⟨by kernel_rfl⟩
instance fn115:FnF Tryz.prog 115:=⟨_,Tryz.func115,by kernel_rfl,rfl⟩
instance fn68:FnF Tryz.prog 68:=⟨_,Tryz.func68,by kernel_rfl,rfl⟩
instance fn28:FnF Tryz.prog 28:=⟨_,Tryz.func28,by kernel_rfl,rfl⟩
instance fn29:FnF Tryz.prog 29:=⟨_,Tryz.func29,by kernel_rfl,rfl⟩
noncomputable def s_StateOk (a0:D_State):Option Bool :=
 Option.bind (s_CatOk a0.1) (fun y1=>cond (!y1) (some false) (whileP (fun s3:Int=>cond (decide (s3 < (a0.2.length:Int))) (Option.bind (idx a0.2 s3) (fun y5=>Option.bind (s_l1In y5.1 1 9) (fun y6=>gb (!(!y6)) (s_l1In y5.2.1 1 1000) (fun y7=>gb ((!((!y6)||(!y7)))&&(decide (0 < s3))) (idx a0.2 (IntKind.wrap .i64 (s3 - 1))) (fun y8=>cond (((!y6)||(!y7))||((decide (0 < s3))&&(decide (y5.1≤y8.1)))) (Option.map .inr (some false)) (some (.inl (IntKind.wrap .i64 (s3+1))))))))) (Option.map .inr (some true))) 0))
theorem s_StateOk_walk (w:World) (a0:T_State) (h0:GT.rd w [] a0) (r:Bool) (hp:s_StateOk (GT.dat a0)=some r):Spec Tryz.prog 92 [.agg (GT.cells a0).toArray].toArray w [] (IsV (.bool r)):=by
 obtain ⟨a0_1,a0_2⟩:=a0
 change Spec _ _ ([Value.agg #[(TL.hdr a0_1),(TL.hdr a0_2)]]:List Value).toArray w [] _
 refine Spec.intro Tryz.func92 rfl Tryz.ntmps92 rfl ?_
 unfold s_StateOk at hp
 replace hp:=dd hp
 refine s2 ?_
 refine bx fun bk1=>?_
 refine s6 ?_
 refine L_loadW rfl rfl (RdC.seg (RdC.blk mm) 0 1 rfl) (by exact agg41.h) ?_
 replace hp:=ba hp;obtain ⟨y1,hy1,hp⟩:=hp
 refine L_callX rfl fn145.h rfl (by exact fun w hw=>s_CatOk_walk w a0_1 (RdT.now (RdT.old h0.1) hw) _ hy1) ?_
 refine s2 ?_
 refine kp [1,8] ?_
 refine W_cond rfl (fun q2=>?_) (fun q2=>?_)
 ·replace hp:=cond_t q2 hp
  refine s4 ?_
  obtain rfl:=sj hp
  refine s1 ?_
  refine res1 rfl (ResOK.tmp rfl) ⟨rfl,rfl⟩ ms
 ·replace hp:=cond_f q2 hp
  refine s7 ?_
  refine W_while (σ:=Int) GT.dat (fun (v3_0:Int)=>[(3,.int .i64 v3_0)]) (fun (v3_0:Int)=>[]) [(1,_)] [blk bk1 _ _] 0 hp sb ms ?_
  clear hp
  rintro v3_0 x3 hp hx3
  replace hp:=dd hp
  refine kq [1,3] ?_
  refine s9 ?_
  refine kp [1,3,13] ?_
  refine W_cond rfl (fun q4=>?_) (fun q4=>?_)
  ·replace hp:=cond_t q4 hp
   refine s8 ?_
   replace hp:=idx_bind hp;obtain ⟨⟨u5_1,u5_2,u5_3⟩,hy5,hp⟩:=hp
   refine L_idxA (X:=a0_2) rfl rfl rfl el27.h (RdT.old h0.2) hy5 ?_
   refine L_loadW rfl rfl (RdT.at (RdT.old h0.2) (hy5).2) (by exact agg71.h) ?_
   refine al fun bk4=>?_
   refine s3 ?_
   replace hp:=ba hp;obtain ⟨y6,hy6,hp⟩:=hp
   replace hp:=gb_any hp;obtain ⟨y7,hy7,hp⟩:=hp
   replace hp:=idx_gb hp;obtain ⟨⟨u8_1,u8_2,u8_3⟩,hy8,hp⟩:=hp
   refine W_D0 [46] mix (by kernel_rfl) rfl ?_
   refine s2 ?_
   refine D_callX GC.none fn63.h (OpVs.cons (OpV.t rfl) (OpVs.cons OpV.c (OpVs.cons OpV.c (OpVs.nil)))) (by exact fun hg w F hF hM=>s_l1In_walk w u5_1 1 9  _ hy6) ?_
   refine s4 ?_
   refine D_callX (GC.some rfl rfl) fn63.h (OpVs.cons (OpV.s rfl) (OpVs.cons OpV.c (OpVs.cons OpV.c (OpVs.nil)))) (by exact fun hg w F hF hM=>s_l1In_walk w u5_2 1 1000  _ (hy7 (gnot hg.2))) ?_
   refine s10 ?_
   refine D_idxA (X:=a0_2) (GC.some rfl rfl) (OpV.s rfl) (OpV.s rfl) el27.h (RdT.old h0.2) (fun hg=>hy8 (gand (gnot hg.1.2) hg.2)) ?_
   refine s1 ?_
   refine D_load (GC.some rfl rfl) (OpV.s rfl) (fun hg=>RdT.at (RdT.old h0.2) (hy8 (gand (gnot hg.1.2) hg.2)).2) one3.h rfl ?_
   refine s20 ?_
   refine s13 ?_
   refine kp [1,3,46] ?_
   refine W_cond rfl (fun q9=>?_) (fun q9=>?_)
   ·replace hp:=cond_t q9 hp
    refine s4 ?_
    replace hp:=map_any hp;obtain ⟨a10,hp,z_10⟩:=hp
    obtain rfl:=hx3 _ z_10
    obtain rfl:=sj hp
    refine s1 ?_
    refine res1 rfl (ResOK.tmp rfl) ⟨rfl,rfl⟩ ms
   ·replace hp:=cond_f q9 hp
    refine s6 ?_
    exact ⟨IntKind.wrap .i64 (v3_0+1),sb,(.sub ms),some_eq hp⟩
  ·replace hp:=cond_f q4 hp
   refine W_exit ?_
   replace hp:=map_any hp;obtain ⟨a11,hp,z_11⟩:=hp
   obtain rfl:=hx3 _ z_11
   refine s4 ?_
   obtain rfl:=sj hp
   refine s1 ?_
   refine res1 rfl (ResOK.tmp rfl) ⟨rfl,rfl⟩ ms
noncomputable def s_l16Copy (a0:D_State):Option D_State :=
 Option.bind (s_l15Copy a0.1) (fun y1=>Option.bind (some ([]:List D_Said)) (fun y2=>Option.bind (appP ([]:List D_Said) a0.2) (fun y5=>some (y1,y5))))
theorem s_l16Copy_walk (w:World) (a0:T_State) (h0:GT.rd w [] a0) (r:D_State) (hp:s_l16Copy (GT.dat a0)=some r):Spec Tryz.prog 112 [.agg (GT.cells a0).toArray].toArray w [] (fun v M=>∃ (x0:T_State),v=.agg (GT.cells x0).toArray∧GT.dat x0=r∧M=[treeH x0]):=by
 obtain ⟨a0_1,a0_2⟩:=a0
 change Spec _ _ ([Value.agg #[(TL.hdr a0_1),(TL.hdr a0_2)]]:List Value).toArray w [] _
 refine Spec.intro Tryz.func112 rfl Tryz.ntmps112 rfl ?_
 unfold s_l16Copy at hp
 replace hp:=dd hp
 refine s2 ?_
 refine bx fun bk1=>?_
 refine al fun bk2=>?_
 refine s2 ?_
 replace hp:=ba hp;obtain ⟨y1,hy1,hp⟩:=hp
 replace hp:=ba hp;obtain ⟨y2,hy2,hp⟩:=hp
 obtain rfl:=Option.some.inj hy2
 refine W_DS (pre:=[_,_,_,_,_,_]) (suf:=[_,_,_]) [5,6,8] [] _ pc mix (by kernel_rfl) (by kernel_rfl) rfl ?_
 refine s1 ?_
 refine D_loadW GC.none (OpV.t rfl) (fun hg=>RdC.seg (RdC.blk mm) 0 1 rfl) (by exact agg41.h) ?_
 refine D_call1R (fun v M=>∃ (x0:T_Catalog),v=.agg (GT.cells x0).toArray∧GT.dat x0=y1∧M=[treeH x0]) fn172.h (OpVs.cons (OpV.t rfl) (OpVs.nil)) (by exact fun w F hF hM=>s_l15Copy_walk w a0_1 (RdT.nowS (RdT.old h0.1) hF hM) _ hy1) ?_
 refine D_mk0 T_Said el27.h ?_
 refine s5 ?_
 refine Give_R rfl rfl ?_
 rintro _ _ ⟨X3,rfl,hdX3,rfl⟩
 rw [← hdX3] at hp
 simp only [List.cons_append,List.nil_append]
 refine Give_R rfl rfl ?_
 rintro _ _ ⟨y1x0,rfl,rfl,rfl⟩
 refine s3 ?_
 refine sc ?_
 replace hp:=dd hp
 replace hp:=ba hp;obtain ⟨y5,hy5,hp⟩:=hp
 refine L_appT (X:=X3) (Y:=a0_2) rfl rfl rfl el27.h rfl rfl pk (RdT.old h0.2) hy5 (by decide) (fun X4 hdX4=>?_)
 subst hdX4
 refine L_build (xs:=[(0,.tmp 5),(1,.tmp 9)]) (cs:=[(TL.hdr y1x0),(TL.hdr X4)]) rfl rfl bld43.h rfl ?_
 refine s2 ?_
 obtain rfl:=sj hp
 refine jW ((y1x0,X4):T_State) ?_
 refine s1 ?_
 refine res1 rfl (ResOK.cell rfl mm (by exact agg43.h)) ⟨(y1x0,X4),rfl,rfl,rfl⟩ ms
noncomputable def s_l16Put (a0:List D_Said) (a1:D_Said):Option (List D_Said) :=
 Option.bind (some ([]:List D_Said)) (fun y2=>whileP (fun s3:(List D_Said)×Bool×Int=>cond (decide (s3.2.2 < (a0.length:Int))) (jbind (gb (!s3.2.1) (idx a0 s3.2.2) (fun y6=>cond ((!s3.2.1)&&(decide (a1.1≤y6.1))) (Option.bind (appP s3.1 [(a1.1,a1.2.1,a1.2.2)]) (fun y9=>some (.inl ((y9,true))))) (some (.inl ((s3.1,s3.2.1)))))) (fun s5:(List D_Said)×Bool=>Option.bind (idx a0 s3.2.2) (fun y10=>cond (!decide (y10.1=a1.1)) (Option.bind (idx a0 s3.2.2) (fun y12=>Option.bind (appP s5.1 [(y12.1,y12.2.1,y12.2.2)]) (fun y14=>some (.inl ((y14,s5.2,IntKind.wrap .i64 (s3.2.2+1))))))) (some (.inl ((s5.1,s5.2,IntKind.wrap .i64 (s3.2.2+1)))))))) (Option.map .inr (cond (!s3.2.1) (Option.bind (appP s3.1 [(a1.1,a1.2.1,a1.2.2)]) (fun y18=>some y18)) (some s3.1)))) (y2,false,0))
theorem s_l16Put_walk (w:World) (a0:TL T_Said) (a1:T_Said) (h0:GT.rd w [] a0) (h1:GT.rd w [] a1) (r:(List D_Said)) (hp:s_l16Put (GT.dat a0) (GT.dat a1)=some r):Spec Tryz.prog 115 [(TL.hdr a0),.agg (GT.cells a1).toArray].toArray w [] (fun v M=>∃ (x0:TL T_Said),v=(TL.hdr x0)∧GT.dat x0=r∧M=[treeH x0]):=by
 obtain ⟨a1_1,a1_2,a1_3⟩:=a1
 change Spec _ _ ([(TL.hdr a0),Value.agg #[.int .i64 a1_1,.int .i64 a1_2,.string a1_3]]:List Value).toArray w [] _
 refine Spec.intro Tryz.func115 rfl Tryz.ntmps115 rfl ?_
 unfold s_l16Put at hp
 replace hp:=dd hp
 refine s2 ?_
 refine bx fun bk3=>?_
 refine L_assign (v:=(TL.hdr (TL.nil T_Said 0))) rfl rfl ?_
 refine s3 ?_
 replace hp:=ba hp;obtain ⟨y2,hy2,hp⟩:=hp
 refine L_mk0 T_Said rfl el27.h (fun X1 hdX1=>?_)
 obtain rfl:GT.dat X1=y2:=hdX1.trans (Option.some.inj hy2)
 clear hy2 hdX1
 refine s12 ?_
 refine W_while (σ:=(TL T_Said)×Bool×Int) GT.dat (fun ((v3_0,v3_1,v3_2):(TL T_Said)×Bool×Int)=>[(5,(TL.hdr v3_0)),(6,.bool v3_1),(7,.int .i64 v3_2)]) (fun ((v3_0,v3_1,v3_2):(TL T_Said)×Bool×Int)=>[treeH v3_0]) [(0,_),(3,_)] [blk bk3 _ _] (X1,false,0) hp sb ms ?_
 clear hp
 rintro ⟨v3_0,v3_1,v3_2⟩ x3 hp hx3
 replace hp:=dd hp
 refine kq [0,3,5,6,7] ?_
 refine s8 ?_
 refine kp [0,3,5,6,7,12] ?_
 refine W_cond rfl (fun q4=>?_) (fun q4=>?_)
 ·replace hp:=cond_t q4 hp
  refine s3 ?_
  refine W_jn (σ:=(TL T_Said)×Bool) GT.dat (fun ((v5_0,v5_1):(TL T_Said)×Bool)=>[(5,(TL.hdr v5_0)),(6,.bool v5_1)]) (fun ((v5_0,v5_1):(TL T_Said)×Bool)=>[treeH v5_0]) [(0,(TL.hdr a0)),(3,.pointer (some ⟨bk3,0,none⟩)),(7,.int .i64 v3_2)] [blk bk3 [.int .i64 a1_1,.int .i64 a1_2,.string a1_3] 71] hp ?_ ?_
  ·clear hp
   intro x5 hp hx5
   refine s1 ?_
   replace hp:=idx_gb hp;obtain ⟨⟨u6_1,u6_2,u6_3⟩,hy6,hp⟩:=hp
   refine W_D0 [26] mix (by kernel_rfl) rfl ?_
   refine s5 ?_
   refine D_idxA (X:=a0) (GC.some rfl rfl) (OpV.s rfl) (OpV.s rfl) el27.h (RdT.old h0) (fun hg=>hy6 hg.2) ?_
   refine s1 ?_
   refine D_load (GC.some rfl rfl) (OpV.s rfl) (fun hg=>RdT.at (RdT.old h0) (hy6 hg.2).2) one3.h rfl ?_
   refine s18 ?_
   refine kp [0,3,5,6,7,26] ?_
   refine W_cond rfl (fun q7=>?_) (fun q7=>?_)
   ·replace hp:=cond_t q7 hp
    refine s4 ?_
    refine L_buildSlice1 rfl rfl el27.h rfl (by decide) (by decide) rfl (fun bb29=>?_)
    replace hp:=ba hp;obtain ⟨y9,hy9,hp⟩:=hp
    refine L_app1F (X:=v3_0) ((a1_1,a1_2,a1_3):T_Said) rfl rfl rfl el27.h rfl rfl pk mm  hy9 (by decide) (fun X8 hdX8=>?_)
    subst hdX8
    refine s5 ?_
    exact ⟨(X8,true),sb,(.sub ms),some_eq hp⟩
   ·replace hp:=cond_f q7 hp
    refine s1 ?_
    exact ⟨(v3_0,v3_1),sb,(.sub ms),some_eq hp⟩
  ·clear hp
   rintro ⟨v5_0,v5_1⟩ hp
   replace hp:=dd hp
   refine kq [0,3,5,6,7] ?_
   refine s1 ?_
   replace hp:=idx_bind hp;obtain ⟨⟨u10_1,u10_2,u10_3⟩,hy10,hp⟩:=hp
   refine W_D0 [38] mix (by kernel_rfl) rfl ?_
   refine s2 ?_
   refine D_idxA (X:=a0) GC.none (OpV.t rfl) (OpV.t rfl) el27.h (RdT.old h0) (fun _=>hy10) ?_
   refine s1 ?_
   refine D_load GC.none (OpV.t rfl) (fun hg=>RdT.at (RdT.old h0) (hy10).2) one3.h rfl ?_
   refine s13 ?_
   refine kp [0,3,5,6,7,38] ?_
   refine W_cond rfl (fun q11=>?_) (fun q11=>?_)
   ·replace hp:=cond_t q11 hp
    refine s4 ?_
    replace hp:=idx_bind hp;obtain ⟨u12,hy12,hp⟩:=hp
    obtain rfl:(u10_1,u10_2,u10_3)=u12:=Option.some.inj (hy10.2.symm.trans hy12.2)
    refine L_idxA (X:=a0) rfl rfl rfl el27.h (RdT.old h0) hy10 ?_
    refine L_loadW rfl rfl (RdT.at (RdT.old h0) (hy10).2) (by exact agg71.h) ?_
    refine L_buildSlice1 rfl rfl el27.h rfl (by decide) (by decide) rfl (fun bb44=>?_)
    replace hp:=ba hp;obtain ⟨y14,hy14,hp⟩:=hp
    refine L_app1F (X:=v5_0) ((u10_1,u10_2,u10_3):T_Said) rfl rfl rfl el27.h rfl rfl pk mm  hy14 (by decide) (fun X13 hdX13=>?_)
    subst hdX13
    refine s7 ?_
    exact ⟨(X13,v5_1,IntKind.wrap .i64 (v3_2+1)),sb,(.sub ms),some_eq hp⟩
   ·replace hp:=cond_f q11 hp
    refine s6 ?_
    exact ⟨(v5_0,v5_1,IntKind.wrap .i64 (v3_2+1)),sb,(.sub ms),some_eq hp⟩
 ·replace hp:=cond_f q4 hp
  refine W_exit ?_
  replace hp:=map_any hp;obtain ⟨a15,hp,z_15⟩:=hp
  obtain rfl:=hx3 _ z_15
  refine s6 ?_
  refine kp [3,5,47] ?_
  refine W_cond rfl (fun q16=>?_) (fun q16=>?_)
  ·replace hp:=cond_t q16 hp
   refine s3 ?_
   refine L_buildSlice1 rfl rfl el27.h rfl (by decide) (by decide) rfl (fun bb50=>?_)
   replace hp:=ba hp;obtain ⟨y18,hy18,hp⟩:=hp
   refine L_app1F (X:=v3_0) ((a1_1,a1_2,a1_3):T_Said) rfl rfl rfl el27.h rfl rfl pk mm  hy18 (by decide) (fun X17 hdX17=>?_)
   subst hdX17
   refine s7 ?_
   obtain rfl:=sj hp
   refine s1 ?_
   refine res1 rfl (ResOK.tmp rfl) ⟨X17,rfl,rfl,rfl⟩ ms
  ·replace hp:=cond_f q16 hp
   refine s6 ?_
   obtain rfl:=sj hp
   refine s1 ?_
   refine res1 rfl (ResOK.tmp rfl) ⟨v3_0,rfl,rfl,rfl⟩ ms
noncomputable def s_StateDo (a0:D_State) (a1:D_Cmd):Option (D_State×ByteArray) :=
 Option.bind (s_StateOk (a0.1,a0.2)) (fun y1=>cond (!y1) (some ((([]:List D_CSet),([]:List D_Said)),ByteArray.empty)) (Option.bind (s_l16Copy (a0.1,a0.2)) (fun y3=>Option.bind (s_CmdOk (a1.1,a1.2.1,a1.2.2.1,a1.2.2.2.1,a1.2.2.2.2.1,a1.2.2.2.2.2.1,a1.2.2.2.2.2.2.1,a1.2.2.2.2.2.2.2)) (fun y4=>cond ((!y4)||(decide (a1.1=0))) (some ((y3.1,y3.2),ByteArray.empty)) (whileP (fun s6:Int=>cond (decide (s6 < (a0.2.length:Int))) (Option.bind (idx a0.2 s6) (fun y8=>cond (!decide (y8.1=a1.2.1)) (some (.inl (IntKind.wrap .i64 (s6+1)))) (Option.bind (idx a0.2 s6) (fun y10=>cond (decide (y10.2.1=a1.2.2.1)) (Option.bind (idx a0.2 s6) (fun y12=>Option.map .inr (some ((y3.1,y3.2),y12.2.2)))) (Option.bind (idx a0.2 s6) (fun y14=>cond (decide (a1.2.2.1 < y14.2.1)) (Option.map .inr (some ((y3.1,y3.2),(ByteArray.mk #[111,108,100])))) (some (.inl (IntKind.wrap .i64 (s6+1)))))))))) (Option.map .inr (Option.bind (s_CatDo y3.1 (a1.1,a1.2.1,a1.2.2.1,a1.2.2.2.1,a1.2.2.2.2.1,a1.2.2.2.2.2.1,a1.2.2.2.2.2.2.1,a1.2.2.2.2.2.2.2)) (fun y18=>Option.bind (s_l16Put y3.2 (a1.2.1,a1.2.2.1,y18.2)) (fun y19=>some ((y18.1,y19),y18.2)))))) 0)))))
theorem s_StateDo_walk (w:World) (a0:T_State) (a1:T_Cmd) (h0:GT.rd w [] a0) (h1:GT.rd w [] a1) (r:D_State×ByteArray) (hp:s_StateDo (GT.dat a0) (GT.dat a1)=some r):Spec Tryz.prog 68 [.agg (GT.cells a0).toArray,.agg (GT.cells a1).toArray].toArray w [] (fun v M=>∃ (x0:T_State) (x1:ByteArray),v=.tuple #[.agg (GT.cells x0).toArray,.string x1]∧(GT.dat x0,GT.dat x1)=r∧M=[treeH x0]):=by
 obtain ⟨a0_1,a0_2⟩:=a0
 obtain ⟨a1_1,a1_2,a1_3,a1_4,a1_5,a1_6,a1_7,a1_8⟩:=a1
 change Spec _ _ ([Value.agg #[(TL.hdr a0_1),(TL.hdr a0_2)],Value.agg #[.int .i64 a1_1,.int .i64 a1_2,.int .i64 a1_3,.string a1_4,.string a1_5,.string a1_6,.int .i64 a1_7,(TL.hdr a1_8)]]:List Value).toArray w [] _
 refine Spec.intro Tryz.func68 rfl Tryz.ntmps68 rfl ?_
 unfold s_StateDo at hp
 replace hp:=dd hp
 refine s2 ?_
 refine bx fun bk2=>?_
 refine bx fun bk3=>?_
 refine al fun bk4=>?_
 refine s6 ?_
 replace hp:=ba hp;obtain ⟨y1,hy1,hp⟩:=hp
 refine L_callX rfl fn92.h rfl (by exact fun w hw=>s_StateOk_walk w (a0_1,a0_2) (RdT.now (RdT.pair (RdT.old h0.1) (RdT.old h0.2)) hw) _ hy1) ?_
 refine s2 ?_
 refine kp [2,3,4,12] ?_
 refine W_cond rfl (fun q2=>?_) (fun q2=>?_)
 ·replace hp:=cond_t q2 hp
  refine s2 ?_
  refine L_build (xs:=[]) (cs:=[(TL.hdr (TL.nil T_CSet 0)),(TL.hdr (TL.nil T_Said 0))]) rfl rfl bld43.h rfl ?_
  refine s3 ?_
  obtain rfl:=sj hp
  refine W_conv (M':=treeH (TL.nil T_CSet 0)::_) (fun w h=>addNilT (τ:=T_CSet) 0 h) ?_
  refine W_conv (M':=treeH (TL.nil T_Said 0)::_) (fun w h=>addNilT (τ:=T_Said) 0 h) ?_
  refine jW (((TL.nil T_CSet 0),(TL.nil T_Said 0)):T_State) ?_
  refine s1 ?_
  refine res2 rfl (ResOK.cell rfl mm (by exact agg43.h)) (ResOK.tmp rfl) ⟨((TL.nil T_CSet 0),(TL.nil T_Said 0)),ByteArray.empty,rfl,rfl,rfl⟩ ms
 ·replace hp:=cond_f q2 hp
  refine s4 ?_
  replace hp:=ba hp;obtain ⟨y3,hy3,hp⟩:=hp
  refine L_callR rfl fn112.h rfl (by exact fun w hw=>s_l16Copy_walk w (a0_1,a0_2) (RdT.now (RdT.pair (RdT.old h0.1) (RdT.old h0.2)) hw) _ hy3) ?_
  rintro _ _ ⟨⟨y3x0_1,y3x0_2⟩,rfl,rfl,rfl⟩
  refine sc ?_
  replace hp:=dd hp
  refine xL ((y3x0_1,y3x0_2):T_State) ?_
  refine al fun bk6=>?_
  refine s4 ?_
  replace hp:=ba hp;obtain ⟨y4,hy4,hp⟩:=hp
  refine W_D0 [23] mix (by kernel_rfl) rfl ?_
  refine s1 ?_
  refine D_callX GC.none fn113.h (OpVs.cons (OpV.t rfl) (OpVs.nil)) (by exact fun hg w F hF hM=>s_CmdOk_walk w (a1_1,a1_2,a1_3,a1_4,a1_5,a1_6,a1_7,a1_8) (RdT.nowS (RdT.pair RdT.int (RdT.pair RdT.int (RdT.pair RdT.int (RdT.pair RdT.str (RdT.pair RdT.str (RdT.pair RdT.str (RdT.pair RdT.int (RdT.old h1.2.2.2.2.2.2.2)))))))) hF hM) _ hy4) ?_
  refine s16 ?_
  refine kp [2,3,4,6,23] ?_
  refine W_cond rfl (fun q5=>?_) (fun q5=>?_)
  ·replace hp:=cond_t q5 hp
   refine s6 ?_
   obtain rfl:=sj hp
   refine jW ((y3x0_1,y3x0_2):T_State) ?_
   refine s1 ?_
   refine res2 rfl (ResOK.cell rfl mm (by exact agg43.h)) (ResOK.tmp rfl) ⟨(y3x0_1,y3x0_2),ByteArray.empty,rfl,rfl,rfl⟩ ms
  ·replace hp:=cond_f q5 hp
   refine s7 ?_
   refine W_while (σ:=Int) GT.dat (fun (v6_0:Int)=>[(7,.int .i64 v6_0)]) (fun (v6_0:Int)=>[]) [(2,_),(3,_),(4,_),(6,_)] [blk bk2 _ _,blk bk3 _ _,blk bk4 _ _,blk bk6 _ _,treeH y3x0_1,treeH y3x0_2] 0 hp sb ms ?_
   clear hp
   rintro v6_0 x6 hp hx6
   replace hp:=dd hp
   refine kq [2,3,4,6,7] ?_
   refine s9 ?_
   refine kp [2,3,4,6,7,29] ?_
   refine W_cond rfl (fun q7=>?_) (fun q7=>?_)
   ·replace hp:=cond_t q7 hp
    refine s5 ?_
    replace hp:=idx_bind hp;obtain ⟨⟨u8_1,u8_2,u8_3⟩,hy8,hp⟩:=hp
    refine W_D0 [40] mix (by kernel_rfl) rfl ?_
    refine s3 ?_
    refine D_idxA (X:=a0_2) GC.none (OpV.t rfl) (OpV.t rfl) el27.h (RdT.old h0.2) (fun _=>hy8) ?_
    refine s1 ?_
    refine D_load GC.none (OpV.t rfl) (fun hg=>RdT.at (RdT.old h0.2) (hy8).2) one3.h rfl ?_
    refine s14 ?_
    refine kp [2,3,4,6,7,40] ?_
    refine W_cond rfl (fun q9=>?_) (fun q9=>?_)
    ·replace hp:=cond_t q9 hp
     refine W_exit ?_
     refine s5 ?_
     exact ⟨IntKind.wrap .i64 (v6_0+1),sb,(.sub ms),some_eq hp⟩
    ·replace hp:=cond_f q9 hp
     refine s3 ?_
     replace hp:=idx_bind hp;obtain ⟨u10,hy10,hp⟩:=hp
     obtain rfl:(u8_1,u8_2,u8_3)=u10:=Option.some.inj (hy8.2.symm.trans hy10.2)
     refine W_D0 [49] mix (by kernel_rfl) rfl ?_
     refine s3 ?_
     refine D_idxA (X:=a0_2) GC.none (OpV.t rfl) (OpV.t rfl) el27.h (RdT.old h0.2) (fun _=>hy8) ?_
     refine s1 ?_
     refine D_load GC.none (OpV.t rfl) (fun hg=>RdT.at (RdT.old h0.2) (hy8).2) one3.h rfl ?_
     refine s14 ?_
     refine kp [2,3,4,6,7,49] ?_
     refine W_cond rfl (fun q11=>?_) (fun q11=>?_)
     ·replace hp:=cond_t q11 hp
      refine s1 ?_
      replace hp:=idx_bind hp;obtain ⟨u12,hy12,hp⟩:=hp
      obtain rfl:(u8_1,u8_2,u8_3)=u12:=Option.some.inj (hy8.2.symm.trans hy12.2)
      refine W_DS (pre:=[_,_,_,_,_,_,_,_,_]) (suf:=[]) [5] [blk bk4 _ _] _ pc mix (by kernel_rfl) (by kernel_rfl) rfl ?_
      refine s4 ?_
      refine D_idxA (X:=a0_2) GC.none (OpV.t rfl) (OpV.t rfl) el27.h (RdT.old h0.2) (fun _=>hy8) ?_
      refine s1 ?_
      refine D_load GC.none (OpV.t rfl) (fun hg=>RdT.at (RdT.old h0.2) (hy8).2) one9.h rfl ?_
      refine D_storeW (OpV.t rfl) (OpV.t rfl) pk (by exact agg43.h) (by rfl) ocs ?_
      refine s13 ?_
      replace hp:=map_any hp;obtain ⟨a13,hp,z_13⟩:=hp
      obtain rfl:=hx6 _ z_13
      obtain rfl:=sj hp
      refine jW ((y3x0_1,y3x0_2):T_State) ?_
      refine s1 ?_
      refine res2 rfl (ResOK.cell rfl mm (by exact agg43.h)) (ResOK.tmp rfl) ⟨(y3x0_1,y3x0_2),u8_3,rfl,rfl,rfl⟩ ms
     ·replace hp:=cond_f q11 hp
      refine s2 ?_
      replace hp:=idx_bind hp;obtain ⟨u14,hy14,hp⟩:=hp
      obtain rfl:(u8_1,u8_2,u8_3)=u14:=Option.some.inj (hy8.2.symm.trans hy14.2)
      refine W_D0 [65] mix (by kernel_rfl) rfl ?_
      refine s3 ?_
      refine D_idxA (X:=a0_2) GC.none (OpV.t rfl) (OpV.t rfl) el27.h (RdT.old h0.2) (fun _=>hy8) ?_
      refine s1 ?_
      refine D_load GC.none (OpV.t rfl) (fun hg=>RdT.at (RdT.old h0.2) (hy8).2) one3.h rfl ?_
      refine s14 ?_
      refine kp [2,3,4,6,7,65] ?_
      refine W_cond rfl (fun q15=>?_) (fun q15=>?_)
      ·replace hp:=cond_t q15 hp
       refine s6 ?_
       replace hp:=map_any hp;obtain ⟨a16,hp,z_16⟩:=hp
       obtain rfl:=hx6 _ z_16
       obtain rfl:=sj hp
       refine jW ((y3x0_1,y3x0_2):T_State) ?_
       refine s1 ?_
       refine res2 rfl (ResOK.cell rfl mm (by exact agg43.h)) (ResOK.tmp rfl) ⟨(y3x0_1,y3x0_2),(ByteArray.mk #[111,108,100]),rfl,rfl,rfl⟩ ms
      ·replace hp:=cond_f q15 hp
       refine s6 ?_
       exact ⟨IntKind.wrap .i64 (v6_0+1),sb,(.sub ms),some_eq hp⟩
   ·replace hp:=cond_f q7 hp
    refine W_exit ?_
    replace hp:=map_any hp;obtain ⟨a17,hp,z_17⟩:=hp
    obtain rfl:=hx6 _ z_17
    refine s3 ?_
    refine L_loadW rfl rfl (RdC.seg (RdC.blk mm) 0 1 rfl) (by exact agg41.h) ?_
    refine s1 ?_
    replace hp:=ba hp;obtain ⟨y18,hy18,hp⟩:=hp
    refine L_callR rfl fn114.h rfl (by exact fun w hw=>s_CatDo_walk w y3x0_1 (a1_1,a1_2,a1_3,a1_4,a1_5,a1_6,a1_7,a1_8) (RdT.now (RdT.tree mm) hw) (RdT.now (RdT.pair RdT.int (RdT.pair RdT.int (RdT.pair RdT.int (RdT.pair RdT.str (RdT.pair RdT.str (RdT.pair RdT.str (RdT.pair RdT.int (RdT.old h1.2.2.2.2.2.2.2)))))))) hw) _ hy18) ?_
    rintro _ _ ⟨y18x0,y18x1,rfl,rfl,rfl⟩
    refine sc ?_
    replace hp:=dd hp
    refine s3 ?_
    refine al fun bk8=>?_
    refine s7 ?_
    refine L_storeA (fo:=0) rfl rfl pk (by exact agg41.h) (Nat.le_of_ble_eq_true rfl) ocs rfl ?_
    refine s10 ?_
    refine L_build (xs:=[(0,.tmp 79),(1,.tmp 81),(2,.tmp 82)]) (cs:=[.int .i64 a1_2,.int .i64 a1_3,.string y18x1]) rfl rfl bld71.h rfl ?_
    replace hp:=ba hp;obtain ⟨y19,hy19,hp⟩:=hp
    refine L_callR rfl fn115.h rfl (by exact fun w hw=>s_l16Put_walk w y3x0_2 (a1_2,a1_3,y18x1) (RdT.now (RdT.tree mm) hw) (RdT.now (RdT.pair RdT.int (RdT.pair RdT.int RdT.str)) hw) _ hy19) ?_
    rintro _ _ ⟨y19x0,rfl,rfl,rfl⟩
    refine sc ?_
    replace hp:=dd hp
    refine s10 ?_
    obtain rfl:=sj hp
    refine jW ((y18x0,y19x0):T_State) ?_
    refine s1 ?_
    refine res2 rfl (ResOK.cell rfl mm (by exact agg43.h)) (ResOK.tmp rfl) ⟨(y18x0,y19x0),y18x1,rfl,rfl,rfl⟩ ms
noncomputable def s_StatePlay (a0:List D_Cmd):Option (D_State×(List ByteArray)) :=
 Option.bind (some ([]:List ByteArray)) (fun y2=>whileP (fun s3:(List ByteArray)×Int×(List D_CSet)×(List D_Said)=>cond (decide (s3.2.1 < (a0.length:Int))) (Option.bind (idx a0 s3.2.1) (fun y5=>Option.bind (s_StateDo (s3.2.2.1,s3.2.2.2) (y5.1,y5.2.1,y5.2.2.1,y5.2.2.2.1,y5.2.2.2.2.1,y5.2.2.2.2.2.1,y5.2.2.2.2.2.2.1,y5.2.2.2.2.2.2.2)) (fun y6=>Option.bind (appP s3.1 [y6.2]) (fun y9=>some (.inl ((y9,IntKind.wrap .i64 (s3.2.1+1),y6.1.1,y6.1.2))))))) (Option.map .inr (some ((s3.2.2.1,s3.2.2.2),s3.1)))) (y2,0,([]:List D_CSet),([]:List D_Said)))
theorem s_StatePlay_walk (w:World) (a0:TL T_Cmd) (h0:GT.rd w [] a0) (r:D_State×(List ByteArray)) (hp:s_StatePlay (GT.dat a0)=some r):Spec Tryz.prog 29 [(TL.hdr a0)].toArray w [] (fun v M=>∃ (x0:T_State) (x1:TL ByteArray),v=.tuple #[.agg (GT.cells x0).toArray,(TL.hdr x1)]∧(GT.dat x0,GT.dat x1)=r∧M=[treeH x0,treeH x1]):=by
 refine Spec.intro Tryz.func29 rfl Tryz.ntmps29 rfl ?_
 unfold s_StatePlay at hp
 replace hp:=dd hp
 refine s2 ?_
 refine al fun bk2=>?_
 refine L_assign (v:=(TL.hdr (TL.nil ByteArray 0))) rfl rfl ?_
 refine s3 ?_
 refine L_build (xs:=[]) (cs:=[(TL.hdr (TL.nil T_CSet 0)),(TL.hdr (TL.nil T_Said 0))]) rfl rfl bld43.h rfl ?_
 refine al fun bk4=>?_
 refine s4 ?_
 replace hp:=ba hp;obtain ⟨y2,hy2,hp⟩:=hp
 refine L_mk0 ByteArray rfl el65.h (fun X1 hdX1=>?_)
 obtain rfl:GT.dat X1=y2:=hdX1.trans (Option.some.inj hy2)
 clear hy2 hdX1
 refine s8 ?_
 refine W_conv (M':=treeH (TL.nil T_CSet 0)::_) (fun w h=>addNilT (τ:=T_CSet) 0 h) ?_
 refine W_conv (M':=treeH (TL.nil T_Said 0)::_) (fun w h=>addNilT (τ:=T_Said) 0 h) ?_
 refine W_while (σ:=(TL ByteArray)×Int×(TL T_CSet)×(TL T_Said)) GT.dat (fun ((v3_0,v3_1,v3_2,v3_3):(TL ByteArray)×Int×(TL T_CSet)×(TL T_Said))=>[(5,(TL.hdr v3_0)),(6,.int .i64 v3_1)]) (fun ((v3_0,v3_1,v3_2,v3_3):(TL ByteArray)×Int×(TL T_CSet)×(TL T_Said))=>[blk bk4 [(TL.hdr v3_2),(TL.hdr v3_3)] 43,treeH v3_0,treeH v3_2,treeH v3_3]) [(0,_),(2,_),(4,_)] [blk bk2 _ _] (X1,0,(TL.nil T_CSet 0),(TL.nil T_Said 0)) hp sb ms ?_
 clear hp
 rintro ⟨v3_0,v3_1,v3_2,v3_3⟩ x3 hp hx3
 replace hp:=dd hp
 refine kq [0,2,4,5,6] ?_
 refine s8 ?_
 refine kp [0,2,4,5,6,14] ?_
 refine W_cond rfl (fun q4=>?_) (fun q4=>?_)
 ·replace hp:=cond_t q4 hp
  refine s4 ?_
  replace hp:=idx_bind hp;obtain ⟨⟨u5_1,u5_2,u5_3,u5_4,u5_5,u5_6,u5_7,u5_8⟩,hy5,hp⟩:=hp
  replace hp:=ba hp;obtain ⟨y6,hy6,hp⟩:=hp
  refine W_D0 [7,8] mix (by kernel_rfl) rfl ?_
  refine s3 ?_
  refine D_idxA (X:=a0) GC.none (OpV.t rfl) (OpV.t rfl) el63.h (RdT.old h0) (fun _=>hy5) ?_
  refine D_loadW GC.none (OpV.t rfl) (fun hg=>RdT.at (RdT.old h0) (hy5).2) (by exact agg69.h) ?_
  refine D_call1R (fun v M=>∃ (x0:T_State) (x1:ByteArray),v=.tuple #[.agg (GT.cells x0).toArray,.string x1]∧(GT.dat x0,GT.dat x1)=y6∧M=[treeH x0]) fn68.h (OpVs.cons (OpV.t rfl) (OpVs.cons (OpV.t rfl) (OpVs.nil))) (by exact fun w F hF hM=>s_StateDo_walk w (v3_2,v3_3) (u5_1,u5_2,u5_3,u5_4,u5_5,u5_6,u5_7,u5_8) (RdT.nowS (RdT.pair (RdT.tree mm) (RdT.tree mm)) hF hM) (RdT.nowS (RdT.pair RdT.int (RdT.pair RdT.int (RdT.pair RdT.int (RdT.pair RdT.str (RdT.pair RdT.str (RdT.pair RdT.str (RdT.pair RdT.int (RdT.snd (RdT.snd (RdT.snd (RdT.snd (RdT.snd (RdT.snd (RdT.snd (RdT.of (RdT.old h0) (hy5).2))))))))))))))) hF hM) _ hy6) ?_
  refine D_moveC (t:=23) rfl (by kernel_rfl) ?_
  refine D_extractC (t:=17) (AggV (τ:=T_State) y6.1) rfl (by rintro v M ⟨x0,x1,rfl,hd,rfl⟩;subst hd;exact ⟨_,_,rfl,rfl,x0,rfl,rfl,rfl⟩) (by kernel_rfl) ?_
  refine D_extractW (t:=17) (.string y6.2) rfl (by rintro v M ⟨-,M',x0,x1,rfl,hd,-⟩;subst hd;exact ⟨_,rfl,rfl⟩) ?_
  refine D_alloc zero43.h ?_
  refine D_storeK (p:=7) (x:=24) rfl rfl (by exact agg43.h) rfl (by kernel_rfl) ?_
  refine s3 ?_
  refine Give_R rfl rfl ?_
  rintro _ _ ⟨bk7,X7,rfl,hdX7,rfl⟩
  try rw [← hdX7] at hp
  obtain ⟨X7_1,X7_2⟩:=X7
  refine s11 ?_
  refine sc ?_
  replace hp:=dd hp
  refine xW ((X7_1,X7_2):T_State) ?_
  refine s8 ?_
  refine L_buildSlice1 rfl rfl el65.h rfl (by decide) (by decide) rfl (fun bb29=>?_)
  replace hp:=ba hp;obtain ⟨y9,hy9,hp⟩:=hp
  refine L_app1F (X:=v3_0) (y6.2:ByteArray) rfl rfl rfl el65.h rfl rfl pk mm  hy9 (by decide) (fun X8 hdX8=>?_)
  subst hdX8
  refine s7 ?_
  exact ⟨(X8,IntKind.wrap .i64 (v3_1+1),X7_1,X7_2),sb,(.sub ms),some_eq hp⟩
 ·replace hp:=cond_f q4 hp
  refine W_exit ?_
  replace hp:=map_any hp;obtain ⟨a10,hp,z_10⟩:=hp
  obtain rfl:=hx3 _ z_10
  refine s7 ?_
  obtain rfl:=sj hp
  refine jW ((v3_2,v3_3):T_State) ?_
  refine s1 ?_
  refine res2 rfl (ResOK.cell rfl mm (by exact agg43.h)) (ResOK.tmp rfl) ⟨(v3_2,v3_3),v3_0,rfl,rfl,rfl⟩ ms
noncomputable def s_NodeState (a0:D_ENode):Option D_State :=
 Option.bind (s_ENodeOk (a0.1,a0.2.1,a0.2.2.1,a0.2.2.2)) (fun y1=>cond (!y1) (some (([]:List D_CSet),([]:List D_Said))) (Option.bind (s_ExecCmds a0.2.2.1) (fun y3=>Option.bind (s_StatePlay y3) (fun y4=>some (y4.1.1,y4.1.2)))))
theorem s_NodeState_walk (w:World) (a0:T_ENode) (h0:GT.rd w [] a0) (r:D_State) (hp:s_NodeState (GT.dat a0)=some r):Spec Tryz.prog 15 [.agg (GT.cells a0).toArray].toArray w [] (fun v M=>∃ (x0:T_State),v=.agg (GT.cells x0).toArray∧GT.dat x0=r∧M=[treeH x0]):=by
 obtain ⟨a0_1,a0_2,a0_3,a0_4⟩:=a0
 change Spec _ _ ([Value.agg #[.int .i64 a0_1,.int .i64 a0_2,(TL.hdr a0_3),(TL.hdr a0_4)]]:List Value).toArray w [] _
 refine Spec.intro Tryz.func15 rfl Tryz.ntmps15 rfl ?_
 unfold s_NodeState at hp
 replace hp:=dd hp
 refine s2 ?_
 refine bx fun bk1=>?_
 refine al fun bk2=>?_
 refine s5 ?_
 replace hp:=ba hp;obtain ⟨y1,hy1,hp⟩:=hp
 refine L_callX rfl fn27.h rfl (by exact fun w hw=>s_ENodeOk_walk w (a0_1,a0_2,a0_3,a0_4) (RdT.now (RdT.pair RdT.int (RdT.pair RdT.int (RdT.pair (RdT.old h0.2.2.1) (RdT.old h0.2.2.2)))) hw) _ hy1) ?_
 refine s2 ?_
 refine kp [1,2,7] ?_
 refine W_cond rfl (fun q2=>?_) (fun q2=>?_)
 ·replace hp:=cond_t q2 hp
  refine s2 ?_
  refine L_build (xs:=[]) (cs:=[(TL.hdr (TL.nil T_CSet 0)),(TL.hdr (TL.nil T_Said 0))]) rfl rfl bld43.h rfl ?_
  refine s2 ?_
  obtain rfl:=sj hp
  refine W_conv (M':=treeH (TL.nil T_CSet 0)::_) (fun w h=>addNilT (τ:=T_CSet) 0 h) ?_
  refine W_conv (M':=treeH (TL.nil T_Said 0)::_) (fun w h=>addNilT (τ:=T_Said) 0 h) ?_
  refine jW (((TL.nil T_CSet 0),(TL.nil T_Said 0)):T_State) ?_
  refine s1 ?_
  refine res1 rfl (ResOK.cell rfl mm (by exact agg43.h)) ⟨((TL.nil T_CSet 0),(TL.nil T_Said 0)),rfl,rfl,rfl⟩ ms
 ·replace hp:=cond_f q2 hp
  refine s5 ?_
  replace hp:=ba hp;obtain ⟨y3,hy3,hp⟩:=hp
  refine L_callR rfl fn28.h rfl (by exact fun w hw=>s_ExecCmds_walk w a0_3 (RdT.now (RdT.old h0.2.2.1) hw) _ hy3) ?_
  rintro _ _ ⟨y3x0,rfl,rfl,rfl⟩
  refine sc ?_
  replace hp:=dd hp
  replace hp:=ba hp;obtain ⟨y4,hy4,hp⟩:=hp
  refine L_callR rfl fn29.h rfl (by exact fun w hw=>s_StatePlay_walk w y3x0 (RdT.now (RdT.tree mm) hw) _ hy4) ?_
  rintro _ _ ⟨⟨y4x0_1,y4x0_2⟩,y4x1,rfl,rfl,rfl⟩
  refine sc ?_
  replace hp:=dd hp
  refine xL ((y4x0_1,y4x0_2):T_State) ?_
  refine s3 ?_
  refine al fun bk3=>?_
  refine s8 ?_
  obtain rfl:=sj hp
  refine jW ((y4x0_1,y4x0_2):T_State) ?_
  refine s1 ?_
  refine res1 rfl (ResOK.cell rfl mm (by exact agg43.h)) ⟨(y4x0_1,y4x0_2),rfl,rfl,rfl⟩ ms
end Go.Proofs.SL
namespace Go.Proofs.SL
open Go
set_option maxHeartbeats 2000000
theorem sl_Insert_implCSetimplCSet_walk (w:World) (a0:TL T_CSet) (a1:Int) (b:Nat) (x:T_CSet) (T':TypeId) (r:List D_CSet) (hp:insP (GT.dat a0) a1 (GT.dat x)=some r):Spec Tryz.prog 226 [(TL.hdr a0),.int .i64 a1,.slice (some ⟨b,0,none⟩) 1 1].toArray w [treeH a0,blk b (GT.cells x) T',treeH x] (fun v M=>∃ (x0:TL T_CSet),v=(TL.hdr x0)∧GT.dat x0=r∧M=[treeH x0]):=by
 obtain ⟨h0,h1,h2,rfl⟩:=insP_some hp
 rw [dat_els,List.length_map] at h1 h2
 obtain ⟨i,rfl⟩:=Int.eq_ofNat_of_zero_le h0
 have hi:i≤a0.els.length:=by omega
 simp only [Int.toNat_natCast]
 refine Spec.intro Tryz.func226 rfl Tryz.ntmps226 rfl ?_
 refine s8 ?_
 refine L_slc (X:=a0) (a:=(i:Int)) (b:=((GT.dat a0).length:Int)) rfl rfl rfl rfl el39.h rfl (RdT.tree mm) (if_pos ⟨by omega,by rw [dat_els,List.length_map];omega,Int.le_refl _⟩) (fun Y _ _=>?_)
 refine s4 ?_
 refine L_lenS rfl rfl el39.h ?_
 refine s8 ?_
 refine W_cond rfl (fun q0=>?_) (fun q0=>?_)
 ·exfalso;simp at q0
 ·refine s5 ?_
  rw [show ((GT.dat a0).length:Int)=(a0.els.length:Int) by rw [dat_els,List.length_map]]
  refine s9 ?_
  refine W_cond rfl (fun q1=>?_) (fun q1=>?_)
  ·have hin:i=a0.els.length:=by have:=of_decide_eq_true q1;omega
   refine s4 ?_
   refine L_app1 (X:=a0) x rfl rfl rfl el39.h rfl rfl pk mm pk (if_pos (by rw [dat_els,List.length_map];simp;omega)) (by decide) (fun X hd=>?_)
   refine s3 ?_
   refine res1 rfl (ResOK.tmp rfl) ⟨X,rfl,?_,rfl⟩ ms
   rw [hd,dat_els,hin,List.take_of_length_le (by simp),List.drop_eq_nil_of_le (by simp)]
   simp
  ·have hin:i≠a0.els.length:=by have:=of_decide_eq_false q1;omega
   have hlt:i < a0.els.length:=by omega
   refine s3 ?_
   refine W_raw (X:=a0) (fun h=>by rw [h] at hlt;simp at hlt) pk (fun fa fl fm ft=>?_)
   have hh:a0.hdr=.slice (some ⟨a0.g,0,none⟩) a0.els.length a0.cap:=by show Value.slice a0.a _ _=_;rw [fa]
   rw [hh]
   refine W_fact (φ:=b≠a0.g) (fun w h=>blk_ne pk pk h) (fun hbg=>?_)
   have hsz:GT.sz T_CSet=2:=rfl
   have hcl:(rowCells a0.els++a0.tail).length=a0.cap*2:=by rw [List.length_append,length_rowCells,hsz];exact ft
   have e8:IntKind.wrap .i64 ((a0.els.length:Int)+((1:Nat):Int))=((a0.els.length+1:Nat):Int):=by rw [wrap64_in (by unfold inR;omega)];omega
   have e9:IntKind.wrap .i64 ((i:Int)+((1:Nat):Int))=((i+1:Nat):Int):=by rw [wrap64_in (by unfold inR;omega)];omega
   refine s4 ?_
   rw [e8]
   refine s1 ?_
   refine L_capS rfl rfl el39.h ?_
   refine s2 ?_
   refine W_cond rfl (fun q2=>?_) (fun q2=>?_)
   ·have q2':a0.cap < a0.els.length+1:=by have:=of_decide_eq_true q2;omega
    refine s4 ?_
    refine L_slV (g:=a0.g) (o:=0) (n:=a0.els.length) (c:=a0.cap) (a:=0) (b:=(i:Int)) rfl rfl rfl rfl el39.h (by omega) (by omega) (by omega) ?_
    simp only [Int.toNat_natCast,Int.toNat_zero,sl0,Nat.sub_zero]
    refine s3 ?_
    rw [e8]
    refine s2 ?_
    rw [show IntKind.wrap .i64 (((a0.els.length+1:Nat):Int) - (i:Int))=((a0.els.length+1 - i:Nat):Int) by rw [wrap64_in (by unfold inR;omega)];omega]
    refine L_appMk (g:=a0.g) (n:=i) (c:=a0.cap) (k:=a0.els.length+1 - i) rfl rfl rfl el39.h und3.h mm rfl (by decide) (by decide) (by omega) (by omega) (by omega) (by rw [hcl];exact Nat.mul_le_mul_right _ (by omega)) (fun nb cp q1 q2=>?_)
    rw [show i+(a0.els.length+1 - i)=a0.els.length+1 by omega] at q1 ⊢
    refine s6 ?_
    refine L_slV (g:=nb) (o:=0) (n:=a0.els.length+1) (c:=cp) (a:=(i:Int)) (b:=((a0.els.length+1:Nat):Int)) rfl rfl rfl rfl el39.h (by omega) (by omega) (by omega) ?_
    simp only [Int.toNat_natCast,Int.toNat_zero,sl0,Nat.sub_zero]
    rw [slLt (show i < cp by omega)]
    refine s1 ?_
    generalize hcs1:(rowCells a0.els++a0.tail).take (i*2)++(List.replicate (cp - i) ([.string ByteArray.empty,.slice none 0 0]:List Value)).flatten=cs1
    have hl1:cs1.length=cp*2:=by
     rw [← hcs1,List.length_append,List.length_take,hcl]
     have h5:((List.replicate (cp - i) ([.string ByteArray.empty,.slice none 0 0]:List Value)).flatten).length=(cp - i)*2:=by simp
     rw [h5,Nat.min_eq_left (Nat.mul_le_mul_right _ (by omega)),← Nat.add_mul];congr 1;omega
    refine L_cpRaw (q:=1) (vs:=GT.cells x) rfl rfl rfl el39.h pk (by omega) (by rw [GT.len];rfl) (cells_blk (n:=(GT.cells x).length) mm (by rw [List.drop_zero,List.take_length])) (by rw [GT.len,hl1,hsz,← Nat.succ_mul];exact Nat.mul_le_mul_right _ (by omega)) (fun u hu=>GT.one x u hu) ?_
    refine s2 ?_
    refine W_DS (pre:=[_,_,_,_,_,_,_,_]) (suf:=[_]) [50,53] [] _ pc mix (by kernel_rfl) (by kernel_rfl) rfl ?_
    refine s4 ?_
    rw [e9]
    refine D_slV (g:=nb) (o:=0) (n:=a0.els.length+1) (c:=cp) (a:=((i+1:Nat):Int)) (b:=((a0.els.length+1:Nat):Int)) GC.none (OpV.t rfl) (optD.some (OpV.t rfl)) optD.none el39.h (by omega) (by omega) (by omega) ?_
    refine s2 ?_
    refine D_slV (g:=a0.g) (o:=0) (n:=a0.els.length) (c:=a0.cap) (a:=(i:Int)) (b:=((a0.els.length:Nat):Int)) GC.none (OpV.t rfl) (optD.some (OpV.t rfl)) optD.none el39.h (by omega) (by omega) (by omega) ?_
    refine s10 ?_
    simp only [Int.toNat_natCast,Int.toNat_zero,sl0,Nat.sub_zero]
    rw [slLt (show i+1 < cp by omega),slLt (show i < a0.cap by omega)]
    generalize hcs2:cs1.take (i*2)++GT.cells x++cs1.drop (i*2+(GT.cells x).length)=cs2
    have hl2:cs2.length=cp*2:=by
     have h6:i*2+2≤cp*2:=by rw [← Nat.succ_mul];exact Nat.mul_le_mul_right _ (by omega)
     rw [← hcs2];simp only [List.length_append,List.length_take,List.length_drop,GT.len,hl1,hsz];omega
    have hl3:(rowCells (a0.els.drop i)).length=(a0.els.length - i)*2:=by rw [length_rowCells,List.length_drop,hsz]
    refine L_cpRaw (q:=a0.els.length - i) (vs:=rowCells (a0.els.drop i)) rfl rfl rfl el39.h pk (by omega) hl3 (cells_blk (cs:=rowCells a0.els++a0.tail) (n:=(a0.els.length - i)*2) mm (row_seg a0.els (by omega) a0.tail)) (by rw [hl3,hl2,← Nat.add_mul];exact Nat.mul_le_mul_right _ (by omega)) (fun u hu=>rowCells_one _ u hu) ?_
    refine s6 ?_
    refine W_conv (fun w h=>els_ins i (xs:=a0.els) (x:=x) pk pk h) ?_
    have hle:(a0.els.take i++[x]++a0.els.drop i).length=a0.els.length+1:=by simp [List.length_take,List.length_drop];omega
    refine W_conv (fun w h=>raw_close (τ:=T_CSet) (g:=nb) (e:=144) (cap:=cp) (els:=a0.els.take i++[x]++a0.els.drop i) (tail:=(((List.replicate (cp - i) ([.string ByteArray.empty,.slice none 0 0]:List Value)).flatten).drop 2).drop (rowCells (a0.els.drop i)).length) (ins_new a0.els x (by omega) a0.tail _ cs1 cs2 hcs1.symm hcs2.symm) (by rw [hle];omega) q2 (by
      rw [hle,hsz];simp only [List.length_drop,hl3]
      have h5:((List.replicate (cp - i) ([.string ByteArray.empty,.slice none 0 0]:List Value)).flatten).length=(cp - i)*2:=by simp
      have h7:(cp - i)*2=cp*2 - i*2:=Nat.sub_mul _ _ _
      have h8:(a0.els.length - i)*2=a0.els.length*2 - i*2:=Nat.sub_mul _ _ _
      have h9:(a0.els.length+1)*2≤cp*2:=Nat.mul_le_mul_right _ q1
      have h10:i*2≤a0.els.length*2:=Nat.mul_le_mul_right _ (by omega)
      rw [h5];rw [Nat.add_mul] at h9 ⊢;omega) pk pk h) ?_
    refine s1 ?_
    refine res1 rfl (ResOK.tmp rfl) ⟨⟨some ⟨nb,0,none⟩,cp,144,a0.els.take i++[x]++a0.els.drop i,(((List.replicate (cp - i) ([.string ByteArray.empty,.slice none 0 0]:List Value)).flatten).drop 2).drop (rowCells (a0.els.drop i)).length⟩,?_,?_,rfl⟩ ms
    ·show Value.slice _ _ _=Value.slice _ _ _
     rw [hle]
    ·rw [dat_els,dat_els]
     simp [List.map_take,List.map_drop]
   ·have q2':a0.els.length+1≤a0.cap:=by have:=of_decide_eq_false q2;omega
    refine s7 ?_
    rw [e8]
    refine L_slV (g:=a0.g) (o:=0) (n:=a0.els.length) (c:=a0.cap) (a:=0) (b:=((a0.els.length+1:Nat):Int)) rfl rfl rfl rfl el39.h (by omega) (by omega) (by omega) ?_
    simp only [Int.toNat_natCast,Int.toNat_zero,sl0,Nat.sub_zero]
    refine s10 ?_
    rw [e9]
    refine L_slV (g:=a0.g) (o:=0) (n:=a0.els.length+1) (c:=a0.cap) (a:=((i+1:Nat):Int)) (b:=((a0.els.length+1:Nat):Int)) rfl rfl rfl rfl el39.h (by omega) (by omega) (by omega) ?_
    refine L_ovl (T:=39) (TB:=4) (cs:=GT.cells x) (ds:=rowCells a0.els++a0.tail) rfl rfl rfl Tryz.func236 (by kernel_rfl) (by kernel_rfl) (by kernel_rfl) (by kernel_rfl) el39.h mm mm hbg (by rw [hcl];omega) ?_
    refine s2 ?_
    refine W_cond rfl (fun q3=>?_) (fun q3=>?_)
    ·refine s1 ?_
     refine W_DS (pre:=[_,_,_,_,_,_,_,_]) (suf:=[_]) [73,76] [] _ pc mix (by kernel_rfl) (by kernel_rfl) rfl ?_
     refine s4 ?_
     rw [e9]
     refine D_slV (g:=a0.g) (o:=0) (n:=a0.els.length+1) (c:=a0.cap) (a:=((i+1:Nat):Int)) (b:=((a0.els.length+1:Nat):Int)) GC.none (OpV.t rfl) (optD.some (OpV.t rfl)) optD.none el39.h (by omega) (by omega) (by omega) ?_
     refine s2 ?_
     refine D_slV (g:=a0.g) (o:=0) (n:=a0.els.length+1) (c:=a0.cap) (a:=(i:Int)) (b:=((a0.els.length+1:Nat):Int)) GC.none (OpV.t rfl) (optD.some (OpV.t rfl)) optD.none el39.h (by omega) (by omega) (by omega) ?_
     refine s10 ?_
     simp only [Int.toNat_natCast,Int.toNat_zero,sl0,Nat.sub_zero]
     rw [slLt (show i+1 < a0.cap by omega),slLt (show i < a0.cap by omega)]
     have hl3:(rowCells (a0.els.drop i)).length=(a0.els.length - i)*2:=by rw [length_rowCells,List.length_drop,hsz]
     refine L_cpRaw (q:=a0.els.length - i) (vs:=rowCells (a0.els.drop i)) rfl rfl rfl el39.h pk (by omega) hl3 (cells_blk (cs:=rowCells a0.els++a0.tail) (n:=(a0.els.length - i)*2) mm (row_seg a0.els (by omega) a0.tail)) (by rw [hl3,hcl,← Nat.add_mul];exact Nat.mul_le_mul_right _ (by omega)) (fun u hu=>rowCells_one _ u hu) ?_
     generalize hcs1:(rowCells a0.els++a0.tail).take ((i+1)*2)++rowCells (a0.els.drop i)++(rowCells a0.els++a0.tail).drop ((i+1)*2+(rowCells (a0.els.drop i)).length)=cs1
     have hl1:cs1.length=a0.cap*2:=by
      have h6:(i+1)*2+(a0.els.length - i)*2≤a0.cap*2:=by rw [← Nat.add_mul];exact Nat.mul_le_mul_right _ (by omega)
      rw [← hcs1];simp only [List.length_append (bs:=rowCells (List.drop i a0.els)),List.length_append,List.length_take,List.length_drop,hl3] at hcl ⊢;omega
     refine s5 ?_
     refine L_slV (g:=a0.g) (o:=0) (n:=a0.els.length+1) (c:=a0.cap) (a:=(i:Int)) (b:=((a0.els.length+1:Nat):Int)) rfl rfl rfl rfl el39.h (by omega) (by omega) (by omega) ?_
     simp only [Int.toNat_natCast,Int.toNat_zero,sl0,Nat.sub_zero]
     rw [slLt (show i < a0.cap by omega)]
     refine s1 ?_
     refine L_cpRaw (q:=1) (vs:=GT.cells x) rfl rfl rfl el39.h pk (by omega) (by rw [GT.len];rfl) (cells_blk (n:=(GT.cells x).length) mm (by rw [List.drop_zero,List.take_length])) (by rw [GT.len,hl1,hsz,← Nat.succ_mul];exact Nat.mul_le_mul_right _ (by omega)) (fun u hu=>GT.one x u hu) ?_
     refine s6 ?_
     refine W_conv (fun w h=>els_ins i (xs:=a0.els) (x:=x) pk pk h) ?_
     have hle:(a0.els.take i++[x]++a0.els.drop i).length=a0.els.length+1:=by simp [List.length_take,List.length_drop];omega
     refine W_conv (fun w h=>raw_close (τ:=T_CSet) (g:=a0.g) (e:=a0.e) (cap:=a0.cap) (els:=a0.els.take i++[x]++a0.els.drop i) (tail:=a0.tail.drop 2) (ins_shift a0.els x hlt a0.tail cs1 (by rw [hsz];rw [hsz] at ft;have h9:(a0.els.length+1)*2≤a0.cap*2:=Nat.mul_le_mul_right _ q2';rw [Nat.add_mul] at h9;omega) hcs1.symm) (by rw [hle];omega) fm (by rw [hle,hsz];rw [hsz] at ft;simp only [List.length_drop];have h9:(a0.els.length+1)*2≤a0.cap*2:=Nat.mul_le_mul_right _ q2';rw [Nat.add_mul] at h9 ⊢;omega) pk pk h) ?_
     refine s1 ?_
     refine res1 rfl (ResOK.tmp rfl) ⟨⟨some ⟨a0.g,0,none⟩,a0.cap,a0.e,a0.els.take i++[x]++a0.els.drop i,a0.tail.drop 2⟩,?_,?_,rfl⟩ ms
     ·show Value.slice _ _ _=Value.slice _ _ _
      rw [hle]
     ·rw [dat_els,dat_els]
      simp [List.map_take,List.map_drop]
    ·exfalso;simp at q3
theorem sl_Insert_implSaidimplSaid_walk (w:World) (a0:TL T_Said) (a1:Int) (b:Nat) (x:T_Said) (T':TypeId) (r:List D_Said) (hp:insP (GT.dat a0) a1 (GT.dat x)=some r):Spec Tryz.prog 133 [(TL.hdr a0),.int .i64 a1,.slice (some ⟨b,0,none⟩) 1 1].toArray w [treeH a0,blk b (GT.cells x) T',treeH x] (fun v M=>∃ (x0:TL T_Said),v=(TL.hdr x0)∧GT.dat x0=r∧M=[treeH x0]):=by
 obtain ⟨h0,h1,h2,rfl⟩:=insP_some hp
 rw [dat_els,List.length_map] at h1 h2
 obtain ⟨i,rfl⟩:=Int.eq_ofNat_of_zero_le h0
 have hi:i≤a0.els.length:=by omega
 simp only [Int.toNat_natCast]
 refine Spec.intro Tryz.func133 rfl Tryz.ntmps133 rfl ?_
 refine s8 ?_
 refine L_slc (X:=a0) (a:=(i:Int)) (b:=((GT.dat a0).length:Int)) rfl rfl rfl rfl el27.h rfl (RdT.tree mm) (if_pos ⟨by omega,by rw [dat_els,List.length_map];omega,Int.le_refl _⟩) (fun Y _ _=>?_)
 refine s4 ?_
 refine L_lenS rfl rfl el27.h ?_
 refine s8 ?_
 refine W_cond rfl (fun q0=>?_) (fun q0=>?_)
 ·exfalso;simp at q0
 ·refine s5 ?_
  rw [show ((GT.dat a0).length:Int)=(a0.els.length:Int) by rw [dat_els,List.length_map]]
  refine s9 ?_
  refine W_cond rfl (fun q1=>?_) (fun q1=>?_)
  ·have hin:i=a0.els.length:=by have:=of_decide_eq_true q1;omega
   refine s4 ?_
   refine L_app1 (X:=a0) x rfl rfl rfl el27.h rfl rfl pk mm pk (if_pos (by rw [dat_els,List.length_map];simp;omega)) (by decide) (fun X hd=>?_)
   refine s3 ?_
   refine res1 rfl (ResOK.tmp rfl) ⟨X,rfl,?_,rfl⟩ ms
   rw [hd,dat_els,hin,List.take_of_length_le (by simp),List.drop_eq_nil_of_le (by simp)]
   simp
  ·have hin:i≠a0.els.length:=by have:=of_decide_eq_false q1;omega
   have hlt:i < a0.els.length:=by omega
   refine s3 ?_
   refine W_raw (X:=a0) (fun h=>by rw [h] at hlt;simp at hlt) pk (fun fa fl fm ft=>?_)
   have hh:a0.hdr=.slice (some ⟨a0.g,0,none⟩) a0.els.length a0.cap:=by show Value.slice a0.a _ _=_;rw [fa]
   rw [hh]
   refine W_fact (φ:=b≠a0.g) (fun w h=>blk_ne pk pk h) (fun hbg=>?_)
   have hsz:GT.sz T_Said=3:=rfl
   have hcl:(rowCells a0.els++a0.tail).length=a0.cap*3:=by rw [List.length_append,length_rowCells,hsz];exact ft
   have e8:IntKind.wrap .i64 ((a0.els.length:Int)+((1:Nat):Int))=((a0.els.length+1:Nat):Int):=by rw [wrap64_in (by unfold inR;omega)];omega
   have e9:IntKind.wrap .i64 ((i:Int)+((1:Nat):Int))=((i+1:Nat):Int):=by rw [wrap64_in (by unfold inR;omega)];omega
   refine s4 ?_
   rw [e8]
   refine s1 ?_
   refine L_capS rfl rfl el27.h ?_
   refine s2 ?_
   refine W_cond rfl (fun q2=>?_) (fun q2=>?_)
   ·have q2':a0.cap < a0.els.length+1:=by have:=of_decide_eq_true q2;omega
    refine s4 ?_
    refine L_slV (g:=a0.g) (o:=0) (n:=a0.els.length) (c:=a0.cap) (a:=0) (b:=(i:Int)) rfl rfl rfl rfl el27.h (by omega) (by omega) (by omega) ?_
    simp only [Int.toNat_natCast,Int.toNat_zero,sl0,Nat.sub_zero]
    refine s3 ?_
    rw [e8]
    refine s2 ?_
    rw [show IntKind.wrap .i64 (((a0.els.length+1:Nat):Int) - (i:Int))=((a0.els.length+1 - i:Nat):Int) by rw [wrap64_in (by unfold inR;omega)];omega]
    refine L_appMk (g:=a0.g) (n:=i) (c:=a0.cap) (k:=a0.els.length+1 - i) rfl rfl rfl el27.h und3.h mm rfl (by decide) (by decide) (by omega) (by omega) (by omega) (by rw [hcl];exact Nat.mul_le_mul_right _ (by omega)) (fun nb cp q1 q2=>?_)
    rw [show i+(a0.els.length+1 - i)=a0.els.length+1 by omega] at q1 ⊢
    refine s6 ?_
    refine L_slV (g:=nb) (o:=0) (n:=a0.els.length+1) (c:=cp) (a:=(i:Int)) (b:=((a0.els.length+1:Nat):Int)) rfl rfl rfl rfl el27.h (by omega) (by omega) (by omega) ?_
    simp only [Int.toNat_natCast,Int.toNat_zero,sl0,Nat.sub_zero]
    rw [slLt (show i < cp by omega)]
    refine s1 ?_
    generalize hcs1:(rowCells a0.els++a0.tail).take (i*3)++(List.replicate (cp - i) ([.int .i64 0,.int .i64 0,.string ByteArray.empty]:List Value)).flatten=cs1
    have hl1:cs1.length=cp*3:=by
     rw [← hcs1,List.length_append,List.length_take,hcl]
     have h5:((List.replicate (cp - i) ([.int .i64 0,.int .i64 0,.string ByteArray.empty]:List Value)).flatten).length=(cp - i)*3:=by simp
     rw [h5,Nat.min_eq_left (Nat.mul_le_mul_right _ (by omega)),← Nat.add_mul];congr 1;omega
    refine L_cpRaw (q:=1) (vs:=GT.cells x) rfl rfl rfl el27.h pk (by omega) (by rw [GT.len];rfl) (cells_blk (n:=(GT.cells x).length) mm (by rw [List.drop_zero,List.take_length])) (by rw [GT.len,hl1,hsz,← Nat.succ_mul];exact Nat.mul_le_mul_right _ (by omega)) (fun u hu=>GT.one x u hu) ?_
    refine s2 ?_
    refine W_DS (pre:=[_,_,_,_,_,_,_,_]) (suf:=[_]) [50,53] [] _ pc mix (by kernel_rfl) (by kernel_rfl) rfl ?_
    refine s4 ?_
    rw [e9]
    refine D_slV (g:=nb) (o:=0) (n:=a0.els.length+1) (c:=cp) (a:=((i+1:Nat):Int)) (b:=((a0.els.length+1:Nat):Int)) GC.none (OpV.t rfl) (optD.some (OpV.t rfl)) optD.none el27.h (by omega) (by omega) (by omega) ?_
    refine s2 ?_
    refine D_slV (g:=a0.g) (o:=0) (n:=a0.els.length) (c:=a0.cap) (a:=(i:Int)) (b:=((a0.els.length:Nat):Int)) GC.none (OpV.t rfl) (optD.some (OpV.t rfl)) optD.none el27.h (by omega) (by omega) (by omega) ?_
    refine s10 ?_
    simp only [Int.toNat_natCast,Int.toNat_zero,sl0,Nat.sub_zero]
    rw [slLt (show i+1 < cp by omega),slLt (show i < a0.cap by omega)]
    generalize hcs2:cs1.take (i*3)++GT.cells x++cs1.drop (i*3+(GT.cells x).length)=cs2
    have hl2:cs2.length=cp*3:=by
     have h6:i*3+3≤cp*3:=by rw [← Nat.succ_mul];exact Nat.mul_le_mul_right _ (by omega)
     rw [← hcs2];simp only [List.length_append,List.length_take,List.length_drop,GT.len,hl1,hsz];omega
    have hl3:(rowCells (a0.els.drop i)).length=(a0.els.length - i)*3:=by rw [length_rowCells,List.length_drop,hsz]
    refine L_cpRaw (q:=a0.els.length - i) (vs:=rowCells (a0.els.drop i)) rfl rfl rfl el27.h pk (by omega) hl3 (cells_blk (cs:=rowCells a0.els++a0.tail) (n:=(a0.els.length - i)*3) mm (row_seg a0.els (by omega) a0.tail)) (by rw [hl3,hl2,← Nat.add_mul];exact Nat.mul_le_mul_right _ (by omega)) (fun u hu=>rowCells_one _ u hu) ?_
    refine s6 ?_
    refine W_conv (fun w h=>els_ins i (xs:=a0.els) (x:=x) pk pk h) ?_
    have hle:(a0.els.take i++[x]++a0.els.drop i).length=a0.els.length+1:=by simp [List.length_take,List.length_drop];omega
    refine W_conv (fun w h=>raw_close (τ:=T_Said) (g:=nb) (e:=71) (cap:=cp) (els:=a0.els.take i++[x]++a0.els.drop i) (tail:=(((List.replicate (cp - i) ([.int .i64 0,.int .i64 0,.string ByteArray.empty]:List Value)).flatten).drop 3).drop (rowCells (a0.els.drop i)).length) (ins_new a0.els x (by omega) a0.tail _ cs1 cs2 hcs1.symm hcs2.symm) (by rw [hle];omega) q2 (by
      rw [hle,hsz];simp only [List.length_drop,hl3]
      have h5:((List.replicate (cp - i) ([.int .i64 0,.int .i64 0,.string ByteArray.empty]:List Value)).flatten).length=(cp - i)*3:=by simp
      have h7:(cp - i)*3=cp*3 - i*3:=Nat.sub_mul _ _ _
      have h8:(a0.els.length - i)*3=a0.els.length*3 - i*3:=Nat.sub_mul _ _ _
      have h9:(a0.els.length+1)*3≤cp*3:=Nat.mul_le_mul_right _ q1
      have h10:i*3≤a0.els.length*3:=Nat.mul_le_mul_right _ (by omega)
      rw [h5];rw [Nat.add_mul] at h9 ⊢;omega) pk pk h) ?_
    refine s1 ?_
    refine res1 rfl (ResOK.tmp rfl) ⟨⟨some ⟨nb,0,none⟩,cp,71,a0.els.take i++[x]++a0.els.drop i,(((List.replicate (cp - i) ([.int .i64 0,.int .i64 0,.string ByteArray.empty]:List Value)).flatten).drop 3).drop (rowCells (a0.els.drop i)).length⟩,?_,?_,rfl⟩ ms
    ·show Value.slice _ _ _=Value.slice _ _ _
     rw [hle]
    ·rw [dat_els,dat_els]
     simp [List.map_take,List.map_drop]
   ·have q2':a0.els.length+1≤a0.cap:=by have:=of_decide_eq_false q2;omega
    refine s7 ?_
    rw [e8]
    refine L_slV (g:=a0.g) (o:=0) (n:=a0.els.length) (c:=a0.cap) (a:=0) (b:=((a0.els.length+1:Nat):Int)) rfl rfl rfl rfl el27.h (by omega) (by omega) (by omega) ?_
    simp only [Int.toNat_natCast,Int.toNat_zero,sl0,Nat.sub_zero]
    refine s10 ?_
    rw [e9]
    refine L_slV (g:=a0.g) (o:=0) (n:=a0.els.length+1) (c:=a0.cap) (a:=((i+1:Nat):Int)) (b:=((a0.els.length+1:Nat):Int)) rfl rfl rfl rfl el27.h (by omega) (by omega) (by omega) ?_
    refine L_ovl (T:=27) (TB:=4) (cs:=GT.cells x) (ds:=rowCells a0.els++a0.tail) rfl rfl rfl Tryz.func197 (by kernel_rfl) (by kernel_rfl) (by kernel_rfl) (by kernel_rfl) el27.h mm mm hbg (by rw [hcl];omega) ?_
    refine s2 ?_
    refine W_cond rfl (fun q3=>?_) (fun q3=>?_)
    ·refine s1 ?_
     refine W_DS (pre:=[_,_,_,_,_,_,_,_]) (suf:=[_]) [73,76] [] _ pc mix (by kernel_rfl) (by kernel_rfl) rfl ?_
     refine s4 ?_
     rw [e9]
     refine D_slV (g:=a0.g) (o:=0) (n:=a0.els.length+1) (c:=a0.cap) (a:=((i+1:Nat):Int)) (b:=((a0.els.length+1:Nat):Int)) GC.none (OpV.t rfl) (optD.some (OpV.t rfl)) optD.none el27.h (by omega) (by omega) (by omega) ?_
     refine s2 ?_
     refine D_slV (g:=a0.g) (o:=0) (n:=a0.els.length+1) (c:=a0.cap) (a:=(i:Int)) (b:=((a0.els.length+1:Nat):Int)) GC.none (OpV.t rfl) (optD.some (OpV.t rfl)) optD.none el27.h (by omega) (by omega) (by omega) ?_
     refine s10 ?_
     simp only [Int.toNat_natCast,Int.toNat_zero,sl0,Nat.sub_zero]
     rw [slLt (show i+1 < a0.cap by omega),slLt (show i < a0.cap by omega)]
     have hl3:(rowCells (a0.els.drop i)).length=(a0.els.length - i)*3:=by rw [length_rowCells,List.length_drop,hsz]
     refine L_cpRaw (q:=a0.els.length - i) (vs:=rowCells (a0.els.drop i)) rfl rfl rfl el27.h pk (by omega) hl3 (cells_blk (cs:=rowCells a0.els++a0.tail) (n:=(a0.els.length - i)*3) mm (row_seg a0.els (by omega) a0.tail)) (by rw [hl3,hcl,← Nat.add_mul];exact Nat.mul_le_mul_right _ (by omega)) (fun u hu=>rowCells_one _ u hu) ?_
     generalize hcs1:(rowCells a0.els++a0.tail).take ((i+1)*3)++rowCells (a0.els.drop i)++(rowCells a0.els++a0.tail).drop ((i+1)*3+(rowCells (a0.els.drop i)).length)=cs1
     have hl1:cs1.length=a0.cap*3:=by
      have h6:(i+1)*3+(a0.els.length - i)*3≤a0.cap*3:=by rw [← Nat.add_mul];exact Nat.mul_le_mul_right _ (by omega)
      rw [← hcs1];simp only [List.length_append (bs:=rowCells (List.drop i a0.els)),List.length_append,List.length_take,List.length_drop,hl3] at hcl ⊢;omega
     refine s5 ?_
     refine L_slV (g:=a0.g) (o:=0) (n:=a0.els.length+1) (c:=a0.cap) (a:=(i:Int)) (b:=((a0.els.length+1:Nat):Int)) rfl rfl rfl rfl el27.h (by omega) (by omega) (by omega) ?_
     simp only [Int.toNat_natCast,Int.toNat_zero,sl0,Nat.sub_zero]
     rw [slLt (show i < a0.cap by omega)]
     refine s1 ?_
     refine L_cpRaw (q:=1) (vs:=GT.cells x) rfl rfl rfl el27.h pk (by omega) (by rw [GT.len];rfl) (cells_blk (n:=(GT.cells x).length) mm (by rw [List.drop_zero,List.take_length])) (by rw [GT.len,hl1,hsz,← Nat.succ_mul];exact Nat.mul_le_mul_right _ (by omega)) (fun u hu=>GT.one x u hu) ?_
     refine s6 ?_
     refine W_conv (fun w h=>els_ins i (xs:=a0.els) (x:=x) pk pk h) ?_
     have hle:(a0.els.take i++[x]++a0.els.drop i).length=a0.els.length+1:=by simp [List.length_take,List.length_drop];omega
     refine W_conv (fun w h=>raw_close (τ:=T_Said) (g:=a0.g) (e:=a0.e) (cap:=a0.cap) (els:=a0.els.take i++[x]++a0.els.drop i) (tail:=a0.tail.drop 3) (ins_shift a0.els x hlt a0.tail cs1 (by rw [hsz];rw [hsz] at ft;have h9:(a0.els.length+1)*3≤a0.cap*3:=Nat.mul_le_mul_right _ q2';rw [Nat.add_mul] at h9;omega) hcs1.symm) (by rw [hle];omega) fm (by rw [hle,hsz];rw [hsz] at ft;simp only [List.length_drop];have h9:(a0.els.length+1)*3≤a0.cap*3:=Nat.mul_le_mul_right _ q2';rw [Nat.add_mul] at h9 ⊢;omega) pk pk h) ?_
     refine s1 ?_
     refine res1 rfl (ResOK.tmp rfl) ⟨⟨some ⟨a0.g,0,none⟩,a0.cap,a0.e,a0.els.take i++[x]++a0.els.drop i,a0.tail.drop 3⟩,?_,?_,rfl⟩ ms
     ·show Value.slice _ _ _=Value.slice _ _ _
      rw [hle]
     ·rw [dat_els,dat_els]
      simp [List.map_take,List.map_drop]
    ·exfalso;simp at q3
theorem sl_Delete_implCSetimplCSet_walk (w:World) (a0:TL T_CSet) (a1 a2:Int) (r:List D_CSet) (hp:delP (GT.dat a0) a1 a2=some r):Spec Tryz.prog 192 [(TL.hdr a0),.int .i64 a1,.int .i64 a2].toArray w [treeH a0] (fun v M=>∃ (x0:TL T_CSet),v=(TL.hdr x0)∧GT.dat x0=r∧M=[treeH x0]):=by
 refine Spec.intro Tryz.func192 rfl Tryz.ntmps192 rfl ?_
 unfold delP at hp
 split at hp
 rotate_left
 ·cases hp
 rename_i hb
 obtain rfl:=sj hp
 obtain ⟨h0,h1,h2⟩:=hb
 rw [dat_els,List.length_map] at h2
 obtain ⟨i,rfl⟩:=Int.eq_ofNat_of_zero_le h0
 obtain ⟨j,rfl⟩:=Int.eq_ofNat_of_zero_le (show 0≤a2 by omega)
 simp only [Int.toNat_natCast]
 have hij:i < j:=by omega
 have hjl:j≤a0.els.length:=by omega
 refine W_raw (X:=a0) (fun h=>by rw [h] at hjl;simp at hjl;omega) pk (fun fa fl fm ft=>?_)
 have hsz:GT.sz T_CSet=2:=rfl
 rw [hsz] at ft
 have hcl:(rowCells a0.els++a0.tail).length=a0.cap*2:=by rw [List.length_append,length_rowCells,hsz];exact ft
 have hone:∀ u,u∈rowCells a0.els++a0.tail→True:=fun _ _=>trivial
 have hh:a0.hdr=.slice (some ⟨a0.g,0,none⟩) a0.els.length a0.cap:=by show Value.slice a0.a _ _=_;rw [fa]
 rw [hh]
 refine s10 ?_
 refine L_lenS rfl rfl el39.h ?_
 refine L_sl3 rfl rfl rfl rfl rfl el39.h (by omega) (by omega) (by omega) (by omega) (fun _=>?_)
 refine s8 ?_
 refine W_cond rfl (fun hc=>?_) (fun hc=>?_)
 ·exfalso;simp at hc;omega
 refine s4 ?_
 refine L_lenS rfl rfl el39.h ?_
 refine s3 ?_
 refine W_DS (pre:=[_,_,_,_,_,_]) (suf:=[_,_]) [22,25] [] _ pc mix (by kernel_rfl) (by kernel_rfl) rfl ?_
 refine s2 ?_
 refine D_slV (g:=a0.g) (o:=0) (n:=a0.els.length) (c:=a0.cap) (a:=0) (b:=(i:Int)) GC.none (OpV.t rfl) optD.none (optD.some (OpV.t rfl)) el39.h (by omega) (by omega) (by omega) ?_
 refine s2 ?_
 refine D_slV (g:=a0.g) (o:=0) (n:=a0.els.length) (c:=a0.cap) (a:=(j:Int)) (b:=(a0.els.length:Int)) GC.none (OpV.t rfl) (optD.some (OpV.t rfl)) optD.none el39.h (by omega) (by omega) (by omega) ?_
 refine s8 ?_
 simp only [Int.toNat_natCast,Int.toNat_zero,sl0,Nat.sub_zero]
 have hseg:=seg_drop (X:=a0) (j:=j) (sz:=2) rfl hjl fl
 have e1:i*2+(a0.els.length - j)*2≤a0.cap*2:=by rw [← Nat.add_mul];exact Nat.mul_le_mul_right _ (by omega)
 refine L_appRaw (n:=i) (m:=a0.els.length - j) (o:=slA 0 a0.cap j 2) rfl rfl rfl el39.h pk (by omega) (by
  rw [hcl];unfold slA;split
  ·have:a0.els.length - j=0:=by omega
   rw [this];omega
  ·rw [Nat.zero_add,← Nat.add_mul];exact Nat.mul_le_mul_right _ (by omega)) (by rw [hcl];exact e1) (by rw [hseg];exact fun u hu=>rowCells_one _ u hu) ?_
 rw [hseg]
 generalize hcs:(rowCells a0.els++a0.tail).take (i*2)++rowCells (a0.els.drop j)++(rowCells a0.els++a0.tail).drop (i*2+(a0.els.length - j)*2)=cs
 have hcsl:cs.length=a0.cap*2:=by
  rw [← hcs]
  simp only [List.length_append,List.length_take,List.length_drop,length_rowCells,hsz] at hcl ⊢
  omega
 refine s6 ?_
 refine L_lenS rfl rfl el39.h ?_
 refine s1 ?_
 refine L_slV (g:=a0.g) (o:=0) (n:=i+(a0.els.length - j)) (c:=a0.cap) (a:=((i+(a0.els.length - j):Nat):Int)) (b:=(a0.els.length:Int)) rfl rfl rfl rfl el39.h (by omega) (by omega) (by omega) ?_
 simp only [Int.toNat_natCast]
 rw [slLt (show i+(a0.els.length - j) < a0.cap by omega)]
 refine L_clrRaw rfl el39.h rfl (allOne rfl) pk (by rw [hcsl,← Nat.add_mul];exact Nat.mul_le_mul_right _ (by omega)) (by omega) ?_
 rw [del_cells (sz:=2) (List.flatten _) (show GT.sz T_CSet=2 from rfl) rfl hij hjl cs hcs.symm]
 refine s6 ?_
 refine W_conv (fun w h=>els_sub (perm_del a0.els i j (by omega)) pk h) ?_
 have hle:(a0.els.take i++a0.els.drop j).length=i+(a0.els.length - j):=by
  rw [List.length_append,List.length_take,List.length_drop,Nat.min_eq_left (by omega)]
 have htl:((List.replicate (a0.els.length - (i+(a0.els.length - j))) ([.string ByteArray.empty,.slice none 0 0]:List Value)).flatten++a0.tail).length=(a0.els.length - (i+(a0.els.length - j)))*2+a0.tail.length:=by
  simp
 refine W_conv (fun w h=>raw_close (τ:=T_CSet) (g:=a0.g) (e:=a0.e) (cap:=a0.cap) (els:=a0.els.take i++a0.els.drop j) (tail:=(List.replicate (a0.els.length - (i+(a0.els.length - j))) ([.string ByteArray.empty,.slice none 0 0]:List Value)).flatten++a0.tail) rfl (by rw [hle];omega) fm (by
  rw [hle,htl,hsz]
  have h3:(i+(a0.els.length - j))*2+(a0.els.length - (i+(a0.els.length - j)))*2=a0.els.length*2:=by rw [← Nat.add_mul];congr 1;omega
  omega) pk pk h) ?_
 refine s1 ?_
 refine res1 rfl (ResOK.tmp rfl) ⟨⟨some ⟨a0.g,0,none⟩,a0.cap,a0.e,a0.els.take i++a0.els.drop j,(List.replicate (a0.els.length - (i+(a0.els.length - j))) ([.string ByteArray.empty,.slice none 0 0]:List Value)).flatten++a0.tail⟩,?_,?_,rfl⟩ ms
 ·show Value.slice _ _ _=Value.slice _ _ _
  rw [hle]
 ·rw [dat_els,dat_els]
  simp [List.map_take,List.map_drop]
end Go.Proofs.SL
