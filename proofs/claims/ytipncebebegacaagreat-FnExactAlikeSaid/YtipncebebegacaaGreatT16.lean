/- The texts of the proof, part 16: the base, walks of functions, plain Lean. -/
import Derived.Test.YtipncebebegacaaGreatT15
import Derived.Test.YtipncebebegacaaGreatT6
namespace Go.Proofs.SL
open Go
set_option maxHeartbeats 2000000
instance fn184:FnF Tryz.prog 184:=⟨_,Tryz.func184,by kernel_rfl,rfl⟩
instance fn239:FnF Tryz.prog 239:=⟨_,Tryz.func239,by kernel_rfl,rfl⟩
instance fn238:FnF Tryz.prog 238:=⟨_,Tryz.func238,by kernel_rfl,rfl⟩
instance fn230:FnF Tryz.prog 230:=⟨_,Tryz.func230,by kernel_rfl,rfl⟩
instance fn223:FnF Tryz.prog 223:=⟨_,Tryz.func223,by kernel_rfl,rfl⟩
instance fn185:FnF Tryz.prog 185:=⟨_,Tryz.func185,by kernel_rfl,rfl⟩
instance fn229:FnF Tryz.prog 229:=⟨_,Tryz.func229,by kernel_rfl,rfl⟩
instance fn228:FnF Tryz.prog 228:=⟨_,Tryz.func228,by kernel_rfl,rfl⟩
instance fn191:FnF Tryz.prog 191:=⟨_,Tryz.func191,by kernel_rfl,rfl⟩
instance fn226:FnF Tryz.prog 226:=⟨_,Tryz.func226,by kernel_rfl,rfl⟩
instance fn227:FnF Tryz.prog 227:=⟨_,Tryz.func227,by kernel_rfl,rfl⟩
instance fn231:FnF Tryz.prog 231:=⟨_,Tryz.func231,by kernel_rfl,rfl⟩
instance fn189:FnF Tryz.prog 189:=⟨_,Tryz.func189,by kernel_rfl,rfl⟩
instance fn190:FnF Tryz.prog 190:=⟨_,Tryz.func190,by kernel_rfl,rfl⟩
instance fn192:FnF Tryz.prog 192:=⟨_,Tryz.func192,by kernel_rfl,rfl⟩
instance fn193:FnF Tryz.prog 193:=⟨_,Tryz.func193,by kernel_rfl,rfl⟩
instance fn194:FnF Tryz.prog 194:=⟨_,Tryz.func194,by kernel_rfl,rfl⟩
instance fn195:FnF Tryz.prog 195:=⟨_,Tryz.func195,by kernel_rfl,rfl⟩
instance fn196:FnF Tryz.prog 196:=⟨_,Tryz.func196,by kernel_rfl,rfl⟩
noncomputable def i_copyCatalog (a0:D_Catalog):Option D_Catalog :=
 whileP (fun s1:Int×(List D_CSet)=>cond (decide (s1.1 < (a0.length:Int))) (Option.bind (idx a0 s1.1) (fun y3=>whileP (fun s4:Int×(List D_CSnap)=>cond (decide (s4.1 < (y3.2.length:Int))) (Option.bind (idx y3.2 s4.1) (fun y6=>Option.bind (i_copyTexts y6.2.2) (fun y7=>Option.bind (appP s4.2 [(y6.1,y6.2.1,y7)]) (fun y10=>some (.inl ((IntKind.wrap .i64 (s4.1+1),y10))))))) (Option.map .inr (Option.bind (appP s1.2 [(y3.1,s4.2)]) (fun y13=>some (.inl ((IntKind.wrap .i64 (s1.1+1),y13))))))) (0,([]:List D_CSnap)))) (Option.map .inr (some s1.2))) (0,([]:List D_CSet))
theorem i_copyCatalog_walk (w:World) (a0:T_Catalog) (h0:GT.rd w [] a0) (r:D_Catalog) (hp:i_copyCatalog (GT.dat a0)=some r):Spec Tryz.prog 184 [.agg (GT.cells a0).toArray].toArray w [] (fun v M=>∃ (x0:T_Catalog),v=.agg (GT.cells x0).toArray∧GT.dat x0=r∧M=[treeH x0]):=by
 change Spec _ _ ([Value.agg #[(TL.hdr a0)]]:List Value).toArray w [] _
 refine Spec.intro Tryz.func184 rfl Tryz.ntmps184 rfl ?_
 unfold i_copyCatalog at hp
 replace hp:=dd hp
 refine s2 ?_
 refine bx fun bk1=>?_
 refine al fun bk2=>?_
 refine s3 ?_
 refine L_build (xs:=[]) (cs:=[(TL.hdr (TL.nil T_CSet 0))]) rfl rfl bld41.h rfl ?_
 refine al fun bk3=>?_
 refine s11 ?_
 refine W_conv (M':=treeH (TL.nil T_CSet 0)::_) (fun w h=>addNilT (τ:=T_CSet) 0 h) ?_
 refine W_while (σ:=Int×(TL T_CSet)) GT.dat (fun ((v1_0,v1_1):Int×(TL T_CSet))=>[(13,.int .i64 v1_0)]) (fun ((v1_0,v1_1):Int×(TL T_CSet))=>[blk bk3 [(TL.hdr v1_1)] 41,treeH v1_1]) [(2,_),(3,_),(11,_),(12,_)] [blk bk2 _ _] (0,(TL.nil T_CSet 0)) hp sb ms ?_
 clear hp
 rintro ⟨v1_0,v1_1⟩ x1 hp hx1
 replace hp:=dd hp
 refine kq [2,3,11,12,13] ?_
 refine s5 ?_
 refine kp [2,3,11,12,13,14] ?_
 refine W_cond rfl (fun q2=>?_) (fun q2=>?_)
 ·replace hp:=cond_t q2 hp
  refine s5 ?_
  replace hp:=idx_bind hp;obtain ⟨⟨u3_1,u3_2⟩,hy3,hp⟩:=hp
  refine L_idxA (X:=a0) rfl rfl rfl el39.h (RdT.old h0) hy3 ?_
  refine L_loadW rfl rfl (RdT.at (RdT.old h0) (hy3).2) (by exact agg144.h) ?_
  refine al fun bk5=>?_
  refine s6 ?_
  refine L_build (xs:=[(0,.tmp 18)]) (cs:=[.string u3_1,(TL.hdr (TL.nil T_CSnap 0))]) rfl rfl bld144.h rfl ?_
  refine al fun bk6=>?_
  refine s11 ?_
  refine W_conv (M':=treeH (TL.nil T_CSnap 0)::_) (fun w h=>addNilT (τ:=T_CSnap) 0 h) ?_
  refine W_while (σ:=Int×(TL T_CSnap)) GT.dat (fun ((v4_0,v4_1):Int×(TL T_CSnap))=>[(23,.int .i64 v4_0)]) (fun ((v4_0,v4_1):Int×(TL T_CSnap))=>[blk bk6 [.string u3_1,(TL.hdr v4_1)] 144,treeH v4_1]) [(2,_),(3,_),(6,_),(11,_),(12,_),(13,_),(21,_),(22,_)] [blk bk2 _ _,blk bk3 _ _,treeH v1_1] (0,(TL.nil T_CSnap 0)) hp sb ms ?_
  clear hp
  rintro ⟨v4_0,v4_1⟩ x4 hp hx4
  replace hp:=dd hp
  refine kq [2,3,6,11,12,13,21,22,23] ?_
  refine s5 ?_
  refine kp [2,3,6,11,12,13,21,22,23,24] ?_
  refine W_cond rfl (fun q5=>?_) (fun q5=>?_)
  ·replace hp:=cond_t q5 hp
   refine s5 ?_
   replace hp:=idx_bind hp;obtain ⟨⟨u6_1,u6_2,u6_3⟩,hy6,hp⟩:=hp
   refine L_idxA (X:=u3_2) rfl rfl rfl el142.h (RdT.snd (RdT.of (RdT.old h0) (hy3).2)) hy6 ?_
   refine L_loadW rfl rfl (RdT.at (RdT.snd (RdT.of (RdT.old h0) (hy3).2)) (hy6).2) (by exact agg147.h) ?_
   refine al fun bk8=>?_
   refine s2 ?_
   replace hp:=ba hp;obtain ⟨y7,hy7,hp⟩:=hp
   refine W_DS (pre:=[_,_,_,_,_,_,_,_,_,_,_]) (suf:=[_,_,_]) [28,37] [] _ pc mix (by kernel_rfl) (by kernel_rfl) rfl ?_
   refine s8 ?_
   refine D_call1R (fun v M=>∃ (x0:TL ByteArray),v=(TL.hdr x0)∧GT.dat x0=y7∧M=[treeH x0]) fn222.h (OpVs.cons (OpV.t rfl) (OpVs.nil)) (by exact fun w F hF hM=>i_copyTexts_walk w u6_3 (RdT.nowS (RdT.snd (RdT.snd (RdT.of (RdT.snd (RdT.of (RdT.old h0) (hy3).2)) (hy6).2))) hF hM) _ hy7) ?_
   refine D_buildO (τ:=ByteArray) (t:=35) (xs:=[(0,.tmp 30),(1,.tmp 32),(2,.tmp 35)]) (ps:=fun u=>[(0,.string u6_1),(1,.string u6_2),(2,u)]) (cs:=fun u=>[.string u6_1,.string u6_2,u]) rfl (fun u=>(OpVp.cons (OpV.t rfl) (OpVp.cons (OpV.t rfl) (OpVp.cons (OpV.t rfl) (OpVp.nil))))) bld147.h (fun X=>rfl) (by kernel_rfl) ?_
   refine D_bs1O (t:=36) rfl el142.h rfl (by decide) (by decide) (fun X=>rfl) (by kernel_rfl) ?_
   refine s1 ?_
   refine Give_R rfl rfl ?_
   rintro _ _ ⟨X8,bb37,rfl,rfl,rfl⟩
   simp only [List.cons_append,List.nil_append]
   refine s11 ?_
   replace hp:=ba hp;obtain ⟨y10,hy10,hp⟩:=hp
   refine jL ((u6_1,u6_2,X8):T_CSnap) ?_
   refine L_app1m (X:=v4_1) ((u6_1,u6_2,X8):T_CSnap) rfl rfl rfl el142.h rfl rfl pk mm pk hy10 (by decide) (fun X9 hdX9 hmX9=>?_)
   subst hdX9
   refine s7 ?_
   exact ⟨(IntKind.wrap .i64 (v4_0+1),X9),sb,(.sub ms),some_eq hp⟩
  ·replace hp:=cond_f q5 hp
   refine W_exit ?_
   replace hp:=map_any hp;obtain ⟨a11,hp,z_11⟩:=hp
   obtain rfl:=hx4 _ z_11
   refine s4 ?_
   refine L_buildSlice1 rfl rfl el39.h rfl (by decide) (by decide) rfl (fun bb44=>?_)
   replace hp:=ba hp;obtain ⟨y13,hy13,hp⟩:=hp
   refine jL ((u3_1,v4_1):T_CSet) ?_
   refine L_app1m (X:=v1_1) ((u3_1,v4_1):T_CSet) rfl rfl rfl el39.h rfl rfl pk mm pk hy13 (by decide) (fun X12 hdX12 hmX12=>?_)
   subst hdX12
   refine s7 ?_
   exact ⟨(IntKind.wrap .i64 (v1_0+1),X12),sb,(.sub ms),some_eq hp⟩
 ·replace hp:=cond_f q2 hp
  refine W_exit ?_
  replace hp:=map_any hp;obtain ⟨a14,hp,z_14⟩:=hp
  obtain rfl:=hx1 _ z_14
  refine s5 ?_
  obtain rfl:=sj hp
  refine s1 ?_
  refine res1 rfl (ResOK.cell rfl mm (by exact agg41.h)) ⟨v1_1,rfl,rfl,rfl⟩ ms
noncomputable def i_copyState (a0:D_State):Option D_State :=
 Option.bind (i_copyCatalog a0.1) (fun y1=>Option.bind (appP ([]:List D_Said) a0.2) (fun y3=>some (y1,y3)))
theorem i_copyState_walk (w:World) (a0:T_State) (h0:GT.rd w [] a0) (r:D_State) (hp:i_copyState (GT.dat a0)=some r):Spec Tryz.prog 127 [.agg (GT.cells a0).toArray].toArray w [] (fun v M=>∃ (x0:T_State),v=.agg (GT.cells x0).toArray∧GT.dat x0=r∧M=[treeH x0]):=by
 obtain ⟨a0_1,a0_2⟩:=a0
 change Spec _ _ ([Value.agg #[(TL.hdr a0_1),(TL.hdr a0_2)]]:List Value).toArray w [] _
 refine Spec.intro Tryz.func127 rfl Tryz.ntmps127 rfl ?_
 unfold i_copyState at hp
 replace hp:=dd hp
 refine s2 ?_
 refine bx fun bk1=>?_
 refine al fun bk2=>?_
 refine s2 ?_
 replace hp:=ba hp;obtain ⟨y1,hy1,hp⟩:=hp
 refine W_DS (pre:=[_,_,_,_,_]) (suf:=[_,_,_]) [5,7] [] _ pc mix (by kernel_rfl) (by kernel_rfl) rfl ?_
 refine s1 ?_
 refine D_loadW GC.none (OpV.t rfl) (fun hg=>RdC.seg (RdC.blk mm) 0 1 rfl) (by exact agg41.h) ?_
 refine D_call1R (fun v M=>∃ (x0:T_Catalog),v=.agg (GT.cells x0).toArray∧GT.dat x0=y1∧M=[treeH x0]) fn184.h (OpVs.cons (OpV.t rfl) (OpVs.nil)) (by exact fun w F hF hM=>i_copyCatalog_walk w a0_1 (RdT.nowS (RdT.old h0.1) hF hM) _ hy1) ?_
 refine s5 ?_
 refine Give_R rfl rfl ?_
 rintro _ _ ⟨y1x0,rfl,rfl,rfl⟩
 refine s3 ?_
 refine sc ?_
 replace hp:=dd hp
 refine L_conv (M':=treeH (TL.nil T_Said 0)::_) (fun w h=>addNilT _ h) ?_
 replace hp:=ba hp;obtain ⟨y3,hy3,hp⟩:=hp
 refine L_appT (X:=(TL.nil T_Said 0)) (Y:=a0_2) rfl rfl rfl el27.h rfl rfl pk (RdT.old h0.2) hy3 (by decide) (fun X2 hdX2=>?_)
 subst hdX2
 refine L_build (xs:=[(0,.tmp 5),(1,.tmp 8)]) (cs:=[(TL.hdr y1x0),(TL.hdr X2)]) rfl rfl bld43.h rfl ?_
 refine s2 ?_
 obtain rfl:=sj hp
 refine jW ((y1x0,X2):T_State) ?_
 refine s1 ?_
 refine res1 rfl (ResOK.cell rfl mm (by exact agg43.h)) ⟨(y1x0,X2),rfl,rfl,rfl⟩ ms
noncomputable def i_CSet_snap_c1 (a0:D_CSnap) (c0:ByteArray):Option Bool :=
 some (decide (a0.1=c0))
theorem i_CSet_snap_c1_walk (w:World) (a0:T_CSnap) (b0:Nat) (c0:ByteArray) (h0:GT.rd w [] a0) (hb0:Cells w [] b0 0 (GT.cells c0)) (q0:GT.rd w [] c0) (r:Bool) (hp:i_CSet_snap_c1 (GT.dat a0) c0=some r):Spec Tryz.prog 239 ([(.agg (GT.cells a0).toArray:Value)]++[Value.pointer (some ⟨b0,0,none⟩)]).toArray w [] (IsV (.bool r)):=by
 obtain ⟨a0_1,a0_2,a0_3⟩:=a0
 change Spec _ _ ([Value.agg #[.string a0_1,.string a0_2,(TL.hdr a0_3)],Value.pointer (some ⟨b0,0,none⟩)]:List Value).toArray w [] _
 refine Spec.intro Tryz.func239 rfl Tryz.ntmps239 rfl ?_
 unfold i_CSet_snap_c1 at hp
 replace hp:=dd hp
 refine s2 ?_
 refine bx fun bk2=>?_
 refine s6 ?_
 refine L_load0 rfl rfl (RdC.old hb0) one9.h rfl ?_
 refine s3 ?_
 obtain rfl:=sj hp
 refine s1 ?_
 refine res1 rfl (ResOK.tmp rfl) ⟨rfl,rfl⟩ ms
noncomputable def sl_IndexFunc_implCSnapimplCSnap (a0:List D_CSnap) (a1:D_CSnap→Option Bool):Option Int :=
 whileP (fun s1:Int=>cond (decide (s1 < (a0.length:Int))) (Option.bind (idx a0 s1) (fun y3=>Option.bind (a1 (y3.1,y3.2.1,y3.2.2)) (fun y4=>cond y4 (Option.map .inr (some s1)) (some (.inl (IntKind.wrap .i64 (s1+1))))))) (Option.map .inr (some (-1)))) 0
theorem sl_IndexFunc_implCSnapimplCSnap_walk (w:World) (a0:TL T_CSnap) (f1:Nat) (cs1:List Value) (a1:D_CSnap→Option Bool) (h0:GT.rd w [] a0) (hf1:IsFn Tryz.prog f1) (hk1:∀ (w':World) (F:List HP) (u0:T_CSnap) (v:Bool),Holds w [] F w'→GT.rd w' [] u0→a1 (GT.dat u0)=some v→Spec Tryz.prog f1 ([Value.agg (GT.cells u0).toArray]++cs1).toArray w' [] (IsV (.bool v))) (r:Int) (hp:sl_IndexFunc_implCSnapimplCSnap (GT.dat a0) a1=some r):Spec Tryz.prog 238 [(TL.hdr a0),.func (.func f1) #[] cs1.toArray].toArray w [] (IsV (.int .i64 r)):=by
 refine Spec.intro Tryz.func238 rfl Tryz.ntmps238 rfl ?_
 unfold sl_IndexFunc_implCSnapimplCSnap at hp
 replace hp:=dd hp
 refine s12 ?_
 refine W_while (σ:=Int) GT.dat (fun (v1_0:Int)=>[(8,.int .i64 v1_0)]) (fun (v1_0:Int)=>[]) [(0,_),(1,_),(7,_)] [] 0 hp sb ms ?_
 clear hp
 rintro v1_0 x1 hp hx1
 replace hp:=dd hp
 refine kq [0,1,7,8] ?_
 refine s5 ?_
 refine kp [0,1,7,8,9] ?_
 refine W_cond rfl (fun q2=>?_) (fun q2=>?_)
 ·replace hp:=cond_t q2 hp
  refine s13 ?_
  replace hp:=idx_bind hp;obtain ⟨⟨u3_1,u3_2,u3_3⟩,hy3,hp⟩:=hp
  refine L_idxA (X:=a0) rfl rfl rfl el142.h (RdT.old h0) hy3 ?_
  refine L_loadW rfl rfl (RdT.at (RdT.old h0) (hy3).2) (by exact agg147.h) ?_
  replace hp:=ba hp;obtain ⟨y4,hy4,hp⟩:=hp
  refine L_callVX rfl rfl hf1 rfl (by exact fun w hw=>hk1 w _ (u3_1,u3_2,u3_3) y4 hw (RdT.now (RdT.pair RdT.str (RdT.pair RdT.str (RdT.snd (RdT.snd (RdT.of (RdT.old h0) (hy3).2))))) hw) hy4) ?_
  refine s1 ?_
  refine kp [0,1,5,7,8,16] ?_
  refine W_cond rfl (fun q5=>?_) (fun q5=>?_)
  ·replace hp:=cond_t q5 hp
   refine s5 ?_
   replace hp:=map_any hp;obtain ⟨a6,hp,z_6⟩:=hp
   obtain rfl:=hx1 _ z_6
   obtain rfl:=sj hp
   refine s1 ?_
   refine res1 rfl (ResOK.tmp rfl) ⟨rfl,rfl⟩ ms
  ·replace hp:=cond_f q5 hp
   refine s5 ?_
   exact ⟨IntKind.wrap .i64 (v1_0+1),sb,(.sub ms),some_eq hp⟩
 ·replace hp:=cond_f q2 hp
  refine W_exit ?_
  replace hp:=map_any hp;obtain ⟨a7,hp,z_7⟩:=hp
  obtain rfl:=hx1 _ z_7
  refine s4 ?_
  obtain rfl:=sj hp
  refine s1 ?_
  refine res1 rfl (ResOK.tmp rfl) ⟨rfl,rfl⟩ ms
noncomputable def i_CSet_snap (a0:D_CSet) (a1:ByteArray):Option Int :=
 Option.bind (sl_IndexFunc_implCSnapimplCSnap a0.2 (fun z0=>i_CSet_snap_c1 z0 a1)) (fun y1=>some y1)
theorem i_CSet_snap_walk (w:World) (a0:T_CSet) (a1:ByteArray) (h0:GT.rd w [] a0) (r:Int) (hp:i_CSet_snap (GT.dat a0) a1=some r):Spec Tryz.prog 230 [.agg (GT.cells a0).toArray,.string a1].toArray w [] (IsV (.int .i64 r)):=by
 obtain ⟨a0_1,a0_2⟩:=a0
 change Spec _ _ ([Value.agg #[.string a0_1,(TL.hdr a0_2)],.string a1]:List Value).toArray w [] _
 refine Spec.intro Tryz.func230 rfl Tryz.ntmps230 rfl ?_
 unfold i_CSet_snap at hp
 replace hp:=dd hp
 refine s2 ?_
 refine bx fun bk2=>?_
 refine bx fun bk3=>?_
 refine s6 ?_
 refine L_makeFunc (fs:=[]) (cs:=[.tmp 3]) rfl rfl rfl ?_
 replace hp:=ba hp;obtain ⟨y1,hy1,hp⟩:=hp
 refine L_callX rfl fn238.h rfl (by exact fun w hw=>sl_IndexFunc_implCSnapimplCSnap_walk w a0_2 239 [Value.pointer (some ⟨bk3,0,none⟩)] (fun z0=>i_CSet_snap_c1 z0 a1) (RdT.now (RdT.old h0.2) hw) fn239.h (fun w' F u0 v hF hu0 hv=>i_CSet_snap_c1_walk w' u0 bk3 a1 hu0 ((cells_of_blk mm hw.sees).carry hF) (rd_carry (RdT.now RdT.str hw) hF) v hv) _ hy1) ?_
 refine s2 ?_
 obtain rfl:=sj hp
 refine s1 ?_
 refine res1 rfl (ResOK.tmp rfl) ⟨rfl,rfl⟩ ms
noncomputable def i_setOk (a0:D_CSet):Option Bool :=
 whileP (fun s1:Int=>cond (decide (s1 < (a0.2.length:Int))) (Option.bind (idx a0.2 s1) (fun y3=>Option.bind (i_isWord y3.1) (fun y4=>gb ((!(!y4))&&(!decide (y3.2.1=ByteArray.empty))) (i_isWord y3.2.1) (fun y5=>gb (!((!y4)||((!decide (y3.2.1=ByteArray.empty))&&(!y5)))) (i_within (y3.2.2.length:Int) 1 4) (fun y6=>gb (!(((!y4)||((!decide (y3.2.1=ByteArray.empty))&&(!y5)))||(!y6))) (i_areChunks y3.2.2) (fun y7=>gb (!((((!y4)||((!decide (y3.2.1=ByteArray.empty))&&(!y5)))||(!y6))||(!y7))) (i_CSet_snap (a0.1,a0.2) y3.1) (fun y8=>cond (((((!y4)||((!decide (y3.2.1=ByteArray.empty))&&(!y5)))||(!y6))||(!y7))||(!decide (y8=s1))) (Option.map .inr (some false)) (some (.inl (IntKind.wrap .i64 (s1+1))))))))))) (Option.map .inr (Option.bind (i_isWord a0.1) (fun y12=>some (y12&&(decide ((a0.2.length:Int)≤5))))))) 0
theorem i_setOk_walk (w:World) (a0:T_CSet) (h0:GT.rd w [] a0) (r:Bool) (hp:i_setOk (GT.dat a0)=some r):Spec Tryz.prog 223 [.agg (GT.cells a0).toArray].toArray w [] (IsV (.bool r)):=by
 obtain ⟨a0_1,a0_2⟩:=a0
 change Spec _ _ ([Value.agg #[.string a0_1,(TL.hdr a0_2)]]:List Value).toArray w [] _
 refine Spec.intro Tryz.func223 rfl Tryz.ntmps223 rfl ?_
 unfold i_setOk at hp
 replace hp:=dd hp
 refine s2 ?_
 refine bx fun bk1=>?_
 refine s11 ?_
 refine W_while (σ:=Int) GT.dat (fun (v1_0:Int)=>[(8,.int .i64 v1_0)]) (fun (v1_0:Int)=>[]) [(1,_),(6,_),(7,_)] [blk bk1 _ _] 0 hp sb ms ?_
 clear hp
 rintro v1_0 x1 hp hx1
 replace hp:=dd hp
 refine kq [1,6,7,8] ?_
 refine s5 ?_
 refine kp [1,6,7,8,9] ?_
 refine W_cond rfl (fun q2=>?_) (fun q2=>?_)
 ·replace hp:=cond_t q2 hp
  refine s6 ?_
  replace hp:=idx_bind hp;obtain ⟨⟨u3_1,u3_2,u3_3⟩,hy3,hp⟩:=hp
  refine L_idxA (X:=a0_2) rfl rfl rfl el142.h (RdT.old h0.2) hy3 ?_
  refine L_loadW rfl rfl (RdT.at (RdT.old h0.2) (hy3).2) (by exact agg147.h) ?_
  refine al fun bk4=>?_
  refine s4 ?_
  replace hp:=ba hp;obtain ⟨y4,hy4,hp⟩:=hp
  replace hp:=gb_any hp;obtain ⟨y5,hy5,hp⟩:=hp
  replace hp:=gb_any hp;obtain ⟨y6,hy6,hp⟩:=hp
  replace hp:=gb_any hp;obtain ⟨y7,hy7,hp⟩:=hp
  replace hp:=gb_any hp;obtain ⟨y8,hy8,hp⟩:=hp
  refine W_D0 [48] mix (by kernel_rfl) rfl ?_
  refine s2 ?_
  refine D_callX GC.none fn225.h (OpVs.cons (OpV.t rfl) (OpVs.nil)) (by exact fun hg w F hF hM=>i_isWord_walk w u3_1  _ hy4) ?_
  refine s8 ?_
  refine D_callX (GC.some rfl rfl) fn225.h (OpVs.cons (OpV.s rfl) (OpVs.nil)) (by exact fun hg w F hF hM=>i_isWord_walk w u3_2  _ (hy5 (gand (gnot hg.1.2) hg.2))) ?_
  refine s6 ?_
  refine D_lenP (X:=u3_3) (GC.some rfl rfl) (OpV.s rfl) el65.h ?_
  refine D_callX (GC.some rfl rfl) fn72.h (OpVs.cons (OpV.s rfl) (OpVs.cons OpV.c (OpVs.cons OpV.c (OpVs.nil)))) (by exact fun hg w F hF hM=>i_within_walk w ((GT.dat u3_3).length:Int) 1 4  _ (hy6 (gnot hg.2))) ?_
  refine s5 ?_
  refine D_callX (GC.some rfl rfl) fn188.h (OpVs.cons (OpV.s rfl) (OpVs.nil)) (by exact fun hg w F hF hM=>i_areChunks_walk w u3_3 (RdT.nowS (RdT.snd (RdT.snd (RdT.of (RdT.old h0.2) (hy3).2))) hF hM) _ (hy7 (gnot hg.2))) ?_
  refine s6 ?_
  refine D_callX (GC.some rfl rfl) fn230.h (OpVs.cons (OpV.s rfl) (OpVs.cons (OpV.s rfl) (OpVs.nil))) (by exact fun hg w F hF hM=>i_CSet_snap_walk w (a0_1,a0_2) u3_1 (RdT.nowS (RdT.pair RdT.str (RdT.old h0.2)) hF hM) _ (hy8 (gnot hg.2))) ?_
  refine s20 ?_
  refine s20 ?_
  refine s1 ?_
  refine kp [1,6,7,8,48] ?_
  refine W_cond rfl (fun q9=>?_) (fun q9=>?_)
  ·replace hp:=cond_t q9 hp
   refine s4 ?_
   replace hp:=map_any hp;obtain ⟨a10,hp,z_10⟩:=hp
   obtain rfl:=hx1 _ z_10
   obtain rfl:=sj hp
   refine s1 ?_
   refine res1 rfl (ResOK.tmp rfl) ⟨rfl,rfl⟩ ms
  ·replace hp:=cond_f q9 hp
   refine s5 ?_
   exact ⟨IntKind.wrap .i64 (v1_0+1),sb,(.sub ms),some_eq hp⟩
 ·replace hp:=cond_f q2 hp
  refine W_exit ?_
  replace hp:=map_any hp;obtain ⟨a11,hp,z_11⟩:=hp
  obtain rfl:=hx1 _ z_11
  refine s1 ?_
  replace hp:=ba hp;obtain ⟨y12,hy12,hp⟩:=hp
  refine W_D0 [2] mix (by kernel_rfl) rfl ?_
  refine s2 ?_
  refine D_callX GC.none fn225.h (OpVs.cons (OpV.t rfl) (OpVs.nil)) (by exact fun hg w F hF hM=>i_isWord_walk w a0_1  _ hy12) ?_
  refine s3 ?_
  refine D_lenP (X:=a0_2) (GC.some rfl rfl) (OpV.s rfl) el142.h ?_
  refine s15 ?_
  obtain rfl:=sj hp
  refine s1 ?_
  refine res1 rfl (ResOK.tmp rfl) ⟨rfl,rfl⟩ ms
noncomputable def i_CatOk (a0:D_Catalog):Option Bool :=
 whileP (fun s1:Int=>cond (decide (s1 < (a0.length:Int))) (Option.bind (idx a0 s1) (fun y3=>Option.bind (i_setOk (y3.1,y3.2)) (fun y4=>gb ((!(!y4))&&(decide (0 < s1))) (idx a0 (IntKind.wrap .i64 (s1 - 1))) (fun y5=>cond ((!y4)||((decide (0 < s1))&&(!sLt y5.1 y3.1))) (Option.map .inr (some false)) (some (.inl (IntKind.wrap .i64 (s1+1)))))))) (Option.map .inr (some (decide ((a0.length:Int)≤5))))) 0
theorem i_CatOk_walk (w:World) (a0:T_Catalog) (h0:GT.rd w [] a0) (r:Bool) (hp:i_CatOk (GT.dat a0)=some r):Spec Tryz.prog 185 [.agg (GT.cells a0).toArray].toArray w [] (IsV (.bool r)):=by
 change Spec _ _ ([Value.agg #[(TL.hdr a0)]]:List Value).toArray w [] _
 refine Spec.intro Tryz.func185 rfl Tryz.ntmps185 rfl ?_
 unfold i_CatOk at hp
 replace hp:=dd hp
 refine s2 ?_
 refine bx fun bk1=>?_
 refine s11 ?_
 refine W_while (σ:=Int) GT.dat (fun (v1_0:Int)=>[(8,.int .i64 v1_0)]) (fun (v1_0:Int)=>[]) [(1,_),(6,_),(7,_)] [blk bk1 _ _] 0 hp sb ms ?_
 clear hp
 rintro v1_0 x1 hp hx1
 replace hp:=dd hp
 refine kq [1,6,7,8] ?_
 refine s5 ?_
 refine kp [1,6,7,8,9] ?_
 refine W_cond rfl (fun q2=>?_) (fun q2=>?_)
 ·replace hp:=cond_t q2 hp
  refine s6 ?_
  replace hp:=idx_bind hp;obtain ⟨⟨u3_1,u3_2⟩,hy3,hp⟩:=hp
  refine L_idxA (X:=a0) rfl rfl rfl el39.h (RdT.old h0) hy3 ?_
  refine L_loadW rfl rfl (RdT.at (RdT.old h0) (hy3).2) (by exact agg144.h) ?_
  refine al fun bk4=>?_
  refine s4 ?_
  replace hp:=ba hp;obtain ⟨y4,hy4,hp⟩:=hp
  replace hp:=idx_gb hp;obtain ⟨⟨u5_1,u5_2⟩,hy5,hp⟩:=hp
  refine W_D0 [31] mix (by kernel_rfl) rfl ?_
  refine s1 ?_
  refine D_callX GC.none fn223.h (OpVs.cons (OpV.t rfl) (OpVs.nil)) (by exact fun hg w F hF hM=>i_setOk_walk w (u3_1,u3_2) (RdT.nowS (RdT.pair RdT.str (RdT.snd (RdT.of (RdT.old h0) (hy3).2))) hF hM) _ hy4) ?_
  refine s9 ?_
  refine D_idxA (X:=a0) (GC.some rfl rfl) (OpV.s rfl) (OpV.s rfl) el39.h (RdT.old h0) (fun hg=>hy5 (gand (gnot hg.1.2) hg.2)) ?_
  refine s1 ?_
  refine D_load (GC.some rfl rfl) (OpV.s rfl) (fun hg=>RdT.at (RdT.old h0) (hy5 (gand (gnot hg.1.2) hg.2)).2) one9.h rfl ?_
  refine s20 ?_
  refine s6 ?_
  refine kp [1,6,7,8,31] ?_
  refine W_cond rfl (fun q6=>?_) (fun q6=>?_)
  ·replace hp:=cond_t q6 hp
   refine s4 ?_
   replace hp:=map_any hp;obtain ⟨a7,hp,z_7⟩:=hp
   obtain rfl:=hx1 _ z_7
   obtain rfl:=sj hp
   refine s1 ?_
   refine res1 rfl (ResOK.tmp rfl) ⟨rfl,rfl⟩ ms
  ·replace hp:=cond_f q6 hp
   refine s5 ?_
   exact ⟨IntKind.wrap .i64 (v1_0+1),sb,(.sub ms),some_eq hp⟩
 ·replace hp:=cond_f q2 hp
  refine W_exit ?_
  replace hp:=map_any hp;obtain ⟨a8,hp,z_8⟩:=hp
  obtain rfl:=hx1 _ z_8
  refine s8 ?_
  obtain rfl:=sj hp
  refine s1 ?_
  refine res1 rfl (ResOK.tmp rfl) ⟨rfl,rfl⟩ ms
noncomputable def i_StateOk (a0:D_State):Option Bool :=
 whileP (fun s1:Int=>cond (decide (s1 < (a0.2.length:Int))) (Option.bind (idx a0.2 s1) (fun y3=>Option.bind (i_within y3.1 1 9) (fun y4=>gb (!(!y4)) (i_within y3.2.1 1 1000) (fun y5=>gb ((!((!y4)||(!y5)))&&(decide (0 < s1))) (idx a0.2 (IntKind.wrap .i64 (s1 - 1))) (fun y6=>cond (((!y4)||(!y5))||((decide (0 < s1))&&(decide (y3.1≤y6.1)))) (Option.map .inr (some false)) (some (.inl (IntKind.wrap .i64 (s1+1))))))))) (Option.map .inr (Option.bind (i_CatOk a0.1) (fun y10=>some y10)))) 0
theorem i_StateOk_walk (w:World) (a0:T_State) (h0:GT.rd w [] a0) (r:Bool) (hp:i_StateOk (GT.dat a0)=some r):Spec Tryz.prog 128 [.agg (GT.cells a0).toArray].toArray w [] (IsV (.bool r)):=by
 obtain ⟨a0_1,a0_2⟩:=a0
 change Spec _ _ ([Value.agg #[(TL.hdr a0_1),(TL.hdr a0_2)]]:List Value).toArray w [] _
 refine Spec.intro Tryz.func128 rfl Tryz.ntmps128 rfl ?_
 unfold i_StateOk at hp
 replace hp:=dd hp
 refine s2 ?_
 refine bx fun bk1=>?_
 refine s11 ?_
 refine W_while (σ:=Int) GT.dat (fun (v1_0:Int)=>[(8,.int .i64 v1_0)]) (fun (v1_0:Int)=>[]) [(1,_),(6,_),(7,_)] [blk bk1 _ _] 0 hp sb ms ?_
 clear hp
 rintro v1_0 x1 hp hx1
 replace hp:=dd hp
 refine kq [1,6,7,8] ?_
 refine s5 ?_
 refine kp [1,6,7,8,9] ?_
 refine W_cond rfl (fun q2=>?_) (fun q2=>?_)
 ·replace hp:=cond_t q2 hp
  refine s6 ?_
  replace hp:=idx_bind hp;obtain ⟨⟨u3_1,u3_2,u3_3⟩,hy3,hp⟩:=hp
  refine L_idxA (X:=a0_2) rfl rfl rfl el27.h (RdT.old h0.2) hy3 ?_
  refine L_loadW rfl rfl (RdT.at (RdT.old h0.2) (hy3).2) (by exact agg71.h) ?_
  refine al fun bk4=>?_
  refine s4 ?_
  replace hp:=ba hp;obtain ⟨y4,hy4,hp⟩:=hp
  replace hp:=gb_any hp;obtain ⟨y5,hy5,hp⟩:=hp
  replace hp:=idx_gb hp;obtain ⟨⟨u6_1,u6_2,u6_3⟩,hy6,hp⟩:=hp
  refine W_D0 [38] mix (by kernel_rfl) rfl ?_
  refine s2 ?_
  refine D_callX GC.none fn72.h (OpVs.cons (OpV.t rfl) (OpVs.cons OpV.c (OpVs.cons OpV.c (OpVs.nil)))) (by exact fun hg w F hF hM=>i_within_walk w u3_1 1 9  _ hy4) ?_
  refine s4 ?_
  refine D_callX (GC.some rfl rfl) fn72.h (OpVs.cons (OpV.s rfl) (OpVs.cons OpV.c (OpVs.cons OpV.c (OpVs.nil)))) (by exact fun hg w F hF hM=>i_within_walk w u3_2 1 1000  _ (hy5 (gnot hg.2))) ?_
  refine s10 ?_
  refine D_idxA (X:=a0_2) (GC.some rfl rfl) (OpV.s rfl) (OpV.s rfl) el27.h (RdT.old h0.2) (fun hg=>hy6 (gand (gnot hg.1.2) hg.2)) ?_
  refine s1 ?_
  refine D_load (GC.some rfl rfl) (OpV.s rfl) (fun hg=>RdT.at (RdT.old h0.2) (hy6 (gand (gnot hg.1.2) hg.2)).2) one3.h rfl ?_
  refine s20 ?_
  refine s13 ?_
  refine kp [1,6,7,8,38] ?_
  refine W_cond rfl (fun q7=>?_) (fun q7=>?_)
  ·replace hp:=cond_t q7 hp
   refine s4 ?_
   replace hp:=map_any hp;obtain ⟨a8,hp,z_8⟩:=hp
   obtain rfl:=hx1 _ z_8
   obtain rfl:=sj hp
   refine s1 ?_
   refine res1 rfl (ResOK.tmp rfl) ⟨rfl,rfl⟩ ms
  ·replace hp:=cond_f q7 hp
   refine s5 ?_
   exact ⟨IntKind.wrap .i64 (v1_0+1),sb,(.sub ms),some_eq hp⟩
 ·replace hp:=cond_f q2 hp
  refine W_exit ?_
  replace hp:=map_any hp;obtain ⟨a9,hp,z_9⟩:=hp
  obtain rfl:=hx1 _ z_9
  refine s3 ?_
  refine L_loadW rfl rfl (RdC.seg (RdC.blk mm) 0 1 rfl) (by exact agg41.h) ?_
  replace hp:=ba hp;obtain ⟨y10,hy10,hp⟩:=hp
  refine L_callX rfl fn185.h rfl (by exact fun w hw=>i_CatOk_walk w a0_1 (RdT.now (RdT.old h0.1) hw) _ hy10) ?_
  refine s2 ?_
  obtain rfl:=sj hp
  refine s1 ?_
  refine res1 rfl (ResOK.tmp rfl) ⟨rfl,rfl⟩ ms
noncomputable def i_StateDo_c1 (a0:D_Said) (c0:D_Cmd):Option Bool :=
 some (decide (c0.2.1≤a0.1))
theorem i_StateDo_c1_walk (w:World) (a0:T_Said) (b0:Nat) (c0:T_Cmd) (h0:GT.rd w [] a0) (hb0:Cells w [] b0 0 (GT.cells c0)) (q0:GT.rd w [] c0) (r:Bool) (hp:i_StateDo_c1 (GT.dat a0) (GT.dat c0)=some r):Spec Tryz.prog 131 ([(.agg (GT.cells a0).toArray:Value)]++[Value.pointer (some ⟨b0,0,none⟩)]).toArray w [] (IsV (.bool r)):=by
 obtain ⟨a0_1,a0_2,a0_3⟩:=a0
 obtain ⟨c0_1,c0_2,c0_3,c0_4,c0_5,c0_6,c0_7,c0_8⟩:=c0
 change Spec _ _ ([Value.agg #[.int .i64 a0_1,.int .i64 a0_2,.string a0_3],Value.pointer (some ⟨b0,0,none⟩)]:List Value).toArray w [] _
 refine Spec.intro Tryz.func131 rfl Tryz.ntmps131 rfl ?_
 unfold i_StateDo_c1 at hp
 replace hp:=dd hp
 refine s2 ?_
 refine bx fun bk2=>?_
 refine s7 ?_
 refine L_load rfl rfl (RdC.old hb0) one3.h rfl ?_
 refine s3 ?_
 obtain rfl:=sj hp
 refine s1 ?_
 refine res1 rfl (ResOK.tmp rfl) ⟨rfl,rfl⟩ ms
noncomputable def sl_IndexFunc_implSaidimplSaid (a0:List D_Said) (a1:D_Said→Option Bool):Option Int :=
 whileP (fun s1:Int=>cond (decide (s1 < (a0.length:Int))) (Option.bind (idx a0 s1) (fun y3=>Option.bind (a1 (y3.1,y3.2.1,y3.2.2)) (fun y4=>cond y4 (Option.map .inr (some s1)) (some (.inl (IntKind.wrap .i64 (s1+1))))))) (Option.map .inr (some (-1)))) 0
theorem sl_IndexFunc_implSaidimplSaid_walk (w:World) (a0:TL T_Said) (f1:Nat) (cs1:List Value) (a1:D_Said→Option Bool) (h0:GT.rd w [] a0) (hf1:IsFn Tryz.prog f1) (hk1:∀ (w':World) (F:List HP) (u0:T_Said) (v:Bool),Holds w [] F w'→GT.rd w' [] u0→a1 (GT.dat u0)=some v→Spec Tryz.prog f1 ([Value.agg (GT.cells u0).toArray]++cs1).toArray w' [] (IsV (.bool v))) (r:Int) (hp:sl_IndexFunc_implSaidimplSaid (GT.dat a0) a1=some r):Spec Tryz.prog 130 [(TL.hdr a0),.func (.func f1) #[] cs1.toArray].toArray w [] (IsV (.int .i64 r)):=by
 refine Spec.intro Tryz.func130 rfl Tryz.ntmps130 rfl ?_
 unfold sl_IndexFunc_implSaidimplSaid at hp
 replace hp:=dd hp
 refine s12 ?_
 refine W_while (σ:=Int) GT.dat (fun (v1_0:Int)=>[(8,.int .i64 v1_0)]) (fun (v1_0:Int)=>[]) [(0,_),(1,_),(7,_)] [] 0 hp sb ms ?_
 clear hp
 rintro v1_0 x1 hp hx1
 replace hp:=dd hp
 refine kq [0,1,7,8] ?_
 refine s5 ?_
 refine kp [0,1,7,8,9] ?_
 refine W_cond rfl (fun q2=>?_) (fun q2=>?_)
 ·replace hp:=cond_t q2 hp
  refine s13 ?_
  replace hp:=idx_bind hp;obtain ⟨⟨u3_1,u3_2,u3_3⟩,hy3,hp⟩:=hp
  refine L_idxA (X:=a0) rfl rfl rfl el27.h (RdT.old h0) hy3 ?_
  refine L_loadW rfl rfl (RdT.at (RdT.old h0) (hy3).2) (by exact agg71.h) ?_
  replace hp:=ba hp;obtain ⟨y4,hy4,hp⟩:=hp
  refine L_callVX rfl rfl hf1 rfl (by exact fun w hw=>hk1 w _ (u3_1,u3_2,u3_3) y4 hw (RdT.now (RdT.pair RdT.int (RdT.pair RdT.int RdT.str)) hw) hy4) ?_
  refine s1 ?_
  refine kp [0,1,5,7,8,16] ?_
  refine W_cond rfl (fun q5=>?_) (fun q5=>?_)
  ·replace hp:=cond_t q5 hp
   refine s5 ?_
   replace hp:=map_any hp;obtain ⟨a6,hp,z_6⟩:=hp
   obtain rfl:=hx1 _ z_6
   obtain rfl:=sj hp
   refine s1 ?_
   refine res1 rfl (ResOK.tmp rfl) ⟨rfl,rfl⟩ ms
  ·replace hp:=cond_f q5 hp
   refine s5 ?_
   exact ⟨IntKind.wrap .i64 (v1_0+1),sb,(.sub ms),some_eq hp⟩
 ·replace hp:=cond_f q2 hp
  refine W_exit ?_
  replace hp:=map_any hp;obtain ⟨a7,hp,z_7⟩:=hp
  obtain rfl:=hx1 _ z_7
  refine s4 ?_
  obtain rfl:=sj hp
  refine s1 ?_
  refine res1 rfl (ResOK.tmp rfl) ⟨rfl,rfl⟩ ms
noncomputable def i_Catalog_set_c1 (a0:D_CSet) (c0:ByteArray):Option Bool :=
 some (decide (a0.1=c0))
theorem i_Catalog_set_c1_walk (w:World) (a0:T_CSet) (b0:Nat) (c0:ByteArray) (h0:GT.rd w [] a0) (hb0:Cells w [] b0 0 (GT.cells c0)) (q0:GT.rd w [] c0) (r:Bool) (hp:i_Catalog_set_c1 (GT.dat a0) c0=some r):Spec Tryz.prog 229 ([(.agg (GT.cells a0).toArray:Value)]++[Value.pointer (some ⟨b0,0,none⟩)]).toArray w [] (IsV (.bool r)):=by
 obtain ⟨a0_1,a0_2⟩:=a0
 change Spec _ _ ([Value.agg #[.string a0_1,(TL.hdr a0_2)],Value.pointer (some ⟨b0,0,none⟩)]:List Value).toArray w [] _
 refine Spec.intro Tryz.func229 rfl Tryz.ntmps229 rfl ?_
 unfold i_Catalog_set_c1 at hp
 replace hp:=dd hp
 refine s2 ?_
 refine bx fun bk2=>?_
 refine s6 ?_
 refine L_load0 rfl rfl (RdC.old hb0) one9.h rfl ?_
 refine s3 ?_
 obtain rfl:=sj hp
 refine s1 ?_
 refine res1 rfl (ResOK.tmp rfl) ⟨rfl,rfl⟩ ms
noncomputable def sl_IndexFunc_implCSetimplCSet (a0:List D_CSet) (a1:D_CSet→Option Bool):Option Int :=
 whileP (fun s1:Int=>cond (decide (s1 < (a0.length:Int))) (Option.bind (idx a0 s1) (fun y3=>Option.bind (a1 (y3.1,y3.2)) (fun y4=>cond y4 (Option.map .inr (some s1)) (some (.inl (IntKind.wrap .i64 (s1+1))))))) (Option.map .inr (some (-1)))) 0
theorem sl_IndexFunc_implCSetimplCSet_walk (w:World) (a0:TL T_CSet) (f1:Nat) (cs1:List Value) (a1:D_CSet→Option Bool) (h0:GT.rd w [] a0) (hf1:IsFn Tryz.prog f1) (hk1:∀ (w':World) (F:List HP) (u0:T_CSet) (v:Bool),Holds w [] F w'→GT.rd w' [] u0→a1 (GT.dat u0)=some v→Spec Tryz.prog f1 ([Value.agg (GT.cells u0).toArray]++cs1).toArray w' [] (IsV (.bool v))) (r:Int) (hp:sl_IndexFunc_implCSetimplCSet (GT.dat a0) a1=some r):Spec Tryz.prog 228 [(TL.hdr a0),.func (.func f1) #[] cs1.toArray].toArray w [] (IsV (.int .i64 r)):=by
 refine Spec.intro Tryz.func228 rfl Tryz.ntmps228 rfl ?_
 unfold sl_IndexFunc_implCSetimplCSet at hp
 replace hp:=dd hp
 refine s12 ?_
 refine W_while (σ:=Int) GT.dat (fun (v1_0:Int)=>[(8,.int .i64 v1_0)]) (fun (v1_0:Int)=>[]) [(0,_),(1,_),(7,_)] [] 0 hp sb ms ?_
 clear hp
 rintro v1_0 x1 hp hx1
 replace hp:=dd hp
 refine kq [0,1,7,8] ?_
 refine s5 ?_
 refine kp [0,1,7,8,9] ?_
 refine W_cond rfl (fun q2=>?_) (fun q2=>?_)
 ·replace hp:=cond_t q2 hp
  refine s13 ?_
  replace hp:=idx_bind hp;obtain ⟨⟨u3_1,u3_2⟩,hy3,hp⟩:=hp
  refine L_idxA (X:=a0) rfl rfl rfl el39.h (RdT.old h0) hy3 ?_
  refine L_loadW rfl rfl (RdT.at (RdT.old h0) (hy3).2) (by exact agg144.h) ?_
  replace hp:=ba hp;obtain ⟨y4,hy4,hp⟩:=hp
  refine L_callVX rfl rfl hf1 rfl (by exact fun w hw=>hk1 w _ (u3_1,u3_2) y4 hw (RdT.now (RdT.pair RdT.str (RdT.snd (RdT.of (RdT.old h0) (hy3).2))) hw) hy4) ?_
  refine s1 ?_
  refine kp [0,1,5,7,8,16] ?_
  refine W_cond rfl (fun q5=>?_) (fun q5=>?_)
  ·replace hp:=cond_t q5 hp
   refine s5 ?_
   replace hp:=map_any hp;obtain ⟨a6,hp,z_6⟩:=hp
   obtain rfl:=hx1 _ z_6
   obtain rfl:=sj hp
   refine s1 ?_
   refine res1 rfl (ResOK.tmp rfl) ⟨rfl,rfl⟩ ms
  ·replace hp:=cond_f q5 hp
   refine s5 ?_
   exact ⟨IntKind.wrap .i64 (v1_0+1),sb,(.sub ms),some_eq hp⟩
 ·replace hp:=cond_f q2 hp
  refine W_exit ?_
  replace hp:=map_any hp;obtain ⟨a7,hp,z_7⟩:=hp
  obtain rfl:=hx1 _ z_7
  refine s4 ?_
  obtain rfl:=sj hp
  refine s1 ?_
  refine res1 rfl (ResOK.tmp rfl) ⟨rfl,rfl⟩ ms
noncomputable def i_Catalog_set (a0:D_Catalog) (a1:ByteArray):Option Int :=
 Option.bind (sl_IndexFunc_implCSetimplCSet a0 (fun z0=>i_Catalog_set_c1 z0 a1)) (fun y1=>some y1)
theorem i_Catalog_set_walk (w:World) (a0:T_Catalog) (a1:ByteArray) (h0:GT.rd w [] a0) (r:Int) (hp:i_Catalog_set (GT.dat a0) a1=some r):Spec Tryz.prog 191 [.agg (GT.cells a0).toArray,.string a1].toArray w [] (IsV (.int .i64 r)):=by
 change Spec _ _ ([Value.agg #[(TL.hdr a0)],.string a1]:List Value).toArray w [] _
 refine Spec.intro Tryz.func191 rfl Tryz.ntmps191 rfl ?_
 unfold i_Catalog_set at hp
 replace hp:=dd hp
 refine s2 ?_
 refine bx fun bk2=>?_
 refine bx fun bk3=>?_
 refine s6 ?_
 refine L_makeFunc (fs:=[]) (cs:=[.tmp 3]) rfl rfl rfl ?_
 replace hp:=ba hp;obtain ⟨y1,hy1,hp⟩:=hp
 refine L_callX rfl fn228.h rfl (by exact fun w hw=>sl_IndexFunc_implCSetimplCSet_walk w a0 229 [Value.pointer (some ⟨bk3,0,none⟩)] (fun z0=>i_Catalog_set_c1 z0 a1) (RdT.now (RdT.old h0) hw) fn229.h (fun w' F u0 v hF hu0 hv=>i_Catalog_set_c1_walk w' u0 bk3 a1 hu0 ((cells_of_blk mm hw.sees).carry hF) (rd_carry (RdT.now RdT.str hw) hF) v hv) _ hy1) ?_
 refine s2 ?_
 obtain rfl:=sj hp
 refine s1 ?_
 refine res1 rfl (ResOK.tmp rfl) ⟨rfl,rfl⟩ ms
noncomputable def i_Catalog_create (a0:D_Catalog) (a1:ByteArray):Option (ByteArray×D_Catalog) :=
 Option.bind (i_Catalog_set a0 a1) (fun y1=>cond (decide (0≤y1)) (some ((ByteArray.mk #[101,120,105,115,116,115]),a0)) (cond (decide ((a0.length:Int)=5)) (some ((ByteArray.mk #[102,117,108,108]),a0)) (whileP (fun s4:Int=>gb (decide (s4 < (a0.length:Int))) (idx a0 s4) (fun y5=>cond ((decide (s4 < (a0.length:Int)))&&(sLt y5.1 a1)) (some (.inl (IntKind.wrap .i64 (s4+1)))) (Option.map .inr (Option.bind (insP a0 s4 (a1,([]:List D_CSnap))) (fun y8=>some ((ByteArray.mk #[111,107]),y8)))))) 0)))
theorem i_Catalog_create_walk (w:World) (b0_:Nat) (a0:T_Catalog) (a1:ByteArray)  (r:ByteArray×D_Catalog) (hp:i_Catalog_create (GT.dat a0) a1=some r):Spec Tryz.prog 189 [Value.pointer (some ⟨b0_,0,none⟩),.string a1].toArray w [blk b0_ (GT.cells a0) 41,treeH a0] (fun v M=>∃ (x0:ByteArray) (y0:T_Catalog),v=.string x0∧(GT.dat x0,GT.dat y0)=r∧M=[blk b0_ (GT.cells y0) 41,treeH y0]):=by
 change Spec _ _ ([Value.pointer (some ⟨b0_,0,none⟩),.string a1]:List Value).toArray w _ _
 refine Spec.intro Tryz.func189 rfl Tryz.ntmps189 rfl ?_
 unfold i_Catalog_create at hp
 replace hp:=dd hp
 refine s12 ?_
 replace hp:=ba hp;obtain ⟨y1,hy1,hp⟩:=hp
 refine L_callX rfl fn191.h rfl (by exact fun w hw=>i_Catalog_set_walk w a0 a1 (RdT.now (RdT.tree mm) hw) _ hy1) ?_
 refine s3 ?_
 refine kp [0,1,6] ?_
 refine W_cond rfl (fun q2=>?_) (fun q2=>?_)
 ·replace hp:=cond_t q2 hp
  refine s4 ?_
  obtain rfl:=sj hp
  refine s1 ?_
  refine res1 rfl (ResOK.tmp rfl) ⟨(ByteArray.mk #[101,120,105,115,116,115]),a0,rfl,rfl,rfl⟩ ms
 ·replace hp:=cond_f q2 hp
  refine s10 ?_
  refine kp [0,1,13] ?_
  refine W_cond rfl (fun q3=>?_) (fun q3=>?_)
  ·replace hp:=cond_t q3 hp
   refine s4 ?_
   obtain rfl:=sj hp
   refine s1 ?_
   refine res1 rfl (ResOK.tmp rfl) ⟨(ByteArray.mk #[102,117,108,108]),a0,rfl,rfl,rfl⟩ ms
  ·replace hp:=cond_f q3 hp
   refine s7 ?_
   refine W_while (σ:=Int) GT.dat (fun (v4_0:Int)=>[(5,.int .i64 v4_0)]) (fun (v4_0:Int)=>[]) [(0,_),(1,_)] [blk b0_ _ _,treeH a0] 0 hp sb ms ?_
   clear hp
   rintro v4_0 x4 hp hx4
   replace hp:=dd hp
   refine kq [0,1,5] ?_
   refine s2 ?_
   replace hp:=idx_gb hp;obtain ⟨⟨u5_1,u5_2⟩,hy5,hp⟩:=hp
   refine W_D0 [38] mix (by kernel_rfl) rfl ?_
   refine s5 ?_
   refine D_lenP (X:=a0) GC.none (OpV.t rfl) el39.h ?_
   refine s7 ?_
   refine D_idxA (X:=a0) (GC.some rfl rfl) (OpV.s rfl) (OpV.s rfl) el39.h (RdT.tree mm) (fun hg=>hy5 hg.2) ?_
   refine s1 ?_
   refine D_load (GC.some rfl rfl) (OpV.s rfl) (fun hg=>RdT.at (RdT.tree mm) (hy5 hg.2).2) one9.h rfl ?_
   refine s20 ?_
   refine s4 ?_
   refine kp [0,1,5,38] ?_
   refine W_cond rfl (fun q6=>?_) (fun q6=>?_)
   ·replace hp:=cond_t q6 hp
    refine s7 ?_
    exact ⟨IntKind.wrap .i64 (v4_0+1),sb,(.sub ms),some_eq hp⟩
   ·replace hp:=cond_f q6 hp
    refine W_exit ?_
    replace hp:=map_any hp;obtain ⟨a7,hp,z_7⟩:=hp
    obtain rfl:=hx4 _ z_7
    refine s9 ?_
    refine L_build (xs:=[(0,.tmp 47)]) (cs:=[.string a1,(TL.hdr (TL.nil T_CSnap 0))]) rfl rfl bld144.h rfl ?_
    refine L_buildSlice1 rfl rfl el39.h rfl (by decide) (by decide) rfl (fun bb49=>?_)
    refine L_conv (M':=treeH (TL.nil T_CSnap 0)::_) (fun w h=>addNilT (τ:=T_CSnap) 0 h) ?_
    refine jL ((a1,(TL.nil T_CSnap 0)):T_CSet) ?_
    replace hp:=ba hp;obtain ⟨y8,hy8,hp⟩:=hp
    refine L_callM [treeH a0,blk bb49 _ _,treeH ((a1,(TL.nil T_CSnap 0)):T_CSet)] _ rfl fn226.h rfl pc (by exact fun w hw=>sl_Insert_implCSetimplCSet_walk w a0 v4_0 bb49 ((a1,(TL.nil T_CSnap 0)):T_CSet) _ _ hy8) ?_
    rintro _ _ ⟨X9,rfl,rfl,rfl⟩
    refine sc ?_
    refine s8 ?_
    obtain rfl:=sj hp
    refine s1 ?_
    refine res1 rfl (ResOK.tmp rfl) ⟨(ByteArray.mk #[111,107]),X9,rfl,rfl,rfl⟩ ms
noncomputable def i_spaced (a0:List ByteArray):Option ByteArray :=
 whileP (fun s1:ByteArray×Int=>cond (decide (s1.2 < (a0.length:Int))) (Option.bind (idx a0 s1.2) (fun y3=>cond (decide (0 < s1.2)) (Option.bind (catP s1.1 (ByteArray.mk #[32])) (fun y5=>Option.bind (catP y5 y3) (fun y6=>some (.inl ((y6,IntKind.wrap .i64 (s1.2+1))))))) (Option.bind (catP s1.1 y3) (fun y7=>some (.inl ((y7,IntKind.wrap .i64 (s1.2+1)))))))) (Option.map .inr (some s1.1))) (ByteArray.empty,0)
theorem i_spaced_walk (w:World) (a0:TL ByteArray) (h0:GT.rd w [] a0) (r:ByteArray) (hp:i_spaced (GT.dat a0)=some r):Spec Tryz.prog 227 [(TL.hdr a0)].toArray w [] (IsV (.string r)):=by
 refine Spec.intro Tryz.func227 rfl Tryz.ntmps227 rfl ?_
 unfold i_spaced at hp
 replace hp:=dd hp
 refine s16 ?_
 refine W_while (σ:=ByteArray×Int) GT.dat (fun ((v1_0,v1_1):ByteArray×Int)=>[(3,.string v1_0),(8,.int .i64 v1_1)]) (fun ((v1_0,v1_1):ByteArray×Int)=>[]) [(6,_),(7,_)] [] (ByteArray.empty,0) hp sb ms ?_
 clear hp
 rintro ⟨v1_0,v1_1⟩ x1 hp hx1
 replace hp:=dd hp
 refine kq [3,6,7,8] ?_
 refine s5 ?_
 refine kp [3,6,7,8,9] ?_
 refine W_cond rfl (fun q2=>?_) (fun q2=>?_)
 ·replace hp:=cond_t q2 hp
  refine s6 ?_
  replace hp:=idx_bind hp;obtain ⟨u3,hy3,hp⟩:=hp
  refine L_idxA (X:=a0) rfl rfl rfl el65.h (RdT.old h0) hy3 ?_
  refine L_load0 rfl rfl (RdT.at (RdT.old h0) (hy3).2) one9.h rfl ?_
  refine s9 ?_
  refine kp [3,5,6,7,8,14] ?_
  refine W_cond rfl (fun q4=>?_) (fun q4=>?_)
  ·replace hp:=cond_t q4 hp
   refine s2 ?_
   replace hp:=ba hp;obtain ⟨y5,hy5,hp⟩:=hp
   refine L_binV rfl rfl rfl (bv_saddP hy5) ?_
   refine s5 ?_
   replace hp:=ba hp;obtain ⟨y6,hy6,hp⟩:=hp
   refine L_binV rfl rfl rfl (bv_saddP hy6) ?_
   refine s6 ?_
   exact ⟨(y6,IntKind.wrap .i64 (v1_1+1)),sb,(.sub ms),some_eq hp⟩
  ·replace hp:=cond_f q4 hp
   refine s4 ?_
   replace hp:=ba hp;obtain ⟨y7,hy7,hp⟩:=hp
   refine L_binV rfl rfl rfl (bv_saddP hy7) ?_
   refine s6 ?_
   exact ⟨(y7,IntKind.wrap .i64 (v1_1+1)),sb,(.sub ms),some_eq hp⟩
 ·replace hp:=cond_f q2 hp
  refine W_exit ?_
  replace hp:=map_any hp;obtain ⟨a8,hp,z_8⟩:=hp
  obtain rfl:=hx1 _ z_8
  refine s5 ?_
  obtain rfl:=sj hp
  refine s1 ?_
  refine res1 rfl (ResOK.tmp rfl) ⟨rfl,rfl⟩ ms
noncomputable def i_Catalog_list (a0:D_Catalog):Option ByteArray :=
 Option.bind (some ([]:List ByteArray)) (fun y2=>whileP (fun s3:(List ByteArray)×Int=>cond (decide (s3.2 < (a0.length:Int))) (Option.bind (idx a0 s3.2) (fun y5=>Option.bind (appP s3.1 [y5.1]) (fun y7=>some (.inl ((y7,IntKind.wrap .i64 (s3.2+1))))))) (Option.map .inr (Option.bind (i_spaced s3.1) (fun y9=>some y9)))) (y2,0))
theorem i_Catalog_list_walk (w:World) (b0_:Nat) (a0:T_Catalog) (hbb0_:Cells w [] b0_ 0 (GT.cells a0)) (h0:GT.rd w [] a0) (r:ByteArray) (hp:i_Catalog_list (GT.dat a0)=some r):Spec Tryz.prog 190 [Value.pointer (some ⟨b0_,0,none⟩)].toArray w [] (IsV (.string r)):=by
 change Spec _ _ ([Value.pointer (some ⟨b0_,0,none⟩)]:List Value).toArray w [] _
 refine Spec.intro Tryz.func190 rfl Tryz.ntmps190 rfl ?_
 unfold i_Catalog_list at hp
 replace hp:=dd hp
 refine s6 ?_
 replace hp:=ba hp;obtain ⟨y2,hy2,hp⟩:=hp
 refine L_mk0 ByteArray rfl el65.h (fun X1 hdX1=>?_)
 obtain rfl:GT.dat X1=y2:=hdX1.trans (Option.some.inj hy2)
 clear hy2 hdX1
 refine s8 ?_
 refine L_load rfl rfl (RdC.old hbb0_) one39.h rfl ?_
 refine s4 ?_
 refine W_while (σ:=(TL ByteArray)×Int) GT.dat (fun ((v3_0,v3_1):(TL ByteArray)×Int)=>[(3,(TL.hdr v3_0)),(12,.int .i64 v3_1)]) (fun ((v3_0,v3_1):(TL ByteArray)×Int)=>[treeH v3_0]) [(10,_),(11,_)] [] (X1,0) hp sb ms ?_
 clear hp
 rintro ⟨v3_0,v3_1⟩ x3 hp hx3
 replace hp:=dd hp
 refine kq [3,10,11,12] ?_
 refine s5 ?_
 refine kp [3,10,11,12,13] ?_
 refine W_cond rfl (fun q4=>?_) (fun q4=>?_)
 ·replace hp:=cond_t q4 hp
  refine s5 ?_
  replace hp:=idx_bind hp;obtain ⟨⟨u5_1,u5_2⟩,hy5,hp⟩:=hp
  refine L_idxA (X:=a0) rfl rfl rfl el39.h (RdT.old h0) hy5 ?_
  refine L_loadW rfl rfl (RdT.at (RdT.old h0) (hy5).2) (by exact agg144.h) ?_
  refine al fun bk5=>?_
  refine s6 ?_
  refine L_buildSlice1 rfl rfl el65.h rfl (by decide) (by decide) rfl (fun bb19=>?_)
  replace hp:=ba hp;obtain ⟨y7,hy7,hp⟩:=hp
  refine L_app1F (X:=v3_0) (u5_1:ByteArray) rfl rfl rfl el65.h rfl rfl pk mm  hy7 (by decide) (fun X6 hdX6=>?_)
  subst hdX6
  refine s6 ?_
  exact ⟨(X6,IntKind.wrap .i64 (v3_1+1)),sb,(.sub ms),some_eq hp⟩
 ·replace hp:=cond_f q4 hp
  refine W_exit ?_
  replace hp:=map_any hp;obtain ⟨a8,hp,z_8⟩:=hp
  obtain rfl:=hx3 _ z_8
  refine s3 ?_
  replace hp:=ba hp;obtain ⟨y9,hy9,hp⟩:=hp
  refine L_callX rfl fn227.h rfl (by exact fun w hw=>i_spaced_walk w v3_0 (RdT.now (RdT.tree mm) hw) _ hy9) ?_
  refine s2 ?_
  obtain rfl:=sj hp
  refine s1 ?_
  refine res1 rfl (ResOK.tmp rfl) ⟨rfl,rfl⟩ ms
noncomputable def i_CSet_commit (a0:D_CSet) (a1:D_Cmd):Option (ByteArray×D_CSet) :=
 Option.bind (i_CSet_snap (a0.1,a0.2) a1.2.2.2.2.1) (fun y1=>cond (decide (0≤y1)) (some ((ByteArray.mk #[101,120,105,115,116,115]),(a0.1,a0.2))) (cond (decide ((a0.2.length:Int)=5)) (some ((ByteArray.mk #[102,117,108,108]),(a0.1,a0.2))) (Option.bind (i_copyTexts a1.2.2.2.2.2.2.2) (fun y4=>Option.bind (appP a0.2 [(a1.2.2.2.2.1,ByteArray.empty,y4)]) (fun y6=>some ((ByteArray.mk #[111,107]),(a0.1,y6)))))))
theorem i_CSet_commit_walk (w:World) (X0:TL T_CSet) (k0:Int) (a0:T_CSet) (a1:T_Cmd) (h1:GT.rd w (fps [holeH X0 k0.toNat (GT.cells a0),treeH a0.2]) a1) (r:ByteArray×D_CSet) (hp:i_CSet_commit (GT.dat a0) (GT.dat a1)=some r):Spec Tryz.prog 193 [Value.pointer (some ⟨X0.g,X0.o+k0.toNat*2,none⟩),.agg (GT.cells a1).toArray].toArray w [holeH X0 k0.toNat (GT.cells a0),treeH a0.2] (fun v M=>∃ (x0:ByteArray) (y0:T_CSet),v=.string x0∧(GT.dat x0,GT.dat y0)=r∧M=[holeH X0 k0.toNat (GT.cells y0),treeH y0.2]):=by
 obtain ⟨a0_1,a0_2⟩:=a0
 obtain ⟨a1_1,a1_2,a1_3,a1_4,a1_5,a1_6,a1_7,a1_8⟩:=a1
 change Spec _ _ ([Value.pointer (some ⟨X0.g,X0.o+k0.toNat*2,none⟩),Value.agg #[.int .i64 a1_1,.int .i64 a1_2,.int .i64 a1_3,.string a1_4,.string a1_5,.string a1_6,.int .i64 a1_7,(TL.hdr a1_8)]]:List Value).toArray w _ _
 refine Spec.intro Tryz.func193 rfl Tryz.ntmps193 rfl ?_
 refine sc ?_
 unfold i_CSet_commit at hp
 replace hp:=dd hp
 refine s2 ?_
 refine bx fun bk3=>?_
 refine s5 ?_
 replace hp:=ba hp;obtain ⟨y1,hy1,hp⟩:=hp
 refine W_D0 [5] mix (by kernel_rfl) rfl ?_
 refine s2 ?_
 refine D_loadW GC.none (OpV.t rfl) (fun hg=>RdC.hole (X:=X0) mm) (by exact agg144.h) ?_
 refine s2 ?_
 refine D_callX GC.none fn230.h (OpVs.cons (OpV.t rfl) (OpVs.cons (OpV.t rfl) (OpVs.nil))) (by exact fun hg w F hF hM=>i_CSet_snap_walk w (a0_1,a0_2) a1_5 (RdT.nowS (RdT.pair RdT.str (RdT.tree mm)) hF hM) _ hy1) ?_
 refine s12 ?_
 refine kp [0,3,5] ?_
 refine W_cond rfl (fun q2=>?_) (fun q2=>?_)
 ·replace hp:=cond_t q2 hp
  refine s4 ?_
  obtain rfl:=sj hp
  refine s1 ?_
  refine res1 rfl (ResOK.tmp rfl) ⟨(ByteArray.mk #[101,120,105,115,116,115]),(a0_1,a0_2),rfl,rfl,rfl⟩ ms
 ·replace hp:=cond_f q2 hp
  refine s5 ?_
  refine L_load rfl rfl (RdC.hole (X:=X0) mm) one142.h rfl ?_
  refine s4 ?_
  refine kp [0,3,13] ?_
  refine W_cond rfl (fun q3=>?_) (fun q3=>?_)
  ·replace hp:=cond_t q3 hp
   refine s4 ?_
   obtain rfl:=sj hp
   refine s1 ?_
   refine res1 rfl (ResOK.tmp rfl) ⟨(ByteArray.mk #[102,117,108,108]),(a0_1,a0_2),rfl,rfl,rfl⟩ ms
  ·replace hp:=cond_f q3 hp
   refine s2 ?_
   replace hp:=ba hp;obtain ⟨y4,hy4,hp⟩:=hp
   replace hp:=ba hp;obtain ⟨y6,hy6,hp⟩:=hp
   refine W_DS (pre:=[_,_,_,_,_,_,_,_,_,_,_,_,_]) (suf:=[_,_,_]) [20,32] [treeH a0_2] _ pc mix (by kernel_rfl) (by kernel_rfl) rfl ?_
   refine s4 ?_
   refine D_load GC.none (OpV.t rfl) (fun hg=>RdC.hole (X:=X0) mm) one142.h rfl ?_
   refine s4 ?_
   refine D_call1R (fun v M=>∃ (x0:TL ByteArray),v=(TL.hdr x0)∧GT.dat x0=y4∧M=[treeH x0]) fn222.h (OpVs.cons (OpV.t rfl) (OpVs.nil)) (by exact fun w F hF hM=>i_copyTexts_walk w a1_8 (RdT.nowS (RdT.old h1.2.2.2.2.2.2.2) hF hM) _ hy4) ?_
   refine D_buildO (τ:=ByteArray) (t:=29) (xs:=[(0,.tmp 26),(2,.tmp 29)]) (ps:=fun u=>[(0,.string a1_5),(2,u)]) (cs:=fun u=>[.string a1_5,.string ByteArray.empty,u]) rfl (fun u=>(OpVp.cons (OpV.t rfl) (OpVp.cons (OpV.t rfl) (OpVp.nil)))) bld147.h (fun X=>rfl) (by kernel_rfl) ?_
   refine D_bs1O (t:=30) rfl el142.h rfl (by decide) (by decide) (fun X=>rfl) (by kernel_rfl) ?_
   refine D_app1O (X:=a0_2) (t:=31) (fun Y=>((a1_5,ByteArray.empty,Y):T_CSnap)) _ (OpV.t rfl) rfl el142.h rfl rfl (fun Y=>rfl) (fun Y=>by first | rfl | exact List.append_nil _) (fun w Y h=>by repeat (first | exact h | exact trivial | exact (flat_nil _).ow _ | constructor)) (fun Y h=>by subst h;rfl) pk hy6 (by decide) (by kernel_rfl) ?_
   refine s1 ?_
   refine Give_R rfl rfl ?_
   rintro _ _ ⟨X7,rfl,rfl,rfl⟩
   simp only [List.cons_append,List.nil_append]
   refine s15 ?_
   refine L_stH (X:=X0) (i:=k0.toNat) (sz:=2) (fo:=1) (n:=1) rfl rfl pk rfl (.inr ⟨one142.h,rfl⟩) rfl (allOne rfl) (Nat.le_of_ble_eq_true rfl) ?_
   refine s5 ?_
   obtain rfl:=sj hp
   refine s1 ?_
   refine res1 rfl (ResOK.tmp rfl) ⟨(ByteArray.mk #[111,107]),(a0_1,X7),rfl,rfl,rfl⟩ ms
noncomputable def i_CSet_tag (a0:D_CSet) (a1:D_Cmd):Option (ByteArray×D_CSet) :=
 Option.bind (i_CSet_snap (a0.1,a0.2) a1.2.2.2.2.1) (fun y1=>cond (decide (y1 < 0)) (some ((ByteArray.mk #[110,111,110,101]),(a0.1,a0.2))) (Option.bind (idx a0.2 y1) (fun y3=>Option.bind (some (a0.2.set (y1.toNat) (y3.1,a1.2.2.2.2.2.1,y3.2.2))) (fun y4=>some ((ByteArray.mk #[111,107]),(a0.1,y4))))))
theorem i_CSet_tag_walk (w:World) (X0:TL T_CSet) (k0:Int) (a0:T_CSet) (a1:T_Cmd) (h1:GT.rd w (fps [holeH X0 k0.toNat (GT.cells a0),treeH a0.2]) a1) (r:ByteArray×D_CSet) (hp:i_CSet_tag (GT.dat a0) (GT.dat a1)=some r):Spec Tryz.prog 194 [Value.pointer (some ⟨X0.g,X0.o+k0.toNat*2,none⟩),.agg (GT.cells a1).toArray].toArray w [holeH X0 k0.toNat (GT.cells a0),treeH a0.2] (fun v M=>∃ (x0:ByteArray) (y0:T_CSet),v=.string x0∧(GT.dat x0,GT.dat y0)=r∧M=[holeH X0 k0.toNat (GT.cells y0),treeH y0.2]):=by
 obtain ⟨a0_1,a0_2⟩:=a0
 obtain ⟨a1_1,a1_2,a1_3,a1_4,a1_5,a1_6,a1_7,a1_8⟩:=a1
 change Spec _ _ ([Value.pointer (some ⟨X0.g,X0.o+k0.toNat*2,none⟩),Value.agg #[.int .i64 a1_1,.int .i64 a1_2,.int .i64 a1_3,.string a1_4,.string a1_5,.string a1_6,.int .i64 a1_7,(TL.hdr a1_8)]]:List Value).toArray w _ _
 refine Spec.intro Tryz.func194 rfl Tryz.ntmps194 rfl ?_
 refine sc ?_
 unfold i_CSet_tag at hp
 replace hp:=dd hp
 refine s2 ?_
 refine bx fun bk3=>?_
 refine s3 ?_
 replace hp:=ba hp;obtain ⟨y1,hy1,hp⟩:=hp
 refine W_D0 [5] mix (by kernel_rfl) rfl ?_
 refine s2 ?_
 refine D_loadW GC.none (OpV.t rfl) (fun hg=>RdC.hole (X:=X0) mm) (by exact agg144.h) ?_
 refine s2 ?_
 refine D_callX GC.none fn230.h (OpVs.cons (OpV.t rfl) (OpVs.cons (OpV.t rfl) (OpVs.nil))) (by exact fun hg w F hF hM=>i_CSet_snap_walk w (a0_1,a0_2) a1_5 (RdT.nowS (RdT.pair RdT.str (RdT.tree mm)) hF hM) _ hy1) ?_
 refine s16 ?_
 refine kp [0,3,5,13] ?_
 refine W_cond rfl (fun q2=>?_) (fun q2=>?_)
 ·replace hp:=cond_t q2 hp
  refine s4 ?_
  obtain rfl:=sj hp
  refine s1 ?_
  refine res1 rfl (ResOK.tmp rfl) ⟨(ByteArray.mk #[110,111,110,101]),(a0_1,a0_2),rfl,rfl,rfl⟩ ms
 ·replace hp:=cond_f q2 hp
  refine s2 ?_
  refine W_DS (pre:=[_,_,_,_,_,_,_]) (suf:=[_,_,_]) [17,18,20] [] _ pc mix (by kernel_rfl) (by kernel_rfl) rfl ?_
  refine s3 ?_
  refine D_load GC.none (OpV.t rfl) (fun hg=>RdC.hole (X:=X0) mm) one142.h rfl ?_
  refine s12 ?_
  replace hp:=idx_bind hp;obtain ⟨⟨u3_1,u3_2,u3_3⟩,hy3,hp⟩:=hp
  refine L_idxA (X:=a0_2) rfl rfl rfl el142.h (RdT.tree mm) hy3 ?_
  refine s1 ?_
  refine L_conv (M':=treeH (u3_1,u3_2,u3_3)::holeH a0_2 (y1.toNat) (GT.cells (u3_1,u3_2,u3_3))::_) (fun w h=>hole_open hy3.2 pk h) ?_
  refine xL ((u3_1,u3_2,u3_3):T_CSnap) ?_
  refine L_stH (X:=a0_2) (i:=y1.toNat) (sz:=3) (fo:=1) (n:=1) rfl rfl pk rfl (.inr ⟨one9.h,rfl⟩) rfl (allOne rfl) (Nat.le_of_ble_eq_true rfl) ?_
  refine jL ((u3_1,a1_6,u3_3):T_CSnap) ?_
  replace hp:=ba hp;obtain ⟨y4,hy4,hp⟩:=hp
  refine L_close (X:=a0_2) ((u3_1,a1_6,u3_3):T_CSnap) rfl pk pk hy4 (fun X5 hdX5 hhX5=>?_)
  subst hdX5
  try rw [← hhX5]
  try rw [← g_of_hdr hhX5]
  try rw [← o_of_hdr hhX5]
  refine s5 ?_
  obtain rfl:=sj hp
  refine s1 ?_
  refine res1 rfl (ResOK.tmp rfl) ⟨(ByteArray.mk #[111,107]),(a0_1,X5),rfl,rfl,rfl⟩ ms
noncomputable def i_Dec (a0:Int):Option ByteArray :=
 cond (decide (a0=0)) (some (ByteArray.mk #[48])) (Option.bind (some ([]:List UInt8)) (fun y3=>whileP (fun s4:(List UInt8)×Int=>cond (!decide (s4.2=0)) (cond (decide ((s4.2).tmod 10 < 0)) (Option.bind (u8P (IntKind.wrap .u8 (IntKind.wrap .i64 (48+IntKind.wrap .i64 (-((s4.2).tmod 10)))))) (fun y7=>Option.bind (appP s4.1 [y7]) (fun y9=>some (.inl ((y9,IntKind.wrap .i64 ((s4.2).tdiv 10))))))) (Option.bind (u8P (IntKind.wrap .u8 (IntKind.wrap .i64 (48+(s4.2).tmod 10)))) (fun y10=>Option.bind (appP s4.1 [y10]) (fun y12=>some (.inl ((y12,IntKind.wrap .i64 ((s4.2).tdiv 10)))))))) (Option.map .inr (jbind (cond (decide (a0 < 0)) (Option.bind (appP s4.1 [(45:UInt8)]) (fun y17=>some (.inl (y17)))) (some (.inl (s4.1)))) (fun s14:(List UInt8)=>whileP (fun s18:Int=>cond (decide (0 < IntKind.wrap .i64 ((s14.length:Int) - 1))) (none) (Option.map .inr (some (strP s14)))) (0:Int))))) (y3,a0)))
theorem i_Dec_walk (w:World) (a0:Int)  (r:ByteArray) (hp:i_Dec a0=some r):Spec Tryz.prog 231 [.int .i64 a0].toArray w [] (IsV (.string r)):=by
 refine Spec.intro Tryz.func231 rfl Tryz.ntmps231 rfl ?_
 unfold i_Dec at hp
 replace hp:=dd hp
 refine s10 ?_
 refine kp [0,9] ?_
 refine W_cond rfl (fun q1=>?_) (fun q1=>?_)
 ·replace hp:=cond_t q1 hp
  refine s4 ?_
  obtain rfl:=sj hp
  refine s1 ?_
  refine res1 rfl (ResOK.tmp rfl) ⟨rfl,rfl⟩ ms
 ·replace hp:=cond_f q1 hp
  refine s3 ?_
  replace hp:=ba hp;obtain ⟨y3,hy3,hp⟩:=hp
  refine L_mk0 UInt8 rfl el128.h (fun X2 hdX2=>?_)
  obtain rfl:GT.dat X2=y3:=hdX2.trans (Option.some.inj hy3)
  clear hy3 hdX2
  refine s9 ?_
  refine W_while (σ:=(TL UInt8)×Int) GT.dat (fun ((v4_0,v4_1):(TL UInt8)×Int)=>[(3,(TL.hdr v4_0)),(4,.int .i64 v4_1)]) (fun ((v4_0,v4_1):(TL UInt8)×Int)=>[treeH v4_0]) [(0,_)] [] (X2,a0) hp sb ms ?_
  clear hp
  rintro ⟨v4_0,v4_1⟩ x4 hp hx4
  replace hp:=dd hp
  refine kq [0,3,4] ?_
  refine s6 ?_
  refine kp [0,3,4,13] ?_
  refine W_cond rfl (fun q5=>?_) (fun q5=>?_)
  ·replace hp:=cond_t q5 hp
   refine s15 ?_
   refine kp [0,3,4,5,19] ?_
   refine W_cond rfl (fun q6=>?_) (fun q6=>?_)
   ·replace hp:=cond_t q6 hp
    refine s2 ?_
    refine L_negW rfl rfl ?_
    refine s6 ?_
    refine L_convInt rfl rfl und5.h (by rw [und3.h];rfl) ?_
    replace hp:=ba hp;obtain ⟨y7,hy7,hp⟩:=hp
    have ey7:=u8P_some hy7
    try simp only [dat_u8] at ey7
    try simp only [ey7]
    refine L_buildSlice1 rfl rfl el128.h rfl (by decide) (by decide) rfl (fun bb26=>?_)
    replace hp:=ba hp;obtain ⟨y9,hy9,hp⟩:=hp
    refine L_app1F (X:=v4_0) (y7:UInt8) rfl rfl rfl el128.h rfl rfl pk mm  hy9 (by decide) (fun X8 hdX8=>?_)
    subst hdX8
    refine s7 ?_
    exact ⟨(X8,IntKind.wrap .i64 ((v4_1).tdiv 10)),sb,(.sub ms),some_eq hp⟩
   ·replace hp:=cond_f q6 hp
    refine s5 ?_
    refine L_convInt rfl rfl und5.h (by rw [und3.h];rfl) ?_
    replace hp:=ba hp;obtain ⟨y10,hy10,hp⟩:=hp
    have ey10:=u8P_some hy10
    try simp only [dat_u8] at ey10
    try simp only [ey10]
    refine L_buildSlice1 rfl rfl el128.h rfl (by decide) (by decide) rfl (fun bb26=>?_)
    replace hp:=ba hp;obtain ⟨y12,hy12,hp⟩:=hp
    refine L_app1F (X:=v4_0) (y10:UInt8) rfl rfl rfl el128.h rfl rfl pk mm  hy12 (by decide) (fun X11 hdX11=>?_)
    subst hdX11
    refine s7 ?_
    exact ⟨(X11,IntKind.wrap .i64 ((v4_1).tdiv 10)),sb,(.sub ms),some_eq hp⟩
  ·replace hp:=cond_f q5 hp
   refine W_exit ?_
   replace hp:=map_any hp;obtain ⟨a13,hp,z_13⟩:=hp
   obtain rfl:=hx4 _ z_13
   refine W_jn (σ:=(TL UInt8)) GT.dat (fun (v14_0:(TL UInt8))=>[(3,(TL.hdr v14_0))]) (fun (v14_0:(TL UInt8))=>[treeH v14_0]) [] [] hp ?_ ?_
   ·clear hp
    intro x14 hp hx14
    refine s5 ?_
    refine kp [3,29] ?_
    refine W_cond rfl (fun q15=>?_) (fun q15=>?_)
    ·replace hp:=cond_t q15 hp
     refine s2 ?_
     refine L_buildSlice1 rfl rfl el128.h rfl (by decide) (by decide) rfl (fun bb31=>?_)
     replace hp:=ba hp;obtain ⟨y17,hy17,hp⟩:=hp
     refine L_app1F (X:=v4_0) ((45:UInt8):UInt8) rfl rfl rfl el128.h rfl rfl pk mm  hy17 (by decide) (fun X16 hdX16=>?_)
     subst hdX16
     refine s2 ?_
     exact ⟨X16,sb,(.sub ms),some_eq hp⟩
    ·replace hp:=cond_f q15 hp
     refine s1 ?_
     exact ⟨v4_0,sb,(.sub ms),some_eq hp⟩
   ·clear hp
    rintro v14_0 hp
    replace hp:=dd hp
    refine kq [3] ?_
    refine s10 ?_
    refine W_while (σ:=Int) GT.dat (fun (_z:Int)=>[]) (fun (_z:Int)=>[]) [(3,_),(6,_),(7,_)] [treeH v14_0] (0:Int) hp sb ms ?_
    clear hp
    rintro _ x18 hp hx18
    replace hp:=dd hp
    refine kq [3,6,7] ?_
    refine s7 ?_
    refine kp [3,6,7,38] ?_
    refine W_cond rfl (fun q19=>?_) (fun q19=>?_)
    ·replace hp:=cond_t q19 hp
     refine s3 ?_
     cases hp
    ·replace hp:=cond_f q19 hp
     refine W_exit ?_
     replace hp:=map_any hp;obtain ⟨a20,hp,z_20⟩:=hp
     obtain rfl:=hx18 _ z_20
     refine s3 ?_
     refine L_toStr (X:=v14_0) rfl rfl und128.h und5.h und9.h (RdT.tree mm) ?_
     refine s2 ?_
     obtain rfl:=sj hp
     refine s1 ?_
     refine res1 rfl (ResOK.tmp rfl) ⟨rfl,rfl⟩ ms
noncomputable def i_CSet_prune (a0:D_CSet) (a1:Int):Option (ByteArray×D_CSet) :=
 whileP (fun s1:Int×Int=>cond (decide (s1.2 < (a0.2.length:Int))) (Option.bind (idx a0.2 s1.2) (fun y3=>cond (decide (y3.2.1=ByteArray.empty)) (some (.inl ((IntKind.wrap .i64 (s1.1+1),IntKind.wrap .i64 (s1.2+1))))) (some (.inl ((s1.1,IntKind.wrap .i64 (s1.2+1))))))) (Option.map .inr (Option.bind (some ([]:List D_CSnap)) (fun y7=>whileP (fun s8:(List D_CSnap)×Int×Int=>cond (decide (s8.2.2 < (a0.2.length:Int))) (Option.bind (idx a0.2 s8.2.2) (fun y10=>cond ((decide (y10.2.1=ByteArray.empty))&&(decide (s8.2.1 < (if s1.1 > 0 then s1.1 else 0)))) (some (.inl ((s8.1,IntKind.wrap .i64 (s8.2.1+1),IntKind.wrap .i64 (s8.2.2+1))))) (Option.bind (appP s8.1 [(y10.1,y10.2.1,y10.2.2)]) (fun y13=>some (.inl ((y13,s8.2.1,IntKind.wrap .i64 (s8.2.2+1)))))))) (Option.map .inr (Option.bind (i_Dec (if s1.1 > 0 then s1.1 else 0)) (fun y15=>some (y15,(a0.1,s8.1)))))) (y7,0,0))))) (IntKind.wrap .i64 (-a1),0)
theorem i_CSet_prune_walk (w:World) (X0:TL T_CSet) (k0:Int) (a0:T_CSet) (a1:Int)  (r:ByteArray×D_CSet) (hp:i_CSet_prune (GT.dat a0) a1=some r):Spec Tryz.prog 195 [Value.pointer (some ⟨X0.g,X0.o+k0.toNat*2,none⟩),.int .i64 a1].toArray w [holeH X0 k0.toNat (GT.cells a0),treeH a0.2] (fun v M=>∃ (x0:ByteArray) (y0:T_CSet),v=.string x0∧(GT.dat x0,GT.dat y0)=r∧M=[holeH X0 k0.toNat (GT.cells y0),treeH y0.2]):=by
 obtain ⟨a0_1,a0_2⟩:=a0
 change Spec _ _ ([Value.pointer (some ⟨X0.g,X0.o+k0.toNat*2,none⟩),.int .i64 a1]:List Value).toArray w _ _
 refine Spec.intro Tryz.func195 rfl Tryz.ntmps195 rfl ?_
 refine sc ?_
 unfold i_CSet_prune at hp
 replace hp:=dd hp
 refine s7 ?_
 refine L_negW rfl rfl ?_
 refine s8 ?_
 refine L_load rfl rfl (RdC.hole (X:=X0) mm) one142.h rfl ?_
 refine s4 ?_
 refine W_while (σ:=Int×Int) GT.dat (fun ((v1_0,v1_1):Int×Int)=>[(5,.int .i64 v1_0),(19,.int .i64 v1_1)]) (fun ((v1_0,v1_1):Int×Int)=>[]) [(0,_),(17,_),(18,_)] [holeH X0 k0.toNat _,treeH a0_2] (IntKind.wrap .i64 (-a1),0) hp sb ms ?_
 clear hp
 rintro ⟨v1_0,v1_1⟩ x1 hp hx1
 replace hp:=dd hp
 refine kq [0,5,17,18,19] ?_
 refine s5 ?_
 refine kp [0,5,17,18,19,20] ?_
 refine W_cond rfl (fun q2=>?_) (fun q2=>?_)
 ·replace hp:=cond_t q2 hp
  refine s5 ?_
  replace hp:=idx_bind hp;obtain ⟨⟨u3_1,u3_2,u3_3⟩,hy3,hp⟩:=hp
  refine L_idxA (X:=a0_2) rfl rfl rfl el142.h (RdT.tree mm) hy3 ?_
  refine L_loadW rfl rfl (RdT.at (RdT.tree mm) (hy3).2) (by exact agg147.h) ?_
  refine al fun bk7=>?_
  refine s8 ?_
  refine kp [0,5,17,18,19,25] ?_
  refine W_cond rfl (fun q4=>?_) (fun q4=>?_)
  ·replace hp:=cond_t q4 hp
   refine s9 ?_
   exact ⟨(IntKind.wrap .i64 (v1_0+1),IntKind.wrap .i64 (v1_1+1)),sb,(.sub ms),some_eq hp⟩
  ·replace hp:=cond_f q4 hp
   refine s5 ?_
   exact ⟨(v1_0,IntKind.wrap .i64 (v1_1+1)),sb,(.sub ms),some_eq hp⟩
 ·replace hp:=cond_f q2 hp
  refine W_exit ?_
  replace hp:=map_any hp;obtain ⟨a5,hp,z_5⟩:=hp
  obtain rfl:=hx1 _ z_5
  refine s3 ?_
  refine L_max rfl rfl rfl ?_
  refine s4 ?_
  replace hp:=ba hp;obtain ⟨y7,hy7,hp⟩:=hp
  refine L_mk0 T_CSnap rfl el142.h (fun X6 hdX6=>?_)
  obtain rfl:GT.dat X6=y7:=hdX6.trans (Option.some.inj hy7)
  clear hy7 hdX6
  refine s12 ?_
  refine L_load rfl rfl (RdC.hole (X:=X0) mm) one142.h rfl ?_
  refine s4 ?_
  refine W_conv (M':=rowH a0_2::elsT (a0_2.els.drop 0)::_) (fun w h=>els_start pk h) ?_
  refine W_while (σ:=(TL T_CSnap)×Int×Int) GT.dat (fun ((v8_0,v8_1,v8_2):(TL T_CSnap)×Int×Int)=>[(8,(TL.hdr v8_0)),(9,.int .i64 v8_1),(37,.int .i64 v8_2)]) (fun ((v8_0,v8_1,v8_2):(TL T_CSnap)×Int×Int)=>[treeH v8_0,elsT (a0_2.els.drop (v8_2.toNat))]) [(0,_),(5,_),(35,_),(36,_)] [holeH X0 k0.toNat _,rowH a0_2] (X6,0,0) hp sb ms ?_
  clear hp
  rintro ⟨v8_0,v8_1,v8_2⟩ x8 hp hx8
  replace hp:=dd hp
  refine kq [0,5,8,9,35,36,37] ?_
  refine s5 ?_
  refine kp [0,5,8,9,35,36,37,38] ?_
  refine W_cond rfl (fun q9=>?_) (fun q9=>?_)
  ·replace hp:=cond_t q9 hp
   refine s5 ?_
   replace hp:=idx_bind hp;obtain ⟨⟨u10_1,u10_2,u10_3⟩,hy10,hp⟩:=hp
   refine L_idxR (X:=a0_2) rfl rfl rfl el142.h mm hy10 ?_
   refine L_conv (M':=treeH (u10_1,u10_2,u10_3)::elsT (a0_2.els.drop (v8_2.toNat+1))::_) (fun w h=>els_next hy10.2 pk h) ?_
   refine xL ((u10_1,u10_2,u10_3):T_CSnap) ?_
   refine L_loadW rfl rfl (RdC.row (X:=a0_2) mm hy10.2) (by exact agg147.h) ?_
   refine al fun bk11=>?_
   refine s3 ?_
   refine W_D0 [48] mix (by kernel_rfl) rfl ?_
   refine s18 ?_
   refine kp [0,5,8,9,11,35,36,37,48] ?_
   refine W_cond rfl (fun q11=>?_) (fun q11=>?_)
   ·replace hp:=cond_t q11 hp
    refine s9 ?_
    exact ⟨(v8_0,IntKind.wrap .i64 (v8_1+1),IntKind.wrap .i64 (v8_2+1)),sb,⟨_,fun w h=>(els_step hy10 mm pk h),ms⟩,some_eq hp⟩
   ·replace hp:=cond_f q11 hp
    refine s3 ?_
    refine L_buildSlice1 rfl rfl el142.h rfl (by decide) (by decide) rfl (fun bb53=>?_)
    replace hp:=ba hp;obtain ⟨y13,hy13,hp⟩:=hp
    refine jL ((u10_1,u10_2,u10_3):T_CSnap) ?_
    refine L_app1m (X:=v8_0) ((u10_1,u10_2,u10_3):T_CSnap) rfl rfl rfl el142.h rfl rfl pk mm pk hy13 (by decide) (fun X12 hdX12 hmX12=>?_)
    subst hdX12
    refine s6 ?_
    exact ⟨(X12,v8_1,IntKind.wrap .i64 (v8_2+1)),sb,⟨_,fun w h=>(els_step hy10 mm pk h),ms⟩,some_eq hp⟩
  ·replace hp:=cond_f q9 hp
   refine W_exit ?_
   replace hp:=map_any hp;obtain ⟨a14,hp,z_14⟩:=hp
   obtain rfl:=hx8 _ z_14
   refine s6 ?_
   refine L_stH (X:=X0) (i:=k0.toNat) (sz:=2) (fo:=1) (n:=1) rfl rfl pk rfl (.inr ⟨one142.h,rfl⟩) rfl (allOne rfl) (Nat.le_of_ble_eq_true rfl) ?_
   refine s4 ?_
   replace hp:=ba hp;obtain ⟨y15,hy15,hp⟩:=hp
   refine L_callX rfl fn231.h rfl (by exact fun w hw=>i_Dec_walk w (if v1_0 > 0 then v1_0 else 0)  _ hy15) ?_
   refine s2 ?_
   obtain rfl:=sj hp
   refine s1 ?_
   refine res1 rfl (ResOK.tmp rfl) ⟨y15,(a0_1,v8_0),rfl,rfl,rfl⟩ ms
noncomputable def i_CSet_told (a0:D_CSet):Option (ByteArray×D_CSet) :=
 Option.bind (some ([]:List ByteArray)) (fun y2=>whileP (fun s3:(List ByteArray)×Int=>cond (decide (s3.2 < (a0.2.length:Int))) (Option.bind (idx a0.2 s3.2) (fun y5=>Option.bind (catP y5.1 (ByteArray.mk #[58])) (fun y6=>Option.bind (catP y6 y5.2.1) (fun y7=>Option.bind (appP s3.1 [y7]) (fun y9=>some (.inl ((y9,IntKind.wrap .i64 (s3.2+1))))))))) (Option.map .inr (Option.bind (i_spaced s3.1) (fun y11=>some (y11,(a0.1,a0.2)))))) (y2,0))
theorem i_CSet_told_walk (w:World) (X0:TL T_CSet) (k0:Int) (a0:T_CSet)  (r:ByteArray×D_CSet) (hp:i_CSet_told (GT.dat a0)=some r):Spec Tryz.prog 196 [Value.pointer (some ⟨X0.g,X0.o+k0.toNat*2,none⟩)].toArray w [holeH X0 k0.toNat (GT.cells a0),treeH a0.2] (fun v M=>∃ (x0:ByteArray) (y0:T_CSet),v=.string x0∧(GT.dat x0,GT.dat y0)=r∧M=[holeH X0 k0.toNat (GT.cells y0),treeH y0.2]):=by
 obtain ⟨a0_1,a0_2⟩:=a0
 change Spec _ _ ([Value.pointer (some ⟨X0.g,X0.o+k0.toNat*2,none⟩)]:List Value).toArray w _ _
 refine Spec.intro Tryz.func196 rfl Tryz.ntmps196 rfl ?_
 refine sc ?_
 unfold i_CSet_told at hp
 replace hp:=dd hp
 refine s6 ?_
 replace hp:=ba hp;obtain ⟨y2,hy2,hp⟩:=hp
 refine L_mk0 ByteArray rfl el65.h (fun X1 hdX1=>?_)
 obtain rfl:GT.dat X1=y2:=hdX1.trans (Option.some.inj hy2)
 clear hy2 hdX1
 refine s8 ?_
 refine L_load rfl rfl (RdC.hole (X:=X0) mm) one142.h rfl ?_
 refine s4 ?_
 refine W_while (σ:=(TL ByteArray)×Int) GT.dat (fun ((v3_0,v3_1):(TL ByteArray)×Int)=>[(3,(TL.hdr v3_0)),(12,.int .i64 v3_1)]) (fun ((v3_0,v3_1):(TL ByteArray)×Int)=>[treeH v3_0]) [(10,_),(11,_)] [holeH X0 k0.toNat _,treeH a0_2] (X1,0) hp sb ms ?_
 clear hp
 rintro ⟨v3_0,v3_1⟩ x3 hp hx3
 replace hp:=dd hp
 refine kq [3,10,11,12] ?_
 refine s5 ?_
 refine kp [3,10,11,12,13] ?_
 refine W_cond rfl (fun q4=>?_) (fun q4=>?_)
 ·replace hp:=cond_t q4 hp
  refine s5 ?_
  replace hp:=idx_bind hp;obtain ⟨⟨u5_1,u5_2,u5_3⟩,hy5,hp⟩:=hp
  refine L_idxA (X:=a0_2) rfl rfl rfl el142.h (RdT.tree mm) hy5 ?_
  refine L_loadW rfl rfl (RdT.at (RdT.tree mm) (hy5).2) (by exact agg147.h) ?_
  refine al fun bk5=>?_
  refine s6 ?_
  replace hp:=ba hp;obtain ⟨y6,hy6,hp⟩:=hp
  refine L_binV rfl rfl rfl (bv_saddP hy6) ?_
  refine s2 ?_
  replace hp:=ba hp;obtain ⟨y7,hy7,hp⟩:=hp
  refine L_binV rfl rfl rfl (bv_saddP hy7) ?_
  refine L_buildSlice1 rfl rfl el65.h rfl (by decide) (by decide) rfl (fun bb23=>?_)
  replace hp:=ba hp;obtain ⟨y9,hy9,hp⟩:=hp
  refine L_app1F (X:=v3_0) (y7:ByteArray) rfl rfl rfl el65.h rfl rfl pk mm  hy9 (by decide) (fun X8 hdX8=>?_)
  subst hdX8
  refine s6 ?_
  exact ⟨(X8,IntKind.wrap .i64 (v3_1+1)),sb,(.sub ms),some_eq hp⟩
 ·replace hp:=cond_f q4 hp
  refine W_exit ?_
  replace hp:=map_any hp;obtain ⟨a10,hp,z_10⟩:=hp
  obtain rfl:=hx3 _ z_10
  refine s3 ?_
  replace hp:=ba hp;obtain ⟨y11,hy11,hp⟩:=hp
  refine L_callX rfl fn227.h rfl (by exact fun w hw=>i_spaced_walk w v3_0 (RdT.now (RdT.tree mm) hw) _ hy11) ?_
  refine s2 ?_
  obtain rfl:=sj hp
  refine s1 ?_
  refine res1 rfl (ResOK.tmp rfl) ⟨y11,(a0_1,a0_2),rfl,rfl,rfl⟩ ms
noncomputable def i_CatDo (a0:D_Catalog) (a1:D_Cmd):Option (D_Catalog×ByteArray) :=
 Option.bind (i_copyCatalog a0) (fun y1=>Option.bind (i_CatOk a0) (fun y2=>cond (!y2) (some (([]:List D_CSet),ByteArray.empty)) (Option.bind (i_CmdOk (a1.1,a1.2.1,a1.2.2.1,a1.2.2.2.1,a1.2.2.2.2.1,a1.2.2.2.2.2.1,a1.2.2.2.2.2.2.1,a1.2.2.2.2.2.2.2)) (fun y4=>cond (!y4) (some (y1,ByteArray.empty)) (cond (decide (a1.1=0)) (some (y1,ByteArray.empty)) (cond (decide (a1.1=1)) (Option.bind (i_Catalog_create y1 a1.2.2.2.1) (fun y8=>some (y8.2,y8.1))) (cond (decide (a1.1=7)) (Option.bind (i_Catalog_list y1) (fun y10=>some (y1,y10))) (Option.bind (i_Catalog_set a0 a1.2.2.2.1) (fun y11=>cond (decide (y11 < 0)) (some (y1,(ByteArray.mk #[110,111,110,101]))) (cond (decide (a1.1=2)) (Option.bind (delP y1 y11 (IntKind.wrap .i64 (y11+1))) (fun y14=>some (y14,(ByteArray.mk #[111,107])))) (cond (decide (a1.1=3)) (Option.bind (idx y1 y11) (fun y16=>Option.bind (i_CSet_commit (y16.1,y16.2) (a1.1,a1.2.1,a1.2.2.1,a1.2.2.2.1,a1.2.2.2.2.1,a1.2.2.2.2.2.1,a1.2.2.2.2.2.2.1,a1.2.2.2.2.2.2.2)) (fun y17=>Option.bind (some (y1.set (y11.toNat) (y17.2.1,y17.2.2))) (fun y18=>some (y18,y17.1))))) (cond (decide (a1.1=4)) (Option.bind (idx y1 y11) (fun y21=>Option.bind (i_CSet_tag (y21.1,y21.2) (a1.1,a1.2.1,a1.2.2.1,a1.2.2.2.1,a1.2.2.2.2.1,a1.2.2.2.2.2.1,a1.2.2.2.2.2.2.1,a1.2.2.2.2.2.2.2)) (fun y22=>Option.bind (some (y1.set (y11.toNat) (y22.2.1,y22.2.2))) (fun y23=>some (y23,y22.1))))) (cond (decide (a1.1=5)) (Option.bind (idx y1 y11) (fun y26=>Option.bind (i_CSet_prune (y26.1,y26.2) a1.2.2.2.2.2.2.1) (fun y27=>Option.bind (some (y1.set (y11.toNat) (y27.2.1,y27.2.2))) (fun y28=>some (y28,y27.1))))) (Option.bind (idx y1 y11) (fun y30=>Option.bind (i_CSet_told (y30.1,y30.2)) (fun y31=>Option.bind (some (y1.set (y11.toNat) (y31.2.1,y31.2.2))) (fun y32=>some (y32,y31.1))))))))))))))))))
theorem i_CatDo_walk (w:World) (a0:T_Catalog) (a1:T_Cmd) (h0:GT.rd w [] a0) (h1:GT.rd w [] a1) (r:D_Catalog×ByteArray) (hp:i_CatDo (GT.dat a0) (GT.dat a1)=some r):Spec Tryz.prog 132 [.agg (GT.cells a0).toArray,.agg (GT.cells a1).toArray].toArray w [] (fun v M=>∃ (x0:T_Catalog) (x1:ByteArray),v=.tuple #[.agg (GT.cells x0).toArray,.string x1]∧(GT.dat x0,GT.dat x1)=r∧M=[treeH x0]):=by
 obtain ⟨a1_1,a1_2,a1_3,a1_4,a1_5,a1_6,a1_7,a1_8⟩:=a1
 change Spec _ _ ([Value.agg #[(TL.hdr a0)],Value.agg #[.int .i64 a1_1,.int .i64 a1_2,.int .i64 a1_3,.string a1_4,.string a1_5,.string a1_6,.int .i64 a1_7,(TL.hdr a1_8)]]:List Value).toArray w [] _
 refine Spec.intro Tryz.func132 rfl Tryz.ntmps132 rfl ?_
 unfold i_CatDo at hp
 replace hp:=dd hp
 refine s2 ?_
 refine bx fun bk2=>?_
 refine bx fun bk3=>?_
 refine al fun bk4=>?_
 refine s5 ?_
 replace hp:=ba hp;obtain ⟨y1,hy1,hp⟩:=hp
 refine L_callR rfl fn184.h rfl (by exact fun w hw=>i_copyCatalog_walk w a0 (RdT.now (RdT.old h0) hw) _ hy1) ?_
 rintro _ _ ⟨y1x0,rfl,rfl,rfl⟩
 refine sc ?_
 replace hp:=dd hp
 refine al fun bk6=>?_
 refine s7 ?_
 replace hp:=ba hp;obtain ⟨y2,hy2,hp⟩:=hp
 refine L_callX rfl fn185.h rfl (by exact fun w hw=>i_CatOk_walk w a0 (RdT.now (RdT.old h0) hw) _ hy2) ?_
 refine s3 ?_
 refine kp [2,3,4,6,12] ?_
 refine W_cond rfl (fun q3=>?_) (fun q3=>?_)
 ·replace hp:=cond_t q3 hp
  refine s2 ?_
  refine L_build (xs:=[]) (cs:=[(TL.hdr (TL.nil T_CSet 0))]) rfl rfl bld41.h rfl ?_
  refine s3 ?_
  obtain rfl:=sj hp
  refine W_conv (M':=treeH (TL.nil T_CSet 0)::_) (fun w h=>addNilT (τ:=T_CSet) 0 h) ?_
  refine s1 ?_
  refine res2 rfl (ResOK.cell rfl mm (by exact agg41.h)) (ResOK.tmp rfl) ⟨(TL.nil T_CSet 0),ByteArray.empty,rfl,rfl,rfl⟩ ms
 ·replace hp:=cond_f q3 hp
  refine s3 ?_
  replace hp:=ba hp;obtain ⟨y4,hy4,hp⟩:=hp
  refine L_callX rfl fn129.h rfl (by exact fun w hw=>i_CmdOk_walk w (a1_1,a1_2,a1_3,a1_4,a1_5,a1_6,a1_7,a1_8) (RdT.now (RdT.pair RdT.int (RdT.pair RdT.int (RdT.pair RdT.int (RdT.pair RdT.str (RdT.pair RdT.str (RdT.pair RdT.str (RdT.pair RdT.int (RdT.old h1.2.2.2.2.2.2.2)))))))) hw) _ hy4) ?_
  refine s3 ?_
  refine kp [2,3,4,6,17] ?_
  refine W_cond rfl (fun q5=>?_) (fun q5=>?_)
  ·replace hp:=cond_t q5 hp
   refine s6 ?_
   obtain rfl:=sj hp
   refine s1 ?_
   refine res2 rfl (ResOK.cell rfl mm (by exact agg41.h)) (ResOK.tmp rfl) ⟨y1x0,ByteArray.empty,rfl,rfl,rfl⟩ ms
  ·replace hp:=cond_f q5 hp
   refine s7 ?_
   refine kp [2,3,4,6,22] ?_
   refine W_cond rfl (fun q6=>?_) (fun q6=>?_)
   ·replace hp:=cond_t q6 hp
    refine s6 ?_
    obtain rfl:=sj hp
    refine s1 ?_
    refine res2 rfl (ResOK.cell rfl mm (by exact agg41.h)) (ResOK.tmp rfl) ⟨y1x0,ByteArray.empty,rfl,rfl,rfl⟩ ms
   ·replace hp:=cond_f q6 hp
    refine s7 ?_
    refine kp [2,3,4,6,27] ?_
    refine W_cond rfl (fun q7=>?_) (fun q7=>?_)
    ·replace hp:=cond_t q7 hp
     refine s4 ?_
     replace hp:=ba hp;obtain ⟨y8,hy8,hp⟩:=hp
     refine L_callM [blk bk6 _ _,treeH y1x0] _ rfl fn189.h rfl pc (by exact fun w hw=>i_Catalog_create_walk w bk6 y1x0 a1_4  _ hy8) ?_
     rintro _ _ ⟨y8x0,y8y0,rfl,rfl,rfl⟩
     refine sc ?_
     replace hp:=dd hp
     refine s9 ?_
     obtain rfl:=sj hp
     refine s1 ?_
     refine res2 rfl (ResOK.cell rfl mm (by exact agg41.h)) (ResOK.tmp rfl) ⟨y8y0,y8x0,rfl,rfl,rfl⟩ ms
    ·replace hp:=cond_f q7 hp
     refine s7 ?_
     refine kp [2,3,4,6,36] ?_
     refine W_cond rfl (fun q9=>?_) (fun q9=>?_)
     ·replace hp:=cond_t q9 hp
      refine s1 ?_
      replace hp:=ba hp;obtain ⟨y10,hy10,hp⟩:=hp
      refine W_DS (pre:=[_,_]) (suf:=[_,_]) [40,41] [] _ pc mix (by kernel_rfl) (by kernel_rfl) rfl ?_
      refine s1 ?_
      refine D_callX GC.none fn190.h (OpVs.cons (OpV.t rfl) (OpVs.nil)) (by exact fun hg w F hF hM=>i_Catalog_list_walk w bk6 y1x0 (cells_of_blk (hM _ mm) hF.sees) (RdT.nowS (RdT.tree mm) hF hM) _ hy10) ?_
      refine s7 ?_
      obtain rfl:=sj hp
      refine s1 ?_
      refine res2 rfl (ResOK.cell rfl mm (by exact agg41.h)) (ResOK.tmp rfl) ⟨y1x0,y10,rfl,rfl,rfl⟩ ms
     ·replace hp:=cond_f q9 hp
      refine s6 ?_
      replace hp:=ba hp;obtain ⟨y11,hy11,hp⟩:=hp
      refine L_callX rfl fn191.h rfl (by exact fun w hw=>i_Catalog_set_walk w a0 a1_4 (RdT.now (RdT.old h0) hw) _ hy11) ?_
      refine s8 ?_
      refine kp [3,4,6,8,47] ?_
      refine W_cond rfl (fun q12=>?_) (fun q12=>?_)
      ·replace hp:=cond_t q12 hp
       refine s6 ?_
       obtain rfl:=sj hp
       refine s1 ?_
       refine res2 rfl (ResOK.cell rfl mm (by exact agg41.h)) (ResOK.tmp rfl) ⟨y1x0,(ByteArray.mk #[110,111,110,101]),rfl,rfl,rfl⟩ ms
      ·replace hp:=cond_f q12 hp
       refine s17 ?_
       refine kp [3,4,6,8,9,50,56] ?_
       refine W_cond rfl (fun q13=>?_) (fun q13=>?_)
       ·replace hp:=cond_t q13 hp
        refine s6 ?_
        replace hp:=ba hp;obtain ⟨y14,hy14,hp⟩:=hp
        refine L_callM [treeH y1x0] _ rfl fn192.h rfl pc (by exact fun w hw=>sl_Delete_implCSetimplCSet_walk w y1x0 y11 (IntKind.wrap .i64 (y11+1))  _ hy14) ?_
        rintro _ _ ⟨y14x0,rfl,rfl,rfl⟩
        refine sc ?_
        replace hp:=dd hp
        refine s10 ?_
        obtain rfl:=sj hp
        refine s1 ?_
        refine res2 rfl (ResOK.cell rfl mm (by exact agg41.h)) (ResOK.tmp rfl) ⟨y14x0,(ByteArray.mk #[111,107]),rfl,rfl,rfl⟩ ms
       ·replace hp:=cond_f q13 hp
        refine s5 ?_
        refine kp [3,4,6,8,50,65] ?_
        refine W_cond rfl (fun q15=>?_) (fun q15=>?_)
        ·replace hp:=cond_t q15 hp
         replace hp:=idx_bind hp;obtain ⟨⟨u16_1,u16_2⟩,hy16,hp⟩:=hp
         refine W_DS (pre:=[_,_,_,_,_]) (suf:=[_,_]) [70,71] [] _ pc mix (by kernel_rfl) (by kernel_rfl) rfl ?_
         refine s3 ?_
         refine D_idxA (X:=y1x0) GC.none (OpV.t rfl) (OpV.t rfl) el39.h (RdT.tree mm) (fun _=>hy16) ?_
         refine s8 ?_
         refine L_conv (M':=treeH (u16_1,u16_2)::holeH y1x0 (y11.toNat) (GT.cells (u16_1,u16_2))::_) (fun w h=>hole_open hy16.2 pk h) ?_
         refine xL ((u16_1,u16_2):T_CSet) ?_
         replace hp:=ba hp;obtain ⟨y17,hy17,hp⟩:=hp
         refine L_callM [holeH y1x0 (y11.toNat) _,treeH u16_2] _ rfl fn193.h rfl pc (by exact fun w hw=>i_CSet_commit_walk w y1x0 y11 (u16_1,u16_2) (a1_1,a1_2,a1_3,a1_4,a1_5,a1_6,a1_7,a1_8) ((RdX.pair RdX.int (RdX.pair RdX.int (RdX.pair RdX.int (RdX.pair RdX.str (RdX.pair RdX.str (RdX.pair RdX.str (RdX.pair RdX.int (RdX.old h1.2.2.2.2.2.2.2)))))))) w hw) _ hy17) ?_
         rintro _ _ ⟨y17x0,⟨y17y0_1,y17y0_2⟩,rfl,rfl,rfl⟩
         refine sc ?_
         replace hp:=dd hp
         refine s1 ?_
         refine jL ((y17y0_1,y17y0_2):T_CSet) ?_
         replace hp:=ba hp;obtain ⟨y18,hy18,hp⟩:=hp
         refine L_close (X:=y1x0) ((y17y0_1,y17y0_2):T_CSet) rfl pk pk hy18 (fun X19 hdX19 hhX19=>?_)
         subst hdX19
         try rw [← hhX19]
         try rw [← g_of_hdr hhX19]
         try rw [← o_of_hdr hhX19]
         refine s8 ?_
         obtain rfl:=sj hp
         refine s1 ?_
         refine res2 rfl (ResOK.cell rfl mm (by exact agg41.h)) (ResOK.tmp rfl) ⟨X19,y17x0,rfl,rfl,rfl⟩ ms
        ·replace hp:=cond_f q15 hp
         refine s5 ?_
         refine kp [3,4,6,8,50,73] ?_
         refine W_cond rfl (fun q20=>?_) (fun q20=>?_)
         ·replace hp:=cond_t q20 hp
          replace hp:=idx_bind hp;obtain ⟨⟨u21_1,u21_2⟩,hy21,hp⟩:=hp
          refine W_DS (pre:=[_,_,_,_,_]) (suf:=[_,_]) [78,79] [] _ pc mix (by kernel_rfl) (by kernel_rfl) rfl ?_
          refine s3 ?_
          refine D_idxA (X:=y1x0) GC.none (OpV.t rfl) (OpV.t rfl) el39.h (RdT.tree mm) (fun _=>hy21) ?_
          refine s8 ?_
          refine L_conv (M':=treeH (u21_1,u21_2)::holeH y1x0 (y11.toNat) (GT.cells (u21_1,u21_2))::_) (fun w h=>hole_open hy21.2 pk h) ?_
          refine xL ((u21_1,u21_2):T_CSet) ?_
          replace hp:=ba hp;obtain ⟨y22,hy22,hp⟩:=hp
          refine L_callM [holeH y1x0 (y11.toNat) _,treeH u21_2] _ rfl fn194.h rfl pc (by exact fun w hw=>i_CSet_tag_walk w y1x0 y11 (u21_1,u21_2) (a1_1,a1_2,a1_3,a1_4,a1_5,a1_6,a1_7,a1_8) ((RdX.pair RdX.int (RdX.pair RdX.int (RdX.pair RdX.int (RdX.pair RdX.str (RdX.pair RdX.str (RdX.pair RdX.str (RdX.pair RdX.int (RdX.old h1.2.2.2.2.2.2.2)))))))) w hw) _ hy22) ?_
          rintro _ _ ⟨y22x0,⟨y22y0_1,y22y0_2⟩,rfl,rfl,rfl⟩
          refine sc ?_
          replace hp:=dd hp
          refine s1 ?_
          refine jL ((y22y0_1,y22y0_2):T_CSet) ?_
          replace hp:=ba hp;obtain ⟨y23,hy23,hp⟩:=hp
          refine L_close (X:=y1x0) ((y22y0_1,y22y0_2):T_CSet) rfl pk pk hy23 (fun X24 hdX24 hhX24=>?_)
          subst hdX24
          try rw [← hhX24]
          try rw [← g_of_hdr hhX24]
          try rw [← o_of_hdr hhX24]
          refine s8 ?_
          obtain rfl:=sj hp
          refine s1 ?_
          refine res2 rfl (ResOK.cell rfl mm (by exact agg41.h)) (ResOK.tmp rfl) ⟨X24,y22x0,rfl,rfl,rfl⟩ ms
         ·replace hp:=cond_f q20 hp
          refine s5 ?_
          refine kp [3,4,6,8,81] ?_
          refine W_cond rfl (fun q25=>?_) (fun q25=>?_)
          ·replace hp:=cond_t q25 hp
           replace hp:=idx_bind hp;obtain ⟨⟨u26_1,u26_2⟩,hy26,hp⟩:=hp
           refine W_DS (pre:=[_,_,_,_,_,_]) (suf:=[_,_]) [86,88] [] _ pc mix (by kernel_rfl) (by kernel_rfl) rfl ?_
           refine s3 ?_
           refine D_idxA (X:=y1x0) GC.none (OpV.t rfl) (OpV.t rfl) el39.h (RdT.tree mm) (fun _=>hy26) ?_
           refine s10 ?_
           refine L_conv (M':=treeH (u26_1,u26_2)::holeH y1x0 (y11.toNat) (GT.cells (u26_1,u26_2))::_) (fun w h=>hole_open hy26.2 pk h) ?_
           refine xL ((u26_1,u26_2):T_CSet) ?_
           replace hp:=ba hp;obtain ⟨y27,hy27,hp⟩:=hp
           refine L_callM [holeH y1x0 (y11.toNat) _,treeH u26_2] _ rfl fn195.h rfl pc (by exact fun w hw=>i_CSet_prune_walk w y1x0 y11 (u26_1,u26_2) a1_7  _ hy27) ?_
           rintro _ _ ⟨y27x0,⟨y27y0_1,y27y0_2⟩,rfl,rfl,rfl⟩
           refine sc ?_
           replace hp:=dd hp
           refine s1 ?_
           refine jL ((y27y0_1,y27y0_2):T_CSet) ?_
           replace hp:=ba hp;obtain ⟨y28,hy28,hp⟩:=hp
           refine L_close (X:=y1x0) ((y27y0_1,y27y0_2):T_CSet) rfl pk pk hy28 (fun X29 hdX29 hhX29=>?_)
           subst hdX29
           try rw [← hhX29]
           try rw [← g_of_hdr hhX29]
           try rw [← o_of_hdr hhX29]
           refine s8 ?_
           obtain rfl:=sj hp
           refine s1 ?_
           refine res2 rfl (ResOK.cell rfl mm (by exact agg41.h)) (ResOK.tmp rfl) ⟨X29,y27x0,rfl,rfl,rfl⟩ ms
          ·replace hp:=cond_f q25 hp
           refine s4 ?_
           replace hp:=idx_bind hp;obtain ⟨⟨u30_1,u30_2⟩,hy30,hp⟩:=hp
           refine L_idxA (X:=y1x0) rfl rfl rfl el39.h (RdT.tree mm) hy30 ?_
           refine L_conv (M':=treeH (u30_1,u30_2)::holeH y1x0 (y11.toNat) (GT.cells (u30_1,u30_2))::_) (fun w h=>hole_open hy30.2 pk h) ?_
           refine xL ((u30_1,u30_2):T_CSet) ?_
           replace hp:=ba hp;obtain ⟨y31,hy31,hp⟩:=hp
           refine L_callM [holeH y1x0 (y11.toNat) _,treeH u30_2] _ rfl fn196.h rfl pc (by exact fun w hw=>i_CSet_told_walk w y1x0 y11 (u30_1,u30_2)  _ hy31) ?_
           rintro _ _ ⟨y31x0,⟨y31y0_1,y31y0_2⟩,rfl,rfl,rfl⟩
           refine sc ?_
           replace hp:=dd hp
           refine s1 ?_
           refine jL ((y31y0_1,y31y0_2):T_CSet) ?_
           replace hp:=ba hp;obtain ⟨y32,hy32,hp⟩:=hp
           refine L_close (X:=y1x0) ((y31y0_1,y31y0_2):T_CSet) rfl pk pk hy32 (fun X33 hdX33 hhX33=>?_)
           subst hdX33
           try rw [← hhX33]
           try rw [← g_of_hdr hhX33]
           try rw [← o_of_hdr hhX33]
           refine s8 ?_
           obtain rfl:=sj hp
           refine s1 ?_
           refine res2 rfl (ResOK.cell rfl mm (by exact agg41.h)) (ResOK.tmp rfl) ⟨X33,y31x0,rfl,rfl,rfl⟩ ms
end Go.Proofs.SL
