/- The texts of the proof, part 16: the base, walks of functions, plain Lean. -/
import Derived.Test.YthlbpedehajlgaaGreatT9
import Derived.Test.YthlbpedehajlgaaGreatT15
import Derived.Test.YthlbpedehajlgaaGreatT5
namespace Go.Proofs.SL
open Go
variable {Γ:Cx} {ops:Array Oper} {Msh pool:List HP} {E:Fl} {rs:List (Option Nat×Rel)} {cs0:List Nat} {rest:List Oper} {KD:RKont} {d:Nat} {ty:TypeId} {af:Array Edge} {pos:String} {gd:Option (Nat×Bool)}
theorem D_fieldVG {t:Nat} {T:TypeId} {fi fo:Nat} {c:Prop} {R:Rel} (x:Value) (hR:E.lookup t=some (GR c R))
  (hg:GC ops (dropE [t] E) { dst:=some d,op:=.field T (.tmp t) fi,type:=ty,pos:=pos,after:=af,guard:=gd } c)
  (ht:fld1 Γ.P T fi=some fo) (hh:∀ v M,R v M→∃ cs:List Value,v=.agg cs.toArray∧cs[fo]?=some x)
  (hlin:linB ops { dst:=some d,op:=.field T (.tmp t) fi,type:=ty,pos:=pos,after:=af,guard:=gd } [t]=true)
  (hk:DV Γ ops Msh pool ((d,FC c x)::dropE [t] E) ((some d,FC c x)::rs) ([t]++cs0) rest KD) :
  DV Γ ops Msh pool E rs cs0 ({ dst:=some d,op:=.field T (.tmp t) fi,type:=ty,pos:=pos,after:=af,guard:=gd }::rest) KD:=by
 refine DV.mk (FC c x) [] pool [t] (by simp) hlin ?_ hk
 intro a w F Mk _ _ hw hm hfa hcf
 obtain ⟨Mx,Mk',rfl,hRR,hnil⟩:=hcf
 have hnil:Mk'=[]:=hnil
 subst hnil
 have h1:=hRR _ hR
 have hgc:=hg a F hfa
 split
 ·rename_i hwt
  have hcc:=hgc.1 hwt
  obtain ⟨cs,hv,h2⟩:=hh _ _ (h1.1 hcc)
  have e1:a.eval (.tmp t)=.agg cs.toArray:=hv
  have h3:(execOp a.eval { dst:=some d,op:=.field T (.tmp t) fi,type:=ty,pos:=pos,after:=af,guard:=gd }).run Γ.P w=.ok (.value x) w:=by
   simp [execOp,e1,run_fieldV ht h2 w]
  rw [h3]
  refine ⟨[],⟨rfl,fun _=>rfl,fun hn=>(hn hcc).elim⟩,?_⟩
  exact hw.sub ⟨Mx,by simpa using List.perm_append_comm⟩
 ·rename_i hwt
  have hnc:¬ c:=fun hc=>hwt (hgc.2 hc)
  have hM:=(h1.2 hnc).2
  subst hM
  exact ⟨rfl,fun hc=>(hnc hc).elim,fun _=>rfl⟩
end Go.Proofs.SL
namespace Go.Proofs.SL
open Go
set_option maxHeartbeats 2000000
instance el22:ElF Tryz.prog 22 5 1 1 [.int .u8 0]:=⟨by kernel_rfl⟩
instance one5:OneF Tryz.prog 5:=⟨by kernel_rfl⟩
instance und5:UndF Tryz.prog 5 (.int .u8):=⟨by kernel_rfl⟩
instance fn15:FnF Tryz.prog 15:=⟨_,Tryz.func15,by kernel_rfl,rfl⟩
instance fn35:FnF Tryz.prog 35:=⟨_,Tryz.func35,by kernel_rfl,rfl⟩
instance bld40:BldF Tryz.prog 40 [(0,1),(1,1),(2,1),(3,2),(5,8)] [.int .i64 0,.int .i64 0,.int .i64 0,.int .i64 0,.int .i64 0,.int .i64 0,.int .i64 0,.int .i64 0,.string ByteArray.empty,.string ByteArray.empty,.string ByteArray.empty,.int .i64 0,.slice none 0 0]:=⟨by kernel_rfl⟩
instance fn9:FnF Tryz.prog 9:=⟨_,Tryz.func9,by kernel_rfl,rfl⟩
instance fn42:FnF Tryz.prog 42:=⟨_,Tryz.func42,by kernel_rfl,rfl⟩
instance fn6:FnF Tryz.prog 6:=⟨_,Tryz.func6,by kernel_rfl,rfl⟩
instance fn14:FnF Tryz.prog 14:=⟨_,Tryz.func14,by kernel_rfl,rfl⟩
instance fn16:FnF Tryz.prog 16:=⟨_,Tryz.func16,by kernel_rfl,rfl⟩
instance fn17:FnF Tryz.prog 17:=⟨_,Tryz.func17,by kernel_rfl,rfl⟩
instance fn18:FnF Tryz.prog 18:=⟨_,Tryz.func18,by kernel_rfl,rfl⟩
noncomputable def w_big (a0:List UInt8):Option Bool :=
 some (decide (1048576 < (a0.length:Int)))
theorem w_big_walk (w:World) (a0:TL UInt8) (h0:GT.rd w [] a0) (r:Bool) (hp:w_big (GT.dat a0)=some r):Spec Tryz.prog 6 [(TL.hdr a0)].toArray w [] (IsV (.bool r)):=by
 refine Spec.intro Tryz.func6 rfl Tryz.ntmps6 rfl ?_
 unfold w_big at hp
 replace hp:=dd hp
 refine s11 ?_
 obtain rfl:=sj hp
 refine s1 ?_
 refine res1 rfl (ResOK.tmp rfl) ⟨rfl,rfl⟩ ms
noncomputable def w_at (a0:List UInt8) (a1:Int):Option Int :=
 cond (decide (a1 < (a0.length:Int))) (Option.bind (idx a0 a1) (fun y2=>some (IntKind.wrap .i64 (y2.toNat:Int)))) (some ((IntKind.wrap .i64 (IntKind.wrap .i64 (a1*37)+IntKind.wrap .i64 ((a0.length:Int)*11))).tmod 256))
theorem w_at_walk (w:World) (a0:TL UInt8) (a1:Int) (h0:GT.rd w [] a0) (r:Int) (hp:w_at (GT.dat a0) a1=some r):Spec Tryz.prog 15 [(TL.hdr a0),.int .i64 a1].toArray w [] (IsV (.int .i64 r)):=by
 refine Spec.intro Tryz.func15 rfl Tryz.ntmps15 rfl ?_
 unfold w_at at hp
 replace hp:=dd hp
 refine s12 ?_
 refine kp [0,1,8] ?_
 refine W_cond rfl (fun q1=>?_) (fun q1=>?_)
 ·replace hp:=cond_t q1 hp
  refine s4 ?_
  replace hp:=idx_bind hp;obtain ⟨u2,hy2,hp⟩:=hp
  refine L_idxA (X:=a0) rfl rfl rfl el22.h (RdT.old h0) hy2 ?_
  refine L_load0 rfl rfl (RdT.at (RdT.old h0) (hy2).2) one5.h rfl ?_
  refine L_convInt rfl rfl und3.h (by rw [und5.h];rfl) ?_
  refine s2 ?_
  obtain rfl:=sj hp
  refine s1 ?_
  refine res1 rfl (ResOK.tmp rfl) ⟨rfl,rfl⟩ ms
 ·replace hp:=cond_f q1 hp
  refine s12 ?_
  obtain rfl:=sj hp
  refine s1 ?_
  refine res1 rfl (ResOK.tmp rfl) ⟨rfl,rfl⟩ ms
noncomputable def w_cmdOf (a0:List UInt8) (a1:Int):Option D_Cmd :=
 Option.bind (some ([1,1,6,2,7]:List Int)) (fun y1=>Option.bind (w_at a0 (IntKind.wrap .i64 (3*a1))) (fun y3=>Option.bind (idx y1 ((y3).tmod 5)) (fun y4=>cond (!decide (y4=7)) (Option.bind (some ([(ByteArray.mk #[97]),(ByteArray.mk #[98])]:List ByteArray)) (fun y6=>Option.bind (w_at a0 (IntKind.wrap .i64 (IntKind.wrap .i64 (3*a1)+1))) (fun y8=>Option.bind (idx y6 ((y8).tmod 2)) (fun y9=>some (y4,IntKind.wrap .i64 (1+(a1).tmod 9),1,y9,ByteArray.empty,ByteArray.empty,0,([]:List ByteArray)))))) (some (y4,IntKind.wrap .i64 (1+(a1).tmod 9),1,ByteArray.empty,ByteArray.empty,ByteArray.empty,0,([]:List ByteArray))))))
theorem w_cmdOf_walk (w:World) (a0:TL UInt8) (a1:Int) (h0:GT.rd w [] a0) (r:D_Cmd) (hp:w_cmdOf (GT.dat a0) a1=some r):Spec Tryz.prog 14 [(TL.hdr a0),.int .i64 a1].toArray w [] (fun v M=>∃ (x0:T_Cmd),v=.agg (GT.cells x0).toArray∧GT.dat x0=r∧M=[treeH x0]):=by
 refine Spec.intro Tryz.func14 rfl Tryz.ntmps14 rfl ?_
 unfold w_cmdOf at hp
 replace hp:=dd hp
 refine s2 ?_
 refine al fun bk4=>?_
 refine s3 ?_
 replace hp:=ba hp;obtain ⟨y1,hy1,hp⟩:=hp
 refine L_bsN ([1,1,6,2,7]:List Int) (xs:=[(0,.const (.int .i64 1)),(1,.const (.int .i64 1)),(2,.const (.int .i64 6)),(3,.const (.int .i64 2)),(4,.const (.int .i64 7))]) rfl rfl el78.h rfl rfl rfl rfl rfl rfl rfl hy1 (fun X2 hdX2=>?_)
 subst hdX2
 refine s8 ?_
 replace hp:=ba hp;obtain ⟨y3,hy3,hp⟩:=hp
 refine L_callX rfl fn15.h rfl (by exact fun w hw=>w_at_walk w a0 (IntKind.wrap .i64 (3*a1)) (RdT.now (RdT.old h0) hw) _ hy3) ?_
 refine s1 ?_
 replace hp:=idx_bind hp;obtain ⟨u4,hy4,hp⟩:=hp
 refine L_idxA (X:=X2) rfl rfl rfl el78.h (RdT.tree mm) hy4 ?_
 refine L_load0 rfl rfl (RdT.at (RdT.tree mm) (hy4).2) one3.h rfl ?_
 refine s3 ?_
 refine L_build (xs:=[(0,.tmp 15),(1,.tmp 18),(2,.const (.int .i64 1))]) (cs:=[.int .i64 u4,.int .i64 (IntKind.wrap .i64 (1+(a1).tmod 9)),.int .i64 1,.string ByteArray.empty,.string ByteArray.empty,.string ByteArray.empty,.int .i64 0,(TL.hdr (TL.nil ByteArray 0))]) rfl rfl bld38.h rfl ?_
 refine al fun bk6=>?_
 refine s9 ?_
 refine kp [0,1,4,6,22] ?_
 refine W_cond rfl (fun q5=>?_) (fun q5=>?_)
 ·replace hp:=cond_t q5 hp
  refine s1 ?_
  replace hp:=ba hp;obtain ⟨y6,hy6,hp⟩:=hp
  refine L_bsN ([(ByteArray.mk #[97]),(ByteArray.mk #[98])]:List ByteArray) (xs:=[(0,.const (.string (ByteArray.mk #[97]))),(1,.const (.string (ByteArray.mk #[98])))]) rfl rfl el36.h rfl rfl rfl rfl rfl rfl rfl hy6 (fun X7 hdX7=>?_)
  subst hdX7
  refine s4 ?_
  replace hp:=ba hp;obtain ⟨y8,hy8,hp⟩:=hp
  refine L_callX rfl fn15.h rfl (by exact fun w hw=>w_at_walk w a0 (IntKind.wrap .i64 (IntKind.wrap .i64 (3*a1)+1)) (RdT.now (RdT.old h0) hw) _ hy8) ?_
  refine s1 ?_
  replace hp:=idx_bind hp;obtain ⟨u9,hy9,hp⟩:=hp
  refine L_idxA (X:=X7) rfl rfl rfl el36.h (RdT.tree mm) hy9 ?_
  refine L_load0 rfl rfl (RdT.at (RdT.tree mm) (hy9).2) one9.h rfl ?_
  refine s8 ?_
  obtain rfl:=sj hp
  refine W_conv (M':=treeH (TL.nil ByteArray 0)::_) (fun w h=>addNilT (τ:=ByteArray) 0 h) ?_
  refine jW ((u4,IntKind.wrap .i64 (1+(a1).tmod 9),1,u9,ByteArray.empty,ByteArray.empty,0,(TL.nil ByteArray 0)):T_Cmd) ?_
  refine s1 ?_
  refine res1 rfl (ResOK.cell rfl mm (by exact agg38.h)) ⟨(u4,IntKind.wrap .i64 (1+(a1).tmod 9),1,u9,ByteArray.empty,ByteArray.empty,0,(TL.nil ByteArray 0)),rfl,rfl,rfl⟩ ms
 ·replace hp:=cond_f q5 hp
  refine s6 ?_
  obtain rfl:=sj hp
  refine W_conv (M':=treeH (TL.nil ByteArray 0)::_) (fun w h=>addNilT (τ:=ByteArray) 0 h) ?_
  refine jW ((u4,IntKind.wrap .i64 (1+(a1).tmod 9),1,ByteArray.empty,ByteArray.empty,ByteArray.empty,0,(TL.nil ByteArray 0)):T_Cmd) ?_
  refine s1 ?_
  refine res1 rfl (ResOK.cell rfl mm (by exact agg38.h)) ⟨(u4,IntKind.wrap .i64 (1+(a1).tmod 9),1,ByteArray.empty,ByteArray.empty,ByteArray.empty,0,(TL.nil ByteArray 0)),rfl,rfl,rfl⟩ ms
noncomputable def i_ENetDo (a0:D_ENet) (a1:D_EAct):Option (D_ENet×Bool) :=
 Option.bind (i_ENetOk (a0.1,a0.2)) (fun y1=>cond (!y1) (some ((([]:List D_ENode),([]:List D_EMsg)),false)) (Option.bind (i_netDo (a0.1,a0.2) (a1.1,a1.2.1,a1.2.2.1,(a1.2.2.2.1.1,a1.2.2.2.1.2),(a1.2.2.2.2.1,a1.2.2.2.2.2.1,a1.2.2.2.2.2.2.1,a1.2.2.2.2.2.2.2.1,a1.2.2.2.2.2.2.2.2.1,a1.2.2.2.2.2.2.2.2.2.1,a1.2.2.2.2.2.2.2.2.2.2.1,a1.2.2.2.2.2.2.2.2.2.2.2))) (fun y3=>some ((y3.1.1,y3.1.2),y3.2))))
theorem i_ENetDo_walk (w:World) (a0:T_ENet) (a1:T_EAct) (h0:GT.rd w [] a0) (h1:GT.rd w [] a1) (r:D_ENet×Bool) (hp:i_ENetDo (GT.dat a0) (GT.dat a1)=some r):Spec Tryz.prog 9 [.agg (GT.cells a0).toArray,.agg (GT.cells a1).toArray].toArray w [] (fun v M=>∃ (x0:T_ENet) (x1:Bool),v=.tuple #[.agg (GT.cells x0).toArray,.bool x1]∧(GT.dat x0,GT.dat x1)=r∧M=[treeH x0]):=by
 obtain ⟨a0_1,a0_2⟩:=a0
 obtain ⟨a1_1,a1_2,a1_3,⟨a1_4,a1_5⟩,⟨a1_6,a1_7,a1_8,a1_9,a1_10,a1_11,a1_12,a1_13⟩⟩:=a1
 change Spec _ _ ([Value.agg #[(TL.hdr a0_1),(TL.hdr a0_2)],Value.agg #[.int .i64 a1_1,.int .i64 a1_2,.int .i64 a1_3,.int .i64 a1_4,.int .i64 a1_5,.int .i64 a1_6,.int .i64 a1_7,.int .i64 a1_8,.string a1_9,.string a1_10,.string a1_11,.int .i64 a1_12,(TL.hdr a1_13)]]:List Value).toArray w [] _
 refine Spec.intro Tryz.func9 rfl Tryz.ntmps9 rfl ?_
 unfold i_ENetDo at hp
 replace hp:=dd hp
 refine s2 ?_
 refine bx fun bk2=>?_
 refine bx fun bk3=>?_
 refine al fun bk4=>?_
 refine s6 ?_
 replace hp:=ba hp;obtain ⟨y1,hy1,hp⟩:=hp
 refine L_callX rfl fn35.h rfl (by exact fun w hw=>i_ENetOk_walk w (a0_1,a0_2) (RdT.now (RdT.pair (RdT.old h0.1) (RdT.old h0.2)) hw) _ hy1) ?_
 refine s2 ?_
 refine kp [2,3,4,8] ?_
 refine W_cond rfl (fun q2=>?_) (fun q2=>?_)
 ·replace hp:=cond_t q2 hp
  refine s2 ?_
  refine L_build (xs:=[]) (cs:=[(TL.hdr (TL.nil T_ENode 0)),(TL.hdr (TL.nil T_EMsg 0))]) rfl rfl bld29.h rfl ?_
  refine s3 ?_
  obtain rfl:=sj hp
  refine W_conv (M':=treeH (TL.nil T_ENode 0)::_) (fun w h=>addNilT (τ:=T_ENode) 0 h) ?_
  refine W_conv (M':=treeH (TL.nil T_EMsg 0)::_) (fun w h=>addNilT (τ:=T_EMsg) 0 h) ?_
  refine jW (((TL.nil T_ENode 0),(TL.nil T_EMsg 0)):T_ENet) ?_
  refine s1 ?_
  refine res2 rfl (ResOK.cell rfl mm (by exact agg29.h)) (ResOK.tmp rfl) ⟨((TL.nil T_ENode 0),(TL.nil T_EMsg 0)),false,rfl,rfl,rfl⟩ ms
 ·replace hp:=cond_f q2 hp
  refine s5 ?_
  replace hp:=ba hp;obtain ⟨y3,hy3,hp⟩:=hp
  refine L_callR rfl fn36.h rfl (by exact fun w hw=>i_netDo_walk w (a0_1,a0_2) (a1_1,a1_2,a1_3,(a1_4,a1_5),(a1_6,a1_7,a1_8,a1_9,a1_10,a1_11,a1_12,a1_13)) (RdT.now (RdT.pair (RdT.old h0.1) (RdT.old h0.2)) hw) (RdT.now (RdT.pair RdT.int (RdT.pair RdT.int (RdT.pair RdT.int (RdT.pair (RdT.pair RdT.int RdT.int) (RdT.pair RdT.int (RdT.pair RdT.int (RdT.pair RdT.int (RdT.pair RdT.str (RdT.pair RdT.str (RdT.pair RdT.str (RdT.pair RdT.int (RdT.old h1.2.2.2.2.2.2.2.2.2.2.2)))))))))))) hw) _ hy3) ?_
  rintro _ _ ⟨⟨y3x0_1,y3x0_2⟩,y3x1,rfl,rfl,rfl⟩
  refine sc ?_
  replace hp:=dd hp
  refine xL ((y3x0_1,y3x0_2):T_ENet) ?_
  refine s5 ?_
  obtain rfl:=sj hp
  refine jW ((y3x0_1,y3x0_2):T_ENet) ?_
  refine s1 ?_
  refine res2 rfl (ResOK.cell rfl mm (by exact agg29.h)) (ResOK.tmp rfl) ⟨(y3x0_1,y3x0_2),y3x1,rfl,rfl,rfl⟩ ms
noncomputable def w_settle (a0:D_ENet) (a1:Int):Option D_ENet :=
 whileP (fun s1:Int×(List D_ENode)×(List D_EMsg)=>cond (decide (s1.1 < a1)) (whileP (fun s3:Int×(List D_ENode)×(List D_EMsg)=>cond (decide (s3.1 < (s3.2.2.length:Int))) (Option.bind (i_ENetDo (s3.2.1,s3.2.2) (2,0,s3.1,(0,0),(0,0,0,ByteArray.empty,ByteArray.empty,ByteArray.empty,0,([]:List ByteArray)))) (fun y5=>some (.inl ((IntKind.wrap .i64 (s3.1+1),y5.1.1,y5.1.2))))) (Option.map .inr (some (.inl ((IntKind.wrap .i64 (s1.1+1),s3.2.1,s3.2.2)))))) (0,s1.2.1,s1.2.2)) (Option.map .inr (some (s1.2.1,s1.2.2)))) (0,a0.1,a0.2)
theorem w_settle_walk (w:World) (a0:T_ENet) (a1:Int)  (r:D_ENet) (hp:w_settle (GT.dat a0) a1=some r):Spec Tryz.prog 16 [.agg (GT.cells a0).toArray,.int .i64 a1].toArray w [treeH a0.1,treeH a0.2] (fun v M=>∃ (x0:T_ENet),v=.agg (GT.cells x0).toArray∧GT.dat x0=r∧M=[treeH x0]):=by
 obtain ⟨a0_1,a0_2⟩:=a0
 change Spec _ _ ([Value.agg #[(TL.hdr a0_1),(TL.hdr a0_2)],.int .i64 a1]:List Value).toArray w _ _
 refine Spec.intro Tryz.func16 rfl Tryz.ntmps16 rfl ?_
 unfold w_settle at hp
 replace hp:=dd hp
 refine s2 ?_
 refine bx fun bk2=>?_
 refine al fun bk4=>?_
 refine s7 ?_
 refine W_while (σ:=Int×(TL T_ENode)×(TL T_EMsg)) GT.dat (fun ((v1_0,v1_1,v1_2):Int×(TL T_ENode)×(TL T_EMsg))=>[(5,.int .i64 v1_0)]) (fun ((v1_0,v1_1,v1_2):Int×(TL T_ENode)×(TL T_EMsg))=>[blk bk2 [(TL.hdr v1_1),(TL.hdr v1_2)] 29,treeH v1_1,treeH v1_2]) [(1,_),(2,_),(4,_)] [blk bk4 _ _] (0,a0_1,a0_2) hp sb ms ?_
 clear hp
 rintro ⟨v1_0,v1_1,v1_2⟩ x1 hp hx1
 replace hp:=dd hp
 refine kq [1,2,4,5] ?_
 refine s7 ?_
 refine kp [1,2,4,5,11] ?_
 refine W_cond rfl (fun q2=>?_) (fun q2=>?_)
 ·replace hp:=cond_t q2 hp
  refine s8 ?_
  refine W_while (σ:=Int×(TL T_ENode)×(TL T_EMsg)) GT.dat (fun ((v3_0,v3_1,v3_2):Int×(TL T_ENode)×(TL T_EMsg))=>[(6,.int .i64 v3_0)]) (fun ((v3_0,v3_1,v3_2):Int×(TL T_ENode)×(TL T_EMsg))=>[blk bk2 [(TL.hdr v3_1),(TL.hdr v3_2)] 29,treeH v3_1,treeH v3_2]) [(1,_),(2,_),(4,_),(5,_)] [blk bk4 _ _] (0,v1_1,v1_2) hp sb ms ?_
  clear hp
  rintro ⟨v3_0,v3_1,v3_2⟩ x3 hp hx3
  replace hp:=dd hp
  refine kq [1,2,4,5,6] ?_
  refine s9 ?_
  refine kp [1,2,4,5,6,18] ?_
  refine W_cond rfl (fun q4=>?_) (fun q4=>?_)
  ·replace hp:=cond_t q4 hp
   refine s7 ?_
   refine L_build (xs:=[(0,.const (.int .i64 2)),(2,.tmp 23)]) (cs:=[.int .i64 2,.int .i64 0,.int .i64 v3_0,.int .i64 0,.int .i64 0,.int .i64 0,.int .i64 0,.int .i64 0,.string ByteArray.empty,.string ByteArray.empty,.string ByteArray.empty,.int .i64 0,(TL.hdr (TL.nil ByteArray 0))]) rfl rfl bld40.h rfl ?_
   replace hp:=ba hp;obtain ⟨y5,hy5,hp⟩:=hp
   refine L_callR rfl fn9.h rfl (by exact fun w hw=>i_ENetDo_walk w (v3_1,v3_2) (2,0,v3_0,(0,0),(0,0,0,ByteArray.empty,ByteArray.empty,ByteArray.empty,0,(TL.nil ByteArray 0))) (RdT.now (RdT.pair (RdT.tree mm) (RdT.tree mm)) hw) (RdT.now (RdT.pair RdT.int (RdT.pair RdT.int (RdT.pair RdT.int (RdT.pair (RdT.pair RdT.int RdT.int) (RdT.pair RdT.int (RdT.pair RdT.int (RdT.pair RdT.int (RdT.pair RdT.str (RdT.pair RdT.str (RdT.pair RdT.str (RdT.pair RdT.int (RdT.nil 0)))))))))))) hw) _ hy5) ?_
   rintro _ _ ⟨⟨y5x0_1,y5x0_2⟩,y5x1,rfl,rfl,rfl⟩
   refine sc ?_
   replace hp:=dd hp
   refine xL ((y5x0_1,y5x0_2):T_ENet) ?_
   refine s3 ?_
   refine al fun bk7=>?_
   refine s12 ?_
   exact ⟨(IntKind.wrap .i64 (v3_0+1),y5x0_1,y5x0_2),sb,(.sub ms),some_eq hp⟩
  ·replace hp:=cond_f q4 hp
   refine W_exit ?_
   replace hp:=map_any hp;obtain ⟨a6,hp,z_6⟩:=hp
   obtain rfl:=hx3 _ z_6
   refine s5 ?_
   exact ⟨(IntKind.wrap .i64 (v1_0+1),v3_1,v3_2),sb,(.sub ms),some_eq hp⟩
 ·replace hp:=cond_f q2 hp
  refine W_exit ?_
  replace hp:=map_any hp;obtain ⟨a7,hp,z_7⟩:=hp
  obtain rfl:=hx1 _ z_7
  refine s5 ?_
  obtain rfl:=sj hp
  refine jW ((v1_1,v1_2):T_ENet) ?_
  refine s1 ?_
  refine res1 rfl (ResOK.cell rfl mm (by exact agg29.h)) ⟨(v1_1,v1_2),rfl,rfl,rfl⟩ ms
noncomputable def i_EDone (a0:D_ENet):Option Int :=
 Option.bind (i_ENetOk (a0.1,a0.2)) (fun y1=>cond (!y1) (some 0) (Option.bind (idx a0.1 0) (fun y3=>whileP (fun s4:Int×Int=>cond (decide (s4.2 < (y3.2.2.1.length:Int))) (Option.bind (idx y3.2.2.1 s4.2) (fun y6=>whileP (fun s7:Bool×Int=>cond (decide (s7.2 < (a0.1.length:Int))) (Option.bind (idx a0.1 s7.2) (fun y9=>gb s7.1 (i_InstAt y9.2.2.1 (y6.1.1,y6.1.2)) (fun y10=>some (.inl (((s7.1&&(decide (y10.2.2.2.1=3))),IntKind.wrap .i64 (s7.2+1))))))) (Option.map .inr (cond s7.1 (some (.inl ((IntKind.wrap .i64 (s4.1+1),IntKind.wrap .i64 (s4.2+1))))) (some (.inl ((s4.1,IntKind.wrap .i64 (s4.2+1)))))))) (true,0))) (Option.map .inr (some s4.1))) (0,0))))
theorem i_EDone_walk (w:World) (a0:T_ENet) (h0:GT.rd w [] a0) (r:Int) (hp:i_EDone (GT.dat a0)=some r):Spec Tryz.prog 17 [.agg (GT.cells a0).toArray].toArray w [] (IsV (.int .i64 r)):=by
 obtain ⟨a0_1,a0_2⟩:=a0
 change Spec _ _ ([Value.agg #[(TL.hdr a0_1),(TL.hdr a0_2)]]:List Value).toArray w [] _
 refine Spec.intro Tryz.func17 rfl Tryz.ntmps17 rfl ?_
 unfold i_EDone at hp
 replace hp:=dd hp
 refine s2 ?_
 refine bx fun bk1=>?_
 refine s6 ?_
 replace hp:=ba hp;obtain ⟨y1,hy1,hp⟩:=hp
 refine L_callX rfl fn35.h rfl (by exact fun w hw=>i_ENetOk_walk w (a0_1,a0_2) (RdT.now (RdT.pair (RdT.old h0.1) (RdT.old h0.2)) hw) _ hy1) ?_
 refine s2 ?_
 refine kp [1,11] ?_
 refine W_cond rfl (fun q2=>?_) (fun q2=>?_)
 ·replace hp:=cond_t q2 hp
  refine s4 ?_
  obtain rfl:=sj hp
  refine s1 ?_
  refine res1 rfl (ResOK.tmp rfl) ⟨rfl,rfl⟩ ms
 ·replace hp:=cond_f q2 hp
  refine s10 ?_
  replace hp:=idx_bind hp;obtain ⟨⟨u3_1,u3_2,u3_3,u3_4⟩,hy3,hp⟩:=hp
  refine L_idxA (X:=a0_1) rfl rfl rfl el26.h (RdT.old h0.1) hy3 ?_
  refine s1 ?_
  refine L_load rfl rfl (RdT.at (RdT.old h0.1) (hy3).2) one41.h rfl ?_
  refine s4 ?_
  refine W_while (σ:=Int×Int) GT.dat (fun ((v4_0,v4_1):Int×Int)=>[(3,.int .i64 v4_0),(18,.int .i64 v4_1)]) (fun ((v4_0,v4_1):Int×Int)=>[]) [(1,_),(16,_),(17,_)] [blk bk1 _ _] (0,0) hp sb ms ?_
  clear hp
  rintro ⟨v4_0,v4_1⟩ x4 hp hx4
  replace hp:=dd hp
  refine kq [1,3,16,17,18] ?_
  refine s5 ?_
  refine kp [1,3,16,17,18,19] ?_
  refine W_cond rfl (fun q5=>?_) (fun q5=>?_)
  ·replace hp:=cond_t q5 hp
   refine s5 ?_
   replace hp:=idx_bind hp;obtain ⟨⟨⟨u6_1,u6_2⟩,u6_3,u6_4,u6_5,⟨u6_6,u6_7,u6_8,u6_9,u6_10,u6_11,u6_12,u6_13⟩,u6_14,u6_15,u6_16⟩,hy6,hp⟩:=hp
   refine L_idxA (X:=u3_3) rfl rfl rfl el41.h (RdT.fst (RdT.snd (RdT.snd (RdT.of (RdT.old h0.1) (hy3).2)))) hy6 ?_
   refine L_loadW rfl rfl (RdT.at (RdT.fst (RdT.snd (RdT.snd (RdT.of (RdT.old h0.1) (hy3).2)))) (hy6).2) (by exact agg48.h) ?_
   refine al fun bk5=>?_
   refine s15 ?_
   refine W_while (σ:=Bool×Int) GT.dat (fun ((v7_0,v7_1):Bool×Int)=>[(6,.bool v7_0),(25,.int .i64 v7_1)]) (fun ((v7_0,v7_1):Bool×Int)=>[]) [(1,_),(3,_),(5,_),(16,_),(17,_),(18,_),(23,_),(24,_)] [blk bk1 _ _,blk bk5 _ _] (true,0) hp sb ms ?_
   clear hp
   rintro ⟨v7_0,v7_1⟩ x7 hp hx7
   replace hp:=dd hp
   refine kq [1,3,5,6,16,17,18,23,24,25] ?_
   refine s5 ?_
   refine kp [1,3,5,6,16,17,18,23,24,25,26] ?_
   refine W_cond rfl (fun q8=>?_) (fun q8=>?_)
   ·replace hp:=cond_t q8 hp
    refine s5 ?_
    replace hp:=idx_bind hp;obtain ⟨⟨u9_1,u9_2,u9_3,u9_4⟩,hy9,hp⟩:=hp
    refine L_idxA (X:=a0_1) rfl rfl rfl el26.h (RdT.old h0.1) hy9 ?_
    refine L_loadW rfl rfl (RdT.at (RdT.old h0.1) (hy9).2) (by exact agg44.h) ?_
    refine al fun bk8=>?_
    refine s2 ?_
    replace hp:=gb_any hp;obtain ⟨y10,hy10,hp⟩:=hp
    refine W_D0 [6] mix (by kernel_rfl) rfl ?_
    refine s5 ?_
    refine D_loadW (GC.some rfl rfl) (OpV.s rfl) (fun hg=>RdC.seg (RdC.blk mm) 0 2 rfl) (by exact agg35.h) ?_
    refine D_callGV (fun v M=>∃ (x0:T_Inst),v=.agg (GT.cells x0).toArray∧GT.dat x0=y10∧M=[treeH x0]) (GC.some rfl rfl) fn41.h (OpVs.cons (OpV.s rfl) (OpVs.cons (OpV.s rfl) (OpVs.nil))) (by exact fun hg w F hF hM=>i_InstAt_walk w u9_3 (u6_1,u6_2) (RdT.nowS (RdT.fst (RdT.snd (RdT.snd (RdT.of (RdT.old h0.1) (hy9).2)))) hF hM) (RdT.nowS (RdT.pair RdT.int RdT.int) hF hM) _ (hy10 hg.2)) ?_
    refine D_fieldVG (t:=35) (.int .i64 y10.2.2.2.1) rfl (GC.some rfl rfl) (show fld1 _ 48 3=some 4 by kernel_rfl) (by rintro v M ⟨x,rfl,hd,rfl⟩;obtain ⟨⟨x_1,x_2⟩,x_3,x_4,x_5,⟨x_6,x_7,x_8,x_9,x_10,x_11,x_12,x_13⟩,x_14,x_15,x_16⟩:=x;exact ⟨_,rfl,by rw [← hd];rfl⟩) (by kernel_rfl) ?_
    refine s20 ?_
    exact ⟨((v7_0&&(decide (y10.2.2.2.1=3))),IntKind.wrap .i64 (v7_1+1)),sb,(.sub ms),some_eq hp⟩
   ·replace hp:=cond_f q8 hp
    refine W_exit ?_
    replace hp:=map_any hp;obtain ⟨a11,hp,z_11⟩:=hp
    obtain rfl:=hx7 _ z_11
    refine s4 ?_
    refine kp [1,3,16,17,18,40] ?_
    refine W_cond rfl (fun q12=>?_) (fun q12=>?_)
    ·replace hp:=cond_t q12 hp
     refine s9 ?_
     exact ⟨(IntKind.wrap .i64 (v4_0+1),IntKind.wrap .i64 (v4_1+1)),sb,(.sub ms),some_eq hp⟩
    ·replace hp:=cond_f q12 hp
     refine s5 ?_
     exact ⟨(v4_0,IntKind.wrap .i64 (v4_1+1)),sb,(.sub ms),some_eq hp⟩
  ·replace hp:=cond_f q5 hp
   refine W_exit ?_
   replace hp:=map_any hp;obtain ⟨a13,hp,z_13⟩:=hp
   obtain rfl:=hx4 _ z_13
   refine s5 ?_
   obtain rfl:=sj hp
   refine s1 ?_
   refine res1 rfl (ResOK.tmp rfl) ⟨rfl,rfl⟩ ms
noncomputable def s_EAgreed (a0:D_ENet):Option Bool :=
 Option.bind (s_ENetOk (a0.1,a0.2)) (fun y1=>cond (!y1) (some false) (whileP (fun s3:Int=>cond (decide (s3 < 3)) (whileP (fun s5:Int=>Option.bind (idx a0.1 s3) (fun y6=>cond (decide (s5 < (y6.2.2.1.length:Int))) (Option.bind (idx a0.1 s3) (fun y8=>Option.bind (idx y8.2.2.1 s5) (fun y9=>whileP (fun s10:Int=>cond (decide (s10 < s3)) (Option.bind (idx a0.1 s10) (fun y12=>Option.bind (s_InstAt y12.2.2.1 (y9.1.1,y9.1.2)) (fun y13=>gb ((decide (y9.2.2.2.1=3))&&(decide (y13.2.2.2.1=3))) (s_SameCmd (y9.2.2.2.2.1.1,y9.2.2.2.2.1.2.1,y9.2.2.2.2.1.2.2.1,y9.2.2.2.2.1.2.2.2.1,y9.2.2.2.2.1.2.2.2.2.1,y9.2.2.2.2.1.2.2.2.2.2.1,y9.2.2.2.2.1.2.2.2.2.2.2.1,y9.2.2.2.2.1.2.2.2.2.2.2.2) (y13.2.2.2.2.1.1,y13.2.2.2.2.1.2.1,y13.2.2.2.2.1.2.2.1,y13.2.2.2.2.1.2.2.2.1,y13.2.2.2.2.1.2.2.2.2.1,y13.2.2.2.2.1.2.2.2.2.2.1,y13.2.2.2.2.1.2.2.2.2.2.2.1,y13.2.2.2.2.1.2.2.2.2.2.2.2)) (fun y14=>gb (((decide (y9.2.2.2.1=3))&&(decide (y13.2.2.2.1=3)))&&(!((!y14)||(!decide (y9.2.2.2.2.2.1=y13.2.2.2.2.2.1))))) (s_l9Alike y9.2.2.2.2.2.2.1 y13.2.2.2.2.2.2.1) (fun y15=>cond (((decide (y9.2.2.2.1=3))&&(decide (y13.2.2.2.1=3)))&&(((!y14)||(!decide (y9.2.2.2.2.2.1=y13.2.2.2.2.2.1)))||(!y15))) (Option.map .inr (Option.map .inr (Option.map .inr (some false)))) (some (.inl (IntKind.wrap .i64 (s10+1))))))))) (Option.map .inr (some (.inl (IntKind.wrap .i64 (s5+1)))))) 0))) (Option.map .inr (some (.inl (IntKind.wrap .i64 (s3+1))))))) 0) (Option.map .inr (some true))) 0))
theorem s_EAgreed_walk (w:World) (a0:T_ENet) (h0:GT.rd w [] a0) (r:Bool) (hp:s_EAgreed (GT.dat a0)=some r):Spec Tryz.prog 18 [.agg (GT.cells a0).toArray].toArray w [] (IsV (.bool r)):=by
 obtain ⟨a0_1,a0_2⟩:=a0
 change Spec _ _ ([Value.agg #[(TL.hdr a0_1),(TL.hdr a0_2)]]:List Value).toArray w [] _
 refine Spec.intro Tryz.func18 rfl Tryz.ntmps18 rfl ?_
 unfold s_EAgreed at hp
 replace hp:=dd hp
 refine s2 ?_
 refine bx fun bk1=>?_
 refine s6 ?_
 replace hp:=ba hp;obtain ⟨y1,hy1,hp⟩:=hp
 refine L_callX rfl fn42.h rfl (by exact fun w hw=>s_ENetOk_walk w (a0_1,a0_2) (RdT.now (RdT.pair (RdT.old h0.1) (RdT.old h0.2)) hw) _ hy1) ?_
 refine s2 ?_
 refine kp [1,10] ?_
 refine W_cond rfl (fun q2=>?_) (fun q2=>?_)
 ·replace hp:=cond_t q2 hp
  refine s4 ?_
  obtain rfl:=sj hp
  refine s1 ?_
  refine res1 rfl (ResOK.tmp rfl) ⟨rfl,rfl⟩ ms
 ·replace hp:=cond_f q2 hp
  refine s7 ?_
  refine W_while (σ:=Int) GT.dat (fun (v3_0:Int)=>[(3,.int .i64 v3_0)]) (fun (v3_0:Int)=>[]) [(1,_)] [blk bk1 _ _] 0 hp sb ms ?_
  clear hp
  rintro v3_0 x3 hp hx3
  replace hp:=dd hp
  refine kq [1,3] ?_
  refine s6 ?_
  refine kp [1,3,12] ?_
  refine W_cond rfl (fun q4=>?_) (fun q4=>?_)
  ·replace hp:=cond_t q4 hp
   refine s8 ?_
   refine W_while (σ:=Int) GT.dat (fun (v5_0:Int)=>[(4,.int .i64 v5_0)]) (fun (v5_0:Int)=>[]) [(1,_),(3,_)] [blk bk1 _ _] 0 hp sb ms ?_
   clear hp
   rintro v5_0 x5 hp hx5
   replace hp:=dd hp
   refine kq [1,3,4] ?_
   refine s7 ?_
   replace hp:=idx_bind hp;obtain ⟨⟨u6_1,u6_2,u6_3,u6_4⟩,hy6,hp⟩:=hp
   refine L_idxA (X:=a0_1) rfl rfl rfl el26.h (RdT.old h0.1) hy6 ?_
   refine s1 ?_
   refine L_load rfl rfl (RdT.at (RdT.old h0.1) (hy6).2) one41.h rfl ?_
   refine s3 ?_
   refine kp [1,3,4,23] ?_
   refine W_cond rfl (fun q7=>?_) (fun q7=>?_)
   ·replace hp:=cond_t q7 hp
    refine s8 ?_
    replace hp:=idx_bind hp;obtain ⟨u8,hy8,hp⟩:=hp
    obtain rfl:(u6_1,u6_2,u6_3,u6_4)=u8:=Option.some.inj (hy6.2.symm.trans hy8.2)
    refine L_idxA (X:=a0_1) rfl rfl rfl el26.h (RdT.old h0.1) hy6 ?_
    refine s1 ?_
    refine L_load rfl rfl (RdT.at (RdT.old h0.1) (hy6).2) one41.h rfl ?_
    refine s1 ?_
    replace hp:=idx_bind hp;obtain ⟨⟨⟨u9_1,u9_2⟩,u9_3,u9_4,u9_5,⟨u9_6,u9_7,u9_8,u9_9,u9_10,u9_11,u9_12,u9_13⟩,u9_14,u9_15,u9_16⟩,hy9,hp⟩:=hp
    refine L_idxA (X:=u6_3) rfl rfl rfl el41.h (RdT.fst (RdT.snd (RdT.snd (RdT.of (RdT.old h0.1) (hy6).2)))) hy9 ?_
    refine L_loadW rfl rfl (RdT.at (RdT.fst (RdT.snd (RdT.snd (RdT.of (RdT.old h0.1) (hy6).2)))) (hy9).2) (by exact agg48.h) ?_
    refine al fun bk5=>?_
    refine s7 ?_
    refine W_while (σ:=Int) GT.dat (fun (v10_0:Int)=>[(6,.int .i64 v10_0)]) (fun (v10_0:Int)=>[]) [(1,_),(3,_),(4,_),(5,_)] [blk bk1 _ _,blk bk5 _ _] 0 hp sb ms ?_
    clear hp
    rintro v10_0 x10 hp hx10
    replace hp:=dd hp
    refine kq [1,3,4,5,6] ?_
    refine s7 ?_
    refine kp [1,3,4,5,6,37] ?_
    refine W_cond rfl (fun q11=>?_) (fun q11=>?_)
    ·replace hp:=cond_t q11 hp
     refine s4 ?_
     replace hp:=idx_bind hp;obtain ⟨⟨u12_1,u12_2,u12_3,u12_4⟩,hy12,hp⟩:=hp
     replace hp:=ba hp;obtain ⟨y13,hy13,hp⟩:=hp
     refine W_DS (pre:=[_,_,_,_,_,_,_,_,_,_]) (suf:=[_]) [7,48] [] _ pc mix (by kernel_rfl) (by kernel_rfl) rfl ?_
     refine s3 ?_
     refine D_idxA (X:=a0_1) GC.none (OpV.t rfl) (OpV.t rfl) el26.h (RdT.old h0.1) (fun _=>hy12) ?_
     refine s1 ?_
     refine D_load GC.none (OpV.t rfl) (fun hg=>RdT.at (RdT.old h0.1) (hy12).2) one41.h rfl ?_
     refine s1 ?_
     refine D_loadW GC.none (OpV.t rfl) (fun hg=>RdC.seg (RdC.blk mm) 0 2 rfl) (by exact agg35.h) ?_
     refine D_call1R (fun v M=>∃ (x0:T_Inst),v=.agg (GT.cells x0).toArray∧GT.dat x0=y13∧M=[treeH x0]) fn12.h (OpVs.cons (OpV.t rfl) (OpVs.cons (OpV.t rfl) (OpVs.nil))) (by exact fun w F hF hM=>s_InstAt_walk w u12_3 (u9_1,u9_2) (RdT.nowS (RdT.fst (RdT.snd (RdT.snd (RdT.of (RdT.old h0.1) (hy12).2)))) hF hM) (RdT.nowS (RdT.pair RdT.int RdT.int) hF hM) _ hy13) ?_
     refine D_alloc zero48.h ?_
     refine s1 ?_
     refine Give_R rfl rfl ?_
     rintro _ _ ⟨bk7,rfl,rfl⟩
     simp only [List.cons_append,List.nil_append]
     refine Give_R rfl rfl ?_
     rintro _ _ ⟨⟨⟨y13x0_1,y13x0_2⟩,y13x0_3,y13x0_4,y13x0_5,⟨y13x0_6,y13x0_7,y13x0_8,y13x0_9,y13x0_10,y13x0_11,y13x0_12,y13x0_13⟩,y13x0_14,y13x0_15,y13x0_16⟩,rfl,rfl,rfl⟩
     refine s9 ?_
     refine sc ?_
     replace hp:=dd hp
     refine xL (((y13x0_1,y13x0_2),y13x0_3,y13x0_4,y13x0_5,(y13x0_6,y13x0_7,y13x0_8,y13x0_9,y13x0_10,y13x0_11,y13x0_12,y13x0_13),y13x0_14,y13x0_15,y13x0_16):T_Inst) ?_
     refine s3 ?_
     replace hp:=gb_any hp;obtain ⟨y14,hy14,hp⟩:=hp
     replace hp:=gb_any hp;obtain ⟨y15,hy15,hp⟩:=hp
     refine W_D0 [79] mix (by kernel_rfl) rfl ?_
     refine s10 ?_
     refine D_loadW (GC.some rfl rfl) (OpV.s rfl) (fun hg=>RdC.seg (RdC.blk mm) 5 8 rfl) (by exact agg38.h) ?_
     refine s1 ?_
     refine D_loadW (GC.some rfl rfl) (OpV.s rfl) (fun hg=>RdC.seg (RdC.blk mm) 5 8 rfl) (by exact agg38.h) ?_
     refine D_callX (GC.some rfl rfl) fn19.h (OpVs.cons (OpV.s rfl) (OpVs.cons (OpV.s rfl) (OpVs.nil))) (by exact fun hg w F hF hM=>s_SameCmd_walk w (u9_6,u9_7,u9_8,u9_9,u9_10,u9_11,u9_12,u9_13) (y13x0_6,y13x0_7,y13x0_8,y13x0_9,y13x0_10,y13x0_11,y13x0_12,y13x0_13) (RdT.nowS (RdT.pair RdT.int (RdT.pair RdT.int (RdT.pair RdT.int (RdT.pair RdT.str (RdT.pair RdT.str (RdT.pair RdT.str (RdT.pair RdT.int (RdT.snd (RdT.snd (RdT.snd (RdT.snd (RdT.snd (RdT.snd (RdT.snd (RdT.fst (RdT.snd (RdT.snd (RdT.snd (RdT.snd (RdT.of (RdT.fst (RdT.snd (RdT.snd (RdT.of (RdT.old h0.1) (hy6).2)))) (hy9).2)))))))))))))))))))) hF hM) (RdT.nowS (RdT.pair RdT.int (RdT.pair RdT.int (RdT.pair RdT.int (RdT.pair RdT.str (RdT.pair RdT.str (RdT.pair RdT.str (RdT.pair RdT.int (RdT.tree mm)))))))) hF hM) _ (hy14 hg.2)) ?_
     refine s13 ?_
     refine D_callX (GC.some rfl rfl) fn43.h (OpVs.cons (OpV.s rfl) (OpVs.cons (OpV.s rfl) (OpVs.nil))) (by exact fun hg w F hF hM=>s_l9Alike_walk w u9_15 y13x0_15 (RdT.nowS (RdT.fst (RdT.snd (RdT.snd (RdT.snd (RdT.snd (RdT.snd (RdT.snd (RdT.of (RdT.fst (RdT.snd (RdT.snd (RdT.of (RdT.old h0.1) (hy6).2)))) (hy9).2)))))))) hF hM) (RdT.nowS (RdT.tree mm) hF hM) _ (hy15 (gand hg.1.2 (gnot hg.2)))) ?_
     refine s20 ?_
     refine s16 ?_
     refine kp [1,3,4,5,6,79] ?_
     refine W_cond rfl (fun q16=>?_) (fun q16=>?_)
     ·replace hp:=cond_t q16 hp
      refine s4 ?_
      replace hp:=map_any hp;obtain ⟨a17,hp,z_17⟩:=hp
      obtain rfl:=hx10 _ z_17
      replace hp:=map_any hp;obtain ⟨a18,hp,z_18⟩:=hp
      obtain rfl:=hx5 _ z_18
      replace hp:=map_any hp;obtain ⟨a19,hp,z_19⟩:=hp
      obtain rfl:=hx3 _ z_19
      obtain rfl:=sj hp
      refine s1 ?_
      refine res1 rfl (ResOK.tmp rfl) ⟨rfl,rfl⟩ ms
     ·replace hp:=cond_f q16 hp
      refine s6 ?_
      exact ⟨IntKind.wrap .i64 (v10_0+1),sb,(.sub ms),some_eq hp⟩
    ·replace hp:=cond_f q11 hp
     refine W_exit ?_
     replace hp:=map_any hp;obtain ⟨a20,hp,z_20⟩:=hp
     obtain rfl:=hx10 _ z_20
     refine s5 ?_
     exact ⟨IntKind.wrap .i64 (v5_0+1),sb,(.sub ms),some_eq hp⟩
   ·replace hp:=cond_f q7 hp
    refine W_exit ?_
    replace hp:=map_any hp;obtain ⟨a21,hp,z_21⟩:=hp
    obtain rfl:=hx5 _ z_21
    refine s5 ?_
    exact ⟨IntKind.wrap .i64 (v3_0+1),sb,(.sub ms),some_eq hp⟩
  ·replace hp:=cond_f q4 hp
   refine W_exit ?_
   replace hp:=map_any hp;obtain ⟨a22,hp,z_22⟩:=hp
   obtain rfl:=hx3 _ z_22
   refine s4 ?_
   obtain rfl:=sj hp
   refine s1 ?_
   refine res1 rfl (ResOK.tmp rfl) ⟨rfl,rfl⟩ ms
noncomputable def w_FnRecovered (a0:List UInt8):Option Bool :=
 Option.bind (w_big a0) (fun y1=>cond y1 (some true) (Option.bind (i_ENetNew ) (fun y3=>Option.bind (w_cmdOf a0 1) (fun y4=>Option.bind (i_ENetDo (y3.1,y3.2) (1,0,0,(0,0),(y4.1,y4.2.1,y4.2.2.1,y4.2.2.2.1,y4.2.2.2.2.1,y4.2.2.2.2.2.1,y4.2.2.2.2.2.2.1,y4.2.2.2.2.2.2.2))) (fun y5=>cond (!y5.2) (some false) (whileP (fun s7:Int×(List D_ENode)×(List D_EMsg)=>Option.bind (w_at a0 0) (fun y8=>cond (decide (s7.1 < (y8).tmod 7)) (Option.bind (w_at a0 (IntKind.wrap .i64 (s7.1+1))) (fun y10=>Option.bind (remP y10 (s7.2.2.length:Int)) (fun y11=>Option.bind (i_ENetDo (s7.2.1,s7.2.2) (2,0,y11,(0,0),(0,0,0,ByteArray.empty,ByteArray.empty,ByteArray.empty,0,([]:List ByteArray)))) (fun y12=>some (.inl ((IntKind.wrap .i64 (s7.1+1),y12.1.1,y12.1.2))))))) (Option.map .inr (Option.bind (i_ENetDo (s7.2.1,s7.2.2) (5,0,0,(0,0),(0,0,0,ByteArray.empty,ByteArray.empty,ByteArray.empty,0,([]:List ByteArray)))) (fun y15=>Option.bind (i_ENetDo (y15.1.1,y15.1.2) (4,1,0,(0,1),(0,0,0,ByteArray.empty,ByteArray.empty,ByteArray.empty,0,([]:List ByteArray)))) (fun y16=>Option.bind (w_settle (y16.1.1,y16.1.2) 3) (fun y17=>Option.bind (i_EDone (y17.1,y17.2)) (fun y18=>gb (!(!decide (y18=1))) (s_EAgreed (y17.1,y17.2)) (fun y19=>cond ((!decide (y18=1))||(!y19)) (some false) (Option.bind (idx y17.1 2) (fun y21=>Option.bind (s_InstAt y21.2.2.1 (0,1)) (fun y22=>Option.bind (s_SameCmd (y22.2.2.2.2.1.1,y22.2.2.2.2.1.2.1,y22.2.2.2.2.1.2.2.1,y22.2.2.2.2.1.2.2.2.1,y22.2.2.2.2.1.2.2.2.2.1,y22.2.2.2.2.1.2.2.2.2.2.1,y22.2.2.2.2.1.2.2.2.2.2.2.1,y22.2.2.2.2.1.2.2.2.2.2.2.2) (y4.1,y4.2.1,y4.2.2.1,y4.2.2.2.1,y4.2.2.2.2.1,y4.2.2.2.2.2.1,y4.2.2.2.2.2.2.1,y4.2.2.2.2.2.2.2)) (fun y23=>some (y23||(decide (y22.2.2.2.2.1.1=0)))))))))))))))) (0,y5.1.1,y5.1.2)))))))
theorem w_FnRecovered_walk (w:World) (a0:TL UInt8) (h0:GT.rd w [] a0) (r:Bool) (hp:w_FnRecovered (GT.dat a0)=some r):Spec Tryz.prog 4 [(TL.hdr a0)].toArray w [] (IsV (.bool r)):=by
 refine Spec.intro Tryz.func4 rfl Tryz.ntmps4 rfl ?_
 unfold w_FnRecovered at hp
 replace hp:=dd hp
 refine s8 ?_
 replace hp:=ba hp;obtain ⟨y1,hy1,hp⟩:=hp
 refine L_callX rfl fn6.h rfl (by exact fun w hw=>w_big_walk w a0 (RdT.now (RdT.old h0) hw) _ hy1) ?_
 refine s1 ?_
 refine kp [0,15] ?_
 refine W_cond rfl (fun q2=>?_) (fun q2=>?_)
 ·replace hp:=cond_t q2 hp
  refine s4 ?_
  obtain rfl:=sj hp
  refine s1 ?_
  refine res1 rfl (ResOK.tmp rfl) ⟨rfl,rfl⟩ ms
 ·replace hp:=cond_f q2 hp
  refine s3 ?_
  replace hp:=ba hp;obtain ⟨y3,hy3,hp⟩:=hp
  refine L_callR rfl fn8.h rfl (by exact fun w hw=>i_ENetNew_walk w   _ hy3) ?_
  rintro _ _ ⟨⟨y3x0_1,y3x0_2⟩,rfl,rfl,rfl⟩
  refine sc ?_
  replace hp:=dd hp
  refine xL ((y3x0_1,y3x0_2):T_ENet) ?_
  refine al fun bk3=>?_
  refine s5 ?_
  replace hp:=ba hp;obtain ⟨y4,hy4,hp⟩:=hp
  refine L_callR rfl fn14.h rfl (by exact fun w hw=>w_cmdOf_walk w a0 1 (RdT.now (RdT.old h0) hw) _ hy4) ?_
  rintro _ _ ⟨⟨y4x0_1,y4x0_2,y4x0_3,y4x0_4,y4x0_5,y4x0_6,y4x0_7,y4x0_8⟩,rfl,rfl,rfl⟩
  refine sc ?_
  replace hp:=dd hp
  refine xL ((y4x0_1,y4x0_2,y4x0_3,y4x0_4,y4x0_5,y4x0_6,y4x0_7,y4x0_8):T_Cmd) ?_
  refine al fun bk4=>?_
  refine s6 ?_
  refine L_build (xs:=[(0,.const (.int .i64 1)),(1,.const (.int .i64 0)),(4,.tmp 21)]) (cs:=[.int .i64 1,.int .i64 0,.int .i64 0,.int .i64 0,.int .i64 0,.int .i64 y4x0_1,.int .i64 y4x0_2,.int .i64 y4x0_3,.string y4x0_4,.string y4x0_5,.string y4x0_6,.int .i64 y4x0_7,(TL.hdr y4x0_8)]) rfl rfl bld40.h rfl ?_
  replace hp:=ba hp;obtain ⟨y5,hy5,hp⟩:=hp
  refine L_callR rfl fn9.h rfl (by exact fun w hw=>i_ENetDo_walk w (y3x0_1,y3x0_2) (1,0,0,(0,0),(y4x0_1,y4x0_2,y4x0_3,y4x0_4,y4x0_5,y4x0_6,y4x0_7,y4x0_8)) (RdT.now (RdT.pair (RdT.tree mm) (RdT.tree mm)) hw) (RdT.now (RdT.pair RdT.int (RdT.pair RdT.int (RdT.pair RdT.int (RdT.pair (RdT.pair RdT.int RdT.int) (RdT.pair RdT.int (RdT.pair RdT.int (RdT.pair RdT.int (RdT.pair RdT.str (RdT.pair RdT.str (RdT.pair RdT.str (RdT.pair RdT.int (RdT.tree mm)))))))))))) hw) _ hy5) ?_
  rintro _ _ ⟨⟨y5x0_1,y5x0_2⟩,y5x1,rfl,rfl,rfl⟩
  refine sc ?_
  replace hp:=dd hp
  refine xL ((y5x0_1,y5x0_2):T_ENet) ?_
  refine s12 ?_
  refine kp [0,3,4,27] ?_
  refine W_cond rfl (fun q6=>?_) (fun q6=>?_)
  ·replace hp:=cond_t q6 hp
   refine s4 ?_
   obtain rfl:=sj hp
   refine s1 ?_
   refine res1 rfl (ResOK.tmp rfl) ⟨rfl,rfl⟩ ms
  ·replace hp:=cond_f q6 hp
   refine s7 ?_
   refine W_while (σ:=Int×(TL T_ENode)×(TL T_EMsg)) GT.dat (fun ((v7_0,v7_1,v7_2):Int×(TL T_ENode)×(TL T_EMsg))=>[(6,.int .i64 v7_0)]) (fun ((v7_0,v7_1,v7_2):Int×(TL T_ENode)×(TL T_EMsg))=>[blk bk3 [(TL.hdr v7_1),(TL.hdr v7_2)] 29,treeH v7_1,treeH v7_2]) [(0,_),(3,_),(4,_)] [blk bk4 _ _,treeH y4x0_8] (0,y5x0_1,y5x0_2) hp sb ms ?_
   clear hp
   rintro ⟨v7_0,v7_1,v7_2⟩ x7 hp hx7
   replace hp:=dd hp
   refine kq [0,3,4,6] ?_
   refine s5 ?_
   replace hp:=ba hp;obtain ⟨y8,hy8,hp⟩:=hp
   refine L_callX rfl fn15.h rfl (by exact fun w hw=>w_at_walk w a0 0 (RdT.now (RdT.old h0) hw) _ hy8) ?_
   refine s3 ?_
   refine kp [0,3,4,6,32] ?_
   refine W_cond rfl (fun q9=>?_) (fun q9=>?_)
   ·replace hp:=cond_t q9 hp
    refine s4 ?_
    replace hp:=ba hp;obtain ⟨y10,hy10,hp⟩:=hp
    replace hp:=ba hp;obtain ⟨y11,hy11,hp⟩:=hp
    replace hp:=ba hp;obtain ⟨y12,hy12,hp⟩:=hp
    refine W_D0 [7] mix (by kernel_rfl) rfl ?_
    refine s4 ?_
    refine D_callX GC.none fn15.h (OpVs.cons (OpV.t rfl) (OpVs.cons (OpV.t rfl) (OpVs.nil))) (by exact fun hg w F hF hM=>w_at_walk w a0 (IntKind.wrap .i64 (v7_0+1)) (RdT.nowS (RdT.old h0) hF hM) _ hy10) ?_
    refine s2 ?_
    refine D_lenP (X:=v7_2) GC.none (OpV.t rfl) el27.h ?_
    refine D_bin GC.none (OpV.t rfl) (OpV.t rfl) (fun hg=>(bv_remP hy11)) ?_
    refine D_build (xs:=[(0,.const (.int .i64 2)),(2,.tmp 44)]) (ps:=[(0,.int .i64 2),(2,.int .i64 y11)]) (cs:=[.int .i64 2,.int .i64 0,.int .i64 y11,.int .i64 0,.int .i64 0,.int .i64 0,.int .i64 0,.int .i64 0,.string ByteArray.empty,.string ByteArray.empty,.string ByteArray.empty,.int .i64 0,(TL.hdr (TL.nil ByteArray 0))]) (OpVp.cons OpV.c (OpVp.cons (OpV.t rfl) (OpVp.nil))) bld40.h rfl ?_
    refine D_call1R (fun v M=>∃ (x0:T_ENet) (x1:Bool),v=.tuple #[.agg (GT.cells x0).toArray,.bool x1]∧(GT.dat x0,GT.dat x1)=y12∧M=[treeH x0]) fn9.h (OpVs.cons (OpV.t rfl) (OpVs.cons (OpV.t rfl) (OpVs.nil))) (by exact fun w F hF hM=>i_ENetDo_walk w (v7_1,v7_2) (2,0,y11,(0,0),(0,0,0,ByteArray.empty,ByteArray.empty,ByteArray.empty,0,(TL.nil ByteArray 0))) (RdT.nowS (RdT.pair (RdT.tree mm) (RdT.tree mm)) hF hM) (RdT.nowS (RdT.pair RdT.int (RdT.pair RdT.int (RdT.pair RdT.int (RdT.pair (RdT.pair RdT.int RdT.int) (RdT.pair RdT.int (RdT.pair RdT.int (RdT.pair RdT.int (RdT.pair RdT.str (RdT.pair RdT.str (RdT.pair RdT.str (RdT.pair RdT.int (RdT.nil 0)))))))))))) hF hM) _ hy12) ?_
    refine D_moveC (t:=46) rfl (by kernel_rfl) ?_
    refine D_extractC (t:=35) (AggV (τ:=T_ENet) y12.1) rfl (by rintro v M ⟨x0,x1,rfl,hd,rfl⟩;exact ⟨_,_,rfl,rfl,x0,rfl,(by rw [← hd]),rfl⟩) (by kernel_rfl) ?_
    refine D_extractW (t:=35) (.bool y12.2) rfl (by rintro v M ⟨-,M',x0,x1,rfl,hd,-⟩;subst hd;exact ⟨_,rfl,rfl⟩) ?_
    refine D_alloc zero29.h ?_
    refine D_storeK (p:=7) (x:=47) rfl rfl (by exact agg29.h) rfl (by kernel_rfl) ?_
    refine s3 ?_
    refine Give_R rfl rfl ?_
    rintro _ _ ⟨bk7,X13,rfl,hdX13,rfl⟩
    try rw [← hdX13] at hp
    obtain ⟨X13_1,X13_2⟩:=X13
    refine s16 ?_
    refine sc ?_
    replace hp:=dd hp
    refine xW ((X13_1,X13_2):T_ENet) ?_
    refine s9 ?_
    exact ⟨(IntKind.wrap .i64 (v7_0+1),X13_1,X13_2),sb,(.sub ms),some_eq hp⟩
   ·replace hp:=cond_f q9 hp
    refine W_exit ?_
    replace hp:=map_any hp;obtain ⟨a14,hp,z_14⟩:=hp
    obtain rfl:=hx7 _ z_14
    refine s3 ?_
    refine L_build (xs:=[(0,.const (.int .i64 5)),(1,.const (.int .i64 0))]) (cs:=[.int .i64 5,.int .i64 0,.int .i64 0,.int .i64 0,.int .i64 0,.int .i64 0,.int .i64 0,.int .i64 0,.string ByteArray.empty,.string ByteArray.empty,.string ByteArray.empty,.int .i64 0,(TL.hdr (TL.nil ByteArray 0))]) rfl rfl bld40.h rfl ?_
    replace hp:=ba hp;obtain ⟨y15,hy15,hp⟩:=hp
    refine L_callR rfl fn9.h rfl (by exact fun w hw=>i_ENetDo_walk w (v7_1,v7_2) (5,0,0,(0,0),(0,0,0,ByteArray.empty,ByteArray.empty,ByteArray.empty,0,(TL.nil ByteArray 0))) (RdT.now (RdT.pair (RdT.tree mm) (RdT.tree mm)) hw) (RdT.now (RdT.pair RdT.int (RdT.pair RdT.int (RdT.pair RdT.int (RdT.pair (RdT.pair RdT.int RdT.int) (RdT.pair RdT.int (RdT.pair RdT.int (RdT.pair RdT.int (RdT.pair RdT.str (RdT.pair RdT.str (RdT.pair RdT.str (RdT.pair RdT.int (RdT.nil 0)))))))))))) hw) _ hy15) ?_
    rintro _ _ ⟨⟨y15x0_1,y15x0_2⟩,y15x1,rfl,rfl,rfl⟩
    refine sc ?_
    replace hp:=dd hp
    refine xL ((y15x0_1,y15x0_2):T_ENet) ?_
    refine s3 ?_
    refine al fun bk9=>?_
    refine s6 ?_
    refine L_build (xs:=[(0,.const (.int .i64 0)),(1,.const (.int .i64 1))]) (cs:=[.int .i64 0,.int .i64 1]) rfl rfl bld35.h rfl ?_
    refine L_build (xs:=[(0,.const (.int .i64 4)),(1,.const (.int .i64 1)),(3,.tmp 58)]) (cs:=[.int .i64 4,.int .i64 1,.int .i64 0,.int .i64 0,.int .i64 1,.int .i64 0,.int .i64 0,.int .i64 0,.string ByteArray.empty,.string ByteArray.empty,.string ByteArray.empty,.int .i64 0,(TL.hdr (TL.nil ByteArray 0))]) rfl rfl bld40.h rfl ?_
    replace hp:=ba hp;obtain ⟨y16,hy16,hp⟩:=hp
    refine L_callR rfl fn9.h rfl (by exact fun w hw=>i_ENetDo_walk w (y15x0_1,y15x0_2) (4,1,0,(0,1),(0,0,0,ByteArray.empty,ByteArray.empty,ByteArray.empty,0,(TL.nil ByteArray 0))) (RdT.now (RdT.pair (RdT.tree mm) (RdT.tree mm)) hw) (RdT.now (RdT.pair RdT.int (RdT.pair RdT.int (RdT.pair RdT.int (RdT.pair (RdT.pair RdT.int RdT.int) (RdT.pair RdT.int (RdT.pair RdT.int (RdT.pair RdT.int (RdT.pair RdT.str (RdT.pair RdT.str (RdT.pair RdT.str (RdT.pair RdT.int (RdT.nil 0)))))))))))) hw) _ hy16) ?_
    rintro _ _ ⟨⟨y16x0_1,y16x0_2⟩,y16x1,rfl,rfl,rfl⟩
    refine sc ?_
    replace hp:=dd hp
    refine xL ((y16x0_1,y16x0_2):T_ENet) ?_
    refine s3 ?_
    refine al fun bk11=>?_
    refine s6 ?_
    replace hp:=ba hp;obtain ⟨y17,hy17,hp⟩:=hp
    refine L_callM [treeH y16x0_1,treeH y16x0_2] _ rfl fn16.h rfl pc (by exact fun w hw=>w_settle_walk w (y16x0_1,y16x0_2) 3  _ hy17) ?_
    rintro _ _ ⟨⟨y17x0_1,y17x0_2⟩,rfl,rfl,rfl⟩
    refine sc ?_
    replace hp:=dd hp
    refine xL ((y17x0_1,y17x0_2):T_ENet) ?_
    refine s4 ?_
    replace hp:=ba hp;obtain ⟨y18,hy18,hp⟩:=hp
    replace hp:=gb_any hp;obtain ⟨y19,hy19,hp⟩:=hp
    refine W_D0 [72] mix (by kernel_rfl) rfl ?_
    refine s1 ?_
    refine D_callX GC.none fn17.h (OpVs.cons (OpV.t rfl) (OpVs.nil)) (by exact fun hg w F hF hM=>i_EDone_walk w (y17x0_1,y17x0_2) (RdT.nowS (RdT.pair (RdT.tree mm) (RdT.tree mm)) hF hM) _ hy18) ?_
    refine s3 ?_
    refine D_callX (GC.some rfl rfl) fn18.h (OpVs.cons (OpV.s rfl) (OpVs.nil)) (by exact fun hg w F hF hM=>s_EAgreed_walk w (y17x0_1,y17x0_2) (RdT.nowS (RdT.pair (RdT.tree mm) (RdT.tree mm)) hF hM) _ (hy19 (gnot hg.2))) ?_
    refine s12 ?_
    refine kp [4,11,72] ?_
    refine W_cond rfl (fun q20=>?_) (fun q20=>?_)
    ·replace hp:=cond_t q20 hp
     refine s4 ?_
     obtain rfl:=sj hp
     refine s1 ?_
     refine res1 rfl (ResOK.tmp rfl) ⟨rfl,rfl⟩ ms
    ·replace hp:=cond_f q20 hp
     refine s5 ?_
     replace hp:=idx_bind hp;obtain ⟨⟨u21_1,u21_2,u21_3,u21_4⟩,hy21,hp⟩:=hp
     refine L_idxA (X:=y17x0_1) rfl rfl rfl el26.h (RdT.tree mm) hy21 ?_
     refine s1 ?_
     refine L_load rfl rfl (RdT.at (RdT.tree mm) (hy21).2) one41.h rfl ?_
     refine L_build (xs:=[(0,.const (.int .i64 0)),(1,.const (.int .i64 1))]) (cs:=[.int .i64 0,.int .i64 1]) rfl rfl bld35.h rfl ?_
     replace hp:=ba hp;obtain ⟨y22,hy22,hp⟩:=hp
     refine L_callR rfl fn12.h rfl (by exact fun w hw=>s_InstAt_walk w u21_3 (0,1) (RdT.now (RdT.fst (RdT.snd (RdT.snd (RdT.of (RdT.tree mm) (hy21).2)))) hw) (RdT.now (RdT.pair RdT.int RdT.int) hw) _ hy22) ?_
     rintro _ _ ⟨⟨⟨y22x0_1,y22x0_2⟩,y22x0_3,y22x0_4,y22x0_5,⟨y22x0_6,y22x0_7,y22x0_8,y22x0_9,y22x0_10,y22x0_11,y22x0_12,y22x0_13⟩,y22x0_14,y22x0_15,y22x0_16⟩,rfl,rfl,rfl⟩
     refine sc ?_
     replace hp:=dd hp
     refine xL (((y22x0_1,y22x0_2),y22x0_3,y22x0_4,y22x0_5,(y22x0_6,y22x0_7,y22x0_8,y22x0_9,y22x0_10,y22x0_11,y22x0_12,y22x0_13),y22x0_14,y22x0_15,y22x0_16):T_Inst) ?_
     refine L_fieldA (us:=[.int .i64 y22x0_6,.int .i64 y22x0_7,.int .i64 y22x0_8,.string y22x0_9,.string y22x0_10,.string y22x0_11,.int .i64 y22x0_12,(TL.hdr y22x0_13)]) rfl rfl (show fldA _ 48 4=some (5,8) by kernel_rfl) rfl ?_
     refine al fun bk13=>?_
     refine s3 ?_
     replace hp:=ba hp;obtain ⟨y23,hy23,hp⟩:=hp
     refine W_D0 [2] mix (by kernel_rfl) rfl ?_
     refine s2 ?_
     refine D_callX GC.none fn19.h (OpVs.cons (OpV.t rfl) (OpVs.cons (OpV.t rfl) (OpVs.nil))) (by exact fun hg w F hF hM=>s_SameCmd_walk w (y22x0_6,y22x0_7,y22x0_8,y22x0_9,y22x0_10,y22x0_11,y22x0_12,y22x0_13) (y4x0_1,y4x0_2,y4x0_3,y4x0_4,y4x0_5,y4x0_6,y4x0_7,y4x0_8) (RdT.nowS (RdT.pair RdT.int (RdT.pair RdT.int (RdT.pair RdT.int (RdT.pair RdT.str (RdT.pair RdT.str (RdT.pair RdT.str (RdT.pair RdT.int (RdT.tree mm)))))))) hF hM) (RdT.nowS (RdT.pair RdT.int (RdT.pair RdT.int (RdT.pair RdT.int (RdT.pair RdT.str (RdT.pair RdT.str (RdT.pair RdT.str (RdT.pair RdT.int (RdT.tree mm)))))))) hF hM) _ hy23) ?_
     refine s17 ?_
     obtain rfl:=sj hp
     refine s1 ?_
     refine res1 rfl (ResOK.tmp rfl) ⟨rfl,rfl⟩ ms
end Go.Proofs.SL
