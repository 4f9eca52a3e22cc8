/- The texts of the proof, part 12: the base, walks of functions, plain Lean. -/
import Derived.Test.YthlbpedehajlgaaGreatT9
import Derived.Test.YthlbpedehajlgaaGreatT11
import Derived.Test.YthlbpedehajlgaaGreatT5
namespace Go.Proofs.SL
open Go
variable {w0 w:World} {S0:List Nat} {M M1:List HP}
theorem slc_hdr {τ δ:Type} [GT τ δ] {X Y:TL τ} {a b:Nat} (h:X.hdr=Y.hdr):(slc X a b).hdr=(slc Y a b).hdr:=by
 unfold TL.hdr at h
 injection h with h1 h2 h3
 unfold TL.hdr slc
 dsimp only
 rw [h1,h3,List.length_take,List.length_take,List.length_drop,List.length_drop,h2]
def hdH (a b:Value):HP:=⟨[],fun _=>a=b,fun _ _ _ h=>h⟩
theorem hd_add {a:Value} (h:Holds w0 S0 M w):Holds w0 S0 (hdH a a::M) w :=
 h.reFp (List.Perm.of_eq (by rw [fps_cons];rfl)) fun y hy=>by
  rcases List.mem_cons.1 hy with rfl | hy
  ·rfl
  ·exact h.prs _ hy
theorem hd_get {a b:Value} (hm:hdH a b∈M) (h:Holds w0 S0 M w):a=b:=h.prs _ hm
end Go.Proofs.SL
namespace Go.Proofs.SL
open Go
set_option maxHeartbeats 2000000
noncomputable def sl_Compact_implIdimplId (a0:List D_Id):Option (List D_Id) :=
 cond (decide ((a0.length:Int) < 2)) (some a0) (whileP (fun s2:Int=>cond (decide (s2 < (a0.length:Int))) (Option.bind (idx a0 s2) (fun y4=>Option.bind (idx a0 (IntKind.wrap .i64 (s2 - 1))) (fun y5=>cond (decide (y4.1=y5.1)&&(decide (y4.2=y5.2)&&true)) (Option.bind (slcP a0 s2 (a0.length:Int)) (fun y7=>whileP (fun s11:(List D_Id)×Int×Int=>Option.bind (slcP s11.1 s2 (a0.length:Int)) (fun y12=>cond (decide (s11.2.2 < (y12.length:Int))) (Option.bind (idx y12 s11.2.2) (fun y15=>Option.bind (idx y12 (IntKind.wrap .i64 (s11.2.2 - 1))) (fun y16=>cond (!(decide (y15.1=y16.1)&&(decide (y15.2=y16.2)&&true))) (Option.bind (idx y12 s11.2.2) (fun y18=>Option.bind (idx s11.1 s11.2.1) (fun y19=>Option.bind (some (s11.1.set (s11.2.1.toNat) (y18.1,y18.2))) (fun y20=>some (.inl ((y20,IntKind.wrap .i64 (s11.2.1+1),IntKind.wrap .i64 (s11.2.2+1)))))))) (some (.inl ((s11.1,s11.2.1,IntKind.wrap .i64 (s11.2.2+1)))))))) (Option.map .inr (Option.bind (slcP s11.1 s11.2.1 (s11.1.length:Int)) (fun y23=>Option.bind (chkP (decide (s11.2.1 < (s11.1.length:Int)))) (fun y25=>Option.bind (some (clrD s11.1 s11.2.1 (s11.1.length:Int) (0,0))) (fun y26=>Option.bind (slcP y26 0 s11.2.1) (fun y28=>Option.map .inr (some y28))))))))) (a0,s2,1))) (some (.inl (IntKind.wrap .i64 (s2+1))))))) (Option.map .inr (some a0))) 1)
theorem sl_Compact_implIdimplId_walk (w:World) (a0:TL T_Id)  (r:(List D_Id)) (hp:sl_Compact_implIdimplId (GT.dat a0)=some r):Spec Tryz.prog 227 [(TL.hdr a0)].toArray w [treeH a0] (fun v M=>∃ (x0:TL T_Id),v=(TL.hdr x0)∧GT.dat x0=r∧M=[treeH x0]):=by
 refine Spec.intro Tryz.func227 rfl Tryz.ntmps227 rfl ?_
 unfold sl_Compact_implIdimplId at hp
 replace hp:=dd hp
 refine s2 ?_
 refine L_assign (v:=(TL.hdr (TL.nil T_Id 0))) rfl rfl ?_
 refine s8 ?_
 refine kp [0,8] ?_
 refine W_cond rfl (fun q1=>?_) (fun q1=>?_)
 ·replace hp:=cond_t q1 hp
  refine s5 ?_
  obtain rfl:=sj hp
  refine s1 ?_
  refine res1 rfl (ResOK.tmp rfl) ⟨a0,rfl,rfl,rfl⟩ ms
 ·replace hp:=cond_f q1 hp
  refine s7 ?_
  refine W_while (σ:=Int) GT.dat (fun (v2_0:Int)=>[(3,.int .i64 v2_0)]) (fun (v2_0:Int)=>[]) [(0,_)] [treeH a0] 1 hp sb ms ?_
  clear hp
  rintro v2_0 x2 hp hx2
  replace hp:=dd hp
  refine kq [0,3] ?_
  refine s8 ?_
  refine kp [0,3,13] ?_
  refine W_cond rfl (fun q3=>?_) (fun q3=>?_)
  ·replace hp:=cond_t q3 hp
   refine s4 ?_
   replace hp:=idx_bind hp;obtain ⟨⟨u4_1,u4_2⟩,hy4,hp⟩:=hp
   replace hp:=idx_bind hp;obtain ⟨⟨u5_1,u5_2⟩,hy5,hp⟩:=hp
   refine W_D0 [25] mix (by kernel_rfl) rfl ?_
   refine s2 ?_
   refine D_idxA (X:=a0) GC.none (OpV.t rfl) (OpV.t rfl) el31.h (RdT.tree mm) (fun _=>hy4) ?_
   refine D_loadW GC.none (OpV.t rfl) (fun hg=>RdT.at (RdT.tree mm) (hy4).2) (by exact agg35.h) ?_
   refine s3 ?_
   refine D_idxA (X:=a0) GC.none (OpV.t rfl) (OpV.t rfl) el31.h (RdT.tree mm) (fun _=>hy5) ?_
   refine D_loadW GC.none (OpV.t rfl) (fun hg=>RdT.at (RdT.tree mm) (hy5).2) (by exact agg35.h) ?_
   refine D_bin GC.none (OpV.t rfl) (OpV.t rfl) (fun hg=>(bv_aeql eqsh35 (EqS.consI one3.h und3.h rfl rfl (EqS.consI one3.h und3.h rfl rfl EqS.nil)))) ?_
   refine s12 ?_
   refine kp [0,3,25] ?_
   refine W_cond rfl (fun q6=>?_) (fun q6=>?_)
   ·replace hp:=cond_t q6 hp
    refine s4 ?_
    replace hp:=ba hp;obtain ⟨y7,hy7,hp⟩:=hp
    refine L_slcE (X:=a0) rfl rfl rfl rfl el31.h rfl (RdT.tree mm) hy7 (fun X8 hdX8 heX8=>?_)
    have hsX8:=hy7
    subst hdX8
    refine s8 ?_
    refine W_conv (M':=hdH (TL.hdr a0) (TL.hdr a0)::_) (fun w h=>hd_add h) ?_
    refine W_while (σ:=(TL T_Id)×Int×Int) GT.dat (fun ((v11_0,v11_1,v11_2):(TL T_Id)×Int×Int)=>[(0,(TL.hdr v11_0)),(3,.int .i64 v11_1),(5,.int .i64 v11_2)]) (fun ((v11_0,v11_1,v11_2):(TL T_Id)×Int×Int)=>[treeH v11_0,hdH (TL.hdr v11_0) (TL.hdr a0)]) [(4,_)] [] (a0,v2_0,1) hp sb ms ?_
    clear hp
    rintro ⟨v11_0,v11_1,v11_2⟩ x11 hp hx11
    replace hp:=dd hp
    refine kq [0,3,4,5] ?_
    refine W_fact (fun w h=>hd_get mm h) (fun (hH11:TL.hdr v11_0=TL.hdr a0)=>?_)
    replace hp:=ba hp;obtain ⟨y12,hy12,hp⟩:=hp
    obtain ⟨X13,heX13,hdX13⟩:=slc_ex hy12
    have hsX13:=hy12
    subst hdX13
    have hvX13:TL.hdr X13=TL.hdr X8:=by rw [heX13,heX8];exact slc_hdr hH11
    rw [← hvX13]
    refine s8 ?_
    refine kp [0,3,4,5,32] ?_
    refine W_cond rfl (fun q14=>?_) (fun q14=>?_)
    ·replace hp:=cond_t q14 hp
     refine s4 ?_
     replace hp:=idx_bind hp;obtain ⟨⟨u15_1,u15_2⟩,hy15,hp⟩:=hp
     replace hp:=idx_bind hp;obtain ⟨⟨u16_1,u16_2⟩,hy16,hp⟩:=hp
     refine W_D0 [44] mix (by kernel_rfl) rfl ?_
     refine s2 ?_
     refine D_idxA (X:=X13) GC.none (OpV.t rfl) (OpV.t rfl) el31.h (RdT.map (slcE_rd heX13 hsX13) (RdT.tree mm)) (fun _=>hy15) ?_
     refine D_loadW GC.none (OpV.t rfl) (fun hg=>RdT.at (RdT.map (slcE_rd heX13 hsX13) (RdT.tree mm)) (hy15).2) (by exact agg35.h) ?_
     refine s3 ?_
     refine D_idxA (X:=X13) GC.none (OpV.t rfl) (OpV.t rfl) el31.h (RdT.map (slcE_rd heX13 hsX13) (RdT.tree mm)) (fun _=>hy16) ?_
     refine D_loadW GC.none (OpV.t rfl) (fun hg=>RdT.at (RdT.map (slcE_rd heX13 hsX13) (RdT.tree mm)) (hy16).2) (by exact agg35.h) ?_
     refine D_bin GC.none (OpV.t rfl) (OpV.t rfl) (fun hg=>(bv_aneq eqsh35 (EqS.consI one3.h und3.h rfl rfl (EqS.consI one3.h und3.h rfl rfl EqS.nil)))) ?_
     refine s12 ?_
     refine kp [0,3,4,5,44] ?_
     refine W_cond rfl (fun q17=>?_) (fun q17=>?_)
     ·replace hp:=cond_t q17 hp
      refine s6 ?_
      replace hp:=idx_bind hp;obtain ⟨u18,hy18,hp⟩:=hp
      obtain rfl:(u15_1,u15_2)=u18:=Option.some.inj (hy15.2.symm.trans hy18.2)
      refine L_idxA (X:=X13) rfl rfl rfl el31.h (RdT.map (slcE_rd heX13 hsX13) (RdT.tree mm)) hy15 ?_
      refine L_loadW rfl rfl (RdT.at (RdT.map (slcE_rd heX13 hsX13) (RdT.tree mm)) (hy15).2) (by exact agg35.h) ?_
      replace hp:=idx_bind hp;obtain ⟨⟨u19_1,u19_2⟩,hy19,hp⟩:=hp
      refine L_idxA (X:=v11_0) rfl rfl rfl el31.h (RdT.tree mm) hy19 ?_
      refine L_conv (M':=treeH (u19_1,u19_2)::holeH v11_0 (v11_1.toNat) (GT.cells (u19_1,u19_2))::_) (fun w h=>hole_open hy19.2 pk h) ?_
      refine L_stH (X:=v11_0) (i:=v11_1.toNat) (sz:=2) (fo:=0) (n:=2) rfl rfl pk rfl (.inl agg35.h) rfl (allOne rfl) (Nat.le_of_ble_eq_true rfl) ?_
      refine L_conv (M':=treeH ((u15_1,u15_2):T_Id)::_) (fun w h=>addF ((u15_1,u15_2):T_Id) h) ?_
      replace hp:=ba hp;obtain ⟨y20,hy20,hp⟩:=hp
      refine L_close (X:=v11_0) ((u15_1,u15_2):T_Id) rfl pk pk hy20 (fun X21 hdX21 hhX21=>?_)
      subst hdX21
      try rw [← hhX21]
      try rw [← g_of_hdr hhX21]
      try rw [← o_of_hdr hhX21]
      refine s11 ?_
      try rw [hvX13]
      exact ⟨(X21,IntKind.wrap .i64 (v11_1+1),IntKind.wrap .i64 (v11_2+1)),sb,(.sub ms),some_eq hp⟩
     ·replace hp:=cond_f q17 hp
      refine s6 ?_
      try rw [hvX13]
      exact ⟨(v11_0,v11_1,IntKind.wrap .i64 (v11_2+1)),sb,(.sub ms),some_eq hp⟩
    ·replace hp:=cond_f q14 hp
     refine W_exit ?_
     replace hp:=map_any hp;obtain ⟨a22,hp,z_22⟩:=hp
     obtain rfl:=hx11 _ z_22
     refine s4 ?_
     replace hp:=ba hp;obtain ⟨y23,hy23,hp⟩:=hp
     refine L_slcE (X:=v11_0) rfl rfl rfl rfl el31.h rfl (RdT.tree mm) hy23 (fun X24 hdX24 heX24=>?_)
     have hsX24:=hy23
     subst hdX24
     replace hp:=ba hp;obtain ⟨y25,hy25,hp⟩:=hp
     replace hp:=ba hp;obtain ⟨y26,hy26,hp⟩:=hp
     refine L_clrV (X:=v11_0) (Y:=X24) ((0,0):T_Id) rfl el31.h rfl rfl rfl pk heX24 hsX24 hy25 hy26 (fun X27 hdX27 hhX27=>?_)
     subst hdX27
     try rw [← hhX27]
     refine s5 ?_
     replace hp:=ba hp;obtain ⟨y28,hy28,hp⟩:=hp
     refine L_slcE (X:=X27) rfl rfl rfl rfl el31.h rfl (RdT.tree mm) hy28 (fun X29 hdX29 heX29=>?_)
     have hsX29:=hy28
     subst hdX29
     refine s2 ?_
     refine W_trunc (X:=X27) (Y:=X29) (u:=()) heX29 hsX29 rfl pk (fun X30 hdX30 hhX30=>?_)
     try rw [← hdX30] at hp
     try rw [← hdX30]
     try rw [← hhX30]
     replace hp:=map_any hp;obtain ⟨a31,hp,z_31⟩:=hp
     obtain rfl:=hx2 _ z_31
     obtain rfl:=sj hp
     refine s1 ?_
     refine res1 rfl (ResOK.tmp rfl) ⟨X30,rfl,rfl,rfl⟩ ms
   ·replace hp:=cond_f q6 hp
    refine s6 ?_
    exact ⟨IntKind.wrap .i64 (v2_0+1),sb,(.sub ms),some_eq hp⟩
  ·replace hp:=cond_f q3 hp
   refine W_exit ?_
   replace hp:=map_any hp;obtain ⟨a32,hp,z_32⟩:=hp
   obtain rfl:=hx2 _ z_32
   refine s5 ?_
   obtain rfl:=sj hp
   refine s1 ?_
   refine res1 rfl (ResOK.tmp rfl) ⟨a0,rfl,rfl,rfl⟩ ms
end Go.Proofs.SL
