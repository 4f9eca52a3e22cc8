/- The texts of the proof, part 25: the base, walks of functions, plain Lean. -/
import Derived.Test.YtipncebebegacaaGreatT20
import Derived.Test.YtipncebebegacaaGreatT23
import Derived.Test.YtipncebebegacaaGreatT24
import Derived.Test.YtipncebebegacaaGreatT7
namespace Go.Proofs.SL
open Go
instance fn12:FnF Tryz.prog 12:=⟨⟨_,Tryz.func12,by kernel_rfl,rfl⟩⟩
instance fn7:FnF Tryz.prog 7:=⟨⟨_,Tryz.func7,by kernel_rfl,rfl⟩⟩
instance fn9:FnF Tryz.prog 9:=⟨⟨_,Tryz.func9,by kernel_rfl,rfl⟩⟩
instance fn18:FnF Tryz.prog 18:=⟨⟨_,Tryz.func18,by kernel_rfl,rfl⟩⟩
instance fn17:FnF Tryz.prog 17:=⟨⟨_,Tryz.func17,by kernel_rfl,rfl⟩⟩
instance fn19:FnF Tryz.prog 19:=⟨⟨_,Tryz.func19,by kernel_rfl,rfl⟩⟩
theorem sNodeState_spec (w:World) (a0:T_ENode) (h0:GT.rd w [] a0) (ho0:Ok.ok (GT.dat a0)) (hs0:Bd.bd (τ:=T_ENode) (GT.dat a0)≤1048576):Spec Tryz.prog 15 [.agg (GT.cells a0).toArray].toArray w [] (fun v M=>∃ (x0:T_State),v=.agg (GT.cells x0).toArray∧GT.dat x0=(nodeStateD (GT.dat a0))∧M=[treeH x0]):=(s_NodeState_walk w a0 h0 _ (s_NodeState_eq ho0 (small_e hs0))).to fun v M ⟨x0,hv,hd,hM⟩=>by
 exact ⟨x0,hv,congrArg (fun z=>z) hd,hM⟩
theorem iNodeState_spec (w:World) (a0:T_ENode) (h0:GT.rd w [] a0) (ho0:Ok.ok (GT.dat a0)) (hs0:Bd.bd (τ:=T_ENode) (GT.dat a0)≤1048576):Spec Tryz.prog 16 [.agg (GT.cells a0).toArray].toArray w [] (fun v M=>∃ (x0:T_State),v=.agg (GT.cells x0).toArray∧GT.dat x0=(nodeStateD (GT.dat a0))∧M=[treeH x0]):=(i_NodeState_walk w a0 h0 _ (i_NodeState_eq ho0 (small_e hs0))).to fun v M ⟨x0,hv,hd,hM⟩=>by
 exact ⟨x0,hv,congrArg (fun z=>z) hd,hM⟩
theorem lawFnExactNodeState (w:World) (t1:T_ENode) (h1:GT.rd w [] t1) (ho1:Ok.ok (GT.dat t1)) :Spec Tryz.prog 4 [.agg (GT.cells t1).toArray].toArray w [] (IsV (.bool true)):=by
 refine Spec.intro Tryz.func4 rfl Tryz.ntmps4 rfl ?_
 refine s2 ?_
 refine bx fun bk1=>?_
 refine s8 ?_
 refine L_loadW rfl rfl (by first | exact RdC.blk mm) (by exact agg25.h) ?_
 refine s1 ?_
 refine L_callX rfl fn6.h rfl (by exact fun w hw=>szENode_spec w t1 (1048576) (by omega) (by omega) (rd_carry h1 hw) ho1) ?_
 refine s8 ?_
 refine kp [1,15] ?_
 refine W_cond rfl (fun hc3=>?_) (fun hc3=>?_)
 ·refine s5 ?_
  refine res1 rfl (ResOK.tmp rfl) ⟨?_,rfl⟩ ms
  rfl
 ·have hb1:(Bk.bulk t1:Int)≤1048576:=by
   rcases Int.decLt (1048576) (Bk.bulk t1:Int) with hn | hn
   ·omega
   ·rw [if_neg (by omega)] at hc3;simp at hc3
  rw [if_pos hb1]
  refine s3 ?_
  refine L_loadW rfl rfl (by first | exact RdC.blk mm) (by exact agg25.h) ?_
  refine L_callR rfl fn8.h rfl (by exact fun w hw=>toENode_spec w _ (rd_carry h1 hw) (by omega)) ?_
  rintro v M1 ⟨n1,hv,hn1,rfl⟩
  subst hv
  simp only [List.cons_append,List.nil_append]
  refine L_callR rfl fn15.h rfl (by exact fun w hw=>sNodeState_spec w n1 (rd_of_tree mm hw.sees) (by rw [hn1];exact ho1) (by first | (rw [hn1,← Bd.eq];omega) | (rw [← Bd.eq];omega))) ?_
  rintro v M1 ⟨r1_0,hv,hr1_0,rfl⟩
  subst hv
  simp only [List.cons_append,List.nil_append]
  refine al fun bk4=>?_
  refine L_storeW rfl rfl pk (by exact agg43.h) (by rfl) (by first | (simp [Value.oneCell',TL.hdr];done) | (simp [Value.oneCell',TL.hdr,Value.cells];done) | exact fun v hv=>GT.one _ v hv) ?_
  refine s3 ?_
  refine L_loadW rfl rfl (by first | exact RdC.blk mm) (by exact agg25.h) ?_
  refine L_callR rfl fn8.h rfl (by exact fun w hw=>toENode_spec w _ (rd_carry h1 hw) (by omega)) ?_
  rintro v M1 ⟨n2,hv,hn2,rfl⟩
  subst hv
  simp only [List.cons_append,List.nil_append]
  refine al fun bk5=>?_
  refine L_storeW rfl rfl pk (by exact agg32.h) (by rfl) (by first | (simp [Value.oneCell',TL.hdr];done) | (simp [Value.oneCell',TL.hdr,Value.cells];done) | exact fun v hv=>GT.one _ v hv) ?_
  refine s3 ?_
  refine L_loadW rfl rfl (by first | exact RdC.blk mm) (by exact agg32.h) ?_
  refine L_callR rfl fn16.h rfl (by exact fun w hw=>iNodeState_spec w n2 (rd_of_tree mm hw.sees) (by rw [hn2];exact ho1) (by first | (rw [hn2,← Bd.eq];omega) | (rw [← Bd.eq];omega))) ?_
  rintro v M1 ⟨r2_0,hv,hr2_0,rfl⟩
  subst hv
  simp only [List.cons_append,List.nil_append]
  refine al fun bk6=>?_
  refine L_storeW rfl rfl pk (by exact agg43.h) (by rfl) (by first | (simp [Value.oneCell',TL.hdr];done) | (simp [Value.oneCell',TL.hdr,Value.cells];done) | exact fun v hv=>GT.one _ v hv) ?_
  refine s4 ?_
  refine L_loadW rfl rfl (by first | exact RdC.blk mm) (by exact agg43.h) ?_
  refine L_loadW rfl rfl (by first | exact RdC.blk mm) (by exact agg43.h) ?_
  refine L_callX rfl fn17.h rfl (by exact fun w hw=>eqState_spec w r2_0 r1_0 (rd_of_tree mm hw.sees) (rd_of_tree mm hw.sees)) ?_
  refine s2 ?_
  refine kp [1,4,5,6,26] ?_
  refine W_cond rfl (fun hc8=>?_) (fun hc8=>?_)
  ·refine s5 ?_
   refine res1 rfl (ResOK.tmp rfl) ⟨?_,rfl⟩ ms
   exfalso
   have hx2:eqB (GT.dat r2_0) (GT.dat r1_0)=true:=eqB_true.2 (by simp only [hn1,hr1_0,hn2,hr2_0])
   simp [hx2] at hc8<;>omega
  ·refine s3 ?_
   refine W_D0 [31] mix (by kernel_rfl) rfl ?_
   refine D_loadW GC.none (OpV.t rfl) (fun hg=>(by first | exact RdC.blk mm)) (by exact agg32.h) ?_
   refine D_loadW GC.none (OpV.t rfl) (fun hg=>(by first | exact RdC.blk mm)) (by exact agg25.h) ?_
   refine D_call1R (fun v M=>∃ m:T_ENode,v=.agg (GT.cells m).toArray∧GT.dat m=GT.dat t1∧M=[treeH m]) fn8.h (OpVs.cons (OpV.t rfl) (OpVs.nil)) (by exact fun w F hF hM=>(fun w hw=>toENode_spec w _ (rd_carry h1 hw) (by omega)) w hF) ?_
   refine D_callR [_,_] (FC True (.bool true)) fn11.h ⟨⟨_,rfl,fun _ _ h=>h⟩,⟨_,rfl,fun _ _ h=>h⟩,trivial⟩ (by
    rintro w F vs hw hM ⟨v1,u1,M1,rfl,⟨rfl,hx1,_⟩,_,v2,u2,M2,rfl,⟨m2,rfl,hd2x,rfl⟩,hin,rfl⟩
    obtain rfl:=hx1 trivial
    have h:=eqENode_spec w n2 m2 (rd_of_tree (hM _ mm) hw.sees) (rd_of_tree (hin _ (List.mem_singleton.2 rfl)) hw.sees)
    rw [eqB_true.2 (hn2.trans hd2x.symm)] at h
    exact h.toFC) ?_
   refine s8 ?_
   refine kp [1,4,5,6,31] ?_
   refine W_condF rfl ?_
   refine s6 ?_
   have hc_n2:Mv.cnt n2≤1000000000000:=cntv_le n2 rfl (by rw [bulk_dat hn2];omega)
   refine s1 ?_
   refine L_loadW rfl rfl (by first | exact RdC.blk mm) (by exact agg32.h) ?_
   refine s1 ?_
   refine L_call1 (h:=treeH n2) rfl fn12.h rfl pk (by exact fun w hw=>markENode_spec w n2 1 (by omega) (by omega)) ?_
   rintro v M1 ⟨hv,rfl⟩
   subst hv
   simp only [List.cons_append,List.nil_append]
   refine s4 ?_
   refine W_D0 [42] mix (by kernel_rfl) rfl ?_
   refine s3 ?_
   refine D_loadW (GC.some rfl rfl) (OpV.t rfl) (fun hg=>(by first | exact RdC.blk mm)) (by exact agg43.h) ?_
   refine D_loadW (GC.some rfl rfl) (OpV.t rfl) (fun hg=>(by first | exact RdC.blk mm)) (by exact agg43.h) ?_
   refine D_callX (GC.some rfl rfl) fn17.h (OpVs.cons (OpV.s rfl) (OpVs.cons (OpV.s rfl) (OpVs.nil))) (by exact fun hg w F hF hM=>eqState_spec w r2_0 r1_0 (rd_of_tree (hM _ mm) hF.sees) (rd_of_tree (hM _ mm) hF.sees)) ?_
   refine s12 ?_
   refine kp [1,4,6,42] ?_
   refine W_cond rfl (fun hc14=>?_) (fun hc14=>?_)
   ·refine s5 ?_
    refine res1 rfl (ResOK.tmp rfl) ⟨?_,rfl⟩ ms
    exfalso
    have hx5:eqB (GT.dat r2_0) (GT.dat r1_0)=true:=eqB_true.2 (by simp only [hn1,hr1_0,hn2,hr2_0])
    simp [hx5] at hc14<;>omega
   ·refine s6 ?_
    have hc_r2_0:Mv.cnt r2_0≤1000000000000:=cntv_le r2_0 rfl (by have:=nodeState_bd _ _ hr2_0;omega)
    refine s1 ?_
    refine L_loadW rfl rfl (by first | exact RdC.blk mm) (by exact agg43.h) ?_
    refine s1 ?_
    refine L_call1 (h:=treeH r2_0) rfl fn18.h rfl pk (by exact fun w hw=>markState_spec w r2_0 1 (by omega) (by omega)) ?_
    rintro v M1 ⟨hv,rfl⟩
    subst hv
    simp only [List.cons_append,List.nil_append]
    refine s8 ?_
    refine L_loadW rfl rfl (by first | exact RdC.blk mm) (by exact agg43.h) ?_
    refine s1 ?_
    refine L_callX rfl fn19.h rfl (by exact fun w hw=>(by have h:=heldState_spec w r2_0 1 (by omega) (by omega) (rd_of_tree mm hw.sees);rw [Cv.eq] at h;exact h)) ?_
    refine s8 ?_
    refine kp [1,4,6,8,9,50] ?_
    refine W_cond rfl (fun hc20=>?_) (fun hc20=>?_)
    ·refine s5 ?_
     refine res1 rfl (ResOK.tmp rfl) ⟨?_,rfl⟩ ms
     exfalso
     simp [] at hc20<;>omega
    ·refine s8 ?_
     refine kp [1,4,6,8,53] ?_
     refine W_cond rfl (fun hc22=>?_) (fun hc22=>?_)
     ·refine s5 ?_
      refine res1 rfl (ResOK.tmp rfl) ⟨?_,rfl⟩ ms
      exfalso
      simp [] at hc22<;>omega
     ·refine s3 ?_
      refine L_loadW rfl rfl (by first | exact RdC.blk mm) (by exact agg25.h) ?_
      refine L_callR rfl fn8.h rfl (by exact fun w hw=>toENode_spec w _ (rd_carry h1 hw) (by omega)) ?_
      rintro v M1 ⟨n3,hv,hn3,rfl⟩
      subst hv
      simp only [List.cons_append,List.nil_append]
      refine L_callR rfl fn16.h rfl (by exact fun w hw=>iNodeState_spec w n3 (rd_of_tree mm hw.sees) (by rw [hn3];exact ho1) (by first | (rw [hn3,← Bd.eq];omega) | (rw [← Bd.eq];omega))) ?_
      rintro v M1 ⟨r3_0,hv,hr3_0,rfl⟩
      subst hv
      simp only [List.cons_append,List.nil_append]
      refine al fun bk10=>?_
      refine L_storeW rfl rfl pk (by exact agg43.h) (by rfl) (by first | (simp [Value.oneCell',TL.hdr];done) | (simp [Value.oneCell',TL.hdr,Value.cells];done) | exact fun v hv=>GT.one _ v hv) ?_
      refine s4 ?_
      refine L_loadW rfl rfl (by first | exact RdC.blk mm) (by exact agg43.h) ?_
      refine L_loadW rfl rfl (by first | exact RdC.blk mm) (by exact agg43.h) ?_
      refine L_callX rfl fn17.h rfl (by exact fun w hw=>eqState_spec w r3_0 r1_0 (rd_of_tree mm hw.sees) (rd_of_tree mm hw.sees)) ?_
      refine s2 ?_
      refine kp [6,8,60] ?_
      refine W_cond rfl (fun hc25=>?_) (fun hc25=>?_)
      ·refine s5 ?_
       refine res1 rfl (ResOK.tmp rfl) ⟨?_,rfl⟩ ms
       exfalso
       have hx2:eqB (GT.dat r3_0) (GT.dat r1_0)=true:=eqB_true.2 (by simp only [hn1,hr1_0,hn2,hr2_0,hn3,hr3_0])
       simp [hx2] at hc25<;>omega
      ·refine s7 ?_
       refine L_loadW rfl rfl (by first | exact RdC.blk mm) (by exact agg43.h) ?_
       refine s1 ?_
       refine L_callX rfl fn19.h rfl (by exact fun w hw=>(by have h:=heldState_spec w r2_0 1 (by omega) (by omega) (rd_of_tree mm hw.sees);rw [Cv.eq] at h;exact h)) ?_
       refine s8 ?_
       refine kp [8,9,65] ?_
       refine W_cond rfl (fun hc29=>?_) (fun hc29=>?_)
       ·refine s5 ?_
        refine res1 rfl (ResOK.tmp rfl) ⟨?_,rfl⟩ ms
        exfalso
        simp [] at hc29<;>omega
       ·refine s8 ?_
        refine kp [68] ?_
        refine W_cond rfl (fun hc31=>?_) (fun hc31=>?_)
        ·refine s5 ?_
         refine res1 rfl (ResOK.tmp rfl) ⟨?_,rfl⟩ ms
         exfalso
         simp [] at hc31<;>omega
        ·refine s6 ?_
         refine res1 rfl (ResOK.tmp rfl) ⟨?_,rfl⟩ ms
         rfl
end Go.Proofs.SL
