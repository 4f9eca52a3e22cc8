/- The texts of the proof, part 24: the base, walks of functions, plain Lean. -/
import Derived.Test.YtipncebebegacaaGreatRows
import Derived.Test.YtipncebebegacaaGreatT21
import Derived.Test.YtipncebebegacaaGreatT7
import Derived.Test.YtipncebebegacaaGreatT23
namespace Go.Proofs.SL
open Go
set_option maxHeartbeats 2000000
instance fn35:FnF Tryz.prog 35:=⟨⟨_,Tryz.func35,by kernel_rfl,rfl⟩⟩
theorem eqSaid_spec (w:World) (t1 t2:T_Said) (h1:GT.rd w [] t1) (h2:GT.rd w [] t2):Spec Tryz.prog 35 [.agg (GT.cells t1).toArray,.agg (GT.cells t2).toArray].toArray w [] (IsV (.bool (eqB (GT.dat t1) (GT.dat t2)))):=by
 obtain ⟨a1,a2,a3⟩:=t1
 obtain ⟨b1,b2,b3⟩:=t2
 change Spec _ _ [Value.agg #[.int .i64 a1,.int .i64 a2,.string a3],Value.agg #[.int .i64 b1,.int .i64 b2,.string b3]].toArray w [] _
 refine Spec.intro Tryz.func35 rfl Tryz.ntmps35 rfl ?_
 refine s2 ?_
 refine bx fun bk2=>?_
 refine bx fun bk3=>?_
 refine s6 ?_
 refine L_load rfl rfl (by first | exact RdC.blk mm) one3.h rfl ?_
 refine s1 ?_
 refine L_load rfl rfl (by first | exact RdC.blk mm) one3.h rfl ?_
 refine s2 ?_
 refine kp [2,3,9] ?_
 refine W_cond rfl (fun hc1=>?_) (fun hc1=>?_)
 ·refine s5 ?_
  refine res1 rfl (ResOK.tmp rfl) ⟨?_,rfl⟩ ms
  clear h1 h2
  first
   | (refine congrArg Value.bool (Eq.symm (eqB_false.2 fun e=>?_));try simp only [dat_pair,dat_int,dat_bool,dat_str,Prod.mk.injEq] at e;simp_all;done)
   | (refine congrArg Value.bool (Eq.symm (eqB_true.2 ?_));try simp only [dat_pair,dat_int,dat_bool,dat_str,Prod.mk.injEq];simp_all;done)
 ·refine s5 ?_
  refine L_load rfl rfl (by first | exact RdC.blk mm) one3.h rfl ?_
  refine s1 ?_
  refine L_load rfl rfl (by first | exact RdC.blk mm) one3.h rfl ?_
  refine s2 ?_
  refine kp [2,3,14] ?_
  refine W_cond rfl (fun hc3=>?_) (fun hc3=>?_)
  ·refine s5 ?_
   refine res1 rfl (ResOK.tmp rfl) ⟨?_,rfl⟩ ms
   clear h1 h2
   first
    | (refine congrArg Value.bool (Eq.symm (eqB_false.2 fun e=>?_));try simp only [dat_pair,dat_int,dat_bool,dat_str,Prod.mk.injEq] at e;simp_all;done)
    | (refine congrArg Value.bool (Eq.symm (eqB_true.2 ?_));try simp only [dat_pair,dat_int,dat_bool,dat_str,Prod.mk.injEq];simp_all;done)
  ·refine s5 ?_
   refine L_load rfl rfl (by first | exact RdC.blk mm) one9.h rfl ?_
   refine s1 ?_
   refine L_load rfl rfl (by first | exact RdC.blk mm) one9.h rfl ?_
   refine s2 ?_
   refine kp [19] ?_
   refine W_cond rfl (fun hc5=>?_) (fun hc5=>?_)
   ·refine s5 ?_
    refine res1 rfl (ResOK.tmp rfl) ⟨?_,rfl⟩ ms
    clear h1 h2
    first
     | (refine congrArg Value.bool (Eq.symm (eqB_false.2 fun e=>?_));try simp only [dat_pair,dat_int,dat_bool,dat_str,Prod.mk.injEq] at e;simp_all;done)
     | (refine congrArg Value.bool (Eq.symm (eqB_true.2 ?_));try simp only [dat_pair,dat_int,dat_bool,dat_str,Prod.mk.injEq];simp_all;done)
   ·refine s6 ?_
    refine res1 rfl (ResOK.tmp rfl) ⟨?_,rfl⟩ ms
    clear h1 h2
    first
     | (refine congrArg Value.bool (Eq.symm (eqB_false.2 fun e=>?_));try simp only [dat_pair,dat_int,dat_bool,dat_str,Prod.mk.injEq] at e;simp_all;done)
     | (refine congrArg Value.bool (Eq.symm (eqB_true.2 ?_));try simp only [dat_pair,dat_int,dat_bool,dat_str,Prod.mk.injEq];simp_all;done)
theorem eqSaidS_spec (w:World) (t1 t2:TL T_Said) (h1:GT.rd w [] t1) (h2:GT.rd w [] t2):Spec Tryz.prog 10 [t1.hdr,t2.hdr].toArray w [] (IsV (.bool (eqB (GT.dat t1) (GT.dat t2)))):=by
 obtain ⟨a1,c1,e1,x1,y1⟩:=t1
 obtain ⟨a2,c2,e2,x2,y2⟩:=t2
 have hm1:x1.length≤9223372036854775807:=rd_len h1
 have hm2:x2.length≤9223372036854775807:=rd_len h2
 dsimp only [TL.hdr]
 refine Spec.intro Tryz.func10 rfl Tryz.ntmps10 rfl ?_
 refine s8 ?_
 refine L_lenS rfl rfl el27.h ?_
 refine s1 ?_
 refine L_lenS rfl rfl el27.h ?_
 refine s2 ?_
 refine kp [0,1,10] ?_
 refine W_cond rfl (fun hc1=>?_) (fun hc1=>?_)
 ·refine s5 ?_
  refine res1 rfl (ResOK.tmp rfl) ⟨?_,rfl⟩ ms
  refine congrArg Value.bool (Eq.symm (eqB_false.2 fun e=>?_))
  simp at hc1
  exact hc1 (by have:=congrArg List.length e;simp [dat_TL] at this;omega)
 ·have hl:x1.length=x2.length:=by simp at hc1;omega
  refine s7 ?_
  refine W_loopC (σ:=Nat) 0 (fun (k:Nat)=>[(5,.int .i64 (k:Int))]) (fun (k:Nat)=>[]) (fun (k:Nat)=>k≤x1.length∧(x1.map GT.dat).take k=(x2.map GT.dat).take k) (fun (k:Nat)=>x1.length - k) [(0,_),(1,_)] [] ?_ sb ms ?_
  ·exact ⟨Nat.zero_le _,rfl⟩
  ·rintro k ⟨hk,ht⟩
   refine kq [0,1,5] ?_
   refine s5 ?_
   refine L_lenS rfl rfl el27.h ?_
   refine s2 ?_
   refine kp [0,1,5,14] ?_
   refine W_cond rfl (fun hc4=>?_) (fun hc4=>?_)
   ·have hk1:k < x1.length:=by simpa using hc4
    obtain ⟨g1,o1,rfl⟩:=rd_addr h1 hk1
    obtain ⟨g2,o2,rfl⟩:=rd_addr (k:=k) h2 (show k < x2.length by omega)
    obtain ⟨u1,hu1⟩:=getEl hk1
    obtain ⟨u2,hu2⟩:=getEl (show k < x2.length by omega)
    refine s4 ?_
    refine W_D0 [26] mix (by kernel_rfl) rfl ?_
    refine s2 ?_
    refine D_indexAddr _ GC.none (OpV.t rfl) (OpV.t rfl) el27.h (fun hg=>⟨rfl,by (try dsimp only);omega⟩) ?_
    refine D_loadW GC.none (OpV.t rfl) (fun hg=>(by first | exact RdC.blk mm | exact RdC.old (Cells.el h1 rfl hu1) | exact RdC.old (Cells.el h2 rfl hu2))) (by exact agg71.h) ?_
    refine s2 ?_
    refine D_indexAddr _ GC.none (OpV.t rfl) (OpV.t rfl) el27.h (fun hg=>⟨rfl,by (try dsimp only);omega⟩) ?_
    refine D_loadW GC.none (OpV.t rfl) (fun hg=>(by first | exact RdC.blk mm | exact RdC.old (Cells.el h1 rfl hu1) | exact RdC.old (Cells.el h2 rfl hu2))) (by exact agg71.h) ?_
    refine D_callX GC.none fn35.h (OpVs.cons (OpV.t rfl) (OpVs.cons (OpV.t rfl) (OpVs.nil))) (by exact fun hg w F hF hM=>(fun w hw=>eqSaid_spec w _ _ (rd_carry (h1.2.2.1 _ (List.mem_of_getElem? hu1)) hw) (rd_carry (h2.2.2.1 _ (List.mem_of_getElem? hu2)) hw)) w hF) ?_
    refine s13 ?_
    refine kp [0,1,5,26] ?_
    refine W_cond rfl (fun hc6=>?_) (fun hc6=>?_)
    ·refine s5 ?_
     refine res1 rfl (ResOK.tmp rfl) ⟨?_,rfl⟩ ms
     refine congrArg Value.bool (Eq.symm (eqB_false.2 fun e=>?_))
     simp at hc6
     replace e:x1.map GT.dat=x2.map GT.dat:=e
     have e2:=congrArg (fun l=>l[k]?) e
     simp only [List.getElem?_map,hu1,hu2,Option.map_some,Option.some.injEq] at e2
     exact hc6 (by simpa [dat_int,dat_str,dat_bool] using e2)
    ·refine s3 ?_
     refine L_binV rfl rfl rfl (bv_addR (by unfold inR;omega)) ?_
     refine s2 ?_
     refine ⟨k+1,sb,ms,?_,?_⟩
     ·exact ⟨by omega,take_succ_eq ht (by rw [List.getElem?_map,hu1];rfl) (by rw [List.getElem?_map,hu2];rfl) (by simpa [dat_int,dat_str,dat_bool] using hc6)⟩
     ·(try dsimp only);omega
   ·refine W_exit ?_
    refine s5 ?_
    refine res1 rfl (ResOK.tmp rfl) ⟨?_,rfl⟩ ms
    refine congrArg Value.bool (Eq.symm (eqB_true.2 ?_))
    have hk2:x1.length≤k:=by simpa using hc4
    have h3:=ht
    rw [List.take_of_length_le (by simp;omega),List.take_of_length_le (by simp;omega)] at h3
    exact h3
theorem markSaidS_spec (w:World) (t1:TL T_Said) (k0:Nat) (hk0:0 < k0) (hb:k0+Mk.cnt t1 < 9223372036854775807):Spec Tryz.prog 13 [t1.hdr,.int .i64 (k0:Int)].toArray w [treeH t1] (fun v M=>v=.int .i64 ((k0+Mk.cnt t1:Nat):Int)∧M=[treeH (Mk.mkd k0 t1)]):=by
 obtain ⟨a1,c1,e1,x1,y1⟩:=t1
 replace hb:k0+cnts x1 < 9223372036854775807:=hb
 dsimp only [TL.hdr]
 refine Spec.intro Tryz.func13 rfl Tryz.ntmps13 rfl ?_
 refine W_fact (fun w h=>ow_facts (h.prs _ (List.mem_cons_self ..))) fun hF=>?_
 replace hF:x1.length≤9223372036854775807∧(0 < x1.length→∃ g,a1=some ⟨g,0,none⟩):=hF
 refine s10 ?_
 refine W_conv (M':=[treeH (⟨a1,c1,e1,half k0 0 x1,y1⟩:TL T_Said)]) (fun w h=>by rw [half_zero];exact h) ?_
 refine W_loopC (σ:=Nat) 0 (fun (i:Nat)=>[(1,.int .i64 ((k0+cnts (x1.take i):Nat):Int)),(5,.int .i64 (i:Int))]) (fun (i:Nat)=>[treeH (⟨a1,c1,e1,half k0 i x1,y1⟩:TL T_Said)]) (fun (i:Nat)=>i≤x1.length) (fun (i:Nat)=>x1.length - i) [(0,_)] [] ?_ sb ms ?_
 ·exact Nat.zero_le _
 ·rintro i hi
  refine kq [0,1,5] ?_
  refine s5 ?_
  refine L_lenS rfl rfl el27.h ?_
  refine s2 ?_
  refine kp [0,1,5,9] ?_
  refine W_cond rfl (fun hc2=>?_) (fun hc2=>?_)
  ·have hk1:i < x1.length:=by simpa using hc2
   obtain ⟨g,rfl⟩:=hF.2 (by omega)
   obtain ⟨u,hu⟩:=getEl hk1
   have hs:=cnts_take_succ hu
   have hle:=cnts_take_le x1 (i+1)
   have hlh:=half_length k0 i x1
   obtain ⟨b1,b2,b3⟩:=u
   simp only [cnt_pair,cnt_int,cnt_str] at hs
   refine s8 ?_
   refine L_indexAddr rfl rfl rfl el27.h rfl (by omega) ?_
   refine s1 ?_
   refine L_storeElF (fo:=0) (x':=(((((k0+cnts (x1.take i)):Nat):Int),b2,b3):T_Said)) rfl rfl pk rfl (show ((half k0 i x1):List T_Said)[i]?=some ((b1,b2,b3):T_Said) from half_get (k:=k0) hu) rfl rfl (by decide) rfl (fun w h=>by exact ⟨(by exact trivial),h.2.1,h.2.2⟩) one3.h ?_
   refine s4 ?_
   refine L_binV rfl rfl rfl (bv_addR (by unfold inR;omega)) ?_
   refine s2 ?_
   rw [show (((k0+cnts (x1.take i)):Nat):Int)+1=((((k0+cnts (x1.take i))+1):Nat):Int) from rfl]
   refine s5 ?_
   refine L_indexAddr rfl rfl rfl el27.h rfl (by omega) ?_
   refine s1 ?_
   refine L_storeElF (fo:=1) (x':=(((((k0+cnts (x1.take i)):Nat):Int),((((k0+cnts (x1.take i))+1):Nat):Int),b3):T_Said)) rfl rfl pk rfl (show (((half k0 i x1).set i (((((k0+cnts (x1.take i)):Nat):Int),b2,b3):T_Said)):List T_Said)[i]?=some (((((k0+cnts (x1.take i)):Nat):Int),b2,b3):T_Said) from set_get (half_get (k:=k0) hu)) rfl rfl (by decide) rfl (fun w h=>by exact ⟨h.1,(by exact trivial),h.2.2⟩) one3.h ?_
   rw [List.set_set]
   refine s4 ?_
   refine L_binV rfl rfl rfl (bv_addR (by unfold inR;omega)) ?_
   refine s2 ?_
   rw [show ((((k0+cnts (x1.take i))+1):Nat):Int)+1=((((k0+cnts (x1.take i))+2):Nat):Int) from rfl]
   refine s5 ?_
   refine L_callX rfl fn40.h rfl (by exact fun w hw=>markText_spec w ((k0+cnts (x1.take i))+2) (by omega) (by omega)) ?_
   refine L_indexAddr rfl rfl rfl el27.h rfl (by omega) ?_
   refine s1 ?_
   refine L_storeElF (fo:=2) (x':=(((((k0+cnts (x1.take i)):Nat):Int),((((k0+cnts (x1.take i))+1):Nat):Int),(mtx ((k0+cnts (x1.take i))+2))):T_Said)) rfl rfl pk rfl (show (((half k0 i x1).set i (((((k0+cnts (x1.take i)):Nat):Int),((((k0+cnts (x1.take i))+1):Nat):Int),b3):T_Said)):List T_Said)[i]?=some (((((k0+cnts (x1.take i)):Nat):Int),((((k0+cnts (x1.take i))+1):Nat):Int),b3):T_Said) from set_get (half_get (k:=k0) hu)) rfl rfl (by decide) rfl (fun w h=>by exact ⟨h.1,h.2.1,(by exact trivial)⟩) one9.h ?_
   rw [List.set_set]
   refine s3 ?_
   refine L_binV rfl rfl rfl (bv_addR (by unfold inR;omega)) ?_
   refine s2 ?_
   rw [show ((((k0+cnts (x1.take i))+2):Nat):Int)+1=((((k0+cnts (x1.take i))+3):Nat):Int) from rfl]
   have hfin:((half k0 i x1).set i (((((k0+cnts (x1.take i)):Nat):Int),((((k0+cnts (x1.take i))+1):Nat):Int),(mtx ((k0+cnts (x1.take i))+2))):T_Said))=half k0 (i+1) x1:=by
    have h9:=half_set (k:=k0) hu
    try simp only [mk_pair,mk_int,mk_str,cnt_pair,cnt_int,cnt_str,← Nat.add_assoc] at h9
    try simp only [List.set_set]
    exact h9
   refine W_conv (M':=treeH (⟨some ⟨g,0,none⟩,c1,e1,(half k0 (i+1) x1),y1⟩:TL T_Said)::_) (fun w h=>by rw [← hfin];exact h) ?_
   have hE:((k0+cnts (x1.take i))+3)=k0+cnts (x1.take (i+1)):=by rw [hs];(try simp only [cnt_pair,cnt_int,cnt_str]);omega
   rw [hE]
   refine s2 ?_
   refine L_binV rfl rfl rfl (bv_addR (by unfold inR;omega)) ?_
   refine s2 ?_
   refine ⟨i+1,sb,ms,?_,?_⟩
   ·show i+1≤x1.length
    omega
   ·show x1.length - (i+1) < x1.length - i
    omega
  ·refine W_exit ?_
   refine s6 ?_
   have hk2:x1.length≤i:=by simpa using hc2
   rw [half_all k0 hk2]
   refine res1 rfl (ResOK.tmp rfl) ⟨?_,rfl⟩ ms
   have hk2:x1.length≤i:=by simpa using hc2
   rw [List.take_of_length_le hk2];rfl
theorem heldSaidS_spec (w:World) (t1:TL T_Said) (k0:Nat) (hk0:0 < k0) (hb:k0+Mk.cnt t1 < 9223372036854775807) (h1:GT.rd w [] (Mk.mkd k0 t1)):Spec Tryz.prog 14 [(Mk.mkd k0 t1).hdr,.int .i64 (k0:Int)].toArray w [] (IsV (.int .i64 ((k0+Mk.cnt t1:Nat):Int))):=by
 obtain ⟨a1,c1,e1,x1,y1⟩:=t1
 replace hb:k0+cnts x1 < 9223372036854775807:=hb
 have hml:=mks_length x1 k0
 have hm1:(mks k0 x1).length≤9223372036854775807:=rd_len h1
 rw [mk_TL] at h1 ⊢
 dsimp only [TL.hdr]
 refine Spec.intro Tryz.func14 rfl Tryz.ntmps14 rfl ?_
 refine s10 ?_
 refine W_loopC (σ:=Nat) 0 (fun (i:Nat)=>[(1,.int .i64 ((k0+cnts (x1.take i):Nat):Int)),(5,.int .i64 (i:Int))]) (fun (i:Nat)=>[]) (fun (i:Nat)=>i≤x1.length) (fun (i:Nat)=>x1.length - i) [(0,_)] [] ?_ sb ms ?_
 ·exact Nat.zero_le _
 ·rintro i hi
  refine kq [0,1,5] ?_
  refine s5 ?_
  refine L_lenS rfl rfl el27.h ?_
  refine s2 ?_
  refine kp [0,1,5,9] ?_
  refine W_cond rfl (fun hc2=>?_) (fun hc2=>?_)
  ·have hk1:i < (mks k0 x1).length:=by simpa using hc2
   obtain ⟨g,o1,rfl⟩:=rd_addr h1 hk1
   obtain ⟨u,hu⟩:=getEl (show i < x1.length by omega)
   have hs:=cnts_take_succ hu
   have hle:=cnts_take_le x1 (i+1)
   have hu2:=mks_get (k:=k0) hu
   obtain ⟨b1,b2,b3⟩:=u
   simp only [mk_pair,mk_int,mk_str,cnt_pair,cnt_int,cnt_str,← Nat.add_assoc] at hs hu2
   refine s8 ?_
   refine L_indexAddr rfl rfl rfl el27.h rfl (by omega) ?_
   refine s1 ?_
   refine L_load rfl rfl (by first | exact RdC.blk mm | exact RdC.old (Cells.el h1 rfl hu2)) one3.h rfl ?_
   refine s3 ?_
   refine kp [0,1,5,18] ?_
   refine W_cond rfl (fun hc4=>?_) (fun hc4=>?_)
   ·refine s5 ?_
    refine res1 rfl (ResOK.tmp rfl) ⟨?_,rfl⟩ ms
    exfalso;simp [mk_int,mk_str] at hc4
   ·refine s4 ?_
    refine L_binV rfl rfl rfl (bv_addR (by unfold inR;omega)) ?_
    refine s2 ?_
    rw [show (((k0+cnts (x1.take i)):Nat):Int)+1=(((k0+cnts (x1.take i))+1:Nat):Int) from rfl]
    refine s5 ?_
    refine L_indexAddr rfl rfl rfl el27.h rfl (by omega) ?_
    refine s1 ?_
    refine L_load rfl rfl (by first | exact RdC.blk mm | exact RdC.old (Cells.el h1 rfl hu2)) one3.h rfl ?_
    refine s3 ?_
    refine kp [0,1,5,27] ?_
    refine W_cond rfl (fun hc7=>?_) (fun hc7=>?_)
    ·refine s5 ?_
     refine res1 rfl (ResOK.tmp rfl) ⟨?_,rfl⟩ ms
     exfalso;simp [mk_int,mk_str] at hc7
    ·refine s4 ?_
     refine L_binV rfl rfl rfl (bv_addR (by unfold inR;omega)) ?_
     refine s2 ?_
     rw [show ((((k0+cnts (x1.take i))+1):Nat):Int)+1=((((k0+cnts (x1.take i))+1)+1:Nat):Int) from rfl]
     refine s2 ?_
     refine W_D0 [37] mix (by kernel_rfl) rfl ?_
     refine s2 ?_
     refine D_indexAddr _ GC.none (OpV.t rfl) (OpV.t rfl) el27.h (fun hg=>⟨rfl,by (try dsimp only);omega⟩) ?_
     refine s1 ?_
     refine D_load GC.none (OpV.t rfl) (fun hg=>(by first | exact RdC.blk mm | exact RdC.old (Cells.el h1 rfl hu2))) one9.h rfl ?_
     refine s1 ?_
     refine D_callX GC.none fn40.h (OpVs.cons (OpV.t rfl) (OpVs.nil)) (by exact fun hg w F hF hM=>(fun w hw=>markText_spec w (((k0+cnts (x1.take i))+1)+1) (by omega) (by omega)) w hF) ?_
     refine s11 ?_
     refine kp [0,1,5,37] ?_
     refine W_cond rfl (fun hc10=>?_) (fun hc10=>?_)
     ·refine s5 ?_
      refine res1 rfl (ResOK.tmp rfl) ⟨?_,rfl⟩ ms
      exfalso;simp [mk_int,mk_str] at hc10
     ·refine s3 ?_
      refine L_binV rfl rfl rfl (bv_addR (by unfold inR;omega)) ?_
      refine s2 ?_
      rw [show (((((k0+cnts (x1.take i))+1)+1):Nat):Int)+1=(((((k0+cnts (x1.take i))+1)+1)+1:Nat):Int) from rfl]
      have hE:((((k0+cnts (x1.take i))+1)+1)+1)=k0+cnts (x1.take (i+1)):=by rw [hs];(try simp only [cnt_pair,cnt_int,cnt_str]);omega
      rw [hE]
      refine s2 ?_
      refine L_binV rfl rfl rfl (bv_addR (by unfold inR;omega)) ?_
      refine s2 ?_
      refine ⟨i+1,sb,ms,?_,?_⟩
      ·show i+1≤x1.length
       omega
      ·show x1.length - (i+1) < x1.length - i
       omega
  ·refine W_exit ?_
   refine s6 ?_
   refine res1 rfl (ResOK.tmp rfl) ⟨?_,rfl⟩ ms
   have hk2:(mks k0 x1).length≤i:=by simpa using hc2
   rw [List.take_of_length_le (by omega)];rfl
end Go.Proofs.SL
namespace Go.Proofs.SL
open Go
set_option maxHeartbeats 2000000
instance fn139:FnF Tryz.prog 139:=⟨⟨_,Tryz.func139,by kernel_rfl,rfl⟩⟩
instance fn85:FnF Tryz.prog 85:=⟨⟨_,Tryz.func85,by kernel_rfl,rfl⟩⟩
instance fn42:FnF Tryz.prog 42:=⟨⟨_,Tryz.func42,by kernel_rfl,rfl⟩⟩
instance fn13:FnF Tryz.prog 13:=⟨⟨_,Tryz.func13,by kernel_rfl,rfl⟩⟩
instance fn233:FnF Tryz.prog 233:=⟨⟨_,Tryz.func233,by kernel_rfl,rfl⟩⟩
instance fn200:FnF Tryz.prog 200:=⟨⟨_,Tryz.func200,by kernel_rfl,rfl⟩⟩
instance fn138:FnF Tryz.prog 138:=⟨⟨_,Tryz.func138,by kernel_rfl,rfl⟩⟩
instance fn84:FnF Tryz.prog 84:=⟨⟨_,Tryz.func84,by kernel_rfl,rfl⟩⟩
instance fn41:FnF Tryz.prog 41:=⟨⟨_,Tryz.func41,by kernel_rfl,rfl⟩⟩
instance fn10:FnF Tryz.prog 10:=⟨⟨_,Tryz.func10,by kernel_rfl,rfl⟩⟩
instance fn201:FnF Tryz.prog 201:=⟨⟨_,Tryz.func201,by kernel_rfl,rfl⟩⟩
instance fn140:FnF Tryz.prog 140:=⟨⟨_,Tryz.func140,by kernel_rfl,rfl⟩⟩
instance fn86:FnF Tryz.prog 86:=⟨⟨_,Tryz.func86,by kernel_rfl,rfl⟩⟩
instance fn43:FnF Tryz.prog 43:=⟨⟨_,Tryz.func43,by kernel_rfl,rfl⟩⟩
instance fn14:FnF Tryz.prog 14:=⟨⟨_,Tryz.func14,by kernel_rfl,rfl⟩⟩
theorem eqCSnap_spec (w:World) (t1 t2:T_CSnap) (h1:GT.rd w [] t1) (h2:GT.rd w [] t2):Spec Tryz.prog 233 [.agg (GT.cells t1).toArray,.agg (GT.cells t2).toArray].toArray w [] (IsV (.bool (eqB (GT.dat t1) (GT.dat t2)))):=by
 obtain ⟨a1,a2,a3⟩:=t1
 obtain ⟨b1,b2,b3⟩:=t2
 change Spec _ _ [Value.agg #[.string a1,.string a2,a3.hdr],Value.agg #[.string b1,.string b2,b3.hdr]].toArray w [] _
 refine Spec.intro Tryz.func233 rfl Tryz.ntmps233 rfl ?_
 refine s2 ?_
 refine bx fun bk2=>?_
 refine bx fun bk3=>?_
 refine s6 ?_
 refine L_load rfl rfl (by first | exact RdC.blk mm) one9.h rfl ?_
 refine s1 ?_
 refine L_load rfl rfl (by first | exact RdC.blk mm) one9.h rfl ?_
 refine s2 ?_
 refine kp [2,3,9] ?_
 refine W_cond rfl (fun hc1=>?_) (fun hc1=>?_)
 ·refine s5 ?_
  refine res1 rfl (ResOK.tmp rfl) ⟨?_,rfl⟩ ms
  clear h1 h2
  first
   | (refine congrArg Value.bool (Eq.symm (eqB_false.2 fun e=>?_));try simp only [dat_pair,dat_int,dat_bool,dat_str,Prod.mk.injEq] at e;simp_all;done)
   | (refine congrArg Value.bool (Eq.symm (eqB_true.2 ?_));try simp only [dat_pair,dat_int,dat_bool,dat_str,Prod.mk.injEq];simp_all;done)
 ·refine s5 ?_
  refine L_load rfl rfl (by first | exact RdC.blk mm) one9.h rfl ?_
  refine s1 ?_
  refine L_load rfl rfl (by first | exact RdC.blk mm) one9.h rfl ?_
  refine s2 ?_
  refine kp [2,3,14] ?_
  refine W_cond rfl (fun hc3=>?_) (fun hc3=>?_)
  ·refine s5 ?_
   refine res1 rfl (ResOK.tmp rfl) ⟨?_,rfl⟩ ms
   clear h1 h2
   first
    | (refine congrArg Value.bool (Eq.symm (eqB_false.2 fun e=>?_));try simp only [dat_pair,dat_int,dat_bool,dat_str,Prod.mk.injEq] at e;simp_all;done)
    | (refine congrArg Value.bool (Eq.symm (eqB_true.2 ?_));try simp only [dat_pair,dat_int,dat_bool,dat_str,Prod.mk.injEq];simp_all;done)
  ·refine s5 ?_
   refine L_load rfl rfl (by first | exact RdC.blk mm) one65.h rfl ?_
   refine s1 ?_
   refine L_load rfl rfl (by first | exact RdC.blk mm) one65.h rfl ?_
   refine L_callX rfl fn199.h rfl (by exact fun w hw=>eqStringS_spec w _ _ (rd_carry (h1.2.2) hw) (rd_carry (h2.2.2) hw)) ?_
   refine s2 ?_
   refine kp [20] ?_
   refine W_cond rfl (fun hc5=>?_) (fun hc5=>?_)
   ·refine s5 ?_
    refine res1 rfl (ResOK.tmp rfl) ⟨?_,rfl⟩ ms
    clear h1 h2
    first
     | (refine congrArg Value.bool (Eq.symm (eqB_false.2 fun e=>?_));try simp only [dat_pair,dat_int,dat_bool,dat_str,Prod.mk.injEq] at e;simp_all;done)
     | (refine congrArg Value.bool (Eq.symm (eqB_true.2 ?_));try simp only [dat_pair,dat_int,dat_bool,dat_str,Prod.mk.injEq];simp_all;done)
   ·refine s6 ?_
    refine res1 rfl (ResOK.tmp rfl) ⟨?_,rfl⟩ ms
    clear h1 h2
    first
     | (refine congrArg Value.bool (Eq.symm (eqB_false.2 fun e=>?_));try simp only [dat_pair,dat_int,dat_bool,dat_str,Prod.mk.injEq] at e;simp_all;done)
     | (refine congrArg Value.bool (Eq.symm (eqB_true.2 ?_));try simp only [dat_pair,dat_int,dat_bool,dat_str,Prod.mk.injEq];simp_all;done)
theorem eqCSnapS_spec (w:World) (t1 t2:TL T_CSnap) (h1:GT.rd w [] t1) (h2:GT.rd w [] t2):Spec Tryz.prog 200 [t1.hdr,t2.hdr].toArray w [] (IsV (.bool (eqB (GT.dat t1) (GT.dat t2)))):=by
 obtain ⟨a1,c1,e1,x1,y1⟩:=t1
 obtain ⟨a2,c2,e2,x2,y2⟩:=t2
 have hm1:x1.length≤9223372036854775807:=rd_len h1
 have hm2:x2.length≤9223372036854775807:=rd_len h2
 dsimp only [TL.hdr]
 refine Spec.intro Tryz.func200 rfl Tryz.ntmps200 rfl ?_
 refine s8 ?_
 refine L_lenS rfl rfl el142.h ?_
 refine s1 ?_
 refine L_lenS rfl rfl el142.h ?_
 refine s2 ?_
 refine kp [0,1,10] ?_
 refine W_cond rfl (fun hc1=>?_) (fun hc1=>?_)
 ·refine s5 ?_
  refine res1 rfl (ResOK.tmp rfl) ⟨?_,rfl⟩ ms
  refine congrArg Value.bool (Eq.symm (eqB_false.2 fun e=>?_))
  simp at hc1
  exact hc1 (by have:=congrArg List.length e;simp [dat_TL] at this;omega)
 ·have hl:x1.length=x2.length:=by simp at hc1;omega
  refine s7 ?_
  refine W_loopC (σ:=Nat) 0 (fun (k:Nat)=>[(5,.int .i64 (k:Int))]) (fun (k:Nat)=>[]) (fun (k:Nat)=>k≤x1.length∧(x1.map GT.dat).take k=(x2.map GT.dat).take k) (fun (k:Nat)=>x1.length - k) [(0,_),(1,_)] [] ?_ sb ms ?_
  ·exact ⟨Nat.zero_le _,rfl⟩
  ·rintro k ⟨hk,ht⟩
   refine kq [0,1,5] ?_
   refine s5 ?_
   refine L_lenS rfl rfl el142.h ?_
   refine s2 ?_
   refine kp [0,1,5,14] ?_
   refine W_cond rfl (fun hc4=>?_) (fun hc4=>?_)
   ·have hk1:k < x1.length:=by simpa using hc4
    obtain ⟨g1,o1,rfl⟩:=rd_addr h1 hk1
    obtain ⟨g2,o2,rfl⟩:=rd_addr (k:=k) h2 (show k < x2.length by omega)
    obtain ⟨u1,hu1⟩:=getEl hk1
    obtain ⟨u2,hu2⟩:=getEl (show k < x2.length by omega)
    refine s4 ?_
    refine W_D0 [26] mix (by kernel_rfl) rfl ?_
    refine s2 ?_
    refine D_indexAddr _ GC.none (OpV.t rfl) (OpV.t rfl) el142.h (fun hg=>⟨rfl,by (try dsimp only);omega⟩) ?_
    refine D_loadW GC.none (OpV.t rfl) (fun hg=>(by first | exact RdC.blk mm | exact RdC.old (Cells.el h1 rfl hu1) | exact RdC.old (Cells.el h2 rfl hu2))) (by exact agg147.h) ?_
    refine s2 ?_
    refine D_indexAddr _ GC.none (OpV.t rfl) (OpV.t rfl) el142.h (fun hg=>⟨rfl,by (try dsimp only);omega⟩) ?_
    refine D_loadW GC.none (OpV.t rfl) (fun hg=>(by first | exact RdC.blk mm | exact RdC.old (Cells.el h1 rfl hu1) | exact RdC.old (Cells.el h2 rfl hu2))) (by exact agg147.h) ?_
    refine D_callX GC.none fn233.h (OpVs.cons (OpV.t rfl) (OpVs.cons (OpV.t rfl) (OpVs.nil))) (by exact fun hg w F hF hM=>(fun w hw=>eqCSnap_spec w _ _ (rd_carry (h1.2.2.1 _ (List.mem_of_getElem? hu1)) hw) (rd_carry (h2.2.2.1 _ (List.mem_of_getElem? hu2)) hw)) w hF) ?_
    refine s13 ?_
    refine kp [0,1,5,26] ?_
    refine W_cond rfl (fun hc6=>?_) (fun hc6=>?_)
    ·refine s5 ?_
     refine res1 rfl (ResOK.tmp rfl) ⟨?_,rfl⟩ ms
     refine congrArg Value.bool (Eq.symm (eqB_false.2 fun e=>?_))
     simp at hc6
     replace e:x1.map GT.dat=x2.map GT.dat:=e
     have e2:=congrArg (fun l=>l[k]?) e
     simp only [List.getElem?_map,hu1,hu2,Option.map_some,Option.some.injEq] at e2
     exact hc6 (by simpa [dat_int,dat_str,dat_bool] using e2)
    ·refine s3 ?_
     refine L_binV rfl rfl rfl (bv_addR (by unfold inR;omega)) ?_
     refine s2 ?_
     refine ⟨k+1,sb,ms,?_,?_⟩
     ·exact ⟨by omega,take_succ_eq ht (by rw [List.getElem?_map,hu1];rfl) (by rw [List.getElem?_map,hu2];rfl) (by simpa [dat_int,dat_str,dat_bool] using hc6)⟩
     ·(try dsimp only);omega
   ·refine W_exit ?_
    refine s5 ?_
    refine res1 rfl (ResOK.tmp rfl) ⟨?_,rfl⟩ ms
    refine congrArg Value.bool (Eq.symm (eqB_true.2 ?_))
    have hk2:x1.length≤k:=by simpa using hc4
    have h3:=ht
    rw [List.take_of_length_le (by simp;omega),List.take_of_length_le (by simp;omega)] at h3
    exact h3
theorem eqCSet_spec (w:World) (t1 t2:T_CSet) (h1:GT.rd w [] t1) (h2:GT.rd w [] t2):Spec Tryz.prog 138 [.agg (GT.cells t1).toArray,.agg (GT.cells t2).toArray].toArray w [] (IsV (.bool (eqB (GT.dat t1) (GT.dat t2)))):=by
 obtain ⟨a1,a2⟩:=t1
 obtain ⟨b1,b2⟩:=t2
 change Spec _ _ [Value.agg #[.string a1,a2.hdr],Value.agg #[.string b1,b2.hdr]].toArray w [] _
 refine Spec.intro Tryz.func138 rfl Tryz.ntmps138 rfl ?_
 refine s2 ?_
 refine bx fun bk2=>?_
 refine bx fun bk3=>?_
 refine s6 ?_
 refine L_load rfl rfl (by first | exact RdC.blk mm) one9.h rfl ?_
 refine s1 ?_
 refine L_load rfl rfl (by first | exact RdC.blk mm) one9.h rfl ?_
 refine s2 ?_
 refine kp [2,3,9] ?_
 refine W_cond rfl (fun hc1=>?_) (fun hc1=>?_)
 ·refine s5 ?_
  refine res1 rfl (ResOK.tmp rfl) ⟨?_,rfl⟩ ms
  clear h1 h2
  first
   | (refine congrArg Value.bool (Eq.symm (eqB_false.2 fun e=>?_));try simp only [dat_pair,dat_int,dat_bool,dat_str,Prod.mk.injEq] at e;simp_all;done)
   | (refine congrArg Value.bool (Eq.symm (eqB_true.2 ?_));try simp only [dat_pair,dat_int,dat_bool,dat_str,Prod.mk.injEq];simp_all;done)
 ·refine s5 ?_
  refine L_load rfl rfl (by first | exact RdC.blk mm) one142.h rfl ?_
  refine s1 ?_
  refine L_load rfl rfl (by first | exact RdC.blk mm) one142.h rfl ?_
  refine L_callX rfl fn200.h rfl (by exact fun w hw=>eqCSnapS_spec w _ _ (rd_carry (h1.2) hw) (rd_carry (h2.2) hw)) ?_
  refine s2 ?_
  refine kp [15] ?_
  refine W_cond rfl (fun hc3=>?_) (fun hc3=>?_)
  ·refine s5 ?_
   refine res1 rfl (ResOK.tmp rfl) ⟨?_,rfl⟩ ms
   clear h1 h2
   first
    | (refine congrArg Value.bool (Eq.symm (eqB_false.2 fun e=>?_));try simp only [dat_pair,dat_int,dat_bool,dat_str,Prod.mk.injEq] at e;simp_all;done)
    | (refine congrArg Value.bool (Eq.symm (eqB_true.2 ?_));try simp only [dat_pair,dat_int,dat_bool,dat_str,Prod.mk.injEq];simp_all;done)
  ·refine s6 ?_
   refine res1 rfl (ResOK.tmp rfl) ⟨?_,rfl⟩ ms
   clear h1 h2
   first
    | (refine congrArg Value.bool (Eq.symm (eqB_false.2 fun e=>?_));try simp only [dat_pair,dat_int,dat_bool,dat_str,Prod.mk.injEq] at e;simp_all;done)
    | (refine congrArg Value.bool (Eq.symm (eqB_true.2 ?_));try simp only [dat_pair,dat_int,dat_bool,dat_str,Prod.mk.injEq];simp_all;done)
theorem eqCSetS_spec (w:World) (t1 t2:TL T_CSet) (h1:GT.rd w [] t1) (h2:GT.rd w [] t2):Spec Tryz.prog 84 [t1.hdr,t2.hdr].toArray w [] (IsV (.bool (eqB (GT.dat t1) (GT.dat t2)))):=by
 obtain ⟨a1,c1,e1,x1,y1⟩:=t1
 obtain ⟨a2,c2,e2,x2,y2⟩:=t2
 have hm1:x1.length≤9223372036854775807:=rd_len h1
 have hm2:x2.length≤9223372036854775807:=rd_len h2
 dsimp only [TL.hdr]
 refine Spec.intro Tryz.func84 rfl Tryz.ntmps84 rfl ?_
 refine s8 ?_
 refine L_lenS rfl rfl el39.h ?_
 refine s1 ?_
 refine L_lenS rfl rfl el39.h ?_
 refine s2 ?_
 refine kp [0,1,10] ?_
 refine W_cond rfl (fun hc1=>?_) (fun hc1=>?_)
 ·refine s5 ?_
  refine res1 rfl (ResOK.tmp rfl) ⟨?_,rfl⟩ ms
  refine congrArg Value.bool (Eq.symm (eqB_false.2 fun e=>?_))
  simp at hc1
  exact hc1 (by have:=congrArg List.length e;simp [dat_TL] at this;omega)
 ·have hl:x1.length=x2.length:=by simp at hc1;omega
  refine s7 ?_
  refine W_loopC (σ:=Nat) 0 (fun (k:Nat)=>[(5,.int .i64 (k:Int))]) (fun (k:Nat)=>[]) (fun (k:Nat)=>k≤x1.length∧(x1.map GT.dat).take k=(x2.map GT.dat).take k) (fun (k:Nat)=>x1.length - k) [(0,_),(1,_)] [] ?_ sb ms ?_
  ·exact ⟨Nat.zero_le _,rfl⟩
  ·rintro k ⟨hk,ht⟩
   refine kq [0,1,5] ?_
   refine s5 ?_
   refine L_lenS rfl rfl el39.h ?_
   refine s2 ?_
   refine kp [0,1,5,14] ?_
   refine W_cond rfl (fun hc4=>?_) (fun hc4=>?_)
   ·have hk1:k < x1.length:=by simpa using hc4
    obtain ⟨g1,o1,rfl⟩:=rd_addr h1 hk1
    obtain ⟨g2,o2,rfl⟩:=rd_addr (k:=k) h2 (show k < x2.length by omega)
    obtain ⟨u1,hu1⟩:=getEl hk1
    obtain ⟨u2,hu2⟩:=getEl (show k < x2.length by omega)
    refine s4 ?_
    refine W_D0 [26] mix (by kernel_rfl) rfl ?_
    refine s2 ?_
    refine D_indexAddr _ GC.none (OpV.t rfl) (OpV.t rfl) el39.h (fun hg=>⟨rfl,by (try dsimp only);omega⟩) ?_
    refine D_loadW GC.none (OpV.t rfl) (fun hg=>(by first | exact RdC.blk mm | exact RdC.old (Cells.el h1 rfl hu1) | exact RdC.old (Cells.el h2 rfl hu2))) (by exact agg144.h) ?_
    refine s2 ?_
    refine D_indexAddr _ GC.none (OpV.t rfl) (OpV.t rfl) el39.h (fun hg=>⟨rfl,by (try dsimp only);omega⟩) ?_
    refine D_loadW GC.none (OpV.t rfl) (fun hg=>(by first | exact RdC.blk mm | exact RdC.old (Cells.el h1 rfl hu1) | exact RdC.old (Cells.el h2 rfl hu2))) (by exact agg144.h) ?_
    refine D_callX GC.none fn138.h (OpVs.cons (OpV.t rfl) (OpVs.cons (OpV.t rfl) (OpVs.nil))) (by exact fun hg w F hF hM=>(fun w hw=>eqCSet_spec w _ _ (rd_carry (h1.2.2.1 _ (List.mem_of_getElem? hu1)) hw) (rd_carry (h2.2.2.1 _ (List.mem_of_getElem? hu2)) hw)) w hF) ?_
    refine s13 ?_
    refine kp [0,1,5,26] ?_
    refine W_cond rfl (fun hc6=>?_) (fun hc6=>?_)
    ·refine s5 ?_
     refine res1 rfl (ResOK.tmp rfl) ⟨?_,rfl⟩ ms
     refine congrArg Value.bool (Eq.symm (eqB_false.2 fun e=>?_))
     simp at hc6
     replace e:x1.map GT.dat=x2.map GT.dat:=e
     have e2:=congrArg (fun l=>l[k]?) e
     simp only [List.getElem?_map,hu1,hu2,Option.map_some,Option.some.injEq] at e2
     exact hc6 (by simpa [dat_int,dat_str,dat_bool] using e2)
    ·refine s3 ?_
     refine L_binV rfl rfl rfl (bv_addR (by unfold inR;omega)) ?_
     refine s2 ?_
     refine ⟨k+1,sb,ms,?_,?_⟩
     ·exact ⟨by omega,take_succ_eq ht (by rw [List.getElem?_map,hu1];rfl) (by rw [List.getElem?_map,hu2];rfl) (by simpa [dat_int,dat_str,dat_bool] using hc6)⟩
     ·(try dsimp only);omega
   ·refine W_exit ?_
    refine s5 ?_
    refine res1 rfl (ResOK.tmp rfl) ⟨?_,rfl⟩ ms
    refine congrArg Value.bool (Eq.symm (eqB_true.2 ?_))
    have hk2:x1.length≤k:=by simpa using hc4
    have h3:=ht
    rw [List.take_of_length_le (by simp;omega),List.take_of_length_le (by simp;omega)] at h3
    exact h3
theorem eqCatalog_spec (w:World) (t1 t2:T_Catalog) (h1:GT.rd w [] t1) (h2:GT.rd w [] t2):Spec Tryz.prog 41 [.agg (GT.cells t1).toArray,.agg (GT.cells t2).toArray].toArray w [] (IsV (.bool (eqB (GT.dat t1) (GT.dat t2)))):=by
 generalize t1=a1 at *
 generalize t2=b1 at *
 change Spec _ _ [Value.agg #[a1.hdr],Value.agg #[b1.hdr]].toArray w [] _
 refine Spec.intro Tryz.func41 rfl Tryz.ntmps41 rfl ?_
 refine s2 ?_
 refine bx fun bk2=>?_
 refine bx fun bk3=>?_
 refine s6 ?_
 refine L_load rfl rfl (by first | exact RdC.blk mm) one39.h rfl ?_
 refine s1 ?_
 refine L_load rfl rfl (by first | exact RdC.blk mm) one39.h rfl ?_
 refine L_callX rfl fn84.h rfl (by exact fun w hw=>eqCSetS_spec w _ _ (rd_carry (h1) hw) (rd_carry (h2) hw)) ?_
 refine s2 ?_
 refine kp [10] ?_
 refine W_cond rfl (fun hc1=>?_) (fun hc1=>?_)
 ·refine s5 ?_
  refine res1 rfl (ResOK.tmp rfl) ⟨?_,rfl⟩ ms
  clear h1 h2
  first
   | (simp_all;done)
   | (refine congrArg Value.bool (Eq.symm (eqB_false.2 fun e=>?_));try simp only [dat_pair,dat_int,dat_bool,dat_str,Prod.mk.injEq] at e;simp_all;done)
   | (refine congrArg Value.bool (Eq.symm (eqB_true.2 ?_));try simp only [dat_pair,dat_int,dat_bool,dat_str,Prod.mk.injEq];simp_all;done)
 ·refine s6 ?_
  refine res1 rfl (ResOK.tmp rfl) ⟨?_,rfl⟩ ms
  clear h1 h2
  first
   | (simp_all;done)
   | (refine congrArg Value.bool (Eq.symm (eqB_false.2 fun e=>?_));try simp only [dat_pair,dat_int,dat_bool,dat_str,Prod.mk.injEq] at e;simp_all;done)
   | (refine congrArg Value.bool (Eq.symm (eqB_true.2 ?_));try simp only [dat_pair,dat_int,dat_bool,dat_str,Prod.mk.injEq];simp_all;done)
theorem eqState_spec (w:World) (t1 t2:T_State) (h1:GT.rd w [] t1) (h2:GT.rd w [] t2):Spec Tryz.prog 17 [.agg (GT.cells t1).toArray,.agg (GT.cells t2).toArray].toArray w [] (IsV (.bool (eqB (GT.dat t1) (GT.dat t2)))):=by
 obtain ⟨a11,a2⟩:=t1
 obtain ⟨b11,b2⟩:=t2
 change Spec _ _ [Value.agg #[a11.hdr,a2.hdr],Value.agg #[b11.hdr,b2.hdr]].toArray w [] _
 refine Spec.intro Tryz.func17 rfl Tryz.ntmps17 rfl ?_
 refine s2 ?_
 refine bx fun bk2=>?_
 refine bx fun bk3=>?_
 refine s6 ?_
 refine L_loadW rfl rfl (RdC.seg (by first | exact RdC.blk mm) 0 1 rfl) (by exact agg41.h) ?_
 refine s1 ?_
 refine L_loadW rfl rfl (RdC.seg (by first | exact RdC.blk mm) 0 1 rfl) (by exact agg41.h) ?_
 refine L_callX rfl fn41.h rfl (by exact fun w hw=>eqCatalog_spec w a11 b11 (rd_carry (h1.1) hw) (rd_carry (h2.1) hw)) ?_
 refine s2 ?_
 refine kp [2,3,10] ?_
 refine W_cond rfl (fun hc1=>?_) (fun hc1=>?_)
 ·refine s5 ?_
  refine res1 rfl (ResOK.tmp rfl) ⟨?_,rfl⟩ ms
  clear h1 h2
  first
   | (refine congrArg Value.bool (Eq.symm (eqB_false.2 fun e=>?_));simp only [dat_pair,dat_int,dat_bool,dat_str,Prod.mk.injEq,eqB_nf,eqB_nt] at *;simp_all;done)
   | (refine congrArg Value.bool (Eq.symm (eqB_true.2 ?_));simp only [dat_pair,dat_int,dat_bool,dat_str,Prod.mk.injEq,eqB_nf,eqB_nt] at *;simp_all;done)
   | (refine congrArg Value.bool (Eq.symm (eqB_false.2 fun e=>?_));try simp only [dat_pair,dat_int,dat_bool,dat_str,Prod.mk.injEq] at e;simp_all;done)
   | (refine congrArg Value.bool (Eq.symm (eqB_true.2 ?_));try simp only [dat_pair,dat_int,dat_bool,dat_str,Prod.mk.injEq];simp_all;done)
 ·refine s5 ?_
  refine L_load rfl rfl (by first | exact RdC.blk mm) one27.h rfl ?_
  refine s1 ?_
  refine L_load rfl rfl (by first | exact RdC.blk mm) one27.h rfl ?_
  refine L_callX rfl fn10.h rfl (by exact fun w hw=>eqSaidS_spec w _ _ (rd_carry (h1.2) hw) (rd_carry (h2.2) hw)) ?_
  refine s2 ?_
  refine kp [16] ?_
  refine W_cond rfl (fun hc3=>?_) (fun hc3=>?_)
  ·refine s5 ?_
   refine res1 rfl (ResOK.tmp rfl) ⟨?_,rfl⟩ ms
   clear h1 h2
   first
    | (refine congrArg Value.bool (Eq.symm (eqB_false.2 fun e=>?_));simp only [dat_pair,dat_int,dat_bool,dat_str,Prod.mk.injEq,eqB_nf,eqB_nt] at *;simp_all;done)
    | (refine congrArg Value.bool (Eq.symm (eqB_true.2 ?_));simp only [dat_pair,dat_int,dat_bool,dat_str,Prod.mk.injEq,eqB_nf,eqB_nt] at *;simp_all;done)
    | (refine congrArg Value.bool (Eq.symm (eqB_false.2 fun e=>?_));try simp only [dat_pair,dat_int,dat_bool,dat_str,Prod.mk.injEq] at e;simp_all;done)
    | (refine congrArg Value.bool (Eq.symm (eqB_true.2 ?_));try simp only [dat_pair,dat_int,dat_bool,dat_str,Prod.mk.injEq];simp_all;done)
  ·refine s6 ?_
   refine res1 rfl (ResOK.tmp rfl) ⟨?_,rfl⟩ ms
   clear h1 h2
   first
    | (refine congrArg Value.bool (Eq.symm (eqB_false.2 fun e=>?_));simp only [dat_pair,dat_int,dat_bool,dat_str,Prod.mk.injEq,eqB_nf,eqB_nt] at *;simp_all;done)
    | (refine congrArg Value.bool (Eq.symm (eqB_true.2 ?_));simp only [dat_pair,dat_int,dat_bool,dat_str,Prod.mk.injEq,eqB_nf,eqB_nt] at *;simp_all;done)
    | (refine congrArg Value.bool (Eq.symm (eqB_false.2 fun e=>?_));try simp only [dat_pair,dat_int,dat_bool,dat_str,Prod.mk.injEq] at e;simp_all;done)
    | (refine congrArg Value.bool (Eq.symm (eqB_true.2 ?_));try simp only [dat_pair,dat_int,dat_bool,dat_str,Prod.mk.injEq];simp_all;done)
theorem markCSnapS_spec (w:World) (t1:TL T_CSnap) (k0:Nat) (hk0:0 < k0) (hb:k0+Mk.cnt t1 < 9223372036854775807):Spec Tryz.prog 139 [t1.hdr,.int .i64 (k0:Int)].toArray w [treeH t1] (fun v M=>v=.int .i64 ((k0+Mk.cnt t1:Nat):Int)∧M=[treeH (Mk.mkd k0 t1)]):=by
 obtain ⟨a1,c1,e1,x1,y1⟩:=t1
 replace hb:k0+cnts x1 < 9223372036854775807:=hb
 dsimp only [TL.hdr]
 refine Spec.intro Tryz.func139 rfl Tryz.ntmps139 rfl ?_
 refine W_fact (fun w h=>ow_facts (h.prs _ (List.mem_cons_self ..))) fun hF=>?_
 replace hF:x1.length≤9223372036854775807∧(0 < x1.length→∃ g,a1=some ⟨g,0,none⟩):=hF
 refine s10 ?_
 refine W_conv (M':=[treeH (⟨a1,c1,e1,half k0 0 x1,y1⟩:TL T_CSnap)]) (fun w h=>by rw [half_zero];exact h) ?_
 refine W_loopC (σ:=Nat) 0 (fun (i:Nat)=>[(1,.int .i64 ((k0+cnts (x1.take i):Nat):Int)),(5,.int .i64 (i:Int))]) (fun (i:Nat)=>[treeH (⟨a1,c1,e1,half k0 i x1,y1⟩:TL T_CSnap)]) (fun (i:Nat)=>i≤x1.length) (fun (i:Nat)=>x1.length - i) [(0,_)] [] ?_ sb ms ?_
 ·exact Nat.zero_le _
 ·rintro i hi
  refine kq [0,1,5] ?_
  refine s5 ?_
  refine L_lenS rfl rfl el142.h ?_
  refine s2 ?_
  refine kp [0,1,5,9] ?_
  refine W_cond rfl (fun hc2=>?_) (fun hc2=>?_)
  ·have hk1:i < x1.length:=by simpa using hc2
   obtain ⟨g,rfl⟩:=hF.2 (by omega)
   obtain ⟨u,hu⟩:=getEl hk1
   have hs:=cnts_take_succ hu
   have hle:=cnts_take_le x1 (i+1)
   have hlh:=half_length k0 i x1
   obtain ⟨b1,b2,b3⟩:=u
   simp only [cnt_pair,cnt_int,cnt_str] at hs
   refine s8 ?_
   refine L_callX rfl fn40.h rfl (by exact fun w hw=>markText_spec w (k0+cnts (x1.take i)) (by omega) (by omega)) ?_
   refine L_indexAddr rfl rfl rfl el142.h rfl (by omega) ?_
   refine s1 ?_
   refine L_storeElF (fo:=0) (x':=(((mtx (k0+cnts (x1.take i))),b2,b3):T_CSnap)) rfl rfl pk rfl (show ((half k0 i x1):List T_CSnap)[i]?=some ((b1,b2,b3):T_CSnap) from half_get (k:=k0) hu) rfl rfl (by decide) rfl (fun w h=>by exact ⟨(by exact trivial),h.2.1,h.2.2⟩) one9.h ?_
   refine s4 ?_
   refine L_binV rfl rfl rfl (bv_addR (by unfold inR;omega)) ?_
   refine s2 ?_
   rw [show (((k0+cnts (x1.take i)):Nat):Int)+1=((((k0+cnts (x1.take i))+1):Nat):Int) from rfl]
   refine s5 ?_
   refine L_callX rfl fn40.h rfl (by exact fun w hw=>markText_spec w ((k0+cnts (x1.take i))+1) (by omega) (by omega)) ?_
   refine L_indexAddr rfl rfl rfl el142.h rfl (by omega) ?_
   refine s1 ?_
   refine L_storeElF (fo:=1) (x':=(((mtx (k0+cnts (x1.take i))),(mtx ((k0+cnts (x1.take i))+1)),b3):T_CSnap)) rfl rfl pk rfl (show (((half k0 i x1).set i (((mtx (k0+cnts (x1.take i))),b2,b3):T_CSnap)):List T_CSnap)[i]?=some (((mtx (k0+cnts (x1.take i))),b2,b3):T_CSnap) from set_get (half_get (k:=k0) hu)) rfl rfl (by decide) rfl (fun w h=>by exact ⟨h.1,(by exact trivial),h.2.2⟩) one9.h ?_
   rw [List.set_set]
   refine s4 ?_
   refine L_binV rfl rfl rfl (bv_addR (by unfold inR;omega)) ?_
   refine s2 ?_
   rw [show ((((k0+cnts (x1.take i))+1):Nat):Int)+1=((((k0+cnts (x1.take i))+2):Nat):Int) from rfl]
   refine s3 ?_
   refine L_indexAddr rfl rfl rfl el142.h rfl (by omega) ?_
   refine s1 ?_
   refine L_load rfl rfl (by exact RdC.el (L:=(⟨some ⟨g,0,none⟩,c1,e1,((half k0 i x1).set i (((mtx (k0+cnts (x1.take i))),(mtx ((k0+cnts (x1.take i))+1)),b3):T_CSnap)),y1⟩:TL T_CSnap)) mm rfl (show (((half k0 i x1).set i (((mtx (k0+cnts (x1.take i))),(mtx ((k0+cnts (x1.take i))+1)),b3):T_CSnap)):List T_CSnap)[i]?=some (((mtx (k0+cnts (x1.take i))),(mtx ((k0+cnts (x1.take i))+1)),b3):T_CSnap) from set_get (half_get (k:=k0) hu))) one65.h rfl ?_
   refine s1 ?_
   refine L_conv (fun w h=>(frontPick (Pick.there _ (Pick.here _)) (tree_pair (frontPick (Pick.there _ (Pick.here _)) (tree_pair (el_out (L:=(⟨some ⟨g,0,none⟩,c1,e1,((half k0 i x1).set i (((mtx (k0+cnts (x1.take i))),(mtx ((k0+cnts (x1.take i))+1)),b3):T_CSnap)),y1⟩:TL T_CSnap)) (show (((half k0 i x1).set i (((mtx (k0+cnts (x1.take i))),(mtx ((k0+cnts (x1.take i))+1)),b3):T_CSnap)):List T_CSnap)[i]?=some (((mtx (k0+cnts (x1.take i))),(mtx ((k0+cnts (x1.take i))+1)),b3):T_CSnap) from set_get (half_get (k:=k0) hu)) (frontPick pk h))))))) ?_
   refine L_call1 rfl fn81.h rfl (Pick.here _) (by exact fun w hw=>markStringS_spec w b3 ((k0+cnts (x1.take i))+2) (by omega) (by omega)) ?_
   rintro v M1 ⟨hv,rfl⟩
   subst hv
   simp only [List.cons_append,List.nil_append]
   refine L_conv (M':=treeH (⟨some ⟨g,0,none⟩,c1,e1,(((half k0 i x1).set i (((mtx (k0+cnts (x1.take i))),(mtx ((k0+cnts (x1.take i))+1)),b3):T_CSnap)).set i (((mtx (k0+cnts (x1.take i))),(mtx ((k0+cnts (x1.take i))+1)),(Mk.mkd ((k0+cnts (x1.take i))+2) b3)):T_CSnap)),y1⟩:TL T_CSnap)::_) (fun w h=>el_in (L:=(⟨some ⟨g,0,none⟩,c1,e1,((half k0 i x1).set i (((mtx (k0+cnts (x1.take i))),(mtx ((k0+cnts (x1.take i))+1)),b3):T_CSnap)),y1⟩:TL T_CSnap)) (show (((half k0 i x1).set i (((mtx (k0+cnts (x1.take i))),(mtx ((k0+cnts (x1.take i))+1)),b3):T_CSnap)):List T_CSnap)[i]?=some (((mtx (k0+cnts (x1.take i))),(mtx ((k0+cnts (x1.take i))+1)),b3):T_CSnap) from set_get (half_get (k:=k0) hu)) (by simp only [cells_pair,cells_mkTL]) (pairPick (Pick.here _) (pairPick (Pick.here _) h))) ?_
   rw [List.set_set]
   refine s2 ?_
   have hfin:((half k0 i x1).set i (((mtx (k0+cnts (x1.take i))),(mtx ((k0+cnts (x1.take i))+1)),(Mk.mkd ((k0+cnts (x1.take i))+2) b3)):T_CSnap))=half k0 (i+1) x1:=by
    have h9:=half_set (k:=k0) hu
    try simp only [mk_pair,mk_int,mk_str,cnt_pair,cnt_int,cnt_str,← Nat.add_assoc] at h9
    try simp only [List.set_set]
    exact h9
   refine W_conv (M':=treeH (⟨some ⟨g,0,none⟩,c1,e1,(half k0 (i+1) x1),y1⟩:TL T_CSnap)::_) (fun w h=>by rw [← hfin];exact h) ?_
   have hE:(((k0+cnts (x1.take i))+2)+Mk.cnt b3)=k0+cnts (x1.take (i+1)):=by rw [hs];(try simp only [cnt_pair,cnt_int,cnt_str]);omega
   rw [hE]
   refine s2 ?_
   refine L_binV rfl rfl rfl (bv_addR (by unfold inR;omega)) ?_
   refine s2 ?_
   refine ⟨i+1,sb,ms,?_,?_⟩
   ·show i+1≤x1.length
    omega
   ·show x1.length - (i+1) < x1.length - i
    omega
  ·refine W_exit ?_
   refine s6 ?_
   have hk2:x1.length≤i:=by simpa using hc2
   rw [half_all k0 hk2]
   refine res1 rfl (ResOK.tmp rfl) ⟨?_,rfl⟩ ms
   have hk2:x1.length≤i:=by simpa using hc2
   rw [List.take_of_length_le hk2];rfl
theorem heldCSnapS_spec (w:World) (t1:TL T_CSnap) (k0:Nat) (hk0:0 < k0) (hb:k0+Mk.cnt t1 < 9223372036854775807) (h1:GT.rd w [] (Mk.mkd k0 t1)):Spec Tryz.prog 140 [(Mk.mkd k0 t1).hdr,.int .i64 (k0:Int)].toArray w [] (IsV (.int .i64 ((k0+Mk.cnt t1:Nat):Int))):=by
 obtain ⟨a1,c1,e1,x1,y1⟩:=t1
 replace hb:k0+cnts x1 < 9223372036854775807:=hb
 have hml:=mks_length x1 k0
 have hm1:(mks k0 x1).length≤9223372036854775807:=rd_len h1
 rw [mk_TL] at h1 ⊢
 dsimp only [TL.hdr]
 refine Spec.intro Tryz.func140 rfl Tryz.ntmps140 rfl ?_
 refine s10 ?_
 refine W_loopC (σ:=Nat) 0 (fun (i:Nat)=>[(1,.int .i64 ((k0+cnts (x1.take i):Nat):Int)),(5,.int .i64 (i:Int))]) (fun (i:Nat)=>[]) (fun (i:Nat)=>i≤x1.length) (fun (i:Nat)=>x1.length - i) [(0,_)] [] ?_ sb ms ?_
 ·exact Nat.zero_le _
 ·rintro i hi
  refine kq [0,1,5] ?_
  refine s5 ?_
  refine L_lenS rfl rfl el142.h ?_
  refine s2 ?_
  refine kp [0,1,5,9] ?_
  refine W_cond rfl (fun hc2=>?_) (fun hc2=>?_)
  ·have hk1:i < (mks k0 x1).length:=by simpa using hc2
   obtain ⟨g,o1,rfl⟩:=rd_addr h1 hk1
   obtain ⟨u,hu⟩:=getEl (show i < x1.length by omega)
   have hs:=cnts_take_succ hu
   have hle:=cnts_take_le x1 (i+1)
   have hu2:=mks_get (k:=k0) hu
   obtain ⟨b1,b2,b3⟩:=u
   simp only [mk_pair,mk_int,mk_str,cnt_pair,cnt_int,cnt_str,← Nat.add_assoc] at hs hu2
   refine s5 ?_
   refine W_D0 [19] mix (by kernel_rfl) rfl ?_
   refine s2 ?_
   refine D_indexAddr _ GC.none (OpV.t rfl) (OpV.t rfl) el142.h (fun hg=>⟨rfl,by (try dsimp only);omega⟩) ?_
   refine s1 ?_
   refine D_load GC.none (OpV.t rfl) (fun hg=>(by first | exact RdC.blk mm | exact RdC.old (Cells.el h1 rfl hu2))) one9.h rfl ?_
   refine s1 ?_
   refine D_callX GC.none fn40.h (OpVs.cons (OpV.t rfl) (OpVs.nil)) (by exact fun hg w F hF hM=>(fun w hw=>markText_spec w (k0+cnts (x1.take i)) (by omega) (by omega)) w hF) ?_
   refine s11 ?_
   refine kp [0,1,5,19] ?_
   refine W_cond rfl (fun hc4=>?_) (fun hc4=>?_)
   ·refine s5 ?_
    refine res1 rfl (ResOK.tmp rfl) ⟨?_,rfl⟩ ms
    exfalso;simp [mk_int,mk_str] at hc4
   ·refine s4 ?_
    refine L_binV rfl rfl rfl (bv_addR (by unfold inR;omega)) ?_
    refine s2 ?_
    rw [show (((k0+cnts (x1.take i)):Nat):Int)+1=(((k0+cnts (x1.take i))+1:Nat):Int) from rfl]
    refine s2 ?_
    refine W_D0 [29] mix (by kernel_rfl) rfl ?_
    refine s2 ?_
    refine D_indexAddr _ GC.none (OpV.t rfl) (OpV.t rfl) el142.h (fun hg=>⟨rfl,by (try dsimp only);omega⟩) ?_
    refine s1 ?_
    refine D_load GC.none (OpV.t rfl) (fun hg=>(by first | exact RdC.blk mm | exact RdC.old (Cells.el h1 rfl hu2))) one9.h rfl ?_
    refine s1 ?_
    refine D_callX GC.none fn40.h (OpVs.cons (OpV.t rfl) (OpVs.nil)) (by exact fun hg w F hF hM=>(fun w hw=>markText_spec w ((k0+cnts (x1.take i))+1) (by omega) (by omega)) w hF) ?_
    refine s11 ?_
    refine kp [0,1,5,29] ?_
    refine W_cond rfl (fun hc7=>?_) (fun hc7=>?_)
    ·refine s5 ?_
     refine res1 rfl (ResOK.tmp rfl) ⟨?_,rfl⟩ ms
     exfalso;simp [mk_int,mk_str] at hc7
    ·refine s4 ?_
     refine L_binV rfl rfl rfl (bv_addR (by unfold inR;omega)) ?_
     refine s2 ?_
     rw [show ((((k0+cnts (x1.take i))+1):Nat):Int)+1=((((k0+cnts (x1.take i))+1)+1:Nat):Int) from rfl]
     refine s4 ?_
     refine L_indexAddr rfl rfl rfl el142.h rfl (by omega) ?_
     refine s1 ?_
     refine L_load rfl rfl (by first | exact RdC.blk mm | exact RdC.old (Cells.el h1 rfl hu2)) one65.h rfl ?_
     refine s1 ?_
     refine L_callX rfl fn201.h rfl (by exact fun w hw=>heldStringS_spec w b3 (((k0+cnts (x1.take i))+1)+1) (by omega) (by omega) (rd_carry (show GT.rd _ _ (Mk.mkd (((k0+cnts (x1.take i))+1)+1) b3) from by have h9:=h1.2.2.1 _ (List.mem_of_getElem? hu2);(try simp only [mk_pair,mk_int,mk_str,cnt_pair,cnt_int,cnt_str,← Nat.add_assoc] at h9);exact h9.2.2) hw)) ?_
     refine s7 ?_
     refine kp [0,1,5,40] ?_
     refine W_cond rfl (fun hc11=>?_) (fun hc11=>?_)
     ·refine s5 ?_
      refine res1 rfl (ResOK.tmp rfl) ⟨?_,rfl⟩ ms
      exfalso;simp at hc11;omega
     ·refine s1 ?_
      have hE:((((k0+cnts (x1.take i))+1)+1)+Mk.cnt b3)=k0+cnts (x1.take (i+1)):=by rw [hs];(try simp only [cnt_pair,cnt_int,cnt_str]);omega
      rw [hE]
      refine s2 ?_
      refine L_binV rfl rfl rfl (bv_addR (by unfold inR;omega)) ?_
      refine s2 ?_
      refine ⟨i+1,sb,ms,?_,?_⟩
      ·show i+1≤x1.length
       omega
      ·show x1.length - (i+1) < x1.length - i
       omega
  ·refine W_exit ?_
   refine s6 ?_
   refine res1 rfl (ResOK.tmp rfl) ⟨?_,rfl⟩ ms
   have hk2:(mks k0 x1).length≤i:=by simpa using hc2
   rw [List.take_of_length_le (by omega)];rfl
theorem markCSetS_spec (w:World) (t1:TL T_CSet) (k0:Nat) (hk0:0 < k0) (hb:k0+Mk.cnt t1 < 9223372036854775807):Spec Tryz.prog 85 [t1.hdr,.int .i64 (k0:Int)].toArray w [treeH t1] (fun v M=>v=.int .i64 ((k0+Mk.cnt t1:Nat):Int)∧M=[treeH (Mk.mkd k0 t1)]):=by
 obtain ⟨a1,c1,e1,x1,y1⟩:=t1
 replace hb:k0+cnts x1 < 9223372036854775807:=hb
 dsimp only [TL.hdr]
 refine Spec.intro Tryz.func85 rfl Tryz.ntmps85 rfl ?_
 refine W_fact (fun w h=>ow_facts (h.prs _ (List.mem_cons_self ..))) fun hF=>?_
 replace hF:x1.length≤9223372036854775807∧(0 < x1.length→∃ g,a1=some ⟨g,0,none⟩):=hF
 refine s10 ?_
 refine W_conv (M':=[treeH (⟨a1,c1,e1,half k0 0 x1,y1⟩:TL T_CSet)]) (fun w h=>by rw [half_zero];exact h) ?_
 refine W_loopC (σ:=Nat) 0 (fun (i:Nat)=>[(1,.int .i64 ((k0+cnts (x1.take i):Nat):Int)),(5,.int .i64 (i:Int))]) (fun (i:Nat)=>[treeH (⟨a1,c1,e1,half k0 i x1,y1⟩:TL T_CSet)]) (fun (i:Nat)=>i≤x1.length) (fun (i:Nat)=>x1.length - i) [(0,_)] [] ?_ sb ms ?_
 ·exact Nat.zero_le _
 ·rintro i hi
  refine kq [0,1,5] ?_
  refine s5 ?_
  refine L_lenS rfl rfl el39.h ?_
  refine s2 ?_
  refine kp [0,1,5,9] ?_
  refine W_cond rfl (fun hc2=>?_) (fun hc2=>?_)
  ·have hk1:i < x1.length:=by simpa using hc2
   obtain ⟨g,rfl⟩:=hF.2 (by omega)
   obtain ⟨u,hu⟩:=getEl hk1
   have hs:=cnts_take_succ hu
   have hle:=cnts_take_le x1 (i+1)
   have hlh:=half_length k0 i x1
   obtain ⟨b1,b2⟩:=u
   simp only [cnt_pair,cnt_int,cnt_str] at hs
   refine s8 ?_
   refine L_callX rfl fn40.h rfl (by exact fun w hw=>markText_spec w (k0+cnts (x1.take i)) (by omega) (by omega)) ?_
   refine L_indexAddr rfl rfl rfl el39.h rfl (by omega) ?_
   refine s1 ?_
   refine L_storeElF (fo:=0) (x':=(((mtx (k0+cnts (x1.take i))),b2):T_CSet)) rfl rfl pk rfl (show ((half k0 i x1):List T_CSet)[i]?=some ((b1,b2):T_CSet) from half_get (k:=k0) hu) rfl rfl (by decide) rfl (fun w h=>by exact ⟨(by exact trivial),h.2⟩) one9.h ?_
   refine s4 ?_
   refine L_binV rfl rfl rfl (bv_addR (by unfold inR;omega)) ?_
   refine s2 ?_
   rw [show (((k0+cnts (x1.take i)):Nat):Int)+1=((((k0+cnts (x1.take i))+1):Nat):Int) from rfl]
   refine s3 ?_
   refine L_indexAddr rfl rfl rfl el39.h rfl (by omega) ?_
   refine s1 ?_
   refine L_load rfl rfl (by exact RdC.el (L:=(⟨some ⟨g,0,none⟩,c1,e1,((half k0 i x1).set i (((mtx (k0+cnts (x1.take i))),b2):T_CSet)),y1⟩:TL T_CSet)) mm rfl (show (((half k0 i x1).set i (((mtx (k0+cnts (x1.take i))),b2):T_CSet)):List T_CSet)[i]?=some (((mtx (k0+cnts (x1.take i))),b2):T_CSet) from set_get (half_get (k:=k0) hu))) one142.h rfl ?_
   refine s1 ?_
   refine L_conv (fun w h=>(frontPick (Pick.there _ (Pick.here _)) (tree_pair (el_out (L:=(⟨some ⟨g,0,none⟩,c1,e1,((half k0 i x1).set i (((mtx (k0+cnts (x1.take i))),b2):T_CSet)),y1⟩:TL T_CSet)) (show (((half k0 i x1).set i (((mtx (k0+cnts (x1.take i))),b2):T_CSet)):List T_CSet)[i]?=some (((mtx (k0+cnts (x1.take i))),b2):T_CSet) from set_get (half_get (k:=k0) hu)) (frontPick pk h))))) ?_
   refine L_call1 rfl fn139.h rfl (Pick.here _) (by exact fun w hw=>markCSnapS_spec w b2 ((k0+cnts (x1.take i))+1) (by omega) (by omega)) ?_
   rintro v M1 ⟨hv,rfl⟩
   subst hv
   simp only [List.cons_append,List.nil_append]
   refine L_conv (M':=treeH (⟨some ⟨g,0,none⟩,c1,e1,(((half k0 i x1).set i (((mtx (k0+cnts (x1.take i))),b2):T_CSet)).set i (((mtx (k0+cnts (x1.take i))),(Mk.mkd ((k0+cnts (x1.take i))+1) b2)):T_CSet)),y1⟩:TL T_CSet)::_) (fun w h=>el_in (L:=(⟨some ⟨g,0,none⟩,c1,e1,((half k0 i x1).set i (((mtx (k0+cnts (x1.take i))),b2):T_CSet)),y1⟩:TL T_CSet)) (show (((half k0 i x1).set i (((mtx (k0+cnts (x1.take i))),b2):T_CSet)):List T_CSet)[i]?=some (((mtx (k0+cnts (x1.take i))),b2):T_CSet) from set_get (half_get (k:=k0) hu)) (by simp only [cells_pair,cells_mkTL]) (pairPick (Pick.here _) h)) ?_
   rw [List.set_set]
   refine s2 ?_
   have hfin:((half k0 i x1).set i (((mtx (k0+cnts (x1.take i))),(Mk.mkd ((k0+cnts (x1.take i))+1) b2)):T_CSet))=half k0 (i+1) x1:=by
    have h9:=half_set (k:=k0) hu
    try simp only [mk_pair,mk_int,mk_str,cnt_pair,cnt_int,cnt_str,← Nat.add_assoc] at h9
    try simp only [List.set_set]
    exact h9
   refine W_conv (M':=treeH (⟨some ⟨g,0,none⟩,c1,e1,(half k0 (i+1) x1),y1⟩:TL T_CSet)::_) (fun w h=>by rw [← hfin];exact h) ?_
   have hE:(((k0+cnts (x1.take i))+1)+Mk.cnt b2)=k0+cnts (x1.take (i+1)):=by rw [hs];(try simp only [cnt_pair,cnt_int,cnt_str]);omega
   rw [hE]
   refine s2 ?_
   refine L_binV rfl rfl rfl (bv_addR (by unfold inR;omega)) ?_
   refine s2 ?_
   refine ⟨i+1,sb,ms,?_,?_⟩
   ·show i+1≤x1.length
    omega
   ·show x1.length - (i+1) < x1.length - i
    omega
  ·refine W_exit ?_
   refine s6 ?_
   have hk2:x1.length≤i:=by simpa using hc2
   rw [half_all k0 hk2]
   refine res1 rfl (ResOK.tmp rfl) ⟨?_,rfl⟩ ms
   have hk2:x1.length≤i:=by simpa using hc2
   rw [List.take_of_length_le hk2];rfl
theorem heldCSetS_spec (w:World) (t1:TL T_CSet) (k0:Nat) (hk0:0 < k0) (hb:k0+Mk.cnt t1 < 9223372036854775807) (h1:GT.rd w [] (Mk.mkd k0 t1)):Spec Tryz.prog 86 [(Mk.mkd k0 t1).hdr,.int .i64 (k0:Int)].toArray w [] (IsV (.int .i64 ((k0+Mk.cnt t1:Nat):Int))):=by
 obtain ⟨a1,c1,e1,x1,y1⟩:=t1
 replace hb:k0+cnts x1 < 9223372036854775807:=hb
 have hml:=mks_length x1 k0
 have hm1:(mks k0 x1).length≤9223372036854775807:=rd_len h1
 rw [mk_TL] at h1 ⊢
 dsimp only [TL.hdr]
 refine Spec.intro Tryz.func86 rfl Tryz.ntmps86 rfl ?_
 refine s10 ?_
 refine W_loopC (σ:=Nat) 0 (fun (i:Nat)=>[(1,.int .i64 ((k0+cnts (x1.take i):Nat):Int)),(5,.int .i64 (i:Int))]) (fun (i:Nat)=>[]) (fun (i:Nat)=>i≤x1.length) (fun (i:Nat)=>x1.length - i) [(0,_)] [] ?_ sb ms ?_
 ·exact Nat.zero_le _
 ·rintro i hi
  refine kq [0,1,5] ?_
  refine s5 ?_
  refine L_lenS rfl rfl el39.h ?_
  refine s2 ?_
  refine kp [0,1,5,9] ?_
  refine W_cond rfl (fun hc2=>?_) (fun hc2=>?_)
  ·have hk1:i < (mks k0 x1).length:=by simpa using hc2
   obtain ⟨g,o1,rfl⟩:=rd_addr h1 hk1
   obtain ⟨u,hu⟩:=getEl (show i < x1.length by omega)
   have hs:=cnts_take_succ hu
   have hle:=cnts_take_le x1 (i+1)
   have hu2:=mks_get (k:=k0) hu
   obtain ⟨b1,b2⟩:=u
   simp only [mk_pair,mk_int,mk_str,cnt_pair,cnt_int,cnt_str,← Nat.add_assoc] at hs hu2
   refine s5 ?_
   refine W_D0 [19] mix (by kernel_rfl) rfl ?_
   refine s2 ?_
   refine D_indexAddr _ GC.none (OpV.t rfl) (OpV.t rfl) el39.h (fun hg=>⟨rfl,by (try dsimp only);omega⟩) ?_
   refine s1 ?_
   refine D_load GC.none (OpV.t rfl) (fun hg=>(by first | exact RdC.blk mm | exact RdC.old (Cells.el h1 rfl hu2))) one9.h rfl ?_
   refine s1 ?_
   refine D_callX GC.none fn40.h (OpVs.cons (OpV.t rfl) (OpVs.nil)) (by exact fun hg w F hF hM=>(fun w hw=>markText_spec w (k0+cnts (x1.take i)) (by omega) (by omega)) w hF) ?_
   refine s11 ?_
   refine kp [0,1,5,19] ?_
   refine W_cond rfl (fun hc4=>?_) (fun hc4=>?_)
   ·refine s5 ?_
    refine res1 rfl (ResOK.tmp rfl) ⟨?_,rfl⟩ ms
    exfalso;simp [mk_int,mk_str] at hc4
   ·refine s4 ?_
    refine L_binV rfl rfl rfl (bv_addR (by unfold inR;omega)) ?_
    refine s2 ?_
    rw [show (((k0+cnts (x1.take i)):Nat):Int)+1=(((k0+cnts (x1.take i))+1:Nat):Int) from rfl]
    refine s4 ?_
    refine L_indexAddr rfl rfl rfl el39.h rfl (by omega) ?_
    refine s1 ?_
    refine L_load rfl rfl (by first | exact RdC.blk mm | exact RdC.old (Cells.el h1 rfl hu2)) one142.h rfl ?_
    refine s1 ?_
    refine L_callX rfl fn140.h rfl (by exact fun w hw=>heldCSnapS_spec w b2 ((k0+cnts (x1.take i))+1) (by omega) (by omega) (rd_carry (show GT.rd _ _ (Mk.mkd ((k0+cnts (x1.take i))+1) b2) from by have h9:=h1.2.2.1 _ (List.mem_of_getElem? hu2);(try simp only [mk_pair,mk_int,mk_str,cnt_pair,cnt_int,cnt_str,← Nat.add_assoc] at h9);exact h9.2) hw)) ?_
    refine s7 ?_
    refine kp [0,1,5,30] ?_
    refine W_cond rfl (fun hc8=>?_) (fun hc8=>?_)
    ·refine s5 ?_
     refine res1 rfl (ResOK.tmp rfl) ⟨?_,rfl⟩ ms
     exfalso;simp at hc8;omega
    ·refine s1 ?_
     have hE:(((k0+cnts (x1.take i))+1)+Mk.cnt b2)=k0+cnts (x1.take (i+1)):=by rw [hs];(try simp only [cnt_pair,cnt_int,cnt_str]);omega
     rw [hE]
     refine s2 ?_
     refine L_binV rfl rfl rfl (bv_addR (by unfold inR;omega)) ?_
     refine s2 ?_
     refine ⟨i+1,sb,ms,?_,?_⟩
     ·show i+1≤x1.length
      omega
     ·show x1.length - (i+1) < x1.length - i
      omega
  ·refine W_exit ?_
   refine s6 ?_
   refine res1 rfl (ResOK.tmp rfl) ⟨?_,rfl⟩ ms
   have hk2:(mks k0 x1).length≤i:=by simpa using hc2
   rw [List.take_of_length_le (by omega)];rfl
theorem markCatalog_spec (w:World) (t1:T_Catalog) (k0:Nat) (hk0:0 < k0) (hb:k0+Mv.cnt t1 < 9223372036854775807):Spec Tryz.prog 42 [.agg (GT.cells t1).toArray,.int .i64 (k0:Int)].toArray w [treeH t1] (fun v M=>v=.int .i64 ((k0+Mv.cnt t1:Nat):Int)∧M=[treeH (Mv.mkd k0 t1)]):=by
 generalize t1=a1 at *
 simp only [mv_cnt_pair,mv_cnt_int,mv_cnt_bool,mv_cnt_str,mv_cnt_TL,mv_pair,mv_int,mv_bool,mv_str,mv_TL,Nat.zero_add,Nat.add_zero,← Nat.add_assoc] at hb ⊢
 change Spec _ _ [Value.agg #[a1.hdr],.int .i64 (k0:Int)].toArray w _ _
 refine Spec.intro Tryz.func42 rfl Tryz.ntmps42 rfl ?_
 refine s2 ?_
 refine bx fun bk2=>?_
 refine s5 ?_
 refine L_load rfl rfl (by first | exact RdC.blk mm) one39.h rfl ?_
 refine s1 ?_
 refine L_conv (fun w h=>show Holds _ _ _ w from (frontPick (x:=treeH (a1:T_Catalog)) pk h)) ?_
 refine L_call1 rfl fn85.h rfl (Pick.here _) (by exact fun w hw=>markCSetS_spec w a1 (k0) (by omega) (by first | omega | (simp only [mv_cnt_TL];omega))) ?_
 rintro v M1 ⟨hv,rfl⟩
 subst hv
 simp only [List.cons_append,List.nil_append]
 refine L_conv (M':=treeH ((Mk.mkd k0 a1):T_Catalog)::_) (fun w h=>h) ?_
 refine s8 ?_
 refine res1 rfl (ResOK.tmp rfl) ⟨rfl,rfl⟩ ms
theorem heldCatalog_spec (w:World) (t1:T_Catalog) (k0:Nat) (hk0:0 < k0) (hb:k0+Mv.cnt t1 < 9223372036854775807) (h1:GT.rd w [] (Mv.mkd k0 t1)):Spec Tryz.prog 43 [.agg (GT.cells (Mv.mkd k0 t1)).toArray,.int .i64 (k0:Int)].toArray w [] (IsV (.int .i64 ((k0+Mv.cnt t1:Nat):Int))):=by
 generalize t1=a1 at *
 simp only [mv_cnt_pair,mv_cnt_int,mv_cnt_bool,mv_cnt_str,mv_cnt_TL,mv_pair,mv_int,mv_bool,mv_str,mv_TL,Nat.zero_add,Nat.add_zero,← Nat.add_assoc] at hb h1 ⊢
 refine Spec.intro Tryz.func43 rfl Tryz.ntmps43 rfl ?_
 refine s2 ?_
 refine bx fun bk2=>?_
 refine s5 ?_
 refine L_load rfl rfl (by first | exact RdC.blk mm) one39.h rfl ?_
 refine s1 ?_
 refine L_callX rfl fn86.h rfl (by exact fun w hw=>heldCSetS_spec w a1 (k0) (by omega) (by first | omega | (simp only [mv_cnt_TL];omega)) (rd_carry h1 hw)) ?_
 refine s8 ?_
 refine kp [1,10] ?_
 refine W_cond rfl (fun hc2=>?_) (fun hc2=>?_)
 ·refine s5 ?_
  refine res1 rfl (ResOK.tmp rfl) ⟨?_,rfl⟩ ms
  exfalso;simp at hc2;omega
 ·refine s7 ?_
  refine res1 rfl (ResOK.tmp rfl) ⟨?_,rfl⟩ ms
  rfl
theorem markState_spec (w:World) (t1:T_State) (k0:Nat) (hk0:0 < k0) (hb:k0+Mv.cnt t1 < 9223372036854775807):Spec Tryz.prog 18 [.agg (GT.cells t1).toArray,.int .i64 (k0:Int)].toArray w [treeH t1] (fun v M=>v=.int .i64 ((k0+Mv.cnt t1:Nat):Int)∧M=[treeH (Mv.mkd k0 t1)]):=by
 obtain ⟨a11,a2⟩:=t1
 simp only [mv_cnt_pair,mv_cnt_int,mv_cnt_bool,mv_cnt_str,mv_cnt_TL,mv_pair,mv_int,mv_bool,mv_str,mv_TL,Nat.zero_add,Nat.add_zero,← Nat.add_assoc] at hb ⊢
 change Spec _ _ [Value.agg #[a11.hdr,a2.hdr],.int .i64 (k0:Int)].toArray w _ _
 refine Spec.intro Tryz.func18 rfl Tryz.ntmps18 rfl ?_
 refine s2 ?_
 refine bx fun bk2=>?_
 refine s5 ?_
 refine L_loadW rfl rfl (RdC.seg (by first | exact RdC.blk mm) 0 1 rfl) (by exact agg41.h) ?_
 refine s1 ?_
 refine L_conv (fun w h=>show Holds _ _ _ w from (tree_pair (frontPick (x:=treeH (((a11),a2):T_State)) pk h))) ?_
 refine L_call1 rfl fn42.h rfl (Pick.here _) (by exact fun w hw=>markCatalog_spec w (a11) (k0) (by omega) (by first | omega | (simp only [mv_cnt_TL];omega))) ?_
 rintro v M1 ⟨hv,rfl⟩
 subst hv
 simp only [List.cons_append,List.nil_append]
 refine L_conv (M':=treeH (((Mv.mkd k0 (a11)),a2):T_State)::_) (fun w h=>(pairFront (Pick.here _) h)) ?_
 refine s5 ?_
 refine L_load rfl rfl (by first | exact RdC.blk mm) one27.h rfl ?_
 refine s1 ?_
 refine L_conv (fun w h=>show Holds _ _ _ w from (frontPick (Pick.there _ (Pick.here _)) (tree_pair (frontPick (x:=treeH (((Mv.mkd k0 (a11)),a2):T_State)) pk h)))) ?_
 refine L_call1 rfl fn13.h rfl (Pick.here _) (by exact fun w hw=>markSaidS_spec w a2 (k0+Mv.cnt (a11)) (by omega) (by first | omega | (simp only [mv_cnt_TL];omega))) ?_
 rintro v M1 ⟨hv,rfl⟩
 subst hv
 simp only [List.cons_append,List.nil_append]
 refine L_conv (M':=treeH (((Mv.mkd k0 (a11)),(Mk.mkd (k0+Mv.cnt (a11)) a2)):T_State)::_) (fun w h=>(pairPick (Pick.here _) h)) ?_
 refine s8 ?_
 refine res1 rfl (ResOK.tmp rfl) ⟨rfl,rfl⟩ ms
theorem heldState_spec (w:World) (t1:T_State) (k0:Nat) (hk0:0 < k0) (hb:k0+Mv.cnt t1 < 9223372036854775807) (h1:GT.rd w [] (Mv.mkd k0 t1)):Spec Tryz.prog 19 [.agg (GT.cells (Mv.mkd k0 t1)).toArray,.int .i64 (k0:Int)].toArray w [] (IsV (.int .i64 ((k0+Mv.cnt t1:Nat):Int))):=by
 obtain ⟨a11,a2⟩:=t1
 simp only [mv_cnt_pair,mv_cnt_int,mv_cnt_bool,mv_cnt_str,mv_cnt_TL,mv_pair,mv_int,mv_bool,mv_str,mv_TL,Nat.zero_add,Nat.add_zero,← Nat.add_assoc] at hb h1 ⊢
 refine Spec.intro Tryz.func19 rfl Tryz.ntmps19 rfl ?_
 refine s2 ?_
 refine bx fun bk2=>?_
 refine s5 ?_
 refine L_loadW rfl rfl (RdC.seg (by first | exact RdC.blk mm) 0 1 rfl) (by exact agg41.h) ?_
 refine s1 ?_
 refine L_callX rfl fn43.h rfl (by exact fun w hw=>heldCatalog_spec w (a11) (k0) (by omega) (by first | omega | (simp only [mv_cnt_TL];omega)) (rd_carry h1.1 hw)) ?_
 refine s8 ?_
 refine kp [1,2,10] ?_
 refine W_cond rfl (fun hc2=>?_) (fun hc2=>?_)
 ·refine s5 ?_
  refine res1 rfl (ResOK.tmp rfl) ⟨?_,rfl⟩ ms
  exfalso;simp at hc2;omega
 ·refine s4 ?_
  refine L_load rfl rfl (by first | exact RdC.blk mm) one27.h rfl ?_
  refine s1 ?_
  refine L_callX rfl fn14.h rfl (by exact fun w hw=>heldSaidS_spec w a2 (k0+Mv.cnt (a11)) (by omega) (by first | omega | (simp only [mv_cnt_TL];omega)) (rd_carry h1.2 hw)) ?_
  refine s8 ?_
  refine kp [1,16] ?_
  refine W_cond rfl (fun hc5=>?_) (fun hc5=>?_)
  ·refine s5 ?_
   refine res1 rfl (ResOK.tmp rfl) ⟨?_,rfl⟩ ms
   exfalso;simp at hc5;omega
  ·refine s7 ?_
   refine res1 rfl (ResOK.tmp rfl) ⟨?_,rfl⟩ ms
   rfl
end Go.Proofs.SL
