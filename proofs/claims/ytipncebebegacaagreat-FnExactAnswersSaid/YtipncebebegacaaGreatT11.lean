/- The texts of the proof, part 11: the base, walks of functions, plain Lean. -/
import Derived.Test.YtipncebebegacaaGreatRows
import Derived.Test.YtipncebebegacaaGreatT9
import Derived.Test.YtipncebebegacaaGreatT3
import Derived.Test.YtipncebebegacaaGreatT10
namespace Go.Proofs.SL
open Go
set_option maxHeartbeats 2000000
instance fn35:FnF Tryz.prog 35:=⟨⟨_,Tryz.func35,by kernel_rfl,rfl⟩⟩
theorem eqSaid_spec (w:World) (t1 t2:T_Said) (h1:GT.rd w [] t1) (h2:GT.rd w [] t2):Spec Tryz.prog 35 [.agg (GT.cells t1).toArray,.agg (GT.cells t2).toArray].toArray w [] (IsV (.bool (eqB (GT.dat t1) (GT.dat t2)))):=by
 obtain ⟨a1,a2,a3⟩:=t1
 obtain ⟨b1,b2,b3⟩:=t2
 change Spec _ _ [Value.agg #[.int .i64 a1,.int .i64 a2,.string a3],Value.agg #[.int .i64 b1,.int .i64 b2,.string b3]].toArray w [] _
 refine Spec.intro Tryz.func35 rfl Tryz.ntmps35 rfl ?_
 refine s2 ?_
 refine bx fun bk2=>?_
 refine bx fun bk3=>?_
 refine s6 ?_
 refine L_load rfl rfl (by first | exact RdC.blk mm) one3.h rfl ?_
 refine s1 ?_
 refine L_load rfl rfl (by first | exact RdC.blk mm) one3.h rfl ?_
 refine s2 ?_
 refine kp [2,3,9] ?_
 refine W_cond rfl (fun hc1=>?_) (fun hc1=>?_)
 ·refine s5 ?_
  refine res1 rfl (ResOK.tmp rfl) ⟨?_,rfl⟩ ms
  clear h1 h2
  first
   | (refine congrArg Value.bool (Eq.symm (eqB_false.2 fun e=>?_));try simp only [dat_pair,dat_int,dat_bool,dat_str,Prod.mk.injEq] at e;simp_all;done)
   | (refine congrArg Value.bool (Eq.symm (eqB_true.2 ?_));try simp only [dat_pair,dat_int,dat_bool,dat_str,Prod.mk.injEq];simp_all;done)
 ·refine s5 ?_
  refine L_load rfl rfl (by first | exact RdC.blk mm) one3.h rfl ?_
  refine s1 ?_
  refine L_load rfl rfl (by first | exact RdC.blk mm) one3.h rfl ?_
  refine s2 ?_
  refine kp [2,3,14] ?_
  refine W_cond rfl (fun hc3=>?_) (fun hc3=>?_)
  ·refine s5 ?_
   refine res1 rfl (ResOK.tmp rfl) ⟨?_,rfl⟩ ms
   clear h1 h2
   first
    | (refine congrArg Value.bool (Eq.symm (eqB_false.2 fun e=>?_));try simp only [dat_pair,dat_int,dat_bool,dat_str,Prod.mk.injEq] at e;simp_all;done)
    | (refine congrArg Value.bool (Eq.symm (eqB_true.2 ?_));try simp only [dat_pair,dat_int,dat_bool,dat_str,Prod.mk.injEq];simp_all;done)
  ·refine s5 ?_
   refine L_load rfl rfl (by first | exact RdC.blk mm) one9.h rfl ?_
   refine s1 ?_
   refine L_load rfl rfl (by first | exact RdC.blk mm) one9.h rfl ?_
   refine s2 ?_
   refine kp [19] ?_
   refine W_cond rfl (fun hc5=>?_) (fun hc5=>?_)
   ·refine s5 ?_
    refine res1 rfl (ResOK.tmp rfl) ⟨?_,rfl⟩ ms
    clear h1 h2
    first
     | (refine congrArg Value.bool (Eq.symm (eqB_false.2 fun e=>?_));try simp only [dat_pair,dat_int,dat_bool,dat_str,Prod.mk.injEq] at e;simp_all;done)
     | (refine congrArg Value.bool (Eq.symm (eqB_true.2 ?_));try simp only [dat_pair,dat_int,dat_bool,dat_str,Prod.mk.injEq];simp_all;done)
   ·refine s6 ?_
    refine res1 rfl (ResOK.tmp rfl) ⟨?_,rfl⟩ ms
    clear h1 h2
    first
     | (refine congrArg Value.bool (Eq.symm (eqB_false.2 fun e=>?_));try simp only [dat_pair,dat_int,dat_bool,dat_str,Prod.mk.injEq] at e;simp_all;done)
     | (refine congrArg Value.bool (Eq.symm (eqB_true.2 ?_));try simp only [dat_pair,dat_int,dat_bool,dat_str,Prod.mk.injEq];simp_all;done)
theorem eqSaidS_spec (w:World) (t1 t2:TL T_Said) (h1:GT.rd w [] t1) (h2:GT.rd w [] t2):Spec Tryz.prog 10 [t1.hdr,t2.hdr].toArray w [] (IsV (.bool (eqB (GT.dat t1) (GT.dat t2)))):=by
 obtain ⟨a1,c1,e1,x1,y1⟩:=t1
 obtain ⟨a2,c2,e2,x2,y2⟩:=t2
 have hm1:x1.length≤9223372036854775807:=rd_len h1
 have hm2:x2.length≤9223372036854775807:=rd_len h2
 dsimp only [TL.hdr]
 refine Spec.intro Tryz.func10 rfl Tryz.ntmps10 rfl ?_
 refine s8 ?_
 refine L_lenS rfl rfl el27.h ?_
 refine s1 ?_
 refine L_lenS rfl rfl el27.h ?_
 refine s2 ?_
 refine kp [0,1,10] ?_
 refine W_cond rfl (fun hc1=>?_) (fun hc1=>?_)
 ·refine s5 ?_
  refine res1 rfl (ResOK.tmp rfl) ⟨?_,rfl⟩ ms
  refine congrArg Value.bool (Eq.symm (eqB_false.2 fun e=>?_))
  simp at hc1
  exact hc1 (by have:=congrArg List.length e;simp [dat_TL] at this;omega)
 ·have hl:x1.length=x2.length:=by simp at hc1;omega
  refine s7 ?_
  refine W_loopC (σ:=Nat) 0 (fun (k:Nat)=>[(5,.int .i64 (k:Int))]) (fun (k:Nat)=>[]) (fun (k:Nat)=>k≤x1.length∧(x1.map GT.dat).take k=(x2.map GT.dat).take k) (fun (k:Nat)=>x1.length - k) [(0,_),(1,_)] [] ?_ sb ms ?_
  ·exact ⟨Nat.zero_le _,rfl⟩
  ·rintro k ⟨hk,ht⟩
   refine kq [0,1,5] ?_
   refine s5 ?_
   refine L_lenS rfl rfl el27.h ?_
   refine s2 ?_
   refine kp [0,1,5,14] ?_
   refine W_cond rfl (fun hc4=>?_) (fun hc4=>?_)
   ·have hk1:k < x1.length:=by simpa using hc4
    obtain ⟨g1,o1,rfl⟩:=rd_addr h1 hk1
    obtain ⟨g2,o2,rfl⟩:=rd_addr (k:=k) h2 (show k < x2.length by omega)
    obtain ⟨u1,hu1⟩:=getEl hk1
    obtain ⟨u2,hu2⟩:=getEl (show k < x2.length by omega)
    refine s4 ?_
    refine W_D0 [26] mix (by kernel_rfl) rfl ?_
    refine s2 ?_
    refine D_indexAddr _ GC.none (OpV.t rfl) (OpV.t rfl) el27.h (fun hg=>⟨rfl,by (try dsimp only);omega⟩) ?_
    refine D_loadW GC.none (OpV.t rfl) (fun hg=>(by first | exact RdC.blk mm | exact RdC.old (Cells.el h1 rfl hu1) | exact RdC.old (Cells.el h2 rfl hu2))) (by exact agg71.h) ?_
    refine s2 ?_
    refine D_indexAddr _ GC.none (OpV.t rfl) (OpV.t rfl) el27.h (fun hg=>⟨rfl,by (try dsimp only);omega⟩) ?_
    refine D_loadW GC.none (OpV.t rfl) (fun hg=>(by first | exact RdC.blk mm | exact RdC.old (Cells.el h1 rfl hu1) | exact RdC.old (Cells.el h2 rfl hu2))) (by exact agg71.h) ?_
    refine D_callX GC.none fn35.h (OpVs.cons (OpV.t rfl) (OpVs.cons (OpV.t rfl) (OpVs.nil))) (by exact fun hg w F hF hM=>(fun w hw=>eqSaid_spec w _ _ (rd_carry (h1.2.2.1 _ (List.mem_of_getElem? hu1)) hw) (rd_carry (h2.2.2.1 _ (List.mem_of_getElem? hu2)) hw)) w hF) ?_
    refine s13 ?_
    refine kp [0,1,5,26] ?_
    refine W_cond rfl (fun hc6=>?_) (fun hc6=>?_)
    ·refine s5 ?_
     refine res1 rfl (ResOK.tmp rfl) ⟨?_,rfl⟩ ms
     refine congrArg Value.bool (Eq.symm (eqB_false.2 fun e=>?_))
     simp at hc6
     replace e:x1.map GT.dat=x2.map GT.dat:=e
     have e2:=congrArg (fun l=>l[k]?) e
     simp only [List.getElem?_map,hu1,hu2,Option.map_some,Option.some.injEq] at e2
     exact hc6 (by simpa [dat_int,dat_str,dat_bool] using e2)
    ·refine s3 ?_
     refine L_binV rfl rfl rfl (bv_addR (by unfold inR;omega)) ?_
     refine s2 ?_
     refine ⟨k+1,sb,ms,?_,?_⟩
     ·exact ⟨by omega,take_succ_eq ht (by rw [List.getElem?_map,hu1];rfl) (by rw [List.getElem?_map,hu2];rfl) (by simpa [dat_int,dat_str,dat_bool] using hc6)⟩
     ·(try dsimp only);omega
   ·refine W_exit ?_
    refine s5 ?_
    refine res1 rfl (ResOK.tmp rfl) ⟨?_,rfl⟩ ms
    refine congrArg Value.bool (Eq.symm (eqB_true.2 ?_))
    have hk2:x1.length≤k:=by simpa using hc4
    have h3:=ht
    rw [List.take_of_length_le (by simp;omega),List.take_of_length_le (by simp;omega)] at h3
    exact h3
theorem markSaidS_spec (w:World) (t1:TL T_Said) (k0:Nat) (hk0:0 < k0) (hb:k0+Mk.cnt t1 < 9223372036854775807):Spec Tryz.prog 13 [t1.hdr,.int .i64 (k0:Int)].toArray w [treeH t1] (fun v M=>v=.int .i64 ((k0+Mk.cnt t1:Nat):Int)∧M=[treeH (Mk.mkd k0 t1)]):=by
 obtain ⟨a1,c1,e1,x1,y1⟩:=t1
 replace hb:k0+cnts x1 < 9223372036854775807:=hb
 dsimp only [TL.hdr]
 refine Spec.intro Tryz.func13 rfl Tryz.ntmps13 rfl ?_
 refine W_fact (fun w h=>ow_facts (h.prs _ (List.mem_cons_self ..))) fun hF=>?_
 replace hF:x1.length≤9223372036854775807∧(0 < x1.length→∃ g,a1=some ⟨g,0,none⟩):=hF
 refine s10 ?_
 refine W_conv (M':=[treeH (⟨a1,c1,e1,half k0 0 x1,y1⟩:TL T_Said)]) (fun w h=>by rw [half_zero];exact h) ?_
 refine W_loopC (σ:=Nat) 0 (fun (i:Nat)=>[(1,.int .i64 ((k0+cnts (x1.take i):Nat):Int)),(5,.int .i64 (i:Int))]) (fun (i:Nat)=>[treeH (⟨a1,c1,e1,half k0 i x1,y1⟩:TL T_Said)]) (fun (i:Nat)=>i≤x1.length) (fun (i:Nat)=>x1.length - i) [(0,_)] [] ?_ sb ms ?_
 ·exact Nat.zero_le _
 ·rintro i hi
  refine kq [0,1,5] ?_
  refine s5 ?_
  refine L_lenS rfl rfl el27.h ?_
  refine s2 ?_
  refine kp [0,1,5,9] ?_
  refine W_cond rfl (fun hc2=>?_) (fun hc2=>?_)
  ·have hk1:i < x1.length:=by simpa using hc2
   obtain ⟨g,rfl⟩:=hF.2 (by omega)
   obtain ⟨u,hu⟩:=getEl hk1
   have hs:=cnts_take_succ hu
   have hle:=cnts_take_le x1 (i+1)
   have hlh:=half_length k0 i x1
   obtain ⟨b1,b2,b3⟩:=u
   simp only [cnt_pair,cnt_int,cnt_str] at hs
   refine s8 ?_
   refine L_indexAddr rfl rfl rfl el27.h rfl (by omega) ?_
   refine s1 ?_
   refine L_storeElF (fo:=0) (x':=(((((k0+cnts (x1.take i)):Nat):Int),b2,b3):T_Said)) rfl rfl pk rfl (show ((half k0 i x1):List T_Said)[i]?=some ((b1,b2,b3):T_Said) from half_get (k:=k0) hu) rfl rfl (by decide) rfl (fun w h=>by exact ⟨(by exact trivial),h.2.1,h.2.2⟩) one3.h ?_
   refine s4 ?_
   refine L_binV rfl rfl rfl (bv_addR (by unfold inR;omega)) ?_
   refine s2 ?_
   rw [show (((k0+cnts (x1.take i)):Nat):Int)+1=((((k0+cnts (x1.take i))+1):Nat):Int) from rfl]
   refine s5 ?_
   refine L_indexAddr rfl rfl rfl el27.h rfl (by omega) ?_
   refine s1 ?_
   refine L_storeElF (fo:=1) (x':=(((((k0+cnts (x1.take i)):Nat):Int),((((k0+cnts (x1.take i))+1):Nat):Int),b3):T_Said)) rfl rfl pk rfl (show (((half k0 i x1).set i (((((k0+cnts (x1.take i)):Nat):Int),b2,b3):T_Said)):List T_Said)[i]?=some (((((k0+cnts (x1.take i)):Nat):Int),b2,b3):T_Said) from set_get (half_get (k:=k0) hu)) rfl rfl (by decide) rfl (fun w h=>by exact ⟨h.1,(by exact trivial),h.2.2⟩) one3.h ?_
   rw [List.set_set]
   refine s4 ?_
   refine L_binV rfl rfl rfl (bv_addR (by unfold inR;omega)) ?_
   refine s2 ?_
   rw [show ((((k0+cnts (x1.take i))+1):Nat):Int)+1=((((k0+cnts (x1.take i))+2):Nat):Int) from rfl]
   refine s5 ?_
   refine L_callX rfl fn40.h rfl (by exact fun w hw=>markText_spec w ((k0+cnts (x1.take i))+2) (by omega) (by omega)) ?_
   refine L_indexAddr rfl rfl rfl el27.h rfl (by omega) ?_
   refine s1 ?_
   refine L_storeElF (fo:=2) (x':=(((((k0+cnts (x1.take i)):Nat):Int),((((k0+cnts (x1.take i))+1):Nat):Int),(mtx ((k0+cnts (x1.take i))+2))):T_Said)) rfl rfl pk rfl (show (((half k0 i x1).set i (((((k0+cnts (x1.take i)):Nat):Int),((((k0+cnts (x1.take i))+1):Nat):Int),b3):T_Said)):List T_Said)[i]?=some (((((k0+cnts (x1.take i)):Nat):Int),((((k0+cnts (x1.take i))+1):Nat):Int),b3):T_Said) from set_get (half_get (k:=k0) hu)) rfl rfl (by decide) rfl (fun w h=>by exact ⟨h.1,h.2.1,(by exact trivial)⟩) one9.h ?_
   rw [List.set_set]
   refine s3 ?_
   refine L_binV rfl rfl rfl (bv_addR (by unfold inR;omega)) ?_
   refine s2 ?_
   rw [show ((((k0+cnts (x1.take i))+2):Nat):Int)+1=((((k0+cnts (x1.take i))+3):Nat):Int) from rfl]
   have hfin:((half k0 i x1).set i (((((k0+cnts (x1.take i)):Nat):Int),((((k0+cnts (x1.take i))+1):Nat):Int),(mtx ((k0+cnts (x1.take i))+2))):T_Said))=half k0 (i+1) x1:=by
    have h9:=half_set (k:=k0) hu
    try simp only [mk_pair,mk_int,mk_str,cnt_pair,cnt_int,cnt_str,← Nat.add_assoc] at h9
    try simp only [List.set_set]
    exact h9
   refine W_conv (M':=treeH (⟨some ⟨g,0,none⟩,c1,e1,(half k0 (i+1) x1),y1⟩:TL T_Said)::_) (fun w h=>by rw [← hfin];exact h) ?_
   have hE:((k0+cnts (x1.take i))+3)=k0+cnts (x1.take (i+1)):=by rw [hs];(try simp only [cnt_pair,cnt_int,cnt_str]);omega
   rw [hE]
   refine s2 ?_
   refine L_binV rfl rfl rfl (bv_addR (by unfold inR;omega)) ?_
   refine s2 ?_
   refine ⟨i+1,sb,ms,?_,?_⟩
   ·show i+1≤x1.length
    omega
   ·show x1.length - (i+1) < x1.length - i
    omega
  ·refine W_exit ?_
   refine s6 ?_
   have hk2:x1.length≤i:=by simpa using hc2
   rw [half_all k0 hk2]
   refine res1 rfl (ResOK.tmp rfl) ⟨?_,rfl⟩ ms
   have hk2:x1.length≤i:=by simpa using hc2
   rw [List.take_of_length_le hk2];rfl
theorem heldSaidS_spec (w:World) (t1:TL T_Said) (k0:Nat) (hk0:0 < k0) (hb:k0+Mk.cnt t1 < 9223372036854775807) (h1:GT.rd w [] (Mk.mkd k0 t1)):Spec Tryz.prog 14 [(Mk.mkd k0 t1).hdr,.int .i64 (k0:Int)].toArray w [] (IsV (.int .i64 ((k0+Mk.cnt t1:Nat):Int))):=by
 obtain ⟨a1,c1,e1,x1,y1⟩:=t1
 replace hb:k0+cnts x1 < 9223372036854775807:=hb
 have hml:=mks_length x1 k0
 have hm1:(mks k0 x1).length≤9223372036854775807:=rd_len h1
 rw [mk_TL] at h1 ⊢
 dsimp only [TL.hdr]
 refine Spec.intro Tryz.func14 rfl Tryz.ntmps14 rfl ?_
 refine s10 ?_
 refine W_loopC (σ:=Nat) 0 (fun (i:Nat)=>[(1,.int .i64 ((k0+cnts (x1.take i):Nat):Int)),(5,.int .i64 (i:Int))]) (fun (i:Nat)=>[]) (fun (i:Nat)=>i≤x1.length) (fun (i:Nat)=>x1.length - i) [(0,_)] [] ?_ sb ms ?_
 ·exact Nat.zero_le _
 ·rintro i hi
  refine kq [0,1,5] ?_
  refine s5 ?_
  refine L_lenS rfl rfl el27.h ?_
  refine s2 ?_
  refine kp [0,1,5,9] ?_
  refine W_cond rfl (fun hc2=>?_) (fun hc2=>?_)
  ·have hk1:i < (mks k0 x1).length:=by simpa using hc2
   obtain ⟨g,o1,rfl⟩:=rd_addr h1 hk1
   obtain ⟨u,hu⟩:=getEl (show i < x1.length by omega)
   have hs:=cnts_take_succ hu
   have hle:=cnts_take_le x1 (i+1)
   have hu2:=mks_get (k:=k0) hu
   obtain ⟨b1,b2,b3⟩:=u
   simp only [mk_pair,mk_int,mk_str,cnt_pair,cnt_int,cnt_str,← Nat.add_assoc] at hs hu2
   refine s8 ?_
   refine L_indexAddr rfl rfl rfl el27.h rfl (by omega) ?_
   refine s1 ?_
   refine L_load rfl rfl (by first | exact RdC.blk mm | exact RdC.old (Cells.el h1 rfl hu2)) one3.h rfl ?_
   refine s3 ?_
   refine kp [0,1,5,18] ?_
   refine W_cond rfl (fun hc4=>?_) (fun hc4=>?_)
   ·refine s5 ?_
    refine res1 rfl (ResOK.tmp rfl) ⟨?_,rfl⟩ ms
    exfalso;simp [mk_int,mk_str] at hc4
   ·refine s4 ?_
    refine L_binV rfl rfl rfl (bv_addR (by unfold inR;omega)) ?_
    refine s2 ?_
    rw [show (((k0+cnts (x1.take i)):Nat):Int)+1=(((k0+cnts (x1.take i))+1:Nat):Int) from rfl]
    refine s5 ?_
    refine L_indexAddr rfl rfl rfl el27.h rfl (by omega) ?_
    refine s1 ?_
    refine L_load rfl rfl (by first | exact RdC.blk mm | exact RdC.old (Cells.el h1 rfl hu2)) one3.h rfl ?_
    refine s3 ?_
    refine kp [0,1,5,27] ?_
    refine W_cond rfl (fun hc7=>?_) (fun hc7=>?_)
    ·refine s5 ?_
     refine res1 rfl (ResOK.tmp rfl) ⟨?_,rfl⟩ ms
     exfalso;simp [mk_int,mk_str] at hc7
    ·refine s4 ?_
     refine L_binV rfl rfl rfl (bv_addR (by unfold inR;omega)) ?_
     refine s2 ?_
     rw [show ((((k0+cnts (x1.take i))+1):Nat):Int)+1=((((k0+cnts (x1.take i))+1)+1:Nat):Int) from rfl]
     refine s2 ?_
     refine W_D0 [37] mix (by kernel_rfl) rfl ?_
     refine s2 ?_
     refine D_indexAddr _ GC.none (OpV.t rfl) (OpV.t rfl) el27.h (fun hg=>⟨rfl,by (try dsimp only);omega⟩) ?_
     refine s1 ?_
     refine D_load GC.none (OpV.t rfl) (fun hg=>(by first | exact RdC.blk mm | exact RdC.old (Cells.el h1 rfl hu2))) one9.h rfl ?_
     refine s1 ?_
     refine D_callX GC.none fn40.h (OpVs.cons (OpV.t rfl) (OpVs.nil)) (by exact fun hg w F hF hM=>(fun w hw=>markText_spec w (((k0+cnts (x1.take i))+1)+1) (by omega) (by omega)) w hF) ?_
     refine s11 ?_
     refine kp [0,1,5,37] ?_
     refine W_cond rfl (fun hc10=>?_) (fun hc10=>?_)
     ·refine s5 ?_
      refine res1 rfl (ResOK.tmp rfl) ⟨?_,rfl⟩ ms
      exfalso;simp [mk_int,mk_str] at hc10
     ·refine s3 ?_
      refine L_binV rfl rfl rfl (bv_addR (by unfold inR;omega)) ?_
      refine s2 ?_
      rw [show (((((k0+cnts (x1.take i))+1)+1):Nat):Int)+1=(((((k0+cnts (x1.take i))+1)+1)+1:Nat):Int) from rfl]
      have hE:((((k0+cnts (x1.take i))+1)+1)+1)=k0+cnts (x1.take (i+1)):=by rw [hs];(try simp only [cnt_pair,cnt_int,cnt_str]);omega
      rw [hE]
      refine s2 ?_
      refine L_binV rfl rfl rfl (bv_addR (by unfold inR;omega)) ?_
      refine s2 ?_
      refine ⟨i+1,sb,ms,?_,?_⟩
      ·show i+1≤x1.length
       omega
      ·show x1.length - (i+1) < x1.length - i
       omega
  ·refine W_exit ?_
   refine s6 ?_
   refine res1 rfl (ResOK.tmp rfl) ⟨?_,rfl⟩ ms
   have hk2:(mks k0 x1).length≤i:=by simpa using hc2
   rw [List.take_of_length_le (by omega)];rfl
end Go.Proofs.SL
namespace Go.Proofs.SL
open Go
set_option maxHeartbeats 2000000
instance fn139:FnF Tryz.prog 139:=⟨⟨_,Tryz.func139,by kernel_rfl,rfl⟩⟩
instance fn85:FnF Tryz.prog 85:=⟨⟨_,Tryz.func85,by kernel_rfl,rfl⟩⟩
instance fn42:FnF Tryz.prog 42:=⟨⟨_,Tryz.func42,by kernel_rfl,rfl⟩⟩
instance fn13:FnF Tryz.prog 13:=⟨⟨_,Tryz.func13,by kernel_rfl,rfl⟩⟩
instance fn233:FnF Tryz.prog 233:=⟨⟨_,Tryz.func233,by kernel_rfl,rfl⟩⟩
instance fn200:FnF Tryz.prog 200:=⟨⟨_,Tryz.func200,by kernel_rfl,rfl⟩⟩
instance fn138:FnF Tryz.prog 138:=⟨⟨_,Tryz.func138,by kernel_rfl,rfl⟩⟩
instance fn84:FnF Tryz.prog 84:=⟨⟨_,Tryz.func84,by kernel_rfl,rfl⟩⟩
instance fn41:FnF Tryz.prog 41:=⟨⟨_,Tryz.func41,by kernel_rfl,rfl⟩⟩
instance fn10:FnF Tryz.prog 10:=⟨⟨_,Tryz.func10,by kernel_rfl,rfl⟩⟩
instance fn201:FnF Tryz.prog 201:=⟨⟨_,Tryz.func201,by kernel_rfl,rfl⟩⟩
instance fn140:FnF Tryz.prog 140:=⟨⟨_,Tryz.func140,by kernel_rfl,rfl⟩⟩
instance fn86:FnF Tryz.prog 86:=⟨⟨_,Tryz.func86,by kernel_rfl,rfl⟩⟩
instance fn43:FnF Tryz.prog 43:=⟨⟨_,Tryz.func43,by kernel_rfl,rfl⟩⟩
instance fn14:FnF Tryz.prog 14:=⟨⟨_,Tryz.func14,by kernel_rfl,rfl⟩⟩
end Go.Proofs.SL
namespace Go.Proofs.SL
open Go
instance fn12:FnF Tryz.prog 12:=⟨⟨_,Tryz.func12,by kernel_rfl,rfl⟩⟩
instance fn7:FnF Tryz.prog 7:=⟨⟨_,Tryz.func7,by kernel_rfl,rfl⟩⟩
instance fn9:FnF Tryz.prog 9:=⟨⟨_,Tryz.func9,by kernel_rfl,rfl⟩⟩
theorem sAnswers_spec (w:World) (a0:T_ENode) (h0:GT.rd w [] a0) (ho0:Ok.ok (GT.dat a0)) (hs0:Bd.bd (τ:=T_ENode) (GT.dat a0)≤1048576):Spec Tryz.prog 7 [.agg (GT.cells a0).toArray].toArray w [] (fun v M=>∃ (x0:TL T_Said),v=x0.hdr∧GT.dat x0=(answersD (GT.dat a0))∧M=[treeH x0]):=(s_Answers_walk w a0 h0 _ (s_Answers_eq ho0 (small_e hs0))).to fun v M ⟨x0,hv,hd,hM⟩=>by
 exact ⟨x0,hv,congrArg (fun z=>z) hd,hM⟩
theorem iAnswers_spec (w:World) (a0:T_ENode) (h0:GT.rd w [] a0) (ho0:Ok.ok (GT.dat a0)) (hs0:Bd.bd (τ:=T_ENode) (GT.dat a0)≤1048576):Spec Tryz.prog 9 [.agg (GT.cells a0).toArray].toArray w [] (fun v M=>∃ (x0:TL T_Said),v=x0.hdr∧GT.dat x0=(answersD (GT.dat a0))∧M=[treeH x0]):=(i_Answers_walk w a0 h0 _ (i_Answers_eq ho0 (small_e hs0))).to fun v M ⟨x0,hv,hd,hM⟩=>by
 exact ⟨x0,hv,congrArg (fun z=>z) hd,hM⟩
theorem lawFnExactAnswers (w:World) (t1:T_ENode) (h1:GT.rd w [] t1) (ho1:Ok.ok (GT.dat t1)) :Spec Tryz.prog 3 [.agg (GT.cells t1).toArray].toArray w [] (IsV (.bool true)):=by
 refine Spec.intro Tryz.func3 rfl Tryz.ntmps3 rfl ?_
 refine s2 ?_
 refine bx fun bk1=>?_
 refine s8 ?_
 refine L_loadW rfl rfl (by first | exact RdC.blk mm) (by exact agg25.h) ?_
 refine s1 ?_
 refine L_callX rfl fn6.h rfl (by exact fun w hw=>szENode_spec w t1 (1048576) (by omega) (by omega) (rd_carry h1 hw) ho1) ?_
 refine s8 ?_
 refine kp [1,15] ?_
 refine W_cond rfl (fun hc3=>?_) (fun hc3=>?_)
 ·refine s5 ?_
  refine res1 rfl (ResOK.tmp rfl) ⟨?_,rfl⟩ ms
  rfl
 ·have hb1:(Bk.bulk t1:Int)≤1048576:=by
   rcases Int.decLt (1048576) (Bk.bulk t1:Int) with hn | hn
   ·omega
   ·rw [if_neg (by omega)] at hc3;simp at hc3
  rw [if_pos hb1]
  refine s3 ?_
  refine L_loadW rfl rfl (by first | exact RdC.blk mm) (by exact agg25.h) ?_
  refine L_callR rfl fn8.h rfl (by exact fun w hw=>toENode_spec w _ (rd_carry h1 hw) (by omega)) ?_
  rintro v M1 ⟨n1,hv,hn1,rfl⟩
  subst hv
  simp only [List.cons_append,List.nil_append]
  refine L_callR rfl fn7.h rfl (by exact fun w hw=>sAnswers_spec w n1 (rd_of_tree mm hw.sees) (by rw [hn1];exact ho1) (by first | (rw [hn1,← Bd.eq];omega) | (rw [← Bd.eq];omega))) ?_
  rintro v M1 ⟨r1_0,hv,hr1_0,rfl⟩
  subst hv
  simp only [List.cons_append,List.nil_append]
  refine s4 ?_
  refine L_loadW rfl rfl (by first | exact RdC.blk mm) (by exact agg25.h) ?_
  refine L_callR rfl fn8.h rfl (by exact fun w hw=>toENode_spec w _ (rd_carry h1 hw) (by omega)) ?_
  rintro v M1 ⟨n2,hv,hn2,rfl⟩
  subst hv
  simp only [List.cons_append,List.nil_append]
  refine al fun bk5=>?_
  refine L_storeW rfl rfl pk (by exact agg32.h) (by rfl) (by first | (simp [Value.oneCell',TL.hdr];done) | (simp [Value.oneCell',TL.hdr,Value.cells];done) | exact fun v hv=>GT.one _ v hv) ?_
  refine s3 ?_
  refine L_loadW rfl rfl (by first | exact RdC.blk mm) (by exact agg32.h) ?_
  refine L_callR rfl fn9.h rfl (by exact fun w hw=>iAnswers_spec w n2 (rd_of_tree mm hw.sees) (by rw [hn2];exact ho1) (by first | (rw [hn2,← Bd.eq];omega) | (rw [← Bd.eq];omega))) ?_
  rintro v M1 ⟨r2_0,hv,hr2_0,rfl⟩
  subst hv
  simp only [List.cons_append,List.nil_append]
  refine s7 ?_
  refine L_callX rfl fn10.h rfl (by exact fun w hw=>eqSaidS_spec w r2_0 r1_0 (rd_of_tree mm hw.sees) (rd_of_tree mm hw.sees)) ?_
  refine s2 ?_
  refine kp [1,4,5,6,26] ?_
  refine W_cond rfl (fun hc8=>?_) (fun hc8=>?_)
  ·refine s5 ?_
   refine res1 rfl (ResOK.tmp rfl) ⟨?_,rfl⟩ ms
   exfalso
   have hx2:eqB (GT.dat r2_0) (GT.dat r1_0)=true:=eqB_true.2 (by simp only [hn1,hr1_0,hn2,hr2_0])
   simp [hx2] at hc8<;>omega
  ·refine s3 ?_
   refine W_D0 [31] mix (by kernel_rfl) rfl ?_
   refine D_loadW GC.none (OpV.t rfl) (fun hg=>(by first | exact RdC.blk mm)) (by exact agg32.h) ?_
   refine D_loadW GC.none (OpV.t rfl) (fun hg=>(by first | exact RdC.blk mm)) (by exact agg25.h) ?_
   refine D_call1R (fun v M=>∃ m:T_ENode,v=.agg (GT.cells m).toArray∧GT.dat m=GT.dat t1∧M=[treeH m]) fn8.h (OpVs.cons (OpV.t rfl) (OpVs.nil)) (by exact fun w F hF hM=>(fun w hw=>toENode_spec w _ (rd_carry h1 hw) (by omega)) w hF) ?_
   refine D_callR [_,_] (FC True (.bool true)) fn11.h ⟨⟨_,rfl,fun _ _ h=>h⟩,⟨_,rfl,fun _ _ h=>h⟩,trivial⟩ (by
    rintro w F vs hw hM ⟨v1,u1,M1,rfl,⟨rfl,hx1,_⟩,_,v2,u2,M2,rfl,⟨m2,rfl,hd2x,rfl⟩,hin,rfl⟩
    obtain rfl:=hx1 trivial
    have h:=eqENode_spec w n2 m2 (rd_of_tree (hM _ mm) hw.sees) (rd_of_tree (hin _ (List.mem_singleton.2 rfl)) hw.sees)
    rw [eqB_true.2 (hn2.trans hd2x.symm)] at h
    exact h.toFC) ?_
   refine s8 ?_
   refine kp [1,4,5,6,31] ?_
   refine W_condF rfl ?_
   refine s6 ?_
   have hc_n2:Mv.cnt n2≤1000000000000:=cntv_le n2 rfl (by rw [bulk_dat hn2];omega)
   refine s1 ?_
   refine L_loadW rfl rfl (by first | exact RdC.blk mm) (by exact agg32.h) ?_
   refine s1 ?_
   refine L_call1 (h:=treeH n2) rfl fn12.h rfl pk (by exact fun w hw=>markENode_spec w n2 1 (by omega) (by omega)) ?_
   rintro v M1 ⟨hv,rfl⟩
   subst hv
   simp only [List.cons_append,List.nil_append]
   refine s4 ?_
   refine W_D0 [42] mix (by kernel_rfl) rfl ?_
   refine s5 ?_
   refine D_callX (GC.some rfl rfl) fn10.h (OpVs.cons (OpV.s rfl) (OpVs.cons (OpV.s rfl) (OpVs.nil))) (by exact fun hg w F hF hM=>eqSaidS_spec w r2_0 r1_0 (rd_of_tree (hM _ mm) hF.sees) (rd_of_tree (hM _ mm) hF.sees)) ?_
   refine s12 ?_
   refine kp [1,4,6,42] ?_
   refine W_cond rfl (fun hc14=>?_) (fun hc14=>?_)
   ·refine s5 ?_
    refine res1 rfl (ResOK.tmp rfl) ⟨?_,rfl⟩ ms
    exfalso
    have hx5:eqB (GT.dat r2_0) (GT.dat r1_0)=true:=eqB_true.2 (by simp only [hn1,hr1_0,hn2,hr2_0])
    simp [hx5] at hc14<;>omega
   ·refine s6 ?_
    have hc_r2_0:Mk.cnt r2_0≤1000000000000:=cntk_le r2_0 rfl (by have:=answers_bd _ _ hr2_0;omega)
    refine s3 ?_
    refine L_call1 (h:=treeH r2_0) rfl fn13.h rfl pk (by exact fun w hw=>markSaidS_spec w r2_0 1 (by omega) (by omega)) ?_
    rintro v M1 ⟨hv,rfl⟩
    subst hv
    simp only [List.cons_append,List.nil_append]
    refine s10 ?_
    refine L_callX rfl fn14.h rfl (by exact fun w hw=>(by have h:=heldSaidS_spec w r2_0 1 (by omega) (by omega) (rd_of_tree mm hw.sees);rw [hdr_mk] at h;exact h)) ?_
    refine s8 ?_
    refine kp [1,4,6,8,9,50] ?_
    refine W_cond rfl (fun hc20=>?_) (fun hc20=>?_)
    ·refine s5 ?_
     refine res1 rfl (ResOK.tmp rfl) ⟨?_,rfl⟩ ms
     exfalso
     simp [] at hc20<;>omega
    ·refine s8 ?_
     refine kp [1,4,6,8,53] ?_
     refine W_cond rfl (fun hc22=>?_) (fun hc22=>?_)
     ·refine s5 ?_
      refine res1 rfl (ResOK.tmp rfl) ⟨?_,rfl⟩ ms
      exfalso
      simp [] at hc22<;>omega
     ·refine s3 ?_
      refine L_loadW rfl rfl (by first | exact RdC.blk mm) (by exact agg25.h) ?_
      refine L_callR rfl fn8.h rfl (by exact fun w hw=>toENode_spec w _ (rd_carry h1 hw) (by omega)) ?_
      rintro v M1 ⟨n3,hv,hn3,rfl⟩
      subst hv
      simp only [List.cons_append,List.nil_append]
      refine L_callR rfl fn9.h rfl (by exact fun w hw=>iAnswers_spec w n3 (rd_of_tree mm hw.sees) (by rw [hn3];exact ho1) (by first | (rw [hn3,← Bd.eq];omega) | (rw [← Bd.eq];omega))) ?_
      rintro v M1 ⟨r3_0,hv,hr3_0,rfl⟩
      subst hv
      simp only [List.cons_append,List.nil_append]
      refine s7 ?_
      refine L_callX rfl fn10.h rfl (by exact fun w hw=>eqSaidS_spec w r3_0 r1_0 (rd_of_tree mm hw.sees) (rd_of_tree mm hw.sees)) ?_
      refine s2 ?_
      refine kp [6,8,60] ?_
      refine W_cond rfl (fun hc25=>?_) (fun hc25=>?_)
      ·refine s5 ?_
       refine res1 rfl (ResOK.tmp rfl) ⟨?_,rfl⟩ ms
       exfalso
       have hx2:eqB (GT.dat r3_0) (GT.dat r1_0)=true:=eqB_true.2 (by simp only [hn1,hr1_0,hn2,hr2_0,hn3,hr3_0])
       simp [hx2] at hc25<;>omega
      ·refine s9 ?_
       refine L_callX rfl fn14.h rfl (by exact fun w hw=>(by have h:=heldSaidS_spec w r2_0 1 (by omega) (by omega) (rd_of_tree mm hw.sees);rw [hdr_mk] at h;exact h)) ?_
       refine s8 ?_
       refine kp [8,9,65] ?_
       refine W_cond rfl (fun hc29=>?_) (fun hc29=>?_)
       ·refine s5 ?_
        refine res1 rfl (ResOK.tmp rfl) ⟨?_,rfl⟩ ms
        exfalso
        simp [] at hc29<;>omega
       ·refine s8 ?_
        refine kp [68] ?_
        refine W_cond rfl (fun hc31=>?_) (fun hc31=>?_)
        ·refine s5 ?_
         refine res1 rfl (ResOK.tmp rfl) ⟨?_,rfl⟩ ms
         exfalso
         simp [] at hc31<;>omega
        ·refine s6 ?_
         refine res1 rfl (ResOK.tmp rfl) ⟨?_,rfl⟩ ms
         rfl
end Go.Proofs.SL
