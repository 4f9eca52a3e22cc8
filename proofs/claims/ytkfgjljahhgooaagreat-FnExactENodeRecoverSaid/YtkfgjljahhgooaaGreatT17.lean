/- The texts of the proof, part 17: the base, walks of functions, plain Lean. -/
import Derived.Test.YtkfgjljahhgooaaGreatRows
import Derived.Test.YtkfgjljahhgooaaGreatT13
import Derived.Test.YtkfgjljahhgooaaGreatT16
import Derived.Test.YtkfgjljahhgooaaGreatT5
namespace Go.Proofs.SL
open Go
set_option maxHeartbeats 2000000
instance fn75:FnF Tryz.prog 75:=⟨_,Tryz.func75,by kernel_rfl,rfl⟩
theorem eqEMsg_spec (w:World) (t1 t2:T_EMsg) (h1:GT.rd w [] t1) (h2:GT.rd w [] t2):Spec Tryz.prog 75 [.agg (GT.cells t1).toArray,.agg (GT.cells t2).toArray].toArray w [] (IsV (.bool (eqB (GT.dat t1) (GT.dat t2)))):=by
 obtain ⟨a1,a2,a3,⟨a41,a42⟩,a5,⟨a61,a62,a63,a64,a65,a66,a67,a68⟩,a7,a8,a9,a10,a11⟩:=t1
 obtain ⟨b1,b2,b3,⟨b41,b42⟩,b5,⟨b61,b62,b63,b64,b65,b66,b67,b68⟩,b7,b8,b9,b10,b11⟩:=t2
 change Spec _ _ [Value.agg #[.int .i64 a1,.int .i64 a2,.int .i64 a3,.int .i64 a41,.int .i64 a42,.int .i64 a5,.int .i64 a61,.int .i64 a62,.int .i64 a63,.string a64,.string a65,.string a66,.int .i64 a67,a68.hdr,.int .i64 a7,a8.hdr,.int .i64 a9,.int .i64 a10,.bool a11],Value.agg #[.int .i64 b1,.int .i64 b2,.int .i64 b3,.int .i64 b41,.int .i64 b42,.int .i64 b5,.int .i64 b61,.int .i64 b62,.int .i64 b63,.string b64,.string b65,.string b66,.int .i64 b67,b68.hdr,.int .i64 b7,b8.hdr,.int .i64 b9,.int .i64 b10,.bool b11]].toArray w [] _
 refine Spec.intro Tryz.func75 rfl Tryz.ntmps75 rfl ?_
 refine s2 ?_
 refine bx fun bk2=>?_
 refine bx fun bk3=>?_
 refine s6 ?_
 refine L_load rfl rfl (by first | exact RdC.blk mm) one3.h rfl ?_
 refine s1 ?_
 refine L_load rfl rfl (by first | exact RdC.blk mm) one3.h rfl ?_
 refine s2 ?_
 refine kp [2,3,9] ?_
 refine W_cond rfl (fun q1=>?_) (fun q1=>?_)
 ·refine s5 ?_
  refine res1 rfl (ResOK.tmp rfl) ⟨?_,rfl⟩ ms
  clear h1 h2
  exact eqx
 ·refine s5 ?_
  refine L_load rfl rfl (by first | exact RdC.blk mm) one3.h rfl ?_
  refine s1 ?_
  refine L_load rfl rfl (by first | exact RdC.blk mm) one3.h rfl ?_
  refine s2 ?_
  refine kp [2,3,14] ?_
  refine W_cond rfl (fun q3=>?_) (fun q3=>?_)
  ·refine s5 ?_
   refine res1 rfl (ResOK.tmp rfl) ⟨?_,rfl⟩ ms
   clear h1 h2
   exact eqx
  ·refine s5 ?_
   refine L_load rfl rfl (by first | exact RdC.blk mm) one3.h rfl ?_
   refine s1 ?_
   refine L_load rfl rfl (by first | exact RdC.blk mm) one3.h rfl ?_
   refine s2 ?_
   refine kp [2,3,19] ?_
   refine W_cond rfl (fun q5=>?_) (fun q5=>?_)
   ·refine s5 ?_
    refine res1 rfl (ResOK.tmp rfl) ⟨?_,rfl⟩ ms
    clear h1 h2
    exact eqx
   ·refine s5 ?_
    refine L_loadW rfl rfl (RdC.seg (by first | exact RdC.blk mm) 3 2 rfl) (by exact agg29.h) ?_
    refine s1 ?_
    refine L_loadW rfl rfl (RdC.seg (by first | exact RdC.blk mm) 3 2 rfl) (by exact agg29.h) ?_
    refine L_callX rfl fn144.h rfl (by exact fun w hw=>eqId_spec w (a41,a42) (b41,b42) (rd_carry (h1.2.2.2.1) hw) (rd_carry (h2.2.2.2.1) hw)) ?_
    refine s2 ?_
    refine kp [2,3,25] ?_
    refine W_cond rfl (fun q7=>?_) (fun q7=>?_)
    ·refine s5 ?_
     refine res1 rfl (ResOK.tmp rfl) ⟨?_,rfl⟩ ms
     clear h1 h2
     exact eqx
    ·refine s5 ?_
     refine L_load rfl rfl (by first | exact RdC.blk mm) one3.h rfl ?_
     refine s1 ?_
     refine L_load rfl rfl (by first | exact RdC.blk mm) one3.h rfl ?_
     refine s2 ?_
     refine kp [2,3,30] ?_
     refine W_cond rfl (fun q9=>?_) (fun q9=>?_)
     ·refine s5 ?_
      refine res1 rfl (ResOK.tmp rfl) ⟨?_,rfl⟩ ms
      clear h1 h2
      exact eqx
     ·refine s5 ?_
      refine L_loadW rfl rfl (RdC.seg (by first | exact RdC.blk mm) 6 8 rfl) (by exact agg32.h) ?_
      refine s1 ?_
      refine L_loadW rfl rfl (RdC.seg (by first | exact RdC.blk mm) 6 8 rfl) (by exact agg32.h) ?_
      refine L_callX rfl fn33.h rfl (by exact fun w hw=>eqCmd_spec w (a61,a62,a63,a64,a65,a66,a67,a68) (b61,b62,b63,b64,b65,b66,b67,b68) (rd_carry (h1.2.2.2.2.2.1) hw) (rd_carry (h2.2.2.2.2.2.1) hw)) ?_
      refine s2 ?_
      refine kp [2,3,36] ?_
      refine W_cond rfl (fun q11=>?_) (fun q11=>?_)
      ·refine s5 ?_
       refine res1 rfl (ResOK.tmp rfl) ⟨?_,rfl⟩ ms
       clear h1 h2
       exact eqx
      ·refine s5 ?_
       refine L_load rfl rfl (by first | exact RdC.blk mm) one3.h rfl ?_
       refine s1 ?_
       refine L_load rfl rfl (by first | exact RdC.blk mm) one3.h rfl ?_
       refine s2 ?_
       refine kp [2,3,41] ?_
       refine W_cond rfl (fun q13=>?_) (fun q13=>?_)
       ·refine s5 ?_
        refine res1 rfl (ResOK.tmp rfl) ⟨?_,rfl⟩ ms
        clear h1 h2
        exact eqx
       ·refine s5 ?_
        refine L_load rfl rfl (by first | exact RdC.blk mm) one33.h rfl ?_
        refine s1 ?_
        refine L_load rfl rfl (by first | exact RdC.blk mm) one33.h rfl ?_
        refine L_callX rfl fn145.h rfl (by exact fun w hw=>eqIdS_spec w _ _ (rd_carry (h1.2.2.2.2.2.2.2.1) hw) (rd_carry (h2.2.2.2.2.2.2.2.1) hw)) ?_
        refine s2 ?_
        refine kp [2,3,47] ?_
        refine W_cond rfl (fun q15=>?_) (fun q15=>?_)
        ·refine s5 ?_
         refine res1 rfl (ResOK.tmp rfl) ⟨?_,rfl⟩ ms
         clear h1 h2
         exact eqx
        ·refine s5 ?_
         refine L_load rfl rfl (by first | exact RdC.blk mm) one3.h rfl ?_
         refine s1 ?_
         refine L_load rfl rfl (by first | exact RdC.blk mm) one3.h rfl ?_
         refine s2 ?_
         refine kp [2,3,52] ?_
         refine W_cond rfl (fun q17=>?_) (fun q17=>?_)
         ·refine s5 ?_
          refine res1 rfl (ResOK.tmp rfl) ⟨?_,rfl⟩ ms
          clear h1 h2
          exact eqx
         ·refine s5 ?_
          refine L_load rfl rfl (by first | exact RdC.blk mm) one3.h rfl ?_
          refine s1 ?_
          refine L_load rfl rfl (by first | exact RdC.blk mm) one3.h rfl ?_
          refine s2 ?_
          refine kp [2,3,57] ?_
          refine W_cond rfl (fun q19=>?_) (fun q19=>?_)
          ·refine s5 ?_
           refine res1 rfl (ResOK.tmp rfl) ⟨?_,rfl⟩ ms
           clear h1 h2
           exact eqx
          ·refine s5 ?_
           refine L_load rfl rfl (by first | exact RdC.blk mm) one4.h rfl ?_
           refine s1 ?_
           refine L_load rfl rfl (by first | exact RdC.blk mm) one4.h rfl ?_
           refine s2 ?_
           refine kp [62] ?_
           refine W_cond rfl (fun q21=>?_) (fun q21=>?_)
           ·refine s5 ?_
            refine res1 rfl (ResOK.tmp rfl) ⟨?_,rfl⟩ ms
            clear h1 h2
            exact eqx
           ·refine s6 ?_
            refine res1 rfl (ResOK.tmp rfl) ⟨?_,rfl⟩ ms
            clear h1 h2
            exact eqx
theorem eqEMsgS_spec (w:World) (t1 t2:TL T_EMsg) (h1:GT.rd w [] t1) (h2:GT.rd w [] t2):Spec Tryz.prog 24 [t1.hdr,t2.hdr].toArray w [] (IsV (.bool (eqB (GT.dat t1) (GT.dat t2)))):=by
 obtain ⟨a1,c1,e1,x1,y1⟩:=t1
 obtain ⟨a2,c2,e2,x2,y2⟩:=t2
 have hm1:x1.length≤9223372036854775807:=rd_len h1
 have hm2:x2.length≤9223372036854775807:=rd_len h2
 dsimp only [TL.hdr]
 refine Spec.intro Tryz.func24 rfl Tryz.ntmps24 rfl ?_
 refine s8 ?_
 refine L_lenS rfl rfl el38.h ?_
 refine s1 ?_
 refine L_lenS rfl rfl el38.h ?_
 refine s2 ?_
 refine kp [0,1,10] ?_
 refine W_cond rfl (fun q1=>?_) (fun q1=>?_)
 ·refine s5 ?_
  refine res1 rfl (ResOK.tmp rfl) ⟨?_,rfl⟩ ms
  refine congrArg Value.bool (Eq.symm (eqB_false.2 fun e=>?_))
  simp at q1
  exact q1 (by have:=congrArg List.length e;simp [dat_TL] at this;omega)
 ·have hl:x1.length=x2.length:=by simp at q1;omega
  refine s7 ?_
  refine W_loopC (σ:=Nat) 0 (fun (k:Nat)=>[(5,.int .i64 (k:Int))]) (fun (k:Nat)=>[]) (fun (k:Nat)=>k≤x1.length∧(x1.map GT.dat).take k=(x2.map GT.dat).take k) (fun (k:Nat)=>x1.length - k) [(0,_),(1,_)] [] ?_ sb ms ?_
  ·exact ⟨Nat.zero_le _,rfl⟩
  ·rintro k ⟨hk,ht⟩
   refine kq [0,1,5] ?_
   refine s5 ?_
   refine L_lenS rfl rfl el38.h ?_
   refine s2 ?_
   refine kp [0,1,5,14] ?_
   refine W_cond rfl (fun q4=>?_) (fun q4=>?_)
   ·have hk1:k < x1.length:=by simpa using q4
    obtain ⟨g1,o1,rfl⟩:=rd_addr h1 hk1
    obtain ⟨g2,o2,rfl⟩:=rd_addr (k:=k) h2 (show k < x2.length by omega)
    obtain ⟨u1,hu1⟩:=getEl hk1
    obtain ⟨u2,hu2⟩:=getEl (show k < x2.length by omega)
    refine s4 ?_
    refine W_D0 [26] mix (by kernel_rfl) rfl ?_
    refine s2 ?_
    refine D_indexAddr _ GC.none (OpV.t rfl) (OpV.t rfl) el38.h (fun hg=>⟨rfl,by (try dsimp only);omega⟩) ?_
    refine D_loadW GC.none (OpV.t rfl) (fun hg=>(by first | exact RdC.blk mm | exact RdC.old (Cells.el h1 rfl hu1) | exact RdC.old (Cells.el h2 rfl hu2))) (by exact agg35.h) ?_
    refine s2 ?_
    refine D_indexAddr _ GC.none (OpV.t rfl) (OpV.t rfl) el38.h (fun hg=>⟨rfl,by (try dsimp only);omega⟩) ?_
    refine D_loadW GC.none (OpV.t rfl) (fun hg=>(by first | exact RdC.blk mm | exact RdC.old (Cells.el h1 rfl hu1) | exact RdC.old (Cells.el h2 rfl hu2))) (by exact agg35.h) ?_
    refine D_callX GC.none fn75.h (OpVs.cons (OpV.t rfl) (OpVs.cons (OpV.t rfl) (OpVs.nil))) (by exact fun hg w F hF hM=>(fun w hw=>eqEMsg_spec w _ _ (rd_carry (h1.2.2.1 _ (List.mem_of_getElem? hu1)) hw) (rd_carry (h2.2.2.1 _ (List.mem_of_getElem? hu2)) hw)) w hF) ?_
    refine s13 ?_
    refine kp [0,1,5,26] ?_
    refine W_cond rfl (fun q6=>?_) (fun q6=>?_)
    ·refine s5 ?_
     refine res1 rfl (ResOK.tmp rfl) ⟨?_,rfl⟩ ms
     refine congrArg Value.bool (Eq.symm (eqB_false.2 fun e=>?_))
     simp at q6
     replace e:x1.map GT.dat=x2.map GT.dat:=e
     have e2:=congrArg (fun l=>l[k]?) e
     simp only [List.getElem?_map,hu1,hu2,Option.map_some,Option.some.injEq] at e2
     exact q6 (by simpa [dat_int,dat_str,dat_bool] using e2)
    ·refine s3 ?_
     refine L_binV rfl rfl rfl (bv_addR (by unfold inR;omega)) ?_
     refine s2 ?_
     refine ⟨k+1,sb,ms,?_,?_⟩
     ·exact ⟨by omega,take_succ_eq ht (by rw [List.getElem?_map,hu1];rfl) (by rw [List.getElem?_map,hu2];rfl) (by simpa [dat_int,dat_str,dat_bool] using q6)⟩
     ·(try dsimp only);omega
   ·refine W_exit ?_
    refine s5 ?_
    refine res1 rfl (ResOK.tmp rfl) ⟨?_,rfl⟩ ms
    refine congrArg Value.bool (Eq.symm (eqB_true.2 ?_))
    have hk2:x1.length≤k:=by simpa using q4
    have h3:=ht
    rw [List.take_of_length_le (by simp;omega),List.take_of_length_le (by simp;omega)] at h3
    exact h3
set_option maxHeartbeats 4000000 in
theorem markEMsgS_spec (w:World) (t1:TL T_EMsg) (k0:Nat) (hk0:0 < k0) (hb:k0+Mk.cnt t1 < 9223372036854775807):Spec Tryz.prog 26 [t1.hdr,.int .i64 (k0:Int)].toArray w [treeH t1] (fun v M=>v=.int .i64 ((k0+Mk.cnt t1:Nat):Int)∧M=[treeH (Mk.mkd k0 t1)]):=by
 obtain ⟨a1,c1,e1,x1,y1⟩:=t1
 replace hb:k0+cnts x1 < 9223372036854775807:=hb
 dsimp only [TL.hdr]
 refine Spec.intro Tryz.func26 rfl Tryz.ntmps26 rfl ?_
 refine W_fact (fun w h=>ow_facts (h.prs _ (List.mem_cons_self ..))) fun hF=>?_
 replace hF:x1.length≤9223372036854775807∧(0 < x1.length→∃ g,a1=some ⟨g,0,none⟩):=hF
 refine s10 ?_
 refine W_conv (M':=[treeH (⟨a1,c1,e1,half k0 0 x1,y1⟩:TL T_EMsg)]) (fun w h=>by rw [half_zero];exact h) ?_
 refine W_loopC (σ:=Nat) 0 (fun (i:Nat)=>[(1,.int .i64 ((k0+cnts (x1.take i):Nat):Int)),(5,.int .i64 (i:Int))]) (fun (i:Nat)=>[treeH (⟨a1,c1,e1,half k0 i x1,y1⟩:TL T_EMsg)]) (fun (i:Nat)=>i≤x1.length) (fun (i:Nat)=>x1.length - i) [(0,_)] [] ?_ sb ms ?_
 ·exact Nat.zero_le _
 ·rintro i hi
  refine kq [0,1,5] ?_
  refine s5 ?_
  refine L_lenS rfl rfl el38.h ?_
  refine s2 ?_
  refine kp [0,1,5,9] ?_
  refine W_cond rfl (fun q2=>?_) (fun q2=>?_)
  ·have hk1:i < x1.length:=by simpa using q2
   obtain ⟨g,rfl⟩:=hF.2 (by omega)
   obtain ⟨u,hu⟩:=getEl hk1
   have hs:=cnts_take_succ hu
   have hle:=cnts_take_le x1 (i+1)
   have hlh:=half_length k0 i x1
   obtain ⟨b1,b2,b3,⟨b41,b42⟩,b5,⟨b61,b62,b63,b64,b65,b66,b67,b68⟩,b7,b8,b9,b10,b11⟩:=u
   simp only [cnt_pair,cnt_int,cnt_str,cnt_bool] at hs
   refine s8 ?_
   refine L_indexAddr rfl rfl rfl el38.h rfl (by omega) ?_
   refine s1 ?_
   refine L_storeElF (fo:=0) (x':=(((((k0+cnts (x1.take i)):Nat):Int),b2,b3,(b41,b42),b5,(b61,b62,b63,b64,b65,b66,b67,b68),b7,b8,b9,b10,b11):T_EMsg)) rfl rfl pk rfl (show ((half k0 i x1):List T_EMsg)[i]?=some ((b1,b2,b3,(b41,b42),b5,(b61,b62,b63,b64,b65,b66,b67,b68),b7,b8,b9,b10,b11):T_EMsg) from half_get (k:=k0) hu) rfl rfl (by decide) rfl (fun w h=>by exact ⟨(by exact trivial),h.2.1,h.2.2.1,⟨h.2.2.2.1.1,h.2.2.2.1.2⟩,h.2.2.2.2.1,⟨h.2.2.2.2.2.1.1,h.2.2.2.2.2.1.2.1,h.2.2.2.2.2.1.2.2.1,h.2.2.2.2.2.1.2.2.2.1,h.2.2.2.2.2.1.2.2.2.2.1,h.2.2.2.2.2.1.2.2.2.2.2.1,h.2.2.2.2.2.1.2.2.2.2.2.2.1,h.2.2.2.2.2.1.2.2.2.2.2.2.2⟩,h.2.2.2.2.2.2.1,h.2.2.2.2.2.2.2.1,h.2.2.2.2.2.2.2.2.1,h.2.2.2.2.2.2.2.2.2.1,h.2.2.2.2.2.2.2.2.2.2⟩) one3.h ?_
   refine s4 ?_
   refine L_binV rfl rfl rfl (bv_addR (by unfold inR;omega)) ?_
   refine s2 ?_
   rw [show (((k0+cnts (x1.take i)):Nat):Int)+1=((((k0+cnts (x1.take i))+1):Nat):Int) from rfl]
   refine s5 ?_
   refine L_indexAddr rfl rfl rfl el38.h rfl (by omega) ?_
   refine s1 ?_
   refine L_storeElF (fo:=1) (x':=(((((k0+cnts (x1.take i)):Nat):Int),((((k0+cnts (x1.take i))+1):Nat):Int),b3,(b41,b42),b5,(b61,b62,b63,b64,b65,b66,b67,b68),b7,b8,b9,b10,b11):T_EMsg)) rfl rfl pk rfl (show (((half k0 i x1).set i (((((k0+cnts (x1.take i)):Nat):Int),b2,b3,(b41,b42),b5,(b61,b62,b63,b64,b65,b66,b67,b68),b7,b8,b9,b10,b11):T_EMsg)):List T_EMsg)[i]?=some (((((k0+cnts (x1.take i)):Nat):Int),b2,b3,(b41,b42),b5,(b61,b62,b63,b64,b65,b66,b67,b68),b7,b8,b9,b10,b11):T_EMsg) from set_get (half_get (k:=k0) hu)) rfl rfl (by decide) rfl (fun w h=>by exact ⟨h.1,(by exact trivial),h.2.2.1,⟨h.2.2.2.1.1,h.2.2.2.1.2⟩,h.2.2.2.2.1,⟨h.2.2.2.2.2.1.1,h.2.2.2.2.2.1.2.1,h.2.2.2.2.2.1.2.2.1,h.2.2.2.2.2.1.2.2.2.1,h.2.2.2.2.2.1.2.2.2.2.1,h.2.2.2.2.2.1.2.2.2.2.2.1,h.2.2.2.2.2.1.2.2.2.2.2.2.1,h.2.2.2.2.2.1.2.2.2.2.2.2.2⟩,h.2.2.2.2.2.2.1,h.2.2.2.2.2.2.2.1,h.2.2.2.2.2.2.2.2.1,h.2.2.2.2.2.2.2.2.2.1,h.2.2.2.2.2.2.2.2.2.2⟩) one3.h ?_
   rw [List.set_set]
   refine s4 ?_
   refine L_binV rfl rfl rfl (bv_addR (by unfold inR;omega)) ?_
   refine s2 ?_
   rw [show ((((k0+cnts (x1.take i))+1):Nat):Int)+1=((((k0+cnts (x1.take i))+2):Nat):Int) from rfl]
   refine s5 ?_
   refine L_indexAddr rfl rfl rfl el38.h rfl (by omega) ?_
   refine s1 ?_
   refine L_storeElF (fo:=2) (x':=(((((k0+cnts (x1.take i)):Nat):Int),((((k0+cnts (x1.take i))+1):Nat):Int),((((k0+cnts (x1.take i))+2):Nat):Int),(b41,b42),b5,(b61,b62,b63,b64,b65,b66,b67,b68),b7,b8,b9,b10,b11):T_EMsg)) rfl rfl pk rfl (show (((half k0 i x1).set i (((((k0+cnts (x1.take i)):Nat):Int),((((k0+cnts (x1.take i))+1):Nat):Int),b3,(b41,b42),b5,(b61,b62,b63,b64,b65,b66,b67,b68),b7,b8,b9,b10,b11):T_EMsg)):List T_EMsg)[i]?=some (((((k0+cnts (x1.take i)):Nat):Int),((((k0+cnts (x1.take i))+1):Nat):Int),b3,(b41,b42),b5,(b61,b62,b63,b64,b65,b66,b67,b68),b7,b8,b9,b10,b11):T_EMsg) from set_get (half_get (k:=k0) hu)) rfl rfl (by decide) rfl (fun w h=>by exact ⟨h.1,h.2.1,(by exact trivial),⟨h.2.2.2.1.1,h.2.2.2.1.2⟩,h.2.2.2.2.1,⟨h.2.2.2.2.2.1.1,h.2.2.2.2.2.1.2.1,h.2.2.2.2.2.1.2.2.1,h.2.2.2.2.2.1.2.2.2.1,h.2.2.2.2.2.1.2.2.2.2.1,h.2.2.2.2.2.1.2.2.2.2.2.1,h.2.2.2.2.2.1.2.2.2.2.2.2.1,h.2.2.2.2.2.1.2.2.2.2.2.2.2⟩,h.2.2.2.2.2.2.1,h.2.2.2.2.2.2.2.1,h.2.2.2.2.2.2.2.2.1,h.2.2.2.2.2.2.2.2.2.1,h.2.2.2.2.2.2.2.2.2.2⟩) one3.h ?_
   rw [List.set_set]
   refine s4 ?_
   refine L_binV rfl rfl rfl (bv_addR (by unfold inR;omega)) ?_
   refine s2 ?_
   rw [show ((((k0+cnts (x1.take i))+2):Nat):Int)+1=((((k0+cnts (x1.take i))+3):Nat):Int) from rfl]
   refine s5 ?_
   refine L_indexAddr rfl rfl rfl el38.h rfl (by omega) ?_
   refine s2 ?_
   refine L_storeElF (fo:=3) (x':=(((((k0+cnts (x1.take i)):Nat):Int),((((k0+cnts (x1.take i))+1):Nat):Int),((((k0+cnts (x1.take i))+2):Nat):Int),(((((k0+cnts (x1.take i))+3):Nat):Int),b42),b5,(b61,b62,b63,b64,b65,b66,b67,b68),b7,b8,b9,b10,b11):T_EMsg)) rfl rfl pk rfl (show (((half k0 i x1).set i (((((k0+cnts (x1.take i)):Nat):Int),((((k0+cnts (x1.take i))+1):Nat):Int),((((k0+cnts (x1.take i))+2):Nat):Int),(b41,b42),b5,(b61,b62,b63,b64,b65,b66,b67,b68),b7,b8,b9,b10,b11):T_EMsg)):List T_EMsg)[i]?=some (((((k0+cnts (x1.take i)):Nat):Int),((((k0+cnts (x1.take i))+1):Nat):Int),((((k0+cnts (x1.take i))+2):Nat):Int),(b41,b42),b5,(b61,b62,b63,b64,b65,b66,b67,b68),b7,b8,b9,b10,b11):T_EMsg) from set_get (half_get (k:=k0) hu)) rfl rfl (by decide) rfl (fun w h=>by exact ⟨h.1,h.2.1,h.2.2.1,⟨(by exact trivial),h.2.2.2.1.2⟩,h.2.2.2.2.1,⟨h.2.2.2.2.2.1.1,h.2.2.2.2.2.1.2.1,h.2.2.2.2.2.1.2.2.1,h.2.2.2.2.2.1.2.2.2.1,h.2.2.2.2.2.1.2.2.2.2.1,h.2.2.2.2.2.1.2.2.2.2.2.1,h.2.2.2.2.2.1.2.2.2.2.2.2.1,h.2.2.2.2.2.1.2.2.2.2.2.2.2⟩,h.2.2.2.2.2.2.1,h.2.2.2.2.2.2.2.1,h.2.2.2.2.2.2.2.2.1,h.2.2.2.2.2.2.2.2.2.1,h.2.2.2.2.2.2.2.2.2.2⟩) one3.h ?_
   rw [List.set_set]
   refine s4 ?_
   refine L_binV rfl rfl rfl (bv_addR (by unfold inR;omega)) ?_
   refine s2 ?_
   rw [show ((((k0+cnts (x1.take i))+3):Nat):Int)+1=((((k0+cnts (x1.take i))+4):Nat):Int) from rfl]
   refine s5 ?_
   refine L_indexAddr rfl rfl rfl el38.h rfl (by omega) ?_
   refine s2 ?_
   refine L_storeElF (fo:=4) (x':=(((((k0+cnts (x1.take i)):Nat):Int),((((k0+cnts (x1.take i))+1):Nat):Int),((((k0+cnts (x1.take i))+2):Nat):Int),(((((k0+cnts (x1.take i))+3):Nat):Int),((((k0+cnts (x1.take i))+4):Nat):Int)),b5,(b61,b62,b63,b64,b65,b66,b67,b68),b7,b8,b9,b10,b11):T_EMsg)) rfl rfl pk rfl (show (((half k0 i x1).set i (((((k0+cnts (x1.take i)):Nat):Int),((((k0+cnts (x1.take i))+1):Nat):Int),((((k0+cnts (x1.take i))+2):Nat):Int),(((((k0+cnts (x1.take i))+3):Nat):Int),b42),b5,(b61,b62,b63,b64,b65,b66,b67,b68),b7,b8,b9,b10,b11):T_EMsg)):List T_EMsg)[i]?=some (((((k0+cnts (x1.take i)):Nat):Int),((((k0+cnts (x1.take i))+1):Nat):Int),((((k0+cnts (x1.take i))+2):Nat):Int),(((((k0+cnts (x1.take i))+3):Nat):Int),b42),b5,(b61,b62,b63,b64,b65,b66,b67,b68),b7,b8,b9,b10,b11):T_EMsg) from set_get (half_get (k:=k0) hu)) rfl rfl (by decide) rfl (fun w h=>by exact ⟨h.1,h.2.1,h.2.2.1,⟨h.2.2.2.1.1,(by exact trivial)⟩,h.2.2.2.2.1,⟨h.2.2.2.2.2.1.1,h.2.2.2.2.2.1.2.1,h.2.2.2.2.2.1.2.2.1,h.2.2.2.2.2.1.2.2.2.1,h.2.2.2.2.2.1.2.2.2.2.1,h.2.2.2.2.2.1.2.2.2.2.2.1,h.2.2.2.2.2.1.2.2.2.2.2.2.1,h.2.2.2.2.2.1.2.2.2.2.2.2.2⟩,h.2.2.2.2.2.2.1,h.2.2.2.2.2.2.2.1,h.2.2.2.2.2.2.2.2.1,h.2.2.2.2.2.2.2.2.2.1,h.2.2.2.2.2.2.2.2.2.2⟩) one3.h ?_
   rw [List.set_set]
   refine s4 ?_
   refine L_binV rfl rfl rfl (bv_addR (by unfold inR;omega)) ?_
   refine s2 ?_
   rw [show ((((k0+cnts (x1.take i))+4):Nat):Int)+1=((((k0+cnts (x1.take i))+5):Nat):Int) from rfl]
   refine s5 ?_
   refine L_indexAddr rfl rfl rfl el38.h rfl (by omega) ?_
   refine s1 ?_
   refine L_storeElF (fo:=5) (x':=(((((k0+cnts (x1.take i)):Nat):Int),((((k0+cnts (x1.take i))+1):Nat):Int),((((k0+cnts (x1.take i))+2):Nat):Int),(((((k0+cnts (x1.take i))+3):Nat):Int),((((k0+cnts (x1.take i))+4):Nat):Int)),((((k0+cnts (x1.take i))+5):Nat):Int),(b61,b62,b63,b64,b65,b66,b67,b68),b7,b8,b9,b10,b11):T_EMsg)) rfl rfl pk rfl (show (((half k0 i x1).set i (((((k0+cnts (x1.take i)):Nat):Int),((((k0+cnts (x1.take i))+1):Nat):Int),((((k0+cnts (x1.take i))+2):Nat):Int),(((((k0+cnts (x1.take i))+3):Nat):Int),((((k0+cnts (x1.take i))+4):Nat):Int)),b5,(b61,b62,b63,b64,b65,b66,b67,b68),b7,b8,b9,b10,b11):T_EMsg)):List T_EMsg)[i]?=some (((((k0+cnts (x1.take i)):Nat):Int),((((k0+cnts (x1.take i))+1):Nat):Int),((((k0+cnts (x1.take i))+2):Nat):Int),(((((k0+cnts (x1.take i))+3):Nat):Int),((((k0+cnts (x1.take i))+4):Nat):Int)),b5,(b61,b62,b63,b64,b65,b66,b67,b68),b7,b8,b9,b10,b11):T_EMsg) from set_get (half_get (k:=k0) hu)) rfl rfl (by decide) rfl (fun w h=>by exact ⟨h.1,h.2.1,h.2.2.1,⟨h.2.2.2.1.1,h.2.2.2.1.2⟩,(by exact trivial),⟨h.2.2.2.2.2.1.1,h.2.2.2.2.2.1.2.1,h.2.2.2.2.2.1.2.2.1,h.2.2.2.2.2.1.2.2.2.1,h.2.2.2.2.2.1.2.2.2.2.1,h.2.2.2.2.2.1.2.2.2.2.2.1,h.2.2.2.2.2.1.2.2.2.2.2.2.1,h.2.2.2.2.2.1.2.2.2.2.2.2.2⟩,h.2.2.2.2.2.2.1,h.2.2.2.2.2.2.2.1,h.2.2.2.2.2.2.2.2.1,h.2.2.2.2.2.2.2.2.2.1,h.2.2.2.2.2.2.2.2.2.2⟩) one3.h ?_
   rw [List.set_set]
   refine s4 ?_
   refine L_binV rfl rfl rfl (bv_addR (by unfold inR;omega)) ?_
   refine s2 ?_
   rw [show ((((k0+cnts (x1.take i))+5):Nat):Int)+1=((((k0+cnts (x1.take i))+6):Nat):Int) from rfl]
   refine s5 ?_
   refine L_indexAddr rfl rfl rfl el38.h rfl (by omega) ?_
   refine s2 ?_
   refine L_storeElF (fo:=6) (x':=(((((k0+cnts (x1.take i)):Nat):Int),((((k0+cnts (x1.take i))+1):Nat):Int),((((k0+cnts (x1.take i))+2):Nat):Int),(((((k0+cnts (x1.take i))+3):Nat):Int),((((k0+cnts (x1.take i))+4):Nat):Int)),((((k0+cnts (x1.take i))+5):Nat):Int),(((((k0+cnts (x1.take i))+6):Nat):Int),b62,b63,b64,b65,b66,b67,b68),b7,b8,b9,b10,b11):T_EMsg)) rfl rfl pk rfl (show (((half k0 i x1).set i (((((k0+cnts (x1.take i)):Nat):Int),((((k0+cnts (x1.take i))+1):Nat):Int),((((k0+cnts (x1.take i))+2):Nat):Int),(((((k0+cnts (x1.take i))+3):Nat):Int),((((k0+cnts (x1.take i))+4):Nat):Int)),((((k0+cnts (x1.take i))+5):Nat):Int),(b61,b62,b63,b64,b65,b66,b67,b68),b7,b8,b9,b10,b11):T_EMsg)):List T_EMsg)[i]?=some (((((k0+cnts (x1.take i)):Nat):Int),((((k0+cnts (x1.take i))+1):Nat):Int),((((k0+cnts (x1.take i))+2):Nat):Int),(((((k0+cnts (x1.take i))+3):Nat):Int),((((k0+cnts (x1.take i))+4):Nat):Int)),((((k0+cnts (x1.take i))+5):Nat):Int),(b61,b62,b63,b64,b65,b66,b67,b68),b7,b8,b9,b10,b11):T_EMsg) from set_get (half_get (k:=k0) hu)) rfl rfl (by decide) rfl (fun w h=>by exact ⟨h.1,h.2.1,h.2.2.1,⟨h.2.2.2.1.1,h.2.2.2.1.2⟩,h.2.2.2.2.1,⟨(by exact trivial),h.2.2.2.2.2.1.2.1,h.2.2.2.2.2.1.2.2.1,h.2.2.2.2.2.1.2.2.2.1,h.2.2.2.2.2.1.2.2.2.2.1,h.2.2.2.2.2.1.2.2.2.2.2.1,h.2.2.2.2.2.1.2.2.2.2.2.2.1,h.2.2.2.2.2.1.2.2.2.2.2.2.2⟩,h.2.2.2.2.2.2.1,h.2.2.2.2.2.2.2.1,h.2.2.2.2.2.2.2.2.1,h.2.2.2.2.2.2.2.2.2.1,h.2.2.2.2.2.2.2.2.2.2⟩) one3.h ?_
   rw [List.set_set]
   refine s4 ?_
   refine L_binV rfl rfl rfl (bv_addR (by unfold inR;omega)) ?_
   refine s2 ?_
   rw [show ((((k0+cnts (x1.take i))+6):Nat):Int)+1=((((k0+cnts (x1.take i))+7):Nat):Int) from rfl]
   refine s5 ?_
   refine L_indexAddr rfl rfl rfl el38.h rfl (by omega) ?_
   refine s2 ?_
   refine L_storeElF (fo:=7) (x':=(((((k0+cnts (x1.take i)):Nat):Int),((((k0+cnts (x1.take i))+1):Nat):Int),((((k0+cnts (x1.take i))+2):Nat):Int),(((((k0+cnts (x1.take i))+3):Nat):Int),((((k0+cnts (x1.take i))+4):Nat):Int)),((((k0+cnts (x1.take i))+5):Nat):Int),(((((k0+cnts (x1.take i))+6):Nat):Int),((((k0+cnts (x1.take i))+7):Nat):Int),b63,b64,b65,b66,b67,b68),b7,b8,b9,b10,b11):T_EMsg)) rfl rfl pk rfl (show (((half k0 i x1).set i (((((k0+cnts (x1.take i)):Nat):Int),((((k0+cnts (x1.take i))+1):Nat):Int),((((k0+cnts (x1.take i))+2):Nat):Int),(((((k0+cnts (x1.take i))+3):Nat):Int),((((k0+cnts (x1.take i))+4):Nat):Int)),((((k0+cnts (x1.take i))+5):Nat):Int),(((((k0+cnts (x1.take i))+6):Nat):Int),b62,b63,b64,b65,b66,b67,b68),b7,b8,b9,b10,b11):T_EMsg)):List T_EMsg)[i]?=some (((((k0+cnts (x1.take i)):Nat):Int),((((k0+cnts (x1.take i))+1):Nat):Int),((((k0+cnts (x1.take i))+2):Nat):Int),(((((k0+cnts (x1.take i))+3):Nat):Int),((((k0+cnts (x1.take i))+4):Nat):Int)),((((k0+cnts (x1.take i))+5):Nat):Int),(((((k0+cnts (x1.take i))+6):Nat):Int),b62,b63,b64,b65,b66,b67,b68),b7,b8,b9,b10,b11):T_EMsg) from set_get (half_get (k:=k0) hu)) rfl rfl (by decide) rfl (fun w h=>by exact ⟨h.1,h.2.1,h.2.2.1,⟨h.2.2.2.1.1,h.2.2.2.1.2⟩,h.2.2.2.2.1,⟨h.2.2.2.2.2.1.1,(by exact trivial),h.2.2.2.2.2.1.2.2.1,h.2.2.2.2.2.1.2.2.2.1,h.2.2.2.2.2.1.2.2.2.2.1,h.2.2.2.2.2.1.2.2.2.2.2.1,h.2.2.2.2.2.1.2.2.2.2.2.2.1,h.2.2.2.2.2.1.2.2.2.2.2.2.2⟩,h.2.2.2.2.2.2.1,h.2.2.2.2.2.2.2.1,h.2.2.2.2.2.2.2.2.1,h.2.2.2.2.2.2.2.2.2.1,h.2.2.2.2.2.2.2.2.2.2⟩) one3.h ?_
   rw [List.set_set]
   refine s4 ?_
   refine L_binV rfl rfl rfl (bv_addR (by unfold inR;omega)) ?_
   refine s2 ?_
   rw [show ((((k0+cnts (x1.take i))+7):Nat):Int)+1=((((k0+cnts (x1.take i))+8):Nat):Int) from rfl]
   refine s5 ?_
   refine L_indexAddr rfl rfl rfl el38.h rfl (by omega) ?_
   refine s2 ?_
   refine L_storeElF (fo:=8) (x':=(((((k0+cnts (x1.take i)):Nat):Int),((((k0+cnts (x1.take i))+1):Nat):Int),((((k0+cnts (x1.take i))+2):Nat):Int),(((((k0+cnts (x1.take i))+3):Nat):Int),((((k0+cnts (x1.take i))+4):Nat):Int)),((((k0+cnts (x1.take i))+5):Nat):Int),(((((k0+cnts (x1.take i))+6):Nat):Int),((((k0+cnts (x1.take i))+7):Nat):Int),((((k0+cnts (x1.take i))+8):Nat):Int),b64,b65,b66,b67,b68),b7,b8,b9,b10,b11):T_EMsg)) rfl rfl pk rfl (show (((half k0 i x1).set i (((((k0+cnts (x1.take i)):Nat):Int),((((k0+cnts (x1.take i))+1):Nat):Int),((((k0+cnts (x1.take i))+2):Nat):Int),(((((k0+cnts (x1.take i))+3):Nat):Int),((((k0+cnts (x1.take i))+4):Nat):Int)),((((k0+cnts (x1.take i))+5):Nat):Int),(((((k0+cnts (x1.take i))+6):Nat):Int),((((k0+cnts (x1.take i))+7):Nat):Int),b63,b64,b65,b66,b67,b68),b7,b8,b9,b10,b11):T_EMsg)):List T_EMsg)[i]?=some (((((k0+cnts (x1.take i)):Nat):Int),((((k0+cnts (x1.take i))+1):Nat):Int),((((k0+cnts (x1.take i))+2):Nat):Int),(((((k0+cnts (x1.take i))+3):Nat):Int),((((k0+cnts (x1.take i))+4):Nat):Int)),((((k0+cnts (x1.take i))+5):Nat):Int),(((((k0+cnts (x1.take i))+6):Nat):Int),((((k0+cnts (x1.take i))+7):Nat):Int),b63,b64,b65,b66,b67,b68),b7,b8,b9,b10,b11):T_EMsg) from set_get (half_get (k:=k0) hu)) rfl rfl (by decide) rfl (fun w h=>by exact ⟨h.1,h.2.1,h.2.2.1,⟨h.2.2.2.1.1,h.2.2.2.1.2⟩,h.2.2.2.2.1,⟨h.2.2.2.2.2.1.1,h.2.2.2.2.2.1.2.1,(by exact trivial),h.2.2.2.2.2.1.2.2.2.1,h.2.2.2.2.2.1.2.2.2.2.1,h.2.2.2.2.2.1.2.2.2.2.2.1,h.2.2.2.2.2.1.2.2.2.2.2.2.1,h.2.2.2.2.2.1.2.2.2.2.2.2.2⟩,h.2.2.2.2.2.2.1,h.2.2.2.2.2.2.2.1,h.2.2.2.2.2.2.2.2.1,h.2.2.2.2.2.2.2.2.2.1,h.2.2.2.2.2.2.2.2.2.2⟩) one3.h ?_
   rw [List.set_set]
   refine s4 ?_
   refine L_binV rfl rfl rfl (bv_addR (by unfold inR;omega)) ?_
   refine s2 ?_
   rw [show ((((k0+cnts (x1.take i))+8):Nat):Int)+1=((((k0+cnts (x1.take i))+9):Nat):Int) from rfl]
   refine s5 ?_
   refine L_callX rfl fn78.h rfl (by exact fun w hw=>markText_spec w ((k0+cnts (x1.take i))+9) (by omega) (by omega)) ?_
   refine L_indexAddr rfl rfl rfl el38.h rfl (by omega) ?_
   refine s2 ?_
   refine L_storeElF (fo:=9) (x':=(((((k0+cnts (x1.take i)):Nat):Int),((((k0+cnts (x1.take i))+1):Nat):Int),((((k0+cnts (x1.take i))+2):Nat):Int),(((((k0+cnts (x1.take i))+3):Nat):Int),((((k0+cnts (x1.take i))+4):Nat):Int)),((((k0+cnts (x1.take i))+5):Nat):Int),(((((k0+cnts (x1.take i))+6):Nat):Int),((((k0+cnts (x1.take i))+7):Nat):Int),((((k0+cnts (x1.take i))+8):Nat):Int),(mtx ((k0+cnts (x1.take i))+9)),b65,b66,b67,b68),b7,b8,b9,b10,b11):T_EMsg)) rfl rfl pk rfl (show (((half k0 i x1).set i (((((k0+cnts (x1.take i)):Nat):Int),((((k0+cnts (x1.take i))+1):Nat):Int),((((k0+cnts (x1.take i))+2):Nat):Int),(((((k0+cnts (x1.take i))+3):Nat):Int),((((k0+cnts (x1.take i))+4):Nat):Int)),((((k0+cnts (x1.take i))+5):Nat):Int),(((((k0+cnts (x1.take i))+6):Nat):Int),((((k0+cnts (x1.take i))+7):Nat):Int),((((k0+cnts (x1.take i))+8):Nat):Int),b64,b65,b66,b67,b68),b7,b8,b9,b10,b11):T_EMsg)):List T_EMsg)[i]?=some (((((k0+cnts (x1.take i)):Nat):Int),((((k0+cnts (x1.take i))+1):Nat):Int),((((k0+cnts (x1.take i))+2):Nat):Int),(((((k0+cnts (x1.take i))+3):Nat):Int),((((k0+cnts (x1.take i))+4):Nat):Int)),((((k0+cnts (x1.take i))+5):Nat):Int),(((((k0+cnts (x1.take i))+6):Nat):Int),((((k0+cnts (x1.take i))+7):Nat):Int),((((k0+cnts (x1.take i))+8):Nat):Int),b64,b65,b66,b67,b68),b7,b8,b9,b10,b11):T_EMsg) from set_get (half_get (k:=k0) hu)) rfl rfl (by decide) rfl (fun w h=>by exact ⟨h.1,h.2.1,h.2.2.1,⟨h.2.2.2.1.1,h.2.2.2.1.2⟩,h.2.2.2.2.1,⟨h.2.2.2.2.2.1.1,h.2.2.2.2.2.1.2.1,h.2.2.2.2.2.1.2.2.1,(by exact trivial),h.2.2.2.2.2.1.2.2.2.2.1,h.2.2.2.2.2.1.2.2.2.2.2.1,h.2.2.2.2.2.1.2.2.2.2.2.2.1,h.2.2.2.2.2.1.2.2.2.2.2.2.2⟩,h.2.2.2.2.2.2.1,h.2.2.2.2.2.2.2.1,h.2.2.2.2.2.2.2.2.1,h.2.2.2.2.2.2.2.2.2.1,h.2.2.2.2.2.2.2.2.2.2⟩) one9.h ?_
   rw [List.set_set]
   refine s4 ?_
   refine L_binV rfl rfl rfl (bv_addR (by unfold inR;omega)) ?_
   refine s2 ?_
   rw [show ((((k0+cnts (x1.take i))+9):Nat):Int)+1=((((k0+cnts (x1.take i))+10):Nat):Int) from rfl]
   refine s5 ?_
   refine L_callX rfl fn78.h rfl (by exact fun w hw=>markText_spec w ((k0+cnts (x1.take i))+10) (by omega) (by omega)) ?_
   refine L_indexAddr rfl rfl rfl el38.h rfl (by omega) ?_
   refine s2 ?_
   refine L_storeElF (fo:=10) (x':=(((((k0+cnts (x1.take i)):Nat):Int),((((k0+cnts (x1.take i))+1):Nat):Int),((((k0+cnts (x1.take i))+2):Nat):Int),(((((k0+cnts (x1.take i))+3):Nat):Int),((((k0+cnts (x1.take i))+4):Nat):Int)),((((k0+cnts (x1.take i))+5):Nat):Int),(((((k0+cnts (x1.take i))+6):Nat):Int),((((k0+cnts (x1.take i))+7):Nat):Int),((((k0+cnts (x1.take i))+8):Nat):Int),(mtx ((k0+cnts (x1.take i))+9)),(mtx ((k0+cnts (x1.take i))+10)),b66,b67,b68),b7,b8,b9,b10,b11):T_EMsg)) rfl rfl pk rfl (show (((half k0 i x1).set i (((((k0+cnts (x1.take i)):Nat):Int),((((k0+cnts (x1.take i))+1):Nat):Int),((((k0+cnts (x1.take i))+2):Nat):Int),(((((k0+cnts (x1.take i))+3):Nat):Int),((((k0+cnts (x1.take i))+4):Nat):Int)),((((k0+cnts (x1.take i))+5):Nat):Int),(((((k0+cnts (x1.take i))+6):Nat):Int),((((k0+cnts (x1.take i))+7):Nat):Int),((((k0+cnts (x1.take i))+8):Nat):Int),(mtx ((k0+cnts (x1.take i))+9)),b65,b66,b67,b68),b7,b8,b9,b10,b11):T_EMsg)):List T_EMsg)[i]?=some (((((k0+cnts (x1.take i)):Nat):Int),((((k0+cnts (x1.take i))+1):Nat):Int),((((k0+cnts (x1.take i))+2):Nat):Int),(((((k0+cnts (x1.take i))+3):Nat):Int),((((k0+cnts (x1.take i))+4):Nat):Int)),((((k0+cnts (x1.take i))+5):Nat):Int),(((((k0+cnts (x1.take i))+6):Nat):Int),((((k0+cnts (x1.take i))+7):Nat):Int),((((k0+cnts (x1.take i))+8):Nat):Int),(mtx ((k0+cnts (x1.take i))+9)),b65,b66,b67,b68),b7,b8,b9,b10,b11):T_EMsg) from set_get (half_get (k:=k0) hu)) rfl rfl (by decide) rfl (fun w h=>by exact ⟨h.1,h.2.1,h.2.2.1,⟨h.2.2.2.1.1,h.2.2.2.1.2⟩,h.2.2.2.2.1,⟨h.2.2.2.2.2.1.1,h.2.2.2.2.2.1.2.1,h.2.2.2.2.2.1.2.2.1,h.2.2.2.2.2.1.2.2.2.1,(by exact trivial),h.2.2.2.2.2.1.2.2.2.2.2.1,h.2.2.2.2.2.1.2.2.2.2.2.2.1,h.2.2.2.2.2.1.2.2.2.2.2.2.2⟩,h.2.2.2.2.2.2.1,h.2.2.2.2.2.2.2.1,h.2.2.2.2.2.2.2.2.1,h.2.2.2.2.2.2.2.2.2.1,h.2.2.2.2.2.2.2.2.2.2⟩) one9.h ?_
   rw [List.set_set]
   refine s4 ?_
   refine L_binV rfl rfl rfl (bv_addR (by unfold inR;omega)) ?_
   refine s2 ?_
   rw [show ((((k0+cnts (x1.take i))+10):Nat):Int)+1=((((k0+cnts (x1.take i))+11):Nat):Int) from rfl]
   refine s5 ?_
   refine L_callX rfl fn78.h rfl (by exact fun w hw=>markText_spec w ((k0+cnts (x1.take i))+11) (by omega) (by omega)) ?_
   refine L_indexAddr rfl rfl rfl el38.h rfl (by omega) ?_
   refine s2 ?_
   refine L_storeElF (fo:=11) (x':=(((((k0+cnts (x1.take i)):Nat):Int),((((k0+cnts (x1.take i))+1):Nat):Int),((((k0+cnts (x1.take i))+2):Nat):Int),(((((k0+cnts (x1.take i))+3):Nat):Int),((((k0+cnts (x1.take i))+4):Nat):Int)),((((k0+cnts (x1.take i))+5):Nat):Int),(((((k0+cnts (x1.take i))+6):Nat):Int),((((k0+cnts (x1.take i))+7):Nat):Int),((((k0+cnts (x1.take i))+8):Nat):Int),(mtx ((k0+cnts (x1.take i))+9)),(mtx ((k0+cnts (x1.take i))+10)),(mtx ((k0+cnts (x1.take i))+11)),b67,b68),b7,b8,b9,b10,b11):T_EMsg)) rfl rfl pk rfl (show (((half k0 i x1).set i (((((k0+cnts (x1.take i)):Nat):Int),((((k0+cnts (x1.take i))+1):Nat):Int),((((k0+cnts (x1.take i))+2):Nat):Int),(((((k0+cnts (x1.take i))+3):Nat):Int),((((k0+cnts (x1.take i))+4):Nat):Int)),((((k0+cnts (x1.take i))+5):Nat):Int),(((((k0+cnts (x1.take i))+6):Nat):Int),((((k0+cnts (x1.take i))+7):Nat):Int),((((k0+cnts (x1.take i))+8):Nat):Int),(mtx ((k0+cnts (x1.take i))+9)),(mtx ((k0+cnts (x1.take i))+10)),b66,b67,b68),b7,b8,b9,b10,b11):T_EMsg)):List T_EMsg)[i]?=some (((((k0+cnts (x1.take i)):Nat):Int),((((k0+cnts (x1.take i))+1):Nat):Int),((((k0+cnts (x1.take i))+2):Nat):Int),(((((k0+cnts (x1.take i))+3):Nat):Int),((((k0+cnts (x1.take i))+4):Nat):Int)),((((k0+cnts (x1.take i))+5):Nat):Int),(((((k0+cnts (x1.take i))+6):Nat):Int),((((k0+cnts (x1.take i))+7):Nat):Int),((((k0+cnts (x1.take i))+8):Nat):Int),(mtx ((k0+cnts (x1.take i))+9)),(mtx ((k0+cnts (x1.take i))+10)),b66,b67,b68),b7,b8,b9,b10,b11):T_EMsg) from set_get (half_get (k:=k0) hu)) rfl rfl (by decide) rfl (fun w h=>by exact ⟨h.1,h.2.1,h.2.2.1,⟨h.2.2.2.1.1,h.2.2.2.1.2⟩,h.2.2.2.2.1,⟨h.2.2.2.2.2.1.1,h.2.2.2.2.2.1.2.1,h.2.2.2.2.2.1.2.2.1,h.2.2.2.2.2.1.2.2.2.1,h.2.2.2.2.2.1.2.2.2.2.1,(by exact trivial),h.2.2.2.2.2.1.2.2.2.2.2.2.1,h.2.2.2.2.2.1.2.2.2.2.2.2.2⟩,h.2.2.2.2.2.2.1,h.2.2.2.2.2.2.2.1,h.2.2.2.2.2.2.2.2.1,h.2.2.2.2.2.2.2.2.2.1,h.2.2.2.2.2.2.2.2.2.2⟩) one9.h ?_
   rw [List.set_set]
   refine s4 ?_
   refine L_binV rfl rfl rfl (bv_addR (by unfold inR;omega)) ?_
   refine s2 ?_
   rw [show ((((k0+cnts (x1.take i))+11):Nat):Int)+1=((((k0+cnts (x1.take i))+12):Nat):Int) from rfl]
   refine s5 ?_
   refine L_indexAddr rfl rfl rfl el38.h rfl (by omega) ?_
   refine s2 ?_
   refine L_storeElF (fo:=12) (x':=(((((k0+cnts (x1.take i)):Nat):Int),((((k0+cnts (x1.take i))+1):Nat):Int),((((k0+cnts (x1.take i))+2):Nat):Int),(((((k0+cnts (x1.take i))+3):Nat):Int),((((k0+cnts (x1.take i))+4):Nat):Int)),((((k0+cnts (x1.take i))+5):Nat):Int),(((((k0+cnts (x1.take i))+6):Nat):Int),((((k0+cnts (x1.take i))+7):Nat):Int),((((k0+cnts (x1.take i))+8):Nat):Int),(mtx ((k0+cnts (x1.take i))+9)),(mtx ((k0+cnts (x1.take i))+10)),(mtx ((k0+cnts (x1.take i))+11)),((((k0+cnts (x1.take i))+12):Nat):Int),b68),b7,b8,b9,b10,b11):T_EMsg)) rfl rfl pk rfl (show (((half k0 i x1).set i (((((k0+cnts (x1.take i)):Nat):Int),((((k0+cnts (x1.take i))+1):Nat):Int),((((k0+cnts (x1.take i))+2):Nat):Int),(((((k0+cnts (x1.take i))+3):Nat):Int),((((k0+cnts (x1.take i))+4):Nat):Int)),((((k0+cnts (x1.take i))+5):Nat):Int),(((((k0+cnts (x1.take i))+6):Nat):Int),((((k0+cnts (x1.take i))+7):Nat):Int),((((k0+cnts (x1.take i))+8):Nat):Int),(mtx ((k0+cnts (x1.take i))+9)),(mtx ((k0+cnts (x1.take i))+10)),(mtx ((k0+cnts (x1.take i))+11)),b67,b68),b7,b8,b9,b10,b11):T_EMsg)):List T_EMsg)[i]?=some (((((k0+cnts (x1.take i)):Nat):Int),((((k0+cnts (x1.take i))+1):Nat):Int),((((k0+cnts (x1.take i))+2):Nat):Int),(((((k0+cnts (x1.take i))+3):Nat):Int),((((k0+cnts (x1.take i))+4):Nat):Int)),((((k0+cnts (x1.take i))+5):Nat):Int),(((((k0+cnts (x1.take i))+6):Nat):Int),((((k0+cnts (x1.take i))+7):Nat):Int),((((k0+cnts (x1.take i))+8):Nat):Int),(mtx ((k0+cnts (x1.take i))+9)),(mtx ((k0+cnts (x1.take i))+10)),(mtx ((k0+cnts (x1.take i))+11)),b67,b68),b7,b8,b9,b10,b11):T_EMsg) from set_get (half_get (k:=k0) hu)) rfl rfl (by decide) rfl (fun w h=>by exact ⟨h.1,h.2.1,h.2.2.1,⟨h.2.2.2.1.1,h.2.2.2.1.2⟩,h.2.2.2.2.1,⟨h.2.2.2.2.2.1.1,h.2.2.2.2.2.1.2.1,h.2.2.2.2.2.1.2.2.1,h.2.2.2.2.2.1.2.2.2.1,h.2.2.2.2.2.1.2.2.2.2.1,h.2.2.2.2.2.1.2.2.2.2.2.1,(by exact trivial),h.2.2.2.2.2.1.2.2.2.2.2.2.2⟩,h.2.2.2.2.2.2.1,h.2.2.2.2.2.2.2.1,h.2.2.2.2.2.2.2.2.1,h.2.2.2.2.2.2.2.2.2.1,h.2.2.2.2.2.2.2.2.2.2⟩) one3.h ?_
   rw [List.set_set]
   refine s4 ?_
   refine L_binV rfl rfl rfl (bv_addR (by unfold inR;omega)) ?_
   refine s2 ?_
   rw [show ((((k0+cnts (x1.take i))+12):Nat):Int)+1=((((k0+cnts (x1.take i))+13):Nat):Int) from rfl]
   refine s4 ?_
   refine L_indexAddr rfl rfl rfl el38.h rfl (by omega) ?_
   refine s2 ?_
   refine L_load (fo:=13) rfl rfl (by exact RdC.el (L:=(⟨some ⟨g,0,none⟩,c1,e1,((half k0 i x1).set i (((((k0+cnts (x1.take i)):Nat):Int),((((k0+cnts (x1.take i))+1):Nat):Int),((((k0+cnts (x1.take i))+2):Nat):Int),(((((k0+cnts (x1.take i))+3):Nat):Int),((((k0+cnts (x1.take i))+4):Nat):Int)),((((k0+cnts (x1.take i))+5):Nat):Int),(((((k0+cnts (x1.take i))+6):Nat):Int),((((k0+cnts (x1.take i))+7):Nat):Int),((((k0+cnts (x1.take i))+8):Nat):Int),(mtx ((k0+cnts (x1.take i))+9)),(mtx ((k0+cnts (x1.take i))+10)),(mtx ((k0+cnts (x1.take i))+11)),((((k0+cnts (x1.take i))+12):Nat):Int),b68),b7,b8,b9,b10,b11):T_EMsg)),y1⟩:TL T_EMsg)) mm rfl (show (((half k0 i x1).set i (((((k0+cnts (x1.take i)):Nat):Int),((((k0+cnts (x1.take i))+1):Nat):Int),((((k0+cnts (x1.take i))+2):Nat):Int),(((((k0+cnts (x1.take i))+3):Nat):Int),((((k0+cnts (x1.take i))+4):Nat):Int)),((((k0+cnts (x1.take i))+5):Nat):Int),(((((k0+cnts (x1.take i))+6):Nat):Int),((((k0+cnts (x1.take i))+7):Nat):Int),((((k0+cnts (x1.take i))+8):Nat):Int),(mtx ((k0+cnts (x1.take i))+9)),(mtx ((k0+cnts (x1.take i))+10)),(mtx ((k0+cnts (x1.take i))+11)),((((k0+cnts (x1.take i))+12):Nat):Int),b68),b7,b8,b9,b10,b11):T_EMsg)):List T_EMsg)[i]?=some (((((k0+cnts (x1.take i)):Nat):Int),((((k0+cnts (x1.take i))+1):Nat):Int),((((k0+cnts (x1.take i))+2):Nat):Int),(((((k0+cnts (x1.take i))+3):Nat):Int),((((k0+cnts (x1.take i))+4):Nat):Int)),((((k0+cnts (x1.take i))+5):Nat):Int),(((((k0+cnts (x1.take i))+6):Nat):Int),((((k0+cnts (x1.take i))+7):Nat):Int),((((k0+cnts (x1.take i))+8):Nat):Int),(mtx ((k0+cnts (x1.take i))+9)),(mtx ((k0+cnts (x1.take i))+10)),(mtx ((k0+cnts (x1.take i))+11)),((((k0+cnts (x1.take i))+12):Nat):Int),b68),b7,b8,b9,b10,b11):T_EMsg) from set_get (half_get (k:=k0) hu))) one30.h rfl ?_
   refine s1 ?_
   refine L_conv (fun w h=>el_out (L:=(⟨some ⟨g,0,none⟩,c1,e1,((half k0 i x1).set i (((((k0+cnts (x1.take i)):Nat):Int),((((k0+cnts (x1.take i))+1):Nat):Int),((((k0+cnts (x1.take i))+2):Nat):Int),(((((k0+cnts (x1.take i))+3):Nat):Int),((((k0+cnts (x1.take i))+4):Nat):Int)),((((k0+cnts (x1.take i))+5):Nat):Int),(((((k0+cnts (x1.take i))+6):Nat):Int),((((k0+cnts (x1.take i))+7):Nat):Int),((((k0+cnts (x1.take i))+8):Nat):Int),(mtx ((k0+cnts (x1.take i))+9)),(mtx ((k0+cnts (x1.take i))+10)),(mtx ((k0+cnts (x1.take i))+11)),((((k0+cnts (x1.take i))+12):Nat):Int),b68),b7,b8,b9,b10,b11):T_EMsg)),y1⟩:TL T_EMsg)) (show (((half k0 i x1).set i (((((k0+cnts (x1.take i)):Nat):Int),((((k0+cnts (x1.take i))+1):Nat):Int),((((k0+cnts (x1.take i))+2):Nat):Int),(((((k0+cnts (x1.take i))+3):Nat):Int),((((k0+cnts (x1.take i))+4):Nat):Int)),((((k0+cnts (x1.take i))+5):Nat):Int),(((((k0+cnts (x1.take i))+6):Nat):Int),((((k0+cnts (x1.take i))+7):Nat):Int),((((k0+cnts (x1.take i))+8):Nat):Int),(mtx ((k0+cnts (x1.take i))+9)),(mtx ((k0+cnts (x1.take i))+10)),(mtx ((k0+cnts (x1.take i))+11)),((((k0+cnts (x1.take i))+12):Nat):Int),b68),b7,b8,b9,b10,b11):T_EMsg)):List T_EMsg)[i]?=some (((((k0+cnts (x1.take i)):Nat):Int),((((k0+cnts (x1.take i))+1):Nat):Int),((((k0+cnts (x1.take i))+2):Nat):Int),(((((k0+cnts (x1.take i))+3):Nat):Int),((((k0+cnts (x1.take i))+4):Nat):Int)),((((k0+cnts (x1.take i))+5):Nat):Int),(((((k0+cnts (x1.take i))+6):Nat):Int),((((k0+cnts (x1.take i))+7):Nat):Int),((((k0+cnts (x1.take i))+8):Nat):Int),(mtx ((k0+cnts (x1.take i))+9)),(mtx ((k0+cnts (x1.take i))+10)),(mtx ((k0+cnts (x1.take i))+11)),((((k0+cnts (x1.take i))+12):Nat):Int),b68),b7,b8,b9,b10,b11):T_EMsg) from set_get (half_get (k:=k0) hu)) (frontPick pk h)) ?_
   refine L_conv (fun w h=>tree_pair h) ?_
   refine L_conv (fun w h=>frontPick (Pick.there _ (Pick.here _)) h) ?_
   refine L_conv (fun w h=>tree_pair h) ?_
   refine L_conv (fun w h=>frontPick (Pick.there _ (Pick.here _)) h) ?_
   refine L_conv (fun w h=>tree_pair h) ?_
   refine L_conv (fun w h=>frontPick (Pick.there _ (Pick.here _)) h) ?_
   refine L_conv (fun w h=>tree_pair h) ?_
   refine L_conv (fun w h=>frontPick (Pick.there _ (Pick.here _)) h) ?_
   refine L_conv (fun w h=>tree_pair h) ?_
   refine L_conv (fun w h=>frontPick (Pick.there _ (Pick.here _)) h) ?_
   refine L_conv (fun w h=>tree_pair h) ?_
   refine L_conv (fun w h=>tree_pair h) ?_
   refine L_conv (fun w h=>frontPick (Pick.there _ (Pick.here _)) h) ?_
   refine L_conv (fun w h=>tree_pair h) ?_
   refine L_conv (fun w h=>frontPick (Pick.there _ (Pick.here _)) h) ?_
   refine L_conv (fun w h=>tree_pair h) ?_
   refine L_conv (fun w h=>frontPick (Pick.there _ (Pick.here _)) h) ?_
   refine L_conv (fun w h=>tree_pair h) ?_
   refine L_conv (fun w h=>frontPick (Pick.there _ (Pick.here _)) h) ?_
   refine L_conv (fun w h=>tree_pair h) ?_
   refine L_conv (fun w h=>frontPick (Pick.there _ (Pick.here _)) h) ?_
   refine L_conv (fun w h=>tree_pair h) ?_
   refine L_conv (fun w h=>frontPick (Pick.there _ (Pick.here _)) h) ?_
   refine L_conv (fun w h=>tree_pair h) ?_
   refine L_conv (fun w h=>frontPick (Pick.there _ (Pick.here _)) h) ?_
   refine L_call1 rfl fn79.h rfl (Pick.here _) (by exact fun w hw=>markStringS_spec w b68 ((k0+cnts (x1.take i))+13) (by omega) (by omega)) ?_
   rintro v M1 ⟨hv,rfl⟩
   subst hv
   simp only [List.cons_append,List.nil_append]
   refine L_conv (fun w h=>pairPick (Pick.here _) h) ?_
   refine L_conv (fun w h=>pairPick (Pick.here _) h) ?_
   refine L_conv (fun w h=>pairPick (Pick.here _) h) ?_
   refine L_conv (fun w h=>pairPick (Pick.here _) h) ?_
   refine L_conv (fun w h=>pairPick (Pick.here _) h) ?_
   refine L_conv (fun w h=>pairPick (Pick.here _) h) ?_
   refine L_conv (fun w h=>pairPick (Pick.here _) h) ?_
   refine L_conv (fun w h=>pairFront (Pick.here _) h) ?_
   refine L_conv (fun w h=>pairPick (Pick.here _) h) ?_
   refine L_conv (fun w h=>pairPick (Pick.here _) h) ?_
   refine L_conv (fun w h=>pairPick (Pick.here _) h) ?_
   refine L_conv (fun w h=>pairPick (Pick.here _) h) ?_
   refine L_conv (fun w h=>pairPick (Pick.here _) h) ?_
   refine L_conv (M':=treeH (⟨some ⟨g,0,none⟩,c1,e1,(((half k0 i x1).set i (((((k0+cnts (x1.take i)):Nat):Int),((((k0+cnts (x1.take i))+1):Nat):Int),((((k0+cnts (x1.take i))+2):Nat):Int),(((((k0+cnts (x1.take i))+3):Nat):Int),((((k0+cnts (x1.take i))+4):Nat):Int)),((((k0+cnts (x1.take i))+5):Nat):Int),(((((k0+cnts (x1.take i))+6):Nat):Int),((((k0+cnts (x1.take i))+7):Nat):Int),((((k0+cnts (x1.take i))+8):Nat):Int),(mtx ((k0+cnts (x1.take i))+9)),(mtx ((k0+cnts (x1.take i))+10)),(mtx ((k0+cnts (x1.take i))+11)),((((k0+cnts (x1.take i))+12):Nat):Int),b68),b7,b8,b9,b10,b11):T_EMsg)).set i (((((k0+cnts (x1.take i)):Nat):Int),((((k0+cnts (x1.take i))+1):Nat):Int),((((k0+cnts (x1.take i))+2):Nat):Int),(((((k0+cnts (x1.take i))+3):Nat):Int),((((k0+cnts (x1.take i))+4):Nat):Int)),((((k0+cnts (x1.take i))+5):Nat):Int),(((((k0+cnts (x1.take i))+6):Nat):Int),((((k0+cnts (x1.take i))+7):Nat):Int),((((k0+cnts (x1.take i))+8):Nat):Int),(mtx ((k0+cnts (x1.take i))+9)),(mtx ((k0+cnts (x1.take i))+10)),(mtx ((k0+cnts (x1.take i))+11)),((((k0+cnts (x1.take i))+12):Nat):Int),(Mk.mkd ((k0+cnts (x1.take i))+13) b68)),b7,b8,b9,b10,b11):T_EMsg)),y1⟩:TL T_EMsg)::_) (fun w h=>el_in (L:=(⟨some ⟨g,0,none⟩,c1,e1,((half k0 i x1).set i (((((k0+cnts (x1.take i)):Nat):Int),((((k0+cnts (x1.take i))+1):Nat):Int),((((k0+cnts (x1.take i))+2):Nat):Int),(((((k0+cnts (x1.take i))+3):Nat):Int),((((k0+cnts (x1.take i))+4):Nat):Int)),((((k0+cnts (x1.take i))+5):Nat):Int),(((((k0+cnts (x1.take i))+6):Nat):Int),((((k0+cnts (x1.take i))+7):Nat):Int),((((k0+cnts (x1.take i))+8):Nat):Int),(mtx ((k0+cnts (x1.take i))+9)),(mtx ((k0+cnts (x1.take i))+10)),(mtx ((k0+cnts (x1.take i))+11)),((((k0+cnts (x1.take i))+12):Nat):Int),b68),b7,b8,b9,b10,b11):T_EMsg)),y1⟩:TL T_EMsg)) (show (((half k0 i x1).set i (((((k0+cnts (x1.take i)):Nat):Int),((((k0+cnts (x1.take i))+1):Nat):Int),((((k0+cnts (x1.take i))+2):Nat):Int),(((((k0+cnts (x1.take i))+3):Nat):Int),((((k0+cnts (x1.take i))+4):Nat):Int)),((((k0+cnts (x1.take i))+5):Nat):Int),(((((k0+cnts (x1.take i))+6):Nat):Int),((((k0+cnts (x1.take i))+7):Nat):Int),((((k0+cnts (x1.take i))+8):Nat):Int),(mtx ((k0+cnts (x1.take i))+9)),(mtx ((k0+cnts (x1.take i))+10)),(mtx ((k0+cnts (x1.take i))+11)),((((k0+cnts (x1.take i))+12):Nat):Int),b68),b7,b8,b9,b10,b11):T_EMsg)):List T_EMsg)[i]?=some (((((k0+cnts (x1.take i)):Nat):Int),((((k0+cnts (x1.take i))+1):Nat):Int),((((k0+cnts (x1.take i))+2):Nat):Int),(((((k0+cnts (x1.take i))+3):Nat):Int),((((k0+cnts (x1.take i))+4):Nat):Int)),((((k0+cnts (x1.take i))+5):Nat):Int),(((((k0+cnts (x1.take i))+6):Nat):Int),((((k0+cnts (x1.take i))+7):Nat):Int),((((k0+cnts (x1.take i))+8):Nat):Int),(mtx ((k0+cnts (x1.take i))+9)),(mtx ((k0+cnts (x1.take i))+10)),(mtx ((k0+cnts (x1.take i))+11)),((((k0+cnts (x1.take i))+12):Nat):Int),b68),b7,b8,b9,b10,b11):T_EMsg) from set_get (half_get (k:=k0) hu)) (by simp only [cells_pair,cells_mkTL]) h) ?_
   rw [List.set_set]
   refine s7 ?_
   refine L_indexAddr rfl rfl rfl el38.h rfl (by omega) ?_
   refine s1 ?_
   refine L_storeElF (fo:=14) (x':=(((((k0+cnts (x1.take i)):Nat):Int),((((k0+cnts (x1.take i))+1):Nat):Int),((((k0+cnts (x1.take i))+2):Nat):Int),(((((k0+cnts (x1.take i))+3):Nat):Int),((((k0+cnts (x1.take i))+4):Nat):Int)),((((k0+cnts (x1.take i))+5):Nat):Int),(((((k0+cnts (x1.take i))+6):Nat):Int),((((k0+cnts (x1.take i))+7):Nat):Int),((((k0+cnts (x1.take i))+8):Nat):Int),(mtx ((k0+cnts (x1.take i))+9)),(mtx ((k0+cnts (x1.take i))+10)),(mtx ((k0+cnts (x1.take i))+11)),((((k0+cnts (x1.take i))+12):Nat):Int),(Mk.mkd ((k0+cnts (x1.take i))+13) b68)),(((((k0+cnts (x1.take i))+13)+Mk.cnt b68):Nat):Int),b8,b9,b10,b11):T_EMsg)) rfl rfl pk rfl (show (((half k0 i x1).set i (((((k0+cnts (x1.take i)):Nat):Int),((((k0+cnts (x1.take i))+1):Nat):Int),((((k0+cnts (x1.take i))+2):Nat):Int),(((((k0+cnts (x1.take i))+3):Nat):Int),((((k0+cnts (x1.take i))+4):Nat):Int)),((((k0+cnts (x1.take i))+5):Nat):Int),(((((k0+cnts (x1.take i))+6):Nat):Int),((((k0+cnts (x1.take i))+7):Nat):Int),((((k0+cnts (x1.take i))+8):Nat):Int),(mtx ((k0+cnts (x1.take i))+9)),(mtx ((k0+cnts (x1.take i))+10)),(mtx ((k0+cnts (x1.take i))+11)),((((k0+cnts (x1.take i))+12):Nat):Int),(Mk.mkd ((k0+cnts (x1.take i))+13) b68)),b7,b8,b9,b10,b11):T_EMsg)):List T_EMsg)[i]?=some (((((k0+cnts (x1.take i)):Nat):Int),((((k0+cnts (x1.take i))+1):Nat):Int),((((k0+cnts (x1.take i))+2):Nat):Int),(((((k0+cnts (x1.take i))+3):Nat):Int),((((k0+cnts (x1.take i))+4):Nat):Int)),((((k0+cnts (x1.take i))+5):Nat):Int),(((((k0+cnts (x1.take i))+6):Nat):Int),((((k0+cnts (x1.take i))+7):Nat):Int),((((k0+cnts (x1.take i))+8):Nat):Int),(mtx ((k0+cnts (x1.take i))+9)),(mtx ((k0+cnts (x1.take i))+10)),(mtx ((k0+cnts (x1.take i))+11)),((((k0+cnts (x1.take i))+12):Nat):Int),(Mk.mkd ((k0+cnts (x1.take i))+13) b68)),b7,b8,b9,b10,b11):T_EMsg) from set_get (half_get (k:=k0) hu)) rfl rfl (by decide) rfl (fun w h=>by exact ⟨h.1,h.2.1,h.2.2.1,⟨h.2.2.2.1.1,h.2.2.2.1.2⟩,h.2.2.2.2.1,⟨h.2.2.2.2.2.1.1,h.2.2.2.2.2.1.2.1,h.2.2.2.2.2.1.2.2.1,h.2.2.2.2.2.1.2.2.2.1,h.2.2.2.2.2.1.2.2.2.2.1,h.2.2.2.2.2.1.2.2.2.2.2.1,h.2.2.2.2.2.1.2.2.2.2.2.2.1,h.2.2.2.2.2.1.2.2.2.2.2.2.2⟩,(by exact trivial),h.2.2.2.2.2.2.2.1,h.2.2.2.2.2.2.2.2.1,h.2.2.2.2.2.2.2.2.2.1,h.2.2.2.2.2.2.2.2.2.2⟩) one3.h ?_
   rw [List.set_set]
   refine s4 ?_
   refine L_binV rfl rfl rfl (bv_addR (by unfold inR;omega)) ?_
   refine s2 ?_
   rw [show (((((k0+cnts (x1.take i))+13)+Mk.cnt b68):Nat):Int)+1=((((((k0+cnts (x1.take i))+13)+Mk.cnt b68)+1):Nat):Int) from rfl]
   refine s4 ?_
   refine L_indexAddr rfl rfl rfl el38.h rfl (by omega) ?_
   refine s1 ?_
   refine L_load rfl rfl (by exact RdC.el (L:=(⟨some ⟨g,0,none⟩,c1,e1,((half k0 i x1).set i (((((k0+cnts (x1.take i)):Nat):Int),((((k0+cnts (x1.take i))+1):Nat):Int),((((k0+cnts (x1.take i))+2):Nat):Int),(((((k0+cnts (x1.take i))+3):Nat):Int),((((k0+cnts (x1.take i))+4):Nat):Int)),((((k0+cnts (x1.take i))+5):Nat):Int),(((((k0+cnts (x1.take i))+6):Nat):Int),((((k0+cnts (x1.take i))+7):Nat):Int),((((k0+cnts (x1.take i))+8):Nat):Int),(mtx ((k0+cnts (x1.take i))+9)),(mtx ((k0+cnts (x1.take i))+10)),(mtx ((k0+cnts (x1.take i))+11)),((((k0+cnts (x1.take i))+12):Nat):Int),(Mk.mkd ((k0+cnts (x1.take i))+13) b68)),(((((k0+cnts (x1.take i))+13)+Mk.cnt b68):Nat):Int),b8,b9,b10,b11):T_EMsg)),y1⟩:TL T_EMsg)) mm rfl (show (((half k0 i x1).set i (((((k0+cnts (x1.take i)):Nat):Int),((((k0+cnts (x1.take i))+1):Nat):Int),((((k0+cnts (x1.take i))+2):Nat):Int),(((((k0+cnts (x1.take i))+3):Nat):Int),((((k0+cnts (x1.take i))+4):Nat):Int)),((((k0+cnts (x1.take i))+5):Nat):Int),(((((k0+cnts (x1.take i))+6):Nat):Int),((((k0+cnts (x1.take i))+7):Nat):Int),((((k0+cnts (x1.take i))+8):Nat):Int),(mtx ((k0+cnts (x1.take i))+9)),(mtx ((k0+cnts (x1.take i))+10)),(mtx ((k0+cnts (x1.take i))+11)),((((k0+cnts (x1.take i))+12):Nat):Int),(Mk.mkd ((k0+cnts (x1.take i))+13) b68)),(((((k0+cnts (x1.take i))+13)+Mk.cnt b68):Nat):Int),b8,b9,b10,b11):T_EMsg)):List T_EMsg)[i]?=some (((((k0+cnts (x1.take i)):Nat):Int),((((k0+cnts (x1.take i))+1):Nat):Int),((((k0+cnts (x1.take i))+2):Nat):Int),(((((k0+cnts (x1.take i))+3):Nat):Int),((((k0+cnts (x1.take i))+4):Nat):Int)),((((k0+cnts (x1.take i))+5):Nat):Int),(((((k0+cnts (x1.take i))+6):Nat):Int),((((k0+cnts (x1.take i))+7):Nat):Int),((((k0+cnts (x1.take i))+8):Nat):Int),(mtx ((k0+cnts (x1.take i))+9)),(mtx ((k0+cnts (x1.take i))+10)),(mtx ((k0+cnts (x1.take i))+11)),((((k0+cnts (x1.take i))+12):Nat):Int),(Mk.mkd ((k0+cnts (x1.take i))+13) b68)),(((((k0+cnts (x1.take i))+13)+Mk.cnt b68):Nat):Int),b8,b9,b10,b11):T_EMsg) from set_get (half_get (k:=k0) hu))) one33.h rfl ?_
   refine s1 ?_
   refine L_conv (fun w h=>el_out (L:=(⟨some ⟨g,0,none⟩,c1,e1,((half k0 i x1).set i (((((k0+cnts (x1.take i)):Nat):Int),((((k0+cnts (x1.take i))+1):Nat):Int),((((k0+cnts (x1.take i))+2):Nat):Int),(((((k0+cnts (x1.take i))+3):Nat):Int),((((k0+cnts (x1.take i))+4):Nat):Int)),((((k0+cnts (x1.take i))+5):Nat):Int),(((((k0+cnts (x1.take i))+6):Nat):Int),((((k0+cnts (x1.take i))+7):Nat):Int),((((k0+cnts (x1.take i))+8):Nat):Int),(mtx ((k0+cnts (x1.take i))+9)),(mtx ((k0+cnts (x1.take i))+10)),(mtx ((k0+cnts (x1.take i))+11)),((((k0+cnts (x1.take i))+12):Nat):Int),(Mk.mkd ((k0+cnts (x1.take i))+13) b68)),(((((k0+cnts (x1.take i))+13)+Mk.cnt b68):Nat):Int),b8,b9,b10,b11):T_EMsg)),y1⟩:TL T_EMsg)) (show (((half k0 i x1).set i (((((k0+cnts (x1.take i)):Nat):Int),((((k0+cnts (x1.take i))+1):Nat):Int),((((k0+cnts (x1.take i))+2):Nat):Int),(((((k0+cnts (x1.take i))+3):Nat):Int),((((k0+cnts (x1.take i))+4):Nat):Int)),((((k0+cnts (x1.take i))+5):Nat):Int),(((((k0+cnts (x1.take i))+6):Nat):Int),((((k0+cnts (x1.take i))+7):Nat):Int),((((k0+cnts (x1.take i))+8):Nat):Int),(mtx ((k0+cnts (x1.take i))+9)),(mtx ((k0+cnts (x1.take i))+10)),(mtx ((k0+cnts (x1.take i))+11)),((((k0+cnts (x1.take i))+12):Nat):Int),(Mk.mkd ((k0+cnts (x1.take i))+13) b68)),(((((k0+cnts (x1.take i))+13)+Mk.cnt b68):Nat):Int),b8,b9,b10,b11):T_EMsg)):List T_EMsg)[i]?=some (((((k0+cnts (x1.take i)):Nat):Int),((((k0+cnts (x1.take i))+1):Nat):Int),((((k0+cnts (x1.take i))+2):Nat):Int),(((((k0+cnts (x1.take i))+3):Nat):Int),((((k0+cnts (x1.take i))+4):Nat):Int)),((((k0+cnts (x1.take i))+5):Nat):Int),(((((k0+cnts (x1.take i))+6):Nat):Int),((((k0+cnts (x1.take i))+7):Nat):Int),((((k0+cnts (x1.take i))+8):Nat):Int),(mtx ((k0+cnts (x1.take i))+9)),(mtx ((k0+cnts (x1.take i))+10)),(mtx ((k0+cnts (x1.take i))+11)),((((k0+cnts (x1.take i))+12):Nat):Int),(Mk.mkd ((k0+cnts (x1.take i))+13) b68)),(((((k0+cnts (x1.take i))+13)+Mk.cnt b68):Nat):Int),b8,b9,b10,b11):T_EMsg) from set_get (half_get (k:=k0) hu)) (frontPick pk h)) ?_
   refine L_conv (fun w h=>tree_pair h) ?_
   refine L_conv (fun w h=>frontPick (Pick.there _ (Pick.here _)) h) ?_
   refine L_conv (fun w h=>tree_pair h) ?_
   refine L_conv (fun w h=>frontPick (Pick.there _ (Pick.here _)) h) ?_
   refine L_conv (fun w h=>tree_pair h) ?_
   refine L_conv (fun w h=>frontPick (Pick.there _ (Pick.here _)) h) ?_
   refine L_conv (fun w h=>tree_pair h) ?_
   refine L_conv (fun w h=>frontPick (Pick.there _ (Pick.here _)) h) ?_
   refine L_conv (fun w h=>tree_pair h) ?_
   refine L_conv (fun w h=>frontPick (Pick.there _ (Pick.here _)) h) ?_
   refine L_conv (fun w h=>tree_pair h) ?_
   refine L_conv (fun w h=>frontPick (Pick.there _ (Pick.here _)) h) ?_
   refine L_conv (fun w h=>tree_pair h) ?_
   refine L_conv (fun w h=>frontPick (Pick.there _ (Pick.here _)) h) ?_
   refine L_conv (fun w h=>tree_pair h) ?_
   refine L_call1 rfl fn80.h rfl (Pick.here _) (by exact fun w hw=>markIdS_spec w b8 ((((k0+cnts (x1.take i))+13)+Mk.cnt b68)+1) (by omega) (by omega)) ?_
   rintro v M1 ⟨hv,rfl⟩
   subst hv
   simp only [List.cons_append,List.nil_append]
   refine L_conv (fun w h=>pairFront (Pick.here _) h) ?_
   refine L_conv (fun w h=>pairPick (Pick.here _) h) ?_
   refine L_conv (fun w h=>pairPick (Pick.here _) h) ?_
   refine L_conv (fun w h=>pairPick (Pick.here _) h) ?_
   refine L_conv (fun w h=>pairPick (Pick.here _) h) ?_
   refine L_conv (fun w h=>pairPick (Pick.here _) h) ?_
   refine L_conv (fun w h=>pairPick (Pick.here _) h) ?_
   refine L_conv (fun w h=>pairPick (Pick.here _) h) ?_
   refine L_conv (M':=treeH (⟨some ⟨g,0,none⟩,c1,e1,(((half k0 i x1).set i (((((k0+cnts (x1.take i)):Nat):Int),((((k0+cnts (x1.take i))+1):Nat):Int),((((k0+cnts (x1.take i))+2):Nat):Int),(((((k0+cnts (x1.take i))+3):Nat):Int),((((k0+cnts (x1.take i))+4):Nat):Int)),((((k0+cnts (x1.take i))+5):Nat):Int),(((((k0+cnts (x1.take i))+6):Nat):Int),((((k0+cnts (x1.take i))+7):Nat):Int),((((k0+cnts (x1.take i))+8):Nat):Int),(mtx ((k0+cnts (x1.take i))+9)),(mtx ((k0+cnts (x1.take i))+10)),(mtx ((k0+cnts (x1.take i))+11)),((((k0+cnts (x1.take i))+12):Nat):Int),(Mk.mkd ((k0+cnts (x1.take i))+13) b68)),(((((k0+cnts (x1.take i))+13)+Mk.cnt b68):Nat):Int),b8,b9,b10,b11):T_EMsg)).set i (((((k0+cnts (x1.take i)):Nat):Int),((((k0+cnts (x1.take i))+1):Nat):Int),((((k0+cnts (x1.take i))+2):Nat):Int),(((((k0+cnts (x1.take i))+3):Nat):Int),((((k0+cnts (x1.take i))+4):Nat):Int)),((((k0+cnts (x1.take i))+5):Nat):Int),(((((k0+cnts (x1.take i))+6):Nat):Int),((((k0+cnts (x1.take i))+7):Nat):Int),((((k0+cnts (x1.take i))+8):Nat):Int),(mtx ((k0+cnts (x1.take i))+9)),(mtx ((k0+cnts (x1.take i))+10)),(mtx ((k0+cnts (x1.take i))+11)),((((k0+cnts (x1.take i))+12):Nat):Int),(Mk.mkd ((k0+cnts (x1.take i))+13) b68)),(((((k0+cnts (x1.take i))+13)+Mk.cnt b68):Nat):Int),(Mk.mkd ((((k0+cnts (x1.take i))+13)+Mk.cnt b68)+1) b8),b9,b10,b11):T_EMsg)),y1⟩:TL T_EMsg)::_) (fun w h=>el_in (L:=(⟨some ⟨g,0,none⟩,c1,e1,((half k0 i x1).set i (((((k0+cnts (x1.take i)):Nat):Int),((((k0+cnts (x1.take i))+1):Nat):Int),((((k0+cnts (x1.take i))+2):Nat):Int),(((((k0+cnts (x1.take i))+3):Nat):Int),((((k0+cnts (x1.take i))+4):Nat):Int)),((((k0+cnts (x1.take i))+5):Nat):Int),(((((k0+cnts (x1.take i))+6):Nat):Int),((((k0+cnts (x1.take i))+7):Nat):Int),((((k0+cnts (x1.take i))+8):Nat):Int),(mtx ((k0+cnts (x1.take i))+9)),(mtx ((k0+cnts (x1.take i))+10)),(mtx ((k0+cnts (x1.take i))+11)),((((k0+cnts (x1.take i))+12):Nat):Int),(Mk.mkd ((k0+cnts (x1.take i))+13) b68)),(((((k0+cnts (x1.take i))+13)+Mk.cnt b68):Nat):Int),b8,b9,b10,b11):T_EMsg)),y1⟩:TL T_EMsg)) (show (((half k0 i x1).set i (((((k0+cnts (x1.take i)):Nat):Int),((((k0+cnts (x1.take i))+1):Nat):Int),((((k0+cnts (x1.take i))+2):Nat):Int),(((((k0+cnts (x1.take i))+3):Nat):Int),((((k0+cnts (x1.take i))+4):Nat):Int)),((((k0+cnts (x1.take i))+5):Nat):Int),(((((k0+cnts (x1.take i))+6):Nat):Int),((((k0+cnts (x1.take i))+7):Nat):Int),((((k0+cnts (x1.take i))+8):Nat):Int),(mtx ((k0+cnts (x1.take i))+9)),(mtx ((k0+cnts (x1.take i))+10)),(mtx ((k0+cnts (x1.take i))+11)),((((k0+cnts (x1.take i))+12):Nat):Int),(Mk.mkd ((k0+cnts (x1.take i))+13) b68)),(((((k0+cnts (x1.take i))+13)+Mk.cnt b68):Nat):Int),b8,b9,b10,b11):T_EMsg)):List T_EMsg)[i]?=some (((((k0+cnts (x1.take i)):Nat):Int),((((k0+cnts (x1.take i))+1):Nat):Int),((((k0+cnts (x1.take i))+2):Nat):Int),(((((k0+cnts (x1.take i))+3):Nat):Int),((((k0+cnts (x1.take i))+4):Nat):Int)),((((k0+cnts (x1.take i))+5):Nat):Int),(((((k0+cnts (x1.take i))+6):Nat):Int),((((k0+cnts (x1.take i))+7):Nat):Int),((((k0+cnts (x1.take i))+8):Nat):Int),(mtx ((k0+cnts (x1.take i))+9)),(mtx ((k0+cnts (x1.take i))+10)),(mtx ((k0+cnts (x1.take i))+11)),((((k0+cnts (x1.take i))+12):Nat):Int),(Mk.mkd ((k0+cnts (x1.take i))+13) b68)),(((((k0+cnts (x1.take i))+13)+Mk.cnt b68):Nat):Int),b8,b9,b10,b11):T_EMsg) from set_get (half_get (k:=k0) hu)) (by simp only [cells_pair,cells_mkTL]) h) ?_
   rw [List.set_set]
   refine s7 ?_
   refine L_indexAddr rfl rfl rfl el38.h rfl (by omega) ?_
   refine s1 ?_
   refine L_storeElF (fo:=16) (x':=(((((k0+cnts (x1.take i)):Nat):Int),((((k0+cnts (x1.take i))+1):Nat):Int),((((k0+cnts (x1.take i))+2):Nat):Int),(((((k0+cnts (x1.take i))+3):Nat):Int),((((k0+cnts (x1.take i))+4):Nat):Int)),((((k0+cnts (x1.take i))+5):Nat):Int),(((((k0+cnts (x1.take i))+6):Nat):Int),((((k0+cnts (x1.take i))+7):Nat):Int),((((k0+cnts (x1.take i))+8):Nat):Int),(mtx ((k0+cnts (x1.take i))+9)),(mtx ((k0+cnts (x1.take i))+10)),(mtx ((k0+cnts (x1.take i))+11)),((((k0+cnts (x1.take i))+12):Nat):Int),(Mk.mkd ((k0+cnts (x1.take i))+13) b68)),(((((k0+cnts (x1.take i))+13)+Mk.cnt b68):Nat):Int),(Mk.mkd ((((k0+cnts (x1.take i))+13)+Mk.cnt b68)+1) b8),(((((((k0+cnts (x1.take i))+13)+Mk.cnt b68)+1)+Mk.cnt b8):Nat):Int),b10,b11):T_EMsg)) rfl rfl pk rfl (show (((half k0 i x1).set i (((((k0+cnts (x1.take i)):Nat):Int),((((k0+cnts (x1.take i))+1):Nat):Int),((((k0+cnts (x1.take i))+2):Nat):Int),(((((k0+cnts (x1.take i))+3):Nat):Int),((((k0+cnts (x1.take i))+4):Nat):Int)),((((k0+cnts (x1.take i))+5):Nat):Int),(((((k0+cnts (x1.take i))+6):Nat):Int),((((k0+cnts (x1.take i))+7):Nat):Int),((((k0+cnts (x1.take i))+8):Nat):Int),(mtx ((k0+cnts (x1.take i))+9)),(mtx ((k0+cnts (x1.take i))+10)),(mtx ((k0+cnts (x1.take i))+11)),((((k0+cnts (x1.take i))+12):Nat):Int),(Mk.mkd ((k0+cnts (x1.take i))+13) b68)),(((((k0+cnts (x1.take i))+13)+Mk.cnt b68):Nat):Int),(Mk.mkd ((((k0+cnts (x1.take i))+13)+Mk.cnt b68)+1) b8),b9,b10,b11):T_EMsg)):List T_EMsg)[i]?=some (((((k0+cnts (x1.take i)):Nat):Int),((((k0+cnts (x1.take i))+1):Nat):Int),((((k0+cnts (x1.take i))+2):Nat):Int),(((((k0+cnts (x1.take i))+3):Nat):Int),((((k0+cnts (x1.take i))+4):Nat):Int)),((((k0+cnts (x1.take i))+5):Nat):Int),(((((k0+cnts (x1.take i))+6):Nat):Int),((((k0+cnts (x1.take i))+7):Nat):Int),((((k0+cnts (x1.take i))+8):Nat):Int),(mtx ((k0+cnts (x1.take i))+9)),(mtx ((k0+cnts (x1.take i))+10)),(mtx ((k0+cnts (x1.take i))+11)),((((k0+cnts (x1.take i))+12):Nat):Int),(Mk.mkd ((k0+cnts (x1.take i))+13) b68)),(((((k0+cnts (x1.take i))+13)+Mk.cnt b68):Nat):Int),(Mk.mkd ((((k0+cnts (x1.take i))+13)+Mk.cnt b68)+1) b8),b9,b10,b11):T_EMsg) from set_get (half_get (k:=k0) hu)) rfl rfl (by decide) rfl (fun w h=>by exact ⟨h.1,h.2.1,h.2.2.1,⟨h.2.2.2.1.1,h.2.2.2.1.2⟩,h.2.2.2.2.1,⟨h.2.2.2.2.2.1.1,h.2.2.2.2.2.1.2.1,h.2.2.2.2.2.1.2.2.1,h.2.2.2.2.2.1.2.2.2.1,h.2.2.2.2.2.1.2.2.2.2.1,h.2.2.2.2.2.1.2.2.2.2.2.1,h.2.2.2.2.2.1.2.2.2.2.2.2.1,h.2.2.2.2.2.1.2.2.2.2.2.2.2⟩,h.2.2.2.2.2.2.1,h.2.2.2.2.2.2.2.1,(by exact trivial),h.2.2.2.2.2.2.2.2.2.1,h.2.2.2.2.2.2.2.2.2.2⟩) one3.h ?_
   rw [List.set_set]
   refine s4 ?_
   refine L_binV rfl rfl rfl (bv_addR (by unfold inR;omega)) ?_
   refine s2 ?_
   rw [show (((((((k0+cnts (x1.take i))+13)+Mk.cnt b68)+1)+Mk.cnt b8):Nat):Int)+1=((((((((k0+cnts (x1.take i))+13)+Mk.cnt b68)+1)+Mk.cnt b8)+1):Nat):Int) from rfl]
   refine s5 ?_
   refine L_indexAddr rfl rfl rfl el38.h rfl (by omega) ?_
   refine s1 ?_
   refine L_storeElF (fo:=17) (x':=(((((k0+cnts (x1.take i)):Nat):Int),((((k0+cnts (x1.take i))+1):Nat):Int),((((k0+cnts (x1.take i))+2):Nat):Int),(((((k0+cnts (x1.take i))+3):Nat):Int),((((k0+cnts (x1.take i))+4):Nat):Int)),((((k0+cnts (x1.take i))+5):Nat):Int),(((((k0+cnts (x1.take i))+6):Nat):Int),((((k0+cnts (x1.take i))+7):Nat):Int),((((k0+cnts (x1.take i))+8):Nat):Int),(mtx ((k0+cnts (x1.take i))+9)),(mtx ((k0+cnts (x1.take i))+10)),(mtx ((k0+cnts (x1.take i))+11)),((((k0+cnts (x1.take i))+12):Nat):Int),(Mk.mkd ((k0+cnts (x1.take i))+13) b68)),(((((k0+cnts (x1.take i))+13)+Mk.cnt b68):Nat):Int),(Mk.mkd ((((k0+cnts (x1.take i))+13)+Mk.cnt b68)+1) b8),(((((((k0+cnts (x1.take i))+13)+Mk.cnt b68)+1)+Mk.cnt b8):Nat):Int),((((((((k0+cnts (x1.take i))+13)+Mk.cnt b68)+1)+Mk.cnt b8)+1):Nat):Int),b11):T_EMsg)) rfl rfl pk rfl (show (((half k0 i x1).set i (((((k0+cnts (x1.take i)):Nat):Int),((((k0+cnts (x1.take i))+1):Nat):Int),((((k0+cnts (x1.take i))+2):Nat):Int),(((((k0+cnts (x1.take i))+3):Nat):Int),((((k0+cnts (x1.take i))+4):Nat):Int)),((((k0+cnts (x1.take i))+5):Nat):Int),(((((k0+cnts (x1.take i))+6):Nat):Int),((((k0+cnts (x1.take i))+7):Nat):Int),((((k0+cnts (x1.take i))+8):Nat):Int),(mtx ((k0+cnts (x1.take i))+9)),(mtx ((k0+cnts (x1.take i))+10)),(mtx ((k0+cnts (x1.take i))+11)),((((k0+cnts (x1.take i))+12):Nat):Int),(Mk.mkd ((k0+cnts (x1.take i))+13) b68)),(((((k0+cnts (x1.take i))+13)+Mk.cnt b68):Nat):Int),(Mk.mkd ((((k0+cnts (x1.take i))+13)+Mk.cnt b68)+1) b8),(((((((k0+cnts (x1.take i))+13)+Mk.cnt b68)+1)+Mk.cnt b8):Nat):Int),b10,b11):T_EMsg)):List T_EMsg)[i]?=some (((((k0+cnts (x1.take i)):Nat):Int),((((k0+cnts (x1.take i))+1):Nat):Int),((((k0+cnts (x1.take i))+2):Nat):Int),(((((k0+cnts (x1.take i))+3):Nat):Int),((((k0+cnts (x1.take i))+4):Nat):Int)),((((k0+cnts (x1.take i))+5):Nat):Int),(((((k0+cnts (x1.take i))+6):Nat):Int),((((k0+cnts (x1.take i))+7):Nat):Int),((((k0+cnts (x1.take i))+8):Nat):Int),(mtx ((k0+cnts (x1.take i))+9)),(mtx ((k0+cnts (x1.take i))+10)),(mtx ((k0+cnts (x1.take i))+11)),((((k0+cnts (x1.take i))+12):Nat):Int),(Mk.mkd ((k0+cnts (x1.take i))+13) b68)),(((((k0+cnts (x1.take i))+13)+Mk.cnt b68):Nat):Int),(Mk.mkd ((((k0+cnts (x1.take i))+13)+Mk.cnt b68)+1) b8),(((((((k0+cnts (x1.take i))+13)+Mk.cnt b68)+1)+Mk.cnt b8):Nat):Int),b10,b11):T_EMsg) from set_get (half_get (k:=k0) hu)) rfl rfl (by decide) rfl (fun w h=>by exact ⟨h.1,h.2.1,h.2.2.1,⟨h.2.2.2.1.1,h.2.2.2.1.2⟩,h.2.2.2.2.1,⟨h.2.2.2.2.2.1.1,h.2.2.2.2.2.1.2.1,h.2.2.2.2.2.1.2.2.1,h.2.2.2.2.2.1.2.2.2.1,h.2.2.2.2.2.1.2.2.2.2.1,h.2.2.2.2.2.1.2.2.2.2.2.1,h.2.2.2.2.2.1.2.2.2.2.2.2.1,h.2.2.2.2.2.1.2.2.2.2.2.2.2⟩,h.2.2.2.2.2.2.1,h.2.2.2.2.2.2.2.1,h.2.2.2.2.2.2.2.2.1,(by exact trivial),h.2.2.2.2.2.2.2.2.2.2⟩) one3.h ?_
   rw [List.set_set]
   refine s4 ?_
   refine L_binV rfl rfl rfl (bv_addR (by unfold inR;omega)) ?_
   refine s2 ?_
   rw [show ((((((((k0+cnts (x1.take i))+13)+Mk.cnt b68)+1)+Mk.cnt b8)+1):Nat):Int)+1=((((((((k0+cnts (x1.take i))+13)+Mk.cnt b68)+1)+Mk.cnt b8)+2):Nat):Int) from rfl]
   refine s5 ?_
   refine L_binV rfl rfl rfl (bv_rem (by omega)) ?_
   refine s1 ?_
   refine L_indexAddr rfl rfl rfl el38.h rfl (by omega) ?_
   refine s1 ?_
   refine L_storeElF (fo:=18) (x':=(((((k0+cnts (x1.take i)):Nat):Int),((((k0+cnts (x1.take i))+1):Nat):Int),((((k0+cnts (x1.take i))+2):Nat):Int),(((((k0+cnts (x1.take i))+3):Nat):Int),((((k0+cnts (x1.take i))+4):Nat):Int)),((((k0+cnts (x1.take i))+5):Nat):Int),(((((k0+cnts (x1.take i))+6):Nat):Int),((((k0+cnts (x1.take i))+7):Nat):Int),((((k0+cnts (x1.take i))+8):Nat):Int),(mtx ((k0+cnts (x1.take i))+9)),(mtx ((k0+cnts (x1.take i))+10)),(mtx ((k0+cnts (x1.take i))+11)),((((k0+cnts (x1.take i))+12):Nat):Int),(Mk.mkd ((k0+cnts (x1.take i))+13) b68)),(((((k0+cnts (x1.take i))+13)+Mk.cnt b68):Nat):Int),(Mk.mkd ((((k0+cnts (x1.take i))+13)+Mk.cnt b68)+1) b8),(((((((k0+cnts (x1.take i))+13)+Mk.cnt b68)+1)+Mk.cnt b8):Nat):Int),((((((((k0+cnts (x1.take i))+13)+Mk.cnt b68)+1)+Mk.cnt b8)+1):Nat):Int),(decide (((((((((k0+cnts (x1.take i))+13)+Mk.cnt b68)+1)+Mk.cnt b8)+2):Nat):Int).tmod 3=0))):T_EMsg)) rfl rfl pk rfl (show (((half k0 i x1).set i (((((k0+cnts (x1.take i)):Nat):Int),((((k0+cnts (x1.take i))+1):Nat):Int),((((k0+cnts (x1.take i))+2):Nat):Int),(((((k0+cnts (x1.take i))+3):Nat):Int),((((k0+cnts (x1.take i))+4):Nat):Int)),((((k0+cnts (x1.take i))+5):Nat):Int),(((((k0+cnts (x1.take i))+6):Nat):Int),((((k0+cnts (x1.take i))+7):Nat):Int),((((k0+cnts (x1.take i))+8):Nat):Int),(mtx ((k0+cnts (x1.take i))+9)),(mtx ((k0+cnts (x1.take i))+10)),(mtx ((k0+cnts (x1.take i))+11)),((((k0+cnts (x1.take i))+12):Nat):Int),(Mk.mkd ((k0+cnts (x1.take i))+13) b68)),(((((k0+cnts (x1.take i))+13)+Mk.cnt b68):Nat):Int),(Mk.mkd ((((k0+cnts (x1.take i))+13)+Mk.cnt b68)+1) b8),(((((((k0+cnts (x1.take i))+13)+Mk.cnt b68)+1)+Mk.cnt b8):Nat):Int),((((((((k0+cnts (x1.take i))+13)+Mk.cnt b68)+1)+Mk.cnt b8)+1):Nat):Int),b11):T_EMsg)):List T_EMsg)[i]?=some (((((k0+cnts (x1.take i)):Nat):Int),((((k0+cnts (x1.take i))+1):Nat):Int),((((k0+cnts (x1.take i))+2):Nat):Int),(((((k0+cnts (x1.take i))+3):Nat):Int),((((k0+cnts (x1.take i))+4):Nat):Int)),((((k0+cnts (x1.take i))+5):Nat):Int),(((((k0+cnts (x1.take i))+6):Nat):Int),((((k0+cnts (x1.take i))+7):Nat):Int),((((k0+cnts (x1.take i))+8):Nat):Int),(mtx ((k0+cnts (x1.take i))+9)),(mtx ((k0+cnts (x1.take i))+10)),(mtx ((k0+cnts (x1.take i))+11)),((((k0+cnts (x1.take i))+12):Nat):Int),(Mk.mkd ((k0+cnts (x1.take i))+13) b68)),(((((k0+cnts (x1.take i))+13)+Mk.cnt b68):Nat):Int),(Mk.mkd ((((k0+cnts (x1.take i))+13)+Mk.cnt b68)+1) b8),(((((((k0+cnts (x1.take i))+13)+Mk.cnt b68)+1)+Mk.cnt b8):Nat):Int),((((((((k0+cnts (x1.take i))+13)+Mk.cnt b68)+1)+Mk.cnt b8)+1):Nat):Int),b11):T_EMsg) from set_get (half_get (k:=k0) hu)) rfl rfl (by decide) rfl (fun w h=>by exact ⟨h.1,h.2.1,h.2.2.1,⟨h.2.2.2.1.1,h.2.2.2.1.2⟩,h.2.2.2.2.1,⟨h.2.2.2.2.2.1.1,h.2.2.2.2.2.1.2.1,h.2.2.2.2.2.1.2.2.1,h.2.2.2.2.2.1.2.2.2.1,h.2.2.2.2.2.1.2.2.2.2.1,h.2.2.2.2.2.1.2.2.2.2.2.1,h.2.2.2.2.2.1.2.2.2.2.2.2.1,h.2.2.2.2.2.1.2.2.2.2.2.2.2⟩,h.2.2.2.2.2.2.1,h.2.2.2.2.2.2.2.1,h.2.2.2.2.2.2.2.2.1,h.2.2.2.2.2.2.2.2.2.1,(by exact trivial)⟩) one4.h ?_
   rw [List.set_set]
   refine s3 ?_
   refine L_binV rfl rfl rfl (bv_addR (by unfold inR;omega)) ?_
   refine s2 ?_
   rw [show ((((((((k0+cnts (x1.take i))+13)+Mk.cnt b68)+1)+Mk.cnt b8)+2):Nat):Int)+1=((((((((k0+cnts (x1.take i))+13)+Mk.cnt b68)+1)+Mk.cnt b8)+3):Nat):Int) from rfl]
   have hfin:((half k0 i x1).set i (((((k0+cnts (x1.take i)):Nat):Int),((((k0+cnts (x1.take i))+1):Nat):Int),((((k0+cnts (x1.take i))+2):Nat):Int),(((((k0+cnts (x1.take i))+3):Nat):Int),((((k0+cnts (x1.take i))+4):Nat):Int)),((((k0+cnts (x1.take i))+5):Nat):Int),(((((k0+cnts (x1.take i))+6):Nat):Int),((((k0+cnts (x1.take i))+7):Nat):Int),((((k0+cnts (x1.take i))+8):Nat):Int),(mtx ((k0+cnts (x1.take i))+9)),(mtx ((k0+cnts (x1.take i))+10)),(mtx ((k0+cnts (x1.take i))+11)),((((k0+cnts (x1.take i))+12):Nat):Int),(Mk.mkd ((k0+cnts (x1.take i))+13) b68)),(((((k0+cnts (x1.take i))+13)+Mk.cnt b68):Nat):Int),(Mk.mkd ((((k0+cnts (x1.take i))+13)+Mk.cnt b68)+1) b8),(((((((k0+cnts (x1.take i))+13)+Mk.cnt b68)+1)+Mk.cnt b8):Nat):Int),((((((((k0+cnts (x1.take i))+13)+Mk.cnt b68)+1)+Mk.cnt b8)+1):Nat):Int),(decide (((((((((k0+cnts (x1.take i))+13)+Mk.cnt b68)+1)+Mk.cnt b8)+2):Nat):Int).tmod 3=0))):T_EMsg))=half k0 (i+1) x1:=by
    have h9:=half_set (k:=k0) hu
    try simp only [mk_pair,mk_int,mk_str,mk_bool,cnt_pair,cnt_int,cnt_str,cnt_bool,← Nat.add_assoc] at h9
    try simp only [List.set_set]
    exact h9
   refine W_conv (M':=treeH (⟨some ⟨g,0,none⟩,c1,e1,(half k0 (i+1) x1),y1⟩:TL T_EMsg)::_) (fun w h=>by rw [← hfin];exact h) ?_
   have hE:((((((k0+cnts (x1.take i))+13)+Mk.cnt b68)+1)+Mk.cnt b8)+3)=k0+cnts (x1.take (i+1)):=by rw [hs];(try simp only [cnt_pair,cnt_int,cnt_str,cnt_bool]);omega
   rw [hE]
   refine s2 ?_
   refine L_binV rfl rfl rfl (bv_addR (by unfold inR;omega)) ?_
   refine s2 ?_
   refine ⟨i+1,sb,ms,?_,?_⟩
   ·show i+1≤x1.length
    omega
   ·show x1.length - (i+1) < x1.length - i
    omega
  ·refine W_exit ?_
   refine s6 ?_
   have hk2:x1.length≤i:=by simpa using q2
   rw [half_all k0 hk2]
   refine res1 rfl (ResOK.tmp rfl) ⟨?_,rfl⟩ ms
   have hk2:x1.length≤i:=by simpa using q2
   rw [List.take_of_length_le hk2];rfl
set_option maxHeartbeats 4000000 in
theorem heldEMsgS_spec (w:World) (t1:TL T_EMsg) (k0:Nat) (hk0:0 < k0) (hb:k0+Mk.cnt t1 < 9223372036854775807) (h1:GT.rd w [] (Mk.mkd k0 t1)):Spec Tryz.prog 28 [(Mk.mkd k0 t1).hdr,.int .i64 (k0:Int)].toArray w [] (IsV (.int .i64 ((k0+Mk.cnt t1:Nat):Int))):=by
 obtain ⟨a1,c1,e1,x1,y1⟩:=t1
 replace hb:k0+cnts x1 < 9223372036854775807:=hb
 have hml:=mks_length x1 k0
 have hm1:(mks k0 x1).length≤9223372036854775807:=rd_len h1
 rw [mk_TL] at h1 ⊢
 dsimp only [TL.hdr]
 refine Spec.intro Tryz.func28 rfl Tryz.ntmps28 rfl ?_
 refine s10 ?_
 refine W_loopC (σ:=Nat) 0 (fun (i:Nat)=>[(1,.int .i64 ((k0+cnts (x1.take i):Nat):Int)),(5,.int .i64 (i:Int))]) (fun (i:Nat)=>[]) (fun (i:Nat)=>i≤x1.length) (fun (i:Nat)=>x1.length - i) [(0,_)] [] ?_ sb ms ?_
 ·exact Nat.zero_le _
 ·rintro i hi
  refine kq [0,1,5] ?_
  refine s5 ?_
  refine L_lenS rfl rfl el38.h ?_
  refine s2 ?_
  refine kp [0,1,5,9] ?_
  refine W_cond rfl (fun q2=>?_) (fun q2=>?_)
  ·have hk1:i < (mks k0 x1).length:=by simpa using q2
   obtain ⟨g,o1,rfl⟩:=rd_addr h1 hk1
   obtain ⟨u,hu⟩:=getEl (show i < x1.length by omega)
   have hs:=cnts_take_succ hu
   have hle:=cnts_take_le x1 (i+1)
   have hu2:=mks_get (k:=k0) hu
   obtain ⟨b1,b2,b3,⟨b41,b42⟩,b5,⟨b61,b62,b63,b64,b65,b66,b67,b68⟩,b7,b8,b9,b10,b11⟩:=u
   simp only [mk_pair,mk_int,mk_str,mk_bool,cnt_pair,cnt_int,cnt_str,cnt_bool,← Nat.add_assoc] at hs hu2
   refine s8 ?_
   refine L_indexAddr rfl rfl rfl el38.h rfl (by omega) ?_
   refine s1 ?_
   refine L_load rfl rfl (by first | exact RdC.blk mm | exact RdC.old (Cells.el h1 rfl hu2)) one3.h rfl ?_
   refine s3 ?_
   refine kp [0,1,5,18] ?_
   refine W_cond rfl (fun q4=>?_) (fun q4=>?_)
   ·refine s5 ?_
    refine res1 rfl (ResOK.tmp rfl) ⟨?_,rfl⟩ ms
    exfalso;simp [mk_int,mk_str,mk_bool] at q4
   ·refine s4 ?_
    refine L_binV rfl rfl rfl (bv_addR (by unfold inR;omega)) ?_
    refine s2 ?_
    rw [show (((k0+cnts (x1.take i)):Nat):Int)+1=(((k0+cnts (x1.take i))+1:Nat):Int) from rfl]
    refine s5 ?_
    refine L_indexAddr rfl rfl rfl el38.h rfl (by omega) ?_
    refine s1 ?_
    refine L_load rfl rfl (by first | exact RdC.blk mm | exact RdC.old (Cells.el h1 rfl hu2)) one3.h rfl ?_
    refine s3 ?_
    refine kp [0,1,5,27] ?_
    refine W_cond rfl (fun q7=>?_) (fun q7=>?_)
    ·refine s5 ?_
     refine res1 rfl (ResOK.tmp rfl) ⟨?_,rfl⟩ ms
     exfalso;simp [mk_int,mk_str,mk_bool] at q7
    ·refine s4 ?_
     refine L_binV rfl rfl rfl (bv_addR (by unfold inR;omega)) ?_
     refine s2 ?_
     rw [show ((((k0+cnts (x1.take i))+1):Nat):Int)+1=((((k0+cnts (x1.take i))+1)+1:Nat):Int) from rfl]
     refine s5 ?_
     refine L_indexAddr rfl rfl rfl el38.h rfl (by omega) ?_
     refine s1 ?_
     refine L_load rfl rfl (by first | exact RdC.blk mm | exact RdC.old (Cells.el h1 rfl hu2)) one3.h rfl ?_
     refine s3 ?_
     refine kp [0,1,5,36] ?_
     refine W_cond rfl (fun q10=>?_) (fun q10=>?_)
     ·refine s5 ?_
      refine res1 rfl (ResOK.tmp rfl) ⟨?_,rfl⟩ ms
      exfalso;simp [mk_int,mk_str,mk_bool] at q10
     ·refine s4 ?_
      refine L_binV rfl rfl rfl (bv_addR (by unfold inR;omega)) ?_
      refine s2 ?_
      rw [show (((((k0+cnts (x1.take i))+1)+1):Nat):Int)+1=(((((k0+cnts (x1.take i))+1)+1)+1:Nat):Int) from rfl]
      refine s5 ?_
      refine L_indexAddr rfl rfl rfl el38.h rfl (by omega) ?_
      refine s2 ?_
      refine L_load (fo:=3) rfl rfl (by first | exact RdC.blk mm | exact RdC.old (Cells.el h1 rfl hu2)) one3.h rfl ?_
      refine s3 ?_
      refine kp [0,1,5,46] ?_
      refine W_cond rfl (fun q13=>?_) (fun q13=>?_)
      ·refine s5 ?_
       refine res1 rfl (ResOK.tmp rfl) ⟨?_,rfl⟩ ms
       exfalso;simp [mk_int,mk_str,mk_bool] at q13
      ·refine s4 ?_
       refine L_binV rfl rfl rfl (bv_addR (by unfold inR;omega)) ?_
       refine s2 ?_
       rw [show ((((((k0+cnts (x1.take i))+1)+1)+1):Nat):Int)+1=((((((k0+cnts (x1.take i))+1)+1)+1)+1:Nat):Int) from rfl]
       refine s5 ?_
       refine L_indexAddr rfl rfl rfl el38.h rfl (by omega) ?_
       refine s2 ?_
       refine L_load (fo:=4) rfl rfl (by first | exact RdC.blk mm | exact RdC.old (Cells.el h1 rfl hu2)) one3.h rfl ?_
       refine s3 ?_
       refine kp [0,1,5,56] ?_
       refine W_cond rfl (fun q16=>?_) (fun q16=>?_)
       ·refine s5 ?_
        refine res1 rfl (ResOK.tmp rfl) ⟨?_,rfl⟩ ms
        exfalso;simp [mk_int,mk_str,mk_bool] at q16
       ·refine s4 ?_
        refine L_binV rfl rfl rfl (bv_addR (by unfold inR;omega)) ?_
        refine s2 ?_
        rw [show (((((((k0+cnts (x1.take i))+1)+1)+1)+1):Nat):Int)+1=(((((((k0+cnts (x1.take i))+1)+1)+1)+1)+1:Nat):Int) from rfl]
        refine s5 ?_
        refine L_indexAddr rfl rfl rfl el38.h rfl (by omega) ?_
        refine s1 ?_
        refine L_load rfl rfl (by first | exact RdC.blk mm | exact RdC.old (Cells.el h1 rfl hu2)) one3.h rfl ?_
        refine s3 ?_
        refine kp [0,1,5,65] ?_
        refine W_cond rfl (fun q19=>?_) (fun q19=>?_)
        ·refine s5 ?_
         refine res1 rfl (ResOK.tmp rfl) ⟨?_,rfl⟩ ms
         exfalso;simp [mk_int,mk_str,mk_bool] at q19
        ·refine s4 ?_
         refine L_binV rfl rfl rfl (bv_addR (by unfold inR;omega)) ?_
         refine s2 ?_
         rw [show ((((((((k0+cnts (x1.take i))+1)+1)+1)+1)+1):Nat):Int)+1=((((((((k0+cnts (x1.take i))+1)+1)+1)+1)+1)+1:Nat):Int) from rfl]
         refine s5 ?_
         refine L_indexAddr rfl rfl rfl el38.h rfl (by omega) ?_
         refine s2 ?_
         refine L_load (fo:=6) rfl rfl (by first | exact RdC.blk mm | exact RdC.old (Cells.el h1 rfl hu2)) one3.h rfl ?_
         refine s3 ?_
         refine kp [0,1,5,75] ?_
         refine W_cond rfl (fun q22=>?_) (fun q22=>?_)
         ·refine s5 ?_
          refine res1 rfl (ResOK.tmp rfl) ⟨?_,rfl⟩ ms
          exfalso;simp [mk_int,mk_str,mk_bool] at q22
         ·refine s4 ?_
          refine L_binV rfl rfl rfl (bv_addR (by unfold inR;omega)) ?_
          refine s2 ?_
          rw [show (((((((((k0+cnts (x1.take i))+1)+1)+1)+1)+1)+1):Nat):Int)+1=(((((((((k0+cnts (x1.take i))+1)+1)+1)+1)+1)+1)+1:Nat):Int) from rfl]
          refine s5 ?_
          refine L_indexAddr rfl rfl rfl el38.h rfl (by omega) ?_
          refine s2 ?_
          refine L_load (fo:=7) rfl rfl (by first | exact RdC.blk mm | exact RdC.old (Cells.el h1 rfl hu2)) one3.h rfl ?_
          refine s3 ?_
          refine kp [0,1,5,85] ?_
          refine W_cond rfl (fun q25=>?_) (fun q25=>?_)
          ·refine s5 ?_
           refine res1 rfl (ResOK.tmp rfl) ⟨?_,rfl⟩ ms
           exfalso;simp [mk_int,mk_str,mk_bool] at q25
          ·refine s4 ?_
           refine L_binV rfl rfl rfl (bv_addR (by unfold inR;omega)) ?_
           refine s2 ?_
           rw [show ((((((((((k0+cnts (x1.take i))+1)+1)+1)+1)+1)+1)+1):Nat):Int)+1=((((((((((k0+cnts (x1.take i))+1)+1)+1)+1)+1)+1)+1)+1:Nat):Int) from rfl]
           refine s5 ?_
           refine L_indexAddr rfl rfl rfl el38.h rfl (by omega) ?_
           refine s2 ?_
           refine L_load (fo:=8) rfl rfl (by first | exact RdC.blk mm | exact RdC.old (Cells.el h1 rfl hu2)) one3.h rfl ?_
           refine s3 ?_
           refine kp [0,1,5,95] ?_
           refine W_cond rfl (fun q28=>?_) (fun q28=>?_)
           ·refine s5 ?_
            refine res1 rfl (ResOK.tmp rfl) ⟨?_,rfl⟩ ms
            exfalso;simp [mk_int,mk_str,mk_bool] at q28
           ·refine s4 ?_
            refine L_binV rfl rfl rfl (bv_addR (by unfold inR;omega)) ?_
            refine s2 ?_
            rw [show (((((((((((k0+cnts (x1.take i))+1)+1)+1)+1)+1)+1)+1)+1):Nat):Int)+1=(((((((((((k0+cnts (x1.take i))+1)+1)+1)+1)+1)+1)+1)+1)+1:Nat):Int) from rfl]
            refine s2 ?_
            refine W_D0 [106] mix (by kernel_rfl) rfl ?_
            refine s2 ?_
            refine D_indexAddr _ GC.none (OpV.t rfl) (OpV.t rfl) el38.h (fun hg=>⟨rfl,by (try dsimp only);omega⟩) ?_
            refine s2 ?_
            refine D_load (fo:=9) GC.none (OpV.t rfl) (fun hg=>(by first | exact RdC.blk mm | exact RdC.old (Cells.el h1 rfl hu2))) one9.h rfl ?_
            refine s1 ?_
            refine D_callX GC.none fn78.h (OpVs.cons (OpV.t rfl) (OpVs.nil)) (by exact fun hg w F hF hM=>(fun w hw=>markText_spec w ((((((((((k0+cnts (x1.take i))+1)+1)+1)+1)+1)+1)+1)+1)+1) (by omega) (by omega)) w hF) ?_
            refine s12 ?_
            refine kp [0,1,5,106] ?_
            refine W_cond rfl (fun q31=>?_) (fun q31=>?_)
            ·refine s5 ?_
             refine res1 rfl (ResOK.tmp rfl) ⟨?_,rfl⟩ ms
             exfalso;simp [mk_int,mk_str,mk_bool] at q31
            ·refine s4 ?_
             refine L_binV rfl rfl rfl (bv_addR (by unfold inR;omega)) ?_
             refine s2 ?_
             rw [show ((((((((((((k0+cnts (x1.take i))+1)+1)+1)+1)+1)+1)+1)+1)+1):Nat):Int)+1=((((((((((((k0+cnts (x1.take i))+1)+1)+1)+1)+1)+1)+1)+1)+1)+1:Nat):Int) from rfl]
             refine s2 ?_
             refine W_D0 [117] mix (by kernel_rfl) rfl ?_
             refine s2 ?_
             refine D_indexAddr _ GC.none (OpV.t rfl) (OpV.t rfl) el38.h (fun hg=>⟨rfl,by (try dsimp only);omega⟩) ?_
             refine s2 ?_
             refine D_load (fo:=10) GC.none (OpV.t rfl) (fun hg=>(by first | exact RdC.blk mm | exact RdC.old (Cells.el h1 rfl hu2))) one9.h rfl ?_
             refine s1 ?_
             refine D_callX GC.none fn78.h (OpVs.cons (OpV.t rfl) (OpVs.nil)) (by exact fun hg w F hF hM=>(fun w hw=>markText_spec w (((((((((((k0+cnts (x1.take i))+1)+1)+1)+1)+1)+1)+1)+1)+1)+1) (by omega) (by omega)) w hF) ?_
             refine s12 ?_
             refine kp [0,1,5,117] ?_
             refine W_cond rfl (fun q34=>?_) (fun q34=>?_)
             ·refine s5 ?_
              refine res1 rfl (ResOK.tmp rfl) ⟨?_,rfl⟩ ms
              exfalso;simp [mk_int,mk_str,mk_bool] at q34
             ·refine s4 ?_
              refine L_binV rfl rfl rfl (bv_addR (by unfold inR;omega)) ?_
              refine s2 ?_
              rw [show (((((((((((((k0+cnts (x1.take i))+1)+1)+1)+1)+1)+1)+1)+1)+1)+1):Nat):Int)+1=(((((((((((((k0+cnts (x1.take i))+1)+1)+1)+1)+1)+1)+1)+1)+1)+1)+1:Nat):Int) from rfl]
              refine s2 ?_
              refine W_D0 [128] mix (by kernel_rfl) rfl ?_
              refine s2 ?_
              refine D_indexAddr _ GC.none (OpV.t rfl) (OpV.t rfl) el38.h (fun hg=>⟨rfl,by (try dsimp only);omega⟩) ?_
              refine s2 ?_
              refine D_load (fo:=11) GC.none (OpV.t rfl) (fun hg=>(by first | exact RdC.blk mm | exact RdC.old (Cells.el h1 rfl hu2))) one9.h rfl ?_
              refine s1 ?_
              refine D_callX GC.none fn78.h (OpVs.cons (OpV.t rfl) (OpVs.nil)) (by exact fun hg w F hF hM=>(fun w hw=>markText_spec w ((((((((((((k0+cnts (x1.take i))+1)+1)+1)+1)+1)+1)+1)+1)+1)+1)+1) (by omega) (by omega)) w hF) ?_
              refine s12 ?_
              refine kp [0,1,5,128] ?_
              refine W_cond rfl (fun q37=>?_) (fun q37=>?_)
              ·refine s5 ?_
               refine res1 rfl (ResOK.tmp rfl) ⟨?_,rfl⟩ ms
               exfalso;simp [mk_int,mk_str,mk_bool] at q37
              ·refine s4 ?_
               refine L_binV rfl rfl rfl (bv_addR (by unfold inR;omega)) ?_
               refine s2 ?_
               rw [show ((((((((((((((k0+cnts (x1.take i))+1)+1)+1)+1)+1)+1)+1)+1)+1)+1)+1):Nat):Int)+1=((((((((((((((k0+cnts (x1.take i))+1)+1)+1)+1)+1)+1)+1)+1)+1)+1)+1)+1:Nat):Int) from rfl]
               refine s5 ?_
               refine L_indexAddr rfl rfl rfl el38.h rfl (by omega) ?_
               refine s2 ?_
               refine L_load (fo:=12) rfl rfl (by first | exact RdC.blk mm | exact RdC.old (Cells.el h1 rfl hu2)) one3.h rfl ?_
               refine s3 ?_
               refine kp [0,1,5,138] ?_
               refine W_cond rfl (fun q40=>?_) (fun q40=>?_)
               ·refine s5 ?_
                refine res1 rfl (ResOK.tmp rfl) ⟨?_,rfl⟩ ms
                exfalso;simp [mk_int,mk_str,mk_bool] at q40
               ·refine s4 ?_
                refine L_binV rfl rfl rfl (bv_addR (by unfold inR;omega)) ?_
                refine s2 ?_
                rw [show (((((((((((((((k0+cnts (x1.take i))+1)+1)+1)+1)+1)+1)+1)+1)+1)+1)+1)+1):Nat):Int)+1=(((((((((((((((k0+cnts (x1.take i))+1)+1)+1)+1)+1)+1)+1)+1)+1)+1)+1)+1)+1:Nat):Int) from rfl]
                refine s4 ?_
                refine L_indexAddr rfl rfl rfl el38.h rfl (by omega) ?_
                refine s2 ?_
                refine L_load (fo:=13) rfl rfl (by first | exact RdC.blk mm | exact RdC.old (Cells.el h1 rfl hu2)) one30.h rfl ?_
                refine s1 ?_
                refine L_callX rfl fn83.h rfl (by exact fun w hw=>heldStringS_spec w b68 ((((((((((((((k0+cnts (x1.take i))+1)+1)+1)+1)+1)+1)+1)+1)+1)+1)+1)+1)+1) (by omega) (by omega) (rd_carry (show GT.rd _ _ (Mk.mkd ((((((((((((((k0+cnts (x1.take i))+1)+1)+1)+1)+1)+1)+1)+1)+1)+1)+1)+1)+1) b68) from by have h9:=h1.2.2.1 _ (List.mem_of_getElem? hu2);(try simp only [mk_pair,mk_int,mk_str,mk_bool,cnt_pair,cnt_int,cnt_str,cnt_bool,← Nat.add_assoc] at h9);exact h9.2.2.2.2.2.1.2.2.2.2.2.2.2) hw)) ?_
                refine s8 ?_
                refine kp [0,1,5,150] ?_
                refine W_cond rfl (fun q44=>?_) (fun q44=>?_)
                ·refine s5 ?_
                 refine res1 rfl (ResOK.tmp rfl) ⟨?_,rfl⟩ ms
                 exfalso;simp at q44;omega
                ·refine s6 ?_
                 refine L_indexAddr rfl rfl rfl el38.h rfl (by omega) ?_
                 refine s1 ?_
                 refine L_load rfl rfl (by first | exact RdC.blk mm | exact RdC.old (Cells.el h1 rfl hu2)) one3.h rfl ?_
                 refine s3 ?_
                 refine kp [0,1,5,157] ?_
                 refine W_cond rfl (fun q46=>?_) (fun q46=>?_)
                 ·refine s5 ?_
                  refine res1 rfl (ResOK.tmp rfl) ⟨?_,rfl⟩ ms
                  exfalso;simp [mk_int,mk_str,mk_bool] at q46
                 ·refine s4 ?_
                  refine L_binV rfl rfl rfl (bv_addR (by unfold inR;omega)) ?_
                  refine s2 ?_
                  rw [show (((((((((((((((((k0+cnts (x1.take i))+1)+1)+1)+1)+1)+1)+1)+1)+1)+1)+1)+1)+1)+Mk.cnt b68):Nat):Int)+1=(((((((((((((((((k0+cnts (x1.take i))+1)+1)+1)+1)+1)+1)+1)+1)+1)+1)+1)+1)+1)+Mk.cnt b68)+1:Nat):Int) from rfl]
                  refine s4 ?_
                  refine L_indexAddr rfl rfl rfl el38.h rfl (by omega) ?_
                  refine s1 ?_
                  refine L_load rfl rfl (by first | exact RdC.blk mm | exact RdC.old (Cells.el h1 rfl hu2)) one33.h rfl ?_
                  refine s1 ?_
                  refine L_callX rfl fn84.h rfl (by exact fun w hw=>heldIdS_spec w b8 ((((((((((((((((k0+cnts (x1.take i))+1)+1)+1)+1)+1)+1)+1)+1)+1)+1)+1)+1)+1)+Mk.cnt b68)+1) (by omega) (by omega) (rd_carry (show GT.rd _ _ (Mk.mkd ((((((((((((((((k0+cnts (x1.take i))+1)+1)+1)+1)+1)+1)+1)+1)+1)+1)+1)+1)+1)+Mk.cnt b68)+1) b8) from by have h9:=h1.2.2.1 _ (List.mem_of_getElem? hu2);(try simp only [mk_pair,mk_int,mk_str,mk_bool,cnt_pair,cnt_int,cnt_str,cnt_bool,← Nat.add_assoc] at h9);exact h9.2.2.2.2.2.2.2.1) hw)) ?_
                  refine s8 ?_
                  refine kp [0,1,5,168] ?_
                  refine W_cond rfl (fun q50=>?_) (fun q50=>?_)
                  ·refine s5 ?_
                   refine res1 rfl (ResOK.tmp rfl) ⟨?_,rfl⟩ ms
                   exfalso;simp at q50;omega
                  ·refine s6 ?_
                   refine L_indexAddr rfl rfl rfl el38.h rfl (by omega) ?_
                   refine s1 ?_
                   refine L_load rfl rfl (by first | exact RdC.blk mm | exact RdC.old (Cells.el h1 rfl hu2)) one3.h rfl ?_
                   refine s3 ?_
                   refine kp [0,1,5,175] ?_
                   refine W_cond rfl (fun q52=>?_) (fun q52=>?_)
                   ·refine s5 ?_
                    refine res1 rfl (ResOK.tmp rfl) ⟨?_,rfl⟩ ms
                    exfalso;simp [mk_int,mk_str,mk_bool] at q52
                   ·refine s4 ?_
                    refine L_binV rfl rfl rfl (bv_addR (by unfold inR;omega)) ?_
                    refine s2 ?_
                    rw [show (((((((((((((((((((k0+cnts (x1.take i))+1)+1)+1)+1)+1)+1)+1)+1)+1)+1)+1)+1)+1)+Mk.cnt b68)+1)+Mk.cnt b8):Nat):Int)+1=(((((((((((((((((((k0+cnts (x1.take i))+1)+1)+1)+1)+1)+1)+1)+1)+1)+1)+1)+1)+1)+Mk.cnt b68)+1)+Mk.cnt b8)+1:Nat):Int) from rfl]
                    refine s5 ?_
                    refine L_indexAddr rfl rfl rfl el38.h rfl (by omega) ?_
                    refine s1 ?_
                    refine L_load rfl rfl (by first | exact RdC.blk mm | exact RdC.old (Cells.el h1 rfl hu2)) one3.h rfl ?_
                    refine s3 ?_
                    refine kp [0,1,5,184] ?_
                    refine W_cond rfl (fun q55=>?_) (fun q55=>?_)
                    ·refine s5 ?_
                     refine res1 rfl (ResOK.tmp rfl) ⟨?_,rfl⟩ ms
                     exfalso;simp [mk_int,mk_str,mk_bool] at q55
                    ·refine s4 ?_
                     refine L_binV rfl rfl rfl (bv_addR (by unfold inR;omega)) ?_
                     refine s2 ?_
                     rw [show ((((((((((((((((((((k0+cnts (x1.take i))+1)+1)+1)+1)+1)+1)+1)+1)+1)+1)+1)+1)+1)+Mk.cnt b68)+1)+Mk.cnt b8)+1):Nat):Int)+1=((((((((((((((((((((k0+cnts (x1.take i))+1)+1)+1)+1)+1)+1)+1)+1)+1)+1)+1)+1)+1)+Mk.cnt b68)+1)+Mk.cnt b8)+1)+1:Nat):Int) from rfl]
                     refine s5 ?_
                     refine L_indexAddr rfl rfl rfl el38.h rfl (by omega) ?_
                     refine s1 ?_
                     refine L_load rfl rfl (by first | exact RdC.blk mm | exact RdC.old (Cells.el h1 rfl hu2)) one4.h rfl ?_
                     refine s1 ?_
                     refine L_binV rfl rfl rfl (bv_rem (by omega)) ?_
                     refine s3 ?_
                     refine kp [0,1,5,195] ?_
                     refine W_cond rfl (fun q58=>?_) (fun q58=>?_)
                     ·refine s5 ?_
                      refine res1 rfl (ResOK.tmp rfl) ⟨?_,rfl⟩ ms
                      exfalso;simp [mk_int,mk_str,mk_bool] at q58
                     ·refine s3 ?_
                      refine L_binV rfl rfl rfl (bv_addR (by unfold inR;omega)) ?_
                      refine s2 ?_
                      rw [show (((((((((((((((((((((k0+cnts (x1.take i))+1)+1)+1)+1)+1)+1)+1)+1)+1)+1)+1)+1)+1)+Mk.cnt b68)+1)+Mk.cnt b8)+1)+1):Nat):Int)+1=(((((((((((((((((((((k0+cnts (x1.take i))+1)+1)+1)+1)+1)+1)+1)+1)+1)+1)+1)+1)+1)+Mk.cnt b68)+1)+Mk.cnt b8)+1)+1)+1:Nat):Int) from rfl]
                      have hE:((((((((((((((((((((k0+cnts (x1.take i))+1)+1)+1)+1)+1)+1)+1)+1)+1)+1)+1)+1)+1)+Mk.cnt b68)+1)+Mk.cnt b8)+1)+1)+1)=k0+cnts (x1.take (i+1)):=by rw [hs];(try simp only [cnt_pair,cnt_int,cnt_str,cnt_bool]);omega
                      rw [hE]
                      refine s2 ?_
                      refine L_binV rfl rfl rfl (bv_addR (by unfold inR;omega)) ?_
                      refine s2 ?_
                      refine ⟨i+1,sb,ms,?_,?_⟩
                      ·show i+1≤x1.length
                       omega
                      ·show x1.length - (i+1) < x1.length - i
                       omega
  ·refine W_exit ?_
   refine s6 ?_
   refine res1 rfl (ResOK.tmp rfl) ⟨?_,rfl⟩ ms
   have hk2:(mks k0 x1).length≤i:=by simpa using q2
   rw [List.take_of_length_le (by omega)];rfl
end Go.Proofs.SL
