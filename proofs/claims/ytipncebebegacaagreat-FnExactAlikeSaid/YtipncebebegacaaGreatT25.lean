/- The texts of the proof, part 25: the base, walks of functions, plain Lean. -/
import Derived.Test.YtipncebebegacaaGreatRows
import Derived.Test.YtipncebebegacaaGreatT22
import Derived.Test.YtipncebebegacaaGreatT24
import Derived.Test.YtipncebebegacaaGreatT6
namespace Go.Proofs.SL
open Go
set_option maxHeartbeats 2000000
instance fld133_5:FldF Tryz.prog 133 5 6:=⟨by kernel_rfl⟩
instance fld133_7:FldF Tryz.prog 133 7 15:=⟨by kernel_rfl⟩
instance fld133_0:FldF Tryz.prog 133 0 0:=⟨by kernel_rfl⟩
instance fld133_1:FldF Tryz.prog 133 1 1:=⟨by kernel_rfl⟩
instance fld133_2:FldF Tryz.prog 133 2 2:=⟨by kernel_rfl⟩
instance fld133_3:FldF Tryz.prog 133 3 3:=⟨by kernel_rfl⟩
instance fld133_4:FldF Tryz.prog 133 4 5:=⟨by kernel_rfl⟩
instance fld133_6:FldF Tryz.prog 133 6 14:=⟨by kernel_rfl⟩
instance fld133_8:FldF Tryz.prog 133 8 16:=⟨by kernel_rfl⟩
instance fld133_9:FldF Tryz.prog 133 9 17:=⟨by kernel_rfl⟩
instance fld133_10:FldF Tryz.prog 133 10 18:=⟨by kernel_rfl⟩
instance fn103:FnF Tryz.prog 103:=⟨_,Tryz.func103,by kernel_rfl,rfl⟩
instance el48:ElF Tryz.prog 48 133 19 208 [.int .i64 0,.int .i64 0,.int .i64 0,.int .i64 0,.int .i64 0,.int .i64 0,.int .i64 0,.int .i64 0,.int .i64 0,.string ByteArray.empty,.string ByteArray.empty,.string ByteArray.empty,.int .i64 0,.slice none 0 0,.int .i64 0,.slice none 0 0,.int .i64 0,.int .i64 0,.bool false]:=⟨by kernel_rfl⟩
instance agg133:AggF Tryz.prog 133 19:=⟨by kernel_rfl⟩
instance fn87:FnF Tryz.prog 87:=⟨_,Tryz.func87,by kernel_rfl,rfl⟩
instance fn96:FnF Tryz.prog 96:=⟨_,Tryz.func96,by kernel_rfl,rfl⟩
theorem eqEMsg_spec (w:World) (t1 t2:T_EMsg) (h1:GT.rd w [] t1) (h2:GT.rd w [] t2):Spec Tryz.prog 103 [.agg (GT.cells t1).toArray,.agg (GT.cells t2).toArray].toArray w [] (IsV (.bool (eqB (GT.dat t1) (GT.dat t2)))):=by
 obtain ⟨a1,a2,a3,⟨a41,a42⟩,a5,⟨a61,a62,a63,a64,a65,a66,a67,a68⟩,a7,a8,a9,a10,a11⟩:=t1
 obtain ⟨b1,b2,b3,⟨b41,b42⟩,b5,⟨b61,b62,b63,b64,b65,b66,b67,b68⟩,b7,b8,b9,b10,b11⟩:=t2
 change Spec _ _ [Value.agg #[.int .i64 a1,.int .i64 a2,.int .i64 a3,.int .i64 a41,.int .i64 a42,.int .i64 a5,.int .i64 a61,.int .i64 a62,.int .i64 a63,.string a64,.string a65,.string a66,.int .i64 a67,a68.hdr,.int .i64 a7,a8.hdr,.int .i64 a9,.int .i64 a10,.bool a11],Value.agg #[.int .i64 b1,.int .i64 b2,.int .i64 b3,.int .i64 b41,.int .i64 b42,.int .i64 b5,.int .i64 b61,.int .i64 b62,.int .i64 b63,.string b64,.string b65,.string b66,.int .i64 b67,b68.hdr,.int .i64 b7,b8.hdr,.int .i64 b9,.int .i64 b10,.bool b11]].toArray w [] _
 refine Spec.intro Tryz.func103 rfl Tryz.ntmps103 rfl ?_
 refine s2 ?_
 refine bx fun bk2=>?_
 refine bx fun bk3=>?_
 refine s6 ?_
 refine L_load rfl rfl (by first | exact RdC.blk mm) one3.h rfl ?_
 refine s1 ?_
 refine L_load rfl rfl (by first | exact RdC.blk mm) one3.h rfl ?_
 refine s2 ?_
 refine kp [2,3,9] ?_
 refine W_cond rfl (fun q1=>?_) (fun q1=>?_)
 ·refine s5 ?_
  refine res1 rfl (ResOK.tmp rfl) ⟨?_,rfl⟩ ms
  clear h1 h2
  exact eqx
 ·refine s5 ?_
  refine L_load rfl rfl (by first | exact RdC.blk mm) one3.h rfl ?_
  refine s1 ?_
  refine L_load rfl rfl (by first | exact RdC.blk mm) one3.h rfl ?_
  refine s2 ?_
  refine kp [2,3,14] ?_
  refine W_cond rfl (fun q3=>?_) (fun q3=>?_)
  ·refine s5 ?_
   refine res1 rfl (ResOK.tmp rfl) ⟨?_,rfl⟩ ms
   clear h1 h2
   exact eqx
  ·refine s5 ?_
   refine L_load rfl rfl (by first | exact RdC.blk mm) one3.h rfl ?_
   refine s1 ?_
   refine L_load rfl rfl (by first | exact RdC.blk mm) one3.h rfl ?_
   refine s2 ?_
   refine kp [2,3,19] ?_
   refine W_cond rfl (fun q5=>?_) (fun q5=>?_)
   ·refine s5 ?_
    refine res1 rfl (ResOK.tmp rfl) ⟨?_,rfl⟩ ms
    clear h1 h2
    exact eqx
   ·refine s5 ?_
    refine L_loadW rfl rfl (RdC.seg (by first | exact RdC.blk mm) 3 2 rfl) (by exact agg92.h) ?_
    refine s1 ?_
    refine L_loadW rfl rfl (RdC.seg (by first | exact RdC.blk mm) 3 2 rfl) (by exact agg92.h) ?_
    refine L_callX rfl fn134.h rfl (by exact fun w hw=>eqId_spec w (a41,a42) (b41,b42) (rd_carry (h1.2.2.2.1) hw) (rd_carry (h2.2.2.2.1) hw)) ?_
    refine s2 ?_
    refine kp [2,3,25] ?_
    refine W_cond rfl (fun q7=>?_) (fun q7=>?_)
    ·refine s5 ?_
     refine res1 rfl (ResOK.tmp rfl) ⟨?_,rfl⟩ ms
     clear h1 h2
     exact eqx
    ·refine s5 ?_
     refine L_load rfl rfl (by first | exact RdC.blk mm) one3.h rfl ?_
     refine s1 ?_
     refine L_load rfl rfl (by first | exact RdC.blk mm) one3.h rfl ?_
     refine s2 ?_
     refine kp [2,3,30] ?_
     refine W_cond rfl (fun q9=>?_) (fun q9=>?_)
     ·refine s5 ?_
      refine res1 rfl (ResOK.tmp rfl) ⟨?_,rfl⟩ ms
      clear h1 h2
      exact eqx
     ·refine s5 ?_
      refine L_loadW rfl rfl (RdC.seg (by first | exact RdC.blk mm) 6 8 rfl) (by exact agg69.h) ?_
      refine s1 ?_
      refine L_loadW rfl rfl (RdC.seg (by first | exact RdC.blk mm) 6 8 rfl) (by exact agg69.h) ?_
      refine L_callX rfl fn135.h rfl (by exact fun w hw=>eqCmd_spec w (a61,a62,a63,a64,a65,a66,a67,a68) (b61,b62,b63,b64,b65,b66,b67,b68) (rd_carry (h1.2.2.2.2.2.1) hw) (rd_carry (h2.2.2.2.2.2.1) hw)) ?_
      refine s2 ?_
      refine kp [2,3,36] ?_
      refine W_cond rfl (fun q11=>?_) (fun q11=>?_)
      ·refine s5 ?_
       refine res1 rfl (ResOK.tmp rfl) ⟨?_,rfl⟩ ms
       clear h1 h2
       exact eqx
      ·refine s5 ?_
       refine L_load rfl rfl (by first | exact RdC.blk mm) one3.h rfl ?_
       refine s1 ?_
       refine L_load rfl rfl (by first | exact RdC.blk mm) one3.h rfl ?_
       refine s2 ?_
       refine kp [2,3,41] ?_
       refine W_cond rfl (fun q13=>?_) (fun q13=>?_)
       ·refine s5 ?_
        refine res1 rfl (ResOK.tmp rfl) ⟨?_,rfl⟩ ms
        clear h1 h2
        exact eqx
       ·refine s5 ?_
        refine L_load rfl rfl (by first | exact RdC.blk mm) one85.h rfl ?_
        refine s1 ?_
        refine L_load rfl rfl (by first | exact RdC.blk mm) one85.h rfl ?_
        refine L_callX rfl fn136.h rfl (by exact fun w hw=>eqIdS_spec w _ _ (rd_carry (h1.2.2.2.2.2.2.2.1) hw) (rd_carry (h2.2.2.2.2.2.2.2.1) hw)) ?_
        refine s2 ?_
        refine kp [2,3,47] ?_
        refine W_cond rfl (fun q15=>?_) (fun q15=>?_)
        ·refine s5 ?_
         refine res1 rfl (ResOK.tmp rfl) ⟨?_,rfl⟩ ms
         clear h1 h2
         exact eqx
        ·refine s5 ?_
         refine L_load rfl rfl (by first | exact RdC.blk mm) one3.h rfl ?_
         refine s1 ?_
         refine L_load rfl rfl (by first | exact RdC.blk mm) one3.h rfl ?_
         refine s2 ?_
         refine kp [2,3,52] ?_
         refine W_cond rfl (fun q17=>?_) (fun q17=>?_)
         ·refine s5 ?_
          refine res1 rfl (ResOK.tmp rfl) ⟨?_,rfl⟩ ms
          clear h1 h2
          exact eqx
         ·refine s5 ?_
          refine L_load rfl rfl (by first | exact RdC.blk mm) one3.h rfl ?_
          refine s1 ?_
          refine L_load rfl rfl (by first | exact RdC.blk mm) one3.h rfl ?_
          refine s2 ?_
          refine kp [2,3,57] ?_
          refine W_cond rfl (fun q19=>?_) (fun q19=>?_)
          ·refine s5 ?_
           refine res1 rfl (ResOK.tmp rfl) ⟨?_,rfl⟩ ms
           clear h1 h2
           exact eqx
          ·refine s5 ?_
           refine L_load rfl rfl (by first | exact RdC.blk mm) one4.h rfl ?_
           refine s1 ?_
           refine L_load rfl rfl (by first | exact RdC.blk mm) one4.h rfl ?_
           refine s2 ?_
           refine kp [62] ?_
           refine W_cond rfl (fun q21=>?_) (fun q21=>?_)
           ·refine s5 ?_
            refine res1 rfl (ResOK.tmp rfl) ⟨?_,rfl⟩ ms
            clear h1 h2
            exact eqx
           ·refine s6 ?_
            refine res1 rfl (ResOK.tmp rfl) ⟨?_,rfl⟩ ms
            clear h1 h2
            exact eqx
theorem szEMsg_spec (w:World) (t1:T_EMsg) (left:Int) (hl:0≤left) (hm:left≤1048576) (h1:GT.rd w [] t1) (ho:Ok.ok (GT.dat t1)):Spec Tryz.prog 87 [.agg (GT.cells t1).toArray,.int .i64 left].toArray w [] (IsV (.int .i64 (if (Bk.bulk t1:Int)≤left then left - (Bk.bulk t1:Int) else -1))):=by
 obtain ⟨a1,a2,a3,⟨a41,a42⟩,a5,⟨a61,a62,a63,a64,a65,a66,a67,a68⟩,a7,a8,a9,a10,a11⟩:=t1
 change Spec _ _ [Value.agg #[.int .i64 a1,.int .i64 a2,.int .i64 a3,.int .i64 a41,.int .i64 a42,.int .i64 a5,.int .i64 a61,.int .i64 a62,.int .i64 a63,.string a64,.string a65,.string a66,.int .i64 a67,a68.hdr,.int .i64 a7,a8.hdr,.int .i64 a9,.int .i64 a10,.bool a11],.int .i64 left].toArray w [] _
 refine Spec.intro Tryz.func87 rfl Tryz.ntmps87 rfl ?_
 refine s2 ?_
 refine bx fun bk2=>?_
 refine s5 ?_
 refine L_loadW rfl rfl (RdC.seg (by first | exact RdC.blk mm) 6 8 rfl) (by exact agg99.h) ?_
 refine s1 ?_
 refine L_callX rfl fn104.h rfl (by exact fun w hw=>szCmd_spec w (a61,a62,a63,a64,a65,a66,a67,a68) (left) (by omega) (by omega) (rd_carry (h1.2.2.2.2.2.1) hw) ho.2.2.2.2.2.1) ?_
 refine s8 ?_
 refine kp [1,2,10] ?_
 refine W_cond rfl (fun q2=>?_) (fun q2=>?_)
 ·have hb5:¬ ((Bk.bulk (a61,a62,a63,a64,a65,a66,a67,a68):Int)≤left):=by
   intro hn
   rw [if_pos hn] at q2;simp at q2;omega
  refine s5 ?_
  refine res1 rfl (ResOK.tmp rfl) ⟨?_,rfl⟩ ms
  try simp only [bulk_pair,bulk_int,bulk_bool,bulk_str,Int.natCast_add,Int.natCast_zero] at *
  all_goals first
   | rfl
   | (rw [if_pos (by omega)]<;>(congr 1<;>omega))
   | (rw [if_neg (by omega)])
 ·have hb5:(Bk.bulk (a61,a62,a63,a64,a65,a66,a67,a68):Int)≤left:=by
   rcases Int.decLt (left) (Bk.bulk (a61,a62,a63,a64,a65,a66,a67,a68):Int) with hn | hn
   ·omega
   ·rw [if_neg (by omega)] at q2;simp at q2
  rw [if_pos hb5]
  refine s4 ?_
  refine L_load rfl rfl (by first | exact RdC.blk mm) one100.h rfl ?_
  refine s1 ?_
  refine L_callX rfl fn105.h rfl (by exact fun w hw=>szIdS_spec w _ (left - (Bk.bulk (a61,a62,a63,a64,a65,a66,a67,a68):Int)) (by omega) (by omega) (rd_carry (h1.2.2.2.2.2.2.2.1) hw) ho.2.2.2.2.2.2.2.1) ?_
  refine s8 ?_
  refine kp [1,16] ?_
  refine W_cond rfl (fun q5=>?_) (fun q5=>?_)
  ·have hb7:¬ ((Bk.bulk a8:Int)≤left - (Bk.bulk (a61,a62,a63,a64,a65,a66,a67,a68):Int)):=by
    intro hn
    rw [if_pos hn] at q5;simp at q5;omega
   refine s5 ?_
   refine res1 rfl (ResOK.tmp rfl) ⟨?_,rfl⟩ ms
   try simp only [bulk_pair,bulk_int,bulk_bool,bulk_str,Int.natCast_add,Int.natCast_zero] at *
   all_goals first
    | rfl
    | (rw [if_pos (by omega)]<;>(congr 1<;>omega))
    | (rw [if_neg (by omega)])
  ·have hb7:(Bk.bulk a8:Int)≤left - (Bk.bulk (a61,a62,a63,a64,a65,a66,a67,a68):Int):=by
    rcases Int.decLt (left - (Bk.bulk (a61,a62,a63,a64,a65,a66,a67,a68):Int)) (Bk.bulk a8:Int) with hn | hn
    ·omega
    ·rw [if_neg (by omega)] at q5;simp at q5
   rw [if_pos hb7]
   refine s7 ?_
   refine res1 rfl (ResOK.tmp rfl) ⟨?_,rfl⟩ ms
   try simp only [bulk_pair,bulk_int,bulk_bool,bulk_str,Int.natCast_add,Int.natCast_zero] at *
   all_goals first
    | rfl
    | (rw [if_pos (by omega)]<;>(congr 1<;>omega))
    | (rw [if_neg (by omega)])
theorem toEMsg_spec (w:World) (t1:T_EMsg) (h1:GT.rd w [] t1) (hb:Bk.bulk t1≤1048576):Spec Tryz.prog 96 [.agg (GT.cells t1).toArray].toArray w [] (fun v M=>∃ t2:T_EMsg,v=.agg (GT.cells t2).toArray∧GT.dat t2=GT.dat t1∧M=[treeH t2]):=by
 obtain ⟨a1,a2,a3,⟨a41,a42⟩,a5,⟨a61,a62,a63,a64,a65,a66,a67,a68⟩,a7,a8,a9,a10,a11⟩:=t1
 have hbk_3:Bk.bulk (a41,a42)≤1048576:=by (try simp only [bulk_pair,bulk_int,bulk_bool,bulk_str] at hb ⊢);omega
 have hbk_5:Bk.bulk (a61,a62,a63,a64,a65,a66,a67,a68)≤1048576:=by (try simp only [bulk_pair,bulk_int,bulk_bool,bulk_str] at hb ⊢);omega
 have hbk_7:Bk.bulk a8≤1048576:=by (try simp only [bulk_pair,bulk_int,bulk_bool,bulk_str] at hb ⊢);omega
 change Spec _ _ [Value.agg #[.int .i64 a1,.int .i64 a2,.int .i64 a3,.int .i64 a41,.int .i64 a42,.int .i64 a5,.int .i64 a61,.int .i64 a62,.int .i64 a63,.string a64,.string a65,.string a66,.int .i64 a67,a68.hdr,.int .i64 a7,a8.hdr,.int .i64 a9,.int .i64 a10,.bool a11]].toArray w [] _
 refine Spec.intro Tryz.func96 rfl Tryz.ntmps96 rfl ?_
 refine s2 ?_
 refine bx fun bk1=>?_
 refine al fun bk2=>?_
 refine s3 ?_
 refine al fun bk3=>?_
 refine s4 ?_
 refine L_load rfl rfl (by first | exact RdC.blk mm) one3.h rfl ?_
 refine s6 ?_
 refine L_load rfl rfl (by first | exact RdC.blk mm) one3.h rfl ?_
 refine s6 ?_
 refine L_load rfl rfl (by first | exact RdC.blk mm) one3.h rfl ?_
 refine s6 ?_
 refine L_loadW rfl rfl (RdC.seg (by first | exact RdC.blk mm) 3 2 rfl) (by exact agg98.h) ?_
 refine L_callR rfl fn116.h rfl (by exact fun w hw=>toId_spec w (a41,a42) (rd_carry (h1.2.2.2.1) hw) hbk_3) ?_
 rintro v M1 ⟨n4t,hv,hd3,rfl⟩
 obtain ⟨n41,n42⟩:=n4t
 subst hv
 simp only [List.cons_append,List.nil_append]
 refine s1 ?_
 refine L_storeA (fo:=3) rfl rfl pk (by exact agg92.h) (Nat.le_of_ble_eq_true rfl) (by first | (simp [Value.oneCell',TL.hdr];done) | (simp [Value.oneCell',TL.hdr,Value.cells];done) | exact fun v hv=>GT.one _ v hv) (by simp only [cells_pair,cells_int,cells_bool,cells_str,cells_TL,List.take_zero,List.take_succ_cons,List.drop_zero,List.drop_succ_cons,List.set_cons_zero,List.set_cons_succ,List.length_cons,List.length_nil,List.cons_append,List.nil_append,List.append_nil,Nat.zero_add,Nat.reduceAdd];rfl) ?_
 refine s4 ?_
 refine L_load rfl rfl (by first | exact RdC.blk mm) one3.h rfl ?_
 refine s6 ?_
 refine L_loadW rfl rfl (RdC.seg (by first | exact RdC.blk mm) 6 8 rfl) (by exact agg99.h) ?_
 refine L_callR rfl fn117.h rfl (by exact fun w hw=>toCmd_spec w (a61,a62,a63,a64,a65,a66,a67,a68) (rd_carry (h1.2.2.2.2.2.1) hw) hbk_5) ?_
 rintro v M1 ⟨n6t,hv,hd5,rfl⟩
 obtain ⟨n61,n62,n63,n64,n65,n66,n67,n68⟩:=n6t
 subst hv
 simp only [List.cons_append,List.nil_append]
 refine s1 ?_
 refine L_storeA (fo:=6) rfl rfl pk (by exact agg69.h) (Nat.le_of_ble_eq_true rfl) (by first | (simp [Value.oneCell',TL.hdr];done) | (simp [Value.oneCell',TL.hdr,Value.cells];done) | exact fun v hv=>GT.one _ v hv) (by simp only [cells_pair,cells_int,cells_bool,cells_str,cells_TL,List.take_zero,List.take_succ_cons,List.drop_zero,List.drop_succ_cons,List.set_cons_zero,List.set_cons_succ,List.length_cons,List.length_nil,List.cons_append,List.nil_append,List.append_nil,Nat.zero_add,Nat.reduceAdd];rfl) ?_
 refine s4 ?_
 refine L_load rfl rfl (by first | exact RdC.blk mm) one3.h rfl ?_
 refine s6 ?_
 refine L_load rfl rfl (by first | exact RdC.blk mm) one100.h rfl ?_
 refine L_callR rfl fn118.h rfl (by exact fun w hw=>toIdS_spec w _ (rd_carry (h1.2.2.2.2.2.2.2.1) hw) hbk_7) ?_
 rintro v M1 ⟨n8t,hv,hd7,rfl⟩
 subst hv
 simp only [List.cons_append,List.nil_append]
 refine s6 ?_
 refine L_load rfl rfl (by first | exact RdC.blk mm) one3.h rfl ?_
 refine s6 ?_
 refine L_load rfl rfl (by first | exact RdC.blk mm) one3.h rfl ?_
 refine s6 ?_
 refine L_load rfl rfl (by first | exact RdC.blk mm) one4.h rfl ?_
 refine s5 ?_
 refine L_loadW rfl rfl (by first | exact RdC.blk mm) (by exact agg136.h) ?_
 refine L_storeW rfl rfl pk (by exact agg136.h) (by rfl) (by first | (simp [Value.oneCell',TL.hdr];done) | (simp [Value.oneCell',TL.hdr,Value.cells];done) | exact fun v hv=>GT.one _ v hv) ?_
 refine s1 ?_
 refine W_conv (M':=treeH (a10,a11)::_) (fun w h=>tree_snd (flat_int (h1.2.2.2.2.2.2.2.2.2.1)) (h.addFlat (flat_bool _))) ?_
 refine W_conv (M':=treeH (a9,a10,a11)::_) (fun w h=>tree_snd (flat_int (h1.2.2.2.2.2.2.2.2.1)) h) ?_
 refine W_conv (M':=treeH (n8t,a9,a10,a11)::_) (fun w h=>pairPick pk h) ?_
 refine W_conv (M':=treeH (a7,n8t,a9,a10,a11)::_) (fun w h=>tree_snd (flat_int (h1.2.2.2.2.2.2.1)) h) ?_
 refine W_conv (M':=treeH ((n61,n62,n63,n64,n65,n66,n67,n68),a7,n8t,a9,a10,a11)::_) (fun w h=>pairPick pk h) ?_
 refine W_conv (M':=treeH (a5,(n61,n62,n63,n64,n65,n66,n67,n68),a7,n8t,a9,a10,a11)::_) (fun w h=>tree_snd (flat_int (h1.2.2.2.2.1)) h) ?_
 refine W_conv (M':=treeH ((n41,n42),a5,(n61,n62,n63,n64,n65,n66,n67,n68),a7,n8t,a9,a10,a11)::_) (fun w h=>pairPick pk h) ?_
 refine W_conv (M':=treeH (a3,(n41,n42),a5,(n61,n62,n63,n64,n65,n66,n67,n68),a7,n8t,a9,a10,a11)::_) (fun w h=>tree_snd (flat_int (h1.2.2.1)) h) ?_
 refine W_conv (M':=treeH (a2,a3,(n41,n42),a5,(n61,n62,n63,n64,n65,n66,n67,n68),a7,n8t,a9,a10,a11)::_) (fun w h=>tree_snd (flat_int (h1.2.1)) h) ?_
 refine W_conv (M':=treeH (a1,a2,a3,(n41,n42),a5,(n61,n62,n63,n64,n65,n66,n67,n68),a7,n8t,a9,a10,a11)::_) (fun w h=>tree_snd (flat_int (h1.1)) h) ?_
 refine s1 ?_
 refine res1 rfl (ResOK.cell rfl mm (by exact agg136.h)) ⟨(a1,a2,a3,(n41,n42),a5,(n61,n62,n63,n64,n65,n66,n67,n68),a7,n8t,a9,a10,a11),rfl,by simp only [dat_pair,hd3,hd5,hd7],rfl⟩ ms
theorem eqEMsgS_spec (w:World) (t1 t2:TL T_EMsg) (h1:GT.rd w [] t1) (h2:GT.rd w [] t2):Spec Tryz.prog 59 [t1.hdr,t2.hdr].toArray w [] (IsV (.bool (eqB (GT.dat t1) (GT.dat t2)))):=by
 obtain ⟨a1,c1,e1,x1,y1⟩:=t1
 obtain ⟨a2,c2,e2,x2,y2⟩:=t2
 have hm1:x1.length≤9223372036854775807:=rd_len h1
 have hm2:x2.length≤9223372036854775807:=rd_len h2
 dsimp only [TL.hdr]
 refine Spec.intro Tryz.func59 rfl Tryz.ntmps59 rfl ?_
 refine s8 ?_
 refine L_lenS rfl rfl el54.h ?_
 refine s1 ?_
 refine L_lenS rfl rfl el54.h ?_
 refine s2 ?_
 refine kp [0,1,10] ?_
 refine W_cond rfl (fun q1=>?_) (fun q1=>?_)
 ·refine s5 ?_
  refine res1 rfl (ResOK.tmp rfl) ⟨?_,rfl⟩ ms
  refine congrArg Value.bool (Eq.symm (eqB_false.2 fun e=>?_))
  simp at q1
  exact q1 (by have:=congrArg List.length e;simp [dat_TL] at this;omega)
 ·have hl:x1.length=x2.length:=by simp at q1;omega
  refine s7 ?_
  refine W_loopC (σ:=Nat) 0 (fun (k:Nat)=>[(5,.int .i64 (k:Int))]) (fun (k:Nat)=>[]) (fun (k:Nat)=>k≤x1.length∧(x1.map GT.dat).take k=(x2.map GT.dat).take k) (fun (k:Nat)=>x1.length - k) [(0,_),(1,_)] [] ?_ sb ms ?_
  ·exact ⟨Nat.zero_le _,rfl⟩
  ·rintro k ⟨hk,ht⟩
   refine kq [0,1,5] ?_
   refine s5 ?_
   refine L_lenS rfl rfl el54.h ?_
   refine s2 ?_
   refine kp [0,1,5,14] ?_
   refine W_cond rfl (fun q4=>?_) (fun q4=>?_)
   ·have hk1:k < x1.length:=by simpa using q4
    obtain ⟨g1,o1,rfl⟩:=rd_addr h1 hk1
    obtain ⟨g2,o2,rfl⟩:=rd_addr (k:=k) h2 (show k < x2.length by omega)
    obtain ⟨u1,hu1⟩:=getEl hk1
    obtain ⟨u2,hu2⟩:=getEl (show k < x2.length by omega)
    refine s4 ?_
    refine W_D0 [26] mix (by kernel_rfl) rfl ?_
    refine s2 ?_
    refine D_indexAddr _ GC.none (OpV.t rfl) (OpV.t rfl) el54.h (fun hg=>⟨rfl,by (try dsimp only);omega⟩) ?_
    refine D_loadW GC.none (OpV.t rfl) (fun hg=>(by first | exact RdC.blk mm | exact RdC.old (Cells.el h1 rfl hu1) | exact RdC.old (Cells.el h2 rfl hu2))) (by exact agg136.h) ?_
    refine s2 ?_
    refine D_indexAddr _ GC.none (OpV.t rfl) (OpV.t rfl) el54.h (fun hg=>⟨rfl,by (try dsimp only);omega⟩) ?_
    refine D_loadW GC.none (OpV.t rfl) (fun hg=>(by first | exact RdC.blk mm | exact RdC.old (Cells.el h1 rfl hu1) | exact RdC.old (Cells.el h2 rfl hu2))) (by exact agg136.h) ?_
    refine D_callX GC.none fn103.h (OpVs.cons (OpV.t rfl) (OpVs.cons (OpV.t rfl) (OpVs.nil))) (by exact fun hg w F hF hM=>(fun w hw=>eqEMsg_spec w _ _ (rd_carry (h1.2.2.1 _ (List.mem_of_getElem? hu1)) hw) (rd_carry (h2.2.2.1 _ (List.mem_of_getElem? hu2)) hw)) w hF) ?_
    refine s13 ?_
    refine kp [0,1,5,26] ?_
    refine W_cond rfl (fun q6=>?_) (fun q6=>?_)
    ·refine s5 ?_
     refine res1 rfl (ResOK.tmp rfl) ⟨?_,rfl⟩ ms
     refine congrArg Value.bool (Eq.symm (eqB_false.2 fun e=>?_))
     simp at q6
     replace e:x1.map GT.dat=x2.map GT.dat:=e
     have e2:=congrArg (fun l=>l[k]?) e
     simp only [List.getElem?_map,hu1,hu2,Option.map_some,Option.some.injEq] at e2
     exact q6 (by simpa [dat_int,dat_str,dat_bool] using e2)
    ·refine s3 ?_
     refine L_binV rfl rfl rfl (bv_addR (by unfold inR;omega)) ?_
     refine s2 ?_
     refine ⟨k+1,sb,ms,?_,?_⟩
     ·exact ⟨by omega,take_succ_eq ht (by rw [List.getElem?_map,hu1];rfl) (by rw [List.getElem?_map,hu2];rfl) (by simpa [dat_int,dat_str,dat_bool] using q6)⟩
     ·(try dsimp only);omega
   ·refine W_exit ?_
    refine s5 ?_
    refine res1 rfl (ResOK.tmp rfl) ⟨?_,rfl⟩ ms
    refine congrArg Value.bool (Eq.symm (eqB_true.2 ?_))
    have hk2:x1.length≤k:=by simpa using q4
    have h3:=ht
    rw [List.take_of_length_le (by simp;omega),List.take_of_length_le (by simp;omega)] at h3
    exact h3
theorem szEMsgS_spec (w:World) (t1:TL T_EMsg) (left:Int) (hl:0≤left) (hm:left≤1048576) (h1:GT.rd w [] t1) (ho:Ok.ok (GT.dat t1)):Spec Tryz.prog 45 [t1.hdr,.int .i64 left].toArray w [] (IsV (.int .i64 (if (Bk.bulk t1:Int)≤left then left - (Bk.bulk t1:Int) else -1))):=by
  obtain ⟨a1,c1,e1,x1,y1⟩:=t1
  have hm1:x1.length≤9223372036854775807:=rd_len h1
  rw [bulk_TL]
  dsimp only [TL.hdr]
  refine Spec.intro Tryz.func45 rfl Tryz.ntmps45 rfl ?_
  refine s8 ?_
  refine L_lenS rfl rfl el48.h ?_
  refine L_binV rfl rfl rfl (bv_subR (by unfold inR;omega)) ?_
  refine s8 ?_
  refine kp [0,1,11] ?_
  refine W_cond rfl (fun q2=>?_) (fun q2=>?_)
  · have hb0:left - (x1.length:Int) < 0:=by simpa using q2
    refine s5 ?_
    refine res1 rfl (ResOK.tmp rfl) ⟨?_,rfl⟩ ms
    first
      | (rw [if_neg (by simp only [Int.natCast_add];omega)];done)
      | (rw [if_neg (by have:=bulks_take_le x1 (k+1);simp only [Int.natCast_add];omega)];done)
      | (have hk2:x1.length≤k:=by simpa using q5
         rw [List.take_of_length_le hk2] at ht ⊢
         rw [if_pos (by simp only [Int.natCast_add];omega)];congr 1;simp only [Int.natCast_add];omega)
  · have hb0:¬ (left - (x1.length:Int) < 0):=by simpa using q2
    refine s7 ?_
    have h0:left - (x1.length:Int)=left - (x1.length:Int) - (bulks (x1.take 0):Int):=by simp [bulks]
    rw [h0]
    refine W_loopC (σ:=Nat) 0 (fun (k:Nat)=>[(1,.int .i64 (left - (x1.length:Int) - (bulks (x1.take k):Int))),(5,.int .i64 (k:Int))]) (fun (k:Nat)=>[]) (fun (k:Nat)=>k≤x1.length∧0≤(left - (x1.length:Int) - (bulks (x1.take k):Int))) (fun (k:Nat)=>x1.length - k) [(0,_)] [] ?_ sb ms ?_
    · exact ⟨Nat.zero_le _,by simp [bulks];omega⟩
    · rintro k ⟨hk,ht⟩
      refine kq [0,1,5] ?_
      refine s5 ?_
      refine L_lenS rfl rfl el48.h ?_
      refine s2 ?_
      refine kp [0,1,5,15] ?_
      refine W_cond rfl (fun q5=>?_) (fun q5=>?_)
      · have hk1:k < x1.length:=by simpa using q5
        obtain ⟨g1,o1,rfl⟩:=rd_addr h1 hk1
        obtain ⟨u1,hu1⟩:=getEl hk1
        have hbs:=bulks_take_succ hu1
        have hble:=bulks_take_le x1 (k+1)
        refine s7 ?_
        refine L_indexAddr rfl rfl rfl el48.h rfl (by omega) ?_
        refine L_loadW rfl rfl (by first | exact RdC.blk mm | exact RdC.old (Cells.el h1 rfl hu1)) (by exact agg133.h) ?_
        refine s1 ?_
        refine L_callX rfl fn87.h rfl (by exact fun w hw=>szEMsg_spec w _ _ (by omega) (by omega) (rd_carry (h1.2.2.1 _ (List.mem_of_getElem? hu1)) hw) (ho.2 _ (List.mem_map.2 ⟨u1,List.mem_of_getElem? hu1,rfl⟩))) ?_
        refine s7 ?_
        refine kp [0,1,5,25] ?_
        refine W_cond rfl (fun q8=>?_) (fun q8=>?_)
        · have hb1:¬ ((Bk.bulk u1:Int)≤(left - (x1.length:Int) - (bulks (x1.take k):Int))):=by
            intro hn
            rw [if_pos hn] at q8;simp at q8;omega
          refine s5 ?_
          refine res1 rfl (ResOK.tmp rfl) ⟨?_,rfl⟩ ms
          first
            | (rw [if_neg (by simp only [Int.natCast_add];omega)];done)
            | (rw [if_neg (by have:=bulks_take_le x1 (k+1);simp only [Int.natCast_add];omega)];done)
            | (have hk2:x1.length≤k:=by simpa using q5
               rw [List.take_of_length_le hk2] at ht ⊢
               rw [if_pos (by simp only [Int.natCast_add];omega)];congr 1;simp only [Int.natCast_add];omega)
        · have hb1:(Bk.bulk u1:Int)≤(left - (x1.length:Int) - (bulks (x1.take k):Int)):=by
            rcases Int.decLt (left - (x1.length:Int) - (bulks (x1.take k):Int)) (Bk.bulk u1:Int) with hn | hn
            · omega
            · rw [if_neg (by omega)] at q8;simp at q8
          rw [if_pos hb1]
          have hnx:(left - (x1.length:Int) - (bulks (x1.take k):Int)) - (Bk.bulk u1:Int)=left - (x1.length:Int) - (bulks (x1.take (k+1)):Int):=by rw [hbs];omega
          rw [hnx]
          refine s3 ?_
          refine L_binV rfl rfl rfl (bv_addR (by unfold inR;omega)) ?_
          refine s2 ?_
          refine ⟨k+1,sb,ms,?_,?_⟩
          · exact ⟨by omega,by omega⟩
          · (try dsimp only);omega
      · refine W_exit ?_
        refine s6 ?_
        refine res1 rfl (ResOK.tmp rfl) ⟨?_,rfl⟩ ms
        first
          | (rw [if_neg (by simp only [Int.natCast_add];omega)];done)
          | (rw [if_neg (by have:=bulks_take_le x1 (k+1);simp only [Int.natCast_add];omega)];done)
          | (have hk2:x1.length≤k:=by simpa using q5
             rw [List.take_of_length_le hk2] at ht ⊢
             rw [if_pos (by simp only [Int.natCast_add];omega)];congr 1;simp only [Int.natCast_add];omega)
theorem toEMsgS_spec (w:World) (t1:TL T_EMsg) (h1:GT.rd w [] t1) (hb:Bk.bulk t1≤1048576):Spec Tryz.prog 51 [t1.hdr].toArray w [] (fun v M=>∃ t2:TL T_EMsg,v=t2.hdr∧GT.dat t2=GT.dat t1∧M=[treeH t2]):=by
 obtain ⟨a1,c1,e1,x1,y1⟩:=t1
 rw [bulk_TL] at hb
 dsimp only [TL.hdr]
 refine Spec.intro Tryz.func51 rfl Tryz.ntmps51 rfl ?_
 refine s7 ?_
 refine L_lenS rfl rfl el48.h ?_
 refine L_make (τ:=T_EMsg) ((0:Int),(0:Int),(0:Int),((0:Int),(0:Int)),(0:Int),((0:Int),(0:Int),(0:Int),ByteArray.empty,ByteArray.empty,ByteArray.empty,(0:Int),(TL.nil ByteArray 0)),(0:Int),(TL.nil T_Id 0),(0:Int),(0:Int),false) rfl rfl rfl el54.h rfl rfl (flat_pair (flat_int trivial) (flat_pair (flat_int trivial) (flat_pair (flat_int trivial) (flat_pair (flat_pair (flat_int trivial) (flat_int trivial)) (flat_pair (flat_int trivial) (flat_pair (flat_pair (flat_int trivial) (flat_pair (flat_int trivial) (flat_pair (flat_int trivial) (flat_pair (flat_str trivial) (flat_pair (flat_str trivial) (flat_pair (flat_str trivial) (flat_pair (flat_int trivial) (flat_nil 0)))))))) (flat_pair (flat_int trivial) (flat_pair (flat_nil 0) (flat_pair (flat_int trivial) (flat_pair (flat_int trivial) (flat_bool _))))))))))) (by omega) (by unfold maxLen;omega) (fun g=>?_)
 refine s8 ?_
 refine W_loopC (σ:=Nat×List T_EMsg) (0,List.replicate x1.length ((0:Int),(0:Int),(0:Int),((0:Int),(0:Int)),(0:Int),((0:Int),(0:Int),(0:Int),ByteArray.empty,ByteArray.empty,ByteArray.empty,(0:Int),(TL.nil ByteArray 0)),(0:Int),(TL.nil T_Id 0),(0:Int),(0:Int),false)) (fun (p:Nat×List T_EMsg)=>[(4,.int .i64 (p.1:Int))]) (fun (p:Nat×List T_EMsg)=>[treeH (⟨some ⟨g,0,none⟩,x1.length,136,p.2,[]⟩:TL T_EMsg)]) (fun (p:Nat×List T_EMsg)=>p.1≤x1.length∧p.2.length=x1.length∧(p.2.take p.1).map GT.dat=(x1.take p.1).map GT.dat) (fun (p:Nat×List T_EMsg)=>x1.length - p.1) [(0,_),(3,_)] [] ?_ sb ms ?_
 ·exact ⟨Nat.zero_le _,by simp,by simp⟩
 ·rintro ⟨k,cur⟩ ⟨hk,hlen,hdat⟩
  dsimp only at hk hlen hdat
  refine kq [0,3,4] ?_
  refine s5 ?_
  refine L_lenS rfl rfl el48.h ?_
  refine s2 ?_
  refine kp [0,3,4,11] ?_
  refine W_cond rfl (fun q3=>?_) (fun q3=>?_)
  ·have hk1:k < x1.length:=by simpa using q3
   obtain ⟨g1,o1,rfl⟩:=rd_addr h1 hk1
   obtain ⟨u1,hu1⟩:=getEl hk1
   have hub:Bk.bulk u1≤1048576:=by have:=bulk_mem (List.mem_of_getElem? hu1);omega
   refine s8 ?_
   refine L_indexAddr rfl rfl rfl el48.h rfl (by omega) ?_
   refine L_loadW rfl rfl (by first | exact RdC.blk mm | exact RdC.old (Cells.el h1 rfl hu1)) (by exact agg133.h) ?_
   refine L_callR rfl fn96.h rfl (by exact fun w hw=>toEMsg_spec w _ (rd_carry (h1.2.2.1 _ (List.mem_of_getElem? hu1)) hw) hub) ?_
   rintro v M1 ⟨u2,hv,hd,rfl⟩
   subst hv
   simp only [List.cons_append,List.nil_append]
   refine L_indexAddr rfl rfl rfl el54.h rfl (by omega) ?_
   obtain ⟨u0,hu0⟩:=getEl (show k < cur.length by omega)
   refine L_storeEl u2 rfl rfl pk rfl hu0 rfl pk (.inl agg136.h) ?_
   refine s3 ?_
   refine L_binV rfl rfl rfl (bv_addR (by unfold inR;omega)) ?_
   refine s2 ?_
   refine ⟨(k+1,cur.set k u2),sb,ms,?_,?_⟩
   ·exact ⟨by dsimp only;omega,by simpa using hlen,map_take_set GT.dat GT.dat hdat (by omega) hu1 hd⟩
   ·dsimp only;omega
  ·refine W_exit ?_
   refine s6 ?_
   refine res1 rfl (ResOK.tmp rfl) ⟨⟨some ⟨g,0,none⟩,x1.length,136,cur,[]⟩,?_,?_,rfl⟩ ms
   ·show _=Value.slice _ cur.length _
    rw [hlen]
   ·have hk2:x1.length≤k:=by simpa using q3
    rw [List.take_of_length_le (by omega),List.take_of_length_le (by omega)] at hdat
    exact hdat
end Go.Proofs.SL
namespace Go.Proofs.SL
open Go
set_option maxHeartbeats 2000000
instance fn58:FnF Tryz.prog 58:=⟨_,Tryz.func58,by kernel_rfl,rfl⟩
instance fn59:FnF Tryz.prog 59:=⟨_,Tryz.func59,by kernel_rfl,rfl⟩
instance fld50_0:FldF Tryz.prog 50 0 0:=⟨by kernel_rfl⟩
instance one47:OneF Tryz.prog 47:=⟨by kernel_rfl⟩
instance fn44:FnF Tryz.prog 44:=⟨_,Tryz.func44,by kernel_rfl,rfl⟩
instance fld50_1:FldF Tryz.prog 50 1 1:=⟨by kernel_rfl⟩
instance one48:OneF Tryz.prog 48:=⟨by kernel_rfl⟩
instance fn45:FnF Tryz.prog 45:=⟨_,Tryz.func45,by kernel_rfl,rfl⟩
instance zero56:ZerF Tryz.prog 56 [.slice none 0 0,.slice none 0 0]:=⟨by kernel_rfl⟩
instance fn50:FnF Tryz.prog 50:=⟨_,Tryz.func50,by kernel_rfl,rfl⟩
instance fn51:FnF Tryz.prog 51:=⟨_,Tryz.func51,by kernel_rfl,rfl⟩
theorem eqENet_spec (w:World) (t1 t2:T_ENet) (h1:GT.rd w [] t1) (h2:GT.rd w [] t2):Spec Tryz.prog 24 [.agg (GT.cells t1).toArray,.agg (GT.cells t2).toArray].toArray w [] (IsV (.bool (eqB (GT.dat t1) (GT.dat t2)))):=by
 obtain ⟨a1,a2⟩:=t1
 obtain ⟨b1,b2⟩:=t2
 change Spec _ _ [Value.agg #[a1.hdr,a2.hdr],Value.agg #[b1.hdr,b2.hdr]].toArray w [] _
 refine Spec.intro Tryz.func24 rfl Tryz.ntmps24 rfl ?_
 refine s2 ?_
 refine bx fun bk2=>?_
 refine bx fun bk3=>?_
 refine s6 ?_
 refine L_load rfl rfl (by first | exact RdC.blk mm) one53.h rfl ?_
 refine s1 ?_
 refine L_load rfl rfl (by first | exact RdC.blk mm) one53.h rfl ?_
 refine L_callX rfl fn58.h rfl (by exact fun w hw=>eqENodeS_spec w _ _ (rd_carry (h1.1) hw) (rd_carry (h2.1) hw)) ?_
 refine s2 ?_
 refine kp [2,3,10] ?_
 refine W_cond rfl (fun q1=>?_) (fun q1=>?_)
 ·refine s5 ?_
  refine res1 rfl (ResOK.tmp rfl) ⟨?_,rfl⟩ ms
  clear h1 h2
  exact eqy
 ·refine s5 ?_
  refine L_load rfl rfl (by first | exact RdC.blk mm) one54.h rfl ?_
  refine s1 ?_
  refine L_load rfl rfl (by first | exact RdC.blk mm) one54.h rfl ?_
  refine L_callX rfl fn59.h rfl (by exact fun w hw=>eqEMsgS_spec w _ _ (rd_carry (h1.2) hw) (rd_carry (h2.2) hw)) ?_
  refine s2 ?_
  refine kp [16] ?_
  refine W_cond rfl (fun q3=>?_) (fun q3=>?_)
  ·refine s5 ?_
   refine res1 rfl (ResOK.tmp rfl) ⟨?_,rfl⟩ ms
   clear h1 h2
   exact eqy
  ·refine s6 ?_
   refine res1 rfl (ResOK.tmp rfl) ⟨?_,rfl⟩ ms
   clear h1 h2
   exact eqy
theorem szENet_spec (w:World) (t1:T_ENet) (left:Int) (hl:0≤left) (hm:left≤1048576) (h1:GT.rd w [] t1) (ho:Ok.ok (GT.dat t1)):Spec Tryz.prog 20 [.agg (GT.cells t1).toArray,.int .i64 left].toArray w [] (IsV (.int .i64 (if (Bk.bulk t1:Int)≤left then left - (Bk.bulk t1:Int) else -1))):=by
 obtain ⟨a1,a2⟩:=t1
 change Spec _ _ [Value.agg #[a1.hdr,a2.hdr],.int .i64 left].toArray w [] _
 refine Spec.intro Tryz.func20 rfl Tryz.ntmps20 rfl ?_
 refine s2 ?_
 refine bx fun bk2=>?_
 refine s5 ?_
 refine L_load rfl rfl (by first | exact RdC.blk mm) one47.h rfl ?_
 refine s1 ?_
 refine L_callX rfl fn44.h rfl (by exact fun w hw=>szENodeS_spec w _ (left) (by omega) (by omega) (rd_carry (h1.1) hw) ho.1) ?_
 refine s8 ?_
 refine kp [1,2,10] ?_
 refine W_cond rfl (fun q2=>?_) (fun q2=>?_)
 ·have hb0:¬ ((Bk.bulk a1:Int)≤left):=by
   intro hn
   rw [if_pos hn] at q2;simp at q2;omega
  refine s5 ?_
  refine res1 rfl (ResOK.tmp rfl) ⟨?_,rfl⟩ ms
  try simp only [bulk_pair,bulk_int,bulk_bool,bulk_str,Int.natCast_add,Int.natCast_zero] at *
  all_goals first
   | rfl
   | (rw [if_pos (by omega)]<;>(congr 1<;>omega))
   | (rw [if_neg (by omega)])
 ·have hb0:(Bk.bulk a1:Int)≤left:=by
   rcases Int.decLt (left) (Bk.bulk a1:Int) with hn | hn
   ·omega
   ·rw [if_neg (by omega)] at q2;simp at q2
  rw [if_pos hb0]
  refine s4 ?_
  refine L_load rfl rfl (by first | exact RdC.blk mm) one48.h rfl ?_
  refine s1 ?_
  refine L_callX rfl fn45.h rfl (by exact fun w hw=>szEMsgS_spec w _ (left - (Bk.bulk a1:Int)) (by omega) (by omega) (rd_carry (h1.2) hw) ho.2) ?_
  refine s8 ?_
  refine kp [1,16] ?_
  refine W_cond rfl (fun q5=>?_) (fun q5=>?_)
  ·have hb1:¬ ((Bk.bulk a2:Int)≤left - (Bk.bulk a1:Int)):=by
    intro hn
    rw [if_pos hn] at q5;simp at q5;omega
   refine s5 ?_
   refine res1 rfl (ResOK.tmp rfl) ⟨?_,rfl⟩ ms
   try simp only [bulk_pair,bulk_int,bulk_bool,bulk_str,Int.natCast_add,Int.natCast_zero] at *
   all_goals first
    | rfl
    | (rw [if_pos (by omega)]<;>(congr 1<;>omega))
    | (rw [if_neg (by omega)])
  ·have hb1:(Bk.bulk a2:Int)≤left - (Bk.bulk a1:Int):=by
    rcases Int.decLt (left - (Bk.bulk a1:Int)) (Bk.bulk a2:Int) with hn | hn
    ·omega
    ·rw [if_neg (by omega)] at q5;simp at q5
   rw [if_pos hb1]
   refine s7 ?_
   refine res1 rfl (ResOK.tmp rfl) ⟨?_,rfl⟩ ms
   try simp only [bulk_pair,bulk_int,bulk_bool,bulk_str,Int.natCast_add,Int.natCast_zero] at *
   all_goals first
    | rfl
    | (rw [if_pos (by omega)]<;>(congr 1<;>omega))
    | (rw [if_neg (by omega)])
theorem toENet_spec (w:World) (t1:T_ENet) (h1:GT.rd w [] t1) (hb:Bk.bulk t1≤1048576):Spec Tryz.prog 22 [.agg (GT.cells t1).toArray].toArray w [] (fun v M=>∃ t2:T_ENet,v=.agg (GT.cells t2).toArray∧GT.dat t2=GT.dat t1∧M=[treeH t2]):=by
 obtain ⟨a1,a2⟩:=t1
 have hbk_0:Bk.bulk a1≤1048576:=by (try simp only [bulk_pair,bulk_int,bulk_bool,bulk_str] at hb ⊢);omega
 have hbk_1:Bk.bulk a2≤1048576:=by (try simp only [bulk_pair,bulk_int,bulk_bool,bulk_str] at hb ⊢);omega
 change Spec _ _ [Value.agg #[a1.hdr,a2.hdr]].toArray w [] _
 refine Spec.intro Tryz.func22 rfl Tryz.ntmps22 rfl ?_
 refine s2 ?_
 refine bx fun bk1=>?_
 refine al fun bk2=>?_
 refine s3 ?_
 refine al fun bk3=>?_
 refine s4 ?_
 refine L_load rfl rfl (by first | exact RdC.blk mm) one47.h rfl ?_
 refine L_callR rfl fn50.h rfl (by exact fun w hw=>toENodeS_spec w _ (rd_carry (h1.1) hw) hbk_0) ?_
 rintro v M1 ⟨n1t,hv,hd0,rfl⟩
 subst hv
 simp only [List.cons_append,List.nil_append]
 refine s6 ?_
 refine L_load rfl rfl (by first | exact RdC.blk mm) one48.h rfl ?_
 refine L_callR rfl fn51.h rfl (by exact fun w hw=>toEMsgS_spec w _ (rd_carry (h1.2) hw) hbk_1) ?_
 rintro v M1 ⟨n2t,hv,hd1,rfl⟩
 subst hv
 simp only [List.cons_append,List.nil_append]
 refine s5 ?_
 refine L_loadW rfl rfl (by first | exact RdC.blk mm) (by exact agg56.h) ?_
 refine L_storeW rfl rfl pk (by exact agg56.h) (by rfl) (by first | (simp [Value.oneCell',TL.hdr];done) | (simp [Value.oneCell',TL.hdr,Value.cells];done) | exact fun v hv=>GT.one _ v hv) ?_
 refine s1 ?_
 refine W_conv (M':=treeH n2t::_) (fun w h=>frontPick pk h) ?_
 refine W_conv (M':=treeH (n1t,n2t)::_) (fun w h=>pairPick pk h) ?_
 refine s1 ?_
 refine res1 rfl (ResOK.cell rfl mm (by exact agg56.h)) ⟨(n1t,n2t),rfl,by simp only [dat_pair,hd0,hd1],rfl⟩ ms
end Go.Proofs.SL
namespace Go.Proofs.SL
open Go
instance agg50:AggF Tryz.prog 50 2:=⟨by kernel_rfl⟩
instance fn20:FnF Tryz.prog 20:=⟨_,Tryz.func20,by kernel_rfl,rfl⟩
instance fn22:FnF Tryz.prog 22:=⟨_,Tryz.func22,by kernel_rfl,rfl⟩
instance fn21:FnF Tryz.prog 21:=⟨_,Tryz.func21,by kernel_rfl,rfl⟩
instance fn23:FnF Tryz.prog 23:=⟨_,Tryz.func23,by kernel_rfl,rfl⟩
instance fn24:FnF Tryz.prog 24:=⟨_,Tryz.func24,by kernel_rfl,rfl⟩
theorem sAlike_spec (w:World) (a0:T_ENet) (h0:GT.rd w [] a0) (ho0:Ok.ok (GT.dat a0)) (hs0:Bd.bd (τ:=T_ENet) (GT.dat a0)≤1048576):Spec Tryz.prog 21 [.agg (GT.cells a0).toArray].toArray w [] (IsV (.bool (alikeB (GT.dat a0)))):=s_Alike_walk w a0 h0 _ (s_Alike_eq ho0 (small_net hs0))
theorem iAlike_spec (w:World) (a0:T_ENet) (h0:GT.rd w [] a0) (ho0:Ok.ok (GT.dat a0)) (hs0:Bd.bd (τ:=T_ENet) (GT.dat a0)≤1048576):Spec Tryz.prog 23 [.agg (GT.cells a0).toArray].toArray w [] (IsV (.bool (alikeB (GT.dat a0)))):=i_Alike_walk w a0 h0 _ (i_Alike_eq ho0 (small_net hs0))
theorem lawFnExactAlike (w:World) (t1:T_ENet) (h1:GT.rd w [] t1) (ho1:Ok.ok (GT.dat t1)) :Spec Tryz.prog 5 [.agg (GT.cells t1).toArray].toArray w [] (IsV (.bool true)):=by
 refine Spec.intro Tryz.func5 rfl Tryz.ntmps5 rfl ?_
 refine s2 ?_
 refine bx fun bk1=>?_
 refine s8 ?_
 refine L_loadW rfl rfl (by first | exact RdC.blk mm) (by exact agg50.h) ?_
 refine s1 ?_
 refine L_callX rfl fn20.h rfl (by exact fun w hw=>szENet_spec w t1 (1048576) (by omega) (by omega) (rd_carry h1 hw) ho1) ?_
 refine s8 ?_
 refine kp [1,11] ?_
 refine W_cond rfl (fun q3=>?_) (fun q3=>?_)
 ·refine s5 ?_
  refine res1 rfl (ResOK.tmp rfl) ⟨?_,rfl⟩ ms
  first
   | rfl
   | (rename_i hz;simp [*] at hz;done)
   | (simp_all;done)
 ·have hb1:(Bk.bulk t1:Int)≤1048576:=by
   rcases Int.decLt (1048576) (Bk.bulk t1:Int) with hn | hn
   ·omega
   ·rw [if_neg (by omega)] at q3;simp at q3
  rw [if_pos hb1]
  refine s3 ?_
  refine L_loadW rfl rfl (by first | exact RdC.blk mm) (by exact agg50.h) ?_
  refine L_callR rfl fn22.h rfl (by exact fun w hw=>toENet_spec w _ (rd_carry h1 hw) (by omega)) ?_
  rintro v M1 ⟨n1,hv,hd1,rfl⟩
  subst hv
  simp only [List.cons_append,List.nil_append]
  refine L_callX rfl fn21.h rfl (by exact fun w hw=>sAlike_spec w n1 (rd_of_tree mm hw.sees) (by rw [hd1];exact ho1) (by first | (rw [hd1,← Bd.eq];omega) | (rw [hd2,← Bd.eq];omega))) ?_
  refine s4 ?_
  refine L_loadW rfl rfl (by first | exact RdC.blk mm) (by exact agg50.h) ?_
  refine L_callR rfl fn22.h rfl (by exact fun w hw=>toENet_spec w _ (rd_carry h1 hw) (by omega)) ?_
  rintro v M1 ⟨n2,hv,hd2,rfl⟩
  subst hv
  simp only [List.cons_append,List.nil_append]
  refine al fun bk5=>?_
  refine L_storeW rfl rfl pk (by exact agg56.h) (by rfl) (by first | (simp [Value.oneCell',TL.hdr];done) | (simp [Value.oneCell',TL.hdr,Value.cells];done) | exact fun v hv=>GT.one _ v hv) ?_
  refine s3 ?_
  refine L_loadW rfl rfl (by first | exact RdC.blk mm) (by exact agg56.h) ?_
  refine L_callX rfl fn23.h rfl (by exact fun w hw=>iAlike_spec w n2 (rd_of_tree mm hw.sees) (by rw [hd2];exact ho1) (by first | (rw [hd1,← Bd.eq];omega) | (rw [hd2,← Bd.eq];omega))) ?_
  refine s9 ?_
  refine kp [1,5,21] ?_
  refine W_cond rfl (fun q8=>?_) (fun q8=>?_)
  ·refine s5 ?_
   refine res1 rfl (ResOK.tmp rfl) ⟨?_,rfl⟩ ms
   first
    | rfl
    | (rename_i hz;simp [*] at hz;done)
    | (simp_all;done)
  ·refine s3 ?_
   refine W_D0 [26] mix (by kernel_rfl) rfl ?_
   refine D_loadW GC.none (OpV.t rfl) (fun hg=>(by first | exact RdC.blk mm)) (by exact agg56.h) ?_
   refine D_loadW GC.none (OpV.t rfl) (fun hg=>(by first | exact RdC.blk mm)) (by exact agg50.h) ?_
   refine D_call1R (fun v M=>∃ m:T_ENet,v=.agg (GT.cells m).toArray∧GT.dat m=GT.dat t1∧M=[treeH m]) fn22.h (OpVs.cons (OpV.t rfl) (OpVs.nil)) (by exact fun w F hF hM=>(fun w hw=>toENet_spec w _ (rd_carry h1 hw) (by omega)) w hF) ?_
   refine D_callR [_,_] (FC True (.bool true)) fn24.h ⟨⟨_,rfl,fun _ _ h=>h⟩,⟨_,rfl,fun _ _ h=>h⟩,trivial⟩ (by
    rintro w F vs hw hM ⟨v1,u1,M1,rfl,⟨rfl,hx1,_⟩,_,v2,u2,M2,rfl,⟨m2,rfl,hd2x,rfl⟩,hin,rfl⟩
    obtain rfl:=hx1 trivial
    have h:=eqENet_spec w n2 m2 (rd_of_tree (hM _ mm) hw.sees) (rd_of_tree (hin _ (List.mem_singleton.2 rfl)) hw.sees)
    rw [eqB_true.2 (hd2.trans hd2x.symm)] at h
    exact h.toFC) ?_
   refine s8 ?_
   refine kp [26] ?_
   refine W_condF rfl ?_
   refine s6 ?_
   refine res1 rfl (ResOK.tmp rfl) ⟨?_,rfl⟩ ms
   first
    | rfl
    | (rename_i hz;simp [*] at hz;done)
    | (simp_all;done)
end Go.Proofs.SL
