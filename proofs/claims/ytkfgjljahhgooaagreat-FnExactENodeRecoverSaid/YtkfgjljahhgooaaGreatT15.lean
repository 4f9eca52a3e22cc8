/- The texts of the proof, part 15: the base, walks of functions, plain Lean. -/
import Derived.Test.YtkfgjljahhgooaaGreatRows
import Derived.Test.YtkfgjljahhgooaaGreatT13
import Derived.Test.YtkfgjljahhgooaaGreatT14
import Derived.Test.YtkfgjljahhgooaaGreatT5
namespace Go.Proofs.SL
open Go
set_option maxHeartbeats 2000000
instance fn80:FnF Tryz.prog 80:=⟨_,Tryz.func80,by kernel_rfl,rfl⟩
instance fn33:FnF Tryz.prog 33:=⟨_,Tryz.func33,by kernel_rfl,rfl⟩
instance fn145:FnF Tryz.prog 145:=⟨_,Tryz.func145,by kernel_rfl,rfl⟩
instance und4:UndF Tryz.prog 4 (.bool):=⟨by kernel_rfl⟩
instance fld142_4:FldF Tryz.prog 142 4 5:=⟨by kernel_rfl⟩
instance agg65:AggF Tryz.prog 65 8:=⟨by kernel_rfl⟩
instance fn29:FnF Tryz.prog 29:=⟨_,Tryz.func29,by kernel_rfl,rfl⟩
instance fld142_6:FldF Tryz.prog 142 6 14:=⟨by kernel_rfl⟩
instance one140:OneF Tryz.prog 140:=⟨by kernel_rfl⟩
instance fn179:FnF Tryz.prog 179:=⟨_,Tryz.func179,by kernel_rfl,rfl⟩
instance fld142_0:FldF Tryz.prog 142 0 0:=⟨by kernel_rfl⟩
instance fld142_1:FldF Tryz.prog 142 1 2:=⟨by kernel_rfl⟩
instance fld142_2:FldF Tryz.prog 142 2 3:=⟨by kernel_rfl⟩
instance fld142_3:FldF Tryz.prog 142 3 4:=⟨by kernel_rfl⟩
instance fn31:FnF Tryz.prog 31:=⟨_,Tryz.func31,by kernel_rfl,rfl⟩
instance fld142_5:FldF Tryz.prog 142 5 13:=⟨by kernel_rfl⟩
instance fn181:FnF Tryz.prog 181:=⟨_,Tryz.func181,by kernel_rfl,rfl⟩
instance fld142_7:FldF Tryz.prog 142 7 15:=⟨by kernel_rfl⟩
instance fn142:FnF Tryz.prog 142:=⟨_,Tryz.func142,by kernel_rfl,rfl⟩
instance el53:ElF Tryz.prog 53 142 16 184 [.int .i64 0,.int .i64 0,.int .i64 0,.int .i64 0,.int .i64 0,.int .i64 0,.int .i64 0,.int .i64 0,.string ByteArray.empty,.string ByteArray.empty,.string ByteArray.empty,.int .i64 0,.slice none 0 0,.int .i64 0,.slice none 0 0,.bool false]:=⟨by kernel_rfl⟩
instance agg142:AggF Tryz.prog 142 16:=⟨by kernel_rfl⟩
instance fn138:FnF Tryz.prog 138:=⟨_,Tryz.func138,by kernel_rfl,rfl⟩
instance fn140:FnF Tryz.prog 140:=⟨_,Tryz.func140,by kernel_rfl,rfl⟩
instance fn83:FnF Tryz.prog 83:=⟨_,Tryz.func83,by kernel_rfl,rfl⟩
instance fn84:FnF Tryz.prog 84:=⟨_,Tryz.func84,by kernel_rfl,rfl⟩
theorem eqInst_spec (w:World) (t1 t2:T_Inst) (h1:GT.rd w [] t1) (h2:GT.rd w [] t2):Spec Tryz.prog 142 [.agg (GT.cells t1).toArray,.agg (GT.cells t2).toArray].toArray w [] (IsV (.bool (eqB (GT.dat t1) (GT.dat t2)))):=by
 obtain ⟨⟨a11,a12⟩,a2,a3,a4,⟨a51,a52,a53,a54,a55,a56,a57,a58⟩,a6,a7,a8⟩:=t1
 obtain ⟨⟨b11,b12⟩,b2,b3,b4,⟨b51,b52,b53,b54,b55,b56,b57,b58⟩,b6,b7,b8⟩:=t2
 change Spec _ _ [Value.agg #[.int .i64 a11,.int .i64 a12,.int .i64 a2,.int .i64 a3,.int .i64 a4,.int .i64 a51,.int .i64 a52,.int .i64 a53,.string a54,.string a55,.string a56,.int .i64 a57,a58.hdr,.int .i64 a6,a7.hdr,.bool a8],Value.agg #[.int .i64 b11,.int .i64 b12,.int .i64 b2,.int .i64 b3,.int .i64 b4,.int .i64 b51,.int .i64 b52,.int .i64 b53,.string b54,.string b55,.string b56,.int .i64 b57,b58.hdr,.int .i64 b6,b7.hdr,.bool b8]].toArray w [] _
 refine Spec.intro Tryz.func142 rfl Tryz.ntmps142 rfl ?_
 refine s2 ?_
 refine bx fun bk2=>?_
 refine bx fun bk3=>?_
 refine s6 ?_
 refine L_loadW rfl rfl (RdC.seg (by first | exact RdC.blk mm) 0 2 rfl) (by exact agg29.h) ?_
 refine s1 ?_
 refine L_loadW rfl rfl (RdC.seg (by first | exact RdC.blk mm) 0 2 rfl) (by exact agg29.h) ?_
 refine L_callX rfl fn144.h rfl (by exact fun w hw=>eqId_spec w (a11,a12) (b11,b12) (rd_carry (h1.1) hw) (rd_carry (h2.1) hw)) ?_
 refine s2 ?_
 refine kp [2,3,10] ?_
 refine W_cond rfl (fun q1=>?_) (fun q1=>?_)
 ·refine s5 ?_
  refine res1 rfl (ResOK.tmp rfl) ⟨?_,rfl⟩ ms
  clear h1 h2
  exact eqx
 ·refine s5 ?_
  refine L_load rfl rfl (by first | exact RdC.blk mm) one3.h rfl ?_
  refine s1 ?_
  refine L_load rfl rfl (by first | exact RdC.blk mm) one3.h rfl ?_
  refine s2 ?_
  refine kp [2,3,15] ?_
  refine W_cond rfl (fun q3=>?_) (fun q3=>?_)
  ·refine s5 ?_
   refine res1 rfl (ResOK.tmp rfl) ⟨?_,rfl⟩ ms
   clear h1 h2
   exact eqx
  ·refine s5 ?_
   refine L_load rfl rfl (by first | exact RdC.blk mm) one3.h rfl ?_
   refine s1 ?_
   refine L_load rfl rfl (by first | exact RdC.blk mm) one3.h rfl ?_
   refine s2 ?_
   refine kp [2,3,20] ?_
   refine W_cond rfl (fun q5=>?_) (fun q5=>?_)
   ·refine s5 ?_
    refine res1 rfl (ResOK.tmp rfl) ⟨?_,rfl⟩ ms
    clear h1 h2
    exact eqx
   ·refine s5 ?_
    refine L_load rfl rfl (by first | exact RdC.blk mm) one3.h rfl ?_
    refine s1 ?_
    refine L_load rfl rfl (by first | exact RdC.blk mm) one3.h rfl ?_
    refine s2 ?_
    refine kp [2,3,25] ?_
    refine W_cond rfl (fun q7=>?_) (fun q7=>?_)
    ·refine s5 ?_
     refine res1 rfl (ResOK.tmp rfl) ⟨?_,rfl⟩ ms
     clear h1 h2
     exact eqx
    ·refine s5 ?_
     refine L_loadW rfl rfl (RdC.seg (by first | exact RdC.blk mm) 5 8 rfl) (by exact agg32.h) ?_
     refine s1 ?_
     refine L_loadW rfl rfl (RdC.seg (by first | exact RdC.blk mm) 5 8 rfl) (by exact agg32.h) ?_
     refine L_callX rfl fn33.h rfl (by exact fun w hw=>eqCmd_spec w (a51,a52,a53,a54,a55,a56,a57,a58) (b51,b52,b53,b54,b55,b56,b57,b58) (rd_carry (h1.2.2.2.2.1) hw) (rd_carry (h2.2.2.2.2.1) hw)) ?_
     refine s2 ?_
     refine kp [2,3,31] ?_
     refine W_cond rfl (fun q9=>?_) (fun q9=>?_)
     ·refine s5 ?_
      refine res1 rfl (ResOK.tmp rfl) ⟨?_,rfl⟩ ms
      clear h1 h2
      exact eqx
     ·refine s5 ?_
      refine L_load rfl rfl (by first | exact RdC.blk mm) one3.h rfl ?_
      refine s1 ?_
      refine L_load rfl rfl (by first | exact RdC.blk mm) one3.h rfl ?_
      refine s2 ?_
      refine kp [2,3,36] ?_
      refine W_cond rfl (fun q11=>?_) (fun q11=>?_)
      ·refine s5 ?_
       refine res1 rfl (ResOK.tmp rfl) ⟨?_,rfl⟩ ms
       clear h1 h2
       exact eqx
      ·refine s5 ?_
       refine L_load rfl rfl (by first | exact RdC.blk mm) one33.h rfl ?_
       refine s1 ?_
       refine L_load rfl rfl (by first | exact RdC.blk mm) one33.h rfl ?_
       refine L_callX rfl fn145.h rfl (by exact fun w hw=>eqIdS_spec w _ _ (rd_carry (h1.2.2.2.2.2.2.1) hw) (rd_carry (h2.2.2.2.2.2.2.1) hw)) ?_
       refine s2 ?_
       refine kp [2,3,42] ?_
       refine W_cond rfl (fun q13=>?_) (fun q13=>?_)
       ·refine s5 ?_
        refine res1 rfl (ResOK.tmp rfl) ⟨?_,rfl⟩ ms
        clear h1 h2
        exact eqx
       ·refine s5 ?_
        refine L_load rfl rfl (by first | exact RdC.blk mm) one4.h rfl ?_
        refine s1 ?_
        refine L_load rfl rfl (by first | exact RdC.blk mm) one4.h rfl ?_
        refine s2 ?_
        refine kp [47] ?_
        refine W_cond rfl (fun q15=>?_) (fun q15=>?_)
        ·refine s5 ?_
         refine res1 rfl (ResOK.tmp rfl) ⟨?_,rfl⟩ ms
         clear h1 h2
         exact eqx
        ·refine s6 ?_
         refine res1 rfl (ResOK.tmp rfl) ⟨?_,rfl⟩ ms
         clear h1 h2
         exact eqx
theorem szInst_spec (w:World) (t1:T_Inst) (left:Int) (hl:0≤left) (hm:left≤1048576) (h1:GT.rd w [] t1) (ho:Ok.ok (GT.dat t1)):Spec Tryz.prog 138 [.agg (GT.cells t1).toArray,.int .i64 left].toArray w [] (IsV (.int .i64 (if (Bk.bulk t1:Int)≤left then left - (Bk.bulk t1:Int) else -1))):=by
 obtain ⟨⟨a11,a12⟩,a2,a3,a4,⟨a51,a52,a53,a54,a55,a56,a57,a58⟩,a6,a7,a8⟩:=t1
 change Spec _ _ [Value.agg #[.int .i64 a11,.int .i64 a12,.int .i64 a2,.int .i64 a3,.int .i64 a4,.int .i64 a51,.int .i64 a52,.int .i64 a53,.string a54,.string a55,.string a56,.int .i64 a57,a58.hdr,.int .i64 a6,a7.hdr,.bool a8],.int .i64 left].toArray w [] _
 refine Spec.intro Tryz.func138 rfl Tryz.ntmps138 rfl ?_
 refine s2 ?_
 refine bx fun bk2=>?_
 refine s5 ?_
 refine L_loadW rfl rfl (RdC.seg (by first | exact RdC.blk mm) 5 8 rfl) (by exact agg65.h) ?_
 refine s1 ?_
 refine L_callX rfl fn29.h rfl (by exact fun w hw=>szCmd_spec w (a51,a52,a53,a54,a55,a56,a57,a58) (left) (by omega) (by omega) (rd_carry (h1.2.2.2.2.1) hw) ho.2.2.2.2.1) ?_
 refine s8 ?_
 refine kp [1,2,10] ?_
 refine W_cond rfl (fun q2=>?_) (fun q2=>?_)
 ·have hb4:¬ ((Bk.bulk (a51,a52,a53,a54,a55,a56,a57,a58):Int)≤left):=by
   intro hn
   rw [if_pos hn] at q2;simp at q2;omega
  refine s5 ?_
  refine res1 rfl (ResOK.tmp rfl) ⟨?_,rfl⟩ ms
  try simp only [bulk_pair,bulk_int,bulk_bool,bulk_str,Int.natCast_add,Int.natCast_zero] at *
  all_goals first
   | rfl
   | (rw [if_pos (by omega)]<;>(congr 1<;>omega))
   | (rw [if_neg (by omega)])
 ·have hb4:(Bk.bulk (a51,a52,a53,a54,a55,a56,a57,a58):Int)≤left:=by
   rcases Int.decLt (left) (Bk.bulk (a51,a52,a53,a54,a55,a56,a57,a58):Int) with hn | hn
   ·omega
   ·rw [if_neg (by omega)] at q2;simp at q2
  rw [if_pos hb4]
  refine s4 ?_
  refine L_load rfl rfl (by first | exact RdC.blk mm) one140.h rfl ?_
  refine s1 ?_
  refine L_callX rfl fn179.h rfl (by exact fun w hw=>szIdS_spec w _ (left - (Bk.bulk (a51,a52,a53,a54,a55,a56,a57,a58):Int)) (by omega) (by omega) (rd_carry (h1.2.2.2.2.2.2.1) hw) ho.2.2.2.2.2.2.1) ?_
  refine s8 ?_
  refine kp [1,16] ?_
  refine W_cond rfl (fun q5=>?_) (fun q5=>?_)
  ·have hb6:¬ ((Bk.bulk a7:Int)≤left - (Bk.bulk (a51,a52,a53,a54,a55,a56,a57,a58):Int)):=by
    intro hn
    rw [if_pos hn] at q5;simp at q5;omega
   refine s5 ?_
   refine res1 rfl (ResOK.tmp rfl) ⟨?_,rfl⟩ ms
   try simp only [bulk_pair,bulk_int,bulk_bool,bulk_str,Int.natCast_add,Int.natCast_zero] at *
   all_goals first
    | rfl
    | (rw [if_pos (by omega)]<;>(congr 1<;>omega))
    | (rw [if_neg (by omega)])
  ·have hb6:(Bk.bulk a7:Int)≤left - (Bk.bulk (a51,a52,a53,a54,a55,a56,a57,a58):Int):=by
    rcases Int.decLt (left - (Bk.bulk (a51,a52,a53,a54,a55,a56,a57,a58):Int)) (Bk.bulk a7:Int) with hn | hn
    ·omega
    ·rw [if_neg (by omega)] at q5;simp at q5
   rw [if_pos hb6]
   refine s7 ?_
   refine res1 rfl (ResOK.tmp rfl) ⟨?_,rfl⟩ ms
   try simp only [bulk_pair,bulk_int,bulk_bool,bulk_str,Int.natCast_add,Int.natCast_zero] at *
   all_goals first
    | rfl
    | (rw [if_pos (by omega)]<;>(congr 1<;>omega))
    | (rw [if_neg (by omega)])
theorem toInst_spec (w:World) (t1:T_Inst) (h1:GT.rd w [] t1) (hb:Bk.bulk t1≤1048576):Spec Tryz.prog 140 [.agg (GT.cells t1).toArray].toArray w [] (fun v M=>∃ t2:T_Inst,v=.agg (GT.cells t2).toArray∧GT.dat t2=GT.dat t1∧M=[treeH t2]):=by
 obtain ⟨⟨a11,a12⟩,a2,a3,a4,⟨a51,a52,a53,a54,a55,a56,a57,a58⟩,a6,a7,a8⟩:=t1
 have hbk_0:Bk.bulk (a11,a12)≤1048576:=by (try simp only [bulk_pair,bulk_int,bulk_bool,bulk_str] at hb ⊢);omega
 have hbk_4:Bk.bulk (a51,a52,a53,a54,a55,a56,a57,a58)≤1048576:=by (try simp only [bulk_pair,bulk_int,bulk_bool,bulk_str] at hb ⊢);omega
 have hbk_6:Bk.bulk a7≤1048576:=by (try simp only [bulk_pair,bulk_int,bulk_bool,bulk_str] at hb ⊢);omega
 change Spec _ _ [Value.agg #[.int .i64 a11,.int .i64 a12,.int .i64 a2,.int .i64 a3,.int .i64 a4,.int .i64 a51,.int .i64 a52,.int .i64 a53,.string a54,.string a55,.string a56,.int .i64 a57,a58.hdr,.int .i64 a6,a7.hdr,.bool a8]].toArray w [] _
 refine Spec.intro Tryz.func140 rfl Tryz.ntmps140 rfl ?_
 refine s2 ?_
 refine bx fun bk1=>?_
 refine al fun bk2=>?_
 refine s3 ?_
 refine al fun bk3=>?_
 refine s4 ?_
 refine L_loadW rfl rfl (RdC.seg (by first | exact RdC.blk mm) 0 2 rfl) (by exact agg57.h) ?_
 refine L_callR rfl fn22.h rfl (by exact fun w hw=>toId_spec w (a11,a12) (rd_carry (h1.1) hw) hbk_0) ?_
 rintro v M1 ⟨n1t,hv,hd0,rfl⟩
 obtain ⟨n11,n12⟩:=n1t
 subst hv
 simp only [List.cons_append,List.nil_append]
 refine s1 ?_
 refine L_storeA (fo:=0) rfl rfl pk (by exact agg29.h) (Nat.le_of_ble_eq_true rfl) (by first | (simp [Value.oneCell',TL.hdr];done) | (simp [Value.oneCell',TL.hdr,Value.cells];done) | exact fun v hv=>GT.one _ v hv) (by simp only [cells_pair,cells_int,cells_bool,cells_str,cells_TL,List.take_zero,List.take_succ_cons,List.drop_zero,List.drop_succ_cons,List.set_cons_zero,List.set_cons_succ,List.length_cons,List.length_nil,List.cons_append,List.nil_append,List.append_nil,Nat.zero_add,Nat.reduceAdd];rfl) ?_
 refine s4 ?_
 refine L_load rfl rfl (by first | exact RdC.blk mm) one3.h rfl ?_
 refine s6 ?_
 refine L_load rfl rfl (by first | exact RdC.blk mm) one3.h rfl ?_
 refine s6 ?_
 refine L_load rfl rfl (by first | exact RdC.blk mm) one3.h rfl ?_
 refine s6 ?_
 refine L_loadW rfl rfl (RdC.seg (by first | exact RdC.blk mm) 5 8 rfl) (by exact agg65.h) ?_
 refine L_callR rfl fn31.h rfl (by exact fun w hw=>toCmd_spec w (a51,a52,a53,a54,a55,a56,a57,a58) (rd_carry (h1.2.2.2.2.1) hw) hbk_4) ?_
 rintro v M1 ⟨n5t,hv,hd4,rfl⟩
 obtain ⟨n51,n52,n53,n54,n55,n56,n57,n58⟩:=n5t
 subst hv
 simp only [List.cons_append,List.nil_append]
 refine s1 ?_
 refine L_storeA (fo:=5) rfl rfl pk (by exact agg32.h) (Nat.le_of_ble_eq_true rfl) (by first | (simp [Value.oneCell',TL.hdr];done) | (simp [Value.oneCell',TL.hdr,Value.cells];done) | exact fun v hv=>GT.one _ v hv) (by simp only [cells_pair,cells_int,cells_bool,cells_str,cells_TL,List.take_zero,List.take_succ_cons,List.drop_zero,List.drop_succ_cons,List.set_cons_zero,List.set_cons_succ,List.length_cons,List.length_nil,List.cons_append,List.nil_append,List.append_nil,Nat.zero_add,Nat.reduceAdd];rfl) ?_
 refine s4 ?_
 refine L_load rfl rfl (by first | exact RdC.blk mm) one3.h rfl ?_
 refine s6 ?_
 refine L_load rfl rfl (by first | exact RdC.blk mm) one140.h rfl ?_
 refine L_callR rfl fn181.h rfl (by exact fun w hw=>toIdS_spec w _ (rd_carry (h1.2.2.2.2.2.2.1) hw) hbk_6) ?_
 rintro v M1 ⟨n7t,hv,hd6,rfl⟩
 subst hv
 simp only [List.cons_append,List.nil_append]
 refine s6 ?_
 refine L_load rfl rfl (by first | exact RdC.blk mm) one4.h rfl ?_
 refine s5 ?_
 refine L_loadW rfl rfl (by first | exact RdC.blk mm) (by exact agg45.h) ?_
 refine L_storeW rfl rfl pk (by exact agg45.h) (by rfl) (by first | (simp [Value.oneCell',TL.hdr];done) | (simp [Value.oneCell',TL.hdr,Value.cells];done) | exact fun v hv=>GT.one _ v hv) ?_
 refine s1 ?_
 refine W_conv (M':=treeH (n7t,a8)::_) (fun w h=>pairPick pk (h.addFlat (flat_bool _))) ?_
 refine W_conv (M':=treeH (a6,n7t,a8)::_) (fun w h=>tree_snd (flat_int (h1.2.2.2.2.2.1)) h) ?_
 refine W_conv (M':=treeH ((n51,n52,n53,n54,n55,n56,n57,n58),a6,n7t,a8)::_) (fun w h=>pairPick pk h) ?_
 refine W_conv (M':=treeH (a4,(n51,n52,n53,n54,n55,n56,n57,n58),a6,n7t,a8)::_) (fun w h=>tree_snd (flat_int (h1.2.2.2.1)) h) ?_
 refine W_conv (M':=treeH (a3,a4,(n51,n52,n53,n54,n55,n56,n57,n58),a6,n7t,a8)::_) (fun w h=>tree_snd (flat_int (h1.2.2.1)) h) ?_
 refine W_conv (M':=treeH (a2,a3,a4,(n51,n52,n53,n54,n55,n56,n57,n58),a6,n7t,a8)::_) (fun w h=>tree_snd (flat_int (h1.2.1)) h) ?_
 refine W_conv (M':=treeH ((n11,n12),a2,a3,a4,(n51,n52,n53,n54,n55,n56,n57,n58),a6,n7t,a8)::_) (fun w h=>pairPick pk h) ?_
 refine s1 ?_
 refine res1 rfl (ResOK.cell rfl mm (by exact agg45.h)) ⟨((n11,n12),a2,a3,a4,(n51,n52,n53,n54,n55,n56,n57,n58),a6,n7t,a8),rfl,by simp only [dat_pair,hd0,hd4,hd6],rfl⟩ ms
theorem eqInstS_spec (w:World) (t1 t2:TL T_Inst) (h1:GT.rd w [] t1) (h2:GT.rd w [] t2):Spec Tryz.prog 73 [t1.hdr,t2.hdr].toArray w [] (IsV (.bool (eqB (GT.dat t1) (GT.dat t2)))):=by
 obtain ⟨a1,c1,e1,x1,y1⟩:=t1
 obtain ⟨a2,c2,e2,x2,y2⟩:=t2
 have hm1:x1.length≤9223372036854775807:=rd_len h1
 have hm2:x2.length≤9223372036854775807:=rd_len h2
 dsimp only [TL.hdr]
 refine Spec.intro Tryz.func73 rfl Tryz.ntmps73 rfl ?_
 refine s8 ?_
 refine L_lenS rfl rfl el24.h ?_
 refine s1 ?_
 refine L_lenS rfl rfl el24.h ?_
 refine s2 ?_
 refine kp [0,1,10] ?_
 refine W_cond rfl (fun q1=>?_) (fun q1=>?_)
 ·refine s5 ?_
  refine res1 rfl (ResOK.tmp rfl) ⟨?_,rfl⟩ ms
  refine congrArg Value.bool (Eq.symm (eqB_false.2 fun e=>?_))
  simp at q1
  exact q1 (by have:=congrArg List.length e;simp [dat_TL] at this;omega)
 ·have hl:x1.length=x2.length:=by simp at q1;omega
  refine s7 ?_
  refine W_loopC (σ:=Nat) 0 (fun (k:Nat)=>[(5,.int .i64 (k:Int))]) (fun (k:Nat)=>[]) (fun (k:Nat)=>k≤x1.length∧(x1.map GT.dat).take k=(x2.map GT.dat).take k) (fun (k:Nat)=>x1.length - k) [(0,_),(1,_)] [] ?_ sb ms ?_
  ·exact ⟨Nat.zero_le _,rfl⟩
  ·rintro k ⟨hk,ht⟩
   refine kq [0,1,5] ?_
   refine s5 ?_
   refine L_lenS rfl rfl el24.h ?_
   refine s2 ?_
   refine kp [0,1,5,14] ?_
   refine W_cond rfl (fun q4=>?_) (fun q4=>?_)
   ·have hk1:k < x1.length:=by simpa using q4
    obtain ⟨g1,o1,rfl⟩:=rd_addr h1 hk1
    obtain ⟨g2,o2,rfl⟩:=rd_addr (k:=k) h2 (show k < x2.length by omega)
    obtain ⟨u1,hu1⟩:=getEl hk1
    obtain ⟨u2,hu2⟩:=getEl (show k < x2.length by omega)
    refine s4 ?_
    refine W_D0 [26] mix (by kernel_rfl) rfl ?_
    refine s2 ?_
    refine D_indexAddr _ GC.none (OpV.t rfl) (OpV.t rfl) el24.h (fun hg=>⟨rfl,by (try dsimp only);omega⟩) ?_
    refine D_loadW GC.none (OpV.t rfl) (fun hg=>(by first | exact RdC.blk mm | exact RdC.old (Cells.el h1 rfl hu1) | exact RdC.old (Cells.el h2 rfl hu2))) (by exact agg45.h) ?_
    refine s2 ?_
    refine D_indexAddr _ GC.none (OpV.t rfl) (OpV.t rfl) el24.h (fun hg=>⟨rfl,by (try dsimp only);omega⟩) ?_
    refine D_loadW GC.none (OpV.t rfl) (fun hg=>(by first | exact RdC.blk mm | exact RdC.old (Cells.el h1 rfl hu1) | exact RdC.old (Cells.el h2 rfl hu2))) (by exact agg45.h) ?_
    refine D_callX GC.none fn142.h (OpVs.cons (OpV.t rfl) (OpVs.cons (OpV.t rfl) (OpVs.nil))) (by exact fun hg w F hF hM=>(fun w hw=>eqInst_spec w _ _ (rd_carry (h1.2.2.1 _ (List.mem_of_getElem? hu1)) hw) (rd_carry (h2.2.2.1 _ (List.mem_of_getElem? hu2)) hw)) w hF) ?_
    refine s13 ?_
    refine kp [0,1,5,26] ?_
    refine W_cond rfl (fun q6=>?_) (fun q6=>?_)
    ·refine s5 ?_
     refine res1 rfl (ResOK.tmp rfl) ⟨?_,rfl⟩ ms
     refine congrArg Value.bool (Eq.symm (eqB_false.2 fun e=>?_))
     simp at q6
     replace e:x1.map GT.dat=x2.map GT.dat:=e
     have e2:=congrArg (fun l=>l[k]?) e
     simp only [List.getElem?_map,hu1,hu2,Option.map_some,Option.some.injEq] at e2
     exact q6 (by simpa [dat_int,dat_str,dat_bool] using e2)
    ·refine s3 ?_
     refine L_binV rfl rfl rfl (bv_addR (by unfold inR;omega)) ?_
     refine s2 ?_
     refine ⟨k+1,sb,ms,?_,?_⟩
     ·exact ⟨by omega,take_succ_eq ht (by rw [List.getElem?_map,hu1];rfl) (by rw [List.getElem?_map,hu2];rfl) (by simpa [dat_int,dat_str,dat_bool] using q6)⟩
     ·(try dsimp only);omega
   ·refine W_exit ?_
    refine s5 ?_
    refine res1 rfl (ResOK.tmp rfl) ⟨?_,rfl⟩ ms
    refine congrArg Value.bool (Eq.symm (eqB_true.2 ?_))
    have hk2:x1.length≤k:=by simpa using q4
    have h3:=ht
    rw [List.take_of_length_le (by simp;omega),List.take_of_length_le (by simp;omega)] at h3
    exact h3
theorem szInstS_spec (w:World) (t1:TL T_Inst) (left:Int) (hl:0≤left) (hm:left≤1048576) (h1:GT.rd w [] t1) (ho:Ok.ok (GT.dat t1)):Spec Tryz.prog 69 [t1.hdr,.int .i64 left].toArray w [] (IsV (.int .i64 (if (Bk.bulk t1:Int)≤left then left - (Bk.bulk t1:Int) else -1))):=by
  obtain ⟨a1,c1,e1,x1,y1⟩:=t1
  have hm1:x1.length≤9223372036854775807:=rd_len h1
  rw [bulk_TL]
  dsimp only [TL.hdr]
  refine Spec.intro Tryz.func69 rfl Tryz.ntmps69 rfl ?_
  refine s8 ?_
  refine L_lenS rfl rfl el53.h ?_
  refine L_binV rfl rfl rfl (bv_subR (by unfold inR;omega)) ?_
  refine s8 ?_
  refine kp [0,1,11] ?_
  refine W_cond rfl (fun q2=>?_) (fun q2=>?_)
  · have hb0:left - (x1.length:Int) < 0:=by simpa using q2
    refine s5 ?_
    refine res1 rfl (ResOK.tmp rfl) ⟨?_,rfl⟩ ms
    first
      | (rw [if_neg (by simp only [Int.natCast_add];omega)];done)
      | (rw [if_neg (by have:=bulks_take_le x1 (k+1);simp only [Int.natCast_add];omega)];done)
      | (have hk2:x1.length≤k:=by simpa using q5
         rw [List.take_of_length_le hk2] at ht ⊢
         rw [if_pos (by simp only [Int.natCast_add];omega)];congr 1;simp only [Int.natCast_add];omega)
  · have hb0:¬ (left - (x1.length:Int) < 0):=by simpa using q2
    refine s7 ?_
    have h0:left - (x1.length:Int)=left - (x1.length:Int) - (bulks (x1.take 0):Int):=by simp [bulks]
    rw [h0]
    refine W_loopC (σ:=Nat) 0 (fun (k:Nat)=>[(1,.int .i64 (left - (x1.length:Int) - (bulks (x1.take k):Int))),(5,.int .i64 (k:Int))]) (fun (k:Nat)=>[]) (fun (k:Nat)=>k≤x1.length∧0≤(left - (x1.length:Int) - (bulks (x1.take k):Int))) (fun (k:Nat)=>x1.length - k) [(0,_)] [] ?_ sb ms ?_
    · exact ⟨Nat.zero_le _,by simp [bulks];omega⟩
    · rintro k ⟨hk,ht⟩
      refine kq [0,1,5] ?_
      refine s5 ?_
      refine L_lenS rfl rfl el53.h ?_
      refine s2 ?_
      refine kp [0,1,5,15] ?_
      refine W_cond rfl (fun q5=>?_) (fun q5=>?_)
      · have hk1:k < x1.length:=by simpa using q5
        obtain ⟨g1,o1,rfl⟩:=rd_addr h1 hk1
        obtain ⟨u1,hu1⟩:=getEl hk1
        have hbs:=bulks_take_succ hu1
        have hble:=bulks_take_le x1 (k+1)
        refine s7 ?_
        refine L_indexAddr rfl rfl rfl el53.h rfl (by omega) ?_
        refine L_loadW rfl rfl (by first | exact RdC.blk mm | exact RdC.old (Cells.el h1 rfl hu1)) (by exact agg142.h) ?_
        refine s1 ?_
        refine L_callX rfl fn138.h rfl (by exact fun w hw=>szInst_spec w _ _ (by omega) (by omega) (rd_carry (h1.2.2.1 _ (List.mem_of_getElem? hu1)) hw) (ho.2 _ (List.mem_map.2 ⟨u1,List.mem_of_getElem? hu1,rfl⟩))) ?_
        refine s7 ?_
        refine kp [0,1,5,25] ?_
        refine W_cond rfl (fun q8=>?_) (fun q8=>?_)
        · have hb1:¬ ((Bk.bulk u1:Int)≤(left - (x1.length:Int) - (bulks (x1.take k):Int))):=by
            intro hn
            rw [if_pos hn] at q8;simp at q8;omega
          refine s5 ?_
          refine res1 rfl (ResOK.tmp rfl) ⟨?_,rfl⟩ ms
          first
            | (rw [if_neg (by simp only [Int.natCast_add];omega)];done)
            | (rw [if_neg (by have:=bulks_take_le x1 (k+1);simp only [Int.natCast_add];omega)];done)
            | (have hk2:x1.length≤k:=by simpa using q5
               rw [List.take_of_length_le hk2] at ht ⊢
               rw [if_pos (by simp only [Int.natCast_add];omega)];congr 1;simp only [Int.natCast_add];omega)
        · have hb1:(Bk.bulk u1:Int)≤(left - (x1.length:Int) - (bulks (x1.take k):Int)):=by
            rcases Int.decLt (left - (x1.length:Int) - (bulks (x1.take k):Int)) (Bk.bulk u1:Int) with hn | hn
            · omega
            · rw [if_neg (by omega)] at q8;simp at q8
          rw [if_pos hb1]
          have hnx:(left - (x1.length:Int) - (bulks (x1.take k):Int)) - (Bk.bulk u1:Int)=left - (x1.length:Int) - (bulks (x1.take (k+1)):Int):=by rw [hbs];omega
          rw [hnx]
          refine s3 ?_
          refine L_binV rfl rfl rfl (bv_addR (by unfold inR;omega)) ?_
          refine s2 ?_
          refine ⟨k+1,sb,ms,?_,?_⟩
          · exact ⟨by omega,by omega⟩
          · (try dsimp only);omega
      · refine W_exit ?_
        refine s6 ?_
        refine res1 rfl (ResOK.tmp rfl) ⟨?_,rfl⟩ ms
        first
          | (rw [if_neg (by simp only [Int.natCast_add];omega)];done)
          | (rw [if_neg (by have:=bulks_take_le x1 (k+1);simp only [Int.natCast_add];omega)];done)
          | (have hk2:x1.length≤k:=by simpa using q5
             rw [List.take_of_length_le hk2] at ht ⊢
             rw [if_pos (by simp only [Int.natCast_add];omega)];congr 1;simp only [Int.natCast_add];omega)
theorem toInstS_spec (w:World) (t1:TL T_Inst) (h1:GT.rd w [] t1) (hb:Bk.bulk t1≤1048576):Spec Tryz.prog 71 [t1.hdr].toArray w [] (fun v M=>∃ t2:TL T_Inst,v=t2.hdr∧GT.dat t2=GT.dat t1∧M=[treeH t2]):=by
 obtain ⟨a1,c1,e1,x1,y1⟩:=t1
 rw [bulk_TL] at hb
 dsimp only [TL.hdr]
 refine Spec.intro Tryz.func71 rfl Tryz.ntmps71 rfl ?_
 refine s7 ?_
 refine L_lenS rfl rfl el53.h ?_
 refine L_make (τ:=T_Inst) (((0:Int),(0:Int)),(0:Int),(0:Int),(0:Int),((0:Int),(0:Int),(0:Int),ByteArray.empty,ByteArray.empty,ByteArray.empty,(0:Int),(TL.nil ByteArray 0)),(0:Int),(TL.nil T_Id 0),false) rfl rfl rfl el24.h rfl rfl (flat_pair (flat_pair (flat_int trivial) (flat_int trivial)) (flat_pair (flat_int trivial) (flat_pair (flat_int trivial) (flat_pair (flat_int trivial) (flat_pair (flat_pair (flat_int trivial) (flat_pair (flat_int trivial) (flat_pair (flat_int trivial) (flat_pair (flat_str trivial) (flat_pair (flat_str trivial) (flat_pair (flat_str trivial) (flat_pair (flat_int trivial) (flat_nil 0)))))))) (flat_pair (flat_int trivial) (flat_pair (flat_nil 0) (flat_bool _)))))))) (by omega) (by unfold maxLen;omega) (fun g=>?_)
 refine s8 ?_
 refine W_loopC (σ:=Nat×List T_Inst) (0,List.replicate x1.length (((0:Int),(0:Int)),(0:Int),(0:Int),(0:Int),((0:Int),(0:Int),(0:Int),ByteArray.empty,ByteArray.empty,ByteArray.empty,(0:Int),(TL.nil ByteArray 0)),(0:Int),(TL.nil T_Id 0),false)) (fun (p:Nat×List T_Inst)=>[(4,.int .i64 (p.1:Int))]) (fun (p:Nat×List T_Inst)=>[treeH (⟨some ⟨g,0,none⟩,x1.length,45,p.2,[]⟩:TL T_Inst)]) (fun (p:Nat×List T_Inst)=>p.1≤x1.length∧p.2.length=x1.length∧(p.2.take p.1).map GT.dat=(x1.take p.1).map GT.dat) (fun (p:Nat×List T_Inst)=>x1.length - p.1) [(0,_),(3,_)] [] ?_ sb ms ?_
 ·exact ⟨Nat.zero_le _,by simp,by simp⟩
 ·rintro ⟨k,cur⟩ ⟨hk,hlen,hdat⟩
  dsimp only at hk hlen hdat
  refine kq [0,3,4] ?_
  refine s5 ?_
  refine L_lenS rfl rfl el53.h ?_
  refine s2 ?_
  refine kp [0,3,4,11] ?_
  refine W_cond rfl (fun q3=>?_) (fun q3=>?_)
  ·have hk1:k < x1.length:=by simpa using q3
   obtain ⟨g1,o1,rfl⟩:=rd_addr h1 hk1
   obtain ⟨u1,hu1⟩:=getEl hk1
   have hub:Bk.bulk u1≤1048576:=by have:=bulk_mem (List.mem_of_getElem? hu1);omega
   refine s8 ?_
   refine L_indexAddr rfl rfl rfl el53.h rfl (by omega) ?_
   refine L_loadW rfl rfl (by first | exact RdC.blk mm | exact RdC.old (Cells.el h1 rfl hu1)) (by exact agg142.h) ?_
   refine L_callR rfl fn140.h rfl (by exact fun w hw=>toInst_spec w _ (rd_carry (h1.2.2.1 _ (List.mem_of_getElem? hu1)) hw) hub) ?_
   rintro v M1 ⟨u2,hv,hd,rfl⟩
   subst hv
   simp only [List.cons_append,List.nil_append]
   refine L_indexAddr rfl rfl rfl el24.h rfl (by omega) ?_
   obtain ⟨u0,hu0⟩:=getEl (show k < cur.length by omega)
   refine L_storeEl u2 rfl rfl pk rfl hu0 rfl pk (.inl agg45.h) ?_
   refine s3 ?_
   refine L_binV rfl rfl rfl (bv_addR (by unfold inR;omega)) ?_
   refine s2 ?_
   refine ⟨(k+1,cur.set k u2),sb,ms,?_,?_⟩
   ·exact ⟨by dsimp only;omega,by simpa using hlen,map_take_set GT.dat GT.dat hdat (by omega) hu1 hd⟩
   ·dsimp only;omega
  ·refine W_exit ?_
   refine s6 ?_
   refine res1 rfl (ResOK.tmp rfl) ⟨⟨some ⟨g,0,none⟩,x1.length,45,cur,[]⟩,?_,?_,rfl⟩ ms
   ·show _=Value.slice _ cur.length _
    rw [hlen]
   ·have hk2:x1.length≤k:=by simpa using q3
    rw [List.take_of_length_le (by omega),List.take_of_length_le (by omega)] at hdat
    exact hdat
set_option maxHeartbeats 4000000 in
theorem markInstS_spec (w:World) (t1:TL T_Inst) (k0:Nat) (hk0:0 < k0) (hb:k0+Mk.cnt t1 < 9223372036854775807):Spec Tryz.prog 76 [t1.hdr,.int .i64 (k0:Int)].toArray w [treeH t1] (fun v M=>v=.int .i64 ((k0+Mk.cnt t1:Nat):Int)∧M=[treeH (Mk.mkd k0 t1)]):=by
 obtain ⟨a1,c1,e1,x1,y1⟩:=t1
 replace hb:k0+cnts x1 < 9223372036854775807:=hb
 dsimp only [TL.hdr]
 refine Spec.intro Tryz.func76 rfl Tryz.ntmps76 rfl ?_
 refine W_fact (fun w h=>ow_facts (h.prs _ (List.mem_cons_self ..))) fun hF=>?_
 replace hF:x1.length≤9223372036854775807∧(0 < x1.length→∃ g,a1=some ⟨g,0,none⟩):=hF
 refine s10 ?_
 refine W_conv (M':=[treeH (⟨a1,c1,e1,half k0 0 x1,y1⟩:TL T_Inst)]) (fun w h=>by rw [half_zero];exact h) ?_
 refine W_loopC (σ:=Nat) 0 (fun (i:Nat)=>[(1,.int .i64 ((k0+cnts (x1.take i):Nat):Int)),(5,.int .i64 (i:Int))]) (fun (i:Nat)=>[treeH (⟨a1,c1,e1,half k0 i x1,y1⟩:TL T_Inst)]) (fun (i:Nat)=>i≤x1.length) (fun (i:Nat)=>x1.length - i) [(0,_)] [] ?_ sb ms ?_
 ·exact Nat.zero_le _
 ·rintro i hi
  refine kq [0,1,5] ?_
  refine s5 ?_
  refine L_lenS rfl rfl el24.h ?_
  refine s2 ?_
  refine kp [0,1,5,9] ?_
  refine W_cond rfl (fun q2=>?_) (fun q2=>?_)
  ·have hk1:i < x1.length:=by simpa using q2
   obtain ⟨g,rfl⟩:=hF.2 (by omega)
   obtain ⟨u,hu⟩:=getEl hk1
   have hs:=cnts_take_succ hu
   have hle:=cnts_take_le x1 (i+1)
   have hlh:=half_length k0 i x1
   obtain ⟨⟨b11,b12⟩,b2,b3,b4,⟨b51,b52,b53,b54,b55,b56,b57,b58⟩,b6,b7,b8⟩:=u
   simp only [cnt_pair,cnt_int,cnt_str,cnt_bool] at hs
   refine s8 ?_
   refine L_indexAddr rfl rfl rfl el24.h rfl (by omega) ?_
   refine s2 ?_
   refine L_storeElF (fo:=0) (x':=((((((k0+cnts (x1.take i)):Nat):Int),b12),b2,b3,b4,(b51,b52,b53,b54,b55,b56,b57,b58),b6,b7,b8):T_Inst)) rfl rfl pk rfl (show ((half k0 i x1):List T_Inst)[i]?=some (((b11,b12),b2,b3,b4,(b51,b52,b53,b54,b55,b56,b57,b58),b6,b7,b8):T_Inst) from half_get (k:=k0) hu) rfl rfl (by decide) rfl (fun w h=>by exact ⟨⟨(by exact trivial),h.1.2⟩,h.2.1,h.2.2.1,h.2.2.2.1,⟨h.2.2.2.2.1.1,h.2.2.2.2.1.2.1,h.2.2.2.2.1.2.2.1,h.2.2.2.2.1.2.2.2.1,h.2.2.2.2.1.2.2.2.2.1,h.2.2.2.2.1.2.2.2.2.2.1,h.2.2.2.2.1.2.2.2.2.2.2.1,h.2.2.2.2.1.2.2.2.2.2.2.2⟩,h.2.2.2.2.2.1,h.2.2.2.2.2.2.1,h.2.2.2.2.2.2.2⟩) one3.h ?_
   refine s4 ?_
   refine L_binV rfl rfl rfl (bv_addR (by unfold inR;omega)) ?_
   refine s2 ?_
   rw [show (((k0+cnts (x1.take i)):Nat):Int)+1=((((k0+cnts (x1.take i))+1):Nat):Int) from rfl]
   refine s5 ?_
   refine L_indexAddr rfl rfl rfl el24.h rfl (by omega) ?_
   refine s2 ?_
   refine L_storeElF (fo:=1) (x':=((((((k0+cnts (x1.take i)):Nat):Int),((((k0+cnts (x1.take i))+1):Nat):Int)),b2,b3,b4,(b51,b52,b53,b54,b55,b56,b57,b58),b6,b7,b8):T_Inst)) rfl rfl pk rfl (show (((half k0 i x1).set i ((((((k0+cnts (x1.take i)):Nat):Int),b12),b2,b3,b4,(b51,b52,b53,b54,b55,b56,b57,b58),b6,b7,b8):T_Inst)):List T_Inst)[i]?=some ((((((k0+cnts (x1.take i)):Nat):Int),b12),b2,b3,b4,(b51,b52,b53,b54,b55,b56,b57,b58),b6,b7,b8):T_Inst) from set_get (half_get (k:=k0) hu)) rfl rfl (by decide) rfl (fun w h=>by exact ⟨⟨h.1.1,(by exact trivial)⟩,h.2.1,h.2.2.1,h.2.2.2.1,⟨h.2.2.2.2.1.1,h.2.2.2.2.1.2.1,h.2.2.2.2.1.2.2.1,h.2.2.2.2.1.2.2.2.1,h.2.2.2.2.1.2.2.2.2.1,h.2.2.2.2.1.2.2.2.2.2.1,h.2.2.2.2.1.2.2.2.2.2.2.1,h.2.2.2.2.1.2.2.2.2.2.2.2⟩,h.2.2.2.2.2.1,h.2.2.2.2.2.2.1,h.2.2.2.2.2.2.2⟩) one3.h ?_
   rw [List.set_set]
   refine s4 ?_
   refine L_binV rfl rfl rfl (bv_addR (by unfold inR;omega)) ?_
   refine s2 ?_
   rw [show ((((k0+cnts (x1.take i))+1):Nat):Int)+1=((((k0+cnts (x1.take i))+2):Nat):Int) from rfl]
   refine s5 ?_
   refine L_indexAddr rfl rfl rfl el24.h rfl (by omega) ?_
   refine s1 ?_
   refine L_storeElF (fo:=2) (x':=((((((k0+cnts (x1.take i)):Nat):Int),((((k0+cnts (x1.take i))+1):Nat):Int)),((((k0+cnts (x1.take i))+2):Nat):Int),b3,b4,(b51,b52,b53,b54,b55,b56,b57,b58),b6,b7,b8):T_Inst)) rfl rfl pk rfl (show (((half k0 i x1).set i ((((((k0+cnts (x1.take i)):Nat):Int),((((k0+cnts (x1.take i))+1):Nat):Int)),b2,b3,b4,(b51,b52,b53,b54,b55,b56,b57,b58),b6,b7,b8):T_Inst)):List T_Inst)[i]?=some ((((((k0+cnts (x1.take i)):Nat):Int),((((k0+cnts (x1.take i))+1):Nat):Int)),b2,b3,b4,(b51,b52,b53,b54,b55,b56,b57,b58),b6,b7,b8):T_Inst) from set_get (half_get (k:=k0) hu)) rfl rfl (by decide) rfl (fun w h=>by exact ⟨⟨h.1.1,h.1.2⟩,(by exact trivial),h.2.2.1,h.2.2.2.1,⟨h.2.2.2.2.1.1,h.2.2.2.2.1.2.1,h.2.2.2.2.1.2.2.1,h.2.2.2.2.1.2.2.2.1,h.2.2.2.2.1.2.2.2.2.1,h.2.2.2.2.1.2.2.2.2.2.1,h.2.2.2.2.1.2.2.2.2.2.2.1,h.2.2.2.2.1.2.2.2.2.2.2.2⟩,h.2.2.2.2.2.1,h.2.2.2.2.2.2.1,h.2.2.2.2.2.2.2⟩) one3.h ?_
   rw [List.set_set]
   refine s4 ?_
   refine L_binV rfl rfl rfl (bv_addR (by unfold inR;omega)) ?_
   refine s2 ?_
   rw [show ((((k0+cnts (x1.take i))+2):Nat):Int)+1=((((k0+cnts (x1.take i))+3):Nat):Int) from rfl]
   refine s5 ?_
   refine L_indexAddr rfl rfl rfl el24.h rfl (by omega) ?_
   refine s1 ?_
   refine L_storeElF (fo:=3) (x':=((((((k0+cnts (x1.take i)):Nat):Int),((((k0+cnts (x1.take i))+1):Nat):Int)),((((k0+cnts (x1.take i))+2):Nat):Int),((((k0+cnts (x1.take i))+3):Nat):Int),b4,(b51,b52,b53,b54,b55,b56,b57,b58),b6,b7,b8):T_Inst)) rfl rfl pk rfl (show (((half k0 i x1).set i ((((((k0+cnts (x1.take i)):Nat):Int),((((k0+cnts (x1.take i))+1):Nat):Int)),((((k0+cnts (x1.take i))+2):Nat):Int),b3,b4,(b51,b52,b53,b54,b55,b56,b57,b58),b6,b7,b8):T_Inst)):List T_Inst)[i]?=some ((((((k0+cnts (x1.take i)):Nat):Int),((((k0+cnts (x1.take i))+1):Nat):Int)),((((k0+cnts (x1.take i))+2):Nat):Int),b3,b4,(b51,b52,b53,b54,b55,b56,b57,b58),b6,b7,b8):T_Inst) from set_get (half_get (k:=k0) hu)) rfl rfl (by decide) rfl (fun w h=>by exact ⟨⟨h.1.1,h.1.2⟩,h.2.1,(by exact trivial),h.2.2.2.1,⟨h.2.2.2.2.1.1,h.2.2.2.2.1.2.1,h.2.2.2.2.1.2.2.1,h.2.2.2.2.1.2.2.2.1,h.2.2.2.2.1.2.2.2.2.1,h.2.2.2.2.1.2.2.2.2.2.1,h.2.2.2.2.1.2.2.2.2.2.2.1,h.2.2.2.2.1.2.2.2.2.2.2.2⟩,h.2.2.2.2.2.1,h.2.2.2.2.2.2.1,h.2.2.2.2.2.2.2⟩) one3.h ?_
   rw [List.set_set]
   refine s4 ?_
   refine L_binV rfl rfl rfl (bv_addR (by unfold inR;omega)) ?_
   refine s2 ?_
   rw [show ((((k0+cnts (x1.take i))+3):Nat):Int)+1=((((k0+cnts (x1.take i))+4):Nat):Int) from rfl]
   refine s5 ?_
   refine L_indexAddr rfl rfl rfl el24.h rfl (by omega) ?_
   refine s1 ?_
   refine L_storeElF (fo:=4) (x':=((((((k0+cnts (x1.take i)):Nat):Int),((((k0+cnts (x1.take i))+1):Nat):Int)),((((k0+cnts (x1.take i))+2):Nat):Int),((((k0+cnts (x1.take i))+3):Nat):Int),((((k0+cnts (x1.take i))+4):Nat):Int),(b51,b52,b53,b54,b55,b56,b57,b58),b6,b7,b8):T_Inst)) rfl rfl pk rfl (show (((half k0 i x1).set i ((((((k0+cnts (x1.take i)):Nat):Int),((((k0+cnts (x1.take i))+1):Nat):Int)),((((k0+cnts (x1.take i))+2):Nat):Int),((((k0+cnts (x1.take i))+3):Nat):Int),b4,(b51,b52,b53,b54,b55,b56,b57,b58),b6,b7,b8):T_Inst)):List T_Inst)[i]?=some ((((((k0+cnts (x1.take i)):Nat):Int),((((k0+cnts (x1.take i))+1):Nat):Int)),((((k0+cnts (x1.take i))+2):Nat):Int),((((k0+cnts (x1.take i))+3):Nat):Int),b4,(b51,b52,b53,b54,b55,b56,b57,b58),b6,b7,b8):T_Inst) from set_get (half_get (k:=k0) hu)) rfl rfl (by decide) rfl (fun w h=>by exact ⟨⟨h.1.1,h.1.2⟩,h.2.1,h.2.2.1,(by exact trivial),⟨h.2.2.2.2.1.1,h.2.2.2.2.1.2.1,h.2.2.2.2.1.2.2.1,h.2.2.2.2.1.2.2.2.1,h.2.2.2.2.1.2.2.2.2.1,h.2.2.2.2.1.2.2.2.2.2.1,h.2.2.2.2.1.2.2.2.2.2.2.1,h.2.2.2.2.1.2.2.2.2.2.2.2⟩,h.2.2.2.2.2.1,h.2.2.2.2.2.2.1,h.2.2.2.2.2.2.2⟩) one3.h ?_
   rw [List.set_set]
   refine s4 ?_
   refine L_binV rfl rfl rfl (bv_addR (by unfold inR;omega)) ?_
   refine s2 ?_
   rw [show ((((k0+cnts (x1.take i))+4):Nat):Int)+1=((((k0+cnts (x1.take i))+5):Nat):Int) from rfl]
   refine s5 ?_
   refine L_indexAddr rfl rfl rfl el24.h rfl (by omega) ?_
   refine s2 ?_
   refine L_storeElF (fo:=5) (x':=((((((k0+cnts (x1.take i)):Nat):Int),((((k0+cnts (x1.take i))+1):Nat):Int)),((((k0+cnts (x1.take i))+2):Nat):Int),((((k0+cnts (x1.take i))+3):Nat):Int),((((k0+cnts (x1.take i))+4):Nat):Int),(((((k0+cnts (x1.take i))+5):Nat):Int),b52,b53,b54,b55,b56,b57,b58),b6,b7,b8):T_Inst)) rfl rfl pk rfl (show (((half k0 i x1).set i ((((((k0+cnts (x1.take i)):Nat):Int),((((k0+cnts (x1.take i))+1):Nat):Int)),((((k0+cnts (x1.take i))+2):Nat):Int),((((k0+cnts (x1.take i))+3):Nat):Int),((((k0+cnts (x1.take i))+4):Nat):Int),(b51,b52,b53,b54,b55,b56,b57,b58),b6,b7,b8):T_Inst)):List T_Inst)[i]?=some ((((((k0+cnts (x1.take i)):Nat):Int),((((k0+cnts (x1.take i))+1):Nat):Int)),((((k0+cnts (x1.take i))+2):Nat):Int),((((k0+cnts (x1.take i))+3):Nat):Int),((((k0+cnts (x1.take i))+4):Nat):Int),(b51,b52,b53,b54,b55,b56,b57,b58),b6,b7,b8):T_Inst) from set_get (half_get (k:=k0) hu)) rfl rfl (by decide) rfl (fun w h=>by exact ⟨⟨h.1.1,h.1.2⟩,h.2.1,h.2.2.1,h.2.2.2.1,⟨(by exact trivial),h.2.2.2.2.1.2.1,h.2.2.2.2.1.2.2.1,h.2.2.2.2.1.2.2.2.1,h.2.2.2.2.1.2.2.2.2.1,h.2.2.2.2.1.2.2.2.2.2.1,h.2.2.2.2.1.2.2.2.2.2.2.1,h.2.2.2.2.1.2.2.2.2.2.2.2⟩,h.2.2.2.2.2.1,h.2.2.2.2.2.2.1,h.2.2.2.2.2.2.2⟩) one3.h ?_
   rw [List.set_set]
   refine s4 ?_
   refine L_binV rfl rfl rfl (bv_addR (by unfold inR;omega)) ?_
   refine s2 ?_
   rw [show ((((k0+cnts (x1.take i))+5):Nat):Int)+1=((((k0+cnts (x1.take i))+6):Nat):Int) from rfl]
   refine s5 ?_
   refine L_indexAddr rfl rfl rfl el24.h rfl (by omega) ?_
   refine s2 ?_
   refine L_storeElF (fo:=6) (x':=((((((k0+cnts (x1.take i)):Nat):Int),((((k0+cnts (x1.take i))+1):Nat):Int)),((((k0+cnts (x1.take i))+2):Nat):Int),((((k0+cnts (x1.take i))+3):Nat):Int),((((k0+cnts (x1.take i))+4):Nat):Int),(((((k0+cnts (x1.take i))+5):Nat):Int),((((k0+cnts (x1.take i))+6):Nat):Int),b53,b54,b55,b56,b57,b58),b6,b7,b8):T_Inst)) rfl rfl pk rfl (show (((half k0 i x1).set i ((((((k0+cnts (x1.take i)):Nat):Int),((((k0+cnts (x1.take i))+1):Nat):Int)),((((k0+cnts (x1.take i))+2):Nat):Int),((((k0+cnts (x1.take i))+3):Nat):Int),((((k0+cnts (x1.take i))+4):Nat):Int),(((((k0+cnts (x1.take i))+5):Nat):Int),b52,b53,b54,b55,b56,b57,b58),b6,b7,b8):T_Inst)):List T_Inst)[i]?=some ((((((k0+cnts (x1.take i)):Nat):Int),((((k0+cnts (x1.take i))+1):Nat):Int)),((((k0+cnts (x1.take i))+2):Nat):Int),((((k0+cnts (x1.take i))+3):Nat):Int),((((k0+cnts (x1.take i))+4):Nat):Int),(((((k0+cnts (x1.take i))+5):Nat):Int),b52,b53,b54,b55,b56,b57,b58),b6,b7,b8):T_Inst) from set_get (half_get (k:=k0) hu)) rfl rfl (by decide) rfl (fun w h=>by exact ⟨⟨h.1.1,h.1.2⟩,h.2.1,h.2.2.1,h.2.2.2.1,⟨h.2.2.2.2.1.1,(by exact trivial),h.2.2.2.2.1.2.2.1,h.2.2.2.2.1.2.2.2.1,h.2.2.2.2.1.2.2.2.2.1,h.2.2.2.2.1.2.2.2.2.2.1,h.2.2.2.2.1.2.2.2.2.2.2.1,h.2.2.2.2.1.2.2.2.2.2.2.2⟩,h.2.2.2.2.2.1,h.2.2.2.2.2.2.1,h.2.2.2.2.2.2.2⟩) one3.h ?_
   rw [List.set_set]
   refine s4 ?_
   refine L_binV rfl rfl rfl (bv_addR (by unfold inR;omega)) ?_
   refine s2 ?_
   rw [show ((((k0+cnts (x1.take i))+6):Nat):Int)+1=((((k0+cnts (x1.take i))+7):Nat):Int) from rfl]
   refine s5 ?_
   refine L_indexAddr rfl rfl rfl el24.h rfl (by omega) ?_
   refine s2 ?_
   refine L_storeElF (fo:=7) (x':=((((((k0+cnts (x1.take i)):Nat):Int),((((k0+cnts (x1.take i))+1):Nat):Int)),((((k0+cnts (x1.take i))+2):Nat):Int),((((k0+cnts (x1.take i))+3):Nat):Int),((((k0+cnts (x1.take i))+4):Nat):Int),(((((k0+cnts (x1.take i))+5):Nat):Int),((((k0+cnts (x1.take i))+6):Nat):Int),((((k0+cnts (x1.take i))+7):Nat):Int),b54,b55,b56,b57,b58),b6,b7,b8):T_Inst)) rfl rfl pk rfl (show (((half k0 i x1).set i ((((((k0+cnts (x1.take i)):Nat):Int),((((k0+cnts (x1.take i))+1):Nat):Int)),((((k0+cnts (x1.take i))+2):Nat):Int),((((k0+cnts (x1.take i))+3):Nat):Int),((((k0+cnts (x1.take i))+4):Nat):Int),(((((k0+cnts (x1.take i))+5):Nat):Int),((((k0+cnts (x1.take i))+6):Nat):Int),b53,b54,b55,b56,b57,b58),b6,b7,b8):T_Inst)):List T_Inst)[i]?=some ((((((k0+cnts (x1.take i)):Nat):Int),((((k0+cnts (x1.take i))+1):Nat):Int)),((((k0+cnts (x1.take i))+2):Nat):Int),((((k0+cnts (x1.take i))+3):Nat):Int),((((k0+cnts (x1.take i))+4):Nat):Int),(((((k0+cnts (x1.take i))+5):Nat):Int),((((k0+cnts (x1.take i))+6):Nat):Int),b53,b54,b55,b56,b57,b58),b6,b7,b8):T_Inst) from set_get (half_get (k:=k0) hu)) rfl rfl (by decide) rfl (fun w h=>by exact ⟨⟨h.1.1,h.1.2⟩,h.2.1,h.2.2.1,h.2.2.2.1,⟨h.2.2.2.2.1.1,h.2.2.2.2.1.2.1,(by exact trivial),h.2.2.2.2.1.2.2.2.1,h.2.2.2.2.1.2.2.2.2.1,h.2.2.2.2.1.2.2.2.2.2.1,h.2.2.2.2.1.2.2.2.2.2.2.1,h.2.2.2.2.1.2.2.2.2.2.2.2⟩,h.2.2.2.2.2.1,h.2.2.2.2.2.2.1,h.2.2.2.2.2.2.2⟩) one3.h ?_
   rw [List.set_set]
   refine s4 ?_
   refine L_binV rfl rfl rfl (bv_addR (by unfold inR;omega)) ?_
   refine s2 ?_
   rw [show ((((k0+cnts (x1.take i))+7):Nat):Int)+1=((((k0+cnts (x1.take i))+8):Nat):Int) from rfl]
   refine s5 ?_
   refine L_callX rfl fn78.h rfl (by exact fun w hw=>markText_spec w ((k0+cnts (x1.take i))+8) (by omega) (by omega)) ?_
   refine L_indexAddr rfl rfl rfl el24.h rfl (by omega) ?_
   refine s2 ?_
   refine L_storeElF (fo:=8) (x':=((((((k0+cnts (x1.take i)):Nat):Int),((((k0+cnts (x1.take i))+1):Nat):Int)),((((k0+cnts (x1.take i))+2):Nat):Int),((((k0+cnts (x1.take i))+3):Nat):Int),((((k0+cnts (x1.take i))+4):Nat):Int),(((((k0+cnts (x1.take i))+5):Nat):Int),((((k0+cnts (x1.take i))+6):Nat):Int),((((k0+cnts (x1.take i))+7):Nat):Int),(mtx ((k0+cnts (x1.take i))+8)),b55,b56,b57,b58),b6,b7,b8):T_Inst)) rfl rfl pk rfl (show (((half k0 i x1).set i ((((((k0+cnts (x1.take i)):Nat):Int),((((k0+cnts (x1.take i))+1):Nat):Int)),((((k0+cnts (x1.take i))+2):Nat):Int),((((k0+cnts (x1.take i))+3):Nat):Int),((((k0+cnts (x1.take i))+4):Nat):Int),(((((k0+cnts (x1.take i))+5):Nat):Int),((((k0+cnts (x1.take i))+6):Nat):Int),((((k0+cnts (x1.take i))+7):Nat):Int),b54,b55,b56,b57,b58),b6,b7,b8):T_Inst)):List T_Inst)[i]?=some ((((((k0+cnts (x1.take i)):Nat):Int),((((k0+cnts (x1.take i))+1):Nat):Int)),((((k0+cnts (x1.take i))+2):Nat):Int),((((k0+cnts (x1.take i))+3):Nat):Int),((((k0+cnts (x1.take i))+4):Nat):Int),(((((k0+cnts (x1.take i))+5):Nat):Int),((((k0+cnts (x1.take i))+6):Nat):Int),((((k0+cnts (x1.take i))+7):Nat):Int),b54,b55,b56,b57,b58),b6,b7,b8):T_Inst) from set_get (half_get (k:=k0) hu)) rfl rfl (by decide) rfl (fun w h=>by exact ⟨⟨h.1.1,h.1.2⟩,h.2.1,h.2.2.1,h.2.2.2.1,⟨h.2.2.2.2.1.1,h.2.2.2.2.1.2.1,h.2.2.2.2.1.2.2.1,(by exact trivial),h.2.2.2.2.1.2.2.2.2.1,h.2.2.2.2.1.2.2.2.2.2.1,h.2.2.2.2.1.2.2.2.2.2.2.1,h.2.2.2.2.1.2.2.2.2.2.2.2⟩,h.2.2.2.2.2.1,h.2.2.2.2.2.2.1,h.2.2.2.2.2.2.2⟩) one9.h ?_
   rw [List.set_set]
   refine s4 ?_
   refine L_binV rfl rfl rfl (bv_addR (by unfold inR;omega)) ?_
   refine s2 ?_
   rw [show ((((k0+cnts (x1.take i))+8):Nat):Int)+1=((((k0+cnts (x1.take i))+9):Nat):Int) from rfl]
   refine s5 ?_
   refine L_callX rfl fn78.h rfl (by exact fun w hw=>markText_spec w ((k0+cnts (x1.take i))+9) (by omega) (by omega)) ?_
   refine L_indexAddr rfl rfl rfl el24.h rfl (by omega) ?_
   refine s2 ?_
   refine L_storeElF (fo:=9) (x':=((((((k0+cnts (x1.take i)):Nat):Int),((((k0+cnts (x1.take i))+1):Nat):Int)),((((k0+cnts (x1.take i))+2):Nat):Int),((((k0+cnts (x1.take i))+3):Nat):Int),((((k0+cnts (x1.take i))+4):Nat):Int),(((((k0+cnts (x1.take i))+5):Nat):Int),((((k0+cnts (x1.take i))+6):Nat):Int),((((k0+cnts (x1.take i))+7):Nat):Int),(mtx ((k0+cnts (x1.take i))+8)),(mtx ((k0+cnts (x1.take i))+9)),b56,b57,b58),b6,b7,b8):T_Inst)) rfl rfl pk rfl (show (((half k0 i x1).set i ((((((k0+cnts (x1.take i)):Nat):Int),((((k0+cnts (x1.take i))+1):Nat):Int)),((((k0+cnts (x1.take i))+2):Nat):Int),((((k0+cnts (x1.take i))+3):Nat):Int),((((k0+cnts (x1.take i))+4):Nat):Int),(((((k0+cnts (x1.take i))+5):Nat):Int),((((k0+cnts (x1.take i))+6):Nat):Int),((((k0+cnts (x1.take i))+7):Nat):Int),(mtx ((k0+cnts (x1.take i))+8)),b55,b56,b57,b58),b6,b7,b8):T_Inst)):List T_Inst)[i]?=some ((((((k0+cnts (x1.take i)):Nat):Int),((((k0+cnts (x1.take i))+1):Nat):Int)),((((k0+cnts (x1.take i))+2):Nat):Int),((((k0+cnts (x1.take i))+3):Nat):Int),((((k0+cnts (x1.take i))+4):Nat):Int),(((((k0+cnts (x1.take i))+5):Nat):Int),((((k0+cnts (x1.take i))+6):Nat):Int),((((k0+cnts (x1.take i))+7):Nat):Int),(mtx ((k0+cnts (x1.take i))+8)),b55,b56,b57,b58),b6,b7,b8):T_Inst) from set_get (half_get (k:=k0) hu)) rfl rfl (by decide) rfl (fun w h=>by exact ⟨⟨h.1.1,h.1.2⟩,h.2.1,h.2.2.1,h.2.2.2.1,⟨h.2.2.2.2.1.1,h.2.2.2.2.1.2.1,h.2.2.2.2.1.2.2.1,h.2.2.2.2.1.2.2.2.1,(by exact trivial),h.2.2.2.2.1.2.2.2.2.2.1,h.2.2.2.2.1.2.2.2.2.2.2.1,h.2.2.2.2.1.2.2.2.2.2.2.2⟩,h.2.2.2.2.2.1,h.2.2.2.2.2.2.1,h.2.2.2.2.2.2.2⟩) one9.h ?_
   rw [List.set_set]
   refine s4 ?_
   refine L_binV rfl rfl rfl (bv_addR (by unfold inR;omega)) ?_
   refine s2 ?_
   rw [show ((((k0+cnts (x1.take i))+9):Nat):Int)+1=((((k0+cnts (x1.take i))+10):Nat):Int) from rfl]
   refine s5 ?_
   refine L_callX rfl fn78.h rfl (by exact fun w hw=>markText_spec w ((k0+cnts (x1.take i))+10) (by omega) (by omega)) ?_
   refine L_indexAddr rfl rfl rfl el24.h rfl (by omega) ?_
   refine s2 ?_
   refine L_storeElF (fo:=10) (x':=((((((k0+cnts (x1.take i)):Nat):Int),((((k0+cnts (x1.take i))+1):Nat):Int)),((((k0+cnts (x1.take i))+2):Nat):Int),((((k0+cnts (x1.take i))+3):Nat):Int),((((k0+cnts (x1.take i))+4):Nat):Int),(((((k0+cnts (x1.take i))+5):Nat):Int),((((k0+cnts (x1.take i))+6):Nat):Int),((((k0+cnts (x1.take i))+7):Nat):Int),(mtx ((k0+cnts (x1.take i))+8)),(mtx ((k0+cnts (x1.take i))+9)),(mtx ((k0+cnts (x1.take i))+10)),b57,b58),b6,b7,b8):T_Inst)) rfl rfl pk rfl (show (((half k0 i x1).set i ((((((k0+cnts (x1.take i)):Nat):Int),((((k0+cnts (x1.take i))+1):Nat):Int)),((((k0+cnts (x1.take i))+2):Nat):Int),((((k0+cnts (x1.take i))+3):Nat):Int),((((k0+cnts (x1.take i))+4):Nat):Int),(((((k0+cnts (x1.take i))+5):Nat):Int),((((k0+cnts (x1.take i))+6):Nat):Int),((((k0+cnts (x1.take i))+7):Nat):Int),(mtx ((k0+cnts (x1.take i))+8)),(mtx ((k0+cnts (x1.take i))+9)),b56,b57,b58),b6,b7,b8):T_Inst)):List T_Inst)[i]?=some ((((((k0+cnts (x1.take i)):Nat):Int),((((k0+cnts (x1.take i))+1):Nat):Int)),((((k0+cnts (x1.take i))+2):Nat):Int),((((k0+cnts (x1.take i))+3):Nat):Int),((((k0+cnts (x1.take i))+4):Nat):Int),(((((k0+cnts (x1.take i))+5):Nat):Int),((((k0+cnts (x1.take i))+6):Nat):Int),((((k0+cnts (x1.take i))+7):Nat):Int),(mtx ((k0+cnts (x1.take i))+8)),(mtx ((k0+cnts (x1.take i))+9)),b56,b57,b58),b6,b7,b8):T_Inst) from set_get (half_get (k:=k0) hu)) rfl rfl (by decide) rfl (fun w h=>by exact ⟨⟨h.1.1,h.1.2⟩,h.2.1,h.2.2.1,h.2.2.2.1,⟨h.2.2.2.2.1.1,h.2.2.2.2.1.2.1,h.2.2.2.2.1.2.2.1,h.2.2.2.2.1.2.2.2.1,h.2.2.2.2.1.2.2.2.2.1,(by exact trivial),h.2.2.2.2.1.2.2.2.2.2.2.1,h.2.2.2.2.1.2.2.2.2.2.2.2⟩,h.2.2.2.2.2.1,h.2.2.2.2.2.2.1,h.2.2.2.2.2.2.2⟩) one9.h ?_
   rw [List.set_set]
   refine s4 ?_
   refine L_binV rfl rfl rfl (bv_addR (by unfold inR;omega)) ?_
   refine s2 ?_
   rw [show ((((k0+cnts (x1.take i))+10):Nat):Int)+1=((((k0+cnts (x1.take i))+11):Nat):Int) from rfl]
   refine s5 ?_
   refine L_indexAddr rfl rfl rfl el24.h rfl (by omega) ?_
   refine s2 ?_
   refine L_storeElF (fo:=11) (x':=((((((k0+cnts (x1.take i)):Nat):Int),((((k0+cnts (x1.take i))+1):Nat):Int)),((((k0+cnts (x1.take i))+2):Nat):Int),((((k0+cnts (x1.take i))+3):Nat):Int),((((k0+cnts (x1.take i))+4):Nat):Int),(((((k0+cnts (x1.take i))+5):Nat):Int),((((k0+cnts (x1.take i))+6):Nat):Int),((((k0+cnts (x1.take i))+7):Nat):Int),(mtx ((k0+cnts (x1.take i))+8)),(mtx ((k0+cnts (x1.take i))+9)),(mtx ((k0+cnts (x1.take i))+10)),((((k0+cnts (x1.take i))+11):Nat):Int),b58),b6,b7,b8):T_Inst)) rfl rfl pk rfl (show (((half k0 i x1).set i ((((((k0+cnts (x1.take i)):Nat):Int),((((k0+cnts (x1.take i))+1):Nat):Int)),((((k0+cnts (x1.take i))+2):Nat):Int),((((k0+cnts (x1.take i))+3):Nat):Int),((((k0+cnts (x1.take i))+4):Nat):Int),(((((k0+cnts (x1.take i))+5):Nat):Int),((((k0+cnts (x1.take i))+6):Nat):Int),((((k0+cnts (x1.take i))+7):Nat):Int),(mtx ((k0+cnts (x1.take i))+8)),(mtx ((k0+cnts (x1.take i))+9)),(mtx ((k0+cnts (x1.take i))+10)),b57,b58),b6,b7,b8):T_Inst)):List T_Inst)[i]?=some ((((((k0+cnts (x1.take i)):Nat):Int),((((k0+cnts (x1.take i))+1):Nat):Int)),((((k0+cnts (x1.take i))+2):Nat):Int),((((k0+cnts (x1.take i))+3):Nat):Int),((((k0+cnts (x1.take i))+4):Nat):Int),(((((k0+cnts (x1.take i))+5):Nat):Int),((((k0+cnts (x1.take i))+6):Nat):Int),((((k0+cnts (x1.take i))+7):Nat):Int),(mtx ((k0+cnts (x1.take i))+8)),(mtx ((k0+cnts (x1.take i))+9)),(mtx ((k0+cnts (x1.take i))+10)),b57,b58),b6,b7,b8):T_Inst) from set_get (half_get (k:=k0) hu)) rfl rfl (by decide) rfl (fun w h=>by exact ⟨⟨h.1.1,h.1.2⟩,h.2.1,h.2.2.1,h.2.2.2.1,⟨h.2.2.2.2.1.1,h.2.2.2.2.1.2.1,h.2.2.2.2.1.2.2.1,h.2.2.2.2.1.2.2.2.1,h.2.2.2.2.1.2.2.2.2.1,h.2.2.2.2.1.2.2.2.2.2.1,(by exact trivial),h.2.2.2.2.1.2.2.2.2.2.2.2⟩,h.2.2.2.2.2.1,h.2.2.2.2.2.2.1,h.2.2.2.2.2.2.2⟩) one3.h ?_
   rw [List.set_set]
   refine s4 ?_
   refine L_binV rfl rfl rfl (bv_addR (by unfold inR;omega)) ?_
   refine s2 ?_
   rw [show ((((k0+cnts (x1.take i))+11):Nat):Int)+1=((((k0+cnts (x1.take i))+12):Nat):Int) from rfl]
   refine s4 ?_
   refine L_indexAddr rfl rfl rfl el24.h rfl (by omega) ?_
   refine s2 ?_
   refine L_load (fo:=12) rfl rfl (by exact RdC.el (L:=(⟨some ⟨g,0,none⟩,c1,e1,((half k0 i x1).set i ((((((k0+cnts (x1.take i)):Nat):Int),((((k0+cnts (x1.take i))+1):Nat):Int)),((((k0+cnts (x1.take i))+2):Nat):Int),((((k0+cnts (x1.take i))+3):Nat):Int),((((k0+cnts (x1.take i))+4):Nat):Int),(((((k0+cnts (x1.take i))+5):Nat):Int),((((k0+cnts (x1.take i))+6):Nat):Int),((((k0+cnts (x1.take i))+7):Nat):Int),(mtx ((k0+cnts (x1.take i))+8)),(mtx ((k0+cnts (x1.take i))+9)),(mtx ((k0+cnts (x1.take i))+10)),((((k0+cnts (x1.take i))+11):Nat):Int),b58),b6,b7,b8):T_Inst)),y1⟩:TL T_Inst)) mm rfl (show (((half k0 i x1).set i ((((((k0+cnts (x1.take i)):Nat):Int),((((k0+cnts (x1.take i))+1):Nat):Int)),((((k0+cnts (x1.take i))+2):Nat):Int),((((k0+cnts (x1.take i))+3):Nat):Int),((((k0+cnts (x1.take i))+4):Nat):Int),(((((k0+cnts (x1.take i))+5):Nat):Int),((((k0+cnts (x1.take i))+6):Nat):Int),((((k0+cnts (x1.take i))+7):Nat):Int),(mtx ((k0+cnts (x1.take i))+8)),(mtx ((k0+cnts (x1.take i))+9)),(mtx ((k0+cnts (x1.take i))+10)),((((k0+cnts (x1.take i))+11):Nat):Int),b58),b6,b7,b8):T_Inst)):List T_Inst)[i]?=some ((((((k0+cnts (x1.take i)):Nat):Int),((((k0+cnts (x1.take i))+1):Nat):Int)),((((k0+cnts (x1.take i))+2):Nat):Int),((((k0+cnts (x1.take i))+3):Nat):Int),((((k0+cnts (x1.take i))+4):Nat):Int),(((((k0+cnts (x1.take i))+5):Nat):Int),((((k0+cnts (x1.take i))+6):Nat):Int),((((k0+cnts (x1.take i))+7):Nat):Int),(mtx ((k0+cnts (x1.take i))+8)),(mtx ((k0+cnts (x1.take i))+9)),(mtx ((k0+cnts (x1.take i))+10)),((((k0+cnts (x1.take i))+11):Nat):Int),b58),b6,b7,b8):T_Inst) from set_get (half_get (k:=k0) hu))) one30.h rfl ?_
   refine s1 ?_
   refine L_conv (fun w h=>el_out (L:=(⟨some ⟨g,0,none⟩,c1,e1,((half k0 i x1).set i ((((((k0+cnts (x1.take i)):Nat):Int),((((k0+cnts (x1.take i))+1):Nat):Int)),((((k0+cnts (x1.take i))+2):Nat):Int),((((k0+cnts (x1.take i))+3):Nat):Int),((((k0+cnts (x1.take i))+4):Nat):Int),(((((k0+cnts (x1.take i))+5):Nat):Int),((((k0+cnts (x1.take i))+6):Nat):Int),((((k0+cnts (x1.take i))+7):Nat):Int),(mtx ((k0+cnts (x1.take i))+8)),(mtx ((k0+cnts (x1.take i))+9)),(mtx ((k0+cnts (x1.take i))+10)),((((k0+cnts (x1.take i))+11):Nat):Int),b58),b6,b7,b8):T_Inst)),y1⟩:TL T_Inst)) (show (((half k0 i x1).set i ((((((k0+cnts (x1.take i)):Nat):Int),((((k0+cnts (x1.take i))+1):Nat):Int)),((((k0+cnts (x1.take i))+2):Nat):Int),((((k0+cnts (x1.take i))+3):Nat):Int),((((k0+cnts (x1.take i))+4):Nat):Int),(((((k0+cnts (x1.take i))+5):Nat):Int),((((k0+cnts (x1.take i))+6):Nat):Int),((((k0+cnts (x1.take i))+7):Nat):Int),(mtx ((k0+cnts (x1.take i))+8)),(mtx ((k0+cnts (x1.take i))+9)),(mtx ((k0+cnts (x1.take i))+10)),((((k0+cnts (x1.take i))+11):Nat):Int),b58),b6,b7,b8):T_Inst)):List T_Inst)[i]?=some ((((((k0+cnts (x1.take i)):Nat):Int),((((k0+cnts (x1.take i))+1):Nat):Int)),((((k0+cnts (x1.take i))+2):Nat):Int),((((k0+cnts (x1.take i))+3):Nat):Int),((((k0+cnts (x1.take i))+4):Nat):Int),(((((k0+cnts (x1.take i))+5):Nat):Int),((((k0+cnts (x1.take i))+6):Nat):Int),((((k0+cnts (x1.take i))+7):Nat):Int),(mtx ((k0+cnts (x1.take i))+8)),(mtx ((k0+cnts (x1.take i))+9)),(mtx ((k0+cnts (x1.take i))+10)),((((k0+cnts (x1.take i))+11):Nat):Int),b58),b6,b7,b8):T_Inst) from set_get (half_get (k:=k0) hu)) (frontPick pk h)) ?_
   refine L_conv (fun w h=>tree_pair h) ?_
   refine L_conv (fun w h=>frontPick (Pick.there _ (Pick.here _)) h) ?_
   refine L_conv (fun w h=>tree_pair h) ?_
   refine L_conv (fun w h=>frontPick (Pick.there _ (Pick.here _)) h) ?_
   refine L_conv (fun w h=>tree_pair h) ?_
   refine L_conv (fun w h=>frontPick (Pick.there _ (Pick.here _)) h) ?_
   refine L_conv (fun w h=>tree_pair h) ?_
   refine L_conv (fun w h=>frontPick (Pick.there _ (Pick.here _)) h) ?_
   refine L_conv (fun w h=>tree_pair h) ?_
   refine L_conv (fun w h=>tree_pair h) ?_
   refine L_conv (fun w h=>frontPick (Pick.there _ (Pick.here _)) h) ?_
   refine L_conv (fun w h=>tree_pair h) ?_
   refine L_conv (fun w h=>frontPick (Pick.there _ (Pick.here _)) h) ?_
   refine L_conv (fun w h=>tree_pair h) ?_
   refine L_conv (fun w h=>frontPick (Pick.there _ (Pick.here _)) h) ?_
   refine L_conv (fun w h=>tree_pair h) ?_
   refine L_conv (fun w h=>frontPick (Pick.there _ (Pick.here _)) h) ?_
   refine L_conv (fun w h=>tree_pair h) ?_
   refine L_conv (fun w h=>frontPick (Pick.there _ (Pick.here _)) h) ?_
   refine L_conv (fun w h=>tree_pair h) ?_
   refine L_conv (fun w h=>frontPick (Pick.there _ (Pick.here _)) h) ?_
   refine L_conv (fun w h=>tree_pair h) ?_
   refine L_conv (fun w h=>frontPick (Pick.there _ (Pick.here _)) h) ?_
   refine L_call1 rfl fn79.h rfl (Pick.here _) (by exact fun w hw=>markStringS_spec w b58 ((k0+cnts (x1.take i))+12) (by omega) (by omega)) ?_
   rintro v M1 ⟨hv,rfl⟩
   subst hv
   simp only [List.cons_append,List.nil_append]
   refine L_conv (fun w h=>pairPick (Pick.here _) h) ?_
   refine L_conv (fun w h=>pairPick (Pick.here _) h) ?_
   refine L_conv (fun w h=>pairPick (Pick.here _) h) ?_
   refine L_conv (fun w h=>pairPick (Pick.here _) h) ?_
   refine L_conv (fun w h=>pairPick (Pick.here _) h) ?_
   refine L_conv (fun w h=>pairPick (Pick.here _) h) ?_
   refine L_conv (fun w h=>pairPick (Pick.here _) h) ?_
   refine L_conv (fun w h=>pairFront (Pick.here _) h) ?_
   refine L_conv (fun w h=>pairPick (Pick.here _) h) ?_
   refine L_conv (fun w h=>pairPick (Pick.here _) h) ?_
   refine L_conv (fun w h=>pairPick (Pick.here _) h) ?_
   refine L_conv (fun w h=>pairPick (Pick.here _) h) ?_
   refine L_conv (M':=treeH (⟨some ⟨g,0,none⟩,c1,e1,(((half k0 i x1).set i ((((((k0+cnts (x1.take i)):Nat):Int),((((k0+cnts (x1.take i))+1):Nat):Int)),((((k0+cnts (x1.take i))+2):Nat):Int),((((k0+cnts (x1.take i))+3):Nat):Int),((((k0+cnts (x1.take i))+4):Nat):Int),(((((k0+cnts (x1.take i))+5):Nat):Int),((((k0+cnts (x1.take i))+6):Nat):Int),((((k0+cnts (x1.take i))+7):Nat):Int),(mtx ((k0+cnts (x1.take i))+8)),(mtx ((k0+cnts (x1.take i))+9)),(mtx ((k0+cnts (x1.take i))+10)),((((k0+cnts (x1.take i))+11):Nat):Int),b58),b6,b7,b8):T_Inst)).set i ((((((k0+cnts (x1.take i)):Nat):Int),((((k0+cnts (x1.take i))+1):Nat):Int)),((((k0+cnts (x1.take i))+2):Nat):Int),((((k0+cnts (x1.take i))+3):Nat):Int),((((k0+cnts (x1.take i))+4):Nat):Int),(((((k0+cnts (x1.take i))+5):Nat):Int),((((k0+cnts (x1.take i))+6):Nat):Int),((((k0+cnts (x1.take i))+7):Nat):Int),(mtx ((k0+cnts (x1.take i))+8)),(mtx ((k0+cnts (x1.take i))+9)),(mtx ((k0+cnts (x1.take i))+10)),((((k0+cnts (x1.take i))+11):Nat):Int),(Mk.mkd ((k0+cnts (x1.take i))+12) b58)),b6,b7,b8):T_Inst)),y1⟩:TL T_Inst)::_) (fun w h=>el_in (L:=(⟨some ⟨g,0,none⟩,c1,e1,((half k0 i x1).set i ((((((k0+cnts (x1.take i)):Nat):Int),((((k0+cnts (x1.take i))+1):Nat):Int)),((((k0+cnts (x1.take i))+2):Nat):Int),((((k0+cnts (x1.take i))+3):Nat):Int),((((k0+cnts (x1.take i))+4):Nat):Int),(((((k0+cnts (x1.take i))+5):Nat):Int),((((k0+cnts (x1.take i))+6):Nat):Int),((((k0+cnts (x1.take i))+7):Nat):Int),(mtx ((k0+cnts (x1.take i))+8)),(mtx ((k0+cnts (x1.take i))+9)),(mtx ((k0+cnts (x1.take i))+10)),((((k0+cnts (x1.take i))+11):Nat):Int),b58),b6,b7,b8):T_Inst)),y1⟩:TL T_Inst)) (show (((half k0 i x1).set i ((((((k0+cnts (x1.take i)):Nat):Int),((((k0+cnts (x1.take i))+1):Nat):Int)),((((k0+cnts (x1.take i))+2):Nat):Int),((((k0+cnts (x1.take i))+3):Nat):Int),((((k0+cnts (x1.take i))+4):Nat):Int),(((((k0+cnts (x1.take i))+5):Nat):Int),((((k0+cnts (x1.take i))+6):Nat):Int),((((k0+cnts (x1.take i))+7):Nat):Int),(mtx ((k0+cnts (x1.take i))+8)),(mtx ((k0+cnts (x1.take i))+9)),(mtx ((k0+cnts (x1.take i))+10)),((((k0+cnts (x1.take i))+11):Nat):Int),b58),b6,b7,b8):T_Inst)):List T_Inst)[i]?=some ((((((k0+cnts (x1.take i)):Nat):Int),((((k0+cnts (x1.take i))+1):Nat):Int)),((((k0+cnts (x1.take i))+2):Nat):Int),((((k0+cnts (x1.take i))+3):Nat):Int),((((k0+cnts (x1.take i))+4):Nat):Int),(((((k0+cnts (x1.take i))+5):Nat):Int),((((k0+cnts (x1.take i))+6):Nat):Int),((((k0+cnts (x1.take i))+7):Nat):Int),(mtx ((k0+cnts (x1.take i))+8)),(mtx ((k0+cnts (x1.take i))+9)),(mtx ((k0+cnts (x1.take i))+10)),((((k0+cnts (x1.take i))+11):Nat):Int),b58),b6,b7,b8):T_Inst) from set_get (half_get (k:=k0) hu)) (by simp only [cells_pair,cells_mkTL]) h) ?_
   rw [List.set_set]
   refine s7 ?_
   refine L_indexAddr rfl rfl rfl el24.h rfl (by omega) ?_
   refine s1 ?_
   refine L_storeElF (fo:=13) (x':=((((((k0+cnts (x1.take i)):Nat):Int),((((k0+cnts (x1.take i))+1):Nat):Int)),((((k0+cnts (x1.take i))+2):Nat):Int),((((k0+cnts (x1.take i))+3):Nat):Int),((((k0+cnts (x1.take i))+4):Nat):Int),(((((k0+cnts (x1.take i))+5):Nat):Int),((((k0+cnts (x1.take i))+6):Nat):Int),((((k0+cnts (x1.take i))+7):Nat):Int),(mtx ((k0+cnts (x1.take i))+8)),(mtx ((k0+cnts (x1.take i))+9)),(mtx ((k0+cnts (x1.take i))+10)),((((k0+cnts (x1.take i))+11):Nat):Int),(Mk.mkd ((k0+cnts (x1.take i))+12) b58)),(((((k0+cnts (x1.take i))+12)+Mk.cnt b58):Nat):Int),b7,b8):T_Inst)) rfl rfl pk rfl (show (((half k0 i x1).set i ((((((k0+cnts (x1.take i)):Nat):Int),((((k0+cnts (x1.take i))+1):Nat):Int)),((((k0+cnts (x1.take i))+2):Nat):Int),((((k0+cnts (x1.take i))+3):Nat):Int),((((k0+cnts (x1.take i))+4):Nat):Int),(((((k0+cnts (x1.take i))+5):Nat):Int),((((k0+cnts (x1.take i))+6):Nat):Int),((((k0+cnts (x1.take i))+7):Nat):Int),(mtx ((k0+cnts (x1.take i))+8)),(mtx ((k0+cnts (x1.take i))+9)),(mtx ((k0+cnts (x1.take i))+10)),((((k0+cnts (x1.take i))+11):Nat):Int),(Mk.mkd ((k0+cnts (x1.take i))+12) b58)),b6,b7,b8):T_Inst)):List T_Inst)[i]?=some ((((((k0+cnts (x1.take i)):Nat):Int),((((k0+cnts (x1.take i))+1):Nat):Int)),((((k0+cnts (x1.take i))+2):Nat):Int),((((k0+cnts (x1.take i))+3):Nat):Int),((((k0+cnts (x1.take i))+4):Nat):Int),(((((k0+cnts (x1.take i))+5):Nat):Int),((((k0+cnts (x1.take i))+6):Nat):Int),((((k0+cnts (x1.take i))+7):Nat):Int),(mtx ((k0+cnts (x1.take i))+8)),(mtx ((k0+cnts (x1.take i))+9)),(mtx ((k0+cnts (x1.take i))+10)),((((k0+cnts (x1.take i))+11):Nat):Int),(Mk.mkd ((k0+cnts (x1.take i))+12) b58)),b6,b7,b8):T_Inst) from set_get (half_get (k:=k0) hu)) rfl rfl (by decide) rfl (fun w h=>by exact ⟨⟨h.1.1,h.1.2⟩,h.2.1,h.2.2.1,h.2.2.2.1,⟨h.2.2.2.2.1.1,h.2.2.2.2.1.2.1,h.2.2.2.2.1.2.2.1,h.2.2.2.2.1.2.2.2.1,h.2.2.2.2.1.2.2.2.2.1,h.2.2.2.2.1.2.2.2.2.2.1,h.2.2.2.2.1.2.2.2.2.2.2.1,h.2.2.2.2.1.2.2.2.2.2.2.2⟩,(by exact trivial),h.2.2.2.2.2.2.1,h.2.2.2.2.2.2.2⟩) one3.h ?_
   rw [List.set_set]
   refine s4 ?_
   refine L_binV rfl rfl rfl (bv_addR (by unfold inR;omega)) ?_
   refine s2 ?_
   rw [show (((((k0+cnts (x1.take i))+12)+Mk.cnt b58):Nat):Int)+1=((((((k0+cnts (x1.take i))+12)+Mk.cnt b58)+1):Nat):Int) from rfl]
   refine s4 ?_
   refine L_indexAddr rfl rfl rfl el24.h rfl (by omega) ?_
   refine s1 ?_
   refine L_load rfl rfl (by exact RdC.el (L:=(⟨some ⟨g,0,none⟩,c1,e1,((half k0 i x1).set i ((((((k0+cnts (x1.take i)):Nat):Int),((((k0+cnts (x1.take i))+1):Nat):Int)),((((k0+cnts (x1.take i))+2):Nat):Int),((((k0+cnts (x1.take i))+3):Nat):Int),((((k0+cnts (x1.take i))+4):Nat):Int),(((((k0+cnts (x1.take i))+5):Nat):Int),((((k0+cnts (x1.take i))+6):Nat):Int),((((k0+cnts (x1.take i))+7):Nat):Int),(mtx ((k0+cnts (x1.take i))+8)),(mtx ((k0+cnts (x1.take i))+9)),(mtx ((k0+cnts (x1.take i))+10)),((((k0+cnts (x1.take i))+11):Nat):Int),(Mk.mkd ((k0+cnts (x1.take i))+12) b58)),(((((k0+cnts (x1.take i))+12)+Mk.cnt b58):Nat):Int),b7,b8):T_Inst)),y1⟩:TL T_Inst)) mm rfl (show (((half k0 i x1).set i ((((((k0+cnts (x1.take i)):Nat):Int),((((k0+cnts (x1.take i))+1):Nat):Int)),((((k0+cnts (x1.take i))+2):Nat):Int),((((k0+cnts (x1.take i))+3):Nat):Int),((((k0+cnts (x1.take i))+4):Nat):Int),(((((k0+cnts (x1.take i))+5):Nat):Int),((((k0+cnts (x1.take i))+6):Nat):Int),((((k0+cnts (x1.take i))+7):Nat):Int),(mtx ((k0+cnts (x1.take i))+8)),(mtx ((k0+cnts (x1.take i))+9)),(mtx ((k0+cnts (x1.take i))+10)),((((k0+cnts (x1.take i))+11):Nat):Int),(Mk.mkd ((k0+cnts (x1.take i))+12) b58)),(((((k0+cnts (x1.take i))+12)+Mk.cnt b58):Nat):Int),b7,b8):T_Inst)):List T_Inst)[i]?=some ((((((k0+cnts (x1.take i)):Nat):Int),((((k0+cnts (x1.take i))+1):Nat):Int)),((((k0+cnts (x1.take i))+2):Nat):Int),((((k0+cnts (x1.take i))+3):Nat):Int),((((k0+cnts (x1.take i))+4):Nat):Int),(((((k0+cnts (x1.take i))+5):Nat):Int),((((k0+cnts (x1.take i))+6):Nat):Int),((((k0+cnts (x1.take i))+7):Nat):Int),(mtx ((k0+cnts (x1.take i))+8)),(mtx ((k0+cnts (x1.take i))+9)),(mtx ((k0+cnts (x1.take i))+10)),((((k0+cnts (x1.take i))+11):Nat):Int),(Mk.mkd ((k0+cnts (x1.take i))+12) b58)),(((((k0+cnts (x1.take i))+12)+Mk.cnt b58):Nat):Int),b7,b8):T_Inst) from set_get (half_get (k:=k0) hu))) one33.h rfl ?_
   refine s1 ?_
   refine L_conv (fun w h=>el_out (L:=(⟨some ⟨g,0,none⟩,c1,e1,((half k0 i x1).set i ((((((k0+cnts (x1.take i)):Nat):Int),((((k0+cnts (x1.take i))+1):Nat):Int)),((((k0+cnts (x1.take i))+2):Nat):Int),((((k0+cnts (x1.take i))+3):Nat):Int),((((k0+cnts (x1.take i))+4):Nat):Int),(((((k0+cnts (x1.take i))+5):Nat):Int),((((k0+cnts (x1.take i))+6):Nat):Int),((((k0+cnts (x1.take i))+7):Nat):Int),(mtx ((k0+cnts (x1.take i))+8)),(mtx ((k0+cnts (x1.take i))+9)),(mtx ((k0+cnts (x1.take i))+10)),((((k0+cnts (x1.take i))+11):Nat):Int),(Mk.mkd ((k0+cnts (x1.take i))+12) b58)),(((((k0+cnts (x1.take i))+12)+Mk.cnt b58):Nat):Int),b7,b8):T_Inst)),y1⟩:TL T_Inst)) (show (((half k0 i x1).set i ((((((k0+cnts (x1.take i)):Nat):Int),((((k0+cnts (x1.take i))+1):Nat):Int)),((((k0+cnts (x1.take i))+2):Nat):Int),((((k0+cnts (x1.take i))+3):Nat):Int),((((k0+cnts (x1.take i))+4):Nat):Int),(((((k0+cnts (x1.take i))+5):Nat):Int),((((k0+cnts (x1.take i))+6):Nat):Int),((((k0+cnts (x1.take i))+7):Nat):Int),(mtx ((k0+cnts (x1.take i))+8)),(mtx ((k0+cnts (x1.take i))+9)),(mtx ((k0+cnts (x1.take i))+10)),((((k0+cnts (x1.take i))+11):Nat):Int),(Mk.mkd ((k0+cnts (x1.take i))+12) b58)),(((((k0+cnts (x1.take i))+12)+Mk.cnt b58):Nat):Int),b7,b8):T_Inst)):List T_Inst)[i]?=some ((((((k0+cnts (x1.take i)):Nat):Int),((((k0+cnts (x1.take i))+1):Nat):Int)),((((k0+cnts (x1.take i))+2):Nat):Int),((((k0+cnts (x1.take i))+3):Nat):Int),((((k0+cnts (x1.take i))+4):Nat):Int),(((((k0+cnts (x1.take i))+5):Nat):Int),((((k0+cnts (x1.take i))+6):Nat):Int),((((k0+cnts (x1.take i))+7):Nat):Int),(mtx ((k0+cnts (x1.take i))+8)),(mtx ((k0+cnts (x1.take i))+9)),(mtx ((k0+cnts (x1.take i))+10)),((((k0+cnts (x1.take i))+11):Nat):Int),(Mk.mkd ((k0+cnts (x1.take i))+12) b58)),(((((k0+cnts (x1.take i))+12)+Mk.cnt b58):Nat):Int),b7,b8):T_Inst) from set_get (half_get (k:=k0) hu)) (frontPick pk h)) ?_
   refine L_conv (fun w h=>tree_pair h) ?_
   refine L_conv (fun w h=>frontPick (Pick.there _ (Pick.here _)) h) ?_
   refine L_conv (fun w h=>tree_pair h) ?_
   refine L_conv (fun w h=>frontPick (Pick.there _ (Pick.here _)) h) ?_
   refine L_conv (fun w h=>tree_pair h) ?_
   refine L_conv (fun w h=>frontPick (Pick.there _ (Pick.here _)) h) ?_
   refine L_conv (fun w h=>tree_pair h) ?_
   refine L_conv (fun w h=>frontPick (Pick.there _ (Pick.here _)) h) ?_
   refine L_conv (fun w h=>tree_pair h) ?_
   refine L_conv (fun w h=>frontPick (Pick.there _ (Pick.here _)) h) ?_
   refine L_conv (fun w h=>tree_pair h) ?_
   refine L_conv (fun w h=>frontPick (Pick.there _ (Pick.here _)) h) ?_
   refine L_conv (fun w h=>tree_pair h) ?_
   refine L_call1 rfl fn80.h rfl (Pick.here _) (by exact fun w hw=>markIdS_spec w b7 ((((k0+cnts (x1.take i))+12)+Mk.cnt b58)+1) (by omega) (by omega)) ?_
   rintro v M1 ⟨hv,rfl⟩
   subst hv
   simp only [List.cons_append,List.nil_append]
   refine L_conv (fun w h=>pairFront (Pick.here _) h) ?_
   refine L_conv (fun w h=>pairPick (Pick.here _) h) ?_
   refine L_conv (fun w h=>pairPick (Pick.here _) h) ?_
   refine L_conv (fun w h=>pairPick (Pick.here _) h) ?_
   refine L_conv (fun w h=>pairPick (Pick.here _) h) ?_
   refine L_conv (fun w h=>pairPick (Pick.here _) h) ?_
   refine L_conv (fun w h=>pairPick (Pick.here _) h) ?_
   refine L_conv (M':=treeH (⟨some ⟨g,0,none⟩,c1,e1,(((half k0 i x1).set i ((((((k0+cnts (x1.take i)):Nat):Int),((((k0+cnts (x1.take i))+1):Nat):Int)),((((k0+cnts (x1.take i))+2):Nat):Int),((((k0+cnts (x1.take i))+3):Nat):Int),((((k0+cnts (x1.take i))+4):Nat):Int),(((((k0+cnts (x1.take i))+5):Nat):Int),((((k0+cnts (x1.take i))+6):Nat):Int),((((k0+cnts (x1.take i))+7):Nat):Int),(mtx ((k0+cnts (x1.take i))+8)),(mtx ((k0+cnts (x1.take i))+9)),(mtx ((k0+cnts (x1.take i))+10)),((((k0+cnts (x1.take i))+11):Nat):Int),(Mk.mkd ((k0+cnts (x1.take i))+12) b58)),(((((k0+cnts (x1.take i))+12)+Mk.cnt b58):Nat):Int),b7,b8):T_Inst)).set i ((((((k0+cnts (x1.take i)):Nat):Int),((((k0+cnts (x1.take i))+1):Nat):Int)),((((k0+cnts (x1.take i))+2):Nat):Int),((((k0+cnts (x1.take i))+3):Nat):Int),((((k0+cnts (x1.take i))+4):Nat):Int),(((((k0+cnts (x1.take i))+5):Nat):Int),((((k0+cnts (x1.take i))+6):Nat):Int),((((k0+cnts (x1.take i))+7):Nat):Int),(mtx ((k0+cnts (x1.take i))+8)),(mtx ((k0+cnts (x1.take i))+9)),(mtx ((k0+cnts (x1.take i))+10)),((((k0+cnts (x1.take i))+11):Nat):Int),(Mk.mkd ((k0+cnts (x1.take i))+12) b58)),(((((k0+cnts (x1.take i))+12)+Mk.cnt b58):Nat):Int),(Mk.mkd ((((k0+cnts (x1.take i))+12)+Mk.cnt b58)+1) b7),b8):T_Inst)),y1⟩:TL T_Inst)::_) (fun w h=>el_in (L:=(⟨some ⟨g,0,none⟩,c1,e1,((half k0 i x1).set i ((((((k0+cnts (x1.take i)):Nat):Int),((((k0+cnts (x1.take i))+1):Nat):Int)),((((k0+cnts (x1.take i))+2):Nat):Int),((((k0+cnts (x1.take i))+3):Nat):Int),((((k0+cnts (x1.take i))+4):Nat):Int),(((((k0+cnts (x1.take i))+5):Nat):Int),((((k0+cnts (x1.take i))+6):Nat):Int),((((k0+cnts (x1.take i))+7):Nat):Int),(mtx ((k0+cnts (x1.take i))+8)),(mtx ((k0+cnts (x1.take i))+9)),(mtx ((k0+cnts (x1.take i))+10)),((((k0+cnts (x1.take i))+11):Nat):Int),(Mk.mkd ((k0+cnts (x1.take i))+12) b58)),(((((k0+cnts (x1.take i))+12)+Mk.cnt b58):Nat):Int),b7,b8):T_Inst)),y1⟩:TL T_Inst)) (show (((half k0 i x1).set i ((((((k0+cnts (x1.take i)):Nat):Int),((((k0+cnts (x1.take i))+1):Nat):Int)),((((k0+cnts (x1.take i))+2):Nat):Int),((((k0+cnts (x1.take i))+3):Nat):Int),((((k0+cnts (x1.take i))+4):Nat):Int),(((((k0+cnts (x1.take i))+5):Nat):Int),((((k0+cnts (x1.take i))+6):Nat):Int),((((k0+cnts (x1.take i))+7):Nat):Int),(mtx ((k0+cnts (x1.take i))+8)),(mtx ((k0+cnts (x1.take i))+9)),(mtx ((k0+cnts (x1.take i))+10)),((((k0+cnts (x1.take i))+11):Nat):Int),(Mk.mkd ((k0+cnts (x1.take i))+12) b58)),(((((k0+cnts (x1.take i))+12)+Mk.cnt b58):Nat):Int),b7,b8):T_Inst)):List T_Inst)[i]?=some ((((((k0+cnts (x1.take i)):Nat):Int),((((k0+cnts (x1.take i))+1):Nat):Int)),((((k0+cnts (x1.take i))+2):Nat):Int),((((k0+cnts (x1.take i))+3):Nat):Int),((((k0+cnts (x1.take i))+4):Nat):Int),(((((k0+cnts (x1.take i))+5):Nat):Int),((((k0+cnts (x1.take i))+6):Nat):Int),((((k0+cnts (x1.take i))+7):Nat):Int),(mtx ((k0+cnts (x1.take i))+8)),(mtx ((k0+cnts (x1.take i))+9)),(mtx ((k0+cnts (x1.take i))+10)),((((k0+cnts (x1.take i))+11):Nat):Int),(Mk.mkd ((k0+cnts (x1.take i))+12) b58)),(((((k0+cnts (x1.take i))+12)+Mk.cnt b58):Nat):Int),b7,b8):T_Inst) from set_get (half_get (k:=k0) hu)) (by simp only [cells_pair,cells_mkTL]) h) ?_
   rw [List.set_set]
   refine s7 ?_
   refine L_binV rfl rfl rfl (bv_rem (by omega)) ?_
   refine s1 ?_
   refine L_indexAddr rfl rfl rfl el24.h rfl (by omega) ?_
   refine s1 ?_
   refine L_storeElF (fo:=15) (x':=((((((k0+cnts (x1.take i)):Nat):Int),((((k0+cnts (x1.take i))+1):Nat):Int)),((((k0+cnts (x1.take i))+2):Nat):Int),((((k0+cnts (x1.take i))+3):Nat):Int),((((k0+cnts (x1.take i))+4):Nat):Int),(((((k0+cnts (x1.take i))+5):Nat):Int),((((k0+cnts (x1.take i))+6):Nat):Int),((((k0+cnts (x1.take i))+7):Nat):Int),(mtx ((k0+cnts (x1.take i))+8)),(mtx ((k0+cnts (x1.take i))+9)),(mtx ((k0+cnts (x1.take i))+10)),((((k0+cnts (x1.take i))+11):Nat):Int),(Mk.mkd ((k0+cnts (x1.take i))+12) b58)),(((((k0+cnts (x1.take i))+12)+Mk.cnt b58):Nat):Int),(Mk.mkd ((((k0+cnts (x1.take i))+12)+Mk.cnt b58)+1) b7),(decide ((((((((k0+cnts (x1.take i))+12)+Mk.cnt b58)+1)+Mk.cnt b7):Nat):Int).tmod 3=0))):T_Inst)) rfl rfl pk rfl (show (((half k0 i x1).set i ((((((k0+cnts (x1.take i)):Nat):Int),((((k0+cnts (x1.take i))+1):Nat):Int)),((((k0+cnts (x1.take i))+2):Nat):Int),((((k0+cnts (x1.take i))+3):Nat):Int),((((k0+cnts (x1.take i))+4):Nat):Int),(((((k0+cnts (x1.take i))+5):Nat):Int),((((k0+cnts (x1.take i))+6):Nat):Int),((((k0+cnts (x1.take i))+7):Nat):Int),(mtx ((k0+cnts (x1.take i))+8)),(mtx ((k0+cnts (x1.take i))+9)),(mtx ((k0+cnts (x1.take i))+10)),((((k0+cnts (x1.take i))+11):Nat):Int),(Mk.mkd ((k0+cnts (x1.take i))+12) b58)),(((((k0+cnts (x1.take i))+12)+Mk.cnt b58):Nat):Int),(Mk.mkd ((((k0+cnts (x1.take i))+12)+Mk.cnt b58)+1) b7),b8):T_Inst)):List T_Inst)[i]?=some ((((((k0+cnts (x1.take i)):Nat):Int),((((k0+cnts (x1.take i))+1):Nat):Int)),((((k0+cnts (x1.take i))+2):Nat):Int),((((k0+cnts (x1.take i))+3):Nat):Int),((((k0+cnts (x1.take i))+4):Nat):Int),(((((k0+cnts (x1.take i))+5):Nat):Int),((((k0+cnts (x1.take i))+6):Nat):Int),((((k0+cnts (x1.take i))+7):Nat):Int),(mtx ((k0+cnts (x1.take i))+8)),(mtx ((k0+cnts (x1.take i))+9)),(mtx ((k0+cnts (x1.take i))+10)),((((k0+cnts (x1.take i))+11):Nat):Int),(Mk.mkd ((k0+cnts (x1.take i))+12) b58)),(((((k0+cnts (x1.take i))+12)+Mk.cnt b58):Nat):Int),(Mk.mkd ((((k0+cnts (x1.take i))+12)+Mk.cnt b58)+1) b7),b8):T_Inst) from set_get (half_get (k:=k0) hu)) rfl rfl (by decide) rfl (fun w h=>by exact ⟨⟨h.1.1,h.1.2⟩,h.2.1,h.2.2.1,h.2.2.2.1,⟨h.2.2.2.2.1.1,h.2.2.2.2.1.2.1,h.2.2.2.2.1.2.2.1,h.2.2.2.2.1.2.2.2.1,h.2.2.2.2.1.2.2.2.2.1,h.2.2.2.2.1.2.2.2.2.2.1,h.2.2.2.2.1.2.2.2.2.2.2.1,h.2.2.2.2.1.2.2.2.2.2.2.2⟩,h.2.2.2.2.2.1,h.2.2.2.2.2.2.1,(by exact trivial)⟩) one4.h ?_
   rw [List.set_set]
   refine s3 ?_
   refine L_binV rfl rfl rfl (bv_addR (by unfold inR;omega)) ?_
   refine s2 ?_
   rw [show (((((((k0+cnts (x1.take i))+12)+Mk.cnt b58)+1)+Mk.cnt b7):Nat):Int)+1=((((((((k0+cnts (x1.take i))+12)+Mk.cnt b58)+1)+Mk.cnt b7)+1):Nat):Int) from rfl]
   have hfin:((half k0 i x1).set i ((((((k0+cnts (x1.take i)):Nat):Int),((((k0+cnts (x1.take i))+1):Nat):Int)),((((k0+cnts (x1.take i))+2):Nat):Int),((((k0+cnts (x1.take i))+3):Nat):Int),((((k0+cnts (x1.take i))+4):Nat):Int),(((((k0+cnts (x1.take i))+5):Nat):Int),((((k0+cnts (x1.take i))+6):Nat):Int),((((k0+cnts (x1.take i))+7):Nat):Int),(mtx ((k0+cnts (x1.take i))+8)),(mtx ((k0+cnts (x1.take i))+9)),(mtx ((k0+cnts (x1.take i))+10)),((((k0+cnts (x1.take i))+11):Nat):Int),(Mk.mkd ((k0+cnts (x1.take i))+12) b58)),(((((k0+cnts (x1.take i))+12)+Mk.cnt b58):Nat):Int),(Mk.mkd ((((k0+cnts (x1.take i))+12)+Mk.cnt b58)+1) b7),(decide ((((((((k0+cnts (x1.take i))+12)+Mk.cnt b58)+1)+Mk.cnt b7):Nat):Int).tmod 3=0))):T_Inst))=half k0 (i+1) x1:=by
    have h9:=half_set (k:=k0) hu
    try simp only [mk_pair,mk_int,mk_str,mk_bool,cnt_pair,cnt_int,cnt_str,cnt_bool,← Nat.add_assoc] at h9
    try simp only [List.set_set]
    exact h9
   refine W_conv (M':=treeH (⟨some ⟨g,0,none⟩,c1,e1,(half k0 (i+1) x1),y1⟩:TL T_Inst)::_) (fun w h=>by rw [← hfin];exact h) ?_
   have hE:((((((k0+cnts (x1.take i))+12)+Mk.cnt b58)+1)+Mk.cnt b7)+1)=k0+cnts (x1.take (i+1)):=by rw [hs];(try simp only [cnt_pair,cnt_int,cnt_str,cnt_bool]);omega
   rw [hE]
   refine s2 ?_
   refine L_binV rfl rfl rfl (bv_addR (by unfold inR;omega)) ?_
   refine s2 ?_
   refine ⟨i+1,sb,ms,?_,?_⟩
   ·show i+1≤x1.length
    omega
   ·show x1.length - (i+1) < x1.length - i
    omega
  ·refine W_exit ?_
   refine s6 ?_
   have hk2:x1.length≤i:=by simpa using q2
   rw [half_all k0 hk2]
   refine res1 rfl (ResOK.tmp rfl) ⟨?_,rfl⟩ ms
   have hk2:x1.length≤i:=by simpa using q2
   rw [List.take_of_length_le hk2];rfl
set_option maxHeartbeats 4000000 in
theorem heldInstS_spec (w:World) (t1:TL T_Inst) (k0:Nat) (hk0:0 < k0) (hb:k0+Mk.cnt t1 < 9223372036854775807) (h1:GT.rd w [] (Mk.mkd k0 t1)):Spec Tryz.prog 81 [(Mk.mkd k0 t1).hdr,.int .i64 (k0:Int)].toArray w [] (IsV (.int .i64 ((k0+Mk.cnt t1:Nat):Int))):=by
 obtain ⟨a1,c1,e1,x1,y1⟩:=t1
 replace hb:k0+cnts x1 < 9223372036854775807:=hb
 have hml:=mks_length x1 k0
 have hm1:(mks k0 x1).length≤9223372036854775807:=rd_len h1
 rw [mk_TL] at h1 ⊢
 dsimp only [TL.hdr]
 refine Spec.intro Tryz.func81 rfl Tryz.ntmps81 rfl ?_
 refine s10 ?_
 refine W_loopC (σ:=Nat) 0 (fun (i:Nat)=>[(1,.int .i64 ((k0+cnts (x1.take i):Nat):Int)),(5,.int .i64 (i:Int))]) (fun (i:Nat)=>[]) (fun (i:Nat)=>i≤x1.length) (fun (i:Nat)=>x1.length - i) [(0,_)] [] ?_ sb ms ?_
 ·exact Nat.zero_le _
 ·rintro i hi
  refine kq [0,1,5] ?_
  refine s5 ?_
  refine L_lenS rfl rfl el24.h ?_
  refine s2 ?_
  refine kp [0,1,5,9] ?_
  refine W_cond rfl (fun q2=>?_) (fun q2=>?_)
  ·have hk1:i < (mks k0 x1).length:=by simpa using q2
   obtain ⟨g,o1,rfl⟩:=rd_addr h1 hk1
   obtain ⟨u,hu⟩:=getEl (show i < x1.length by omega)
   have hs:=cnts_take_succ hu
   have hle:=cnts_take_le x1 (i+1)
   have hu2:=mks_get (k:=k0) hu
   obtain ⟨⟨b11,b12⟩,b2,b3,b4,⟨b51,b52,b53,b54,b55,b56,b57,b58⟩,b6,b7,b8⟩:=u
   simp only [mk_pair,mk_int,mk_str,mk_bool,cnt_pair,cnt_int,cnt_str,cnt_bool,← Nat.add_assoc] at hs hu2
   refine s8 ?_
   refine L_indexAddr rfl rfl rfl el24.h rfl (by omega) ?_
   refine s2 ?_
   refine L_load (fo:=0) rfl rfl (by first | exact RdC.blk mm | exact RdC.old (Cells.el h1 rfl hu2)) one3.h rfl ?_
   refine s3 ?_
   refine kp [0,1,5,19] ?_
   refine W_cond rfl (fun q4=>?_) (fun q4=>?_)
   ·refine s5 ?_
    refine res1 rfl (ResOK.tmp rfl) ⟨?_,rfl⟩ ms
    exfalso;simp [mk_int,mk_str,mk_bool] at q4
   ·refine s4 ?_
    refine L_binV rfl rfl rfl (bv_addR (by unfold inR;omega)) ?_
    refine s2 ?_
    rw [show (((k0+cnts (x1.take i)):Nat):Int)+1=(((k0+cnts (x1.take i))+1:Nat):Int) from rfl]
    refine s5 ?_
    refine L_indexAddr rfl rfl rfl el24.h rfl (by omega) ?_
    refine s2 ?_
    refine L_load (fo:=1) rfl rfl (by first | exact RdC.blk mm | exact RdC.old (Cells.el h1 rfl hu2)) one3.h rfl ?_
    refine s3 ?_
    refine kp [0,1,5,29] ?_
    refine W_cond rfl (fun q7=>?_) (fun q7=>?_)
    ·refine s5 ?_
     refine res1 rfl (ResOK.tmp rfl) ⟨?_,rfl⟩ ms
     exfalso;simp [mk_int,mk_str,mk_bool] at q7
    ·refine s4 ?_
     refine L_binV rfl rfl rfl (bv_addR (by unfold inR;omega)) ?_
     refine s2 ?_
     rw [show ((((k0+cnts (x1.take i))+1):Nat):Int)+1=((((k0+cnts (x1.take i))+1)+1:Nat):Int) from rfl]
     refine s5 ?_
     refine L_indexAddr rfl rfl rfl el24.h rfl (by omega) ?_
     refine s1 ?_
     refine L_load rfl rfl (by first | exact RdC.blk mm | exact RdC.old (Cells.el h1 rfl hu2)) one3.h rfl ?_
     refine s3 ?_
     refine kp [0,1,5,38] ?_
     refine W_cond rfl (fun q10=>?_) (fun q10=>?_)
     ·refine s5 ?_
      refine res1 rfl (ResOK.tmp rfl) ⟨?_,rfl⟩ ms
      exfalso;simp [mk_int,mk_str,mk_bool] at q10
     ·refine s4 ?_
      refine L_binV rfl rfl rfl (bv_addR (by unfold inR;omega)) ?_
      refine s2 ?_
      rw [show (((((k0+cnts (x1.take i))+1)+1):Nat):Int)+1=(((((k0+cnts (x1.take i))+1)+1)+1:Nat):Int) from rfl]
      refine s5 ?_
      refine L_indexAddr rfl rfl rfl el24.h rfl (by omega) ?_
      refine s1 ?_
      refine L_load rfl rfl (by first | exact RdC.blk mm | exact RdC.old (Cells.el h1 rfl hu2)) one3.h rfl ?_
      refine s3 ?_
      refine kp [0,1,5,47] ?_
      refine W_cond rfl (fun q13=>?_) (fun q13=>?_)
      ·refine s5 ?_
       refine res1 rfl (ResOK.tmp rfl) ⟨?_,rfl⟩ ms
       exfalso;simp [mk_int,mk_str,mk_bool] at q13
      ·refine s4 ?_
       refine L_binV rfl rfl rfl (bv_addR (by unfold inR;omega)) ?_
       refine s2 ?_
       rw [show ((((((k0+cnts (x1.take i))+1)+1)+1):Nat):Int)+1=((((((k0+cnts (x1.take i))+1)+1)+1)+1:Nat):Int) from rfl]
       refine s5 ?_
       refine L_indexAddr rfl rfl rfl el24.h rfl (by omega) ?_
       refine s1 ?_
       refine L_load rfl rfl (by first | exact RdC.blk mm | exact RdC.old (Cells.el h1 rfl hu2)) one3.h rfl ?_
       refine s3 ?_
       refine kp [0,1,5,56] ?_
       refine W_cond rfl (fun q16=>?_) (fun q16=>?_)
       ·refine s5 ?_
        refine res1 rfl (ResOK.tmp rfl) ⟨?_,rfl⟩ ms
        exfalso;simp [mk_int,mk_str,mk_bool] at q16
       ·refine s4 ?_
        refine L_binV rfl rfl rfl (bv_addR (by unfold inR;omega)) ?_
        refine s2 ?_
        rw [show (((((((k0+cnts (x1.take i))+1)+1)+1)+1):Nat):Int)+1=(((((((k0+cnts (x1.take i))+1)+1)+1)+1)+1:Nat):Int) from rfl]
        refine s5 ?_
        refine L_indexAddr rfl rfl rfl el24.h rfl (by omega) ?_
        refine s2 ?_
        refine L_load (fo:=5) rfl rfl (by first | exact RdC.blk mm | exact RdC.old (Cells.el h1 rfl hu2)) one3.h rfl ?_
        refine s3 ?_
        refine kp [0,1,5,66] ?_
        refine W_cond rfl (fun q19=>?_) (fun q19=>?_)
        ·refine s5 ?_
         refine res1 rfl (ResOK.tmp rfl) ⟨?_,rfl⟩ ms
         exfalso;simp [mk_int,mk_str,mk_bool] at q19
        ·refine s4 ?_
         refine L_binV rfl rfl rfl (bv_addR (by unfold inR;omega)) ?_
         refine s2 ?_
         rw [show ((((((((k0+cnts (x1.take i))+1)+1)+1)+1)+1):Nat):Int)+1=((((((((k0+cnts (x1.take i))+1)+1)+1)+1)+1)+1:Nat):Int) from rfl]
         refine s5 ?_
         refine L_indexAddr rfl rfl rfl el24.h rfl (by omega) ?_
         refine s2 ?_
         refine L_load (fo:=6) rfl rfl (by first | exact RdC.blk mm | exact RdC.old (Cells.el h1 rfl hu2)) one3.h rfl ?_
         refine s3 ?_
         refine kp [0,1,5,76] ?_
         refine W_cond rfl (fun q22=>?_) (fun q22=>?_)
         ·refine s5 ?_
          refine res1 rfl (ResOK.tmp rfl) ⟨?_,rfl⟩ ms
          exfalso;simp [mk_int,mk_str,mk_bool] at q22
         ·refine s4 ?_
          refine L_binV rfl rfl rfl (bv_addR (by unfold inR;omega)) ?_
          refine s2 ?_
          rw [show (((((((((k0+cnts (x1.take i))+1)+1)+1)+1)+1)+1):Nat):Int)+1=(((((((((k0+cnts (x1.take i))+1)+1)+1)+1)+1)+1)+1:Nat):Int) from rfl]
          refine s5 ?_
          refine L_indexAddr rfl rfl rfl el24.h rfl (by omega) ?_
          refine s2 ?_
          refine L_load (fo:=7) rfl rfl (by first | exact RdC.blk mm | exact RdC.old (Cells.el h1 rfl hu2)) one3.h rfl ?_
          refine s3 ?_
          refine kp [0,1,5,86] ?_
          refine W_cond rfl (fun q25=>?_) (fun q25=>?_)
          ·refine s5 ?_
           refine res1 rfl (ResOK.tmp rfl) ⟨?_,rfl⟩ ms
           exfalso;simp [mk_int,mk_str,mk_bool] at q25
          ·refine s4 ?_
           refine L_binV rfl rfl rfl (bv_addR (by unfold inR;omega)) ?_
           refine s2 ?_
           rw [show ((((((((((k0+cnts (x1.take i))+1)+1)+1)+1)+1)+1)+1):Nat):Int)+1=((((((((((k0+cnts (x1.take i))+1)+1)+1)+1)+1)+1)+1)+1:Nat):Int) from rfl]
           refine s2 ?_
           refine W_D0 [97] mix (by kernel_rfl) rfl ?_
           refine s2 ?_
           refine D_indexAddr _ GC.none (OpV.t rfl) (OpV.t rfl) el24.h (fun hg=>⟨rfl,by (try dsimp only);omega⟩) ?_
           refine s2 ?_
           refine D_load (fo:=8) GC.none (OpV.t rfl) (fun hg=>(by first | exact RdC.blk mm | exact RdC.old (Cells.el h1 rfl hu2))) one9.h rfl ?_
           refine s1 ?_
           refine D_callX GC.none fn78.h (OpVs.cons (OpV.t rfl) (OpVs.nil)) (by exact fun hg w F hF hM=>(fun w hw=>markText_spec w (((((((((k0+cnts (x1.take i))+1)+1)+1)+1)+1)+1)+1)+1) (by omega) (by omega)) w hF) ?_
           refine s12 ?_
           refine kp [0,1,5,97] ?_
           refine W_cond rfl (fun q28=>?_) (fun q28=>?_)
           ·refine s5 ?_
            refine res1 rfl (ResOK.tmp rfl) ⟨?_,rfl⟩ ms
            exfalso;simp [mk_int,mk_str,mk_bool] at q28
           ·refine s4 ?_
            refine L_binV rfl rfl rfl (bv_addR (by unfold inR;omega)) ?_
            refine s2 ?_
            rw [show (((((((((((k0+cnts (x1.take i))+1)+1)+1)+1)+1)+1)+1)+1):Nat):Int)+1=(((((((((((k0+cnts (x1.take i))+1)+1)+1)+1)+1)+1)+1)+1)+1:Nat):Int) from rfl]
            refine s2 ?_
            refine W_D0 [108] mix (by kernel_rfl) rfl ?_
            refine s2 ?_
            refine D_indexAddr _ GC.none (OpV.t rfl) (OpV.t rfl) el24.h (fun hg=>⟨rfl,by (try dsimp only);omega⟩) ?_
            refine s2 ?_
            refine D_load (fo:=9) GC.none (OpV.t rfl) (fun hg=>(by first | exact RdC.blk mm | exact RdC.old (Cells.el h1 rfl hu2))) one9.h rfl ?_
            refine s1 ?_
            refine D_callX GC.none fn78.h (OpVs.cons (OpV.t rfl) (OpVs.nil)) (by exact fun hg w F hF hM=>(fun w hw=>markText_spec w ((((((((((k0+cnts (x1.take i))+1)+1)+1)+1)+1)+1)+1)+1)+1) (by omega) (by omega)) w hF) ?_
            refine s12 ?_
            refine kp [0,1,5,108] ?_
            refine W_cond rfl (fun q31=>?_) (fun q31=>?_)
            ·refine s5 ?_
             refine res1 rfl (ResOK.tmp rfl) ⟨?_,rfl⟩ ms
             exfalso;simp [mk_int,mk_str,mk_bool] at q31
            ·refine s4 ?_
             refine L_binV rfl rfl rfl (bv_addR (by unfold inR;omega)) ?_
             refine s2 ?_
             rw [show ((((((((((((k0+cnts (x1.take i))+1)+1)+1)+1)+1)+1)+1)+1)+1):Nat):Int)+1=((((((((((((k0+cnts (x1.take i))+1)+1)+1)+1)+1)+1)+1)+1)+1)+1:Nat):Int) from rfl]
             refine s2 ?_
             refine W_D0 [119] mix (by kernel_rfl) rfl ?_
             refine s2 ?_
             refine D_indexAddr _ GC.none (OpV.t rfl) (OpV.t rfl) el24.h (fun hg=>⟨rfl,by (try dsimp only);omega⟩) ?_
             refine s2 ?_
             refine D_load (fo:=10) GC.none (OpV.t rfl) (fun hg=>(by first | exact RdC.blk mm | exact RdC.old (Cells.el h1 rfl hu2))) one9.h rfl ?_
             refine s1 ?_
             refine D_callX GC.none fn78.h (OpVs.cons (OpV.t rfl) (OpVs.nil)) (by exact fun hg w F hF hM=>(fun w hw=>markText_spec w (((((((((((k0+cnts (x1.take i))+1)+1)+1)+1)+1)+1)+1)+1)+1)+1) (by omega) (by omega)) w hF) ?_
             refine s12 ?_
             refine kp [0,1,5,119] ?_
             refine W_cond rfl (fun q34=>?_) (fun q34=>?_)
             ·refine s5 ?_
              refine res1 rfl (ResOK.tmp rfl) ⟨?_,rfl⟩ ms
              exfalso;simp [mk_int,mk_str,mk_bool] at q34
             ·refine s4 ?_
              refine L_binV rfl rfl rfl (bv_addR (by unfold inR;omega)) ?_
              refine s2 ?_
              rw [show (((((((((((((k0+cnts (x1.take i))+1)+1)+1)+1)+1)+1)+1)+1)+1)+1):Nat):Int)+1=(((((((((((((k0+cnts (x1.take i))+1)+1)+1)+1)+1)+1)+1)+1)+1)+1)+1:Nat):Int) from rfl]
              refine s5 ?_
              refine L_indexAddr rfl rfl rfl el24.h rfl (by omega) ?_
              refine s2 ?_
              refine L_load (fo:=11) rfl rfl (by first | exact RdC.blk mm | exact RdC.old (Cells.el h1 rfl hu2)) one3.h rfl ?_
              refine s3 ?_
              refine kp [0,1,5,129] ?_
              refine W_cond rfl (fun q37=>?_) (fun q37=>?_)
              ·refine s5 ?_
               refine res1 rfl (ResOK.tmp rfl) ⟨?_,rfl⟩ ms
               exfalso;simp [mk_int,mk_str,mk_bool] at q37
              ·refine s4 ?_
               refine L_binV rfl rfl rfl (bv_addR (by unfold inR;omega)) ?_
               refine s2 ?_
               rw [show ((((((((((((((k0+cnts (x1.take i))+1)+1)+1)+1)+1)+1)+1)+1)+1)+1)+1):Nat):Int)+1=((((((((((((((k0+cnts (x1.take i))+1)+1)+1)+1)+1)+1)+1)+1)+1)+1)+1)+1:Nat):Int) from rfl]
               refine s4 ?_
               refine L_indexAddr rfl rfl rfl el24.h rfl (by omega) ?_
               refine s2 ?_
               refine L_load (fo:=12) rfl rfl (by first | exact RdC.blk mm | exact RdC.old (Cells.el h1 rfl hu2)) one30.h rfl ?_
               refine s1 ?_
               refine L_callX rfl fn83.h rfl (by exact fun w hw=>heldStringS_spec w b58 (((((((((((((k0+cnts (x1.take i))+1)+1)+1)+1)+1)+1)+1)+1)+1)+1)+1)+1) (by omega) (by omega) (rd_carry (show GT.rd _ _ (Mk.mkd (((((((((((((k0+cnts (x1.take i))+1)+1)+1)+1)+1)+1)+1)+1)+1)+1)+1)+1) b58) from by have h9:=h1.2.2.1 _ (List.mem_of_getElem? hu2);(try simp only [mk_pair,mk_int,mk_str,mk_bool,cnt_pair,cnt_int,cnt_str,cnt_bool,← Nat.add_assoc] at h9);exact h9.2.2.2.2.1.2.2.2.2.2.2.2) hw)) ?_
               refine s8 ?_
               refine kp [0,1,5,141] ?_
               refine W_cond rfl (fun q41=>?_) (fun q41=>?_)
               ·refine s5 ?_
                refine res1 rfl (ResOK.tmp rfl) ⟨?_,rfl⟩ ms
                exfalso;simp at q41;omega
               ·refine s6 ?_
                refine L_indexAddr rfl rfl rfl el24.h rfl (by omega) ?_
                refine s1 ?_
                refine L_load rfl rfl (by first | exact RdC.blk mm | exact RdC.old (Cells.el h1 rfl hu2)) one3.h rfl ?_
                refine s3 ?_
                refine kp [0,1,5,148] ?_
                refine W_cond rfl (fun q43=>?_) (fun q43=>?_)
                ·refine s5 ?_
                 refine res1 rfl (ResOK.tmp rfl) ⟨?_,rfl⟩ ms
                 exfalso;simp [mk_int,mk_str,mk_bool] at q43
                ·refine s4 ?_
                 refine L_binV rfl rfl rfl (bv_addR (by unfold inR;omega)) ?_
                 refine s2 ?_
                 rw [show ((((((((((((((((k0+cnts (x1.take i))+1)+1)+1)+1)+1)+1)+1)+1)+1)+1)+1)+1)+Mk.cnt b58):Nat):Int)+1=((((((((((((((((k0+cnts (x1.take i))+1)+1)+1)+1)+1)+1)+1)+1)+1)+1)+1)+1)+Mk.cnt b58)+1:Nat):Int) from rfl]
                 refine s4 ?_
                 refine L_indexAddr rfl rfl rfl el24.h rfl (by omega) ?_
                 refine s1 ?_
                 refine L_load rfl rfl (by first | exact RdC.blk mm | exact RdC.old (Cells.el h1 rfl hu2)) one33.h rfl ?_
                 refine s1 ?_
                 refine L_callX rfl fn84.h rfl (by exact fun w hw=>heldIdS_spec w b7 (((((((((((((((k0+cnts (x1.take i))+1)+1)+1)+1)+1)+1)+1)+1)+1)+1)+1)+1)+Mk.cnt b58)+1) (by omega) (by omega) (rd_carry (show GT.rd _ _ (Mk.mkd (((((((((((((((k0+cnts (x1.take i))+1)+1)+1)+1)+1)+1)+1)+1)+1)+1)+1)+1)+Mk.cnt b58)+1) b7) from by have h9:=h1.2.2.1 _ (List.mem_of_getElem? hu2);(try simp only [mk_pair,mk_int,mk_str,mk_bool,cnt_pair,cnt_int,cnt_str,cnt_bool,← Nat.add_assoc] at h9);exact h9.2.2.2.2.2.2.1) hw)) ?_
                 refine s8 ?_
                 refine kp [0,1,5,159] ?_
                 refine W_cond rfl (fun q47=>?_) (fun q47=>?_)
                 ·refine s5 ?_
                  refine res1 rfl (ResOK.tmp rfl) ⟨?_,rfl⟩ ms
                  exfalso;simp at q47;omega
                 ·refine s6 ?_
                  refine L_indexAddr rfl rfl rfl el24.h rfl (by omega) ?_
                  refine s1 ?_
                  refine L_load rfl rfl (by first | exact RdC.blk mm | exact RdC.old (Cells.el h1 rfl hu2)) one4.h rfl ?_
                  refine s1 ?_
                  refine L_binV rfl rfl rfl (bv_rem (by omega)) ?_
                  refine s3 ?_
                  refine kp [0,1,5,168] ?_
                  refine W_cond rfl (fun q49=>?_) (fun q49=>?_)
                  ·refine s5 ?_
                   refine res1 rfl (ResOK.tmp rfl) ⟨?_,rfl⟩ ms
                   exfalso;simp [mk_int,mk_str,mk_bool] at q49
                  ·refine s3 ?_
                   refine L_binV rfl rfl rfl (bv_addR (by unfold inR;omega)) ?_
                   refine s2 ?_
                   rw [show ((((((((((((((((((k0+cnts (x1.take i))+1)+1)+1)+1)+1)+1)+1)+1)+1)+1)+1)+1)+Mk.cnt b58)+1)+Mk.cnt b7):Nat):Int)+1=((((((((((((((((((k0+cnts (x1.take i))+1)+1)+1)+1)+1)+1)+1)+1)+1)+1)+1)+1)+Mk.cnt b58)+1)+Mk.cnt b7)+1:Nat):Int) from rfl]
                   have hE:(((((((((((((((((k0+cnts (x1.take i))+1)+1)+1)+1)+1)+1)+1)+1)+1)+1)+1)+1)+Mk.cnt b58)+1)+Mk.cnt b7)+1)=k0+cnts (x1.take (i+1)):=by rw [hs];(try simp only [cnt_pair,cnt_int,cnt_str,cnt_bool]);omega
                   rw [hE]
                   refine s2 ?_
                   refine L_binV rfl rfl rfl (bv_addR (by unfold inR;omega)) ?_
                   refine s2 ?_
                   refine ⟨i+1,sb,ms,?_,?_⟩
                   ·show i+1≤x1.length
                    omega
                   ·show x1.length - (i+1) < x1.length - i
                    omega
  ·refine W_exit ?_
   refine s6 ?_
   refine res1 rfl (ResOK.tmp rfl) ⟨?_,rfl⟩ ms
   have hk2:(mks k0 x1).length≤i:=by simpa using q2
   rw [List.take_of_length_le (by omega)];rfl
end Go.Proofs.SL
