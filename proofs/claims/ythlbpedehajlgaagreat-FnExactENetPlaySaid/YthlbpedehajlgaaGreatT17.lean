/- The texts of the proof, part 17. -/
import Derived.Test.YthlbpedehajlgaaGreatT16
import Derived.Test.YthlbpedehajlgaaGreatT4
set_option linter.all false
namespace Go.Proofs.SL
open Go
instance uC:FnF Tryz.prog 26:=⟨_,Tryz.func26,kr,rfl⟩
instance uD:FnF Tryz.prog 27:=⟨_,Tryz.func27,kr,rfl⟩
instance uE:FnF Tryz.prog 20:=⟨_,Tryz.func20,kr,rfl⟩
instance cU:FnF Tryz.prog 22:=⟨_,Tryz.func22,kr,rfl⟩
instance uF:FnF Tryz.prog 21:=⟨_,Tryz.func21,kr,rfl⟩
instance pD:FnF Tryz.prog 23:=⟨_,Tryz.func23,kr,rfl⟩
instance iU:FnF Tryz.prog 24:=⟨_,Tryz.func24,kr,rfl⟩
instance uG:FnF Tryz.prog 25:=⟨_,Tryz.func25,kr,rfl⟩
instance pE:FnF Tryz.prog 28:=⟨_,Tryz.func28,kr,rfl⟩
theorem Wc (w:World) (a0:TL CF) (h0:GT.rd w [] a0) (ho0:Ok.ok (GT.dat a0)) (a1:Bd.bd (τ:=TL CF) (GT.dat a0)≤1048576):Spec Tryz.prog 21 [a0.hdr].toArray w [] (fun v M=>∃ (x0:BD),v=.tuple #[.agg (GT.cells x0).toArray,.int .i64 ((Kb (GT.dat a0)).2)]∧GT.dat x0=(Kb (GT.dat a0)).1∧M=[Af x0]):=(UI w a0 h0 _ (WY ho0)).to fun v M ⟨x0,x1,hv,hd,hM⟩=>by
 obtain rfl:x1=(Kb (GT.dat a0)).2:=congrArg (fun z=>z.2) hd;exact ⟨x0,hv,congrArg (fun z=>z.1) hd,hM⟩
theorem Qy (w:World) (a0:TL CF) (h0:GT.rd w [] a0) (ho0:Ok.ok (GT.dat a0)) (a1:Bd.bd (τ:=TL CF) (GT.dat a0)≤1048576):Spec Tryz.prog 23 [a0.hdr].toArray w [] (fun v M=>∃ (x0:BD),v=.tuple #[.agg (GT.cells x0).toArray,.int .i64 ((Kb (GT.dat a0)).2)]∧GT.dat x0=(Kb (GT.dat a0)).1∧M=[Af x0]):=(UK w a0 h0 _ (WZ ho0)).to fun v M ⟨x0,x1,hv,hd,hM⟩=>by
 obtain rfl:x1=(Kb (GT.dat a0)).2:=congrArg (fun z=>z.2) hd;exact ⟨x0,hv,congrArg (fun z=>z.1) hd,hM⟩
theorem SE (w:World) (t1:TL CF) (h1:GT.rd w [] t1) (ho1:Ok.ok (GT.dat t1)) :Spec Tryz.prog 5 [t1.hdr].toArray w [] (IsV (.bool true)):=by
 refine Spec.intro Tryz.func5 rfl Tryz.ntmps5 rfl ?_;refine s12 ?_;refine Bi rfl uE.h rfl (by exact fun w hw=>Zc w t1 (1048576) om om (BG h1 hw) ho1) ?_;refine s8 ?_;refine kp [0,18] ?_;refine Ai rfl (fun q3=>?_) (fun q3=>?_)
 ·refine s5 ?_;refine AE rfl (Ab rfl) ⟨?_,rfl⟩ ms;rfl
 ·have hb1:(Bk.bulk t1:Int)≤1048576:=by
   rcases Int.decLt (1048576) (Bk.bulk t1:Int) with hn | hn
   ·omega
   ·rw [if_neg om] at q3;simp at q3
  rw [if_pos hb1];refine s4 ?_;refine AV rfl cU.h rfl (by exact fun w hw=>LK w _ (BG h1 hw) om) ?_;rintro v M1 ⟨n1,hv,a1,rfl⟩;subst hv;simp only [List.cons_append,List.nil_append];refine AV rfl uF.h rfl (by exact fun w hw=>Wc w n1 (Fc mm hw.sees) (by rw [a1];exact ho1) (by first | (rw [a1,← Bd.eq];omega) | (rw [← Bd.eq];omega))) ?_;rintro v M1 ⟨r1_0,hv,hr1_0,rfl⟩;subst hv;simp only [List.cons_append,List.nil_append];refine s3 ?_;refine al fun af=>?_;refine Jx rfl rfl pk (by exact CQ.h) (by rfl) (by first | (simp [Value.oneCell',TL.hdr];done) | (simp [Value.oneCell',TL.hdr,Value.cells];done) | exact fun v hv=>GT.one _ v hv) ?_;refine s5 ?_;refine AV rfl cU.h rfl (by exact fun w hw=>LK w _ (BG h1 hw) om) ?_;rintro v M1 ⟨n2,hv,a0,rfl⟩;subst hv;simp only [List.cons_append,List.nil_append];refine s5 ?_;refine AV rfl pD.h rfl (by exact fun w hw=>Qy w n2 (Fc mm hw.sees) (by rw [a0];exact ho1) (by first | (rw [a0,← Bd.eq];omega) | (rw [← Bd.eq];omega))) ?_;rintro v M1 ⟨r2_0,hv,hr2_0,rfl⟩;subst hv;simp only [List.cons_append,List.nil_append];refine s3 ?_;refine al fun ag=>?_;refine Jx rfl rfl pk (by exact CQ.h) (by rfl) (by first | (simp [Value.oneCell',TL.hdr];done) | (simp [Value.oneCell',TL.hdr,Value.cells];done) | exact fun v hv=>GT.one _ v hv) ?_;refine s4 ?_;refine BX [40] mix kr rfl ?_;refine Bq Ar (Aj rfl) (fun hg=>(by exact Ag mm)) (by exact CQ.h) ?_;refine Bq Ar (Aj rfl) (fun hg=>(by exact Ag mm)) (by exact CQ.h) ?_;refine AZ Ar iU.h (Ah (Aj rfl) (Ah (Aj rfl) (AF))) (by exact fun hg w F hF hM=>PT w r2_0 r1_0 (Fc (hM _ mm) hF.sees) (Fc (hM _ mm) hF.sees)) ?_;refine s17 ?_;refine kp [0,4,5,6,7,8,40] ?_;refine Ai rfl (fun q8=>?_) (fun q8=>?_)
  ·refine s5 ?_;refine AE rfl (Ab rfl) ⟨?_,rfl⟩ ms
   exfalso
   have a4:eqB (GT.dat r2_0) (GT.dat r1_0)=true:=Fj.2 (by simp only [a1,hr1_0,a0,hr2_0])
   simp [a4,a1,a0] at q8<;>omega
  ·refine s6 ?_;refine AV rfl cU.h rfl (by exact fun w hw=>LK w _ (BG h1 hw) om) ?_;rintro v M1 ⟨n3,hv,a2,rfl⟩;subst hv;simp only [List.cons_append,List.nil_append];refine Bi rfl uG.h rfl (by exact fun w hw=>Zb w n2 n3 (Fc mm hw.sees) (Fc mm hw.sees)) ?_;refine s2 ?_;refine kp [0,4,5,6,7,8,45] ?_;refine Ai rfl (fun a5=>?_) (fun a5=>?_)
   ·refine s5 ?_;refine AE rfl (Ab rfl) ⟨?_,rfl⟩ ms
    exfalso
    have ac:eqB (GT.dat n2) (GT.dat n3)=true:=Fj.2 (by simp only [a1,hr1_0,a0,hr2_0,a2])
    simp [ac,a1,a0,a2] at a5<;>omega
   ·refine s6 ?_
    have hc_n2:Mk.cnt n2≤1000000000000:=kQ n2 rfl (by rw [fX a0];omega)
    refine s3 ?_;refine Hr (h:=Af n2) rfl uC.h rfl pk (by exact fun w hw=>Wb w n2 1 om om) ?_;rintro v M1 ⟨hv,rfl⟩;subst hv;simp only [List.cons_append,List.nil_append];refine s4 ?_;refine BX [61] mix kr rfl ?_;refine s3 ?_;refine Bq (Am rfl rfl) (Aj rfl) (fun hg=>(by exact Ag mm)) (by exact CQ.h) ?_;refine Bq (Am rfl rfl) (Aj rfl) (fun hg=>(by exact Ag mm)) (by exact CQ.h) ?_;refine AZ (Am rfl rfl) iU.h (Ah (Aq rfl) (Ah (Aq rfl) (AF))) (by exact fun hg w F hF hM=>PT w r2_0 r1_0 (Fc (hM _ mm) hF.sees) (Fc (hM _ mm) hF.sees)) ?_;refine s20 ?_;refine s2 ?_;refine kp [0,4,5,7,61] ?_;refine Ai rfl (fun a6=>?_) (fun a6=>?_)
    ·refine s5 ?_;refine AE rfl (Ab rfl) ⟨?_,rfl⟩ ms
     exfalso
     have ad:eqB (GT.dat r2_0) (GT.dat r1_0)=true:=Fj.2 (by simp only [a1,hr1_0,a0,hr2_0,a2])
     simp [ad,a1,a0,a2] at a6<;>omega
    ·refine s6 ?_
     have hc_r2_0:Mv.cnt r2_0≤1000000000000:=kP r2_0 rfl (by have:=mW _ _ hr2_0;omega)
     refine s1 ?_;refine AW rfl rfl (by exact Ag mm) (by exact CQ.h) ?_;refine s1 ?_;refine Hr (h:=Af r2_0) rfl uD.h rfl pk (by exact fun w hw=>Xd w r2_0 1 om om) ?_;rintro v M1 ⟨hv,rfl⟩;subst hv;simp only [List.cons_append,List.nil_append];refine s8 ?_;refine AW rfl rfl (by exact Ag mm) (by exact CQ.h) ?_;refine s1 ?_;refine Bi rfl pE.h rfl (by exact fun w hw=>(by have h:=RX w r2_0 1 om om (Fc mm hw.sees);rw [Cv.eq] at h;exact h)) ?_;refine s8 ?_;refine kp [0,4,5,7,10,11,69] ?_;refine Ai rfl (fun a7=>?_) (fun a7=>?_)
     ·refine s5 ?_;refine AE rfl (Ab rfl) ⟨?_,rfl⟩ ms
      exfalso
      simp [a1,a0,a2] at a7<;>omega
     ·refine s8 ?_;refine kp [0,4,5,7,10,72] ?_;refine Ai rfl (fun a8=>?_) (fun a8=>?_)
      ·refine s5 ?_;refine AE rfl (Ab rfl) ⟨?_,rfl⟩ ms
       exfalso
       simp [a1,a0,a2] at a8<;>omega
      ·refine s4 ?_;refine AV rfl cU.h rfl (by exact fun w hw=>LK w _ (BG h1 hw) om) ?_;rintro v M1 ⟨n4,hv,a3,rfl⟩;subst hv;simp only [List.cons_append,List.nil_append];refine AV rfl pD.h rfl (by exact fun w hw=>Qy w n4 (Fc mm hw.sees) (by rw [a3];exact ho1) (by first | (rw [a3,← Bd.eq];omega) | (rw [← Bd.eq];omega))) ?_;rintro v M1 ⟨r3_0,hv,hr3_0,rfl⟩;subst hv;simp only [List.cons_append,List.nil_append];refine s3 ?_;refine al fun ae=>?_;refine Jx rfl rfl pk (by exact CQ.h) (by rfl) (by first | (simp [Value.oneCell',TL.hdr];done) | (simp [Value.oneCell',TL.hdr,Value.cells];done) | exact fun v hv=>GT.one _ v hv) ?_;refine s4 ?_;refine BX [87] mix kr rfl ?_;refine Bq Ar (Aj rfl) (fun hg=>(by exact Ag mm)) (by exact CQ.h) ?_;refine Bq Ar (Aj rfl) (fun hg=>(by exact Ag mm)) (by exact CQ.h) ?_;refine AZ Ar iU.h (Ah (Aj rfl) (Ah (Aj rfl) (AF))) (by exact fun hg w F hF hM=>PT w r3_0 r1_0 (Fc (hM _ mm) hF.sees) (Fc (hM _ mm) hF.sees)) ?_;refine s17 ?_;refine kp [7,10,87] ?_;refine Ai rfl (fun a9=>?_) (fun a9=>?_)
       ·refine s5 ?_;refine AE rfl (Ab rfl) ⟨?_,rfl⟩ ms
        exfalso
        have a4:eqB (GT.dat r3_0) (GT.dat r1_0)=true:=Fj.2 (by simp only [a1,hr1_0,a0,hr2_0,a2,a3,hr3_0])
        simp [a4,a1,a0,a2,a3] at a9<;>omega
       ·refine s7 ?_;refine AW rfl rfl (by exact Ag mm) (by exact CQ.h) ?_;refine s1 ?_;refine Bi rfl pE.h rfl (by exact fun w hw=>(by have h:=RX w r2_0 1 om om (Fc mm hw.sees);rw [Cv.eq] at h;exact h)) ?_;refine s8 ?_;refine kp [10,11,92] ?_;refine Ai rfl (fun aa=>?_) (fun aa=>?_)
        ·refine s5 ?_;refine AE rfl (Ab rfl) ⟨?_,rfl⟩ ms
         exfalso
         simp [a1,a0,a2,a3] at aa<;>omega
        ·refine s8 ?_;refine kp [95] ?_;refine Ai rfl (fun ab=>?_) (fun ab=>?_)
         ·refine s5 ?_;refine AE rfl (Ab rfl) ⟨?_,rfl⟩ ms
          exfalso
          simp [a1,a0,a2,a3] at ab<;>omega
         ·refine s6 ?_;refine AE rfl (Ab rfl) ⟨?_,rfl⟩ ms;rfl
end Go.Proofs.SL
