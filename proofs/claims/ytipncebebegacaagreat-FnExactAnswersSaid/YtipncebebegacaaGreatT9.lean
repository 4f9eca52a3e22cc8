/- The texts of the proof, part 9: the base, walks of functions, plain Lean. -/
import Derived.Test.YtipncebebegacaaGreatT8
import Derived.Test.YtipncebebegacaaGreatT3
import Derived.Test.YtipncebebegacaaGreatRows
namespace Go.Proofs.SL
open Go
def partI (l:List D_Inst) (id:D_Id):List D_Id:=isort (Gr.lt2 (seqI l) idLt) (id::(reachI l id).filter fun d=>!decide (d=id)&&decide (id∈reachI l d))
def lt2I (l:List D_Inst):D_Id→D_Id→Bool:=Gr.lt2 (seqI l) idLt
theorem lt2I_sto (l:List D_Inst):Gr.STO (lt2I l):=Gr.lt2_sto idLt_sto
theorem part_iff {l:List D_Inst} (h:instsOkB l=true) (id:D_Id):Gr.Up (lt2I l) (partI l id)∧∀ y,y∈partI l id↔Gr.InPart (dpI l) id y:=by
 obtain ⟨r1,r2⟩:=reach_iff h id
 have hn:(id::(reachI l id).filter fun d=>!decide (d=id)&&decide (id∈reachI l d)).Nodup:=by
  refine List.nodup_cons.2 ⟨fun hm=>?_,(Gr.up_nodup idLt_sto r1).filter _⟩
  have:=(List.mem_filter.1 hm).2
  simp at this
 obtain ⟨u1,u2⟩:=isort_up (lt2I_sto l) hn
 refine ⟨u1,fun y=>?_⟩
 show y∈isort (lt2I l) _↔_
 rw [u2,List.mem_cons,List.mem_filter,r2]
 unfold Gr.InPart
 simp only [Bool.and_eq_true,Bool.not_eq_true',decide_eq_false_iff_not,decide_eq_true_eq]
 rw [(reach_iff h y).2]
 constructor
 ·rintro (q | ⟨q1,_,q2⟩)
  ·exact .inl q
  ·exact .inr ⟨q1,q2⟩
 ·rintro (q | ⟨q1,q2⟩)
  ·exact .inl q
  ·by_cases hy:y=id
   ·exact .inl hy
   ·exact .inr ⟨q1,hy,q2⟩
theorem partOk {l:List D_Inst} (h:instsOkB l=true):Gr.PartOk (rdyI l) (partI l) (l.map (·.1)) :=
 Gr.partOk_of (dp:=dpI l) (cm:=comI l) (lt2I_sto l) (rdy_iff h) (fun _ hc=>com_mem hc) (fun x _ _=>(part_iff h x).1) fun x _ _=>(part_iff h x).2
theorem seq_range {l:List D_Inst} (h:instsOkB l=true) (id:D_Id):0≤seqI l id∧seqI l id≤60:=by
 unfold seqI
 cases hg:getI l id with
 | none=>dsimp only;omega
 | some x=>exact (instOk_facts ((instsOk_facts h).1 x (getI_some hg).1)).2.2.1
theorem part_cmp {l:List D_Inst} (h:instsOkB l=true) (hs:smallL l) (x y:D_Id):∃ v,i_part_c1 x y l=some v∧decide (v < 0)=lt2I l x y:=by
 have hl:=insts_len h
 unfold i_part_c1
 rw [show i_InstAt l (x.1,x.2)=some (atI l x) from i_InstAt_eq (by omega) hs x,Option.bind_some,show i_InstAt l (y.1,y.2)=some (atI l y) from i_InstAt_eq (by omega) hs y,Option.bind_some,at_seq,at_seq]
 have h1:=seq_range h x
 have h2:=seq_range h y
 unfold lt2I Gr.lt2
 by_cases he:seqI l x=seqI l y
 ·rw [decide_eq_true he,Bool.not_true,cond_false]
  obtain ⟨c,c1,c2⟩:=compareIds_lt x y
  refine ⟨c,?_,?_⟩
  ·rw [show i_compareIds (x.1,x.2) (y.1,y.2)=some c from c1];rfl
  ·rw [c2,he,decide_eq_false (show ¬ seqI l y < seqI l y by omega),Bool.false_or,Bool.true_and]
 ·rw [decide_eq_false he,Bool.not_false,cond_true]
  refine ⟨_,rfl,?_⟩
  rw [wrap64_in (n:=seqI l x - seqI l y) (by unfold inR;omega),Bool.false_and,Bool.or_false,Bool.eq_iff_iff,decide_eq_true_eq,decide_eq_true_eq]
  omega
theorem i_part_eq {l:List D_Inst} (ho:Ok.ok l) (h:instsOkB l=true) (hs:smallL l) (id:D_Id):i_part l id=some (partI l id):=by
 have hr:=reach_len h id
 unfold i_part
 rw [Option.bind_some,show i_Reach l (id.1,id.2)=some (reachI l id) from i_Reach_eq ho h hs id,Option.bind_some]
 rw [whileP_for (l:=reachI l id) (fun k (t:List D_Id)=>(t,(k:Int))) (fun t d=>.inl (if (!decide (d=id)&&decide (id∈reachI l d)) then t++[d] else t)) (fun t=>sortFn t (fun z0 z1=>i_part_c1 z0 z1 l)) (fun k t=>t.length≤k+1) [(id.1,id.2)] (s0:=([(id.1,id.2)],0)) rfl (by simp),goE_fold,foldl_filter']
 ·rw [sortFn_eq (lt2I_sto l) (part_cmp h hs) (by
   have:=List.length_filter_le (fun d=>!decide (d=id)&&decide (id∈reachI l d)) (reachI l id)
   simp only [List.length_append,List.length_cons,List.length_nil];omega)]
  rfl
 ·intro k t d hd hI
  have hlt:=(List.getElem?_eq_some_iff.1 hd).1
  have hI2:(if (!decide (d=id)&&decide (id∈reachI l d))=true then t++[d] else t).length≤k+1+1:=by
   split
   ·simp only [List.length_append,List.length_cons,List.length_nil];omega
   ·omega
  refine .inl ⟨_,rfl,?_,hI2⟩
  have hq:(decide (d.1=id.1)&&(decide (d.2=id.2)&&true))=decide (d=id):=idEq_dec d id
  simp only [lt_dec hlt,cond_true,idx_nat,hd,Option.bind_some,hq,wrap_succ (show k < 9223372036854775807 by omega)]
  rw [show i_Reach l (d.1,d.2)=some (reachI l d) from i_Reach_eq ho h hs d]
  by_cases hdi:d=id
  ·rw [decide_eq_true hdi];rfl
  ·rw [decide_eq_false hdi]
   simp only [Bool.not_false,gb_true,Option.bind_some]
   have:=reach_len h d
   rw [contains_dec (by omega),Option.bind_some,appP_ok (by simp;omega)]
   by_cases hm:id∈reachI l d
   ·rw [decide_eq_true hm];rfl
   ·rw [decide_eq_false hm];rfl
 ·intro t ht
  simp only [ge_dec,cond_false]
  cases sortFn t (fun z0 z1=>i_part_c1 z0 z1 l)<;>rfl
theorem InPart.id_of {l:List D_Inst} (h:instsOkB l=true) {id y:D_Id} (hr:rdyI l id=true) (hp:Gr.InPart (dpI l) id y):comI l y=true:=by
 obtain ⟨c1,c2⟩:=(rdy_iff h id).1 hr
 rcases hp with rfl | ⟨q,_⟩
 ·exact c1
 ·exact c2 y q
theorem gb3 {β R:Type} [Inhabited β] (e m n:Bool) (L:β) (f3:β→Option Bool) (h3:f3 L=some n) (A B:Option R):gb (!e) (some m) (fun y7=>gb ((!e)&&(!(!y7))) (some L) (fun y8=>gb ((!e)&&(!(!y7))) (f3 y8) (fun y9=>cond ((!e)&&((!y7)||(!y9))) A B)))=cond (e||(m&&n)) B A:=by
 cases e<;>cases m<;>cases n<;>simp [gb_true,gb_false,h3]
theorem s_l12Part_eq {l:List D_Inst} (h:instsOkB l=true) (id:D_Id) (hr:rdyI l id=true):s_l12Part l id=some (partI l id):=by
 have hl:=insts_len h
 obtain ⟨i1,i2⟩:=instsOk_facts h
 obtain ⟨p1,p2⟩:=part_iff h id
 have hrl:=reach_len h id
 unfold s_l12Part
 rw [Option.bind_some,show s_l12Reach l (id.1,id.2)=some (reachI l id) from s_l12Reach_eq h id,Option.bind_some]
 refine whileP_is (s:=(([]:List D_Id),(0:Int))) (fun s:List D_Id×Int=>∃ k:Nat,s.2=(k:Int)∧k≤l.length∧s.1.length≤k∧Gr.Up (lt2I l) s.1∧∀ y,y∈s.1↔Gr.InPart (dpI l) id y∧∃ j z,j < k∧l[j]?=some z∧z.1=y) (fun s=>(l.length - s.2).toNat) ?_ ⟨0,rfl,Nat.zero_le _,Nat.le_refl _,List.Pairwise.nil,fun y=>⟨fun hy=>(by cases hy),fun ⟨_,j,z,hj,_⟩=>by omega⟩⟩
 rintro ⟨o,k'⟩ ⟨k,g1,hk,hok,hu,hm⟩
 dsimp only at g1 hok hu hm ⊢
 subst g1
 by_cases hkl:k < l.length
 ·left
  have hx:l[k]?=some l[k]:=List.getElem?_eq_getElem hkl
  have hxm:l[k]∈l:=List.getElem_mem _
  generalize l[k]=x at hx hxm
  have hq:(decide (x.1.1=id.1)&&(decide (x.1.2=id.2)&&true))=decide (x.1=id):=idEq_dec x.1 id
  have hrx:=reach_len h x.1
  rw [show decide ((k:Int) < (l.length:Int))=true from decide_eq_true (by omega),cond_true,idx_nat,hx,Option.bind_some,hq]
  rw [show s_l8Has (reachI l id) (x.1.1,x.1.2)=_ from has_dec (x:=x.1) (by omega),show s_l12Reach l (x.1.1,x.1.2)=some (reachI l x.1) from s_l12Reach_eq h x.1]
  have key:=fun (A B:Option ((List D_Id×Int) ⊕ List D_Id))=>gb3 (decide (x.1=id)) (decide (x.1∈reachI l id)) (decide (id∈reachI l x.1)) (reachI l x.1) (fun y8=>s_l8Has y8 (id.1,id.2)) (has_dec (x:=id) (by omega)) A B
  rw [key]
  by_cases hin:Gr.InPart (dpI l) id x.1
  ·have hc3:(decide (x.1=id)||(decide (x.1∈reachI l id)&&decide (id∈reachI l x.1)))=true:=by
    rw [Bool.or_eq_true,Bool.and_eq_true,decide_eq_true_eq,decide_eq_true_eq,decide_eq_true_eq,(reach_iff h id).2,(reach_iff h x.1).2]
    exact hin
   rw [hc3,cond_true]
   have hcom:comI l x.1=true:=InPart.id_of h hr hin
   have hxs:seqI l x.1=x.2.2.2.2.2.1:=by unfold seqI;rw [getI_mem h hxm]
   have hoc:∀ z,z∈o→comI l z=true:=fun z hz=>InPart.id_of h hr ((hm z).1 hz).1
   have hlt:∀ a,a∈o→idLt a x.1=true:=fun a ha=>by
    obtain ⟨_,j,z,hj,hz,rfl⟩:=(hm a).1 ha
    obtain ⟨z1,z2⟩:=List.getElem?_eq_some_iff.1 hz
    obtain ⟨x1,x2⟩:=List.getElem?_eq_some_iff.1 hx
    have:=List.pairwise_iff_getElem.1 i2 j k z1 x1 hj
    rw [z2,x2] at this;exact this
   refine step_in (fun s:Int=>∃ a:Nat,s=(a:Int)∧a≤o.length∧∀ b,b∈o.drop a→seqI l x.1 < seqI l b) (fun s=>s.toNat) (fun s:List D_Id×Int=>∃ a:Nat,a≤o.length∧(∀ b,b∈o.drop a→seqI l x.1 < seqI l b)∧(a=0∨∃ z,o[a - 1]?=some z∧seqI l z≤seqI l x.1)∧s=(o.take a++x.1::o.drop a,((k+1:Nat):Int))) ?_ ⟨o.length,rfl,Nat.le_refl _,fun b hb=>by rw [List.drop_of_length_le (Nat.le_refl _)] at hb;cases hb⟩ ?_
   ·rintro s' ⟨a,a1,a2,a3,rfl⟩
    refine ⟨⟨k+1,rfl,hkl,by simp;omega,Gr.ins_up hu hlt a2 a3,fun y=>?_⟩,by dsimp only;omega⟩
    dsimp only
    rw [Gr.mem_ins,hm]
    constructor
    ·rintro (rfl | ⟨q,j,z,hj,hz⟩)
     ·exact ⟨hin,k,x,by omega,hx,rfl⟩
     ·exact ⟨q,j,z,by omega,hz⟩
    ·rintro ⟨q,j,z,hj,hz,e⟩
     by_cases hjk:j=k
     ·subst hjk
      rw [hx] at hz;cases hz
      exact .inl e.symm
     ·exact .inr ⟨q,j,z,by omega,hz,e⟩
   ·rintro _ ⟨a,rfl,a1,a2⟩
    have fin:(a=0∨∃ z,o[a - 1]?=some z∧seqI l z≤seqI l x.1)→∃ s',(Option.map Sum.inr (Option.bind (some ([]:List D_Id)) (fun y19=>Option.bind (slcP o (a:Int) (o.length:Int)) (fun y20=>Option.bind (appP y19 y20) (fun y23=>Option.bind (slcP o 0 (a:Int)) (fun y24=>Option.bind (appP y24 [(x.1.1,x.1.2)]) (fun y28=>Option.bind (appP y28 y23) (fun y30=>some (Sum.inl ((y30,IntKind.wrap .i64 ((k:Int)+1))))))))))):Option (Int ⊕ ((List D_Id×Int) ⊕ List D_Id)))=some (.inr (.inl s'))∧∃ a:Nat,a≤o.length∧(∀ b,b∈o.drop a→seqI l x.1 < seqI l b)∧(a=0∨∃ z,o[a - 1]?=some z∧seqI l z≤seqI l x.1)∧s'=(o.take a++x.1::o.drop a,((k+1:Nat):Int)):=by
     intro a3
     rw [Option.bind_some,slcP_at (by omega),Option.bind_some,Int.toNat_natCast,Int.toNat_natCast,List.take_of_length_le (by simp),appP_ok (by simp;omega),Option.bind_some,slcP_at (by omega),Option.bind_some]
     rw [show (List.drop (Int.toNat 0) o).take ((a:Int).toNat - Int.toNat 0)=o.take a from rfl,appP_ok (by simp;omega),Option.bind_some,appP_ok (by simp;omega),Option.bind_some,wrap_succ (by omega),Option.map_some]
     exact ⟨_,rfl,a,a1,a2,a3,by simp⟩
    by_cases ha0:a=0
    ·right
     subst ha0
     rw [show decide ((0:Int) < ((0:Nat):Int))=false from rfl]
     simp only [gb_false,Bool.false_and,cond_false]
     exact fin (.inl rfl)
    ·have hz:o[a - 1]?=some (o[a - 1]'(by omega)):=List.getElem?_eq_getElem _
     have hzm:o[a - 1]'(by omega)∈o:=List.getElem_mem _
     generalize o[a - 1]'(by omega)=z at hz hzm
     have hcz:=hoc z hzm
     have hfz:=find_com h z
     rw [hcz] at hfz
     simp only [if_true] at hfz
     rw [show decide ((0:Int) < (a:Int))=true from decide_eq_true (by omega),show IntKind.wrap .i64 ((a:Int) - 1)=((a - 1:Nat):Int) by rw [wrap64_in (by unfold inR;omega)];omega]
     simp only [gb_true,Bool.true_and]
     rw [idx_nat,hz,Option.bind_some,show s_l12Find l (z.1,z.2)=_ from s_l12Find_eq (id:=z) (by omega),Option.bind_some]
     rcases firstI_opt (comP z) l with ⟨f1,f2⟩ | ⟨m,y,f1,f2,f3⟩
     ·rw [f2] at hfz;unfold comI at hcz;rw [← hfz] at hcz;cases hcz
     rw [f1,idx_nat,f2,Option.bind_some,Option.bind_some]
     rw [f3] at hfz
     have hsz:seqI l z=y.2.2.2.2.2.1:=by unfold seqI;rw [← hfz]
     rw [← hsz,← hxs]
     by_cases hc:seqI l x.1 < seqI l z
     ·left
      rw [decide_eq_true hc,cond_true]
      refine ⟨_,rfl,⟨a - 1,rfl,by omega,fun b hb=>?_⟩,by omega⟩
      rw [drop_cons hz] at hb
      rcases List.mem_cons.1 hb with rfl | hb
      ·exact hc
      ·exact a2 b (by rw [show a - 1+1=a by omega] at hb;exact hb)
     ·right
      rw [decide_eq_false hc,cond_false]
      exact fin (.inr ⟨z,hz,by omega⟩)
  ·have hc3:(decide (x.1=id)||(decide (x.1∈reachI l id)&&decide (id∈reachI l x.1)))=false:=by
    rw [Bool.eq_false_iff]
    intro e
    rw [Bool.or_eq_true,Bool.and_eq_true,decide_eq_true_eq,decide_eq_true_eq,decide_eq_true_eq,(reach_iff h id).2,(reach_iff h x.1).2] at e
    exact hin e
   rw [hc3,cond_false,wrap_succ (by omega)]
   refine ⟨_,rfl,⟨k+1,rfl,hkl,by dsimp only;omega,hu,fun y=>?_⟩,by dsimp only;omega⟩
   dsimp only
   rw [hm]
   constructor
   ·rintro ⟨q,j,z,hj,hz⟩;exact ⟨q,j,z,by omega,hz⟩
   ·rintro ⟨q,j,z,hj,hz,e⟩
    by_cases hjk:j=k
    ·subst hjk;rw [hx] at hz;cases hz;rw [← e] at q;exact (hin q).elim
    ·exact ⟨q,j,z,by omega,hz,e⟩
 ·right
  have hkk:k=l.length:=by omega
  subst hkk
  rw [show decide ((l.length:Int) < (l.length:Int))=false from decide_eq_false (by omega),cond_false]
  have:o=partI l id:=Gr.up_ext (lt2I_sto l) hu p1 fun y=>by
   rw [hm,p2]
   refine ⟨fun q=>q.1,fun q=>⟨q,?_⟩⟩
   obtain ⟨z,hz,e⟩:=List.mem_map.1 (com_mem (InPart.id_of h hr q))
   obtain ⟨j,hj⟩:=List.getElem?_of_mem hz
   exact ⟨j,z,(List.getElem?_eq_some_iff.1 hj).1,hj,e⟩
  rw [this];rfl
end Go.Proofs.SL
namespace Go.Proofs.SL
open Go
def freeB (l:List D_Inst) (p told:List D_Id):Bool:=p.all fun x=>(dpI l x).all fun d=>decide (d∈p)||decide (d∈told)
theorem s_l12May_eq {l:List D_Inst} (h:instsOkB l=true) {p told:List D_Id} (hp:p.length≤1000) (ht:told.length≤1000):s_l12May l p told=some (freeB l p told):=by
 unfold s_l12May freeB
 rw [each_loop (p:=fun x=>(dpI l x).all fun d=>decide (d∈p)||decide (d∈told)) (no:=some false) (yes:=some true) (l:=p) (by omega)]
 ·cases p.all fun x=>(dpI l x).all fun d=>decide (d∈p)||decide (d∈told)<;>rfl
 ·intro k x hx
  have hd:=deps_len (dpI_facts h x)
  simp only [lt_dec (List.getElem?_eq_some_iff.1 hx).1,cond_true,idx_nat,hx,Option.bind_some]
  rw [show s_l12Deps l (x.1,x.2)=some (dpI l x) from s_l12Deps_eq h x,Option.bind_some]
  rw [each_loop (p:=fun d=>decide (d∈p)||decide (d∈told)) (no:=some (.inr false)) (yes:=some (.inl (IntKind.wrap .i64 ((k:Int)+1)))) (l:=dpI l x) (by omega)]
  ·rfl
  ·intro j d hd
   simp only [lt_dec (List.getElem?_eq_some_iff.1 hd).1,cond_true,idx_nat,hd,Option.bind_some]
   rw [has_dec hp,Option.bind_some]
   by_cases q:d∈p
   ·rw [decide_eq_true q];rfl
   ·rw [decide_eq_false q]
    simp only [Bool.not_false,gb_true,Option.bind_some]
    rw [has_dec ht,Option.bind_some]
    by_cases q2:d∈told
    ·rw [decide_eq_true q2];rfl
    ·rw [decide_eq_false q2];rfl
  ·simp only [ge_dec];rfl
 ·simp only [ge_dec];rfl
theorem i_isFree_eq {l:List D_Inst} (h:instsOkB l=true) (hs:smallL l) {p told:List D_Id} (hp:p.length≤1000) (ht:told.length≤1000) (hc:∀ x,x∈p→comI l x=true):i_isFree l p told=some (freeB l p told):=by
 have hl:=insts_len h
 unfold i_isFree freeB
 rw [each_loop (p:=fun x=>(dpI l x).all fun d=>decide (d∈p)||decide (d∈told)) (no:=some false) (yes:=some true) (l:=p) (by omega)]
 ·cases p.all fun x=>(dpI l x).all fun d=>decide (d∈p)||decide (d∈told)<;>rfl
 ·intro k x hx
  have hd:=deps_len (dpI_facts h x)
  simp only [lt_dec (List.getElem?_eq_some_iff.1 hx).1,cond_true,idx_nat,hx,Option.bind_some]
  rw [show i_InstAt l (x.1,x.2)=some (atI l x) from i_InstAt_eq (by omega) hs x,Option.bind_some,at_deps (hc x (List.mem_of_getElem? hx))]
  rw [each_loop (p:=fun d=>decide (d∈p)||decide (d∈told)) (no:=some (.inr false)) (yes:=some (.inl (IntKind.wrap .i64 ((k:Int)+1)))) (l:=dpI l x) (by omega)]
  ·rfl
  ·intro j d hd
   simp only [lt_dec (List.getElem?_eq_some_iff.1 hd).1,cond_true,idx_nat,hd,Option.bind_some]
   rw [contains_dec hp,Option.bind_some]
   by_cases q:d∈p
   ·rw [decide_eq_true q];rfl
   ·rw [decide_eq_false q]
    simp only [Bool.not_false,gb_true,Option.bind_some]
    rw [contains_dec ht,Option.bind_some]
    by_cases q2:d∈told
    ·rw [decide_eq_true q2];rfl
    ·rw [decide_eq_false q2];rfl
  ·simp only [ge_dec];rfl
 ·simp only [ge_dec];rfl
theorem idxF_eq {L:List (List D_Id)} {f:List D_Id→Option Bool} {p:List D_Id→Bool} (hL:L.length≤1000) (hf:∀ z,z∈L→f z=some (p z)):sl_IndexFunc_implIdimplId L f=some (firstI p L):=by
 unfold sl_IndexFunc_implIdimplId
 rw [whileP_find (l:=L) p some (by omega)]
 ·intro k x hx
  simp only [lt_dec (List.getElem?_eq_some_iff.1 hx).1,cond_true,idx_nat,hx,Option.bind_some,hf x (List.mem_of_getElem? hx)]
  cases p x<;>rfl
 ·simp only [ge_dec];rfl
theorem conF_eq {L:List (List D_Id)} {f:List D_Id→Option Bool} {p:List D_Id→Bool} (hL:L.length≤1000) (hf:∀ z,z∈L→f z=some (p z)):sl_ContainsFunc_implIdimplId L f=some (L.any p):=by
 unfold sl_ContainsFunc_implIdimplId
 rw [idxF_eq hL hf,Option.bind_some,firstI_any]
def idsI (l:List D_Inst):List D_Id:=l.map (·.1)
def partsI (l:List D_Inst):List (List D_Id):=Gr.parts (freeB l) (rdyI l) (partI l) (idsI l)
theorem part_len {l:List D_Inst} (h:instsOkB l=true) {x:D_Id} (hx:x∈idsI l) (hr:rdyI l x=true):(partI l x).length≤18∧∀ y,y∈partI l x→comI l y=true:=by
 obtain ⟨p1,p2⟩:=part_iff h x
 refine ⟨nodup_len (Gr.up_nodup (lt2I_sto l) p1) fun y hy=>?_,fun y hy=>InPart.id_of h hr ((p2 y).1 hy)⟩
 obtain ⟨z,hz,rfl⟩:=List.mem_map.1 (com_mem (InPart.id_of h hr ((p2 y).1 hy)))
 exact (instOk_facts ((instsOk_facts h).1 z hz)).1
theorem outs_len {l:List D_Inst} (h:instsOkB l=true):∀ {out:List (List D_Id)},Gr.OutOk (rdyI l) (partI l) (idsI l) out→out.flatten.length≤18*out.length
 | [],_=>by simp
 | p::out,ho=>by
  have h1:=outs_len h (out:=out) fun q hq=>ho q (List.mem_cons_of_mem _ hq)
  obtain ⟨z,z1,z2,rfl⟩:=ho p (List.mem_cons_self ..)
  have h2:=(part_len h z1 z2).1
  simp only [List.flatten_cons,List.length_append,List.length_cons]
  omega
theorem comps_len {ι:Type} [DecidableEq ι] {rdy:ι→Bool} {part:ι→List ι}:∀ (xs:List ι) (S:List (List ι)),(Gr.comps rdy part S xs).length≤xs.length
 | [],_=>Nat.le_refl _
 | x::xs,S=>by
  unfold Gr.comps
  split
  ·have:=comps_len (rdy:=rdy) (part:=part) xs (part x::S);simp only [List.length_cons];omega
  ·have:=comps_len (rdy:=rdy) (part:=part) xs S;simp only [List.length_cons];omega
theorem comps_cons (l:List D_Inst) (S:List (List D_Id)) (x:D_Id) (xs:List D_Id):Gr.comps (rdyI l) (partI l) S (x::xs)=if (rdyI l x&&!(S.any fun p=>decide (x∈p)))=true then partI l x::Gr.comps (rdyI l) (partI l) (partI l x::S) xs else Gr.comps (rdyI l) (partI l) S xs:=by
 conv=>lhs;unfold Gr.comps
 exact ite_congr (propext (by simp only [Bool.and_eq_true,Bool.not_eq_true',List.any_eq_false,decide_eq_true_eq])) (fun _=>rfl) (fun _=>rfl)
def restI (l:List D_Inst) (out:List (List D_Id)):List (List D_Id):=Gr.leftL (rdyI l) (partI l) (idsI l) out
theorem rest_len {l:List D_Inst} (h:instsOkB l=true):(restI l []).length≤18:=by
 have h1:(restI l []).length≤_:=List.length_filter_le _ _
 have h2:=comps_len (rdy:=rdyI l) (part:=partI l) (idsI l) []
 have h3:=insts_len h
 unfold idsI at h1 h2
 rw [List.length_map] at h2
 omega
def nextI (l:List D_Inst) (out:List (List D_Id)):Option D_Id:=Gr.nextX (freeB l) (rdyI l) (partI l) (idsI l) out
theorem nextI_find (l:List D_Inst) (out:List (List D_Id)):nextI l out=(l.find? fun x=>!decide (x.1∈out.flatten)&&rdyI l x.1&&freeB l (partI l x.1) out.flatten).map (·.1):=by
 unfold nextI Gr.nextX idsI
 rw [List.find?_map]
 refine congrArg (fun f=>Option.map (·.1) (l.find? f)) (funext fun x=>?_)
 rw [Bool.eq_iff_iff]
 simp only [Function.comp,Bool.and_eq_true,Bool.not_eq_true',decide_eq_false_iff_not]
def OJ (l:List D_Inst) (out:List (List D_Id)):Prop:=Gr.OI (freeB l) (rdyI l) (partI l) (idsI l) out∧out.length+(restI l out).length≤18
theorem OJ.start {l:List D_Inst} (h:instsOkB l=true):OJ l []:=⟨Gr.OI.start _ _ _ _,by have:=rest_len h;simpa using this⟩
theorem OJ.step {l:List D_Inst} (h:instsOkB l=true) {out:List (List D_Id)} (ho:OJ l out) {x:D_Id} (hx:nextI l out=some x):OJ l (out++[partI l x])∧(restI l (out++[partI l x])).length+1=(restI l out).length:=by
 obtain ⟨h1,h2⟩:=Gr.OI.step (partOk h) ho.1 hx
 refine ⟨⟨h1,?_⟩,h2⟩
 have:=ho.2
 rw [List.length_append]
 have h2':(restI l (out++[partI l x])).length+1=(restI l out).length:=h2
 simp only [List.length_cons,List.length_nil]
 omega
theorem OJ.len {l:List D_Inst} (h:instsOkB l=true) {out:List (List D_Id)} (ho:OJ l out):out.length≤18∧out.flatten.length≤324:=by
 have h1:=outs_len h ho.1.1
 have h2:=ho.2
 omega
theorem gb2 {R:Type} (a b:Bool) (f:Option Bool) (x:Option D_Inst) (h:a=false→f=some b) (g:D_Inst→Option Bool) (hg:∃ y,x=some y∧g y=f) (A B:Option R):gb (!a) x (fun y12=>gb (!a) (g y12) (fun y13=>cond (a||(!y13)) A B))=cond (!a&&b) B A:=by
 obtain ⟨y,rfl,h2⟩:=hg
 cases a with
 | true=>simp [gb_false]
 | false=>simp only [Bool.not_false,gb_true,Option.bind_some,h2,h rfl,Bool.false_or,Bool.true_and];cases b<;>rfl
theorem s_round {l:List D_Inst} (ho:Ok.ok l) (h:instsOkB l=true) (out:List (List D_Id)) (told:List D_Id) (hI:OJ l out) (ht:told=out.flatten) :
    (whileP (fun s8:(List (List D_Id))×(List D_Id)×Bool×Int=>cond ((decide (s8.2.2.2 < (l.length:Int)))&&(!s8.2.2.1)) (Option.bind (idx l s8.2.2.2) (fun y10=>Option.bind (s_l8Has s8.2.1 (y10.1.1,y10.1.2)) (fun y11=>gb (!y11) (idx l s8.2.2.2) (fun y12=>gb (!y11) (s_l12Ready l (y12.1.1,y12.1.2)) (fun y13=>cond (y11||(!y13)) (some (.inl ((s8.1,s8.2.1,s8.2.2.1,IntKind.wrap .i64 (s8.2.2.2+1))))) (Option.bind (idx l s8.2.2.2) (fun y15=>Option.bind (s_l12Part l (y15.1.1,y15.1.2)) (fun y16=>Option.bind (s_l12May l y16 s8.2.1) (fun y17=>cond y17 (Option.bind (appP s8.1 [y16]) (fun y20=>Option.bind (appP s8.2.1 y16) (fun y22=>some (.inl ((y20,y22,true,IntKind.wrap .i64 (s8.2.2.2+1))))))) (some (.inl ((s8.1,s8.2.1,s8.2.2.1,IntKind.wrap .i64 (s8.2.2.2+1)))))))))))))) (Option.map .inr (cond (!s8.2.2.1) (Option.map .inr (some s8.1)) (some (.inl ((s8.1,s8.2.1))))))) (out,told,false,0):Option (((List (List D_Id))×(List D_Id)) ⊕ (List (List D_Id))))
   =some (match nextI l out with | none=>.inr out | some x=>.inl (out++[partI l x],told++partI l x)):=by
  have hl:=insts_len h
  obtain ⟨l1,l2⟩:=hI.len h
  have htl:told.length≤324:=by rw [ht];exact l2
  have hn:=nextI_find l out
  refine whileP_is (s:=(out,told,false,(0:Int))) (fun s:(List (List D_Id))×(List D_Id)×Bool×Int=>∃ k:Nat,s.2.2.2=(k:Int)∧k≤l.length ∧
      ((s.1=out∧s.2.1=told∧s.2.2.1=false∧nextI l out=((l.drop k).find? fun x=>!decide (x.1∈out.flatten)&&rdyI l x.1&&freeB l (partI l x.1) out.flatten).map (·.1)) ∨
       (∃ x,nextI l out=some x∧s.1=out++[partI l x]∧s.2.1=told++partI l x∧s.2.2.1=true))) (fun s=>(l.length - s.2.2.2).toNat) ?_ ⟨0,rfl,Nat.zero_le _,.inl ⟨rfl,rfl,rfl,hn⟩⟩
  rintro ⟨o,t,m,k'⟩ ⟨k,g1,hk,g2⟩
  dsimp only at g1 g2 ⊢
  subst g1
  rcases g2 with ⟨rfl,rfl,rfl,g⟩ | ⟨x,g3,rfl,rfl,rfl⟩
  · by_cases hkl:k < l.length
    · left
      have hx:l[k]?=some l[k]:=List.getElem?_eq_getElem hkl
      have hxm:l[k]∈l:=List.getElem_mem _
      generalize l[k]=x at hx hxm
      rw [drop_cons hx] at g
      have w1:IntKind.wrap .i64 ((k:Int)+1)=((k+1:Nat):Int):=wrap_succ (by omega)
      have hxi:x.1∈idsI l:=List.mem_map.2 ⟨x,hxm,rfl⟩
      rw [show decide ((k:Int) < (l.length:Int))=true from decide_eq_true (by omega)]
      simp only [Bool.not_false,Bool.and_self,cond_true,w1]
      rw [idx_nat,hx,Option.bind_some,show s_l8Has t (x.1.1,x.1.2)=_ from has_dec (x:=x.1) (by omega),Option.bind_some]
      rw [gb2 (decide (x.1∈t)) (rdyI l x.1) (s_l12Ready l (x.1.1,x.1.2)) (some x) (fun _=>s_l12Ready_eq h x.1) (fun y12=>s_l12Ready l (y12.1.1,y12.1.2)) ⟨x,rfl,rfl⟩]
      have no:(!decide (x.1∈o.flatten)&&rdyI l x.1&&freeB l (partI l x.1) o.flatten)=false→∃ s':(List (List D_Id))×(List D_Id)×Bool×Int,(some (.inl (o,t,false,((k+1:Nat):Int))):Option (_ ⊕ (((List (List D_Id))×(List D_Id)) ⊕ (List (List D_Id)))))=some (.inl s')∧(∃ k:Nat,s'.2.2.2=(k:Int)∧k≤l.length ∧
          ((s'.1=o∧s'.2.1=t∧s'.2.2.1=false∧nextI l o=((l.drop k).find? fun x=>!decide (x.1∈o.flatten)&&rdyI l x.1&&freeB l (partI l x.1) o.flatten).map (·.1)) ∨
           (∃ x,nextI l o=some x∧s'.1=o++[partI l x]∧s'.2.1=t++partI l x∧s'.2.2.1=true)))∧((l.length:Int) - s'.2.2.2).toNat < ((l.length:Int) - (k:Int)).toNat:=by
        intro hc
        refine ⟨_,rfl,⟨k+1,rfl,hkl,.inl ⟨rfl,rfl,rfl,?_⟩⟩,by dsimp only;omega⟩
        rw [g,List.find?_cons_of_neg (by rw [hc];simp)]
      cases hc:(!decide (x.1∈t)&&rdyI l x.1) with
      | false=>rw [cond_false];exact no (by rw [← ht,hc];rfl)
      | true =>
        have hr:rdyI l x.1=true:=(Bool.and_eq_true _ _ ▸ hc).2
        obtain ⟨q1,q2⟩:=part_len h hxi hr
        rw [cond_true,Option.bind_some,show s_l12Part l (x.1.1,x.1.2)=some (partI l x.1) from s_l12Part_eq h x.1 hr,Option.bind_some,s_l12May_eq h (by omega) (by omega),Option.bind_some]
        cases hf:freeB l (partI l x.1) t with
        | false=>rw [cond_false];exact no (by rw [← ht,hc,hf];rfl)
        | true =>
          rw [cond_true,appP_ok (by simp;omega),Option.bind_some,appP_ok (by omega),Option.bind_some]
          refine ⟨_,rfl,⟨k+1,rfl,hkl,.inr ⟨x.1,?_,rfl,rfl,rfl⟩⟩,by dsimp only;omega⟩
          rw [g,List.find?_cons_of_pos (by rw [← ht,hc,hf];rfl)];rfl
    · right
      rw [show decide ((k:Int) < (l.length:Int))=false from decide_eq_false (by omega)]
      simp only [Bool.false_and,cond_false,Bool.not_false,cond_true]
      rw [List.drop_of_length_le (by omega)] at g
      rw [g];rfl
  · right
    simp only [Bool.not_true,Bool.and_false,cond_false]
    rw [g3];rfl
theorem s_Parts_eq {l:List D_Inst} (ho:Ok.ok l):s_Parts l=some (if instsOkB l then partsI l else []):=by
 unfold s_Parts
 rw [Option.bind_some,Option.bind_some]
 by_cases h:instsOkB l=true
 ·rw [if_pos h]
  refine whileP_is (s:=(([]:List (List D_Id)),([]:List D_Id))) (fun s:(List (List D_Id))×(List D_Id)=>OJ l s.1∧s.2=s.1.flatten) (fun s=>(restI l s.1).length) ?_ ⟨OJ.start h,rfl⟩
  rintro ⟨o,t⟩ ⟨g1,g2⟩
  dsimp only at g1 g2 ⊢
  rw [s_InstsOk_eq ho,h,Option.bind_some,cond_true,s_round ho h o t g1 g2]
  cases hn:nextI l o with
  | none=>right;rw [g1.1.stop hn];rfl
  | some x =>
   left
   obtain ⟨h1,h2⟩:=g1.step h hn
   refine ⟨_,rfl,⟨h1,?_⟩,by dsimp only;omega⟩
   dsimp only
   rw [g2];simp
 ·rw [if_neg h]
  refine whileP_is (s:=(([]:List (List D_Id)),([]:List D_Id))) (fun s:(List (List D_Id))×(List D_Id)=>s=([],[])) (fun s=>0) ?_ rfl
  rintro _ rfl
  right
  rw [s_InstsOk_eq ho,(Bool.eq_false_iff.2 h),Option.bind_some,cond_false];rfl
theorem i_Parts_eq {l:List D_Inst} (ho:Ok.ok l) (hs:smallL l):i_Parts l=some (if instsOkB l then partsI l else []):=by
 unfold i_Parts
 rw [i_InstsOk_eq ho,Option.bind_some]
 by_cases h:instsOkB l=true
 ·rw [if_pos h,h,Bool.not_true,cond_false,Option.bind_some]
  have hl:=insts_len h
  refine whileP_is (s:=(([]:List (List D_Id)),(0:Int))) (fun s:(List (List D_Id))×Int=>∃ k:Nat,s.2=(k:Int)∧k≤l.length∧s.1.length≤k∧(∀ p,p∈s.1→p.length≤18)∧s.1++Gr.comps (rdyI l) (partI l) s.1.reverse (idsI (l.drop k))=Gr.comps (rdyI l) (partI l) [] (idsI l)) (fun s=>(l.length - s.2).toNat) ?_ ⟨0,rfl,Nat.zero_le _,Nat.le_refl _,fun p hp=>(by cases hp),rfl⟩
  rintro ⟨o,k'⟩ ⟨k,g1,hk,hol,hop,he⟩
  dsimp only at g1 hol hop he ⊢
  subst g1
  by_cases hkl:k < l.length
  ·left
   have hx:l[k]?=some l[k]:=List.getElem?_eq_getElem hkl
   have hxm:l[k]∈l:=List.getElem_mem _
   generalize l[k]=x at hx hxm
   rw [drop_cons hx] at he
   have w1:IntKind.wrap .i64 ((k:Int)+1)=((k+1:Nat):Int):=wrap_succ (by omega)
   have hxi:x.1∈idsI l:=List.mem_map.2 ⟨x,hxm,rfl⟩
   rw [show idsI (x::l.drop (k+1))=x.1::idsI (l.drop (k+1)) from rfl] at he
   rw [comps_cons,List.any_reverse] at he
   rw [show decide ((k:Int) < (l.length:Int))=true from decide_eq_true (by omega),cond_true,w1,idx_nat,hx,Option.bind_some]
   rw [conF_eq (p:=fun z=>decide (x.1∈z)) (by omega) (fun z hz=>by
    unfold i_Parts_c1
    rw [show sl_Contains_implIdimplId z _=_ from contains_dec (x:=x.1) (by have:=hop z hz;omega)];rfl),Option.bind_some]
   cases ha:o.any fun z=>decide (x.1∈z) with
   | true =>
    rw [ha] at he
    simp only [Bool.not_true,Bool.and_false,Bool.false_eq_true,if_false] at he
    exact ⟨_,rfl,⟨k+1,rfl,hkl,by dsimp only;omega,hop,he⟩,by dsimp only;omega⟩
   | false =>
    rw [ha] at he
    simp only [Bool.not_false,gb_true,Bool.true_and,Bool.and_true] at he ⊢
    rw [show i_Ready l (x.1.1,x.1.2)=some (rdyI l x.1) from i_Ready_eq ho h hs x.1,Option.bind_some]
    cases hr:rdyI l x.1 with
    | false =>
     rw [hr] at he
     simp only [Bool.false_eq_true,if_false] at he
     exact ⟨_,rfl,⟨k+1,rfl,hkl,by dsimp only;omega,hop,he⟩,by dsimp only;omega⟩
    | true =>
     rw [hr] at he
     simp only [if_true] at he
     rw [cond_true,show i_part l (x.1.1,x.1.2)=some (partI l x.1) from i_part_eq ho h hs x.1,Option.bind_some,appP_ok (by simp;omega),Option.bind_some]
     refine ⟨_,rfl,⟨k+1,rfl,hkl,by simp;omega,fun p hp=>?_,?_⟩,by dsimp only;omega⟩
     ·rcases List.mem_append.1 hp with hp | hp
      ·exact hop p hp
      ·rw [List.mem_singleton.1 hp];exact (part_len h hxi hr).1
     ·dsimp only
      rw [List.reverse_append]
      simpa using he
  ·right
   have hkk:k=l.length:=by omega
   subst hkk
   rw [show decide ((l.length:Int) < (l.length:Int))=false from decide_eq_false (by omega),cond_false,Option.bind_some,Option.bind_some]
   rw [List.drop_of_length_le (Nat.le_refl _)] at he
   have he:o=restI l []:=by
    have e1:o=Gr.comps (rdyI l) (partI l) [] (idsI l):=by rw [← he];exact (List.append_nil _).symm
    rw [e1]
    unfold restI Gr.leftL
    exact (List.filter_eq_self.2 fun p _=>rfl).symm
   subst he
   have:whileP (fun s19:(List (List D_Id))×(List (List D_Id))×(List D_Id)=>cond (decide (0 < (s19.1.length:Int))) (Option.bind (sl_IndexFunc_implIdimplId s19.1 (fun z0=>i_Parts_c2 z0 l s19.2.2)) (fun y21=>cond (decide (y21 < 0)) (Option.map .inr (some s19.2.1)) (Option.bind (idx s19.1 y21) (fun y24=>Option.bind (appP s19.2.1 [y24]) (fun y26=>Option.bind (idx s19.1 y21) (fun y27=>Option.bind (appP s19.2.2 y24) (fun y29=>Option.bind (delP s19.1 y21 (IntKind.wrap .i64 (y21+1))) (fun y30=>some (.inl ((y30,y26,y29))))))))))) (Option.map .inr (some s19.2.1))) (restI l [],([]:List (List D_Id)),([]:List D_Id))=some (partsI l):=by
    refine whileP_is (s:=(restI l [],([]:List (List D_Id)),([]:List D_Id))) (fun s:(List (List D_Id))×(List (List D_Id))×(List D_Id)=>OJ l s.2.1∧s.1=restI l s.2.1∧s.2.2=s.2.1.flatten) (fun s=>s.1.length) ?_ ⟨OJ.start h,rfl,rfl⟩
    rintro ⟨r,o,t⟩ ⟨g1,g2,g3⟩
    dsimp only at g1 g2 g3 ⊢
    obtain ⟨l1,l2⟩:=g1.len h
    have htl:t.length≤324:=by rw [g3];exact l2
    have hrl:r.length≤18:=by have:=g1.2;rw [g2];omega
    have hrm:∀ p,p∈r→∃ z,z∈idsI l∧rdyI l z=true∧p=partI l z:=fun p hp=>by
     rw [g2] at hp
     obtain ⟨z,z1,z2,z3,_⟩:=Gr.comps_mem _ _ _ (List.mem_filter.1 hp).1
     exact ⟨z,z1,z2,z3⟩
    have hb:=Gr.step_both (free:=freeB l) (partOk h) g1.1.1
    rw [show Gr.leftL (rdyI l) (partI l) (l.map (·.1)) o=r from g2.symm,← g3] at hb
    cases hr0:r with
    | nil =>
     right
     rw [show decide ((0:Int) < ((([]:List (List D_Id)).length:Nat):Int))=false from rfl,cond_false]
     rcases hb with ⟨h1,_⟩ | ⟨x,k,_,h2,_⟩
     ·rw [g1.1.stop h1];rfl
     ·rw [hr0] at h2;simp at h2
    | cons p0 r0 =>
     rw [← hr0]
     rw [show decide ((0:Int) < (r.length:Int))=true from decide_eq_true (by rw [hr0];simp),cond_true]
     rw [idxF_eq (p:=fun p=>freeB l p t) (by omega) (fun z hz=>by
      obtain ⟨y,y1,y2,rfl⟩:=hrm z hz
      obtain ⟨q1,q2⟩:=part_len h y1 y2
      unfold i_Parts_c2
      rw [i_isFree_eq h hs (by omega) (by omega) q2];rfl),Option.bind_some]
     unfold firstI
     rcases hb with ⟨h1,h2⟩ | ⟨x,k,h1,h2,h3,h4,_,h6,h7⟩
     ·right
      rw [h2,g1.1.stop h1];rfl
     ·left
      rw [h2]
      have hklt:=(List.getElem?_eq_some_iff.1 h3).1
      obtain ⟨q1,q2⟩:=part_len h (show x∈idsI l from h6) h7
      dsimp only
      rw [show decide ((k:Int) < 0)=false from decide_eq_false (by omega),cond_false,idx_nat,h3,Option.bind_some,appP_ok (by simp;omega),Option.bind_some,Option.bind_some,appP_ok (by omega),Option.bind_some,wrap_succ (by omega)]
      unfold delP
      rw [if_pos (by omega),Option.bind_some]
      obtain ⟨s1,s2⟩:=g1.step h h1
      rw [show r.take (k:Int).toNat++r.drop (((k+1:Nat):Int)).toNat=r.eraseIdx k from (List.eraseIdx_eq_take_drop_succ ..).symm]
      refine ⟨_,rfl,⟨s1,h4,?_⟩,?_⟩
      ·dsimp only;rw [g3];simp
      ·dsimp only;rw [h4]
       have s2':=s2
       rw [← g2] at s2'
       have e:(restI l (o++[partI l x]))=Gr.leftL (rdyI l) (partI l) (l.map (·.1)) (o++[partI l x]):=rfl
       rw [e] at s2'
       omega
   rw [this];rfl
 ·rw [if_neg h,(Bool.eq_false_iff.2 h),Bool.not_false,cond_true]
end Go.Proofs.SL
namespace Go.Proofs.SL
open Go
noncomputable def ordI (l:List D_Inst):List D_Id:=if instsOkB l then (partsI l).flatten else []
theorem OJ.nodup_step {l:List D_Inst} (h:instsOkB l=true) {out:List (List D_Id)} (ho:OJ l out) (hn:out.flatten.Nodup) {x:D_Id} (hx:nextI l out=some x):(out++[partI l x]).flatten.Nodup:=by
 have h1:=List.mem_of_find?_eq_some hx
 have h2:=List.find?_some hx
 simp only [Bool.and_eq_true,Bool.not_eq_true',decide_eq_false_iff_not] at h2
 rw [List.flatten_append,List.flatten_cons,List.flatten_nil,List.append_nil]
 refine List.nodup_append.2 ⟨hn,Gr.up_nodup (lt2I_sto l) (part_iff h x).1,fun a ha b hb e=>?_⟩
 subst e
 obtain ⟨p,hp,hap⟩:=List.mem_flatten.1 ha
 obtain ⟨z,z1,z2,rfl⟩:=ho.1.1 p hp
 have hk:=partOk h
 have e1:=(hk.mem z z1 z2 a hap).2.2
 have e2:=(hk.mem x h1 h2.1.2 a hb).2.2
 refine h2.1.1 (List.mem_flatten.2 ⟨_,hp,?_⟩)
 rw [← e1,e2]
 exact hk.self x h1 h2.1.2
theorem order_OJ {l:List D_Inst} (h:instsOkB l=true):∀ (n:Nat) (out:List (List D_Id)),OJ l out→out.flatten.Nodup→OJ l (Gr.orderS (freeB l) (rdyI l) (partI l) (idsI l) n out)∧(Gr.orderS (freeB l) (rdyI l) (partI l) (idsI l) n out).flatten.Nodup
 | 0,out,h1,h2=>⟨h1,h2⟩
 | n+1,out,h1,h2=>by
  unfold Gr.orderS
  cases hx:Gr.nextX (freeB l) (rdyI l) (partI l) (idsI l) out with
  | none=>exact ⟨h1,h2⟩
  | some x=>exact order_OJ h n _ (h1.step h hx).1 (h1.nodup_step h h2 hx)
theorem parts_OJ {l:List D_Inst} (h:instsOkB l=true):OJ l (partsI l)∧(partsI l).flatten.Nodup:=order_OJ h _ [] (OJ.start h) List.nodup_nil
theorem ord_nodup (l:List D_Inst):(ordI l).Nodup∧(ordI l).length≤324:=by
 unfold ordI
 split
 ·rename_i h
  exact ⟨(parts_OJ h).2,((parts_OJ h).1.len h).2⟩
 ·exact ⟨List.nodup_nil,by simp⟩
theorem flat_take_le (P:List (List D_Id)) (k:Nat):(P.take k).flatten.length≤P.flatten.length:=by
 conv=>rhs;rw [← List.take_append_drop k P,List.flatten_append,List.length_append]
 omega
theorem flat_loop {P:List (List D_Id)} (h:P.flatten.length≤1000) (hP:P.length≤1000):whileP (fun s4:(List D_Id)×Int=>cond (decide (s4.2 < (P.length:Int))) (Option.bind (idx P s4.2) (fun y6=>Option.bind (appP s4.1 y6) (fun y8=>some (.inl ((y8,IntKind.wrap .i64 (s4.2+1))))))) (Option.map .inr (some s4.1))) (([]:List D_Id),0)=some P.flatten:=by
 refine whileP_is (s:=(([]:List D_Id),(0:Int))) (fun s:List D_Id×Int=>∃ k:Nat,s.2=(k:Int)∧k≤P.length∧s.1=(P.take k).flatten) (fun s=>(P.length - s.2).toNat) ?_ ⟨0,rfl,Nat.zero_le _,rfl⟩
 rintro ⟨o,k'⟩ ⟨k,g1,hk,g2⟩
 dsimp only at g1 g2 ⊢
 subst g1
 by_cases hkl:k < P.length
 ·left
  have hx:P[k]?=some P[k]:=List.getElem?_eq_getElem hkl
  generalize P[k]=x at hx
  have e:(P.take (k+1)).flatten=o++x:=by rw [List.take_add_one,hx,List.flatten_append,← g2];simp
  have:=flat_take_le P (k+1)
  rw [e,List.length_append] at this
  rw [show decide ((k:Int) < (P.length:Int))=true from decide_eq_true (by omega),cond_true,idx_nat,hx,Option.bind_some,appP_ok (by omega),Option.bind_some,wrap_succ (by omega)]
  exact ⟨_,rfl,⟨k+1,rfl,hkl,e.symm⟩,by dsimp only;omega⟩
 ·right
  rw [show decide ((k:Int) < (P.length:Int))=false from decide_eq_false (by omega),cond_false,g2,List.take_of_length_le (by omega)];rfl
theorem partsB_len (l:List D_Inst):(if instsOkB l then partsI l else []).flatten.length≤324∧(if instsOkB l then partsI l else []).length≤18:=by
 split
 ·rename_i h
  have:=(parts_OJ h).1.len h
  exact ⟨this.2,this.1⟩
 ·simp
theorem ordI_eq (l:List D_Inst):(if instsOkB l then partsI l else []).flatten=ordI l:=by
 unfold ordI
 split<;>rfl
theorem s_ExecOrder_eq {l:List D_Inst} (ho:Ok.ok l):s_ExecOrder l=some (ordI l):=by
 unfold s_ExecOrder
 obtain ⟨h1,h2⟩:=partsB_len l
 rw [Option.bind_some,s_Parts_eq ho,Option.bind_some,flat_loop (by omega) (by omega),ordI_eq]
theorem i_ExecOrder_eq {l:List D_Inst} (ho:Ok.ok l) (hs:smallL l):i_ExecOrder l=some (ordI l):=by
 unfold i_ExecOrder
 obtain ⟨h1,h2⟩:=partsB_len l
 rw [Option.bind_some,i_Parts_eq ho hs,Option.bind_some,flat_loop (by omega) (by omega),ordI_eq]
end Go.Proofs.SL
namespace Go.Proofs.SL
open Go
end Go.Proofs.SL
namespace Go.Proofs.SL
open Go
theorem i_copyCatalog_eq {c:D_Catalog} (h:CBnd c):i_copyCatalog c=some c:=by
 have hlen:=h.len
 unfold i_copyCatalog
 rw [loop_pass (l:=c) (fun k (t:List D_CSet)=>((k:Int),t)) (fun t s=>t++[s]) some (fun k t=>t.length≤k) [] (s0:=(0,[])) rfl (Nat.le_refl _)]
 ·have:∀ (xs acc:List D_CSet),xs.foldl (fun t s=>t++[s]) acc=acc++xs:=fun xs=>by
   induction xs with
   | nil=>intro acc;simp
   | cons x xs ih=>intro acc;rw [List.foldl_cons,ih];simp
  rw [this];rfl
 ·intro k t s hs ht
  have hk:=(List.getElem?_eq_some_iff.1 hs).1
  have hsm:=List.mem_of_getElem? hs
  have h6:=h.snaps s hsm
  simp only [lt_dec hk,cond_true,idx_nat,hs,Option.bind_some]
  rw [loop_pass (l:=s.2) (fun k (t:List D_CSnap)=>((k:Int),t)) (fun t p=>t++[p]) (fun u=>some (.inl ((((k+1:Nat):Int)),t++[(s.1,u)]))) (fun k t=>t.length≤k) [] (s0:=(0,[])) rfl (Nat.le_refl _)]
  ·have:∀ (xs acc:List D_CSnap),xs.foldl (fun t s=>t++[s]) acc=acc++xs:=fun xs=>by
    induction xs with
    | nil=>intro acc;simp
    | cons x xs ih=>intro acc;rw [List.foldl_cons,ih];simp
   rw [this]
   exact ⟨rfl,by simp;omega⟩
  ·intro j u p hp hu
   have hj:=(List.getElem?_eq_some_iff.1 hp).1
   obtain ⟨_,_,h4,_⟩:=h.snap s hsm p (List.mem_of_getElem? hp)
   simp only [lt_dec hj,cond_true,idx_nat,hp,Option.bind_some]
   rw [copyTexts_eq (by omega),Option.bind_some,appP_ok (by simp;omega),Option.bind_some,wrap_succ (by omega)]
   exact ⟨rfl,by simp;omega⟩
  ·intro u hu
   simp only [ge_dec,cond_false]
   rw [appP_ok (by simp;omega),Option.bind_some,wrap_succ (by omega)]
 ·intro t ht
  simp only [ge_dec,cond_false]
def spStep (t:Bool×ByteArray) (x:ByteArray):Bool×ByteArray:=(true,(if t.1 then t.2++tSp else t.2)++x)
theorem i_spaced_eq {l:List ByteArray} (h:l.length≤1000) (hx:∀ x,x∈l→x.size≤20):i_spaced l=some ((l.foldl spStep (false,ByteArray.empty)).2):=by
 unfold i_spaced
 rw [loop_pass (l:=l) (fun k (t:Bool×ByteArray)=>(t.2,(k:Int))) spStep (fun t=>some t.2) (fun k t=>t.1=decide (0 < k)∧t.2.size≤21*k) (false,ByteArray.empty) (s0:=(ByteArray.empty,0)) rfl ⟨rfl,Nat.le_refl _⟩]
 ·intro k t x hxk ht
  have hk:=(List.getElem?_eq_some_iff.1 hxk).1
  obtain ⟨b,a⟩:=t
  obtain ⟨rfl,ha⟩:=ht
  dsimp only at ha ⊢
  have h1:=hx x (List.mem_of_getElem? hxk)
  simp only [lt_dec hk,cond_true,idx_nat,hxk,Option.bind_some]
  rcases Nat.eq_zero_or_pos k with h0 | h0
  ·subst h0
   rw [decide_eq_false (show ¬ (0:Int) < ((0:Nat):Int) by omega),cond_false,catP_ok (by omega),Option.bind_some,wrap_succ (by omega)]
   exact ⟨rfl,by simp [spStep],by simp [spStep,ByteArray.size_append];omega⟩
  ·rw [decide_eq_true (show (0:Int) < (k:Int) by omega),cond_true,show (ByteArray.mk #[32])=tSp from rfl,catP_ok (by rw [sz_sp];omega),Option.bind_some,catP_ok (by simp [ByteArray.size_append,sz_sp];omega),Option.bind_some,wrap_succ (by omega)]
   refine ⟨?_,by simp [spStep],?_⟩
   ·simp [spStep,decide_eq_true h0]
   ·simp [spStep,decide_eq_true h0,ByteArray.size_append,sz_sp];omega
 ·intro t ht
  simp only [ge_dec,cond_false]
theorem foldl_app {α β:Type} (g:β→α):∀ (xs:List β) (acc:List α),xs.foldl (fun t x=>t++[g x]) acc=acc++xs.map g
 | [],acc=>by simp
 | x::xs,acc=>by rw [List.foldl_cons,foldl_app g xs];simp
theorem i_list_eq {c:D_Catalog} (h:CBnd c):i_Catalog_list c=some (listD c):=by
 have hlen:=h.len
 unfold i_Catalog_list
 rw [Option.bind_some]
 rw [loop_pass (l:=c) (fun k (t:List ByteArray)=>(t,(k:Int))) (fun t s=>t++[s.1]) (fun t=>Option.bind (i_spaced t) (fun y9=>some y9)) (fun k t=>t.length≤k) [] (s0:=([],0)) rfl (Nat.le_refl _)]
 ·rw [foldl_app (fun s:D_CSet=>s.1),List.nil_append,i_spaced_eq (by simp;omega),Option.bind_some,List.foldl_map]
  ·rfl
  ·intro x hx
   obtain ⟨s,hs,rfl⟩:=List.mem_map.1 hx
   have:=h.name s hs
   omega
 ·intro k t s hs ht
  have hk:=(List.getElem?_eq_some_iff.1 hs).1
  simp only [lt_dec hk,cond_true,idx_nat,hs,Option.bind_some]
  rw [appP_ok (by simp;omega),Option.bind_some,wrap_succ (by omega)]
  exact ⟨rfl,by simp;omega⟩
 ·intro t ht
  simp only [ge_dec,cond_false]
theorem i_told_eq {s:D_CSet} (h:s.2.length≤1000) (hp:∀ p,p∈s.2→p.1.size≤8∧p.2.1.size≤8):i_CSet_told s=some (readD s,s):=by
 unfold i_CSet_told
 rw [Option.bind_some]
 rw [loop_pass (l:=s.2) (fun k (t:List ByteArray)=>(t,(k:Int))) (fun t p=>t++[p.1++tCol++p.2.1]) (fun t=>Option.bind (i_spaced t) (fun y9=>some (y9,s))) (fun k t=>t.length≤k) [] (s0:=([],0)) rfl (Nat.le_refl _)]
 ·rw [foldl_app (fun p:D_CSnap=>p.1++tCol++p.2.1),List.nil_append,i_spaced_eq (by simp;omega),Option.bind_some,List.foldl_map]
  ·unfold readD
   congr 4
   funext t p
   unfold spStep readStep
   simp only [ByteArray.append_assoc]
  ·intro x hx
   obtain ⟨p,hp',rfl⟩:=List.mem_map.1 hx
   have:=hp p hp'
   simp only [ByteArray.size_append,sz_col]
   omega
 ·intro k t p hpk ht
  have hk:=(List.getElem?_eq_some_iff.1 hpk).1
  have:=hp p (List.mem_of_getElem? hpk)
  simp only [lt_dec hk,cond_true,idx_nat,hpk,Option.bind_some]
  rw [show (ByteArray.mk #[58])=tCol from rfl,catP_ok (by rw [sz_col];omega),Option.bind_some,catP_ok (by simp [ByteArray.size_append,sz_col];omega),Option.bind_some,appP_ok (by simp;omega),Option.bind_some,wrap_succ (by omega)]
  exact ⟨rfl,by simp;omega⟩
 ·intro t ht
  simp only [ge_dec,cond_false]
theorem dec_step {k:Nat} {b:UInt8} (h:digit k=strP [b]) (h0:decide ((k:Int)=0)=false) (hn:decide ((k:Int) < 0)=false)
  (hs:(u8P (IntKind.wrap .u8 (IntKind.wrap .i64 (48+((k:Int)).tmod 10))))=some b) (hm:decide (((k:Int)).tmod 10 < 0)=false) (hd:((k:Int)).tdiv 10=0):i_Dec (k:Int)=some (digit k):=by
 unfold i_Dec
 rw [h0,cond_false,Option.bind_some,whileP_step (s':=([b],0))]
 ·refine whileP_done ?_
  rw [hn]
  show Option.map Sum.inr (whileP _ (0:Int))=_
  rw [whileP_done (a:=strP [b]) (show (fun s18:Int=>cond (decide (0 < IntKind.wrap .i64 ((([b]:List UInt8).length:Int) - 1))) none (Option.map Sum.inr (some (strP [b])))) 0=some (Sum.inr (strP [b])) from rfl),h]
  rfl
 ·dsimp only
  rw [h0,hm,Bool.not_false,cond_true,cond_false,hs,Option.bind_some,appP_ok (by simp),Option.bind_some,hd]
  rfl
theorem i_Dec_small:∀ k:Nat,k≤5→i_Dec (k:Int)=some (digit k)
 | 0,_=>rfl
 | 1,_=>dec_step (b:=49) (by rfl) (by decide) (by decide) (by kernel_rfl) (by decide) (by decide)
 | 2,_=>dec_step (b:=50) (by rfl) (by decide) (by decide) (by kernel_rfl) (by decide) (by decide)
 | 3,_=>dec_step (b:=51) (by rfl) (by decide) (by decide) (by kernel_rfl) (by decide) (by decide)
 | 4,_=>dec_step (b:=52) (by rfl) (by decide) (by decide) (by kernel_rfl) (by decide) (by decide)
 | 5,_=>dec_step (b:=53) (by rfl) (by decide) (by decide) (by kernel_rfl) (by decide) (by decide)
 | _+6,h=>by omega
end Go.Proofs.SL
namespace Go.Proofs.SL
open Go
theorem firstI_neg {α:Type} (p:α→Bool) (l:List α):(firstI p l=-1∧l.any p=false∧l.findIdx? p=none)∨∃ (k:Nat) (x:α),firstI p l=(k:Int)∧l.any p=true∧l.findIdx? p=some k∧l[k]?=some x∧p x=true:=by
 rcases firstI_get p l with ⟨e1,e2⟩ | ⟨k,x,e1,e2,e3,e4⟩
 ·left
  have:=firstI_any p l
  rw [e1] at this
  exact ⟨e1,this.symm,e2⟩
 ·right
  have:=firstI_any p l
  rw [e1] at this
  refine ⟨k,x,e1,?_,e2,e3,e4⟩
  rw [← this];exact decide_eq_true (by omega)
theorem i_commit_eq {s:D_CSet} {m:D_Cmd} (hs:s.2.length≤5) (hm:m.2.2.2.2.2.2.2.length≤1000):i_CSet_commit s m=some (if s.2.any (fun p=>decide (p.1=m.2.2.2.2.1)) then (tExists,s) else if 5≤s.2.length then (tFull,s) else (tOk,(s.1,s.2++[(m.2.2.2.2.1,ByteArray.empty,m.2.2.2.2.2.2.2)]))):=by
 unfold i_CSet_commit
 rw [show i_CSet_snap _ _=_ from i_CSet_snap_eq (s:=s) (n:=m.2.2.2.2.1) (by omega),Option.bind_some,firstI_any]
 cases s.2.any (fun p=>decide (p.1=m.2.2.2.2.1)) with
 | true=>rfl
 | false =>
  rw [cond_false,if_neg (by simp)]
  by_cases h5:5≤s.2.length
  ·rw [decide_eq_true (show (s.2.length:Int)=5 by omega),if_pos h5];rfl
  ·rw [decide_eq_false (show ¬ (s.2.length:Int)=5 by omega),if_neg h5,cond_false,copyTexts_eq (by omega),Option.bind_some,appP_ok (by simp;omega)];rfl
theorem i_tag_eq {s:D_CSet} {m:D_Cmd} (hs:s.2.length≤5):i_CSet_tag s m=some (match s.2.findIdx? (fun p=>decide (p.1=m.2.2.2.2.1)) with
  | none=>(tNone,s)
  | some k=>match s.2[k]? with
   | none=>(tNone,s)
   | some p=>(tOk,(s.1,s.2.set k (p.1,m.2.2.2.2.2.1,p.2.2)))):=by
 unfold i_CSet_tag
 rw [show i_CSet_snap _ _=_ from i_CSet_snap_eq (s:=s) (n:=m.2.2.2.2.1) (by omega),Option.bind_some]
 rcases firstI_neg (fun p:D_CSnap=>decide (p.1=m.2.2.2.2.1)) s.2 with ⟨e1,_,e2⟩ | ⟨k,p,e1,_,e2,e3,_⟩
 ·rw [e1,e2];rfl
 ·rw [e1,e2,decide_eq_false (show ¬ ((k:Int) < 0) by omega),cond_false]
  simp only [idx_nat,e3,Option.bind_some,Int.toNat_natCast]
  rfl
theorem bare_take {l:List D_CSnap} {k:Nat} {p:D_CSnap} (h:l[k]?=some p):bareN (l.take (k+1))=bareN (l.take k)+(if p.2.1=ByteArray.empty then 1 else 0):=by
 unfold bareN
 rw [List.take_add_one,h,List.filter_append,List.length_append]
 by_cases hp:p.2.1=ByteArray.empty
 ·simp [hp]
 ·simp [hp]
theorem bare_le (l:List D_CSnap) (k:Nat):bareN (l.take k)≤bareN l:=by
 unfold bareN
 conv=>rhs;rw [← List.take_append_drop k l,List.filter_append,List.length_append]
 omega
theorem i_prune_eq {s:D_CSet} {n:Int} (hs:s.2.length≤5) (hn:0≤n∧n≤9):i_CSet_prune s n=some (digit (s.2.length - (pruneD s.2 n).length),(s.1,pruneD s.2 n)):=by
 have hbl:bareN s.2≤s.2.length:=List.length_filter_le _ _
 unfold i_CSet_prune
 rw [loop_pass (l:=s.2) (fun k (t:Int)=>(t,(k:Int))) (fun t p=>if p.2.1=ByteArray.empty then t+1 else t) (fun t=>if t=(bareN s.2:Int) - n then some (digit (s.2.length - (pruneD s.2 n).length),(s.1,pruneD s.2 n)) else
   whileP (fun s8:(List D_CSnap)×Int×Int=>cond (decide (s8.2.2 < (s.2.length:Int))) (Option.bind (idx s.2 s8.2.2) (fun y10=>cond ((decide (y10.2.1=ByteArray.empty))&&(decide (s8.2.1 < (if t > 0 then t else 0)))) (some (.inl ((s8.1,IntKind.wrap .i64 (s8.2.1+1),IntKind.wrap .i64 (s8.2.2+1))))) (Option.bind (appP s8.1 [(y10.1,y10.2.1,y10.2.2)]) (fun y13=>some (.inl ((y13,s8.2.1,IntKind.wrap .i64 (s8.2.2+1)))))))) (Option.map .inr (Option.bind (i_Dec (if t > 0 then t else 0)) (fun y15=>some (y15,(s.1,s8.1)))))) ([],0,0))
   (fun k t=>-9≤t∧t≤k) (-n) (s0:=(IntKind.wrap .i64 (-n),0)) (by rw [wrap64_in (by unfold inR;omega)];rfl) ⟨by omega,by omega⟩]
 ·have hb:s.2.foldl (fun t p=>if p.2.1=ByteArray.empty then t+1 else t) (-n)=(bareN s.2:Int) - n:=by
   have:∀ (l:List D_CSnap) (t:Int),l.foldl (fun t p=>if p.2.1=ByteArray.empty then t+1 else t) t=t+bareN l:=fun l=>by
    induction l with
    | nil=>intro t;show t=t+((0:Nat):Int);omega
    | cons p l ih =>
     intro t
     rw [List.foldl_cons,ih]
     unfold bareN
     by_cases hp:p.2.1=ByteArray.empty
     ·rw [if_pos hp,List.filter_cons_of_pos (by simpa using hp),List.length_cons];omega
     ·rw [if_neg hp,List.filter_cons_of_neg (by simpa using hp)]
   rw [this];omega
  rw [hb,if_pos rfl]
 ·intro k t p hx ht
  have hk:=(List.getElem?_eq_some_iff.1 hx).1
  simp only [lt_dec hk,cond_true,idx_nat,hx,Option.bind_some]
  by_cases hp:p.2.1=ByteArray.empty
  ·rw [decide_eq_true hp,cond_true,wrap64_in (by unfold inR;omega),wrap_succ (by omega),if_pos hp];exact ⟨rfl,by omega⟩
  ·rw [decide_eq_false hp,cond_false,wrap_succ (by omega),if_neg hp];exact ⟨rfl,by omega⟩
 ·intro t ht
  simp only [ge_dec,cond_false,Option.bind_some]
  congr 1
  by_cases hb:t=(bareN s.2:Int) - n
  ·rw [if_pos hb]
   subst hb
   obtain ⟨G,hG⟩:∃ G:Nat,(if (bareN s.2:Int) - n > 0 then (bareN s.2:Int) - n else 0)=(G:Int)∧G≤bareN s.2∧((bareN s.2:Int) - n≤(G:Int))∧((G:Int)=(bareN s.2:Int) - n∨G=0):=by
    by_cases hc:(bareN s.2:Int) - n > 0
    ·rw [if_pos hc];exact ⟨((bareN s.2:Int) - n).toNat,by omega,by omega,by omega,.inl (by omega)⟩
    ·rw [if_neg hc];exact ⟨0,rfl,by omega,by omega,.inr rfl⟩
   obtain ⟨hG1,hG2,hG3,hG4⟩:=hG
   rw [hG1]
   rw [loop_pass (l:=s.2) (fun k (t:Int×List D_CSnap)=>(t.2,min ((bareN s.2:Int) - t.1) (G:Int),(k:Int))) (pruneStep n) (fun t=>Option.bind (i_Dec (G:Int)) (fun y15=>some (y15,(s.1,t.2)))) (fun k t=>t.1=(bareN s.2:Int) - (bareN (s.2.take k):Int)∧(t.2.length:Int)+min ((bareN s.2:Int) - t.1) (G:Int)=(k:Int)) ((bareN s.2:Int),[]) (s0:=([],0,0))
    (by show (([]:List D_CSnap),min ((bareN s.2:Int) - (bareN s.2:Int)) (G:Int),((0:Nat):Int))=_;rw [show min ((bareN s.2:Int) - (bareN s.2:Int)) (G:Int)=0 by omega];rfl)
    ⟨by show (bareN s.2:Int)=(bareN s.2:Int) - ((0:Nat):Int);omega,by show ((0:Nat):Int)+min ((bareN s.2:Int) - (bareN s.2:Int)) (G:Int)=((0:Nat):Int);omega⟩]
   ·have hlen:s.2.length - (pruneD s.2 n).length=G:=by
     have key:∀ (k:Nat),k≤s.2.length→((s.2.take k).foldl (pruneStep n) ((bareN s.2:Int),[])).1=(bareN s.2:Int) - (bareN (s.2.take k):Int)∧((((s.2.take k).foldl (pruneStep n) ((bareN s.2:Int),[])).2.length:Nat):Int)+min ((bareN (s.2.take k):Int)) (G:Int)=(k:Int):=by
      intro k
      induction k with
      | zero=>intro _;exact ⟨by show (bareN s.2:Int)=(bareN s.2:Int) - ((0:Nat):Int);omega,by show ((0:Nat):Int)+min ((0:Nat):Int) (G:Int)=0;omega⟩
      | succ k ih =>
       intro hk
       obtain ⟨i1,i2⟩:=ih (by omega)
       have hx:s.2[k]?=some (s.2[k]'(by omega)):=List.getElem?_eq_getElem _
       generalize s.2[k]'(by omega)=p at hx
       have hbt:=bare_take hx
       rw [List.take_add_one,hx,List.foldl_append]
       rw [show s.2.take k++(some p).toList=s.2.take (k+1) by rw [List.take_add_one,hx]]
       generalize (s.2.take k).foldl (pruneStep n) ((bareN s.2:Int),[])=t at i1 i2
       show (pruneStep n t p).1=_∧(((pruneStep n t p).2.length:Nat):Int)+_=_
       have hble:=bare_le s.2 (k+1)
       by_cases hp:p.2.1=ByteArray.empty
       ·rw [if_pos hp] at hbt
        by_cases hc:n≤t.1 - 1
        ·rw [show pruneStep n t p=(t.1 - 1,t.2) by unfold pruneStep;rw [if_pos hp,if_pos hc]]
         exact ⟨by dsimp only;omega,by dsimp only;omega⟩
        ·rw [show pruneStep n t p=(t.1 - 1,t.2++[p]) by unfold pruneStep;rw [if_pos hp,if_neg hc]]
         exact ⟨by dsimp only;omega,by simp only [List.length_append,List.length_cons,List.length_nil];omega⟩
       ·rw [if_neg hp] at hbt
        rw [show pruneStep n t p=(t.1,t.2++[p]) by unfold pruneStep;rw [if_neg hp]]
        exact ⟨by dsimp only;omega,by simp only [List.length_append,List.length_cons,List.length_nil];omega⟩
     obtain ⟨_,k2⟩:=key s.2.length (Nat.le_refl _)
     rw [List.take_of_length_le (Nat.le_refl _)] at k2
     unfold pruneD
     omega
    rw [i_Dec_small G (by omega),Option.bind_some,hlen]
    rfl
   ·intro k t p hx ht
    have hk:=(List.getElem?_eq_some_iff.1 hx).1
    obtain ⟨b,a⟩:=t
    dsimp only at ht ⊢
    obtain ⟨t1,t2⟩:=ht
    have hbt:=bare_take hx
    have hble:=bare_le s.2 (k+1)
    simp only [lt_dec hk,cond_true,idx_nat,hx,Option.bind_some]
    unfold pruneStep
    by_cases hp:p.2.1=ByteArray.empty
    ·rw [if_pos hp] at hbt
     rw [decide_eq_true hp,Bool.true_and,if_pos hp]
     dsimp only
     by_cases hc:n≤b - 1
     ·rw [decide_eq_true (show min ((bareN s.2:Int) - b) (G:Int) < (G:Int) by omega),cond_true,if_pos hc,wrap64_in (by unfold inR;omega),wrap_succ (by omega)]
      refine ⟨?_,by dsimp only;omega,by dsimp only;omega⟩
      rw [show min ((bareN s.2:Int) - b) (G:Int)+1=min ((bareN s.2:Int) - (b - 1)) (G:Int) by omega]
     ·rw [decide_eq_false (show ¬ min ((bareN s.2:Int) - b) (G:Int) < (G:Int) by omega),cond_false,if_neg hc,appP_ok (by simp;omega),Option.bind_some,wrap_succ (by omega)]
      refine ⟨?_,by dsimp only;omega,by simp only [List.length_append,List.length_cons,List.length_nil];omega⟩
      rw [show min ((bareN s.2:Int) - b) (G:Int)=min ((bareN s.2:Int) - (b - 1)) (G:Int) by omega]
    ·rw [if_neg hp] at hbt
     rw [decide_eq_false hp,Bool.false_and,cond_false,if_neg hp,appP_ok (by simp;omega),Option.bind_some,wrap_succ (by omega)]
     exact ⟨rfl,by dsimp only;omega,by simp only [List.length_append,List.length_cons,List.length_nil];omega⟩
   ·intro t ht
    simp only [ge_dec,cond_false]
  ·rw [if_neg hb]
end Go.Proofs.SL
namespace Go.Proofs.SL
open Go
theorem i_create_eq {c:D_Catalog} (h:c.length≤5) (n:ByteArray):i_Catalog_create c n=some ((createD c n).2,(createD c n).1):=by
 unfold i_Catalog_create createD
 rw [i_Catalog_set_eq (by omega),Option.bind_some,firstI_any]
 cases ha:c.any (fun s=>decide (s.1=n)) with
 | true=>rfl
 | false =>
  rw [cond_false,if_neg (by simp)]
  by_cases h5:5≤c.length
  ·rw [decide_eq_true (show (c.length:Int)=5 by omega),if_pos h5];rfl
  rw [decide_eq_false (show ¬ (c.length:Int)=5 by omega),if_neg h5,cond_false]
  have hne:∀ s,s∈c→¬ s.1=n:=fun s hs e=>by
   have:=List.any_eq_false.1 ha s hs
   exact this (decide_eq_true e)
  refine whileP_is (s:=(0:Int)) (fun s:Int=>∃ k:Nat,s=(k:Int)∧k≤c.length∧insSet n c=c.take k++insSet n (c.drop k)) (fun s=>(c.length - s).toNat) ?_ ⟨0,rfl,Nat.zero_le _,rfl⟩
  rintro _ ⟨k,rfl,hk,he⟩
  by_cases hkl:k < c.length
  ·have hx:c[k]?=some c[k]:=List.getElem?_eq_getElem hkl
   have hxm:c[k]∈c:=List.getElem_mem _
   generalize c[k]=x at hx hxm
   have hg:gtN x n=!sLt x.1 n:=by unfold gtN;rw [decide_eq_false (hne x hxm)];simp
   rw [lt_dec hkl,gb_true,idx_nat,hx,Option.bind_some,Bool.true_and]
   rw [drop_cons hx] at he
   unfold insSet at he
   rw [hg] at he
   cases hs:sLt x.1 n with
   | true =>
    left
    rw [hs,Bool.not_true,if_neg (by simp)] at he
    rw [cond_true,wrap_succ (by omega)]
    refine ⟨_,rfl,⟨k+1,rfl,hkl,?_⟩,by omega⟩
    rw [List.take_add_one,hx]
    conv=>lhs;unfold insSet
    show _=(c.take k++[x])++_
    rw [List.append_assoc]
    exact he
   | false =>
    right
    rw [hs,Bool.not_false,if_pos rfl] at he
    rw [cond_false]
    unfold insP
    rw [if_pos (by omega),Option.bind_some,Int.toNat_natCast,drop_cons hx]
    conv=>rhs;unfold insSet
    have e:c.take k++[(n,([]:List D_CSnap))]++x::c.drop (k+1)=insSet n c:=by
     conv=>rhs;unfold insSet
     rw [he];simp
    rw [e]
    conv=>lhs;unfold insSet
    rfl
  ·right
   have hkk:k=c.length:=by omega
   subst hkk
   rw [ge_dec]
   simp only [gb_false,Bool.false_and,cond_false]
   rw [List.drop_of_length_le (Nat.le_refl _)] at he
   unfold insP
   rw [if_pos (by omega),Option.bind_some,Int.toNat_natCast,List.drop_of_length_le (Nat.le_refl _)]
   rw [he]
   simp [insSet]
   rfl
theorem set_self {α:Type} {l:List α} {k:Nat} {x:α} (h:l[k]?=some x):l.set k x=l:=by
 obtain ⟨h1,h2⟩:=List.getElem?_eq_some_iff.1 h
 rw [← h2,List.set_getElem_self]
theorem cmdN {m:D_Cmd} (h:cmdOkB m=true):0≤m.2.2.2.2.2.2.1∧m.2.2.2.2.2.2.1≤9:=by
 unfold cmdOkB at h
 split at h
 ·rw [pB_iff] at h
  subst h
  exact ⟨by decide,by decide⟩
 ·simp only [Bool.and_eq_true] at h
  have h7:=h.1.2
  simp only [Bool.or_eq_true,Bool.and_eq_true,decide_eq_true_eq] at h7
  omega
theorem i_CatDo_eq {c:D_Catalog} {m:D_Cmd} (hc:CBnd c) (hm:Ok.ok m):i_CatDo c m=some (catDoD c m):=by
 unfold i_CatDo catDoD
 rw [i_copyCatalog_eq hc,Option.bind_some,i_CatOk_eq hc.ok,Option.bind_some]
 by_cases hk:catOkB c=true
 case neg=>rw [Bool.eq_false_iff.2 hk];rfl
 obtain ⟨_,h5,h6⟩:=catOk_bnd hk
 rw [hk,Bool.not_true,cond_false,if_pos rfl,show i_CmdOk _=_ from i_CmdOk_eq (c:=m) hm,Option.bind_some]
 by_cases hmk:cmdOkB m=true
 case neg=>rw [Bool.eq_false_iff.2 hmk];rfl
 obtain ⟨_,_,_,hch,_⟩:=cmdOk_bnd hmk
 rw [hmk,Bool.not_true,cond_false,Bool.false_or]
 by_cases h0:m.1=0
 ·rw [decide_eq_true h0];rfl
 rw [decide_eq_false h0,cond_false,if_neg (by simp)]
 by_cases h1:m.1=1
 ·rw [decide_eq_true h1,cond_true,if_pos h1,i_create_eq h5,Option.bind_some]
 rw [decide_eq_false h1,cond_false,if_neg h1]
 by_cases h7:m.1=7
 ·rw [decide_eq_true h7,cond_true,if_pos h7,i_list_eq hc,Option.bind_some]
 rw [decide_eq_false h7,cond_false,if_neg h7,i_Catalog_set_eq (by omega),Option.bind_some]
 rcases firstI_neg (fun s:D_CSet=>decide (s.1=m.2.2.2.1)) c with ⟨e1,_,e2⟩ | ⟨a,s,e1,_,e2,e3,_⟩
 ·rw [e1,e2];rfl
 rw [e1,e2,decide_eq_false (show ¬ ((a:Int) < 0) by omega),cond_false]
 dsimp only
 rw [e3]
 have hal:=(List.getElem?_eq_some_iff.1 e3).1
 have hsm:=List.mem_of_getElem? e3
 have hs5:=h6 s hsm
 have hsp:=hc.snap s hsm
 unfold catSetD
 dsimp only
 by_cases h2:m.1=2
 ·rw [decide_eq_true h2,cond_true,if_pos h2,wrap_succ (by omega)]
  unfold delP
  rw [if_pos (by omega),Option.bind_some,List.eraseIdx_eq_take_drop_succ]
  rfl
 rw [decide_eq_false h2,cond_false,if_neg h2]
 simp only [idx_nat,e3,Option.bind_some,Int.toNat_natCast]
 by_cases h3:m.1=3
 ·rw [decide_eq_true h3,cond_true,if_pos h3,show i_CSet_commit _ _=_ from i_commit_eq (s:=s) (m:=m) hs5 (by omega),Option.bind_some]
  split
  ·rw [show (s.1,s.2)=s from rfl,set_self e3]
  ·split
   ·rw [show (s.1,s.2)=s from rfl,set_self e3]
   ·rfl
 rw [decide_eq_false h3,cond_false,if_neg h3]
 by_cases h4:m.1=4
 ·rw [decide_eq_true h4,cond_true,if_pos h4,show i_CSet_tag _ _=_ from i_tag_eq (s:=s) (m:=m) hs5,Option.bind_some]
  rcases firstI_neg (fun p:D_CSnap=>decide (p.1=m.2.2.2.2.1)) s.2 with ⟨_,_,f2⟩ | ⟨k,p,_,_,f2,f3,_⟩
  ·rw [f2]
   dsimp only
   rw [show (s.1,s.2)=s from rfl,set_self e3]
  ·rw [f2]
   dsimp only
   rw [f3]
 rw [decide_eq_false h4,cond_false,if_neg h4]
 by_cases h55:m.1=5
 ·rw [decide_eq_true h55,cond_true,if_pos h55,show i_CSet_prune _ _=_ from i_prune_eq (s:=s) hs5 (cmdN hmk),Option.bind_some]
 rw [decide_eq_false h55,cond_false,if_neg h55,show i_CSet_told _=_ from i_told_eq (s:=s) (by omega) (fun p hp=>⟨(hsp p hp).1,(hsp p hp).2.1⟩),Option.bind_some]
 rw [show (s.1,s.2)=s from rfl,set_self e3]
end Go.Proofs.SL
namespace Go.Proofs.SL
open Go
noncomputable def saidAt (l:List D_Said) (k:Nat):Bool:=match l[k]? with
 | some x=>decide (1≤x.1∧x.1≤9)&&decide (1≤x.2.1∧x.2.1≤1000)&&(decide (k=0)||(match l[k - 1]? with | some y=>decide (y.1 < x.1) | none=>false))
 | none=>false
noncomputable def saidOkB (l:List D_Said):Bool:=(List.range l.length).all (saidAt l)
noncomputable def stateOkB (s:D_State):Bool:=catOkB s.1&&saidOkB s.2
theorem saidOk_facts {l:List D_Said} (h:saidOkB l=true):(∀ x,x∈l→1≤x.1∧x.1≤9)∧l.Pairwise (fun a b=>a.1 < b.1):=by
 unfold saidOkB at h
 simp only [List.all_eq_true,List.mem_range] at h
 refine ⟨fun x hx=>?_,pairwise_of_step (R:=fun a b:D_Said=>a.1 < b.1) (fun a b c h1 h2=>by omega) l fun k hk=>?_⟩
 ·obtain ⟨k,hk⟩:=List.getElem?_of_mem hx
  have:=h k (List.getElem?_eq_some_iff.1 hk).1
  unfold saidAt at this
  rw [hk] at this
  simp only [Bool.and_eq_true,decide_eq_true_eq] at this
  exact this.1.1
 ·have:=h (k+1) hk
  unfold saidAt at this
  rw [List.getElem?_eq_getElem hk] at this
  simp only [Bool.and_eq_true,decide_eq_true_eq,Bool.or_eq_true,Nat.add_sub_cancel,List.getElem?_eq_getElem (show k < l.length by omega)] at this
  rcases this.2 with h2 | h2
  ·omega
  ·exact h2
theorem said_len {l:List D_Said} (h:saidOkB l=true):l.length≤9:=by
 obtain ⟨h1,h2⟩:=saidOk_facts h
 have:=sorted_le (l:=l.map (·.1)) (a:=1) (b:=10) (List.pairwise_map.2 h2) fun n hn=>by
  obtain ⟨x,hx,rfl⟩:=List.mem_map.1 hn
  have:=h1 x hx;omega
 rw [List.length_map] at this
 omega
theorem s_StateOk_eq {s:D_State} (hc:CBnd s.1) (hl:s.2.length≤1000):s_StateOk s=some (stateOkB s):=by
 unfold s_StateOk stateOkB saidOkB
 rw [s_CatOk_eq hc.ok,Option.bind_some]
 cases catOkB s.1 with
 | false=>rfl
 | true =>
  rw [Bool.not_true,cond_false,Bool.true_and]
  rw [whileP_all (n:=s.2.length) (saidAt s.2) (some false) (some true)]
  ·cases (List.range s.2.length).all (saidAt s.2)<;>rfl
  ·intro k hk
   have hx:s.2[k]?=some s.2[k]:=List.getElem?_eq_getElem hk
   generalize s.2[k]=x at hx
   rw [lt_dec hk,cond_true,idx_nat,hx,Option.bind_some,l1In_eq,Option.bind_some,l1In_eq,wrap_succ (by omega)]
   rcases Nat.eq_zero_or_pos k with h0 | h0
   ·subst h0
    have e:saidAt s.2 0=(decide (1≤x.1∧x.1≤9)&&decide (1≤x.2.1∧x.2.1≤1000)):=by unfold saidAt;rw [hx];simp
    rw [e,decide_eq_false (show ¬ (0:Int) < ((0:Nat):Int) by omega)]
    cases decide (1≤x.1∧x.1≤9)<;>cases decide (1≤x.2.1∧x.2.1≤1000)<;>rfl
   ·obtain ⟨y,hy1,hy2⟩:=prev_idx' hk (by omega) h0
    have e:saidAt s.2 k=(decide (1≤x.1∧x.1≤9)&&decide (1≤x.2.1∧x.2.1≤1000)&&decide (y.1 < x.1)):=by unfold saidAt;rw [hx];dsimp only;rw [hy1];simp [show ¬ k=0 by omega]
    rw [e,decide_eq_true (show (0:Int) < (k:Int) by omega),hy2]
    have e2:decide (x.1≤y.1)=!decide (y.1 < x.1):=by
     by_cases q:y.1 < x.1
     ·rw [decide_eq_true q,decide_eq_false (by omega)];rfl
     ·rw [decide_eq_false q,decide_eq_true (by omega)];rfl
    simp only [gbs,e2]
    cases decide (1≤x.1∧x.1≤9)<;>cases decide (1≤x.2.1∧x.2.1≤1000)<;>cases decide (y.1 < x.1)<;>rfl
  ·rw [ge_dec];rfl
theorem i_StateOk_eq {s:D_State} (hc:CBnd s.1) (hl:s.2.length≤1000):i_StateOk s=some (stateOkB s):=by
 unfold i_StateOk stateOkB saidOkB
 rw [i_CatOk_eq hc.ok,Option.bind_some]
 rw [whileP_all (n:=s.2.length) (saidAt s.2) (some false) (some (catOkB s.1))]
 ·cases catOkB s.1<;>cases (List.range s.2.length).all (saidAt s.2)<;>rfl
 ·intro k hk
  have hx:s.2[k]?=some s.2[k]:=List.getElem?_eq_getElem hk
  generalize s.2[k]=x at hx
  rw [lt_dec hk,cond_true,idx_nat,hx,Option.bind_some,within_eq,Option.bind_some,within_eq,wrap_succ (by omega)]
  rcases Nat.eq_zero_or_pos k with h0 | h0
  ·subst h0
   have e:saidAt s.2 0=(decide (1≤x.1∧x.1≤9)&&decide (1≤x.2.1∧x.2.1≤1000)):=by unfold saidAt;rw [hx];simp
   rw [e,decide_eq_false (show ¬ (0:Int) < ((0:Nat):Int) by omega)]
   cases decide (1≤x.1∧x.1≤9)<;>cases decide (1≤x.2.1∧x.2.1≤1000)<;>rfl
  ·obtain ⟨y,hy1,hy2⟩:=prev_idx' hk (by omega) h0
   have e:saidAt s.2 k=(decide (1≤x.1∧x.1≤9)&&decide (1≤x.2.1∧x.2.1≤1000)&&decide (y.1 < x.1)):=by unfold saidAt;rw [hx];dsimp only;rw [hy1];simp [show ¬ k=0 by omega]
   rw [e,decide_eq_true (show (0:Int) < (k:Int) by omega),hy2]
   have e2:decide (x.1≤y.1)=!decide (y.1 < x.1):=by
    by_cases q:y.1 < x.1
    ·rw [decide_eq_true q,decide_eq_false (by omega)];rfl
    ·rw [decide_eq_false q,decide_eq_true (by omega)];rfl
   simp only [gbs,e2]
   cases decide (1≤x.1∧x.1≤9)<;>cases decide (1≤x.2.1∧x.2.1≤1000)<;>cases decide (y.1 < x.1)<;>rfl
 ·rw [ge_dec];rfl
def putS (x:D_Said):List D_Said→List D_Said
 | []=>[x]
 | y::ys=>if y.1 < x.1 then y::putS x ys else if y.1=x.1 then x::ys else x::y::ys
theorem putS_cons (x y:D_Said) (ys:List D_Said):putS x (y::ys)=if y.1 < x.1 then y::putS x ys else if y.1=x.1 then x::ys else x::y::ys:=rfl
theorem putS_len (x:D_Said):∀ l:List D_Said,(putS x l).length≤l.length+1
 | []=>Nat.le_refl _
 | y::ys=>by
  unfold putS
  have:=putS_len x ys
  split
  ·simp only [List.length_cons];omega
  ·split<;>simp
theorem s_l16Put_eq {l:List D_Said} (x:D_Said) (hl:l.length≤1000) (hp:l.Pairwise (fun a b=>a.1 < b.1)):s_l16Put l x=some (putS x l):=by
 unfold s_l16Put
 rw [Option.bind_some]
 refine whileP_is (s:=(([]:List D_Said),false,(0:Int))) (fun s:List D_Said×Bool×Int=>∃ k:Nat,s.2.2=(k:Int)∧k≤l.length∧s.1.length≤k+1∧((s.2.1=false∧s.1.length≤k∧s.1++putS x (l.drop k)=putS x l)∨(s.2.1=true∧(∀ y,y∈l.drop k→¬ y.1=x.1)∧s.1++l.drop k=putS x l))) (fun s=>(l.length - s.2.2).toNat) ?_ ⟨0,rfl,Nat.zero_le _,by simp,.inl ⟨rfl,by simp,rfl⟩⟩
 rintro ⟨o,b,k'⟩ ⟨k,g1,hk,hol,hc⟩
 dsimp only at g1 hol hc ⊢
 subst g1
 by_cases hkl:k < l.length
 ·left
  have hx:l[k]?=some l[k]:=List.getElem?_eq_getElem hkl
  generalize l[k]=y at hx
  have hd:=drop_cons hx
  rw [hd] at hc
  have hlt:∀ z,z∈l.drop (k+1)→y.1 < z.1:=fun z hz=>by
   have:=hp.sublist (List.drop_sublist k l)
   rw [hd] at this
   exact (List.pairwise_cons.1 this).1 z hz
  have w1:IntKind.wrap .i64 ((k:Int)+1)=((k+1:Nat):Int):=wrap_succ (by omega)
  rw [lt_dec hkl,cond_true,idx_nat,hx,w1]
  rcases hc with ⟨rfl,ho2,he⟩ | ⟨rfl,hne,he⟩
  ·simp only [Bool.not_false,gb_true,Option.bind_some,Bool.true_and]
   rw [putS_cons] at he
   by_cases h1:y.1 < x.1
   ·rw [if_pos h1] at he
    rw [decide_eq_false (show ¬ x.1≤y.1 by omega),cond_false]
    show ∃ s',cond (!decide (y.1=x.1)) _ _=_∧_
    rw [decide_eq_false (show ¬ y.1=x.1 by omega),Bool.not_false,cond_true,appP_ok (by simp;omega),Option.bind_some]
    refine ⟨_,rfl,⟨k+1,rfl,hkl,by simp;omega,.inl ⟨rfl,by simp;omega,?_⟩⟩,by dsimp only;omega⟩
    dsimp only
    rw [List.append_assoc]
    refine Eq.trans ?_ he
    rfl
   ·rw [if_neg h1] at he
    rw [decide_eq_true (show x.1≤y.1 by omega),cond_true,appP_ok (by simp;omega),Option.bind_some]
    show ∃ s',cond (!decide (y.1=x.1)) _ _=_∧_
    by_cases h2:y.1=x.1
    ·rw [if_pos h2] at he
     rw [decide_eq_true h2,Bool.not_true,cond_false]
     refine ⟨_,rfl,⟨k+1,rfl,hkl,by simp;omega,.inr ⟨rfl,fun z hz=>by have:=hlt z hz;omega,?_⟩⟩,by dsimp only;omega⟩
     dsimp only
     rw [List.append_assoc]
     refine Eq.trans ?_ he
     rfl
    ·rw [if_neg h2] at he
     rw [decide_eq_false h2,Bool.not_false,cond_true,appP_ok (by simp;omega),Option.bind_some]
     refine ⟨_,rfl,⟨k+1,rfl,hkl,by simp;omega,.inr ⟨rfl,fun z hz=>by have:=hlt z hz;omega,?_⟩⟩,by dsimp only;omega⟩
     dsimp only
     rw [List.append_assoc,List.append_assoc]
     refine Eq.trans ?_ he
     rfl
  ·simp only [Bool.not_true,gb_false,Bool.false_and,cond_false]
   show ∃ s',cond (!decide (y.1=x.1)) _ _=_∧_
   rw [decide_eq_false (hne y (List.mem_cons_self ..)),Bool.not_false,cond_true,Option.bind_some]
   dsimp only
   rw [appP_ok (by simp;omega),Option.bind_some]
   refine ⟨_,rfl,⟨k+1,rfl,hkl,by simp;omega,.inr ⟨rfl,fun z hz=>hne z (List.mem_cons_of_mem _ hz),?_⟩⟩,by dsimp only;omega⟩
   dsimp only
   rw [List.append_assoc]
   refine Eq.trans ?_ he
   rfl
 ·right
  have hkk:k=l.length:=by omega
  subst hkk
  rw [ge_dec,cond_false]
  rw [List.drop_of_length_le (Nat.le_refl _)] at hc
  rcases hc with ⟨rfl,_,he⟩ | ⟨rfl,_,he⟩
  ·rw [Bool.not_false,cond_true,appP_ok (by simp;omega),Option.bind_some]
   have he':o++[x]=putS x l:=he
   rw [show [(x.1,x.2.1,x.2.2)]=[x] from rfl,he'];rfl
  ·rw [Bool.not_true,cond_false]
   rw [List.append_nil] at he
   rw [he];rfl
theorem putS_split (x:D_Said):∀ (l:List D_Said) (k:Nat) (y:D_Said),(∀ z,z∈l.take k→z.1 < x.1)→l[k]?=some y→x.1≤y.1→putS x l=l.take k++(if y.1=x.1 then x::l.drop (k+1) else x::l.drop k)
 | [],k,y,_,h,_=>by simp at h
 | z::l,0,y,_,h,hy=>by
  simp only [List.getElem?_cons_zero,Option.some.injEq] at h
  subst h
  unfold putS
  rw [if_neg (by omega)]
  split<;>simp
 | z::l,k+1,y,ht,h,hy=>by
  unfold putS
  rw [if_pos (ht z (by simp))]
  rw [putS_split x l k y (fun q hq=>ht q (by simp [hq])) (by simpa using h) hy]
  simp
theorem putS_all (x:D_Said):∀ (l:List D_Said),(∀ z,z∈l→z.1 < x.1)→putS x l=l++[x]
 | [],_=>rfl
 | z::l,ht=>by
  unfold putS
  rw [if_pos (ht z (List.mem_cons_self ..)),putS_all x l fun q hq=>ht q (List.mem_cons_of_mem _ hq)];rfl
def findS (l:List D_Said) (c:Int):Option D_Said:=l.find? fun y=>decide (y.1=c)
theorem findS_of {l:List D_Said} (hp:l.Pairwise (fun a b=>a.1 < b.1)) {y:D_Said} (hy:y∈l) {c:Int} (hc:y.1=c):findS l c=some y:=by
 unfold findS
 cases hf:l.find? (fun y=>decide (y.1=c)) with
 | none=>have:=List.find?_eq_none.1 hf y hy;simp [hc] at this
 | some z =>
  have h1:=List.mem_of_find?_eq_some hf
  have h2:z.1=c:=by have:=List.find?_some hf;simpa using this
  obtain ⟨i,hi⟩:=List.getElem?_of_mem h1
  obtain ⟨j,hj⟩:=List.getElem?_of_mem hy
  obtain ⟨i1,i2⟩:=List.getElem?_eq_some_iff.1 hi
  obtain ⟨j1,j2⟩:=List.getElem?_eq_some_iff.1 hj
  have hij:i=j:=by
   rcases Nat.lt_trichotomy i j with q | q | q
   ·have:=List.pairwise_iff_getElem.1 hp i j i1 j1 q
    rw [i2,j2] at this;omega
   ·exact q
   ·have:=List.pairwise_iff_getElem.1 hp j i j1 i1 q
    rw [i2,j2] at this;omega
  subst hij
  rw [← i2,← j2]
end Go.Proofs.SL
namespace Go.Proofs.SL
open Go
def tOld:ByteArray:=ByteArray.mk #[111,108,100]
noncomputable def doIt (s:D_State) (m:D_Cmd):D_State×ByteArray:=(((catDoD s.1 m).1,putS (m.2.1,m.2.2.1,(catDoD s.1 m).2) s.2),(catDoD s.1 m).2)
noncomputable def stateDoD (s:D_State) (m:D_Cmd):D_State×ByteArray :=
 if stateOkB s then (if !cmdOkB m||decide (m.1=0) then (s,ByteArray.empty) else match findS s.2 m.2.1 with
  | some x=>if x.2.1=m.2.2.1 then (s,x.2.2) else if m.2.2.1 < x.2.1 then (s,tOld) else doIt s m
  | none=>doIt s m) else (([],[]),ByteArray.empty)
structure SB (s:D_State):Prop where
 cat:CBnd s.1
 said:s.2.length≤10
theorem SB.nil:SB ([],[]):=⟨bnd_nil,by decide⟩
theorem stateDo_SB {s:D_State} (h:SB s) (m:D_Cmd):SB (stateDoD s m).1:=by
 unfold stateDoD
 split
 ·rename_i hk
  unfold stateOkB at hk
  rw [Bool.and_eq_true] at hk
  have h9:=said_len hk.2
  have hd:SB (doIt s m).1:=⟨catDo_bnd s.1 m,by
   have:=putS_len (m.2.1,m.2.2.1,(catDoD s.1 m).2) s.2
   show (putS _ s.2).length≤10
   omega⟩
  split
  ·exact h
  ·split
   ·split
    ·exact h
    ·split
     ·exact h
     ·exact hd
   ·exact hd
 ·exact SB.nil
theorem s_StateDo_eq {s:D_State} {m:D_Cmd} (h:SB s) (hm:Ok.ok m):s_StateDo s m=some (stateDoD s m):=by
 have h10:=h.said
 unfold s_StateDo stateDoD
 rw [show s_StateOk _=_ from s_StateOk_eq (s:=s) h.cat (by omega),Option.bind_some]
 by_cases hk:stateOkB s=true
 case neg=>rw [Bool.eq_false_iff.2 hk];rfl
 have hk2:=hk
 unfold stateOkB at hk2
 rw [Bool.and_eq_true] at hk2
 obtain ⟨_,hpw⟩:=saidOk_facts hk2.2
 rw [hk,Bool.not_true,cond_false,if_pos rfl]
 unfold s_l16Copy
 rw [s_l15Copy_eq h.cat,Option.bind_some,Option.bind_some,appP_ok (by simp;omega),Option.bind_some,Option.bind_some,show s_CmdOk _=_ from s_CmdOk_eq (c:=m) hm,Option.bind_some]
 rw [show ([]:List D_Said)++s.2=s.2 from rfl]
 by_cases hmk:(!cmdOkB m||decide (m.1=0))=true
 ·rw [hmk,cond_true,if_pos rfl]
 rw [Bool.eq_false_iff.2 hmk,cond_false,if_neg (by simp)]
 refine whileP_is (s:=(0:Int)) (fun z:Int=>∃ k:Nat,z=(k:Int)∧k≤s.2.length∧∀ y,y∈s.2.take k→y.1=m.2.1→y.2.1 < m.2.2.1) (fun z=>(s.2.length - z).toNat) ?_ ⟨0,rfl,Nat.zero_le _,fun y hy=>by simp at hy⟩
 rintro _ ⟨k,rfl,hkl,hI⟩
 by_cases hkl2:k < s.2.length
 ·have hx:s.2[k]?=some s.2[k]:=List.getElem?_eq_getElem hkl2
  have hxm:s.2[k]∈s.2:=List.getElem_mem _
  generalize s.2[k]=y at hx hxm
  rw [lt_dec hkl2,cond_true,idx_nat,hx,Option.bind_some,wrap_succ (by omega)]
  have hI2:(y.1=m.2.1→y.2.1 < m.2.2.1)→∀ z,z∈s.2.take (k+1)→z.1=m.2.1→z.2.1 < m.2.2.1:=fun hy z hz=>by
   rw [List.take_add_one,hx] at hz
   rcases List.mem_append.1 hz with hz | hz
   ·exact hI z hz
   ·rw [List.mem_singleton.1 hz];exact hy
  by_cases h1:y.1=m.2.1
  ·rw [decide_eq_true h1,Bool.not_true,cond_false,Option.bind_some,findS_of hpw hxm h1]
   dsimp only
   by_cases h2:y.2.1=m.2.2.1
   ·right
    rw [decide_eq_true h2,cond_true,if_pos h2];rfl
   rw [decide_eq_false h2,cond_false,if_neg h2,Option.bind_some]
   by_cases h3:m.2.2.1 < y.2.1
   ·right
    rw [decide_eq_true h3,cond_true,if_pos h3];rfl
   ·left
    rw [decide_eq_false h3,cond_false]
    exact ⟨_,rfl,⟨k+1,rfl,hkl2,hI2 fun _=>by omega⟩,by omega⟩
  ·left
   rw [decide_eq_false h1,Bool.not_false,cond_true]
   exact ⟨_,rfl,⟨k+1,rfl,hkl2,hI2 fun e=>(h1 e).elim⟩,by omega⟩
 ·right
  have:k=s.2.length:=by omega
  subst this
  rw [List.take_of_length_le (Nat.le_refl _)] at hI
  rw [ge_dec,cond_false,show s_CatDo _ _=_ from s_CatDo_eq (c:=s.1) (m:=m) h.cat.ok hm,Option.bind_some,s_l16Put_eq _ (by omega) hpw,Option.bind_some]
  cases hf:findS s.2 m.2.1 with
  | none=>rfl
  | some y =>
   have h1:=List.mem_of_find?_eq_some hf
   have h2:y.1=m.2.1:=by have:=List.find?_some hf;simpa using this
   have:=hI y h1 h2
   dsimp only
   rw [if_neg (by omega),if_neg (by omega)]
   rfl
theorem i_StateDo_eq {s:D_State} {m:D_Cmd} (h:SB s) (hm:Ok.ok m):i_StateDo s m=some (stateDoD s m):=by
 have h10:=h.said
 unfold i_StateDo stateDoD
 unfold i_copyState
 rw [i_copyCatalog_eq h.cat,Option.bind_some,appP_ok (by simp;omega),Option.bind_some,Option.bind_some,show i_StateOk _=_ from i_StateOk_eq (s:=s) h.cat (by omega),Option.bind_some]
 rw [show ([]:List D_Said)++s.2=s.2 from rfl]
 by_cases hk:stateOkB s=true
 case neg=>rw [Bool.eq_false_iff.2 hk];rfl
 have hk2:=hk
 unfold stateOkB at hk2
 rw [Bool.and_eq_true] at hk2
 obtain ⟨_,hpw⟩:=saidOk_facts hk2.2
 rw [hk,Bool.not_true,cond_false,if_pos rfl,show i_CmdOk _=_ from i_CmdOk_eq (c:=m) hm,Option.bind_some]
 by_cases hmk:(!cmdOkB m||decide (m.1=0))=true
 ·rw [hmk,cond_true,if_pos rfl]
 rw [Bool.eq_false_iff.2 hmk,cond_false,if_neg (by simp)]
 have hix:sl_IndexFunc_implSaidimplSaid s.2 (fun z0=>i_StateDo_c1 z0 (m.1,m.2.1,m.2.2.1,m.2.2.2.1,m.2.2.2.2.1,m.2.2.2.2.2.1,m.2.2.2.2.2.2.1,m.2.2.2.2.2.2.2))=some (firstI (fun y:D_Said=>decide (m.2.1≤y.1)) s.2):=by
  unfold sl_IndexFunc_implSaidimplSaid i_StateDo_c1
  rw [whileP_find (l:=s.2) (fun y:D_Said=>decide (m.2.1≤y.1)) some (by omega)]
  ·intro k x hx
   simp only [lt_dec (List.getElem?_eq_some_iff.1 hx).1,cond_true,idx_nat,hx,Option.bind_some]
   cases decide (m.2.1≤x.1)<;>rfl
  ·simp only [ge_dec];rfl
 rw [hix,Option.bind_some]
 rcases Gr.findIdx_find (fun y:D_Said=>decide (m.2.1≤y.1)) s.2 with ⟨e1,_⟩ | ⟨k,y,e1,e2,e3⟩
 ·rw [firstI_none e1]
  have hall:∀ z,z∈s.2→z.1 < m.2.1:=fun z hz=>by
   have:=List.findIdx?_eq_none_iff.1 e1 z hz
   simp only [decide_eq_false_iff_not] at this;omega
  have hf:findS s.2 m.2.1=none:=List.find?_eq_none.2 fun z hz=>by have:=hall z hz;simp;omega
  rw [hf]
  have d1:decide ((0:Int)≤-1)=false:=rfl
  simp only [d1,Bool.false_and,gb_false,cond_false]
  rw [show i_CatDo _ _=_ from i_CatDo_eq (c:=s.1) (m:=m) h.cat hm,Option.bind_some,appP_ok (by simp;omega),Option.bind_some]
  unfold doIt
  rw [putS_all _ s.2 hall]
 ·rw [firstI_some e1]
  have hy:m.2.1≤y.1:=by have:=List.find?_some e3;simpa using this
  have hym:=List.mem_of_getElem? e2
  have hlt:∀ z,z∈s.2.take k→z.1 < m.2.1:=fun z hz=>by
   obtain ⟨j,hj⟩:=List.getElem?_of_mem hz
   have hjk:j < k:=by have:=(List.getElem?_eq_some_iff.1 hj).1;rw [List.length_take] at this;omega
   obtain ⟨f1,f2,f3⟩:=List.findIdx?_eq_some_iff_getElem.1 e1
   rw [List.getElem?_take,if_pos hjk] at hj
   obtain ⟨j1,j2⟩:=List.getElem?_eq_some_iff.1 hj
   have:=f3 j hjk
   rw [j2] at this
   simp only [decide_eq_true_eq] at this;omega
  have hkl:=(List.getElem?_eq_some_iff.1 e2).1
  have d1:decide ((0:Int)≤(k:Int))=true:=decide_eq_true (by omega)
  simp only [d1,gb_true,Bool.true_and,idx_nat,e2,Option.bind_some]
  have hp:=putS_split (m.2.1,m.2.2.1,(catDoD s.1 m).2) s.2 k y hlt e2 hy
  by_cases h1:y.1=m.2.1
  ·rw [findS_of hpw hym h1]
   rw [if_pos h1] at hp
   simp only [decide_eq_true h1,gb_true,Bool.true_and,Option.bind_some]
   by_cases h2:y.2.1=m.2.2.1
   ·rw [decide_eq_true h2,cond_true,if_pos h2]
   rw [decide_eq_false h2,cond_false,if_neg h2]
   by_cases h3:m.2.2.1 < y.2.1
   ·rw [decide_eq_true h3,cond_true,if_pos h3];rfl
   rw [decide_eq_false h3,cond_false,if_neg h3,show i_CatDo _ _=_ from i_CatDo_eq (c:=s.1) (m:=m) h.cat hm,Option.bind_some,cond_true,Int.toNat_natCast]
   unfold doIt
   rw [hp,List.set_eq_take_append_cons_drop,if_pos hkl]
  ·rw [if_neg h1] at hp
   have hf:findS s.2 m.2.1=none:=List.find?_eq_none.2 fun z hz=>by
    rw [decide_eq_true_eq]
    intro e
    obtain ⟨j,hj⟩:=List.getElem?_of_mem hz
    obtain ⟨j1,j2⟩:=List.getElem?_eq_some_iff.1 hj
    obtain ⟨y1,y2⟩:=List.getElem?_eq_some_iff.1 e2
    rcases Nat.lt_trichotomy j k with q | q | q
    ·have:=hlt z (List.mem_of_getElem? (i:=j) (by rw [List.getElem?_take,if_pos q];exact hj));omega
    ·subst q;rw [hj] at e2;cases e2;exact h1 e
    ·have:=List.pairwise_iff_getElem.1 hpw k j y1 j1 q
     rw [j2,y2] at this;omega
   rw [hf]
   simp only [decide_eq_false h1,gb_false,Bool.false_and,cond_false]
   rw [show i_CatDo _ _=_ from i_CatDo_eq (c:=s.1) (m:=m) h.cat hm,Option.bind_some,cond_true]
   unfold insP doIt
   rw [if_pos (by omega),Option.bind_some,Int.toNat_natCast,hp]
   simp
noncomputable def playStep (t:D_State×List ByteArray) (m:D_Cmd):D_State×List ByteArray:=((stateDoD t.1 m).1,t.2++[(stateDoD t.1 m).2])
noncomputable def statePlayD (l:List D_Cmd):D_State×List ByteArray:=l.foldl playStep (([],[]),[])
theorem s_StatePlay_eq {l:List D_Cmd} (h:l.length≤1000) (hm:∀ m,m∈l→Ok.ok m):s_StatePlay l=some (statePlayD l):=by
 unfold s_StatePlay statePlayD
 rw [Option.bind_some]
 rw [loop_pass (l:=l) (fun k (t:D_State×List ByteArray)=>(t.2,(k:Int),t.1.1,t.1.2)) playStep some (fun k t=>SB t.1∧t.2.length=k) (([],[]),[]) (s0:=([],0,[],[])) rfl ⟨SB.nil,rfl⟩]
 ·intro k t m hmk ht
  have hk:=(List.getElem?_eq_some_iff.1 hmk).1
  simp only [lt_dec hk,cond_true,idx_nat,hmk,Option.bind_some]
  rw [show s_StateDo _ _=_ from s_StateDo_eq (s:=t.1) (m:=m) ht.1 (hm m (List.mem_of_getElem? hmk)),Option.bind_some,appP_ok (by simp;omega),Option.bind_some,wrap_succ (by omega)]
  exact ⟨rfl,stateDo_SB ht.1 m,by unfold playStep;simp;omega⟩
 ·intro t ht
  simp only [ge_dec,cond_false]
theorem i_StatePlay_eq {l:List D_Cmd} (h:l.length≤1000) (hm:∀ m,m∈l→Ok.ok m):i_StatePlay l=some (statePlayD l):=by
 unfold i_StatePlay statePlayD
 rw [Option.bind_some]
 rw [loop_pass (l:=l) (fun k (t:D_State×List ByteArray)=>(t.2,(k:Int),t.1.1,t.1.2)) playStep some (fun k t=>SB t.1∧t.2.length=k) (([],[]),[]) (s0:=([],0,[],[])) rfl ⟨SB.nil,rfl⟩]
 ·intro k t m hmk ht
  have hk:=(List.getElem?_eq_some_iff.1 hmk).1
  simp only [lt_dec hk,cond_true,idx_nat,hmk,Option.bind_some]
  rw [show i_StateDo _ _=_ from i_StateDo_eq (s:=t.1) (m:=m) ht.1 (hm m (List.mem_of_getElem? hmk)),Option.bind_some,appP_ok (by simp;omega),Option.bind_some,wrap_succ (by omega)]
  exact ⟨rfl,stateDo_SB ht.1 m,by unfold playStep;simp;omega⟩
 ·intro t ht
  simp only [ge_dec,cond_false]
theorem play_facts:∀ (l:List D_Cmd) (t:D_State×List ByteArray),SB t.1→SB (l.foldl playStep t).1∧(l.foldl playStep t).2.length=t.2.length+l.length
 | [],t,h=>⟨h,by simp⟩
 | m::l,t,h=>by
  obtain ⟨h1,h2⟩:=play_facts l (playStep t m) (stateDo_SB h m)
  refine ⟨h1,?_⟩
  rw [List.foldl_cons,h2]
  unfold playStep
  simp;omega
theorem statePlay_facts (l:List D_Cmd):SB (statePlayD l).1∧(statePlayD l).2.length=l.length:=by
 have:=play_facts l (([],[]),[]) SB.nil
 unfold statePlayD
 simpa using this
noncomputable def cmdsI (l:List D_Inst):List D_Cmd:=((ordI l).map fun x=>(atI l x).2.2.2.2.1).filter fun m=>!decide (m.1=0)
theorem cmds_len (l:List D_Inst):(cmdsI l).length≤324:=by
 have h1:=List.length_filter_le (fun m:D_Cmd=>!decide (m.1=0)) ((ordI l).map fun x=>(atI l x).2.2.2.2.1)
 rw [List.length_map] at h1
 have:=(ord_nodup l).2
 unfold cmdsI
 omega
theorem at_ok {l:List D_Inst} (ho:Ok.ok l) (x:D_Id):Ok.ok (atI l x).2.2.2.2.1:=by
 unfold atI
 cases hg:getI l x with
 | none=>refine ⟨?_,?_,?_,Nat.zero_le _,Nat.zero_le _,Nat.zero_le _,?_,Nat.zero_le _,fun y hy=>(by cases hy)⟩<;>(show inR 0;unfold inR;omega)
 | some y=>exact (ho.2 y (getI_some hg).1).2.2.2.2.1
theorem cmds_ok {l:List D_Inst} (ho:Ok.ok l):∀ m,m∈cmdsI l→Ok.ok m:=fun m hm=>by
 obtain ⟨x,_,rfl⟩:=List.mem_map.1 (List.mem_filter.1 hm).1
 exact at_ok ho x
theorem foldl_fm {α β:Type} (g:β→α) (p:α→Bool):∀ (xs:List β) (acc:List α),xs.foldl (fun t x=>if p (g x) then t++[g x] else t) acc=acc++(xs.map g).filter p
 | [],acc=>by simp
 | x::xs,acc=>by
  rw [List.foldl_cons,foldl_fm g p xs,List.map_cons]
  cases h:p (g x) with
  | true=>rw [if_pos rfl,List.filter_cons_of_pos h];simp
  | false=>rw [if_neg (by simp),List.filter_cons_of_neg (by simp [h])]
theorem s_ExecCmds_eq {l:List D_Inst} (ho:Ok.ok l) (hl:l.length≤1048576) (hs:smallL l):s_ExecCmds l=some (cmdsI l):=by
 unfold s_ExecCmds
 obtain ⟨_,h3⟩:=ord_nodup l
 rw [Option.bind_some,s_ExecOrder_eq ho,Option.bind_some]
 rw [loop_pass (l:=ordI l) (fun k (t:List D_Cmd)=>(t,(k:Int))) (fun t x=>if !decide ((atI l x).2.2.2.2.1.1=0) then t++[(atI l x).2.2.2.2.1] else t) some (fun k t=>t.length≤k) [] (s0:=([],0)) rfl (Nat.le_refl _)]
 ·rw [foldl_fm (fun x=>(atI l x).2.2.2.2.1) (fun m:D_Cmd=>!decide (m.1=0))];rfl
 ·intro k t x hx ht
  have hk:=(List.getElem?_eq_some_iff.1 hx).1
  simp only [lt_dec hk,cond_true,idx_nat,hx,Option.bind_some]
  rw [s_InstAt_eq hl hs x,Option.bind_some,wrap_succ (by omega)]
  cases hc:(!decide ((atI l x).2.2.2.2.1.1=0)) with
  | true=>rw [cond_true,appP_ok (by simp;omega),Option.bind_some,if_pos rfl];exact ⟨rfl,by simp;omega⟩
  | false=>rw [cond_false,if_neg (by simp)];exact ⟨rfl,by omega⟩
 ·intro t ht
  simp only [ge_dec,cond_false]
theorem i_ExecCmds_eq {l:List D_Inst} (ho:Ok.ok l) (hl:l.length≤1048576) (hs:smallL l):i_ExecCmds l=some (cmdsI l):=by
 unfold i_ExecCmds
 obtain ⟨_,h3⟩:=ord_nodup l
 rw [Option.bind_some,i_ExecOrder_eq ho hs,Option.bind_some]
 rw [loop_pass (l:=ordI l) (fun k (t:List D_Cmd)=>(t,(k:Int))) (fun t x=>if !decide ((atI l x).2.2.2.2.1.1=0) then t++[(atI l x).2.2.2.2.1] else t) some (fun k t=>t.length≤k) [] (s0:=([],0)) rfl (Nat.le_refl _)]
 ·rw [foldl_fm (fun x=>(atI l x).2.2.2.2.1) (fun m:D_Cmd=>!decide (m.1=0))];rfl
 ·intro k t x hx ht
  have hk:=(List.getElem?_eq_some_iff.1 hx).1
  simp only [lt_dec hk,cond_true,idx_nat,hx,Option.bind_some]
  rw [i_InstAt_eq hl hs x,Option.bind_some,wrap_succ (by omega)]
  cases hc:(!decide ((atI l x).2.2.2.2.1.1=0)) with
  | true=>rw [cond_true,appP_ok (by simp;omega),Option.bind_some,if_pos rfl];exact ⟨rfl,by simp;omega⟩
  | false=>rw [cond_false,if_neg (by simp)];exact ⟨rfl,by omega⟩
 ·intro t ht
  simp only [ge_dec,cond_false]
def smallE (d:D_ENode):Prop:=d.2.2.1.length≤1048576∧smallL d.2.2.1
noncomputable def answersD (d:D_ENode):List D_Said:=if nodeOkB d then List.zipWith (fun (m:D_Cmd) t=>(m.2.1,m.2.2.1,t)) (cmdsI d.2.2.1) (statePlayD (cmdsI d.2.2.1)).2 else []
theorem zip_take {l:List D_Cmd} {r:List ByteArray} (h:r.length=l.length) {k:Nat} {m:D_Cmd} {t:ByteArray} (hm:l[k]?=some m) (ht:r[k]?=some t):(List.zipWith (fun (m:D_Cmd) t=>((m.2.1,m.2.2.1,t):D_Said)) l r).take (k+1)=(List.zipWith (fun (m:D_Cmd) t=>((m.2.1,m.2.2.1,t):D_Said)) l r).take k++[(m.2.1,m.2.2.1,t)]:=by
 rw [List.take_add_one,List.getElem?_zipWith,hm,ht];rfl
theorem s_Answers_eq {d:D_ENode} (ho:Ok.ok d) (hs:smallE d):s_Answers d=some (answersD d):=by
 unfold s_Answers answersD
 rw [Option.bind_some,show s_ENodeOk _=_ from s_ENodeOk_eq (d:=d) ho,Option.bind_some]
 by_cases hk:nodeOkB d=true
 case neg=>rw [Bool.eq_false_iff.2 hk];rfl
 have hl:=cmds_len d.2.2.1
 obtain ⟨_,hr⟩:=statePlay_facts (cmdsI d.2.2.1)
 rw [hk,Bool.not_true,cond_false,if_pos rfl,s_ExecCmds_eq ho.2.2.1 hs.1 hs.2,Option.bind_some,s_StatePlay_eq (by omega) (cmds_ok ho.2.2.1),Option.bind_some]
 generalize cmdsI d.2.2.1=l at hl hr
 generalize (statePlayD l).2=r at hr
 refine whileP_is (s:=(([]:List D_Said),(0:Int))) (fun s:List D_Said×Int=>∃ k:Nat,s.2=(k:Int)∧k≤l.length∧s.1.length≤k∧s.1=(List.zipWith (fun (m:D_Cmd) t=>(m.2.1,m.2.2.1,t)) l r).take k) (fun s=>(l.length - s.2).toNat) ?_ ⟨0,rfl,Nat.zero_le _,Nat.le_refl _,by simp⟩
 rintro ⟨o,k'⟩ ⟨k,g1,hkl,hol,he⟩
 dsimp only at g1 hol he ⊢
 subst g1
 by_cases hkl2:k < l.length
 ·left
  have hx:l[k]?=some l[k]:=List.getElem?_eq_getElem hkl2
  have hy:r[k]?=some (r[k]'(by omega)):=List.getElem?_eq_getElem _
  generalize l[k]=m at hx
  generalize r[k]'(by omega)=t at hy
  rw [lt_dec hkl2,cond_true,idx_nat,hx,Option.bind_some,Option.bind_some,idx_nat,hy,Option.bind_some,appP_ok (by simp;omega),Option.bind_some,wrap_succ (by omega)]
  exact ⟨_,rfl,⟨k+1,rfl,hkl2,by simp;omega,by dsimp only;rw [zip_take hr hx hy,← he]⟩,by dsimp only;omega⟩
 ·right
  rw [decide_eq_false (by omega),cond_false,he,List.take_of_length_le (by rw [List.length_zipWith];omega)];rfl
theorem i_Answers_eq {d:D_ENode} (ho:Ok.ok d) (hs:smallE d):i_Answers d=some (answersD d):=by
 unfold i_Answers answersD
 rw [show i_ENodeOk _=_ from i_ENodeOk_eq (d:=d) ho,Option.bind_some]
 by_cases hk:nodeOkB d=true
 case neg=>rw [Bool.eq_false_iff.2 hk];rfl
 have hl:=cmds_len d.2.2.1
 obtain ⟨_,hr⟩:=statePlay_facts (cmdsI d.2.2.1)
 rw [hk,Bool.not_true,cond_false,if_pos rfl,i_ExecCmds_eq ho.2.2.1 hs.1 hs.2,Option.bind_some,i_StatePlay_eq (by omega) (cmds_ok ho.2.2.1),Option.bind_some,Option.bind_some]
 generalize cmdsI d.2.2.1=l at hl hr
 generalize (statePlayD l).2=r at hr
 refine whileP_is (s:=(([]:List D_Said),(0:Int))) (fun s:List D_Said×Int=>∃ k:Nat,s.2=(k:Int)∧k≤l.length∧s.1.length≤k∧s.1=(List.zipWith (fun (m:D_Cmd) t=>(m.2.1,m.2.2.1,t)) l r).take k) (fun s=>(l.length - s.2).toNat) ?_ ⟨0,rfl,Nat.zero_le _,Nat.le_refl _,by simp⟩
 rintro ⟨o,k'⟩ ⟨k,g1,hkl,hol,he⟩
 dsimp only at g1 hol he ⊢
 subst g1
 by_cases hkl2:k < l.length
 ·left
  have hx:l[k]?=some l[k]:=List.getElem?_eq_getElem hkl2
  have hy:r[k]?=some (r[k]'(by omega)):=List.getElem?_eq_getElem _
  generalize l[k]=m at hx
  generalize r[k]'(by omega)=t at hy
  rw [lt_dec hkl2,cond_true,idx_nat,hx,Option.bind_some,idx_nat,hy,Option.bind_some,appP_ok (by simp;omega),Option.bind_some,wrap_succ (by omega)]
  exact ⟨_,rfl,⟨k+1,rfl,hkl2,by simp;omega,by dsimp only;rw [zip_take hr hx hy,← he]⟩,by dsimp only;omega⟩
 ·right
  rw [decide_eq_false (by omega),cond_false,he,List.take_of_length_le (by rw [List.length_zipWith];omega)];rfl
end Go.Proofs.SL
namespace Go.Proofs.SL
open Go
theorem read_size:∀ (l:List D_CSnap) (t:Bool×ByteArray),(∀ p,p∈l→p.1.size≤8∧p.2.1.size≤8)→(l.foldl readStep t).2.size≤t.2.size+18*l.length
 | [],t,_=>by simp
 | p::l,t,h=>by
  have h1:=read_size l (readStep t p) fun q hq=>h q (List.mem_cons_of_mem _ hq)
  have h2:=h p (List.mem_cons_self ..)
  rw [List.foldl_cons]
  have h3:(readStep t p).2.size≤t.2.size+18:=by
   unfold readStep
   split<;>simp only [ByteArray.size_append,sz_sp,sz_col]<;>omega
  simp only [List.length_cons]
  omega
theorem list_size:∀ (l:List D_CSet) (t:Bool×ByteArray),(∀ s,s∈l→s.1.size≤8)→(l.foldl listStep t).2.size≤t.2.size+9*l.length
 | [],t,_=>by simp
 | p::l,t,h=>by
  have h1:=list_size l (listStep t p) fun q hq=>h q (List.mem_cons_of_mem _ hq)
  have h2:=h p (List.mem_cons_self ..)
  rw [List.foldl_cons]
  have h3:(listStep t p).2.size≤t.2.size+9:=by
   unfold listStep
   split<;>simp only [ByteArray.size_append,sz_sp]<;>omega
  simp only [List.length_cons]
  omega
theorem catDo_reply (c:D_Catalog) (m:D_Cmd):(catDoD c m).2.size≤200:=by
 have z0:ByteArray.empty.size=0:=rfl
 have zo:tOk.size=2:=rfl
 have zn:tNone.size=4:=rfl
 have ze:tExists.size=6:=rfl
 have zf:tFull.size=4:=rfl
 unfold catDoD
 split
 ·rename_i hk
  obtain ⟨hb,h5,h6⟩:=catOk_bnd hk
  split
  ·show ByteArray.empty.size≤200;omega
  split
  ·unfold createD
   split
   ·show tExists.size≤200;omega
   ·split
    ·show tFull.size≤200;omega
    ·show tOk.size≤200;omega
  split
  ·have:=list_size c (false,ByteArray.empty) hb.name
   show (listD c).size≤200
   unfold listD
   dsimp only at this
   omega
  split
  ·show tNone.size≤200;omega
  ·split
   ·show tNone.size≤200;omega
   ·rename_i a _ s hs
    have hsm:=List.mem_of_getElem? hs
    unfold catSetD
    split
    ·show tOk.size≤200;omega
    split
    ·split
     ·show tExists.size≤200;omega
     ·split
      ·show tFull.size≤200;omega
      ·show tOk.size≤200;omega
    split
    ·split
     ·show tNone.size≤200;omega
     ·split
      ·show tNone.size≤200;omega
      ·show tOk.size≤200;omega
    split
    ·show (digit _).size≤200
     unfold digit
     show (1:Nat)≤200
     omega
    ·have:=read_size s.2 (false,ByteArray.empty) fun p hp=>⟨(hb.snap s hsm p hp).1,(hb.snap s hsm p hp).2.1⟩
     have h7:=h6 s hsm
     show (readD s).size≤200
     unfold readD
     dsimp only at this
     omega
 ·show ByteArray.empty.size≤200;omega
def ST (l:List D_Said):Prop:=∀ x,x∈l→x.2.2.size≤200
theorem putS_mem (x:D_Said):∀ (l:List D_Said) (y:D_Said),y∈putS x l→y=x∨y∈l
 | [],y,h=>.inl (List.mem_singleton.1 h)
 | z::l,y,h=>by
  rw [putS_cons] at h
  split at h
  ·rcases List.mem_cons.1 h with q | q
   ·exact .inr (by rw [q];exact List.mem_cons_self ..)
   ·rcases putS_mem x l y q with q | q
    ·exact .inl q
    ·exact .inr (List.mem_cons_of_mem _ q)
  ·split at h
   ·rcases List.mem_cons.1 h with q | q
    ·exact .inl q
    ·exact .inr (List.mem_cons_of_mem _ q)
   ·rcases List.mem_cons.1 h with q | q
    ·exact .inl q
    ·exact .inr q
theorem stateDo_ST {s:D_State} (h:ST s.2) (m:D_Cmd):ST (stateDoD s m).1.2∧(stateDoD s m).2.size≤200:=by
 have z0:ByteArray.empty.size=0:=rfl
 have zo:tOld.size=3:=rfl
 have hr:=catDo_reply s.1 m
 have hd:ST (doIt s m).1.2∧(doIt s m).2.size≤200:=⟨fun x hx=>by
  rcases putS_mem _ s.2 x hx with q | q
  ·rw [q];exact hr
  ·exact h x q,hr⟩
 unfold stateDoD
 split
 ·split
  ·exact ⟨h,by show ByteArray.empty.size≤200;omega⟩
  ·split
   ·rename_i x hx
    split
    ·exact ⟨h,h x (List.mem_of_find?_eq_some hx)⟩
    ·split
     ·exact ⟨h,by show tOld.size≤200;omega⟩
     ·exact hd
   ·exact hd
 ·exact ⟨fun x hx=>(by cases hx),by show ByteArray.empty.size≤200;omega⟩
theorem play_ST:∀ (l:List D_Cmd) (t:D_State×List ByteArray),ST t.1.2→(∀ x,x∈t.2→x.size≤200)→ST (l.foldl playStep t).1.2∧∀ x,x∈(l.foldl playStep t).2→x.size≤200
 | [],t,h1,h2=>⟨h1,h2⟩
 | m::l,t,h1,h2=>by
  obtain ⟨a,b⟩:=stateDo_ST h1 m
  refine play_ST l (playStep t m) a fun x hx=>?_
  rcases List.mem_append.1 hx with q | q
  ·exact h2 x q
  ·rw [List.mem_singleton.1 q];exact b
theorem statePlay_ST (l:List D_Cmd):ST (statePlayD l).1.2∧∀ x,x∈(statePlayD l).2→x.size≤200:=play_ST l _ (fun x hx=>by cases hx) fun x hx=>by cases hx
theorem bds_le {τ δ:Type} [GT τ δ] [Bk τ] [Bd τ] {B:Nat}:∀ (l:List δ),(∀ x,x∈l→Bd.bd (τ:=τ) x≤B)→bds τ l≤B*l.length
 | [],_=>Nat.zero_le _
 | x::l,h=>by
  have h1:=bds_le (B:=B) l fun y hy=>h y (List.mem_cons_of_mem _ hy)
  have h2:=h x (List.mem_cons_self ..)
  show Bd.bd (τ:=τ) x+bds τ l≤_
  rw [List.length_cons,Nat.mul_succ]
  omega
theorem said_bd {l:List D_Said} (h:ST l):Bd.bd (τ:=TL T_Said) l≤201*l.length:=by
 have h1:=bds_le (τ:=T_Said) (B:=200) l fun x hx=>by
  have:=h x hx
  show 0+(0+x.2.2.size)≤200
  omega
 show l.length+bds T_Said l≤_
 omega
theorem answers_bd (d:D_ENode) (g:TL T_Said) (h:GT.dat g=answersD d):Bk.bulk g≤70000:=by
 rw [Bd.eq,h]
 have hl:(answersD d).length≤324:=by
  unfold answersD
  split
  ·rw [List.length_zipWith]
   have:=cmds_len d.2.2.1
   omega
  ·simp
 have hs:ST (answersD d):=by
  unfold answersD
  split
  ·intro x hx
   obtain ⟨k,hk⟩:=List.getElem?_of_mem hx
   rw [List.getElem?_zipWith] at hk
   obtain ⟨_,h2⟩:=statePlay_ST (cmdsI d.2.2.1)
   cases ha:(cmdsI d.2.2.1)[k]? with
   | none=>rw [ha] at hk;simp at hk
   | some m =>
    cases hb:(statePlayD (cmdsI d.2.2.1)).2[k]? with
    | none=>rw [ha,hb] at hk;simp at hk
    | some t =>
     rw [ha,hb] at hk
     simp only [Option.some.injEq] at hk
     rw [← hk]
     exact h2 t (List.mem_of_getElem? hb)
  ·intro x hx;cases hx
 have:=said_bd hs
 omega
theorem bd_inst (x:D_Inst):x.2.2.2.2.1.2.2.2.2.2.2.2.length+x.2.2.2.2.2.2.1.length≤Bd.bd (τ:=T_Inst) x:=by
 show _≤((0+0)+(0+(0+(0+((0+(0+(0+(x.2.2.2.2.1.2.2.2.1.size+(x.2.2.2.2.1.2.2.2.2.1.size+(x.2.2.2.2.1.2.2.2.2.2.1.size+(0+(x.2.2.2.2.1.2.2.2.2.2.2.2.length+bds ByteArray x.2.2.2.2.1.2.2.2.2.2.2.2))))))))+(0+((x.2.2.2.2.2.2.1.length+bds T_Id x.2.2.2.2.2.2.1)+0)))))))
 omega
theorem bd_node (d:D_ENode):Bd.bd (τ:=T_ENode) d=(d.2.2.1.length+bds T_Inst d.2.2.1)+(d.2.2.2.length+bds T_Lead d.2.2.2):=by
 show 0+(0+((d.2.2.1.length+bds T_Inst d.2.2.1)+(d.2.2.2.length+bds T_Lead d.2.2.2)))=_
 omega
theorem small_e {d:D_ENode} (h:Bd.bd (τ:=T_ENode) d≤1048576):smallE d:=by
 rw [bd_node] at h
 refine ⟨by omega,fun x hx=>?_⟩
 have h2:=bds_mem (τ:=T_Inst) hx
 have h3:=bd_inst x
 exact ⟨by omega,by omega⟩
end Go.Proofs.SL
namespace Go.Proofs.SL
open Go
set_option maxHeartbeats 2000000
theorem eqIntS_spec (w:World) (t1 t2:TL Int) (h1:GT.rd w [] t1) (h2:GT.rd w [] t2):Spec Tryz.prog 137 [t1.hdr,t2.hdr].toArray w [] (IsV (.bool (eqB (GT.dat t1) (GT.dat t2)))):=by
 obtain ⟨a1,c1,e1,x1,y1⟩:=t1
 obtain ⟨a2,c2,e2,x2,y2⟩:=t2
 have hm1:x1.length≤9223372036854775807:=rd_len h1
 have hm2:x2.length≤9223372036854775807:=rd_len h2
 dsimp only [TL.hdr]
 refine Spec.intro Tryz.func137 rfl Tryz.ntmps137 rfl ?_
 refine s8 ?_
 refine L_lenS rfl rfl el104.h ?_
 refine s1 ?_
 refine L_lenS rfl rfl el104.h ?_
 refine s2 ?_
 refine kp [0,1,10] ?_
 refine W_cond rfl (fun hc1=>?_) (fun hc1=>?_)
 ·refine s5 ?_
  refine res1 rfl (ResOK.tmp rfl) ⟨?_,rfl⟩ ms
  refine congrArg Value.bool (Eq.symm (eqB_false.2 fun e=>?_))
  simp at hc1
  exact hc1 (by have:=congrArg List.length e;simp [dat_TL] at this;omega)
 ·have hl:x1.length=x2.length:=by simp at hc1;omega
  refine s7 ?_
  refine W_loopC (σ:=Nat) 0 (fun (k:Nat)=>[(5,.int .i64 (k:Int))]) (fun (k:Nat)=>[]) (fun (k:Nat)=>k≤x1.length∧(x1.map GT.dat).take k=(x2.map GT.dat).take k) (fun (k:Nat)=>x1.length - k) [(0,_),(1,_)] [] ?_ sb ms ?_
  ·exact ⟨Nat.zero_le _,rfl⟩
  ·rintro k ⟨hk,ht⟩
   refine kq [0,1,5] ?_
   refine s5 ?_
   refine L_lenS rfl rfl el104.h ?_
   refine s2 ?_
   refine kp [0,1,5,14] ?_
   refine W_cond rfl (fun hc4=>?_) (fun hc4=>?_)
   ·have hk1:k < x1.length:=by simpa using hc4
    obtain ⟨g1,o1,rfl⟩:=rd_addr h1 hk1
    obtain ⟨g2,o2,rfl⟩:=rd_addr (k:=k) h2 (show k < x2.length by omega)
    obtain ⟨u1,hu1⟩:=getEl hk1
    obtain ⟨u2,hu2⟩:=getEl (show k < x2.length by omega)
    refine s4 ?_
    refine W_D0 [25] mix (by kernel_rfl) rfl ?_
    refine s2 ?_
    refine D_indexAddr _ GC.none (OpV.t rfl) (OpV.t rfl) el104.h (fun hg=>⟨rfl,by (try dsimp only);omega⟩) ?_
    refine D_load0 GC.none (OpV.t rfl) (fun hg=>(by first | exact RdC.blk mm | exact RdC.old (Cells.el h1 rfl hu1) | exact RdC.old (Cells.el h2 rfl hu2))) one3.h rfl ?_
    refine s2 ?_
    refine D_indexAddr _ GC.none (OpV.t rfl) (OpV.t rfl) el104.h (fun hg=>⟨rfl,by (try dsimp only);omega⟩) ?_
    refine D_load0 GC.none (OpV.t rfl) (fun hg=>(by first | exact RdC.blk mm | exact RdC.old (Cells.el h1 rfl hu1) | exact RdC.old (Cells.el h2 rfl hu2))) one3.h rfl ?_
    refine s12 ?_
    refine kp [0,1,5,25] ?_
    refine W_cond rfl (fun hc6=>?_) (fun hc6=>?_)
    ·refine s5 ?_
     refine res1 rfl (ResOK.tmp rfl) ⟨?_,rfl⟩ ms
     refine congrArg Value.bool (Eq.symm (eqB_false.2 fun e=>?_))
     simp at hc6
     replace e:x1.map GT.dat=x2.map GT.dat:=e
     have e2:=congrArg (fun l=>l[k]?) e
     simp only [List.getElem?_map,hu1,hu2,Option.map_some,Option.some.injEq] at e2
     exact hc6 (by simpa [dat_int,dat_str,dat_bool] using e2)
    ·refine s3 ?_
     refine L_binV rfl rfl rfl (bv_addR (by unfold inR;omega)) ?_
     refine s2 ?_
     refine ⟨k+1,sb,ms,?_,?_⟩
     ·exact ⟨by omega,take_succ_eq ht (by rw [List.getElem?_map,hu1];rfl) (by rw [List.getElem?_map,hu2];rfl) (by simpa [dat_int,dat_str,dat_bool] using hc6)⟩
     ·(try dsimp only);omega
   ·refine W_exit ?_
    refine s5 ?_
    refine res1 rfl (ResOK.tmp rfl) ⟨?_,rfl⟩ ms
    refine congrArg Value.bool (Eq.symm (eqB_true.2 ?_))
    have hk2:x1.length≤k:=by simpa using hc4
    have h3:=ht
    rw [List.take_of_length_le (by simp;omega),List.take_of_length_le (by simp;omega)] at h3
    exact h3
theorem szIntS_spec (w:World) (t1:TL Int) (left:Int) (hl:0≤left) (hm:left≤1048576) (h1:GT.rd w [] t1) (ho:Ok.ok (GT.dat t1)):Spec Tryz.prog 106 [t1.hdr,.int .i64 left].toArray w [] (IsV (.int .i64 (if (Bk.bulk t1:Int)≤left then left - (Bk.bulk t1:Int) else -1))):=by
 obtain ⟨a1,c1,e1,x1,y1⟩:=t1
 have hm1:x1.length≤9223372036854775807:=rd_len h1
 rw [bulk_TL]
 dsimp only [TL.hdr]
 have hz:bulks x1=0:=by
  clear hm1 h1 ho
  induction x1 with
  | nil=>rfl
  | cons y ys ih=>simp only [bulks,ih];rfl
 refine Spec.intro Tryz.func106 rfl Tryz.ntmps106 rfl ?_
 refine s8 ?_
 refine L_lenS rfl rfl el104.h ?_
 refine L_binV rfl rfl rfl (bv_subR (by unfold inR;omega)) ?_
 refine s8 ?_
 refine kp [1,10] ?_
 refine W_cond rfl (fun hc2=>?_) (fun hc2=>?_)
 ·have hb0:left - (x1.length:Int) < 0:=by simpa using hc2
  refine s5 ?_
  refine res1 rfl (ResOK.tmp rfl) ⟨?_,rfl⟩ ms
  simp only [hz,Nat.add_zero]
  first
   | (rw [if_pos (by omega)];done)
   | (rw [if_neg (by omega)])
 ·have hb0:¬ (left - (x1.length:Int) < 0):=by simpa using hc2
  skip
  refine s7 ?_
  refine res1 rfl (ResOK.tmp rfl) ⟨?_,rfl⟩ ms
  simp only [hz,Nat.add_zero]
  first
   | (rw [if_pos (by omega)];done)
   | (rw [if_neg (by omega)])
theorem toIntS_spec (w:World) (t1:TL Int) (h1:GT.rd w [] t1) (hb:Bk.bulk t1≤1048576):Spec Tryz.prog 119 [t1.hdr].toArray w [] (fun v M=>∃ t2:TL Int,v=t2.hdr∧GT.dat t2=GT.dat t1∧M=[treeH t2]):=by
 obtain ⟨a1,c1,e1,x1,y1⟩:=t1
 rw [bulk_TL] at hb
 dsimp only [TL.hdr]
 refine Spec.intro Tryz.func119 rfl Tryz.ntmps119 rfl ?_
 refine s7 ?_
 refine L_lenS rfl rfl el104.h ?_
 refine L_make (τ:=Int) (0:Int) rfl rfl rfl el104.h rfl rfl (flat_int trivial) (by omega) (by unfold maxLen;omega) (fun g=>?_)
 refine s8 ?_
 refine W_loopC (σ:=Nat×List Int) (0,List.replicate x1.length (0:Int)) (fun (p:Nat×List Int)=>[(4,.int .i64 (p.1:Int))]) (fun (p:Nat×List Int)=>[treeH (⟨some ⟨g,0,none⟩,x1.length,3,p.2,[]⟩:TL Int)]) (fun (p:Nat×List Int)=>p.1≤x1.length∧p.2.length=x1.length∧(p.2.take p.1).map GT.dat=(x1.take p.1).map GT.dat) (fun (p:Nat×List Int)=>x1.length - p.1) [(0,_),(3,_)] [] ?_ sb ms ?_
 ·exact ⟨Nat.zero_le _,by simp,by simp⟩
 ·rintro ⟨k,cur⟩ ⟨hk,hlen,hdat⟩
  dsimp only at hk hlen hdat
  refine kq [0,3,4] ?_
  refine s5 ?_
  refine L_lenS rfl rfl el104.h ?_
  refine s2 ?_
  refine kp [0,3,4,11] ?_
  refine W_cond rfl (fun hc3=>?_) (fun hc3=>?_)
  ·have hk1:k < x1.length:=by simpa using hc3
   obtain ⟨g1,o1,rfl⟩:=rd_addr h1 hk1
   obtain ⟨u1,hu1⟩:=getEl hk1
   have hub:Bk.bulk u1≤1048576:=by have:=bulk_mem (List.mem_of_getElem? hu1);omega
   refine s8 ?_
   refine L_indexAddr rfl rfl rfl el104.h rfl (by omega) ?_
   refine L_load0 rfl rfl (by first | exact RdC.blk mm | exact RdC.old (Cells.el h1 rfl hu1)) one3.h rfl ?_
   refine L_indexAddr rfl rfl rfl el104.h rfl (by omega) ?_
   obtain ⟨u0,hu0⟩:=getEl (show k < cur.length by omega)
   refine L_storeElV u1 rfl rfl pk rfl hu0 rfl (flat_int (h1.2.2.1 _ (List.mem_of_getElem? hu1))) (.inr ⟨one3.h,rfl⟩) ?_
   refine s3 ?_
   refine L_binV rfl rfl rfl (bv_addR (by unfold inR;omega)) ?_
   refine s2 ?_
   refine ⟨(k+1,cur.set k u1),sb,ms,?_,?_⟩
   ·exact ⟨by dsimp only;omega,by simpa using hlen,map_take_set GT.dat GT.dat hdat (by omega) hu1 rfl⟩
   ·dsimp only;omega
  ·refine W_exit ?_
   refine s6 ?_
   refine res1 rfl (ResOK.tmp rfl) ⟨⟨some ⟨g,0,none⟩,x1.length,3,cur,[]⟩,?_,?_,rfl⟩ ms
   ·show _=Value.slice _ cur.length _
    rw [hlen]
   ·have hk2:x1.length≤k:=by simpa using hc3
    rw [List.take_of_length_le (by omega),List.take_of_length_le (by omega)] at hdat
    exact hdat
theorem markText_spec (w:World) (k0:Nat) (hk0:0 < k0) (hm:k0 < 9223372036854775807):Spec Tryz.prog 40 [.int .i64 (k0:Int)].toArray w [] (IsV (.string (mtx k0))):=by
 refine Spec.intro Tryz.func40 rfl Tryz.ntmps40 rfl ?_
 refine s10 ?_
 refine kp [0,5] ?_
 refine W_cond rfl (fun hc1=>?_) (fun hc1=>?_)
 ·refine s5 ?_
  refine res1 rfl (ResOK.tmp rfl) ⟨?_,rfl⟩ ms
  exfalso;simp at hc1;omega
 ·refine s7 ?_
  refine W_loopC (σ:=Nat×ByteArray) (k0,ByteArray.mk #[]) (fun (p:Nat×ByteArray)=>[(0,.int .i64 (p.1:Int)),(3,.string p.2)]) (fun (p:Nat×ByteArray)=>[]) (fun (p:Nat×ByteArray)=>mtxN p.1 p.2=mtxN k0 (ByteArray.mk #[])∧p.2.size+p.1≤k0) (fun (p:Nat×ByteArray)=>p.1) [] [] ?_ sb ms ?_
  ·refine ⟨rfl,?_⟩
   show (ByteArray.mk #[]).size+k0≤k0
   have:(ByteArray.mk #[]).size=0:=rfl
   omega
  ·rintro ⟨k,s⟩ ⟨hs,hz⟩
   refine kq [0,3] ?_
   refine s6 ?_
   refine kp [0,3,7] ?_
   refine W_cond rfl (fun hc4=>?_) (fun hc4=>?_)
   ·have hkp:0 < k:=by simpa using hc4
    refine s5 ?_
    refine L_binV rfl rfl rfl (bv_remN k 10 (by omega)) ?_
    refine L_binV rfl rfl rfl (bv_addR (by unfold inR;omega)) ?_
    refine L_convInt rfl rfl und5.h (by rw [und3.h];rfl) ?_
    refine L_buildSlice1 rfl rfl el128.h rfl (by decide) (by decide) rfl (fun bb=>?_)
    refine L_bytesToStr (ns:=[IntKind.u8.wrap (48+((k % 10:Nat):Int))]) rfl rfl und128.h und5.h und9.h (RdC.blk mm) rfl rfl ?_
    refine s1 ?_
    refine L_binV rfl rfl rfl (bv_sadd (by rw [strOf_size1];omega)) ?_
    refine s4 ?_
    refine L_binV rfl rfl rfl (bv_quoN k 10 (by omega) (by omega)) ?_
    refine s2 ?_
    refine ⟨(k / 10,dg k++s),sb,ms,?_,?_⟩
    ·refine ⟨?_,?_⟩
     ·rw [← hs];exact (mtxN_step s hkp).symm
     ·dsimp only at hz ⊢
      rw [ByteArray.size_append,dg_size];omega
    ·dsimp only;omega
   ·refine W_exit ?_
    refine s1 ?_
    have hd1:({ data:=#[109] }:ByteArray).size=1:=rfl
    dsimp only at hz
    refine s2 ?_
    refine L_binV rfl rfl rfl (bv_sadd (by (try dsimp only);omega)) ?_
    refine s3 ?_
    refine res1 rfl (ResOK.tmp rfl) ⟨?_,rfl⟩ ms
    have hk2:k=0:=by simp at hc4;omega
    subst hk2
    dsimp only at hs
    rw [mtxN_zero] at hs
    exact congrArg Value.string (by rw [hs];rfl)
theorem markIntS_spec (w:World) (t1:TL Int) (k0:Nat) (hk0:0 < k0) (hb:k0+Mk.cnt t1 < 9223372036854775807):Spec Tryz.prog 83 [t1.hdr,.int .i64 (k0:Int)].toArray w [treeH t1] (fun v M=>v=.int .i64 ((k0+Mk.cnt t1:Nat):Int)∧M=[treeH (Mk.mkd k0 t1)]):=by
 obtain ⟨a1,c1,e1,x1,y1⟩:=t1
 replace hb:k0+cnts x1 < 9223372036854775807:=hb
 dsimp only [TL.hdr]
 refine Spec.intro Tryz.func83 rfl Tryz.ntmps83 rfl ?_
 refine W_fact (fun w h=>ow_facts (h.prs _ (List.mem_cons_self ..))) fun hF=>?_
 replace hF:x1.length≤9223372036854775807∧(0 < x1.length→∃ g,a1=some ⟨g,0,none⟩):=hF
 refine s10 ?_
 refine W_conv (M':=[treeH (⟨a1,c1,e1,half k0 0 x1,y1⟩:TL Int)]) (fun w h=>by rw [half_zero];exact h) ?_
 refine W_loopC (σ:=Nat) 0 (fun (i:Nat)=>[(1,.int .i64 ((k0+cnts (x1.take i):Nat):Int)),(5,.int .i64 (i:Int))]) (fun (i:Nat)=>[treeH (⟨a1,c1,e1,half k0 i x1,y1⟩:TL Int)]) (fun (i:Nat)=>i≤x1.length) (fun (i:Nat)=>x1.length - i) [(0,_)] [] ?_ sb ms ?_
 ·exact Nat.zero_le _
 ·rintro i hi
  refine kq [0,1,5] ?_
  refine s5 ?_
  refine L_lenS rfl rfl el104.h ?_
  refine s2 ?_
  refine kp [0,1,5,9] ?_
  refine W_cond rfl (fun hc2=>?_) (fun hc2=>?_)
  ·have hk1:i < x1.length:=by simpa using hc2
   obtain ⟨g,rfl⟩:=hF.2 (by omega)
   obtain ⟨u,hu⟩:=getEl hk1
   have hs:=cnts_take_succ hu
   have hle:=cnts_take_le x1 (i+1)
   have hlh:=half_length k0 i x1
   try simp only [cnt_int,cnt_str] at hs
   refine s8 ?_
   refine L_indexAddr rfl rfl rfl el104.h rfl (by omega) ?_
   refine L_storeElV (((k0+cnts (x1.take i)):Nat):Int) rfl rfl pk rfl (show ((half k0 i x1):List Int)[i]?=some (u:Int) from half_get (k:=k0) hu) rfl (flat_int trivial) (.inr ⟨one3.h,rfl⟩) ?_
   refine s3 ?_
   refine L_binV rfl rfl rfl (bv_addR (by unfold inR;omega)) ?_
   refine s2 ?_
   rw [show (((k0+cnts (x1.take i)):Nat):Int)+1=((((k0+cnts (x1.take i))+1):Nat):Int) from rfl]
   have hfin:((half k0 i x1).set i (((k0+cnts (x1.take i)):Nat):Int))=half k0 (i+1) x1:=by
    have h9:=half_set (k:=k0) hu
    try simp only [mk_pair,mk_int,mk_str,cnt_pair,cnt_int,cnt_str,← Nat.add_assoc] at h9
    try simp only [List.set_set]
    exact h9
   refine W_conv (M':=treeH (⟨some ⟨g,0,none⟩,c1,e1,(half k0 (i+1) x1),y1⟩:TL Int)::_) (fun w h=>by rw [← hfin];exact h) ?_
   have hE:((k0+cnts (x1.take i))+1)=k0+cnts (x1.take (i+1)):=by rw [hs];(try simp only [cnt_pair,cnt_int,cnt_str]);omega
   rw [hE]
   refine s2 ?_
   refine L_binV rfl rfl rfl (bv_addR (by unfold inR;omega)) ?_
   refine s2 ?_
   refine ⟨i+1,sb,ms,?_,?_⟩
   ·show i+1≤x1.length
    omega
   ·show x1.length - (i+1) < x1.length - i
    omega
  ·refine W_exit ?_
   refine s6 ?_
   have hk2:x1.length≤i:=by simpa using hc2
   rw [half_all k0 hk2]
   refine res1 rfl (ResOK.tmp rfl) ⟨?_,rfl⟩ ms
   have hk2:x1.length≤i:=by simpa using hc2
   rw [List.take_of_length_le hk2];rfl
end Go.Proofs.SL
namespace Go.Proofs.SL
open Go
set_option maxHeartbeats 2000000
instance fld98_0:FldF Tryz.prog 98 0 0:=⟨by kernel_rfl⟩
instance fld98_1:FldF Tryz.prog 98 1 1:=⟨by kernel_rfl⟩
instance fn134:FnF Tryz.prog 134:=⟨⟨_,Tryz.func134,by kernel_rfl,rfl⟩⟩
instance el100:ElF Tryz.prog 100 98 2 16 [.int .i64 0,.int .i64 0]:=⟨by kernel_rfl⟩
instance agg98:AggF Tryz.prog 98 2:=⟨by kernel_rfl⟩
instance fn116:FnF Tryz.prog 116:=⟨⟨_,Tryz.func116,by kernel_rfl,rfl⟩⟩
instance fn199:FnF Tryz.prog 199:=⟨⟨_,Tryz.func199,by kernel_rfl,rfl⟩⟩
instance fld99_3:FldF Tryz.prog 99 3 3:=⟨by kernel_rfl⟩
instance fld99_4:FldF Tryz.prog 99 4 4:=⟨by kernel_rfl⟩
instance fld99_5:FldF Tryz.prog 99 5 5:=⟨by kernel_rfl⟩
instance fld99_7:FldF Tryz.prog 99 7 7:=⟨by kernel_rfl⟩
instance fn170:FnF Tryz.prog 170:=⟨⟨_,Tryz.func170,by kernel_rfl,rfl⟩⟩
instance fld99_0:FldF Tryz.prog 99 0 0:=⟨by kernel_rfl⟩
instance fld99_1:FldF Tryz.prog 99 1 1:=⟨by kernel_rfl⟩
instance fld99_2:FldF Tryz.prog 99 2 2:=⟨by kernel_rfl⟩
instance fld99_6:FldF Tryz.prog 99 6 6:=⟨by kernel_rfl⟩
instance fn178:FnF Tryz.prog 178:=⟨⟨_,Tryz.func178,by kernel_rfl,rfl⟩⟩
instance fn40:FnF Tryz.prog 40:=⟨⟨_,Tryz.func40,by kernel_rfl,rfl⟩⟩
theorem eqId_spec (w:World) (t1 t2:T_Id) (h1:GT.rd w [] t1) (h2:GT.rd w [] t2):Spec Tryz.prog 134 [.agg (GT.cells t1).toArray,.agg (GT.cells t2).toArray].toArray w [] (IsV (.bool (eqB (GT.dat t1) (GT.dat t2)))):=by
 obtain ⟨a1,a2⟩:=t1
 obtain ⟨b1,b2⟩:=t2
 change Spec _ _ [Value.agg #[.int .i64 a1,.int .i64 a2],Value.agg #[.int .i64 b1,.int .i64 b2]].toArray w [] _
 refine Spec.intro Tryz.func134 rfl Tryz.ntmps134 rfl ?_
 refine s2 ?_
 refine bx fun bk2=>?_
 refine bx fun bk3=>?_
 refine s6 ?_
 refine L_load rfl rfl (by first | exact RdC.blk mm) one3.h rfl ?_
 refine s1 ?_
 refine L_load rfl rfl (by first | exact RdC.blk mm) one3.h rfl ?_
 refine s2 ?_
 refine kp [2,3,9] ?_
 refine W_cond rfl (fun hc1=>?_) (fun hc1=>?_)
 ·refine s5 ?_
  refine res1 rfl (ResOK.tmp rfl) ⟨?_,rfl⟩ ms
  clear h1 h2
  first
   | (refine congrArg Value.bool (Eq.symm (eqB_false.2 fun e=>?_));try simp only [dat_pair,dat_int,dat_bool,dat_str,Prod.mk.injEq] at e;simp_all;done)
   | (refine congrArg Value.bool (Eq.symm (eqB_true.2 ?_));try simp only [dat_pair,dat_int,dat_bool,dat_str,Prod.mk.injEq];simp_all;done)
 ·refine s5 ?_
  refine L_load rfl rfl (by first | exact RdC.blk mm) one3.h rfl ?_
  refine s1 ?_
  refine L_load rfl rfl (by first | exact RdC.blk mm) one3.h rfl ?_
  refine s2 ?_
  refine kp [14] ?_
  refine W_cond rfl (fun hc3=>?_) (fun hc3=>?_)
  ·refine s5 ?_
   refine res1 rfl (ResOK.tmp rfl) ⟨?_,rfl⟩ ms
   clear h1 h2
   first
    | (refine congrArg Value.bool (Eq.symm (eqB_false.2 fun e=>?_));try simp only [dat_pair,dat_int,dat_bool,dat_str,Prod.mk.injEq] at e;simp_all;done)
    | (refine congrArg Value.bool (Eq.symm (eqB_true.2 ?_));try simp only [dat_pair,dat_int,dat_bool,dat_str,Prod.mk.injEq];simp_all;done)
  ·refine s6 ?_
   refine res1 rfl (ResOK.tmp rfl) ⟨?_,rfl⟩ ms
   clear h1 h2
   first
    | (refine congrArg Value.bool (Eq.symm (eqB_false.2 fun e=>?_));try simp only [dat_pair,dat_int,dat_bool,dat_str,Prod.mk.injEq] at e;simp_all;done)
    | (refine congrArg Value.bool (Eq.symm (eqB_true.2 ?_));try simp only [dat_pair,dat_int,dat_bool,dat_str,Prod.mk.injEq];simp_all;done)
theorem toId_spec (w:World) (t1:T_Id) (h1:GT.rd w [] t1) (hb:Bk.bulk t1≤1048576):Spec Tryz.prog 116 [.agg (GT.cells t1).toArray].toArray w [] (fun v M=>∃ t2:T_Id,v=.agg (GT.cells t2).toArray∧GT.dat t2=GT.dat t1∧M=[treeH t2]):=by
 obtain ⟨a1,a2⟩:=t1
 change Spec _ _ [Value.agg #[.int .i64 a1,.int .i64 a2]].toArray w [] _
 refine Spec.intro Tryz.func116 rfl Tryz.ntmps116 rfl ?_
 refine s2 ?_
 refine bx fun bk1=>?_
 refine al fun bk2=>?_
 refine s3 ?_
 refine al fun bk3=>?_
 refine s4 ?_
 refine L_load rfl rfl (by first | exact RdC.blk mm) one3.h rfl ?_
 refine s6 ?_
 refine L_load rfl rfl (by first | exact RdC.blk mm) one3.h rfl ?_
 refine s5 ?_
 refine L_loadW rfl rfl (by first | exact RdC.blk mm) (by exact agg92.h) ?_
 refine L_storeW rfl rfl pk (by exact agg92.h) (by rfl) (by first | (simp [Value.oneCell',TL.hdr];done) | (simp [Value.oneCell',TL.hdr,Value.cells];done) | exact fun v hv=>GT.one _ v hv) ?_
 refine s1 ?_
 refine W_conv (M':=treeH ((a1,a2):T_Id)::_) (fun w h=>(tree_snd (flat_int (h1.1)) (h.addFlat (flat_int (h1.2))))) ?_
 refine s1 ?_
 refine res1 rfl (ResOK.cell rfl mm (by exact agg92.h)) ⟨(a1,a2),rfl,by simp only [dat_pair],rfl⟩ ms
theorem eqIdS_spec (w:World) (t1 t2:TL T_Id) (h1:GT.rd w [] t1) (h2:GT.rd w [] t2):Spec Tryz.prog 136 [t1.hdr,t2.hdr].toArray w [] (IsV (.bool (eqB (GT.dat t1) (GT.dat t2)))):=by
 obtain ⟨a1,c1,e1,x1,y1⟩:=t1
 obtain ⟨a2,c2,e2,x2,y2⟩:=t2
 have hm1:x1.length≤9223372036854775807:=rd_len h1
 have hm2:x2.length≤9223372036854775807:=rd_len h2
 dsimp only [TL.hdr]
 refine Spec.intro Tryz.func136 rfl Tryz.ntmps136 rfl ?_
 refine s8 ?_
 refine L_lenS rfl rfl el85.h ?_
 refine s1 ?_
 refine L_lenS rfl rfl el85.h ?_
 refine s2 ?_
 refine kp [0,1,10] ?_
 refine W_cond rfl (fun hc1=>?_) (fun hc1=>?_)
 ·refine s5 ?_
  refine res1 rfl (ResOK.tmp rfl) ⟨?_,rfl⟩ ms
  refine congrArg Value.bool (Eq.symm (eqB_false.2 fun e=>?_))
  simp at hc1
  exact hc1 (by have:=congrArg List.length e;simp [dat_TL] at this;omega)
 ·have hl:x1.length=x2.length:=by simp at hc1;omega
  refine s7 ?_
  refine W_loopC (σ:=Nat) 0 (fun (k:Nat)=>[(5,.int .i64 (k:Int))]) (fun (k:Nat)=>[]) (fun (k:Nat)=>k≤x1.length∧(x1.map GT.dat).take k=(x2.map GT.dat).take k) (fun (k:Nat)=>x1.length - k) [(0,_),(1,_)] [] ?_ sb ms ?_
  ·exact ⟨Nat.zero_le _,rfl⟩
  ·rintro k ⟨hk,ht⟩
   refine kq [0,1,5] ?_
   refine s5 ?_
   refine L_lenS rfl rfl el85.h ?_
   refine s2 ?_
   refine kp [0,1,5,14] ?_
   refine W_cond rfl (fun hc4=>?_) (fun hc4=>?_)
   ·have hk1:k < x1.length:=by simpa using hc4
    obtain ⟨g1,o1,rfl⟩:=rd_addr h1 hk1
    obtain ⟨g2,o2,rfl⟩:=rd_addr (k:=k) h2 (show k < x2.length by omega)
    obtain ⟨u1,hu1⟩:=getEl hk1
    obtain ⟨u2,hu2⟩:=getEl (show k < x2.length by omega)
    refine s4 ?_
    refine W_D0 [26] mix (by kernel_rfl) rfl ?_
    refine s2 ?_
    refine D_indexAddr _ GC.none (OpV.t rfl) (OpV.t rfl) el85.h (fun hg=>⟨rfl,by (try dsimp only);omega⟩) ?_
    refine D_loadW GC.none (OpV.t rfl) (fun hg=>(by first | exact RdC.blk mm | exact RdC.old (Cells.el h1 rfl hu1) | exact RdC.old (Cells.el h2 rfl hu2))) (by exact agg92.h) ?_
    refine s2 ?_
    refine D_indexAddr _ GC.none (OpV.t rfl) (OpV.t rfl) el85.h (fun hg=>⟨rfl,by (try dsimp only);omega⟩) ?_
    refine D_loadW GC.none (OpV.t rfl) (fun hg=>(by first | exact RdC.blk mm | exact RdC.old (Cells.el h1 rfl hu1) | exact RdC.old (Cells.el h2 rfl hu2))) (by exact agg92.h) ?_
    refine D_callX GC.none fn134.h (OpVs.cons (OpV.t rfl) (OpVs.cons (OpV.t rfl) (OpVs.nil))) (by exact fun hg w F hF hM=>(fun w hw=>eqId_spec w _ _ (rd_carry (h1.2.2.1 _ (List.mem_of_getElem? hu1)) hw) (rd_carry (h2.2.2.1 _ (List.mem_of_getElem? hu2)) hw)) w hF) ?_
    refine s13 ?_
    refine kp [0,1,5,26] ?_
    refine W_cond rfl (fun hc6=>?_) (fun hc6=>?_)
    ·refine s5 ?_
     refine res1 rfl (ResOK.tmp rfl) ⟨?_,rfl⟩ ms
     refine congrArg Value.bool (Eq.symm (eqB_false.2 fun e=>?_))
     simp at hc6
     replace e:x1.map GT.dat=x2.map GT.dat:=e
     have e2:=congrArg (fun l=>l[k]?) e
     simp only [List.getElem?_map,hu1,hu2,Option.map_some,Option.some.injEq] at e2
     exact hc6 (by simpa [dat_int,dat_str,dat_bool] using e2)
    ·refine s3 ?_
     refine L_binV rfl rfl rfl (bv_addR (by unfold inR;omega)) ?_
     refine s2 ?_
     refine ⟨k+1,sb,ms,?_,?_⟩
     ·exact ⟨by omega,take_succ_eq ht (by rw [List.getElem?_map,hu1];rfl) (by rw [List.getElem?_map,hu2];rfl) (by simpa [dat_int,dat_str,dat_bool] using hc6)⟩
     ·(try dsimp only);omega
   ·refine W_exit ?_
    refine s5 ?_
    refine res1 rfl (ResOK.tmp rfl) ⟨?_,rfl⟩ ms
    refine congrArg Value.bool (Eq.symm (eqB_true.2 ?_))
    have hk2:x1.length≤k:=by simpa using hc4
    have h3:=ht
    rw [List.take_of_length_le (by simp;omega),List.take_of_length_le (by simp;omega)] at h3
    exact h3
theorem szIdS_spec (w:World) (t1:TL T_Id) (left:Int) (hl:0≤left) (hm:left≤1048576) (h1:GT.rd w [] t1) (ho:Ok.ok (GT.dat t1)):Spec Tryz.prog 105 [t1.hdr,.int .i64 left].toArray w [] (IsV (.int .i64 (if (Bk.bulk t1:Int)≤left then left - (Bk.bulk t1:Int) else -1))):=by
 obtain ⟨a1,c1,e1,x1,y1⟩:=t1
 have hm1:x1.length≤9223372036854775807:=rd_len h1
 rw [bulk_TL]
 dsimp only [TL.hdr]
 have hz:bulks x1=0:=by
  clear hm1 h1 ho
  induction x1 with
  | nil=>rfl
  | cons y ys ih=>simp only [bulks,ih];rfl
 refine Spec.intro Tryz.func105 rfl Tryz.ntmps105 rfl ?_
 refine s8 ?_
 refine L_lenS rfl rfl el100.h ?_
 refine L_binV rfl rfl rfl (bv_subR (by unfold inR;omega)) ?_
 refine s8 ?_
 refine kp [1,10] ?_
 refine W_cond rfl (fun hc2=>?_) (fun hc2=>?_)
 ·have hb0:left - (x1.length:Int) < 0:=by simpa using hc2
  refine s5 ?_
  refine res1 rfl (ResOK.tmp rfl) ⟨?_,rfl⟩ ms
  simp only [hz,Nat.add_zero]
  first
   | (rw [if_pos (by omega)];done)
   | (rw [if_neg (by omega)])
 ·have hb0:¬ (left - (x1.length:Int) < 0):=by simpa using hc2
  skip
  refine s7 ?_
  refine res1 rfl (ResOK.tmp rfl) ⟨?_,rfl⟩ ms
  simp only [hz,Nat.add_zero]
  first
   | (rw [if_pos (by omega)];done)
   | (rw [if_neg (by omega)])
theorem toIdS_spec (w:World) (t1:TL T_Id) (h1:GT.rd w [] t1) (hb:Bk.bulk t1≤1048576):Spec Tryz.prog 118 [t1.hdr].toArray w [] (fun v M=>∃ t2:TL T_Id,v=t2.hdr∧GT.dat t2=GT.dat t1∧M=[treeH t2]):=by
 obtain ⟨a1,c1,e1,x1,y1⟩:=t1
 rw [bulk_TL] at hb
 dsimp only [TL.hdr]
 refine Spec.intro Tryz.func118 rfl Tryz.ntmps118 rfl ?_
 refine s7 ?_
 refine L_lenS rfl rfl el100.h ?_
 refine L_make (τ:=T_Id) ((0:Int),(0:Int)) rfl rfl rfl el85.h rfl rfl (flat_pair (flat_int trivial) (flat_int trivial)) (by omega) (by unfold maxLen;omega) (fun g=>?_)
 refine s8 ?_
 refine W_loopC (σ:=Nat×List T_Id) (0,List.replicate x1.length ((0:Int),(0:Int))) (fun (p:Nat×List T_Id)=>[(4,.int .i64 (p.1:Int))]) (fun (p:Nat×List T_Id)=>[treeH (⟨some ⟨g,0,none⟩,x1.length,92,p.2,[]⟩:TL T_Id)]) (fun (p:Nat×List T_Id)=>p.1≤x1.length∧p.2.length=x1.length∧(p.2.take p.1).map GT.dat=(x1.take p.1).map GT.dat) (fun (p:Nat×List T_Id)=>x1.length - p.1) [(0,_),(3,_)] [] ?_ sb ms ?_
 ·exact ⟨Nat.zero_le _,by simp,by simp⟩
 ·rintro ⟨k,cur⟩ ⟨hk,hlen,hdat⟩
  dsimp only at hk hlen hdat
  refine kq [0,3,4] ?_
  refine s5 ?_
  refine L_lenS rfl rfl el100.h ?_
  refine s2 ?_
  refine kp [0,3,4,11] ?_
  refine W_cond rfl (fun hc3=>?_) (fun hc3=>?_)
  ·have hk1:k < x1.length:=by simpa using hc3
   obtain ⟨g1,o1,rfl⟩:=rd_addr h1 hk1
   obtain ⟨u1,hu1⟩:=getEl hk1
   have hub:Bk.bulk u1≤1048576:=by have:=bulk_mem (List.mem_of_getElem? hu1);omega
   refine s8 ?_
   refine L_indexAddr rfl rfl rfl el100.h rfl (by omega) ?_
   refine L_loadW rfl rfl (by first | exact RdC.blk mm | exact RdC.old (Cells.el h1 rfl hu1)) (by exact agg98.h) ?_
   refine L_callR rfl fn116.h rfl (by exact fun w hw=>toId_spec w _ (rd_carry (h1.2.2.1 _ (List.mem_of_getElem? hu1)) hw) hub) ?_
   rintro v M1 ⟨u2,hv,hd,rfl⟩
   subst hv
   simp only [List.cons_append,List.nil_append]
   refine L_indexAddr rfl rfl rfl el85.h rfl (by omega) ?_
   obtain ⟨u0,hu0⟩:=getEl (show k < cur.length by omega)
   refine L_storeEl u2 rfl rfl pk rfl hu0 rfl pk (.inl agg92.h) ?_
   refine s3 ?_
   refine L_binV rfl rfl rfl (bv_addR (by unfold inR;omega)) ?_
   refine s2 ?_
   refine ⟨(k+1,cur.set k u2),sb,ms,?_,?_⟩
   ·exact ⟨by dsimp only;omega,by simpa using hlen,map_take_set GT.dat GT.dat hdat (by omega) hu1 hd⟩
   ·dsimp only;omega
  ·refine W_exit ?_
   refine s6 ?_
   refine res1 rfl (ResOK.tmp rfl) ⟨⟨some ⟨g,0,none⟩,x1.length,92,cur,[]⟩,?_,?_,rfl⟩ ms
   ·show _=Value.slice _ cur.length _
    rw [hlen]
   ·have hk2:x1.length≤k:=by simpa using hc3
    rw [List.take_of_length_le (by omega),List.take_of_length_le (by omega)] at hdat
    exact hdat
theorem eqStringS_spec (w:World) (t1 t2:TL ByteArray) (h1:GT.rd w [] t1) (h2:GT.rd w [] t2):Spec Tryz.prog 199 [t1.hdr,t2.hdr].toArray w [] (IsV (.bool (eqB (GT.dat t1) (GT.dat t2)))):=by
 obtain ⟨a1,c1,e1,x1,y1⟩:=t1
 obtain ⟨a2,c2,e2,x2,y2⟩:=t2
 have hm1:x1.length≤9223372036854775807:=rd_len h1
 have hm2:x2.length≤9223372036854775807:=rd_len h2
 dsimp only [TL.hdr]
 refine Spec.intro Tryz.func199 rfl Tryz.ntmps199 rfl ?_
 refine s8 ?_
 refine L_lenS rfl rfl el65.h ?_
 refine s1 ?_
 refine L_lenS rfl rfl el65.h ?_
 refine s2 ?_
 refine kp [0,1,10] ?_
 refine W_cond rfl (fun hc1=>?_) (fun hc1=>?_)
 ·refine s5 ?_
  refine res1 rfl (ResOK.tmp rfl) ⟨?_,rfl⟩ ms
  refine congrArg Value.bool (Eq.symm (eqB_false.2 fun e=>?_))
  simp at hc1
  exact hc1 (by have:=congrArg List.length e;simp [dat_TL] at this;omega)
 ·have hl:x1.length=x2.length:=by simp at hc1;omega
  refine s7 ?_
  refine W_loopC (σ:=Nat) 0 (fun (k:Nat)=>[(5,.int .i64 (k:Int))]) (fun (k:Nat)=>[]) (fun (k:Nat)=>k≤x1.length∧(x1.map GT.dat).take k=(x2.map GT.dat).take k) (fun (k:Nat)=>x1.length - k) [(0,_),(1,_)] [] ?_ sb ms ?_
  ·exact ⟨Nat.zero_le _,rfl⟩
  ·rintro k ⟨hk,ht⟩
   refine kq [0,1,5] ?_
   refine s5 ?_
   refine L_lenS rfl rfl el65.h ?_
   refine s2 ?_
   refine kp [0,1,5,14] ?_
   refine W_cond rfl (fun hc4=>?_) (fun hc4=>?_)
   ·have hk1:k < x1.length:=by simpa using hc4
    obtain ⟨g1,o1,rfl⟩:=rd_addr h1 hk1
    obtain ⟨g2,o2,rfl⟩:=rd_addr (k:=k) h2 (show k < x2.length by omega)
    obtain ⟨u1,hu1⟩:=getEl hk1
    obtain ⟨u2,hu2⟩:=getEl (show k < x2.length by omega)
    refine s4 ?_
    refine W_D0 [25] mix (by kernel_rfl) rfl ?_
    refine s2 ?_
    refine D_indexAddr _ GC.none (OpV.t rfl) (OpV.t rfl) el65.h (fun hg=>⟨rfl,by (try dsimp only);omega⟩) ?_
    refine D_load0 GC.none (OpV.t rfl) (fun hg=>(by first | exact RdC.blk mm | exact RdC.old (Cells.el h1 rfl hu1) | exact RdC.old (Cells.el h2 rfl hu2))) one9.h rfl ?_
    refine s2 ?_
    refine D_indexAddr _ GC.none (OpV.t rfl) (OpV.t rfl) el65.h (fun hg=>⟨rfl,by (try dsimp only);omega⟩) ?_
    refine D_load0 GC.none (OpV.t rfl) (fun hg=>(by first | exact RdC.blk mm | exact RdC.old (Cells.el h1 rfl hu1) | exact RdC.old (Cells.el h2 rfl hu2))) one9.h rfl ?_
    refine s12 ?_
    refine kp [0,1,5,25] ?_
    refine W_cond rfl (fun hc6=>?_) (fun hc6=>?_)
    ·refine s5 ?_
     refine res1 rfl (ResOK.tmp rfl) ⟨?_,rfl⟩ ms
     refine congrArg Value.bool (Eq.symm (eqB_false.2 fun e=>?_))
     simp at hc6
     replace e:x1.map GT.dat=x2.map GT.dat:=e
     have e2:=congrArg (fun l=>l[k]?) e
     simp only [List.getElem?_map,hu1,hu2,Option.map_some,Option.some.injEq] at e2
     exact hc6 (by simpa [dat_int,dat_str,dat_bool] using e2)
    ·refine s3 ?_
     refine L_binV rfl rfl rfl (bv_addR (by unfold inR;omega)) ?_
     refine s2 ?_
     refine ⟨k+1,sb,ms,?_,?_⟩
     ·exact ⟨by omega,take_succ_eq ht (by rw [List.getElem?_map,hu1];rfl) (by rw [List.getElem?_map,hu2];rfl) (by simpa [dat_int,dat_str,dat_bool] using hc6)⟩
     ·(try dsimp only);omega
   ·refine W_exit ?_
    refine s5 ?_
    refine res1 rfl (ResOK.tmp rfl) ⟨?_,rfl⟩ ms
    refine congrArg Value.bool (Eq.symm (eqB_true.2 ?_))
    have hk2:x1.length≤k:=by simpa using hc4
    have h3:=ht
    rw [List.take_of_length_le (by simp;omega),List.take_of_length_le (by simp;omega)] at h3
    exact h3
theorem szStringS_spec (w:World) (t1:TL ByteArray) (left:Int) (hl:0≤left) (hm:left≤1048576) (h1:GT.rd w [] t1) (ho:Ok.ok (GT.dat t1)):Spec Tryz.prog 170 [t1.hdr,.int .i64 left].toArray w [] (IsV (.int .i64 (if (Bk.bulk t1:Int)≤left then left - (Bk.bulk t1:Int) else -1))):=by
  obtain ⟨a1,c1,e1,x1,y1⟩:=t1
  have hm1:x1.length≤9223372036854775807:=rd_len h1
  rw [bulk_TL]
  dsimp only [TL.hdr]
  refine Spec.intro Tryz.func170 rfl Tryz.ntmps170 rfl ?_
  refine s8 ?_
  refine L_lenS rfl rfl el65.h ?_
  refine L_binV rfl rfl rfl (bv_subR (by unfold inR;omega)) ?_
  refine s8 ?_
  refine kp [0,1,11] ?_
  refine W_cond rfl (fun hc2=>?_) (fun hc2=>?_)
  · have hb0:left - (x1.length:Int) < 0:=by simpa using hc2
    refine s5 ?_
    refine res1 rfl (ResOK.tmp rfl) ⟨?_,rfl⟩ ms
    first
      | (rw [if_neg (by simp only [Int.natCast_add];omega)];done)
      | (rw [if_neg (by have:=bulks_take_le x1 (k+1);simp only [Int.natCast_add];omega)];done)
      | (have hk2:x1.length≤k:=by simpa using hc5
         rw [List.take_of_length_le hk2] at ht ⊢
         rw [if_pos (by simp only [Int.natCast_add];omega)];congr 1;simp only [Int.natCast_add];omega)
  · have hb0:¬ (left - (x1.length:Int) < 0):=by simpa using hc2
    refine s7 ?_
    have h0:left - (x1.length:Int)=left - (x1.length:Int) - (bulks (x1.take 0):Int):=by simp [bulks]
    rw [h0]
    refine W_loopC (σ:=Nat) 0 (fun (k:Nat)=>[(1,.int .i64 (left - (x1.length:Int) - (bulks (x1.take k):Int))),(5,.int .i64 (k:Int))]) (fun (k:Nat)=>[]) (fun (k:Nat)=>k≤x1.length∧0≤(left - (x1.length:Int) - (bulks (x1.take k):Int))) (fun (k:Nat)=>x1.length - k) [(0,_)] [] ?_ sb ms ?_
    · exact ⟨Nat.zero_le _,by simp [bulks];omega⟩
    · rintro k ⟨hk,ht⟩
      refine kq [0,1,5] ?_
      refine s5 ?_
      refine L_lenS rfl rfl el65.h ?_
      refine s2 ?_
      refine kp [0,1,5,15] ?_
      refine W_cond rfl (fun hc5=>?_) (fun hc5=>?_)
      · have hk1:k < x1.length:=by simpa using hc5
        obtain ⟨g1,o1,rfl⟩:=rd_addr h1 hk1
        obtain ⟨u1,hu1⟩:=getEl hk1
        have hbs:=bulks_take_succ hu1
        have hble:=bulks_take_le x1 (k+1)
        have hus:u1.size≤9223372036854775807:=ho.2 _ (List.mem_map.2 ⟨u1,List.mem_of_getElem? hu1,rfl⟩)
        rw [bulk_str] at hbs
        refine s8 ?_
        refine L_indexAddr rfl rfl rfl el65.h rfl (by omega) ?_
        refine L_load0 rfl rfl (by first | exact RdC.blk mm | exact RdC.old (Cells.el h1 rfl hu1)) one9.h rfl ?_
        refine s1 ?_
        refine L_binV rfl rfl rfl (bv_subR (by unfold inR;omega)) ?_
        refine s7 ?_
        refine kp [0,1,5,26] ?_
        refine W_cond rfl (fun hc8=>?_) (fun hc8=>?_)
        · have hb1:(left - (x1.length:Int) - (bulks (x1.take k):Int)) - (u1.size:Int) < 0:=by simpa using hc8
          refine s5 ?_
          refine res1 rfl (ResOK.tmp rfl) ⟨?_,rfl⟩ ms
          first
            | (rw [if_neg (by simp only [Int.natCast_add];omega)];done)
            | (rw [if_neg (by have:=bulks_take_le x1 (k+1);simp only [Int.natCast_add];omega)];done)
            | (have hk2:x1.length≤k:=by simpa using hc5
               rw [List.take_of_length_le hk2] at ht ⊢
               rw [if_pos (by simp only [Int.natCast_add];omega)];congr 1;simp only [Int.natCast_add];omega)
        · have hb1:¬ ((left - (x1.length:Int) - (bulks (x1.take k):Int)) - (u1.size:Int) < 0):=by simpa using hc8
          have hnx:(left - (x1.length:Int) - (bulks (x1.take k):Int)) - (u1.size:Int)=left - (x1.length:Int) - (bulks (x1.take (k+1)):Int):=by rw [hbs];omega
          rw [hnx]
          refine s3 ?_
          refine L_binV rfl rfl rfl (bv_addR (by unfold inR;omega)) ?_
          refine s2 ?_
          refine ⟨k+1,sb,ms,?_,?_⟩
          · exact ⟨by omega,by omega⟩
          · (try dsimp only);omega
      · refine W_exit ?_
        refine s6 ?_
        refine res1 rfl (ResOK.tmp rfl) ⟨?_,rfl⟩ ms
        first
          | (rw [if_neg (by simp only [Int.natCast_add];omega)];done)
          | (rw [if_neg (by have:=bulks_take_le x1 (k+1);simp only [Int.natCast_add];omega)];done)
          | (have hk2:x1.length≤k:=by simpa using hc5
             rw [List.take_of_length_le hk2] at ht ⊢
             rw [if_pos (by simp only [Int.natCast_add];omega)];congr 1;simp only [Int.natCast_add];omega)
theorem toStringS_spec (w:World) (t1:TL ByteArray) (h1:GT.rd w [] t1) (hb:Bk.bulk t1≤1048576):Spec Tryz.prog 178 [t1.hdr].toArray w [] (fun v M=>∃ t2:TL ByteArray,v=t2.hdr∧GT.dat t2=GT.dat t1∧M=[treeH t2]):=by
 obtain ⟨a1,c1,e1,x1,y1⟩:=t1
 rw [bulk_TL] at hb
 dsimp only [TL.hdr]
 refine Spec.intro Tryz.func178 rfl Tryz.ntmps178 rfl ?_
 refine s7 ?_
 refine L_lenS rfl rfl el65.h ?_
 refine L_make (τ:=ByteArray) ByteArray.empty rfl rfl rfl el65.h rfl rfl (flat_str trivial) (by omega) (by unfold maxLen;omega) (fun g=>?_)
 refine s8 ?_
 refine W_loopC (σ:=Nat×List ByteArray) (0,List.replicate x1.length ByteArray.empty) (fun (p:Nat×List ByteArray)=>[(4,.int .i64 (p.1:Int))]) (fun (p:Nat×List ByteArray)=>[treeH (⟨some ⟨g,0,none⟩,x1.length,9,p.2,[]⟩:TL ByteArray)]) (fun (p:Nat×List ByteArray)=>p.1≤x1.length∧p.2.length=x1.length∧(p.2.take p.1).map GT.dat=(x1.take p.1).map GT.dat) (fun (p:Nat×List ByteArray)=>x1.length - p.1) [(0,_),(3,_)] [] ?_ sb ms ?_
 ·exact ⟨Nat.zero_le _,by simp,by simp⟩
 ·rintro ⟨k,cur⟩ ⟨hk,hlen,hdat⟩
  dsimp only at hk hlen hdat
  refine kq [0,3,4] ?_
  refine s5 ?_
  refine L_lenS rfl rfl el65.h ?_
  refine s2 ?_
  refine kp [0,3,4,11] ?_
  refine W_cond rfl (fun hc3=>?_) (fun hc3=>?_)
  ·have hk1:k < x1.length:=by simpa using hc3
   obtain ⟨g1,o1,rfl⟩:=rd_addr h1 hk1
   obtain ⟨u1,hu1⟩:=getEl hk1
   have hub:Bk.bulk u1≤1048576:=by have:=bulk_mem (List.mem_of_getElem? hu1);omega
   refine s8 ?_
   refine L_indexAddr rfl rfl rfl el65.h rfl (by omega) ?_
   refine L_load0 rfl rfl (by first | exact RdC.blk mm | exact RdC.old (Cells.el h1 rfl hu1)) one9.h rfl ?_
   refine L_indexAddr rfl rfl rfl el65.h rfl (by omega) ?_
   obtain ⟨u0,hu0⟩:=getEl (show k < cur.length by omega)
   refine L_storeElV u1 rfl rfl pk rfl hu0 rfl (flat_str (h1.2.2.1 _ (List.mem_of_getElem? hu1))) (.inr ⟨one9.h,rfl⟩) ?_
   refine s3 ?_
   refine L_binV rfl rfl rfl (bv_addR (by unfold inR;omega)) ?_
   refine s2 ?_
   refine ⟨(k+1,cur.set k u1),sb,ms,?_,?_⟩
   ·exact ⟨by dsimp only;omega,by simpa using hlen,map_take_set GT.dat GT.dat hdat (by omega) hu1 rfl⟩
   ·dsimp only;omega
  ·refine W_exit ?_
   refine s6 ?_
   refine res1 rfl (ResOK.tmp rfl) ⟨⟨some ⟨g,0,none⟩,x1.length,9,cur,[]⟩,?_,?_,rfl⟩ ms
   ·show _=Value.slice _ cur.length _
    rw [hlen]
   ·have hk2:x1.length≤k:=by simpa using hc3
    rw [List.take_of_length_le (by omega),List.take_of_length_le (by omega)] at hdat
    exact hdat
theorem eqCmd_spec (w:World) (t1 t2:T_Cmd) (h1:GT.rd w [] t1) (h2:GT.rd w [] t2):Spec Tryz.prog 135 [.agg (GT.cells t1).toArray,.agg (GT.cells t2).toArray].toArray w [] (IsV (.bool (eqB (GT.dat t1) (GT.dat t2)))):=by
 obtain ⟨a1,a2,a3,a4,a5,a6,a7,a8⟩:=t1
 obtain ⟨b1,b2,b3,b4,b5,b6,b7,b8⟩:=t2
 change Spec _ _ [Value.agg #[.int .i64 a1,.int .i64 a2,.int .i64 a3,.string a4,.string a5,.string a6,.int .i64 a7,a8.hdr],Value.agg #[.int .i64 b1,.int .i64 b2,.int .i64 b3,.string b4,.string b5,.string b6,.int .i64 b7,b8.hdr]].toArray w [] _
 refine Spec.intro Tryz.func135 rfl Tryz.ntmps135 rfl ?_
 refine s2 ?_
 refine bx fun bk2=>?_
 refine bx fun bk3=>?_
 refine s6 ?_
 refine L_load rfl rfl (by first | exact RdC.blk mm) one3.h rfl ?_
 refine s1 ?_
 refine L_load rfl rfl (by first | exact RdC.blk mm) one3.h rfl ?_
 refine s2 ?_
 refine kp [2,3,9] ?_
 refine W_cond rfl (fun hc1=>?_) (fun hc1=>?_)
 ·refine s5 ?_
  refine res1 rfl (ResOK.tmp rfl) ⟨?_,rfl⟩ ms
  clear h1 h2
  first
   | (refine congrArg Value.bool (Eq.symm (eqB_false.2 fun e=>?_));try simp only [dat_pair,dat_int,dat_bool,dat_str,Prod.mk.injEq] at e;simp_all;done)
   | (refine congrArg Value.bool (Eq.symm (eqB_true.2 ?_));try simp only [dat_pair,dat_int,dat_bool,dat_str,Prod.mk.injEq];simp_all;done)
 ·refine s5 ?_
  refine L_load rfl rfl (by first | exact RdC.blk mm) one3.h rfl ?_
  refine s1 ?_
  refine L_load rfl rfl (by first | exact RdC.blk mm) one3.h rfl ?_
  refine s2 ?_
  refine kp [2,3,14] ?_
  refine W_cond rfl (fun hc3=>?_) (fun hc3=>?_)
  ·refine s5 ?_
   refine res1 rfl (ResOK.tmp rfl) ⟨?_,rfl⟩ ms
   clear h1 h2
   first
    | (refine congrArg Value.bool (Eq.symm (eqB_false.2 fun e=>?_));try simp only [dat_pair,dat_int,dat_bool,dat_str,Prod.mk.injEq] at e;simp_all;done)
    | (refine congrArg Value.bool (Eq.symm (eqB_true.2 ?_));try simp only [dat_pair,dat_int,dat_bool,dat_str,Prod.mk.injEq];simp_all;done)
  ·refine s5 ?_
   refine L_load rfl rfl (by first | exact RdC.blk mm) one3.h rfl ?_
   refine s1 ?_
   refine L_load rfl rfl (by first | exact RdC.blk mm) one3.h rfl ?_
   refine s2 ?_
   refine kp [2,3,19] ?_
   refine W_cond rfl (fun hc5=>?_) (fun hc5=>?_)
   ·refine s5 ?_
    refine res1 rfl (ResOK.tmp rfl) ⟨?_,rfl⟩ ms
    clear h1 h2
    first
     | (refine congrArg Value.bool (Eq.symm (eqB_false.2 fun e=>?_));try simp only [dat_pair,dat_int,dat_bool,dat_str,Prod.mk.injEq] at e;simp_all;done)
     | (refine congrArg Value.bool (Eq.symm (eqB_true.2 ?_));try simp only [dat_pair,dat_int,dat_bool,dat_str,Prod.mk.injEq];simp_all;done)
   ·refine s5 ?_
    refine L_load rfl rfl (by first | exact RdC.blk mm) one9.h rfl ?_
    refine s1 ?_
    refine L_load rfl rfl (by first | exact RdC.blk mm) one9.h rfl ?_
    refine s2 ?_
    refine kp [2,3,24] ?_
    refine W_cond rfl (fun hc7=>?_) (fun hc7=>?_)
    ·refine s5 ?_
     refine res1 rfl (ResOK.tmp rfl) ⟨?_,rfl⟩ ms
     clear h1 h2
     first
      | (refine congrArg Value.bool (Eq.symm (eqB_false.2 fun e=>?_));try simp only [dat_pair,dat_int,dat_bool,dat_str,Prod.mk.injEq] at e;simp_all;done)
      | (refine congrArg Value.bool (Eq.symm (eqB_true.2 ?_));try simp only [dat_pair,dat_int,dat_bool,dat_str,Prod.mk.injEq];simp_all;done)
    ·refine s5 ?_
     refine L_load rfl rfl (by first | exact RdC.blk mm) one9.h rfl ?_
     refine s1 ?_
     refine L_load rfl rfl (by first | exact RdC.blk mm) one9.h rfl ?_
     refine s2 ?_
     refine kp [2,3,29] ?_
     refine W_cond rfl (fun hc9=>?_) (fun hc9=>?_)
     ·refine s5 ?_
      refine res1 rfl (ResOK.tmp rfl) ⟨?_,rfl⟩ ms
      clear h1 h2
      first
       | (refine congrArg Value.bool (Eq.symm (eqB_false.2 fun e=>?_));try simp only [dat_pair,dat_int,dat_bool,dat_str,Prod.mk.injEq] at e;simp_all;done)
       | (refine congrArg Value.bool (Eq.symm (eqB_true.2 ?_));try simp only [dat_pair,dat_int,dat_bool,dat_str,Prod.mk.injEq];simp_all;done)
     ·refine s5 ?_
      refine L_load rfl rfl (by first | exact RdC.blk mm) one9.h rfl ?_
      refine s1 ?_
      refine L_load rfl rfl (by first | exact RdC.blk mm) one9.h rfl ?_
      refine s2 ?_
      refine kp [2,3,34] ?_
      refine W_cond rfl (fun hc11=>?_) (fun hc11=>?_)
      ·refine s5 ?_
       refine res1 rfl (ResOK.tmp rfl) ⟨?_,rfl⟩ ms
       clear h1 h2
       first
        | (refine congrArg Value.bool (Eq.symm (eqB_false.2 fun e=>?_));try simp only [dat_pair,dat_int,dat_bool,dat_str,Prod.mk.injEq] at e;simp_all;done)
        | (refine congrArg Value.bool (Eq.symm (eqB_true.2 ?_));try simp only [dat_pair,dat_int,dat_bool,dat_str,Prod.mk.injEq];simp_all;done)
      ·refine s5 ?_
       refine L_load rfl rfl (by first | exact RdC.blk mm) one3.h rfl ?_
       refine s1 ?_
       refine L_load rfl rfl (by first | exact RdC.blk mm) one3.h rfl ?_
       refine s2 ?_
       refine kp [2,3,39] ?_
       refine W_cond rfl (fun hc13=>?_) (fun hc13=>?_)
       ·refine s5 ?_
        refine res1 rfl (ResOK.tmp rfl) ⟨?_,rfl⟩ ms
        clear h1 h2
        first
         | (refine congrArg Value.bool (Eq.symm (eqB_false.2 fun e=>?_));try simp only [dat_pair,dat_int,dat_bool,dat_str,Prod.mk.injEq] at e;simp_all;done)
         | (refine congrArg Value.bool (Eq.symm (eqB_true.2 ?_));try simp only [dat_pair,dat_int,dat_bool,dat_str,Prod.mk.injEq];simp_all;done)
       ·refine s5 ?_
        refine L_load rfl rfl (by first | exact RdC.blk mm) one65.h rfl ?_
        refine s1 ?_
        refine L_load rfl rfl (by first | exact RdC.blk mm) one65.h rfl ?_
        refine L_callX rfl fn199.h rfl (by exact fun w hw=>eqStringS_spec w _ _ (rd_carry (h1.2.2.2.2.2.2.2) hw) (rd_carry (h2.2.2.2.2.2.2.2) hw)) ?_
        refine s2 ?_
        refine kp [45] ?_
        refine W_cond rfl (fun hc15=>?_) (fun hc15=>?_)
        ·refine s5 ?_
         refine res1 rfl (ResOK.tmp rfl) ⟨?_,rfl⟩ ms
         clear h1 h2
         first
          | (refine congrArg Value.bool (Eq.symm (eqB_false.2 fun e=>?_));try simp only [dat_pair,dat_int,dat_bool,dat_str,Prod.mk.injEq] at e;simp_all;done)
          | (refine congrArg Value.bool (Eq.symm (eqB_true.2 ?_));try simp only [dat_pair,dat_int,dat_bool,dat_str,Prod.mk.injEq];simp_all;done)
        ·refine s6 ?_
         refine res1 rfl (ResOK.tmp rfl) ⟨?_,rfl⟩ ms
         clear h1 h2
         first
          | (refine congrArg Value.bool (Eq.symm (eqB_false.2 fun e=>?_));try simp only [dat_pair,dat_int,dat_bool,dat_str,Prod.mk.injEq] at e;simp_all;done)
          | (refine congrArg Value.bool (Eq.symm (eqB_true.2 ?_));try simp only [dat_pair,dat_int,dat_bool,dat_str,Prod.mk.injEq];simp_all;done)
theorem szCmd_spec (w:World) (t1:T_Cmd) (left:Int) (hl:0≤left) (hm:left≤1048576) (h1:GT.rd w [] t1) (ho:Ok.ok (GT.dat t1)):Spec Tryz.prog 104 [.agg (GT.cells t1).toArray,.int .i64 left].toArray w [] (IsV (.int .i64 (if (Bk.bulk t1:Int)≤left then left - (Bk.bulk t1:Int) else -1))):=by
 obtain ⟨a1,a2,a3,a4,a5,a6,a7,a8⟩:=t1
 have hs3:a4.size≤9223372036854775807:=ho.2.2.2.1
 have hs4:a5.size≤9223372036854775807:=ho.2.2.2.2.1
 have hs5:a6.size≤9223372036854775807:=ho.2.2.2.2.2.1
 change Spec _ _ [Value.agg #[.int .i64 a1,.int .i64 a2,.int .i64 a3,.string a4,.string a5,.string a6,.int .i64 a7,a8.hdr],.int .i64 left].toArray w [] _
 refine Spec.intro Tryz.func104 rfl Tryz.ntmps104 rfl ?_
 refine s2 ?_
 refine bx fun bk2=>?_
 refine s6 ?_
 refine L_load rfl rfl (by first | exact RdC.blk mm) one9.h rfl ?_
 refine s1 ?_
 refine L_binV rfl rfl rfl (bv_subR (by unfold inR;omega)) ?_
 refine s8 ?_
 refine kp [1,2,11] ?_
 refine W_cond rfl (fun hc2=>?_) (fun hc2=>?_)
 ·have hb3:left - (a4.size:Int) < 0:=by simpa using hc2
  refine s5 ?_
  refine res1 rfl (ResOK.tmp rfl) ⟨?_,rfl⟩ ms
  try simp only [bulk_pair,bulk_int,bulk_bool,bulk_str,Int.natCast_add,Int.natCast_zero] at *
  all_goals first
   | rfl
   | (rw [if_pos (by omega)]<;>(congr 1<;>omega))
   | (rw [if_neg (by omega)])
 ·have hb3:¬ (left - (a4.size:Int) < 0):=by simpa using hc2
  refine s5 ?_
  refine L_load rfl rfl (by first | exact RdC.blk mm) one9.h rfl ?_
  refine s1 ?_
  refine L_binV rfl rfl rfl (bv_subR (by unfold inR;omega)) ?_
  refine s8 ?_
  refine kp [1,2,18] ?_
  refine W_cond rfl (fun hc5=>?_) (fun hc5=>?_)
  ·have hb4:left - (a4.size:Int) - (a5.size:Int) < 0:=by simpa using hc5
   refine s5 ?_
   refine res1 rfl (ResOK.tmp rfl) ⟨?_,rfl⟩ ms
   try simp only [bulk_pair,bulk_int,bulk_bool,bulk_str,Int.natCast_add,Int.natCast_zero] at *
   all_goals first
    | rfl
    | (rw [if_pos (by omega)]<;>(congr 1<;>omega))
    | (rw [if_neg (by omega)])
  ·have hb4:¬ (left - (a4.size:Int) - (a5.size:Int) < 0):=by simpa using hc5
   refine s5 ?_
   refine L_load rfl rfl (by first | exact RdC.blk mm) one9.h rfl ?_
   refine s1 ?_
   refine L_binV rfl rfl rfl (bv_subR (by unfold inR;omega)) ?_
   refine s8 ?_
   refine kp [1,2,25] ?_
   refine W_cond rfl (fun hc8=>?_) (fun hc8=>?_)
   ·have hb5:left - (a4.size:Int) - (a5.size:Int) - (a6.size:Int) < 0:=by simpa using hc8
    refine s5 ?_
    refine res1 rfl (ResOK.tmp rfl) ⟨?_,rfl⟩ ms
    try simp only [bulk_pair,bulk_int,bulk_bool,bulk_str,Int.natCast_add,Int.natCast_zero] at *
    all_goals first
     | rfl
     | (rw [if_pos (by omega)]<;>(congr 1<;>omega))
     | (rw [if_neg (by omega)])
   ·have hb5:¬ (left - (a4.size:Int) - (a5.size:Int) - (a6.size:Int) < 0):=by simpa using hc8
    refine s4 ?_
    refine L_load rfl rfl (by first | exact RdC.blk mm) one65.h rfl ?_
    refine s1 ?_
    refine L_callX rfl fn170.h rfl (by exact fun w hw=>szStringS_spec w _ (left - (a4.size:Int) - (a5.size:Int) - (a6.size:Int)) (by omega) (by omega) (rd_carry (h1.2.2.2.2.2.2.2) hw) ho.2.2.2.2.2.2.2) ?_
    refine s8 ?_
    refine kp [1,31] ?_
    refine W_cond rfl (fun hc11=>?_) (fun hc11=>?_)
    ·have hb7:¬ ((Bk.bulk a8:Int)≤left - (a4.size:Int) - (a5.size:Int) - (a6.size:Int)):=by
      intro hn
      rw [if_pos hn] at hc11;simp at hc11;omega
     refine s5 ?_
     refine res1 rfl (ResOK.tmp rfl) ⟨?_,rfl⟩ ms
     try simp only [bulk_pair,bulk_int,bulk_bool,bulk_str,Int.natCast_add,Int.natCast_zero] at *
     all_goals first
      | rfl
      | (rw [if_pos (by omega)]<;>(congr 1<;>omega))
      | (rw [if_neg (by omega)])
    ·have hb7:(Bk.bulk a8:Int)≤left - (a4.size:Int) - (a5.size:Int) - (a6.size:Int):=by
      rcases Int.decLt (left - (a4.size:Int) - (a5.size:Int) - (a6.size:Int)) (Bk.bulk a8:Int) with hn | hn
      ·omega
      ·rw [if_neg (by omega)] at hc11;simp at hc11
     rw [if_pos hb7]
     refine s7 ?_
     refine res1 rfl (ResOK.tmp rfl) ⟨?_,rfl⟩ ms
     try simp only [bulk_pair,bulk_int,bulk_bool,bulk_str,Int.natCast_add,Int.natCast_zero] at *
     all_goals first
      | rfl
      | (rw [if_pos (by omega)]<;>(congr 1<;>omega))
      | (rw [if_neg (by omega)])
theorem toCmd_spec (w:World) (t1:T_Cmd) (h1:GT.rd w [] t1) (hb:Bk.bulk t1≤1048576):Spec Tryz.prog 117 [.agg (GT.cells t1).toArray].toArray w [] (fun v M=>∃ t2:T_Cmd,v=.agg (GT.cells t2).toArray∧GT.dat t2=GT.dat t1∧M=[treeH t2]):=by
 obtain ⟨a1,a2,a3,a4,a5,a6,a7,a8⟩:=t1
 have hbk_7:Bk.bulk a8≤1048576:=by (try simp only [bulk_pair,bulk_int,bulk_bool,bulk_str] at hb ⊢);omega
 change Spec _ _ [Value.agg #[.int .i64 a1,.int .i64 a2,.int .i64 a3,.string a4,.string a5,.string a6,.int .i64 a7,a8.hdr]].toArray w [] _
 refine Spec.intro Tryz.func117 rfl Tryz.ntmps117 rfl ?_
 refine s2 ?_
 refine bx fun bk1=>?_
 refine al fun bk2=>?_
 refine s3 ?_
 refine al fun bk3=>?_
 refine s4 ?_
 refine L_load rfl rfl (by first | exact RdC.blk mm) one3.h rfl ?_
 refine s6 ?_
 refine L_load rfl rfl (by first | exact RdC.blk mm) one3.h rfl ?_
 refine s6 ?_
 refine L_load rfl rfl (by first | exact RdC.blk mm) one3.h rfl ?_
 refine s6 ?_
 refine L_load rfl rfl (by first | exact RdC.blk mm) one9.h rfl ?_
 refine s6 ?_
 refine L_load rfl rfl (by first | exact RdC.blk mm) one9.h rfl ?_
 refine s6 ?_
 refine L_load rfl rfl (by first | exact RdC.blk mm) one9.h rfl ?_
 refine s6 ?_
 refine L_load rfl rfl (by first | exact RdC.blk mm) one3.h rfl ?_
 refine s6 ?_
 refine L_load rfl rfl (by first | exact RdC.blk mm) one65.h rfl ?_
 refine L_callR rfl fn178.h rfl (by exact fun w hw=>toStringS_spec w _ (rd_carry (h1.2.2.2.2.2.2.2) hw) hbk_7) ?_
 rintro v M1 ⟨n8t,hv,hd7,rfl⟩
 subst hv
 simp only [List.cons_append,List.nil_append]
 refine s5 ?_
 refine L_loadW rfl rfl (by first | exact RdC.blk mm) (by exact agg69.h) ?_
 refine L_storeW rfl rfl pk (by exact agg69.h) (by rfl) (by first | (simp [Value.oneCell',TL.hdr];done) | (simp [Value.oneCell',TL.hdr,Value.cells];done) | exact fun v hv=>GT.one _ v hv) ?_
 refine s1 ?_
 refine W_conv (M':=treeH ((a1,a2,a3,a4,a5,a6,a7,n8t):T_Cmd)::_) (fun w h=>(tree_snd (flat_int (h1.1)) (tree_snd (flat_int (h1.2.1)) (tree_snd (flat_int (h1.2.2.1)) (tree_snd (flat_str (h1.2.2.2.1)) (tree_snd (flat_str (h1.2.2.2.2.1)) (tree_snd (flat_str (h1.2.2.2.2.2.1)) (tree_snd (flat_int (h1.2.2.2.2.2.2.1)) (frontPick pk h))))))))) ?_
 refine s1 ?_
 refine res1 rfl (ResOK.cell rfl mm (by exact agg69.h)) ⟨(a1,a2,a3,a4,a5,a6,a7,n8t),rfl,by simp only [dat_pair,hd7],rfl⟩ ms
theorem markIdS_spec (w:World) (t1:TL T_Id) (k0:Nat) (hk0:0 < k0) (hb:k0+Mk.cnt t1 < 9223372036854775807):Spec Tryz.prog 82 [t1.hdr,.int .i64 (k0:Int)].toArray w [treeH t1] (fun v M=>v=.int .i64 ((k0+Mk.cnt t1:Nat):Int)∧M=[treeH (Mk.mkd k0 t1)]):=by
 obtain ⟨a1,c1,e1,x1,y1⟩:=t1
 replace hb:k0+cnts x1 < 9223372036854775807:=hb
 dsimp only [TL.hdr]
 refine Spec.intro Tryz.func82 rfl Tryz.ntmps82 rfl ?_
 refine W_fact (fun w h=>ow_facts (h.prs _ (List.mem_cons_self ..))) fun hF=>?_
 replace hF:x1.length≤9223372036854775807∧(0 < x1.length→∃ g,a1=some ⟨g,0,none⟩):=hF
 refine s10 ?_
 refine W_conv (M':=[treeH (⟨a1,c1,e1,half k0 0 x1,y1⟩:TL T_Id)]) (fun w h=>by rw [half_zero];exact h) ?_
 refine W_loopC (σ:=Nat) 0 (fun (i:Nat)=>[(1,.int .i64 ((k0+cnts (x1.take i):Nat):Int)),(5,.int .i64 (i:Int))]) (fun (i:Nat)=>[treeH (⟨a1,c1,e1,half k0 i x1,y1⟩:TL T_Id)]) (fun (i:Nat)=>i≤x1.length) (fun (i:Nat)=>x1.length - i) [(0,_)] [] ?_ sb ms ?_
 ·exact Nat.zero_le _
 ·rintro i hi
  refine kq [0,1,5] ?_
  refine s5 ?_
  refine L_lenS rfl rfl el85.h ?_
  refine s2 ?_
  refine kp [0,1,5,9] ?_
  refine W_cond rfl (fun hc2=>?_) (fun hc2=>?_)
  ·have hk1:i < x1.length:=by simpa using hc2
   obtain ⟨g,rfl⟩:=hF.2 (by omega)
   obtain ⟨u,hu⟩:=getEl hk1
   have hs:=cnts_take_succ hu
   have hle:=cnts_take_le x1 (i+1)
   have hlh:=half_length k0 i x1
   obtain ⟨b1,b2⟩:=u
   simp only [cnt_pair,cnt_int,cnt_str] at hs
   refine s8 ?_
   refine L_indexAddr rfl rfl rfl el85.h rfl (by omega) ?_
   refine s1 ?_
   refine L_storeElF (fo:=0) (x':=(((((k0+cnts (x1.take i)):Nat):Int),b2):T_Id)) rfl rfl pk rfl (show ((half k0 i x1):List T_Id)[i]?=some ((b1,b2):T_Id) from half_get (k:=k0) hu) rfl rfl (by decide) rfl (fun w h=>by exact ⟨(by exact trivial),h.2⟩) one3.h ?_
   refine s4 ?_
   refine L_binV rfl rfl rfl (bv_addR (by unfold inR;omega)) ?_
   refine s2 ?_
   rw [show (((k0+cnts (x1.take i)):Nat):Int)+1=((((k0+cnts (x1.take i))+1):Nat):Int) from rfl]
   refine s5 ?_
   refine L_indexAddr rfl rfl rfl el85.h rfl (by omega) ?_
   refine s1 ?_
   refine L_storeElF (fo:=1) (x':=(((((k0+cnts (x1.take i)):Nat):Int),((((k0+cnts (x1.take i))+1):Nat):Int)):T_Id)) rfl rfl pk rfl (show (((half k0 i x1).set i (((((k0+cnts (x1.take i)):Nat):Int),b2):T_Id)):List T_Id)[i]?=some (((((k0+cnts (x1.take i)):Nat):Int),b2):T_Id) from set_get (half_get (k:=k0) hu)) rfl rfl (by decide) rfl (fun w h=>by exact ⟨h.1,(by exact trivial)⟩) one3.h ?_
   rw [List.set_set]
   refine s3 ?_
   refine L_binV rfl rfl rfl (bv_addR (by unfold inR;omega)) ?_
   refine s2 ?_
   rw [show ((((k0+cnts (x1.take i))+1):Nat):Int)+1=((((k0+cnts (x1.take i))+2):Nat):Int) from rfl]
   have hfin:((half k0 i x1).set i (((((k0+cnts (x1.take i)):Nat):Int),((((k0+cnts (x1.take i))+1):Nat):Int)):T_Id))=half k0 (i+1) x1:=by
    have h9:=half_set (k:=k0) hu
    try simp only [mk_pair,mk_int,mk_str,cnt_pair,cnt_int,cnt_str,← Nat.add_assoc] at h9
    try simp only [List.set_set]
    exact h9
   refine W_conv (M':=treeH (⟨some ⟨g,0,none⟩,c1,e1,(half k0 (i+1) x1),y1⟩:TL T_Id)::_) (fun w h=>by rw [← hfin];exact h) ?_
   have hE:((k0+cnts (x1.take i))+2)=k0+cnts (x1.take (i+1)):=by rw [hs];(try simp only [cnt_pair,cnt_int,cnt_str]);omega
   rw [hE]
   refine s2 ?_
   refine L_binV rfl rfl rfl (bv_addR (by unfold inR;omega)) ?_
   refine s2 ?_
   refine ⟨i+1,sb,ms,?_,?_⟩
   ·show i+1≤x1.length
    omega
   ·show x1.length - (i+1) < x1.length - i
    omega
  ·refine W_exit ?_
   refine s6 ?_
   have hk2:x1.length≤i:=by simpa using hc2
   rw [half_all k0 hk2]
   refine res1 rfl (ResOK.tmp rfl) ⟨?_,rfl⟩ ms
   have hk2:x1.length≤i:=by simpa using hc2
   rw [List.take_of_length_le hk2];rfl
theorem markStringS_spec (w:World) (t1:TL ByteArray) (k0:Nat) (hk0:0 < k0) (hb:k0+Mk.cnt t1 < 9223372036854775807):Spec Tryz.prog 81 [t1.hdr,.int .i64 (k0:Int)].toArray w [treeH t1] (fun v M=>v=.int .i64 ((k0+Mk.cnt t1:Nat):Int)∧M=[treeH (Mk.mkd k0 t1)]):=by
 obtain ⟨a1,c1,e1,x1,y1⟩:=t1
 replace hb:k0+cnts x1 < 9223372036854775807:=hb
 dsimp only [TL.hdr]
 refine Spec.intro Tryz.func81 rfl Tryz.ntmps81 rfl ?_
 refine W_fact (fun w h=>ow_facts (h.prs _ (List.mem_cons_self ..))) fun hF=>?_
 replace hF:x1.length≤9223372036854775807∧(0 < x1.length→∃ g,a1=some ⟨g,0,none⟩):=hF
 refine s10 ?_
 refine W_conv (M':=[treeH (⟨a1,c1,e1,half k0 0 x1,y1⟩:TL ByteArray)]) (fun w h=>by rw [half_zero];exact h) ?_
 refine W_loopC (σ:=Nat) 0 (fun (i:Nat)=>[(1,.int .i64 ((k0+cnts (x1.take i):Nat):Int)),(5,.int .i64 (i:Int))]) (fun (i:Nat)=>[treeH (⟨a1,c1,e1,half k0 i x1,y1⟩:TL ByteArray)]) (fun (i:Nat)=>i≤x1.length) (fun (i:Nat)=>x1.length - i) [(0,_)] [] ?_ sb ms ?_
 ·exact Nat.zero_le _
 ·rintro i hi
  refine kq [0,1,5] ?_
  refine s5 ?_
  refine L_lenS rfl rfl el65.h ?_
  refine s2 ?_
  refine kp [0,1,5,9] ?_
  refine W_cond rfl (fun hc2=>?_) (fun hc2=>?_)
  ·have hk1:i < x1.length:=by simpa using hc2
   obtain ⟨g,rfl⟩:=hF.2 (by omega)
   obtain ⟨u,hu⟩:=getEl hk1
   have hs:=cnts_take_succ hu
   have hle:=cnts_take_le x1 (i+1)
   have hlh:=half_length k0 i x1
   try simp only [cnt_int,cnt_str] at hs
   refine s8 ?_
   refine L_callX rfl fn40.h rfl (by exact fun w hw=>markText_spec w (k0+cnts (x1.take i)) (by omega) (by omega)) ?_
   refine L_indexAddr rfl rfl rfl el65.h rfl (by omega) ?_
   refine L_storeElV (mtx (k0+cnts (x1.take i))) rfl rfl pk rfl (show ((half k0 i x1):List ByteArray)[i]?=some (u:ByteArray) from half_get (k:=k0) hu) rfl (flat_str trivial) (.inr ⟨one9.h,rfl⟩) ?_
   refine s3 ?_
   refine L_binV rfl rfl rfl (bv_addR (by unfold inR;omega)) ?_
   refine s2 ?_
   rw [show (((k0+cnts (x1.take i)):Nat):Int)+1=((((k0+cnts (x1.take i))+1):Nat):Int) from rfl]
   have hfin:((half k0 i x1).set i (mtx (k0+cnts (x1.take i))))=half k0 (i+1) x1:=by
    have h9:=half_set (k:=k0) hu
    try simp only [mk_pair,mk_int,mk_str,cnt_pair,cnt_int,cnt_str,← Nat.add_assoc] at h9
    try simp only [List.set_set]
    exact h9
   refine W_conv (M':=treeH (⟨some ⟨g,0,none⟩,c1,e1,(half k0 (i+1) x1),y1⟩:TL ByteArray)::_) (fun w h=>by rw [← hfin];exact h) ?_
   have hE:((k0+cnts (x1.take i))+1)=k0+cnts (x1.take (i+1)):=by rw [hs];(try simp only [cnt_pair,cnt_int,cnt_str]);omega
   rw [hE]
   refine s2 ?_
   refine L_binV rfl rfl rfl (bv_addR (by unfold inR;omega)) ?_
   refine s2 ?_
   refine ⟨i+1,sb,ms,?_,?_⟩
   ·show i+1≤x1.length
    omega
   ·show x1.length - (i+1) < x1.length - i
    omega
  ·refine W_exit ?_
   refine s6 ?_
   have hk2:x1.length≤i:=by simpa using hc2
   rw [half_all k0 hk2]
   refine res1 rfl (ResOK.tmp rfl) ⟨?_,rfl⟩ ms
   have hk2:x1.length≤i:=by simpa using hc2
   rw [List.take_of_length_le hk2];rfl
end Go.Proofs.SL
