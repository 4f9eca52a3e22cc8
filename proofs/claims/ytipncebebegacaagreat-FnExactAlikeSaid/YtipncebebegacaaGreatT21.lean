/- The texts of the proof, part 21: the base, walks of functions, plain Lean. -/
import Derived.Test.YtipncebebegacaaGreatT20
namespace Go.Proofs.SL
open Go
def partI (l:List D_Inst) (id:D_Id):List D_Id:=isort (Gr.lt2 (seqI l) idLt) (id::(reachI l id).filter fun d=>!decide (d=id)&&decide (id∈reachI l d))
def lt2I (l:List D_Inst):D_Id→D_Id→Bool:=Gr.lt2 (seqI l) idLt
theorem lt2I_sto (l:List D_Inst):Gr.STO (lt2I l):=Gr.lt2_sto idLt_sto
theorem part_iff {l:List D_Inst} (h:instsOkB l=true) (id:D_Id):Gr.Up (lt2I l) (partI l id)∧∀ y,y∈partI l id↔Gr.InPart (dpI l) id y:=by
 obtain ⟨r1,r2⟩:=reach_iff h id
 have hn:(id::(reachI l id).filter fun d=>!decide (d=id)&&decide (id∈reachI l d)).Nodup:=by
  refine List.nodup_cons.2 ⟨fun hm=>?_,(Gr.up_nodup idLt_sto r1).filter _⟩
  have:=(List.mem_filter.1 hm).2
  simp at this
 obtain ⟨u1,u2⟩:=isort_up (lt2I_sto l) hn
 refine ⟨u1,fun y=>?_⟩
 show y∈isort (lt2I l) _↔_
 rw [u2,List.mem_cons,List.mem_filter,r2]
 unfold Gr.InPart
 simp only [Bool.and_eq_true,Bool.not_eq_true',decide_eq_false_iff_not,decide_eq_true_eq]
 rw [(reach_iff h y).2]
 constructor
 ·rintro (q | ⟨q1,_,q2⟩)
  ·exact .inl q
  ·exact .inr ⟨q1,q2⟩
 ·rintro (q | ⟨q1,q2⟩)
  ·exact .inl q
  ·by_cases hy:y=id
   ·exact .inl hy
   ·exact .inr ⟨q1,hy,q2⟩
theorem partOk {l:List D_Inst} (h:instsOkB l=true):Gr.PartOk (rdyI l) (partI l) (l.map (·.1)) :=
 Gr.partOk_of (dp:=dpI l) (cm:=comI l) (lt2I_sto l) (rdy_iff h) (fun _ hc=>com_mem hc) (fun x _ _=>(part_iff h x).1) fun x _ _=>(part_iff h x).2
theorem seq_range {l:List D_Inst} (h:instsOkB l=true) (id:D_Id):0≤seqI l id∧seqI l id≤60:=by
 unfold seqI
 cases hg:getI l id with
 | none=>dsimp only;omega
 | some x=>exact (instOk_facts ((instsOk_facts h).1 x (getI_some hg).1)).2.2.1
theorem part_cmp {l:List D_Inst} (h:instsOkB l=true) (hs:smallL l) (x y:D_Id):∃ v,i_part_c1 x y l=some v∧decide (v < 0)=lt2I l x y:=by
 have hl:=insts_len h
 unfold i_part_c1
 rw [show i_InstAt l (x.1,x.2)=some (atI l x) from i_InstAt_eq (by omega) hs x,Option.bind_some,show i_InstAt l (y.1,y.2)=some (atI l y) from i_InstAt_eq (by omega) hs y,Option.bind_some,at_seq,at_seq]
 have h1:=seq_range h x
 have h2:=seq_range h y
 unfold lt2I Gr.lt2
 by_cases he:seqI l x=seqI l y
 ·rw [decide_eq_true he,Bool.not_true,cond_false]
  obtain ⟨c,c1,c2⟩:=compareIds_lt x y
  refine ⟨c,?_,?_⟩
  ·rw [show i_compareIds (x.1,x.2) (y.1,y.2)=some c from c1];rfl
  ·rw [c2,he,decide_eq_false (show ¬ seqI l y < seqI l y by omega),Bool.false_or,Bool.true_and]
 ·rw [decide_eq_false he,Bool.not_false,cond_true]
  refine ⟨_,rfl,?_⟩
  rw [wrap64_in (n:=seqI l x - seqI l y) (by unfold inR;omega),Bool.false_and,Bool.or_false,Bool.eq_iff_iff,decide_eq_true_eq,decide_eq_true_eq]
  omega
theorem i_part_eq {l:List D_Inst} (ho:Ok.ok l) (h:instsOkB l=true) (hs:smallL l) (id:D_Id):i_part l id=some (partI l id):=by
 have hr:=reach_len h id
 unfold i_part
 rw [Option.bind_some,show i_Reach l (id.1,id.2)=some (reachI l id) from i_Reach_eq ho h hs id,Option.bind_some]
 rw [whileP_for (l:=reachI l id) (fun k (t:List D_Id)=>(t,(k:Int))) (fun t d=>.inl (if (!decide (d=id)&&decide (id∈reachI l d)) then t++[d] else t)) (fun t=>sortFn t (fun z0 z1=>i_part_c1 z0 z1 l)) (fun k t=>t.length≤k+1) [(id.1,id.2)] (s0:=([(id.1,id.2)],0)) rfl (by simp),goE_fold,foldl_filter']
 ·rw [sortFn_eq (lt2I_sto l) (part_cmp h hs) (by
   have:=List.length_filter_le (fun d=>!decide (d=id)&&decide (id∈reachI l d)) (reachI l id)
   simp only [List.length_append,List.length_cons,List.length_nil];omega)]
  rfl
 ·intro k t d hd hI
  have hlt:=(List.getElem?_eq_some_iff.1 hd).1
  have hI2:(if (!decide (d=id)&&decide (id∈reachI l d))=true then t++[d] else t).length≤k+1+1:=by
   split
   ·simp only [List.length_append,List.length_cons,List.length_nil];omega
   ·omega
  refine .inl ⟨_,rfl,?_,hI2⟩
  have hq:(decide (d.1=id.1)&&(decide (d.2=id.2)&&true))=decide (d=id):=idEq_dec d id
  simp only [lt_dec hlt,cond_true,idx_nat,hd,Option.bind_some,hq,wrap_succ (show k < 9223372036854775807 by omega)]
  rw [show i_Reach l (d.1,d.2)=some (reachI l d) from i_Reach_eq ho h hs d]
  by_cases hdi:d=id
  ·rw [decide_eq_true hdi];rfl
  ·rw [decide_eq_false hdi]
   simp only [Bool.not_false,gb_true,Option.bind_some]
   have:=reach_len h d
   rw [contains_dec (by omega),Option.bind_some,appP_ok (by simp;omega)]
   by_cases hm:id∈reachI l d
   ·rw [decide_eq_true hm];rfl
   ·rw [decide_eq_false hm];rfl
 ·intro t ht
  simp only [ge_dec,cond_false]
  cases sortFn t (fun z0 z1=>i_part_c1 z0 z1 l)<;>rfl
theorem InPart.id_of {l:List D_Inst} (h:instsOkB l=true) {id y:D_Id} (hr:rdyI l id=true) (hp:Gr.InPart (dpI l) id y):comI l y=true:=by
 obtain ⟨c1,c2⟩:=(rdy_iff h id).1 hr
 rcases hp with rfl | ⟨q,_⟩
 ·exact c1
 ·exact c2 y q
theorem gb3 {β R:Type} [Inhabited β] (e m n:Bool) (L:β) (f3:β→Option Bool) (h3:f3 L=some n) (A B:Option R):gb (!e) (some m) (fun y7=>gb ((!e)&&(!(!y7))) (some L) (fun y8=>gb ((!e)&&(!(!y7))) (f3 y8) (fun y9=>cond ((!e)&&((!y7)||(!y9))) A B)))=cond (e||(m&&n)) B A:=by
 cases e<;>cases m<;>cases n<;>simp [gb_true,gb_false,h3]
theorem s_l12Part_eq {l:List D_Inst} (h:instsOkB l=true) (id:D_Id) (hr:rdyI l id=true):s_l12Part l id=some (partI l id):=by
 have hl:=insts_len h
 obtain ⟨i1,i2⟩:=instsOk_facts h
 obtain ⟨p1,p2⟩:=part_iff h id
 have hrl:=reach_len h id
 unfold s_l12Part
 rw [Option.bind_some,show s_l12Reach l (id.1,id.2)=some (reachI l id) from s_l12Reach_eq h id,Option.bind_some]
 refine whileP_is (s:=(([]:List D_Id),(0:Int))) (fun s:List D_Id×Int=>∃ k:Nat,s.2=(k:Int)∧k≤l.length∧s.1.length≤k∧Gr.Up (lt2I l) s.1∧∀ y,y∈s.1↔Gr.InPart (dpI l) id y∧∃ j z,j < k∧l[j]?=some z∧z.1=y) (fun s=>(l.length - s.2).toNat) ?_ ⟨0,rfl,Nat.zero_le _,Nat.le_refl _,List.Pairwise.nil,fun y=>⟨fun hy=>(by cases hy),fun ⟨_,j,z,hj,_⟩=>by omega⟩⟩
 rintro ⟨o,k'⟩ ⟨k,g1,hk,hok,hu,hm⟩
 dsimp only at g1 hok hu hm ⊢
 subst g1
 by_cases hkl:k < l.length
 ·left
  have hx:l[k]?=some l[k]:=List.getElem?_eq_getElem hkl
  have hxm:l[k]∈l:=List.getElem_mem _
  generalize l[k]=x at hx hxm
  have hq:(decide (x.1.1=id.1)&&(decide (x.1.2=id.2)&&true))=decide (x.1=id):=idEq_dec x.1 id
  have hrx:=reach_len h x.1
  rw [show decide ((k:Int) < (l.length:Int))=true from decide_eq_true (by omega),cond_true,idx_nat,hx,Option.bind_some,hq]
  rw [show s_l8Has (reachI l id) (x.1.1,x.1.2)=_ from has_dec (x:=x.1) (by omega),show s_l12Reach l (x.1.1,x.1.2)=some (reachI l x.1) from s_l12Reach_eq h x.1]
  have key:=fun (A B:Option ((List D_Id×Int) ⊕ List D_Id))=>gb3 (decide (x.1=id)) (decide (x.1∈reachI l id)) (decide (id∈reachI l x.1)) (reachI l x.1) (fun y8=>s_l8Has y8 (id.1,id.2)) (has_dec (x:=id) (by omega)) A B
  rw [key]
  by_cases hin:Gr.InPart (dpI l) id x.1
  ·have hc3:(decide (x.1=id)||(decide (x.1∈reachI l id)&&decide (id∈reachI l x.1)))=true:=by
    rw [Bool.or_eq_true,Bool.and_eq_true,decide_eq_true_eq,decide_eq_true_eq,decide_eq_true_eq,(reach_iff h id).2,(reach_iff h x.1).2]
    exact hin
   rw [hc3,cond_true]
   have hcom:comI l x.1=true:=InPart.id_of h hr hin
   have hxs:seqI l x.1=x.2.2.2.2.2.1:=by unfold seqI;rw [getI_mem h hxm]
   have hoc:∀ z,z∈o→comI l z=true:=fun z hz=>InPart.id_of h hr ((hm z).1 hz).1
   have hlt:∀ a,a∈o→idLt a x.1=true:=fun a ha=>by
    obtain ⟨_,j,z,hj,hz,rfl⟩:=(hm a).1 ha
    obtain ⟨z1,z2⟩:=List.getElem?_eq_some_iff.1 hz
    obtain ⟨x1,x2⟩:=List.getElem?_eq_some_iff.1 hx
    have:=List.pairwise_iff_getElem.1 i2 j k z1 x1 hj
    rw [z2,x2] at this;exact this
   refine step_in (fun s:Int=>∃ a:Nat,s=(a:Int)∧a≤o.length∧∀ b,b∈o.drop a→seqI l x.1 < seqI l b) (fun s=>s.toNat) (fun s:List D_Id×Int=>∃ a:Nat,a≤o.length∧(∀ b,b∈o.drop a→seqI l x.1 < seqI l b)∧(a=0∨∃ z,o[a - 1]?=some z∧seqI l z≤seqI l x.1)∧s=(o.take a++x.1::o.drop a,((k+1:Nat):Int))) ?_ ⟨o.length,rfl,Nat.le_refl _,fun b hb=>by rw [List.drop_of_length_le (Nat.le_refl _)] at hb;cases hb⟩ ?_
   ·rintro s' ⟨a,a1,a2,a3,rfl⟩
    refine ⟨⟨k+1,rfl,hkl,by simp;omega,Gr.ins_up hu hlt a2 a3,fun y=>?_⟩,by dsimp only;omega⟩
    dsimp only
    rw [Gr.mem_ins,hm]
    constructor
    ·rintro (rfl | ⟨q,j,z,hj,hz⟩)
     ·exact ⟨hin,k,x,by omega,hx,rfl⟩
     ·exact ⟨q,j,z,by omega,hz⟩
    ·rintro ⟨q,j,z,hj,hz,e⟩
     by_cases hjk:j=k
     ·subst hjk
      rw [hx] at hz;cases hz
      exact .inl e.symm
     ·exact .inr ⟨q,j,z,by omega,hz,e⟩
   ·rintro _ ⟨a,rfl,a1,a2⟩
    have fin:(a=0∨∃ z,o[a - 1]?=some z∧seqI l z≤seqI l x.1)→∃ s',(Option.map Sum.inr (Option.bind (some ([]:List D_Id)) (fun y19=>Option.bind (slcP o (a:Int) (o.length:Int)) (fun y20=>Option.bind (appP y19 y20) (fun y23=>Option.bind (slcP o 0 (a:Int)) (fun y24=>Option.bind (appP y24 [(x.1.1,x.1.2)]) (fun y28=>Option.bind (appP y28 y23) (fun y30=>some (Sum.inl ((y30,IntKind.wrap .i64 ((k:Int)+1))))))))))):Option (Int ⊕ ((List D_Id×Int) ⊕ List D_Id)))=some (.inr (.inl s'))∧∃ a:Nat,a≤o.length∧(∀ b,b∈o.drop a→seqI l x.1 < seqI l b)∧(a=0∨∃ z,o[a - 1]?=some z∧seqI l z≤seqI l x.1)∧s'=(o.take a++x.1::o.drop a,((k+1:Nat):Int)):=by
     intro a3
     rw [Option.bind_some,slcP_at (by omega),Option.bind_some,Int.toNat_natCast,Int.toNat_natCast,List.take_of_length_le (by simp),appP_ok (by simp;omega),Option.bind_some,slcP_at (by omega),Option.bind_some]
     rw [show (List.drop (Int.toNat 0) o).take ((a:Int).toNat - Int.toNat 0)=o.take a from rfl,appP_ok (by simp;omega),Option.bind_some,appP_ok (by simp;omega),Option.bind_some,wrap_succ (by omega),Option.map_some]
     exact ⟨_,rfl,a,a1,a2,a3,by simp⟩
    by_cases ha0:a=0
    ·right
     subst ha0
     rw [show decide ((0:Int) < ((0:Nat):Int))=false from rfl]
     simp only [gb_false,Bool.false_and,cond_false]
     exact fin (.inl rfl)
    ·have hz:o[a - 1]?=some (o[a - 1]'(by omega)):=List.getElem?_eq_getElem _
     have hzm:o[a - 1]'(by omega)∈o:=List.getElem_mem _
     generalize o[a - 1]'(by omega)=z at hz hzm
     have hcz:=hoc z hzm
     have hfz:=find_com h z
     rw [hcz] at hfz
     simp only [if_true] at hfz
     rw [show decide ((0:Int) < (a:Int))=true from decide_eq_true (by omega),show IntKind.wrap .i64 ((a:Int) - 1)=((a - 1:Nat):Int) by rw [wrap64_in (by unfold inR;omega)];omega]
     simp only [gb_true,Bool.true_and]
     rw [idx_nat,hz,Option.bind_some,show s_l12Find l (z.1,z.2)=_ from s_l12Find_eq (id:=z) (by omega),Option.bind_some]
     rcases firstI_opt (comP z) l with ⟨f1,f2⟩ | ⟨m,y,f1,f2,f3⟩
     ·rw [f2] at hfz;unfold comI at hcz;rw [← hfz] at hcz;cases hcz
     rw [f1,idx_nat,f2,Option.bind_some,Option.bind_some]
     rw [f3] at hfz
     have hsz:seqI l z=y.2.2.2.2.2.1:=by unfold seqI;rw [← hfz]
     rw [← hsz,← hxs]
     by_cases hc:seqI l x.1 < seqI l z
     ·left
      rw [decide_eq_true hc,cond_true]
      refine ⟨_,rfl,⟨a - 1,rfl,by omega,fun b hb=>?_⟩,by omega⟩
      rw [drop_cons hz] at hb
      rcases List.mem_cons.1 hb with rfl | hb
      ·exact hc
      ·exact a2 b (by rw [show a - 1+1=a by omega] at hb;exact hb)
     ·right
      rw [decide_eq_false hc,cond_false]
      exact fin (.inr ⟨z,hz,by omega⟩)
  ·have hc3:(decide (x.1=id)||(decide (x.1∈reachI l id)&&decide (id∈reachI l x.1)))=false:=by
    rw [Bool.eq_false_iff]
    intro e
    rw [Bool.or_eq_true,Bool.and_eq_true,decide_eq_true_eq,decide_eq_true_eq,decide_eq_true_eq,(reach_iff h id).2,(reach_iff h x.1).2] at e
    exact hin e
   rw [hc3,cond_false,wrap_succ (by omega)]
   refine ⟨_,rfl,⟨k+1,rfl,hkl,by dsimp only;omega,hu,fun y=>?_⟩,by dsimp only;omega⟩
   dsimp only
   rw [hm]
   constructor
   ·rintro ⟨q,j,z,hj,hz⟩;exact ⟨q,j,z,by omega,hz⟩
   ·rintro ⟨q,j,z,hj,hz,e⟩
    by_cases hjk:j=k
    ·subst hjk;rw [hx] at hz;cases hz;rw [← e] at q;exact (hin q).elim
    ·exact ⟨q,j,z,by omega,hz,e⟩
 ·right
  have hkk:k=l.length:=by omega
  subst hkk
  rw [show decide ((l.length:Int) < (l.length:Int))=false from decide_eq_false (by omega),cond_false]
  have:o=partI l id:=Gr.up_ext (lt2I_sto l) hu p1 fun y=>by
   rw [hm,p2]
   refine ⟨fun q=>q.1,fun q=>⟨q,?_⟩⟩
   obtain ⟨z,hz,e⟩:=List.mem_map.1 (com_mem (InPart.id_of h hr q))
   obtain ⟨j,hj⟩:=List.getElem?_of_mem hz
   exact ⟨j,z,(List.getElem?_eq_some_iff.1 hj).1,hj,e⟩
  rw [this];rfl
end Go.Proofs.SL
namespace Go.Proofs.SL
open Go
def freeB (l:List D_Inst) (p told:List D_Id):Bool:=p.all fun x=>(dpI l x).all fun d=>decide (d∈p)||decide (d∈told)
theorem s_l12May_eq {l:List D_Inst} (h:instsOkB l=true) {p told:List D_Id} (hp:p.length≤1000) (ht:told.length≤1000):s_l12May l p told=some (freeB l p told):=by
 unfold s_l12May freeB
 rw [each_loop (p:=fun x=>(dpI l x).all fun d=>decide (d∈p)||decide (d∈told)) (no:=some false) (yes:=some true) (l:=p) (by omega)]
 ·cases p.all fun x=>(dpI l x).all fun d=>decide (d∈p)||decide (d∈told)<;>rfl
 ·intro k x hx
  have hd:=deps_len (dpI_facts h x)
  simp only [lt_dec (List.getElem?_eq_some_iff.1 hx).1,cond_true,idx_nat,hx,Option.bind_some]
  rw [show s_l12Deps l (x.1,x.2)=some (dpI l x) from s_l12Deps_eq h x,Option.bind_some]
  rw [each_loop (p:=fun d=>decide (d∈p)||decide (d∈told)) (no:=some (.inr false)) (yes:=some (.inl (IntKind.wrap .i64 ((k:Int)+1)))) (l:=dpI l x) (by omega)]
  ·rfl
  ·intro j d hd
   simp only [lt_dec (List.getElem?_eq_some_iff.1 hd).1,cond_true,idx_nat,hd,Option.bind_some]
   rw [has_dec hp,Option.bind_some]
   by_cases q:d∈p
   ·rw [decide_eq_true q];rfl
   ·rw [decide_eq_false q]
    simp only [Bool.not_false,gb_true,Option.bind_some]
    rw [has_dec ht,Option.bind_some]
    by_cases q2:d∈told
    ·rw [decide_eq_true q2];rfl
    ·rw [decide_eq_false q2];rfl
  ·simp only [ge_dec];rfl
 ·simp only [ge_dec];rfl
theorem i_isFree_eq {l:List D_Inst} (h:instsOkB l=true) (hs:smallL l) {p told:List D_Id} (hp:p.length≤1000) (ht:told.length≤1000) (hc:∀ x,x∈p→comI l x=true):i_isFree l p told=some (freeB l p told):=by
 have hl:=insts_len h
 unfold i_isFree freeB
 rw [each_loop (p:=fun x=>(dpI l x).all fun d=>decide (d∈p)||decide (d∈told)) (no:=some false) (yes:=some true) (l:=p) (by omega)]
 ·cases p.all fun x=>(dpI l x).all fun d=>decide (d∈p)||decide (d∈told)<;>rfl
 ·intro k x hx
  have hd:=deps_len (dpI_facts h x)
  simp only [lt_dec (List.getElem?_eq_some_iff.1 hx).1,cond_true,idx_nat,hx,Option.bind_some]
  rw [show i_InstAt l (x.1,x.2)=some (atI l x) from i_InstAt_eq (by omega) hs x,Option.bind_some,at_deps (hc x (List.mem_of_getElem? hx))]
  rw [each_loop (p:=fun d=>decide (d∈p)||decide (d∈told)) (no:=some (.inr false)) (yes:=some (.inl (IntKind.wrap .i64 ((k:Int)+1)))) (l:=dpI l x) (by omega)]
  ·rfl
  ·intro j d hd
   simp only [lt_dec (List.getElem?_eq_some_iff.1 hd).1,cond_true,idx_nat,hd,Option.bind_some]
   rw [contains_dec hp,Option.bind_some]
   by_cases q:d∈p
   ·rw [decide_eq_true q];rfl
   ·rw [decide_eq_false q]
    simp only [Bool.not_false,gb_true,Option.bind_some]
    rw [contains_dec ht,Option.bind_some]
    by_cases q2:d∈told
    ·rw [decide_eq_true q2];rfl
    ·rw [decide_eq_false q2];rfl
  ·simp only [ge_dec];rfl
 ·simp only [ge_dec];rfl
theorem idxF_eq {L:List (List D_Id)} {f:List D_Id→Option Bool} {p:List D_Id→Bool} (hL:L.length≤1000) (hf:∀ z,z∈L→f z=some (p z)):sl_IndexFunc_implIdimplId L f=some (firstI p L):=by
 unfold sl_IndexFunc_implIdimplId
 rw [whileP_find (l:=L) p some (by omega)]
 ·intro k x hx
  simp only [lt_dec (List.getElem?_eq_some_iff.1 hx).1,cond_true,idx_nat,hx,Option.bind_some,hf x (List.mem_of_getElem? hx)]
  cases p x<;>rfl
 ·simp only [ge_dec];rfl
theorem conF_eq {L:List (List D_Id)} {f:List D_Id→Option Bool} {p:List D_Id→Bool} (hL:L.length≤1000) (hf:∀ z,z∈L→f z=some (p z)):sl_ContainsFunc_implIdimplId L f=some (L.any p):=by
 unfold sl_ContainsFunc_implIdimplId
 rw [idxF_eq hL hf,Option.bind_some,firstI_any]
def idsI (l:List D_Inst):List D_Id:=l.map (·.1)
def partsI (l:List D_Inst):List (List D_Id):=Gr.parts (freeB l) (rdyI l) (partI l) (idsI l)
theorem part_len {l:List D_Inst} (h:instsOkB l=true) {x:D_Id} (hx:x∈idsI l) (hr:rdyI l x=true):(partI l x).length≤18∧∀ y,y∈partI l x→comI l y=true:=by
 obtain ⟨p1,p2⟩:=part_iff h x
 refine ⟨nodup_len (Gr.up_nodup (lt2I_sto l) p1) fun y hy=>?_,fun y hy=>InPart.id_of h hr ((p2 y).1 hy)⟩
 obtain ⟨z,hz,rfl⟩:=List.mem_map.1 (com_mem (InPart.id_of h hr ((p2 y).1 hy)))
 exact (instOk_facts ((instsOk_facts h).1 z hz)).1
theorem outs_len {l:List D_Inst} (h:instsOkB l=true):∀ {out:List (List D_Id)},Gr.OutOk (rdyI l) (partI l) (idsI l) out→out.flatten.length≤18*out.length
 | [],_=>by simp
 | p::out,ho=>by
  have h1:=outs_len h (out:=out) fun q hq=>ho q (List.mem_cons_of_mem _ hq)
  obtain ⟨z,z1,z2,rfl⟩:=ho p (List.mem_cons_self ..)
  have h2:=(part_len h z1 z2).1
  simp only [List.flatten_cons,List.length_append,List.length_cons]
  omega
theorem comps_len {ι:Type} [DecidableEq ι] {rdy:ι→Bool} {part:ι→List ι}:∀ (xs:List ι) (S:List (List ι)),(Gr.comps rdy part S xs).length≤xs.length
 | [],_=>Nat.le_refl _
 | x::xs,S=>by
  unfold Gr.comps
  split
  ·have:=comps_len (rdy:=rdy) (part:=part) xs (part x::S);simp only [List.length_cons];omega
  ·have:=comps_len (rdy:=rdy) (part:=part) xs S;simp only [List.length_cons];omega
theorem comps_cons (l:List D_Inst) (S:List (List D_Id)) (x:D_Id) (xs:List D_Id):Gr.comps (rdyI l) (partI l) S (x::xs)=if (rdyI l x&&!(S.any fun p=>decide (x∈p)))=true then partI l x::Gr.comps (rdyI l) (partI l) (partI l x::S) xs else Gr.comps (rdyI l) (partI l) S xs:=by
 conv=>lhs;unfold Gr.comps
 exact ite_congr (propext (by simp only [Bool.and_eq_true,Bool.not_eq_true',List.any_eq_false,decide_eq_true_eq])) (fun _=>rfl) (fun _=>rfl)
def restI (l:List D_Inst) (out:List (List D_Id)):List (List D_Id):=Gr.leftL (rdyI l) (partI l) (idsI l) out
theorem rest_len {l:List D_Inst} (h:instsOkB l=true):(restI l []).length≤18:=by
 have h1:(restI l []).length≤_:=List.length_filter_le _ _
 have h2:=comps_len (rdy:=rdyI l) (part:=partI l) (idsI l) []
 have h3:=insts_len h
 unfold idsI at h1 h2
 rw [List.length_map] at h2
 omega
def nextI (l:List D_Inst) (out:List (List D_Id)):Option D_Id:=Gr.nextX (freeB l) (rdyI l) (partI l) (idsI l) out
theorem nextI_find (l:List D_Inst) (out:List (List D_Id)):nextI l out=(l.find? fun x=>!decide (x.1∈out.flatten)&&rdyI l x.1&&freeB l (partI l x.1) out.flatten).map (·.1):=by
 unfold nextI Gr.nextX idsI
 rw [List.find?_map]
 refine congrArg (fun f=>Option.map (·.1) (l.find? f)) (funext fun x=>?_)
 rw [Bool.eq_iff_iff]
 simp only [Function.comp,Bool.and_eq_true,Bool.not_eq_true',decide_eq_false_iff_not]
def OJ (l:List D_Inst) (out:List (List D_Id)):Prop:=Gr.OI (freeB l) (rdyI l) (partI l) (idsI l) out∧out.length+(restI l out).length≤18
theorem OJ.start {l:List D_Inst} (h:instsOkB l=true):OJ l []:=⟨Gr.OI.start _ _ _ _,by have:=rest_len h;simpa using this⟩
theorem OJ.step {l:List D_Inst} (h:instsOkB l=true) {out:List (List D_Id)} (ho:OJ l out) {x:D_Id} (hx:nextI l out=some x):OJ l (out++[partI l x])∧(restI l (out++[partI l x])).length+1=(restI l out).length:=by
 obtain ⟨h1,h2⟩:=Gr.OI.step (partOk h) ho.1 hx
 refine ⟨⟨h1,?_⟩,h2⟩
 have:=ho.2
 rw [List.length_append]
 have h2':(restI l (out++[partI l x])).length+1=(restI l out).length:=h2
 simp only [List.length_cons,List.length_nil]
 omega
theorem OJ.len {l:List D_Inst} (h:instsOkB l=true) {out:List (List D_Id)} (ho:OJ l out):out.length≤18∧out.flatten.length≤324:=by
 have h1:=outs_len h ho.1.1
 have h2:=ho.2
 omega
theorem gb2 {R:Type} (a b:Bool) (f:Option Bool) (x:Option D_Inst) (h:a=false→f=some b) (g:D_Inst→Option Bool) (hg:∃ y,x=some y∧g y=f) (A B:Option R):gb (!a) x (fun y12=>gb (!a) (g y12) (fun y13=>cond (a||(!y13)) A B))=cond (!a&&b) B A:=by
 obtain ⟨y,rfl,h2⟩:=hg
 cases a with
 | true=>simp [gb_false]
 | false=>simp only [Bool.not_false,gb_true,Option.bind_some,h2,h rfl,Bool.false_or,Bool.true_and];cases b<;>rfl
theorem s_round {l:List D_Inst} (ho:Ok.ok l) (h:instsOkB l=true) (out:List (List D_Id)) (told:List D_Id) (hI:OJ l out) (ht:told=out.flatten) :
    (whileP (fun s8:(List (List D_Id))×(List D_Id)×Bool×Int=>cond ((decide (s8.2.2.2 < (l.length:Int)))&&(!s8.2.2.1)) (Option.bind (idx l s8.2.2.2) (fun y10=>Option.bind (s_l8Has s8.2.1 (y10.1.1,y10.1.2)) (fun y11=>gb (!y11) (idx l s8.2.2.2) (fun y12=>gb (!y11) (s_l12Ready l (y12.1.1,y12.1.2)) (fun y13=>cond (y11||(!y13)) (some (.inl ((s8.1,s8.2.1,s8.2.2.1,IntKind.wrap .i64 (s8.2.2.2+1))))) (Option.bind (idx l s8.2.2.2) (fun y15=>Option.bind (s_l12Part l (y15.1.1,y15.1.2)) (fun y16=>Option.bind (s_l12May l y16 s8.2.1) (fun y17=>cond y17 (Option.bind (appP s8.1 [y16]) (fun y20=>Option.bind (appP s8.2.1 y16) (fun y22=>some (.inl ((y20,y22,true,IntKind.wrap .i64 (s8.2.2.2+1))))))) (some (.inl ((s8.1,s8.2.1,s8.2.2.1,IntKind.wrap .i64 (s8.2.2.2+1)))))))))))))) (Option.map .inr (cond (!s8.2.2.1) (Option.map .inr (some s8.1)) (some (.inl ((s8.1,s8.2.1))))))) (out,told,false,0):Option (((List (List D_Id))×(List D_Id)) ⊕ (List (List D_Id))))
   =some (match nextI l out with | none=>.inr out | some x=>.inl (out++[partI l x],told++partI l x)):=by
  have hl:=insts_len h
  obtain ⟨l1,l2⟩:=hI.len h
  have htl:told.length≤324:=by rw [ht];exact l2
  have hn:=nextI_find l out
  refine whileP_is (s:=(out,told,false,(0:Int))) (fun s:(List (List D_Id))×(List D_Id)×Bool×Int=>∃ k:Nat,s.2.2.2=(k:Int)∧k≤l.length ∧
      ((s.1=out∧s.2.1=told∧s.2.2.1=false∧nextI l out=((l.drop k).find? fun x=>!decide (x.1∈out.flatten)&&rdyI l x.1&&freeB l (partI l x.1) out.flatten).map (·.1)) ∨
       (∃ x,nextI l out=some x∧s.1=out++[partI l x]∧s.2.1=told++partI l x∧s.2.2.1=true))) (fun s=>(l.length - s.2.2.2).toNat) ?_ ⟨0,rfl,Nat.zero_le _,.inl ⟨rfl,rfl,rfl,hn⟩⟩
  rintro ⟨o,t,m,k'⟩ ⟨k,g1,hk,g2⟩
  dsimp only at g1 g2 ⊢
  subst g1
  rcases g2 with ⟨rfl,rfl,rfl,g⟩ | ⟨x,g3,rfl,rfl,rfl⟩
  · by_cases hkl:k < l.length
    · left
      have hx:l[k]?=some l[k]:=List.getElem?_eq_getElem hkl
      have hxm:l[k]∈l:=List.getElem_mem _
      generalize l[k]=x at hx hxm
      rw [drop_cons hx] at g
      have w1:IntKind.wrap .i64 ((k:Int)+1)=((k+1:Nat):Int):=wrap_succ (by omega)
      have hxi:x.1∈idsI l:=List.mem_map.2 ⟨x,hxm,rfl⟩
      rw [show decide ((k:Int) < (l.length:Int))=true from decide_eq_true (by omega)]
      simp only [Bool.not_false,Bool.and_self,cond_true,w1]
      rw [idx_nat,hx,Option.bind_some,show s_l8Has t (x.1.1,x.1.2)=_ from has_dec (x:=x.1) (by omega),Option.bind_some]
      rw [gb2 (decide (x.1∈t)) (rdyI l x.1) (s_l12Ready l (x.1.1,x.1.2)) (some x) (fun _=>s_l12Ready_eq h x.1) (fun y12=>s_l12Ready l (y12.1.1,y12.1.2)) ⟨x,rfl,rfl⟩]
      have no:(!decide (x.1∈o.flatten)&&rdyI l x.1&&freeB l (partI l x.1) o.flatten)=false→∃ s':(List (List D_Id))×(List D_Id)×Bool×Int,(some (.inl (o,t,false,((k+1:Nat):Int))):Option (_ ⊕ (((List (List D_Id))×(List D_Id)) ⊕ (List (List D_Id)))))=some (.inl s')∧(∃ k:Nat,s'.2.2.2=(k:Int)∧k≤l.length ∧
          ((s'.1=o∧s'.2.1=t∧s'.2.2.1=false∧nextI l o=((l.drop k).find? fun x=>!decide (x.1∈o.flatten)&&rdyI l x.1&&freeB l (partI l x.1) o.flatten).map (·.1)) ∨
           (∃ x,nextI l o=some x∧s'.1=o++[partI l x]∧s'.2.1=t++partI l x∧s'.2.2.1=true)))∧((l.length:Int) - s'.2.2.2).toNat < ((l.length:Int) - (k:Int)).toNat:=by
        intro hc
        refine ⟨_,rfl,⟨k+1,rfl,hkl,.inl ⟨rfl,rfl,rfl,?_⟩⟩,by dsimp only;omega⟩
        rw [g,List.find?_cons_of_neg (by rw [hc];simp)]
      cases hc:(!decide (x.1∈t)&&rdyI l x.1) with
      | false=>rw [cond_false];exact no (by rw [← ht,hc];rfl)
      | true =>
        have hr:rdyI l x.1=true:=(Bool.and_eq_true _ _ ▸ hc).2
        obtain ⟨q1,q2⟩:=part_len h hxi hr
        rw [cond_true,Option.bind_some,show s_l12Part l (x.1.1,x.1.2)=some (partI l x.1) from s_l12Part_eq h x.1 hr,Option.bind_some,s_l12May_eq h (by omega) (by omega),Option.bind_some]
        cases hf:freeB l (partI l x.1) t with
        | false=>rw [cond_false];exact no (by rw [← ht,hc,hf];rfl)
        | true =>
          rw [cond_true,appP_ok (by simp;omega),Option.bind_some,appP_ok (by omega),Option.bind_some]
          refine ⟨_,rfl,⟨k+1,rfl,hkl,.inr ⟨x.1,?_,rfl,rfl,rfl⟩⟩,by dsimp only;omega⟩
          rw [g,List.find?_cons_of_pos (by rw [← ht,hc,hf];rfl)];rfl
    · right
      rw [show decide ((k:Int) < (l.length:Int))=false from decide_eq_false (by omega)]
      simp only [Bool.false_and,cond_false,Bool.not_false,cond_true]
      rw [List.drop_of_length_le (by omega)] at g
      rw [g];rfl
  · right
    simp only [Bool.not_true,Bool.and_false,cond_false]
    rw [g3];rfl
theorem s_Parts_eq {l:List D_Inst} (ho:Ok.ok l):s_Parts l=some (if instsOkB l then partsI l else []):=by
 unfold s_Parts
 rw [Option.bind_some,Option.bind_some]
 by_cases h:instsOkB l=true
 ·rw [if_pos h]
  refine whileP_is (s:=(([]:List (List D_Id)),([]:List D_Id))) (fun s:(List (List D_Id))×(List D_Id)=>OJ l s.1∧s.2=s.1.flatten) (fun s=>(restI l s.1).length) ?_ ⟨OJ.start h,rfl⟩
  rintro ⟨o,t⟩ ⟨g1,g2⟩
  dsimp only at g1 g2 ⊢
  rw [s_InstsOk_eq ho,h,Option.bind_some,cond_true,s_round ho h o t g1 g2]
  cases hn:nextI l o with
  | none=>right;rw [g1.1.stop hn];rfl
  | some x =>
   left
   obtain ⟨h1,h2⟩:=g1.step h hn
   refine ⟨_,rfl,⟨h1,?_⟩,by dsimp only;omega⟩
   dsimp only
   rw [g2];simp
 ·rw [if_neg h]
  refine whileP_is (s:=(([]:List (List D_Id)),([]:List D_Id))) (fun s:(List (List D_Id))×(List D_Id)=>s=([],[])) (fun s=>0) ?_ rfl
  rintro _ rfl
  right
  rw [s_InstsOk_eq ho,(Bool.eq_false_iff.2 h),Option.bind_some,cond_false];rfl
theorem i_Parts_eq {l:List D_Inst} (ho:Ok.ok l) (hs:smallL l):i_Parts l=some (if instsOkB l then partsI l else []):=by
 unfold i_Parts
 rw [i_InstsOk_eq ho,Option.bind_some]
 by_cases h:instsOkB l=true
 ·rw [if_pos h,h,Bool.not_true,cond_false,Option.bind_some]
  have hl:=insts_len h
  refine whileP_is (s:=(([]:List (List D_Id)),(0:Int))) (fun s:(List (List D_Id))×Int=>∃ k:Nat,s.2=(k:Int)∧k≤l.length∧s.1.length≤k∧(∀ p,p∈s.1→p.length≤18)∧s.1++Gr.comps (rdyI l) (partI l) s.1.reverse (idsI (l.drop k))=Gr.comps (rdyI l) (partI l) [] (idsI l)) (fun s=>(l.length - s.2).toNat) ?_ ⟨0,rfl,Nat.zero_le _,Nat.le_refl _,fun p hp=>(by cases hp),rfl⟩
  rintro ⟨o,k'⟩ ⟨k,g1,hk,hol,hop,he⟩
  dsimp only at g1 hol hop he ⊢
  subst g1
  by_cases hkl:k < l.length
  ·left
   have hx:l[k]?=some l[k]:=List.getElem?_eq_getElem hkl
   have hxm:l[k]∈l:=List.getElem_mem _
   generalize l[k]=x at hx hxm
   rw [drop_cons hx] at he
   have w1:IntKind.wrap .i64 ((k:Int)+1)=((k+1:Nat):Int):=wrap_succ (by omega)
   have hxi:x.1∈idsI l:=List.mem_map.2 ⟨x,hxm,rfl⟩
   rw [show idsI (x::l.drop (k+1))=x.1::idsI (l.drop (k+1)) from rfl] at he
   rw [comps_cons,List.any_reverse] at he
   rw [show decide ((k:Int) < (l.length:Int))=true from decide_eq_true (by omega),cond_true,w1,idx_nat,hx,Option.bind_some]
   rw [conF_eq (p:=fun z=>decide (x.1∈z)) (by omega) (fun z hz=>by
    unfold i_Parts_c1
    rw [show sl_Contains_implIdimplId z _=_ from contains_dec (x:=x.1) (by have:=hop z hz;omega)];rfl),Option.bind_some]
   cases ha:o.any fun z=>decide (x.1∈z) with
   | true =>
    rw [ha] at he
    simp only [Bool.not_true,Bool.and_false,Bool.false_eq_true,if_false] at he
    exact ⟨_,rfl,⟨k+1,rfl,hkl,by dsimp only;omega,hop,he⟩,by dsimp only;omega⟩
   | false =>
    rw [ha] at he
    simp only [Bool.not_false,gb_true,Bool.true_and,Bool.and_true] at he ⊢
    rw [show i_Ready l (x.1.1,x.1.2)=some (rdyI l x.1) from i_Ready_eq ho h hs x.1,Option.bind_some]
    cases hr:rdyI l x.1 with
    | false =>
     rw [hr] at he
     simp only [Bool.false_eq_true,if_false] at he
     exact ⟨_,rfl,⟨k+1,rfl,hkl,by dsimp only;omega,hop,he⟩,by dsimp only;omega⟩
    | true =>
     rw [hr] at he
     simp only [if_true] at he
     rw [cond_true,show i_part l (x.1.1,x.1.2)=some (partI l x.1) from i_part_eq ho h hs x.1,Option.bind_some,appP_ok (by simp;omega),Option.bind_some]
     refine ⟨_,rfl,⟨k+1,rfl,hkl,by simp;omega,fun p hp=>?_,?_⟩,by dsimp only;omega⟩
     ·rcases List.mem_append.1 hp with hp | hp
      ·exact hop p hp
      ·rw [List.mem_singleton.1 hp];exact (part_len h hxi hr).1
     ·dsimp only
      rw [List.reverse_append]
      simpa using he
  ·right
   have hkk:k=l.length:=by omega
   subst hkk
   rw [show decide ((l.length:Int) < (l.length:Int))=false from decide_eq_false (by omega),cond_false,Option.bind_some,Option.bind_some]
   rw [List.drop_of_length_le (Nat.le_refl _)] at he
   have he:o=restI l []:=by
    have e1:o=Gr.comps (rdyI l) (partI l) [] (idsI l):=by rw [← he];exact (List.append_nil _).symm
    rw [e1]
    unfold restI Gr.leftL
    exact (List.filter_eq_self.2 fun p _=>rfl).symm
   subst he
   have:whileP (fun s19:(List (List D_Id))×(List (List D_Id))×(List D_Id)=>cond (decide (0 < (s19.1.length:Int))) (Option.bind (sl_IndexFunc_implIdimplId s19.1 (fun z0=>i_Parts_c2 z0 l s19.2.2)) (fun y21=>cond (decide (y21 < 0)) (Option.map .inr (some s19.2.1)) (Option.bind (idx s19.1 y21) (fun y24=>Option.bind (appP s19.2.1 [y24]) (fun y26=>Option.bind (idx s19.1 y21) (fun y27=>Option.bind (appP s19.2.2 y24) (fun y29=>Option.bind (delP s19.1 y21 (IntKind.wrap .i64 (y21+1))) (fun y30=>some (.inl ((y30,y26,y29))))))))))) (Option.map .inr (some s19.2.1))) (restI l [],([]:List (List D_Id)),([]:List D_Id))=some (partsI l):=by
    refine whileP_is (s:=(restI l [],([]:List (List D_Id)),([]:List D_Id))) (fun s:(List (List D_Id))×(List (List D_Id))×(List D_Id)=>OJ l s.2.1∧s.1=restI l s.2.1∧s.2.2=s.2.1.flatten) (fun s=>s.1.length) ?_ ⟨OJ.start h,rfl,rfl⟩
    rintro ⟨r,o,t⟩ ⟨g1,g2,g3⟩
    dsimp only at g1 g2 g3 ⊢
    obtain ⟨l1,l2⟩:=g1.len h
    have htl:t.length≤324:=by rw [g3];exact l2
    have hrl:r.length≤18:=by have:=g1.2;rw [g2];omega
    have hrm:∀ p,p∈r→∃ z,z∈idsI l∧rdyI l z=true∧p=partI l z:=fun p hp=>by
     rw [g2] at hp
     obtain ⟨z,z1,z2,z3,_⟩:=Gr.comps_mem _ _ _ (List.mem_filter.1 hp).1
     exact ⟨z,z1,z2,z3⟩
    have hb:=Gr.step_both (free:=freeB l) (partOk h) g1.1.1
    rw [show Gr.leftL (rdyI l) (partI l) (l.map (·.1)) o=r from g2.symm,← g3] at hb
    cases hr0:r with
    | nil =>
     right
     rw [show decide ((0:Int) < ((([]:List (List D_Id)).length:Nat):Int))=false from rfl,cond_false]
     rcases hb with ⟨h1,_⟩ | ⟨x,k,_,h2,_⟩
     ·rw [g1.1.stop h1];rfl
     ·rw [hr0] at h2;simp at h2
    | cons p0 r0 =>
     rw [← hr0]
     rw [show decide ((0:Int) < (r.length:Int))=true from decide_eq_true (by rw [hr0];simp),cond_true]
     rw [idxF_eq (p:=fun p=>freeB l p t) (by omega) (fun z hz=>by
      obtain ⟨y,y1,y2,rfl⟩:=hrm z hz
      obtain ⟨q1,q2⟩:=part_len h y1 y2
      unfold i_Parts_c2
      rw [i_isFree_eq h hs (by omega) (by omega) q2];rfl),Option.bind_some]
     unfold firstI
     rcases hb with ⟨h1,h2⟩ | ⟨x,k,h1,h2,h3,h4,_,h6,h7⟩
     ·right
      rw [h2,g1.1.stop h1];rfl
     ·left
      rw [h2]
      have hklt:=(List.getElem?_eq_some_iff.1 h3).1
      obtain ⟨q1,q2⟩:=part_len h (show x∈idsI l from h6) h7
      dsimp only
      rw [show decide ((k:Int) < 0)=false from decide_eq_false (by omega),cond_false,idx_nat,h3,Option.bind_some,appP_ok (by simp;omega),Option.bind_some,Option.bind_some,appP_ok (by omega),Option.bind_some,wrap_succ (by omega)]
      unfold delP
      rw [if_pos (by omega),Option.bind_some]
      obtain ⟨s1,s2⟩:=g1.step h h1
      rw [show r.take (k:Int).toNat++r.drop (((k+1:Nat):Int)).toNat=r.eraseIdx k from (List.eraseIdx_eq_take_drop_succ ..).symm]
      refine ⟨_,rfl,⟨s1,h4,?_⟩,?_⟩
      ·dsimp only;rw [g3];simp
      ·dsimp only;rw [h4]
       have s2':=s2
       rw [← g2] at s2'
       have e:(restI l (o++[partI l x]))=Gr.leftL (rdyI l) (partI l) (l.map (·.1)) (o++[partI l x]):=rfl
       rw [e] at s2'
       omega
   rw [this];rfl
 ·rw [if_neg h,(Bool.eq_false_iff.2 h),Bool.not_false,cond_true]
end Go.Proofs.SL
namespace Go.Proofs.SL
open Go
noncomputable def ordI (l:List D_Inst):List D_Id:=if instsOkB l then (partsI l).flatten else []
theorem OJ.nodup_step {l:List D_Inst} (h:instsOkB l=true) {out:List (List D_Id)} (ho:OJ l out) (hn:out.flatten.Nodup) {x:D_Id} (hx:nextI l out=some x):(out++[partI l x]).flatten.Nodup:=by
 have h1:=List.mem_of_find?_eq_some hx
 have h2:=List.find?_some hx
 simp only [Bool.and_eq_true,Bool.not_eq_true',decide_eq_false_iff_not] at h2
 rw [List.flatten_append,List.flatten_cons,List.flatten_nil,List.append_nil]
 refine List.nodup_append.2 ⟨hn,Gr.up_nodup (lt2I_sto l) (part_iff h x).1,fun a ha b hb e=>?_⟩
 subst e
 obtain ⟨p,hp,hap⟩:=List.mem_flatten.1 ha
 obtain ⟨z,z1,z2,rfl⟩:=ho.1.1 p hp
 have hk:=partOk h
 have e1:=(hk.mem z z1 z2 a hap).2.2
 have e2:=(hk.mem x h1 h2.1.2 a hb).2.2
 refine h2.1.1 (List.mem_flatten.2 ⟨_,hp,?_⟩)
 rw [← e1,e2]
 exact hk.self x h1 h2.1.2
theorem order_OJ {l:List D_Inst} (h:instsOkB l=true):∀ (n:Nat) (out:List (List D_Id)),OJ l out→out.flatten.Nodup→OJ l (Gr.orderS (freeB l) (rdyI l) (partI l) (idsI l) n out)∧(Gr.orderS (freeB l) (rdyI l) (partI l) (idsI l) n out).flatten.Nodup
 | 0,out,h1,h2=>⟨h1,h2⟩
 | n+1,out,h1,h2=>by
  unfold Gr.orderS
  cases hx:Gr.nextX (freeB l) (rdyI l) (partI l) (idsI l) out with
  | none=>exact ⟨h1,h2⟩
  | some x=>exact order_OJ h n _ (h1.step h hx).1 (h1.nodup_step h h2 hx)
theorem parts_OJ {l:List D_Inst} (h:instsOkB l=true):OJ l (partsI l)∧(partsI l).flatten.Nodup:=order_OJ h _ [] (OJ.start h) List.nodup_nil
theorem ord_nodup (l:List D_Inst):(ordI l).Nodup∧(ordI l).length≤324:=by
 unfold ordI
 split
 ·rename_i h
  exact ⟨(parts_OJ h).2,((parts_OJ h).1.len h).2⟩
 ·exact ⟨List.nodup_nil,by simp⟩
theorem flat_take_le (P:List (List D_Id)) (k:Nat):(P.take k).flatten.length≤P.flatten.length:=by
 conv=>rhs;rw [← List.take_append_drop k P,List.flatten_append,List.length_append]
 omega
theorem flat_loop {P:List (List D_Id)} (h:P.flatten.length≤1000) (hP:P.length≤1000):whileP (fun s4:(List D_Id)×Int=>cond (decide (s4.2 < (P.length:Int))) (Option.bind (idx P s4.2) (fun y6=>Option.bind (appP s4.1 y6) (fun y8=>some (.inl ((y8,IntKind.wrap .i64 (s4.2+1))))))) (Option.map .inr (some s4.1))) (([]:List D_Id),0)=some P.flatten:=by
 refine whileP_is (s:=(([]:List D_Id),(0:Int))) (fun s:List D_Id×Int=>∃ k:Nat,s.2=(k:Int)∧k≤P.length∧s.1=(P.take k).flatten) (fun s=>(P.length - s.2).toNat) ?_ ⟨0,rfl,Nat.zero_le _,rfl⟩
 rintro ⟨o,k'⟩ ⟨k,g1,hk,g2⟩
 dsimp only at g1 g2 ⊢
 subst g1
 by_cases hkl:k < P.length
 ·left
  have hx:P[k]?=some P[k]:=List.getElem?_eq_getElem hkl
  generalize P[k]=x at hx
  have e:(P.take (k+1)).flatten=o++x:=by rw [List.take_add_one,hx,List.flatten_append,← g2];simp
  have:=flat_take_le P (k+1)
  rw [e,List.length_append] at this
  rw [show decide ((k:Int) < (P.length:Int))=true from decide_eq_true (by omega),cond_true,idx_nat,hx,Option.bind_some,appP_ok (by omega),Option.bind_some,wrap_succ (by omega)]
  exact ⟨_,rfl,⟨k+1,rfl,hkl,e.symm⟩,by dsimp only;omega⟩
 ·right
  rw [show decide ((k:Int) < (P.length:Int))=false from decide_eq_false (by omega),cond_false,g2,List.take_of_length_le (by omega)];rfl
theorem partsB_len (l:List D_Inst):(if instsOkB l then partsI l else []).flatten.length≤324∧(if instsOkB l then partsI l else []).length≤18:=by
 split
 ·rename_i h
  have:=(parts_OJ h).1.len h
  exact ⟨this.2,this.1⟩
 ·simp
theorem ordI_eq (l:List D_Inst):(if instsOkB l then partsI l else []).flatten=ordI l:=by
 unfold ordI
 split<;>rfl
theorem s_ExecOrder_eq {l:List D_Inst} (ho:Ok.ok l):s_ExecOrder l=some (ordI l):=by
 unfold s_ExecOrder
 obtain ⟨h1,h2⟩:=partsB_len l
 rw [Option.bind_some,s_Parts_eq ho,Option.bind_some,flat_loop (by omega) (by omega),ordI_eq]
theorem i_ExecOrder_eq {l:List D_Inst} (ho:Ok.ok l) (hs:smallL l):i_ExecOrder l=some (ordI l):=by
 unfold i_ExecOrder
 obtain ⟨h1,h2⟩:=partsB_len l
 rw [Option.bind_some,i_Parts_eq ho hs,Option.bind_some,flat_loop (by omega) (by omega),ordI_eq]
end Go.Proofs.SL
namespace Go.Proofs.SL
open Go
theorem s_l9Alike_eq {a b:List D_Id} (ha:a.length≤9223372036854775807):s_l9Alike a b=some (pB (a=b)):=by
 unfold s_l9Alike
 by_cases hl:a.length=b.length
 ·rw [decide_eq_true (by omega),Bool.not_true,cond_false]
  rw [whileP_all (n:=a.length) (fun k=>decide (a[k]?=b[k]?)) (some false) (some true)]
  ·by_cases h:a=b
   ·subst h
    rw [if_pos (List.all_eq_true.2 fun k _=>by simp)]
    unfold pB;simp
   ·rw [if_neg]
    ·unfold pB;simp [h]
    ·intro q
     refine h (List.ext_getElem? fun k=>?_)
     by_cases hk:k < a.length
     ·exact of_decide_eq_true (List.all_eq_true.1 q k (List.mem_range.2 hk))
     ·rw [List.getElem?_eq_none (by omega),List.getElem?_eq_none (by omega)]
  ·intro k hk
   have hx:a[k]?=some a[k]:=List.getElem?_eq_getElem hk
   have hy:b[k]?=some (b[k]'(by omega)):=List.getElem?_eq_getElem _
   generalize a[k]=x at hx
   generalize b[k]'(by omega)=y at hy
   have hq:(decide (x.1=y.1)&&(decide (x.2=y.2)&&true))=decide (x=y):=idEq_dec x y
   rw [decide_eq_true (show (k:Int) < (a.length:Int) by omega),cond_true,idx_nat,hx,Option.bind_some,idx_nat,hy,Option.bind_some,hq,wrap_succ (by omega)]
   by_cases h:x=y
   ·subst h;simp
   ·rw [decide_eq_false h,if_neg (by simp [h])];rfl
  ·rw [decide_eq_false (by omega)];rfl
 ·rw [decide_eq_false (by omega),Bool.not_false,cond_true]
  have h:a≠b:=fun e=>hl (by rw [e])
  unfold pB
  simp [h]
theorem equalIds_eq {a b:List D_Id} (ha:a.length≤9223372036854775807):sl_Equal_implIdimplId a b=some (pB (a=b)):=s_l9Alike_eq ha
noncomputable def sameMB (a b:D_EMsg):Bool:=(s_SameMsg a b).getD false
theorem sameMsg_both {a b:D_EMsg} (ho:Ok.ok a):s_SameMsg a b=some (sameMB a b)∧i_SameMsg a b=some (sameMB a b):=by
 have h:i_SameMsg a b=s_SameMsg a b∧∃ r,s_SameMsg a b=some r:=by
  unfold i_SameMsg s_SameMsg
  rw [show s_SameCmd _ _=_ from s_SameCmd_eq (a:=a.2.2.2.2.2.1) (b:=b.2.2.2.2.2.1) ho.2.2.2.2.2.1,show i_SameCmd _ _=_ from i_SameCmd_eq (a:=a.2.2.2.2.2.1) (b:=b.2.2.2.2.2.1) ho.2.2.2.2.2.1,
   s_l9Alike_eq (a:=a.2.2.2.2.2.2.2.1) ho.2.2.2.2.2.2.2.1.1,equalIds_eq (a:=a.2.2.2.2.2.2.2.1) ho.2.2.2.2.2.2.2.1.1]
  refine ⟨rfl,?_⟩
  simp only [gbs]
  split<;>split<;>exact ⟨_,rfl⟩
 obtain ⟨h1,r,h2⟩:=h
 rw [h1]
 unfold sameMB
 rw [h2]
 exact ⟨rfl,rfl⟩
noncomputable def msgOkB (d:D_EMsg):Bool:=(s_EMsgOk d).getD false
theorem msgOk_both {d:D_EMsg} (ho:Ok.ok d):s_EMsgOk d=some (msgOkB d)∧i_EMsgOk d=some (msgOkB d):=by
 have h:i_EMsgOk d=s_EMsgOk d∧∃ r,s_EMsgOk d=some r:=by
  have hd:=ho.2.2.2.2.2.2.2.1.1
  unfold i_EMsgOk s_EMsgOk
  rw [show s_CmdOk _=_ from s_CmdOk_eq (c:=d.2.2.2.2.2.1) ho.2.2.2.2.2.1,show i_CmdOk _=_ from i_CmdOk_eq (c:=d.2.2.2.2.2.1) ho.2.2.2.2.2.1,
   show s_l8Id _=_ from s_l8Id_eq d.2.2.2.1,show i_idOk _=_ from i_idOk_eq d.2.2.2.1,s_IdsOk_eq hd,show s_l8Has _ _=_ from s_l8Has_eq (l:=d.2.2.2.2.2.2.2.1) (x:=d.2.2.2.1) hd,show i_areDeps _ _=_ from i_areDeps_eq (l:=d.2.2.2.2.2.2.2.1) (x:=d.2.2.2.1) hd]
  simp only [l1In_eq,within_eq,isRep_eq,l9Node_eq,Option.bind_some]
  generalize decide (1≤d.1∧d.1≤7)=v1
  generalize decide (0≤d.2.1∧d.2.1 < 3)=v2
  generalize decide (0≤d.2.2.1∧d.2.2.1 < 3)=v3
  generalize (!decide (d.2.1=d.2.2.1))=v0
  generalize idOkB d.2.2.2.1=v4
  generalize decide (0≤d.2.2.2.2.1∧d.2.2.2.2.1≤600)=v5
  generalize cmdOkB d.2.2.2.2.2.1=v6
  generalize decide (0≤d.2.2.2.2.2.2.1∧d.2.2.2.2.2.2.1≤60)=v7
  generalize idsOkB d.2.2.2.2.2.2.2.1=v8
  generalize (d.2.2.2.2.2.2.2.1.any fun y=>idEq y d.2.2.2.1)=v9
  generalize decide (0≤d.2.2.2.2.2.2.2.2.1∧d.2.2.2.2.2.2.2.2.1≤3)=v10
  generalize decide (-1≤d.2.2.2.2.2.2.2.2.2.1∧d.2.2.2.2.2.2.2.2.2.1≤600)=v11
  cases v1
  ·exact ⟨rfl,_,rfl⟩
  simp only [gb_true,Bool.true_and,Option.bind_some]
  cases v2
  ·exact ⟨rfl,_,rfl⟩
  simp only [gb_true,Bool.true_and,Option.bind_some]
  cases v3
  ·exact ⟨rfl,_,rfl⟩
  simp only [gb_true,Bool.true_and,Option.bind_some]
  cases v0
  ·exact ⟨rfl,_,rfl⟩
  simp only [gb_true,Bool.true_and,Option.bind_some]
  cases v4
  ·exact ⟨rfl,_,rfl⟩
  simp only [gb_true,Bool.true_and,Option.bind_some]
  cases v5
  ·exact ⟨rfl,_,rfl⟩
  simp only [gb_true,Bool.true_and,Option.bind_some]
  cases v6
  ·exact ⟨rfl,_,rfl⟩
  simp only [gb_true,Bool.true_and,Option.bind_some]
  cases v7
  ·exact ⟨rfl,_,rfl⟩
  simp only [gb_true,Bool.true_and,Option.bind_some]
  cases v8
  ·exact ⟨rfl,_,rfl⟩
  simp only [gb_true,Bool.true_and,Option.bind_some]
  cases v9
  ·simp only [gb_true,Bool.not_false,Option.bind_some]
   cases v10<;>exact ⟨trivial,_,rfl⟩
  ·exact ⟨trivial,_,rfl⟩
 obtain ⟨h1,r,h2⟩:=h
 rw [h1]
 unfold msgOkB
 rw [h2]
 exact ⟨rfl,rfl⟩
theorem s_l11Has_eq {L:List D_EMsg} {m:D_EMsg} (hL:Ok.ok L):s_l11Has L m=some (L.any fun y=>sameMB y m):=by
 unfold s_l11Has
 rw [whileP_find (l:=L) (fun y=>sameMB y m) (fun i=>some (decide (0≤i))) hL.1,firstI_any]
 ·intro k x hx
  simp only [lt_dec (List.getElem?_eq_some_iff.1 hx).1,cond_true,idx_nat,hx,Option.bind_some]
  rw [show s_SameMsg _ _=_ from (sameMsg_both (a:=x) (b:=m) (hL.2 x (List.mem_of_getElem? hx))).1,Option.bind_some]
  cases sameMB x m
  ·rfl
  ·rw [cond_true,if_pos rfl,decide_eq_true (by omega)]
 ·simp only [ge_dec];rfl
theorem i_hasMsg_eq {L:List D_EMsg} {m:D_EMsg} (hL:Ok.ok L):i_hasMsg L m=some (L.any fun y=>sameMB y m):=by
 unfold i_hasMsg sl_ContainsFunc_implEMsgimplEMsg sl_IndexFunc_implEMsgimplEMsg i_hasMsg_c1
 rw [whileP_find (l:=L) (fun y=>sameMB y m) some hL.1,Option.bind_some,Option.bind_some,firstI_any]
 ·intro k x hx
  simp only [lt_dec (List.getElem?_eq_some_iff.1 hx).1,cond_true,idx_nat,hx,Option.bind_some]
  rw [show i_SameMsg _ _=_ from (sameMsg_both (a:=x) (b:=m) (hL.2 x (List.mem_of_getElem? hx))).2,Option.bind_some,Option.bind_some]
  cases sameMB x m<;>rfl
 ·simp only [ge_dec];rfl
noncomputable def nodeAt (d:D_ENet) (k:Nat):Bool:=match d.1[k]? with | some n=>nodeOkB n&&decide (n.1=(k:Int)) | none=>false
noncomputable def msgAt (d:D_ENet) (k:Nat):Bool:=match d.2[k]? with | some m=>msgOkB m&&!((d.2.take k).any fun y=>sameMB y m) | none=>false
noncomputable def netOkB (d:D_ENet):Bool:=decide (d.1.length=3)&&decide (d.2.length≤160)&&(List.range 3).all (nodeAt d)&&(List.range d.2.length).all (msgAt d)
theorem ok_take {L:List D_EMsg} (h:Ok.ok L) (k:Nat):Ok.ok (L.take k):=⟨Nat.le_trans (List.length_take_le' ..) h.1,fun x hx=>h.2 x (List.mem_of_mem_take hx)⟩
theorem s_ENetOk_eq {d:D_ENet} (ho:Ok.ok d):s_ENetOk d=some (netOkB d):=by
 unfold s_ENetOk netOkB
 by_cases h3:d.1.length=3
 case neg=>rw [decide_eq_false (show ¬ (d.1.length:Int)=3 by omega),decide_eq_false h3];rfl
 by_cases h160:d.2.length≤160
 case neg=>rw [decide_eq_true (show (160:Int) < d.2.length by omega),decide_eq_false h160,decide_eq_true h3,decide_eq_true (show (d.1.length:Int)=3 by omega)];rfl
 rw [decide_eq_true (show (d.1.length:Int)=3 by omega),decide_eq_false (show ¬ (160:Int) < d.2.length by omega),decide_eq_true h3,decide_eq_true h160]
 simp only [Bool.not_true,Bool.or_self,cond_false,Bool.true_and]
 rw [whileP_all (n:=3) (nodeAt d) (some false) (some ((List.range d.2.length).all (msgAt d)))]
 ·cases (List.range 3).all (nodeAt d)<;>rfl
 ·intro k hk
  have hx:d.1[k]?=some (d.1[k]'(by omega)):=List.getElem?_eq_getElem _
  generalize d.1[k]'(by omega)=x at hx
  have e:nodeAt d k=(nodeOkB x&&decide (x.1=(k:Int))):=by unfold nodeAt;rw [hx]
  rw [e,decide_eq_true (show (k:Int) < 3 by omega),cond_true,idx_nat,hx,Option.bind_some,show s_ENodeOk _=_ from s_ENodeOk_eq (d:=x) (ho.1.2 x (List.mem_of_getElem? hx)),Option.bind_some,wrap_succ (by omega)]
  by_cases hb:nodeOkB x=true
  case neg=>rw [Bool.eq_false_iff.2 hb];rfl
  ·simp only [hb,Bool.not_true,Bool.not_false,gb_true,Option.bind_some,Bool.false_or,Bool.true_and]
   cases decide (x.1=(k:Int))<;>rfl
 ·rw [decide_eq_false (show ¬ ((3:Nat):Int) < 3 by omega),cond_false]
  rw [whileP_all (n:=d.2.length) (msgAt d) (some false) (some true)]
  ·cases (List.range d.2.length).all (msgAt d)<;>rfl
  ·intro k hk
   have hx:d.2[k]?=some d.2[k]:=List.getElem?_eq_getElem hk
   generalize d.2[k]=x at hx
   have e:msgAt d k=(msgOkB x&&!((d.2.take k).any fun y=>sameMB y x)):=by unfold msgAt;rw [hx]
   rw [e,decide_eq_true (show (k:Int) < (d.2.length:Int) by omega),cond_true,idx_nat,hx,Option.bind_some,show s_EMsgOk _=_ from (msgOk_both (d:=x) (ho.2.2 x (List.mem_of_getElem? hx))).1,Option.bind_some,wrap_succ (by omega),slcP_at (by omega)]
   by_cases hb:msgOkB x=true
   case neg=>rw [Bool.eq_false_iff.2 hb];rfl
   ·simp only [hb,Bool.not_true,Bool.not_false,gb_true,Option.bind_some,Bool.false_or,Bool.true_and]
    rw [show (List.drop (Int.toNat 0) d.2).take ((k:Int).toNat - Int.toNat 0)=d.2.take k from rfl,show s_l11Has _ _=_ from s_l11Has_eq (L:=d.2.take k) (m:=x) (ok_take ho.2 k),Option.bind_some]
    cases (d.2.take k).any fun y=>sameMB y x<;>rfl
  ·rw [decide_eq_false (by omega)];rfl
theorem i_ENetOk_eq {d:D_ENet} (ho:Ok.ok d):i_ENetOk d=some (netOkB d):=by
 unfold i_ENetOk netOkB
 by_cases h3:d.1.length=3
 case neg=>rw [decide_eq_false (show ¬ (d.1.length:Int)=3 by omega),decide_eq_false h3];rfl
 by_cases h160:d.2.length≤160
 case neg=>rw [decide_eq_true (show (160:Int) < d.2.length by omega),decide_eq_false h160,decide_eq_true h3,decide_eq_true (show (d.1.length:Int)=3 by omega)];rfl
 rw [decide_eq_true (show (d.1.length:Int)=3 by omega),decide_eq_false (show ¬ (160:Int) < d.2.length by omega),decide_eq_true h3,decide_eq_true h160]
 simp only [Bool.not_true,Bool.or_self,cond_false,Bool.true_and]
 rw [whileP_all (n:=3) (nodeAt d) (some false) (some ((List.range d.2.length).all (msgAt d)))]
 ·cases (List.range 3).all (nodeAt d)<;>rfl
 ·intro k hk
  have hx:d.1[k]?=some (d.1[k]'(by omega)):=List.getElem?_eq_getElem _
  generalize d.1[k]'(by omega)=x at hx
  have e:nodeAt d k=(nodeOkB x&&decide (x.1=(k:Int))):=by unfold nodeAt;rw [hx]
  rw [e,decide_eq_true (show (k:Int) < (d.1.length:Int) by omega),cond_true,idx_nat,hx,Option.bind_some,show i_ENodeOk _=_ from i_ENodeOk_eq (d:=x) (ho.1.2 x (List.mem_of_getElem? hx)),Option.bind_some,wrap_succ (by omega)]
  by_cases hb:nodeOkB x=true
  case neg=>rw [Bool.eq_false_iff.2 hb];rfl
  ·simp only [hb,Bool.not_true,Bool.false_or,Bool.true_and]
   cases decide (x.1=(k:Int))<;>rfl
 ·rw [decide_eq_false (show ¬ ((3:Nat):Int) < (d.1.length:Int) by omega),cond_false]
  rw [whileP_all (n:=d.2.length) (msgAt d) (some false) (some true)]
  ·cases (List.range d.2.length).all (msgAt d)<;>rfl
  ·intro k hk
   have hx:d.2[k]?=some d.2[k]:=List.getElem?_eq_getElem hk
   generalize d.2[k]=x at hx
   have e:msgAt d k=(msgOkB x&&!((d.2.take k).any fun y=>sameMB y x)):=by unfold msgAt;rw [hx]
   rw [e,decide_eq_true (show (k:Int) < (d.2.length:Int) by omega),cond_true,idx_nat,hx,Option.bind_some,show i_EMsgOk _=_ from (msgOk_both (d:=x) (ho.2.2 x (List.mem_of_getElem? hx))).2,Option.bind_some,wrap_succ (by omega),slcP_at (by omega)]
   by_cases hb:msgOkB x=true
   case neg=>rw [Bool.eq_false_iff.2 hb];rfl
   ·simp only [hb,Bool.not_true,Bool.not_false,gb_true,Option.bind_some,Bool.false_or,Bool.true_and]
    rw [show (List.drop (Int.toNat 0) d.2).take ((k:Int).toNat - Int.toNat 0)=d.2.take k from rfl,show i_hasMsg _ _=_ from i_hasMsg_eq (L:=d.2.take k) (m:=x) (ok_take ho.2 k),Option.bind_some]
    cases (d.2.take k).any fun y=>sameMB y x<;>rfl
  ·rw [decide_eq_false (by omega)];rfl
end Go.Proofs.SL
namespace Go.Proofs.SL
open Go
theorem i_copyCatalog_eq {c:D_Catalog} (h:CBnd c):i_copyCatalog c=some c:=by
 have hlen:=h.len
 unfold i_copyCatalog
 rw [loop_pass (l:=c) (fun k (t:List D_CSet)=>((k:Int),t)) (fun t s=>t++[s]) some (fun k t=>t.length≤k) [] (s0:=(0,[])) rfl (Nat.le_refl _)]
 ·have:∀ (xs acc:List D_CSet),xs.foldl (fun t s=>t++[s]) acc=acc++xs:=fun xs=>by
   induction xs with
   | nil=>intro acc;simp
   | cons x xs ih=>intro acc;rw [List.foldl_cons,ih];simp
  rw [this];rfl
 ·intro k t s hs ht
  have hk:=(List.getElem?_eq_some_iff.1 hs).1
  have hsm:=List.mem_of_getElem? hs
  have h6:=h.snaps s hsm
  simp only [lt_dec hk,cond_true,idx_nat,hs,Option.bind_some]
  rw [loop_pass (l:=s.2) (fun k (t:List D_CSnap)=>((k:Int),t)) (fun t p=>t++[p]) (fun u=>some (.inl ((((k+1:Nat):Int)),t++[(s.1,u)]))) (fun k t=>t.length≤k) [] (s0:=(0,[])) rfl (Nat.le_refl _)]
  ·have:∀ (xs acc:List D_CSnap),xs.foldl (fun t s=>t++[s]) acc=acc++xs:=fun xs=>by
    induction xs with
    | nil=>intro acc;simp
    | cons x xs ih=>intro acc;rw [List.foldl_cons,ih];simp
   rw [this]
   exact ⟨rfl,by simp;omega⟩
  ·intro j u p hp hu
   have hj:=(List.getElem?_eq_some_iff.1 hp).1
   obtain ⟨_,_,h4,_⟩:=h.snap s hsm p (List.mem_of_getElem? hp)
   simp only [lt_dec hj,cond_true,idx_nat,hp,Option.bind_some]
   rw [copyTexts_eq (by omega),Option.bind_some,appP_ok (by simp;omega),Option.bind_some,wrap_succ (by omega)]
   exact ⟨rfl,by simp;omega⟩
  ·intro u hu
   simp only [ge_dec,cond_false]
   rw [appP_ok (by simp;omega),Option.bind_some,wrap_succ (by omega)]
 ·intro t ht
  simp only [ge_dec,cond_false]
def spStep (t:Bool×ByteArray) (x:ByteArray):Bool×ByteArray:=(true,(if t.1 then t.2++tSp else t.2)++x)
theorem i_spaced_eq {l:List ByteArray} (h:l.length≤1000) (hx:∀ x,x∈l→x.size≤20):i_spaced l=some ((l.foldl spStep (false,ByteArray.empty)).2):=by
 unfold i_spaced
 rw [loop_pass (l:=l) (fun k (t:Bool×ByteArray)=>(t.2,(k:Int))) spStep (fun t=>some t.2) (fun k t=>t.1=decide (0 < k)∧t.2.size≤21*k) (false,ByteArray.empty) (s0:=(ByteArray.empty,0)) rfl ⟨rfl,Nat.le_refl _⟩]
 ·intro k t x hxk ht
  have hk:=(List.getElem?_eq_some_iff.1 hxk).1
  obtain ⟨b,a⟩:=t
  obtain ⟨rfl,ha⟩:=ht
  dsimp only at ha ⊢
  have h1:=hx x (List.mem_of_getElem? hxk)
  simp only [lt_dec hk,cond_true,idx_nat,hxk,Option.bind_some]
  rcases Nat.eq_zero_or_pos k with h0 | h0
  ·subst h0
   rw [decide_eq_false (show ¬ (0:Int) < ((0:Nat):Int) by omega),cond_false,catP_ok (by omega),Option.bind_some,wrap_succ (by omega)]
   exact ⟨rfl,by simp [spStep],by simp [spStep,ByteArray.size_append];omega⟩
  ·rw [decide_eq_true (show (0:Int) < (k:Int) by omega),cond_true,show (ByteArray.mk #[32])=tSp from rfl,catP_ok (by rw [sz_sp];omega),Option.bind_some,catP_ok (by simp [ByteArray.size_append,sz_sp];omega),Option.bind_some,wrap_succ (by omega)]
   refine ⟨?_,by simp [spStep],?_⟩
   ·simp [spStep,decide_eq_true h0]
   ·simp [spStep,decide_eq_true h0,ByteArray.size_append,sz_sp];omega
 ·intro t ht
  simp only [ge_dec,cond_false]
theorem foldl_app {α β:Type} (g:β→α):∀ (xs:List β) (acc:List α),xs.foldl (fun t x=>t++[g x]) acc=acc++xs.map g
 | [],acc=>by simp
 | x::xs,acc=>by rw [List.foldl_cons,foldl_app g xs];simp
theorem i_list_eq {c:D_Catalog} (h:CBnd c):i_Catalog_list c=some (listD c):=by
 have hlen:=h.len
 unfold i_Catalog_list
 rw [Option.bind_some]
 rw [loop_pass (l:=c) (fun k (t:List ByteArray)=>(t,(k:Int))) (fun t s=>t++[s.1]) (fun t=>Option.bind (i_spaced t) (fun y9=>some y9)) (fun k t=>t.length≤k) [] (s0:=([],0)) rfl (Nat.le_refl _)]
 ·rw [foldl_app (fun s:D_CSet=>s.1),List.nil_append,i_spaced_eq (by simp;omega),Option.bind_some,List.foldl_map]
  ·rfl
  ·intro x hx
   obtain ⟨s,hs,rfl⟩:=List.mem_map.1 hx
   have:=h.name s hs
   omega
 ·intro k t s hs ht
  have hk:=(List.getElem?_eq_some_iff.1 hs).1
  simp only [lt_dec hk,cond_true,idx_nat,hs,Option.bind_some]
  rw [appP_ok (by simp;omega),Option.bind_some,wrap_succ (by omega)]
  exact ⟨rfl,by simp;omega⟩
 ·intro t ht
  simp only [ge_dec,cond_false]
theorem i_told_eq {s:D_CSet} (h:s.2.length≤1000) (hp:∀ p,p∈s.2→p.1.size≤8∧p.2.1.size≤8):i_CSet_told s=some (readD s,s):=by
 unfold i_CSet_told
 rw [Option.bind_some]
 rw [loop_pass (l:=s.2) (fun k (t:List ByteArray)=>(t,(k:Int))) (fun t p=>t++[p.1++tCol++p.2.1]) (fun t=>Option.bind (i_spaced t) (fun y9=>some (y9,s))) (fun k t=>t.length≤k) [] (s0:=([],0)) rfl (Nat.le_refl _)]
 ·rw [foldl_app (fun p:D_CSnap=>p.1++tCol++p.2.1),List.nil_append,i_spaced_eq (by simp;omega),Option.bind_some,List.foldl_map]
  ·unfold readD
   congr 4
   funext t p
   unfold spStep readStep
   simp only [ByteArray.append_assoc]
  ·intro x hx
   obtain ⟨p,hp',rfl⟩:=List.mem_map.1 hx
   have:=hp p hp'
   simp only [ByteArray.size_append,sz_col]
   omega
 ·intro k t p hpk ht
  have hk:=(List.getElem?_eq_some_iff.1 hpk).1
  have:=hp p (List.mem_of_getElem? hpk)
  simp only [lt_dec hk,cond_true,idx_nat,hpk,Option.bind_some]
  rw [show (ByteArray.mk #[58])=tCol from rfl,catP_ok (by rw [sz_col];omega),Option.bind_some,catP_ok (by simp [ByteArray.size_append,sz_col];omega),Option.bind_some,appP_ok (by simp;omega),Option.bind_some,wrap_succ (by omega)]
  exact ⟨rfl,by simp;omega⟩
 ·intro t ht
  simp only [ge_dec,cond_false]
theorem dec_step {k:Nat} {b:UInt8} (h:digit k=strP [b]) (h0:decide ((k:Int)=0)=false) (hn:decide ((k:Int) < 0)=false)
  (hs:(u8P (IntKind.wrap .u8 (IntKind.wrap .i64 (48+((k:Int)).tmod 10))))=some b) (hm:decide (((k:Int)).tmod 10 < 0)=false) (hd:((k:Int)).tdiv 10=0):i_Dec (k:Int)=some (digit k):=by
 unfold i_Dec
 rw [h0,cond_false,Option.bind_some,whileP_step (s':=([b],0))]
 ·refine whileP_done ?_
  rw [hn]
  show Option.map Sum.inr (whileP _ (0:Int))=_
  rw [whileP_done (a:=strP [b]) (show (fun s18:Int=>cond (decide (0 < IntKind.wrap .i64 ((([b]:List UInt8).length:Int) - 1))) none (Option.map Sum.inr (some (strP [b])))) 0=some (Sum.inr (strP [b])) from rfl),h]
  rfl
 ·dsimp only
  rw [h0,hm,Bool.not_false,cond_true,cond_false,hs,Option.bind_some,appP_ok (by simp),Option.bind_some,hd]
  rfl
theorem i_Dec_small:∀ k:Nat,k≤5→i_Dec (k:Int)=some (digit k)
 | 0,_=>rfl
 | 1,_=>dec_step (b:=49) (by rfl) (by decide) (by decide) (by kernel_rfl) (by decide) (by decide)
 | 2,_=>dec_step (b:=50) (by rfl) (by decide) (by decide) (by kernel_rfl) (by decide) (by decide)
 | 3,_=>dec_step (b:=51) (by rfl) (by decide) (by decide) (by kernel_rfl) (by decide) (by decide)
 | 4,_=>dec_step (b:=52) (by rfl) (by decide) (by decide) (by kernel_rfl) (by decide) (by decide)
 | 5,_=>dec_step (b:=53) (by rfl) (by decide) (by decide) (by kernel_rfl) (by decide) (by decide)
 | _+6,h=>by omega
end Go.Proofs.SL
namespace Go.Proofs.SL
open Go
theorem firstI_neg {α:Type} (p:α→Bool) (l:List α):(firstI p l=-1∧l.any p=false∧l.findIdx? p=none)∨∃ (k:Nat) (x:α),firstI p l=(k:Int)∧l.any p=true∧l.findIdx? p=some k∧l[k]?=some x∧p x=true:=by
 rcases firstI_get p l with ⟨e1,e2⟩ | ⟨k,x,e1,e2,e3,e4⟩
 ·left
  have:=firstI_any p l
  rw [e1] at this
  exact ⟨e1,this.symm,e2⟩
 ·right
  have:=firstI_any p l
  rw [e1] at this
  refine ⟨k,x,e1,?_,e2,e3,e4⟩
  rw [← this];exact decide_eq_true (by omega)
theorem i_commit_eq {s:D_CSet} {m:D_Cmd} (hs:s.2.length≤5) (hm:m.2.2.2.2.2.2.2.length≤1000):i_CSet_commit s m=some (if s.2.any (fun p=>decide (p.1=m.2.2.2.2.1)) then (tExists,s) else if 5≤s.2.length then (tFull,s) else (tOk,(s.1,s.2++[(m.2.2.2.2.1,ByteArray.empty,m.2.2.2.2.2.2.2)]))):=by
 unfold i_CSet_commit
 rw [show i_CSet_snap _ _=_ from i_CSet_snap_eq (s:=s) (n:=m.2.2.2.2.1) (by omega),Option.bind_some,firstI_any]
 cases s.2.any (fun p=>decide (p.1=m.2.2.2.2.1)) with
 | true=>rfl
 | false =>
  rw [cond_false,if_neg (by simp)]
  by_cases h5:5≤s.2.length
  ·rw [decide_eq_true (show (s.2.length:Int)=5 by omega),if_pos h5];rfl
  ·rw [decide_eq_false (show ¬ (s.2.length:Int)=5 by omega),if_neg h5,cond_false,copyTexts_eq (by omega),Option.bind_some,appP_ok (by simp;omega)];rfl
theorem i_tag_eq {s:D_CSet} {m:D_Cmd} (hs:s.2.length≤5):i_CSet_tag s m=some (match s.2.findIdx? (fun p=>decide (p.1=m.2.2.2.2.1)) with
  | none=>(tNone,s)
  | some k=>match s.2[k]? with
   | none=>(tNone,s)
   | some p=>(tOk,(s.1,s.2.set k (p.1,m.2.2.2.2.2.1,p.2.2)))):=by
 unfold i_CSet_tag
 rw [show i_CSet_snap _ _=_ from i_CSet_snap_eq (s:=s) (n:=m.2.2.2.2.1) (by omega),Option.bind_some]
 rcases firstI_neg (fun p:D_CSnap=>decide (p.1=m.2.2.2.2.1)) s.2 with ⟨e1,_,e2⟩ | ⟨k,p,e1,_,e2,e3,_⟩
 ·rw [e1,e2];rfl
 ·rw [e1,e2,decide_eq_false (show ¬ ((k:Int) < 0) by omega),cond_false]
  simp only [idx_nat,e3,Option.bind_some,Int.toNat_natCast]
  rfl
theorem bare_take {l:List D_CSnap} {k:Nat} {p:D_CSnap} (h:l[k]?=some p):bareN (l.take (k+1))=bareN (l.take k)+(if p.2.1=ByteArray.empty then 1 else 0):=by
 unfold bareN
 rw [List.take_add_one,h,List.filter_append,List.length_append]
 by_cases hp:p.2.1=ByteArray.empty
 ·simp [hp]
 ·simp [hp]
theorem bare_le (l:List D_CSnap) (k:Nat):bareN (l.take k)≤bareN l:=by
 unfold bareN
 conv=>rhs;rw [← List.take_append_drop k l,List.filter_append,List.length_append]
 omega
theorem i_prune_eq {s:D_CSet} {n:Int} (hs:s.2.length≤5) (hn:0≤n∧n≤9):i_CSet_prune s n=some (digit (s.2.length - (pruneD s.2 n).length),(s.1,pruneD s.2 n)):=by
 have hbl:bareN s.2≤s.2.length:=List.length_filter_le _ _
 unfold i_CSet_prune
 rw [loop_pass (l:=s.2) (fun k (t:Int)=>(t,(k:Int))) (fun t p=>if p.2.1=ByteArray.empty then t+1 else t) (fun t=>if t=(bareN s.2:Int) - n then some (digit (s.2.length - (pruneD s.2 n).length),(s.1,pruneD s.2 n)) else
   whileP (fun s8:(List D_CSnap)×Int×Int=>cond (decide (s8.2.2 < (s.2.length:Int))) (Option.bind (idx s.2 s8.2.2) (fun y10=>cond ((decide (y10.2.1=ByteArray.empty))&&(decide (s8.2.1 < (if t > 0 then t else 0)))) (some (.inl ((s8.1,IntKind.wrap .i64 (s8.2.1+1),IntKind.wrap .i64 (s8.2.2+1))))) (Option.bind (appP s8.1 [(y10.1,y10.2.1,y10.2.2)]) (fun y13=>some (.inl ((y13,s8.2.1,IntKind.wrap .i64 (s8.2.2+1)))))))) (Option.map .inr (Option.bind (i_Dec (if t > 0 then t else 0)) (fun y15=>some (y15,(s.1,s8.1)))))) ([],0,0))
   (fun k t=>-9≤t∧t≤k) (-n) (s0:=(IntKind.wrap .i64 (-n),0)) (by rw [wrap64_in (by unfold inR;omega)];rfl) ⟨by omega,by omega⟩]
 ·have hb:s.2.foldl (fun t p=>if p.2.1=ByteArray.empty then t+1 else t) (-n)=(bareN s.2:Int) - n:=by
   have:∀ (l:List D_CSnap) (t:Int),l.foldl (fun t p=>if p.2.1=ByteArray.empty then t+1 else t) t=t+bareN l:=fun l=>by
    induction l with
    | nil=>intro t;show t=t+((0:Nat):Int);omega
    | cons p l ih =>
     intro t
     rw [List.foldl_cons,ih]
     unfold bareN
     by_cases hp:p.2.1=ByteArray.empty
     ·rw [if_pos hp,List.filter_cons_of_pos (by simpa using hp),List.length_cons];omega
     ·rw [if_neg hp,List.filter_cons_of_neg (by simpa using hp)]
   rw [this];omega
  rw [hb,if_pos rfl]
 ·intro k t p hx ht
  have hk:=(List.getElem?_eq_some_iff.1 hx).1
  simp only [lt_dec hk,cond_true,idx_nat,hx,Option.bind_some]
  by_cases hp:p.2.1=ByteArray.empty
  ·rw [decide_eq_true hp,cond_true,wrap64_in (by unfold inR;omega),wrap_succ (by omega),if_pos hp];exact ⟨rfl,by omega⟩
  ·rw [decide_eq_false hp,cond_false,wrap_succ (by omega),if_neg hp];exact ⟨rfl,by omega⟩
 ·intro t ht
  simp only [ge_dec,cond_false,Option.bind_some]
  congr 1
  by_cases hb:t=(bareN s.2:Int) - n
  ·rw [if_pos hb]
   subst hb
   obtain ⟨G,hG⟩:∃ G:Nat,(if (bareN s.2:Int) - n > 0 then (bareN s.2:Int) - n else 0)=(G:Int)∧G≤bareN s.2∧((bareN s.2:Int) - n≤(G:Int))∧((G:Int)=(bareN s.2:Int) - n∨G=0):=by
    by_cases hc:(bareN s.2:Int) - n > 0
    ·rw [if_pos hc];exact ⟨((bareN s.2:Int) - n).toNat,by omega,by omega,by omega,.inl (by omega)⟩
    ·rw [if_neg hc];exact ⟨0,rfl,by omega,by omega,.inr rfl⟩
   obtain ⟨hG1,hG2,hG3,hG4⟩:=hG
   rw [hG1]
   rw [loop_pass (l:=s.2) (fun k (t:Int×List D_CSnap)=>(t.2,min ((bareN s.2:Int) - t.1) (G:Int),(k:Int))) (pruneStep n) (fun t=>Option.bind (i_Dec (G:Int)) (fun y15=>some (y15,(s.1,t.2)))) (fun k t=>t.1=(bareN s.2:Int) - (bareN (s.2.take k):Int)∧(t.2.length:Int)+min ((bareN s.2:Int) - t.1) (G:Int)=(k:Int)) ((bareN s.2:Int),[]) (s0:=([],0,0))
    (by show (([]:List D_CSnap),min ((bareN s.2:Int) - (bareN s.2:Int)) (G:Int),((0:Nat):Int))=_;rw [show min ((bareN s.2:Int) - (bareN s.2:Int)) (G:Int)=0 by omega];rfl)
    ⟨by show (bareN s.2:Int)=(bareN s.2:Int) - ((0:Nat):Int);omega,by show ((0:Nat):Int)+min ((bareN s.2:Int) - (bareN s.2:Int)) (G:Int)=((0:Nat):Int);omega⟩]
   ·have hlen:s.2.length - (pruneD s.2 n).length=G:=by
     have key:∀ (k:Nat),k≤s.2.length→((s.2.take k).foldl (pruneStep n) ((bareN s.2:Int),[])).1=(bareN s.2:Int) - (bareN (s.2.take k):Int)∧((((s.2.take k).foldl (pruneStep n) ((bareN s.2:Int),[])).2.length:Nat):Int)+min ((bareN (s.2.take k):Int)) (G:Int)=(k:Int):=by
      intro k
      induction k with
      | zero=>intro _;exact ⟨by show (bareN s.2:Int)=(bareN s.2:Int) - ((0:Nat):Int);omega,by show ((0:Nat):Int)+min ((0:Nat):Int) (G:Int)=0;omega⟩
      | succ k ih =>
       intro hk
       obtain ⟨i1,i2⟩:=ih (by omega)
       have hx:s.2[k]?=some (s.2[k]'(by omega)):=List.getElem?_eq_getElem _
       generalize s.2[k]'(by omega)=p at hx
       have hbt:=bare_take hx
       rw [List.take_add_one,hx,List.foldl_append]
       rw [show s.2.take k++(some p).toList=s.2.take (k+1) by rw [List.take_add_one,hx]]
       generalize (s.2.take k).foldl (pruneStep n) ((bareN s.2:Int),[])=t at i1 i2
       show (pruneStep n t p).1=_∧(((pruneStep n t p).2.length:Nat):Int)+_=_
       have hble:=bare_le s.2 (k+1)
       by_cases hp:p.2.1=ByteArray.empty
       ·rw [if_pos hp] at hbt
        by_cases hc:n≤t.1 - 1
        ·rw [show pruneStep n t p=(t.1 - 1,t.2) by unfold pruneStep;rw [if_pos hp,if_pos hc]]
         exact ⟨by dsimp only;omega,by dsimp only;omega⟩
        ·rw [show pruneStep n t p=(t.1 - 1,t.2++[p]) by unfold pruneStep;rw [if_pos hp,if_neg hc]]
         exact ⟨by dsimp only;omega,by simp only [List.length_append,List.length_cons,List.length_nil];omega⟩
       ·rw [if_neg hp] at hbt
        rw [show pruneStep n t p=(t.1,t.2++[p]) by unfold pruneStep;rw [if_neg hp]]
        exact ⟨by dsimp only;omega,by simp only [List.length_append,List.length_cons,List.length_nil];omega⟩
     obtain ⟨_,k2⟩:=key s.2.length (Nat.le_refl _)
     rw [List.take_of_length_le (Nat.le_refl _)] at k2
     unfold pruneD
     omega
    rw [i_Dec_small G (by omega),Option.bind_some,hlen]
    rfl
   ·intro k t p hx ht
    have hk:=(List.getElem?_eq_some_iff.1 hx).1
    obtain ⟨b,a⟩:=t
    dsimp only at ht ⊢
    obtain ⟨t1,t2⟩:=ht
    have hbt:=bare_take hx
    have hble:=bare_le s.2 (k+1)
    simp only [lt_dec hk,cond_true,idx_nat,hx,Option.bind_some]
    unfold pruneStep
    by_cases hp:p.2.1=ByteArray.empty
    ·rw [if_pos hp] at hbt
     rw [decide_eq_true hp,Bool.true_and,if_pos hp]
     dsimp only
     by_cases hc:n≤b - 1
     ·rw [decide_eq_true (show min ((bareN s.2:Int) - b) (G:Int) < (G:Int) by omega),cond_true,if_pos hc,wrap64_in (by unfold inR;omega),wrap_succ (by omega)]
      refine ⟨?_,by dsimp only;omega,by dsimp only;omega⟩
      rw [show min ((bareN s.2:Int) - b) (G:Int)+1=min ((bareN s.2:Int) - (b - 1)) (G:Int) by omega]
     ·rw [decide_eq_false (show ¬ min ((bareN s.2:Int) - b) (G:Int) < (G:Int) by omega),cond_false,if_neg hc,appP_ok (by simp;omega),Option.bind_some,wrap_succ (by omega)]
      refine ⟨?_,by dsimp only;omega,by simp only [List.length_append,List.length_cons,List.length_nil];omega⟩
      rw [show min ((bareN s.2:Int) - b) (G:Int)=min ((bareN s.2:Int) - (b - 1)) (G:Int) by omega]
    ·rw [if_neg hp] at hbt
     rw [decide_eq_false hp,Bool.false_and,cond_false,if_neg hp,appP_ok (by simp;omega),Option.bind_some,wrap_succ (by omega)]
     exact ⟨rfl,by dsimp only;omega,by simp only [List.length_append,List.length_cons,List.length_nil];omega⟩
   ·intro t ht
    simp only [ge_dec,cond_false]
  ·rw [if_neg hb]
end Go.Proofs.SL
namespace Go.Proofs.SL
open Go
theorem i_create_eq {c:D_Catalog} (h:c.length≤5) (n:ByteArray):i_Catalog_create c n=some ((createD c n).2,(createD c n).1):=by
 unfold i_Catalog_create createD
 rw [i_Catalog_set_eq (by omega),Option.bind_some,firstI_any]
 cases ha:c.any (fun s=>decide (s.1=n)) with
 | true=>rfl
 | false =>
  rw [cond_false,if_neg (by simp)]
  by_cases h5:5≤c.length
  ·rw [decide_eq_true (show (c.length:Int)=5 by omega),if_pos h5];rfl
  rw [decide_eq_false (show ¬ (c.length:Int)=5 by omega),if_neg h5,cond_false]
  have hne:∀ s,s∈c→¬ s.1=n:=fun s hs e=>by
   have:=List.any_eq_false.1 ha s hs
   exact this (decide_eq_true e)
  refine whileP_is (s:=(0:Int)) (fun s:Int=>∃ k:Nat,s=(k:Int)∧k≤c.length∧insSet n c=c.take k++insSet n (c.drop k)) (fun s=>(c.length - s).toNat) ?_ ⟨0,rfl,Nat.zero_le _,rfl⟩
  rintro _ ⟨k,rfl,hk,he⟩
  by_cases hkl:k < c.length
  ·have hx:c[k]?=some c[k]:=List.getElem?_eq_getElem hkl
   have hxm:c[k]∈c:=List.getElem_mem _
   generalize c[k]=x at hx hxm
   have hg:gtN x n=!sLt x.1 n:=by unfold gtN;rw [decide_eq_false (hne x hxm)];simp
   rw [lt_dec hkl,gb_true,idx_nat,hx,Option.bind_some,Bool.true_and]
   rw [drop_cons hx] at he
   unfold insSet at he
   rw [hg] at he
   cases hs:sLt x.1 n with
   | true =>
    left
    rw [hs,Bool.not_true,if_neg (by simp)] at he
    rw [cond_true,wrap_succ (by omega)]
    refine ⟨_,rfl,⟨k+1,rfl,hkl,?_⟩,by omega⟩
    rw [List.take_add_one,hx]
    conv=>lhs;unfold insSet
    show _=(c.take k++[x])++_
    rw [List.append_assoc]
    exact he
   | false =>
    right
    rw [hs,Bool.not_false,if_pos rfl] at he
    rw [cond_false]
    unfold insP
    rw [if_pos (by omega),Option.bind_some,Int.toNat_natCast,drop_cons hx]
    conv=>rhs;unfold insSet
    have e:c.take k++[(n,([]:List D_CSnap))]++x::c.drop (k+1)=insSet n c:=by
     conv=>rhs;unfold insSet
     rw [he];simp
    rw [e]
    conv=>lhs;unfold insSet
    rfl
  ·right
   have hkk:k=c.length:=by omega
   subst hkk
   rw [ge_dec]
   simp only [gb_false,Bool.false_and,cond_false]
   rw [List.drop_of_length_le (Nat.le_refl _)] at he
   unfold insP
   rw [if_pos (by omega),Option.bind_some,Int.toNat_natCast,List.drop_of_length_le (Nat.le_refl _)]
   rw [he]
   simp [insSet]
   rfl
theorem set_self {α:Type} {l:List α} {k:Nat} {x:α} (h:l[k]?=some x):l.set k x=l:=by
 obtain ⟨h1,h2⟩:=List.getElem?_eq_some_iff.1 h
 rw [← h2,List.set_getElem_self]
theorem cmdN {m:D_Cmd} (h:cmdOkB m=true):0≤m.2.2.2.2.2.2.1∧m.2.2.2.2.2.2.1≤9:=by
 unfold cmdOkB at h
 split at h
 ·rw [pB_iff] at h
  subst h
  exact ⟨by decide,by decide⟩
 ·simp only [Bool.and_eq_true] at h
  have h7:=h.1.2
  simp only [Bool.or_eq_true,Bool.and_eq_true,decide_eq_true_eq] at h7
  omega
theorem i_CatDo_eq {c:D_Catalog} {m:D_Cmd} (hc:CBnd c) (hm:Ok.ok m):i_CatDo c m=some (catDoD c m):=by
 unfold i_CatDo catDoD
 rw [i_copyCatalog_eq hc,Option.bind_some,i_CatOk_eq hc.ok,Option.bind_some]
 by_cases hk:catOkB c=true
 case neg=>rw [Bool.eq_false_iff.2 hk];rfl
 obtain ⟨_,h5,h6⟩:=catOk_bnd hk
 rw [hk,Bool.not_true,cond_false,if_pos rfl,show i_CmdOk _=_ from i_CmdOk_eq (c:=m) hm,Option.bind_some]
 by_cases hmk:cmdOkB m=true
 case neg=>rw [Bool.eq_false_iff.2 hmk];rfl
 obtain ⟨_,_,_,hch,_⟩:=cmdOk_bnd hmk
 rw [hmk,Bool.not_true,cond_false,Bool.false_or]
 by_cases h0:m.1=0
 ·rw [decide_eq_true h0];rfl
 rw [decide_eq_false h0,cond_false,if_neg (by simp)]
 by_cases h1:m.1=1
 ·rw [decide_eq_true h1,cond_true,if_pos h1,i_create_eq h5,Option.bind_some]
 rw [decide_eq_false h1,cond_false,if_neg h1]
 by_cases h7:m.1=7
 ·rw [decide_eq_true h7,cond_true,if_pos h7,i_list_eq hc,Option.bind_some]
 rw [decide_eq_false h7,cond_false,if_neg h7,i_Catalog_set_eq (by omega),Option.bind_some]
 rcases firstI_neg (fun s:D_CSet=>decide (s.1=m.2.2.2.1)) c with ⟨e1,_,e2⟩ | ⟨a,s,e1,_,e2,e3,_⟩
 ·rw [e1,e2];rfl
 rw [e1,e2,decide_eq_false (show ¬ ((a:Int) < 0) by omega),cond_false]
 dsimp only
 rw [e3]
 have hal:=(List.getElem?_eq_some_iff.1 e3).1
 have hsm:=List.mem_of_getElem? e3
 have hs5:=h6 s hsm
 have hsp:=hc.snap s hsm
 unfold catSetD
 dsimp only
 by_cases h2:m.1=2
 ·rw [decide_eq_true h2,cond_true,if_pos h2,wrap_succ (by omega)]
  unfold delP
  rw [if_pos (by omega),Option.bind_some,List.eraseIdx_eq_take_drop_succ]
  rfl
 rw [decide_eq_false h2,cond_false,if_neg h2]
 simp only [idx_nat,e3,Option.bind_some,Int.toNat_natCast]
 by_cases h3:m.1=3
 ·rw [decide_eq_true h3,cond_true,if_pos h3,show i_CSet_commit _ _=_ from i_commit_eq (s:=s) (m:=m) hs5 (by omega),Option.bind_some]
  split
  ·rw [show (s.1,s.2)=s from rfl,set_self e3]
  ·split
   ·rw [show (s.1,s.2)=s from rfl,set_self e3]
   ·rfl
 rw [decide_eq_false h3,cond_false,if_neg h3]
 by_cases h4:m.1=4
 ·rw [decide_eq_true h4,cond_true,if_pos h4,show i_CSet_tag _ _=_ from i_tag_eq (s:=s) (m:=m) hs5,Option.bind_some]
  rcases firstI_neg (fun p:D_CSnap=>decide (p.1=m.2.2.2.2.1)) s.2 with ⟨_,_,f2⟩ | ⟨k,p,_,_,f2,f3,_⟩
  ·rw [f2]
   dsimp only
   rw [show (s.1,s.2)=s from rfl,set_self e3]
  ·rw [f2]
   dsimp only
   rw [f3]
 rw [decide_eq_false h4,cond_false,if_neg h4]
 by_cases h55:m.1=5
 ·rw [decide_eq_true h55,cond_true,if_pos h55,show i_CSet_prune _ _=_ from i_prune_eq (s:=s) hs5 (cmdN hmk),Option.bind_some]
 rw [decide_eq_false h55,cond_false,if_neg h55,show i_CSet_told _=_ from i_told_eq (s:=s) (by omega) (fun p hp=>⟨(hsp p hp).1,(hsp p hp).2.1⟩),Option.bind_some]
 rw [show (s.1,s.2)=s from rfl,set_self e3]
end Go.Proofs.SL
