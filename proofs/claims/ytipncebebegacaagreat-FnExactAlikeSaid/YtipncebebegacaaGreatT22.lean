/- The texts of the proof, part 22: the base, walks of functions, plain Lean. -/
import Derived.Test.YtipncebebegacaaGreatT21
import Derived.Test.YtipncebebegacaaGreatT6
import Derived.Test.YtipncebebegacaaGreatRows
namespace Go.Proofs.SL
open Go
noncomputable def saidAt (l:List D_Said) (k:Nat):Bool:=match l[k]? with
 | some x=>decide (1≤x.1∧x.1≤9)&&decide (1≤x.2.1∧x.2.1≤1000)&&(decide (k=0)||(match l[k - 1]? with | some y=>decide (y.1 < x.1) | none=>false))
 | none=>false
noncomputable def saidOkB (l:List D_Said):Bool:=(List.range l.length).all (saidAt l)
noncomputable def stateOkB (s:D_State):Bool:=catOkB s.1&&saidOkB s.2
theorem saidOk_facts {l:List D_Said} (h:saidOkB l=true):(∀ x,x∈l→1≤x.1∧x.1≤9)∧l.Pairwise (fun a b=>a.1 < b.1):=by
 unfold saidOkB at h
 simp only [List.all_eq_true,List.mem_range] at h
 refine ⟨fun x hx=>?_,pairwise_of_step (R:=fun a b:D_Said=>a.1 < b.1) (fun a b c h1 h2=>by omega) l fun k hk=>?_⟩
 ·obtain ⟨k,hk⟩:=List.getElem?_of_mem hx
  have:=h k (List.getElem?_eq_some_iff.1 hk).1
  unfold saidAt at this
  rw [hk] at this
  simp only [Bool.and_eq_true,decide_eq_true_eq] at this
  exact this.1.1
 ·have:=h (k+1) hk
  unfold saidAt at this
  rw [List.getElem?_eq_getElem hk] at this
  simp only [Bool.and_eq_true,decide_eq_true_eq,Bool.or_eq_true,Nat.add_sub_cancel,List.getElem?_eq_getElem (show k < l.length by omega)] at this
  rcases this.2 with h2 | h2
  ·omega
  ·exact h2
theorem said_len {l:List D_Said} (h:saidOkB l=true):l.length≤9:=by
 obtain ⟨h1,h2⟩:=saidOk_facts h
 have:=sorted_le (l:=l.map (·.1)) (a:=1) (b:=10) (List.pairwise_map.2 h2) fun n hn=>by
  obtain ⟨x,hx,rfl⟩:=List.mem_map.1 hn
  have:=h1 x hx;omega
 rw [List.length_map] at this
 omega
theorem s_StateOk_eq {s:D_State} (hc:CBnd s.1) (hl:s.2.length≤1000):s_StateOk s=some (stateOkB s):=by
 unfold s_StateOk stateOkB saidOkB
 rw [s_CatOk_eq hc.ok,Option.bind_some]
 cases catOkB s.1 with
 | false=>rfl
 | true =>
  rw [Bool.not_true,cond_false,Bool.true_and]
  rw [whileP_all (n:=s.2.length) (saidAt s.2) (some false) (some true)]
  ·cases (List.range s.2.length).all (saidAt s.2)<;>rfl
  ·intro k hk
   have hx:s.2[k]?=some s.2[k]:=List.getElem?_eq_getElem hk
   generalize s.2[k]=x at hx
   rw [lt_dec hk,cond_true,idx_nat,hx,Option.bind_some,l1In_eq,Option.bind_some,l1In_eq,wrap_succ (by omega)]
   rcases Nat.eq_zero_or_pos k with h0 | h0
   ·subst h0
    have e:saidAt s.2 0=(decide (1≤x.1∧x.1≤9)&&decide (1≤x.2.1∧x.2.1≤1000)):=by unfold saidAt;rw [hx];simp
    rw [e,decide_eq_false (show ¬ (0:Int) < ((0:Nat):Int) by omega)]
    cases decide (1≤x.1∧x.1≤9)<;>cases decide (1≤x.2.1∧x.2.1≤1000)<;>rfl
   ·obtain ⟨y,hy1,hy2⟩:=prev_idx' hk (by omega) h0
    have e:saidAt s.2 k=(decide (1≤x.1∧x.1≤9)&&decide (1≤x.2.1∧x.2.1≤1000)&&decide (y.1 < x.1)):=by unfold saidAt;rw [hx];dsimp only;rw [hy1];simp [show ¬ k=0 by omega]
    rw [e,decide_eq_true (show (0:Int) < (k:Int) by omega),hy2]
    have e2:decide (x.1≤y.1)=!decide (y.1 < x.1):=by
     by_cases q:y.1 < x.1
     ·rw [decide_eq_true q,decide_eq_false (by omega)];rfl
     ·rw [decide_eq_false q,decide_eq_true (by omega)];rfl
    simp only [gbs,e2]
    cases decide (1≤x.1∧x.1≤9)<;>cases decide (1≤x.2.1∧x.2.1≤1000)<;>cases decide (y.1 < x.1)<;>rfl
  ·rw [ge_dec];rfl
theorem i_StateOk_eq {s:D_State} (hc:CBnd s.1) (hl:s.2.length≤1000):i_StateOk s=some (stateOkB s):=by
 unfold i_StateOk stateOkB saidOkB
 rw [i_CatOk_eq hc.ok,Option.bind_some]
 rw [whileP_all (n:=s.2.length) (saidAt s.2) (some false) (some (catOkB s.1))]
 ·cases catOkB s.1<;>cases (List.range s.2.length).all (saidAt s.2)<;>rfl
 ·intro k hk
  have hx:s.2[k]?=some s.2[k]:=List.getElem?_eq_getElem hk
  generalize s.2[k]=x at hx
  rw [lt_dec hk,cond_true,idx_nat,hx,Option.bind_some,within_eq,Option.bind_some,within_eq,wrap_succ (by omega)]
  rcases Nat.eq_zero_or_pos k with h0 | h0
  ·subst h0
   have e:saidAt s.2 0=(decide (1≤x.1∧x.1≤9)&&decide (1≤x.2.1∧x.2.1≤1000)):=by unfold saidAt;rw [hx];simp
   rw [e,decide_eq_false (show ¬ (0:Int) < ((0:Nat):Int) by omega)]
   cases decide (1≤x.1∧x.1≤9)<;>cases decide (1≤x.2.1∧x.2.1≤1000)<;>rfl
  ·obtain ⟨y,hy1,hy2⟩:=prev_idx' hk (by omega) h0
   have e:saidAt s.2 k=(decide (1≤x.1∧x.1≤9)&&decide (1≤x.2.1∧x.2.1≤1000)&&decide (y.1 < x.1)):=by unfold saidAt;rw [hx];dsimp only;rw [hy1];simp [show ¬ k=0 by omega]
   rw [e,decide_eq_true (show (0:Int) < (k:Int) by omega),hy2]
   have e2:decide (x.1≤y.1)=!decide (y.1 < x.1):=by
    by_cases q:y.1 < x.1
    ·rw [decide_eq_true q,decide_eq_false (by omega)];rfl
    ·rw [decide_eq_false q,decide_eq_true (by omega)];rfl
   simp only [gbs,e2]
   cases decide (1≤x.1∧x.1≤9)<;>cases decide (1≤x.2.1∧x.2.1≤1000)<;>cases decide (y.1 < x.1)<;>rfl
 ·rw [ge_dec];rfl
def putS (x:D_Said):List D_Said→List D_Said
 | []=>[x]
 | y::ys=>if y.1 < x.1 then y::putS x ys else if y.1=x.1 then x::ys else x::y::ys
theorem putS_cons (x y:D_Said) (ys:List D_Said):putS x (y::ys)=if y.1 < x.1 then y::putS x ys else if y.1=x.1 then x::ys else x::y::ys:=rfl
theorem putS_len (x:D_Said):∀ l:List D_Said,(putS x l).length≤l.length+1
 | []=>Nat.le_refl _
 | y::ys=>by
  unfold putS
  have:=putS_len x ys
  split
  ·simp only [List.length_cons];omega
  ·split<;>simp
theorem s_l16Put_eq {l:List D_Said} (x:D_Said) (hl:l.length≤1000) (hp:l.Pairwise (fun a b=>a.1 < b.1)):s_l16Put l x=some (putS x l):=by
 unfold s_l16Put
 rw [Option.bind_some]
 refine whileP_is (s:=(([]:List D_Said),false,(0:Int))) (fun s:List D_Said×Bool×Int=>∃ k:Nat,s.2.2=(k:Int)∧k≤l.length∧s.1.length≤k+1∧((s.2.1=false∧s.1.length≤k∧s.1++putS x (l.drop k)=putS x l)∨(s.2.1=true∧(∀ y,y∈l.drop k→¬ y.1=x.1)∧s.1++l.drop k=putS x l))) (fun s=>(l.length - s.2.2).toNat) ?_ ⟨0,rfl,Nat.zero_le _,by simp,.inl ⟨rfl,by simp,rfl⟩⟩
 rintro ⟨o,b,k'⟩ ⟨k,g1,hk,hol,hc⟩
 dsimp only at g1 hol hc ⊢
 subst g1
 by_cases hkl:k < l.length
 ·left
  have hx:l[k]?=some l[k]:=List.getElem?_eq_getElem hkl
  generalize l[k]=y at hx
  have hd:=drop_cons hx
  rw [hd] at hc
  have hlt:∀ z,z∈l.drop (k+1)→y.1 < z.1:=fun z hz=>by
   have:=hp.sublist (List.drop_sublist k l)
   rw [hd] at this
   exact (List.pairwise_cons.1 this).1 z hz
  have w1:IntKind.wrap .i64 ((k:Int)+1)=((k+1:Nat):Int):=wrap_succ (by omega)
  rw [lt_dec hkl,cond_true,idx_nat,hx,w1]
  rcases hc with ⟨rfl,ho2,he⟩ | ⟨rfl,hne,he⟩
  ·simp only [Bool.not_false,gb_true,Option.bind_some,Bool.true_and]
   rw [putS_cons] at he
   by_cases h1:y.1 < x.1
   ·rw [if_pos h1] at he
    rw [decide_eq_false (show ¬ x.1≤y.1 by omega),cond_false]
    show ∃ s',cond (!decide (y.1=x.1)) _ _=_∧_
    rw [decide_eq_false (show ¬ y.1=x.1 by omega),Bool.not_false,cond_true,appP_ok (by simp;omega),Option.bind_some]
    refine ⟨_,rfl,⟨k+1,rfl,hkl,by simp;omega,.inl ⟨rfl,by simp;omega,?_⟩⟩,by dsimp only;omega⟩
    dsimp only
    rw [List.append_assoc]
    refine Eq.trans ?_ he
    rfl
   ·rw [if_neg h1] at he
    rw [decide_eq_true (show x.1≤y.1 by omega),cond_true,appP_ok (by simp;omega),Option.bind_some]
    show ∃ s',cond (!decide (y.1=x.1)) _ _=_∧_
    by_cases h2:y.1=x.1
    ·rw [if_pos h2] at he
     rw [decide_eq_true h2,Bool.not_true,cond_false]
     refine ⟨_,rfl,⟨k+1,rfl,hkl,by simp;omega,.inr ⟨rfl,fun z hz=>by have:=hlt z hz;omega,?_⟩⟩,by dsimp only;omega⟩
     dsimp only
     rw [List.append_assoc]
     refine Eq.trans ?_ he
     rfl
    ·rw [if_neg h2] at he
     rw [decide_eq_false h2,Bool.not_false,cond_true,appP_ok (by simp;omega),Option.bind_some]
     refine ⟨_,rfl,⟨k+1,rfl,hkl,by simp;omega,.inr ⟨rfl,fun z hz=>by have:=hlt z hz;omega,?_⟩⟩,by dsimp only;omega⟩
     dsimp only
     rw [List.append_assoc,List.append_assoc]
     refine Eq.trans ?_ he
     rfl
  ·simp only [Bool.not_true,gb_false,Bool.false_and,cond_false]
   show ∃ s',cond (!decide (y.1=x.1)) _ _=_∧_
   rw [decide_eq_false (hne y (List.mem_cons_self ..)),Bool.not_false,cond_true,Option.bind_some]
   dsimp only
   rw [appP_ok (by simp;omega),Option.bind_some]
   refine ⟨_,rfl,⟨k+1,rfl,hkl,by simp;omega,.inr ⟨rfl,fun z hz=>hne z (List.mem_cons_of_mem _ hz),?_⟩⟩,by dsimp only;omega⟩
   dsimp only
   rw [List.append_assoc]
   refine Eq.trans ?_ he
   rfl
 ·right
  have hkk:k=l.length:=by omega
  subst hkk
  rw [ge_dec,cond_false]
  rw [List.drop_of_length_le (Nat.le_refl _)] at hc
  rcases hc with ⟨rfl,_,he⟩ | ⟨rfl,_,he⟩
  ·rw [Bool.not_false,cond_true,appP_ok (by simp;omega),Option.bind_some]
   have he':o++[x]=putS x l:=he
   rw [show [(x.1,x.2.1,x.2.2)]=[x] from rfl,he'];rfl
  ·rw [Bool.not_true,cond_false]
   rw [List.append_nil] at he
   rw [he];rfl
theorem putS_split (x:D_Said):∀ (l:List D_Said) (k:Nat) (y:D_Said),(∀ z,z∈l.take k→z.1 < x.1)→l[k]?=some y→x.1≤y.1→putS x l=l.take k++(if y.1=x.1 then x::l.drop (k+1) else x::l.drop k)
 | [],k,y,_,h,_=>by simp at h
 | z::l,0,y,_,h,hy=>by
  simp only [List.getElem?_cons_zero,Option.some.injEq] at h
  subst h
  unfold putS
  rw [if_neg (by omega)]
  split<;>simp
 | z::l,k+1,y,ht,h,hy=>by
  unfold putS
  rw [if_pos (ht z (by simp))]
  rw [putS_split x l k y (fun q hq=>ht q (by simp [hq])) (by simpa using h) hy]
  simp
theorem putS_all (x:D_Said):∀ (l:List D_Said),(∀ z,z∈l→z.1 < x.1)→putS x l=l++[x]
 | [],_=>rfl
 | z::l,ht=>by
  unfold putS
  rw [if_pos (ht z (List.mem_cons_self ..)),putS_all x l fun q hq=>ht q (List.mem_cons_of_mem _ hq)];rfl
def findS (l:List D_Said) (c:Int):Option D_Said:=l.find? fun y=>decide (y.1=c)
theorem findS_of {l:List D_Said} (hp:l.Pairwise (fun a b=>a.1 < b.1)) {y:D_Said} (hy:y∈l) {c:Int} (hc:y.1=c):findS l c=some y:=by
 unfold findS
 cases hf:l.find? (fun y=>decide (y.1=c)) with
 | none=>have:=List.find?_eq_none.1 hf y hy;simp [hc] at this
 | some z =>
  have h1:=List.mem_of_find?_eq_some hf
  have h2:z.1=c:=by have:=List.find?_some hf;simpa using this
  obtain ⟨i,hi⟩:=List.getElem?_of_mem h1
  obtain ⟨j,hj⟩:=List.getElem?_of_mem hy
  obtain ⟨i1,i2⟩:=List.getElem?_eq_some_iff.1 hi
  obtain ⟨j1,j2⟩:=List.getElem?_eq_some_iff.1 hj
  have hij:i=j:=by
   rcases Nat.lt_trichotomy i j with q | q | q
   ·have:=List.pairwise_iff_getElem.1 hp i j i1 j1 q
    rw [i2,j2] at this;omega
   ·exact q
   ·have:=List.pairwise_iff_getElem.1 hp j i j1 i1 q
    rw [i2,j2] at this;omega
  subst hij
  rw [← i2,← j2]
end Go.Proofs.SL
namespace Go.Proofs.SL
open Go
def tOld:ByteArray:=ByteArray.mk #[111,108,100]
noncomputable def doIt (s:D_State) (m:D_Cmd):D_State×ByteArray:=(((catDoD s.1 m).1,putS (m.2.1,m.2.2.1,(catDoD s.1 m).2) s.2),(catDoD s.1 m).2)
noncomputable def stateDoD (s:D_State) (m:D_Cmd):D_State×ByteArray :=
 if stateOkB s then (if !cmdOkB m||decide (m.1=0) then (s,ByteArray.empty) else match findS s.2 m.2.1 with
  | some x=>if x.2.1=m.2.2.1 then (s,x.2.2) else if m.2.2.1 < x.2.1 then (s,tOld) else doIt s m
  | none=>doIt s m) else (([],[]),ByteArray.empty)
structure SB (s:D_State):Prop where
 cat:CBnd s.1
 said:s.2.length≤10
theorem SB.nil:SB ([],[]):=⟨bnd_nil,by decide⟩
theorem stateDo_SB {s:D_State} (h:SB s) (m:D_Cmd):SB (stateDoD s m).1:=by
 unfold stateDoD
 split
 ·rename_i hk
  unfold stateOkB at hk
  rw [Bool.and_eq_true] at hk
  have h9:=said_len hk.2
  have hd:SB (doIt s m).1:=⟨catDo_bnd s.1 m,by
   have:=putS_len (m.2.1,m.2.2.1,(catDoD s.1 m).2) s.2
   show (putS _ s.2).length≤10
   omega⟩
  split
  ·exact h
  ·split
   ·split
    ·exact h
    ·split
     ·exact h
     ·exact hd
   ·exact hd
 ·exact SB.nil
theorem s_StateDo_eq {s:D_State} {m:D_Cmd} (h:SB s) (hm:Ok.ok m):s_StateDo s m=some (stateDoD s m):=by
 have h10:=h.said
 unfold s_StateDo stateDoD
 rw [show s_StateOk _=_ from s_StateOk_eq (s:=s) h.cat (by omega),Option.bind_some]
 by_cases hk:stateOkB s=true
 case neg=>rw [Bool.eq_false_iff.2 hk];rfl
 have hk2:=hk
 unfold stateOkB at hk2
 rw [Bool.and_eq_true] at hk2
 obtain ⟨_,hpw⟩:=saidOk_facts hk2.2
 rw [hk,Bool.not_true,cond_false,if_pos rfl]
 unfold s_l16Copy
 rw [s_l15Copy_eq h.cat,Option.bind_some,Option.bind_some,appP_ok (by simp;omega),Option.bind_some,Option.bind_some,show s_CmdOk _=_ from s_CmdOk_eq (c:=m) hm,Option.bind_some]
 rw [show ([]:List D_Said)++s.2=s.2 from rfl]
 by_cases hmk:(!cmdOkB m||decide (m.1=0))=true
 ·rw [hmk,cond_true,if_pos rfl]
 rw [Bool.eq_false_iff.2 hmk,cond_false,if_neg (by simp)]
 refine whileP_is (s:=(0:Int)) (fun z:Int=>∃ k:Nat,z=(k:Int)∧k≤s.2.length∧∀ y,y∈s.2.take k→y.1=m.2.1→y.2.1 < m.2.2.1) (fun z=>(s.2.length - z).toNat) ?_ ⟨0,rfl,Nat.zero_le _,fun y hy=>by simp at hy⟩
 rintro _ ⟨k,rfl,hkl,hI⟩
 by_cases hkl2:k < s.2.length
 ·have hx:s.2[k]?=some s.2[k]:=List.getElem?_eq_getElem hkl2
  have hxm:s.2[k]∈s.2:=List.getElem_mem _
  generalize s.2[k]=y at hx hxm
  rw [lt_dec hkl2,cond_true,idx_nat,hx,Option.bind_some,wrap_succ (by omega)]
  have hI2:(y.1=m.2.1→y.2.1 < m.2.2.1)→∀ z,z∈s.2.take (k+1)→z.1=m.2.1→z.2.1 < m.2.2.1:=fun hy z hz=>by
   rw [List.take_add_one,hx] at hz
   rcases List.mem_append.1 hz with hz | hz
   ·exact hI z hz
   ·rw [List.mem_singleton.1 hz];exact hy
  by_cases h1:y.1=m.2.1
  ·rw [decide_eq_true h1,Bool.not_true,cond_false,Option.bind_some,findS_of hpw hxm h1]
   dsimp only
   by_cases h2:y.2.1=m.2.2.1
   ·right
    rw [decide_eq_true h2,cond_true,if_pos h2];rfl
   rw [decide_eq_false h2,cond_false,if_neg h2,Option.bind_some]
   by_cases h3:m.2.2.1 < y.2.1
   ·right
    rw [decide_eq_true h3,cond_true,if_pos h3];rfl
   ·left
    rw [decide_eq_false h3,cond_false]
    exact ⟨_,rfl,⟨k+1,rfl,hkl2,hI2 fun _=>by omega⟩,by omega⟩
  ·left
   rw [decide_eq_false h1,Bool.not_false,cond_true]
   exact ⟨_,rfl,⟨k+1,rfl,hkl2,hI2 fun e=>(h1 e).elim⟩,by omega⟩
 ·right
  have:k=s.2.length:=by omega
  subst this
  rw [List.take_of_length_le (Nat.le_refl _)] at hI
  rw [ge_dec,cond_false,show s_CatDo _ _=_ from s_CatDo_eq (c:=s.1) (m:=m) h.cat.ok hm,Option.bind_some,s_l16Put_eq _ (by omega) hpw,Option.bind_some]
  cases hf:findS s.2 m.2.1 with
  | none=>rfl
  | some y =>
   have h1:=List.mem_of_find?_eq_some hf
   have h2:y.1=m.2.1:=by have:=List.find?_some hf;simpa using this
   have:=hI y h1 h2
   dsimp only
   rw [if_neg (by omega),if_neg (by omega)]
   rfl
theorem i_StateDo_eq {s:D_State} {m:D_Cmd} (h:SB s) (hm:Ok.ok m):i_StateDo s m=some (stateDoD s m):=by
 have h10:=h.said
 unfold i_StateDo stateDoD
 unfold i_copyState
 rw [i_copyCatalog_eq h.cat,Option.bind_some,appP_ok (by simp;omega),Option.bind_some,Option.bind_some,show i_StateOk _=_ from i_StateOk_eq (s:=s) h.cat (by omega),Option.bind_some]
 rw [show ([]:List D_Said)++s.2=s.2 from rfl]
 by_cases hk:stateOkB s=true
 case neg=>rw [Bool.eq_false_iff.2 hk];rfl
 have hk2:=hk
 unfold stateOkB at hk2
 rw [Bool.and_eq_true] at hk2
 obtain ⟨_,hpw⟩:=saidOk_facts hk2.2
 rw [hk,Bool.not_true,cond_false,if_pos rfl,show i_CmdOk _=_ from i_CmdOk_eq (c:=m) hm,Option.bind_some]
 by_cases hmk:(!cmdOkB m||decide (m.1=0))=true
 ·rw [hmk,cond_true,if_pos rfl]
 rw [Bool.eq_false_iff.2 hmk,cond_false,if_neg (by simp)]
 have hix:sl_IndexFunc_implSaidimplSaid s.2 (fun z0=>i_StateDo_c1 z0 (m.1,m.2.1,m.2.2.1,m.2.2.2.1,m.2.2.2.2.1,m.2.2.2.2.2.1,m.2.2.2.2.2.2.1,m.2.2.2.2.2.2.2))=some (firstI (fun y:D_Said=>decide (m.2.1≤y.1)) s.2):=by
  unfold sl_IndexFunc_implSaidimplSaid i_StateDo_c1
  rw [whileP_find (l:=s.2) (fun y:D_Said=>decide (m.2.1≤y.1)) some (by omega)]
  ·intro k x hx
   simp only [lt_dec (List.getElem?_eq_some_iff.1 hx).1,cond_true,idx_nat,hx,Option.bind_some]
   cases decide (m.2.1≤x.1)<;>rfl
  ·simp only [ge_dec];rfl
 rw [hix,Option.bind_some]
 rcases Gr.findIdx_find (fun y:D_Said=>decide (m.2.1≤y.1)) s.2 with ⟨e1,_⟩ | ⟨k,y,e1,e2,e3⟩
 ·rw [firstI_none e1]
  have hall:∀ z,z∈s.2→z.1 < m.2.1:=fun z hz=>by
   have:=List.findIdx?_eq_none_iff.1 e1 z hz
   simp only [decide_eq_false_iff_not] at this;omega
  have hf:findS s.2 m.2.1=none:=List.find?_eq_none.2 fun z hz=>by have:=hall z hz;simp;omega
  rw [hf]
  have d1:decide ((0:Int)≤-1)=false:=rfl
  simp only [d1,Bool.false_and,gb_false,cond_false]
  rw [show i_CatDo _ _=_ from i_CatDo_eq (c:=s.1) (m:=m) h.cat hm,Option.bind_some,appP_ok (by simp;omega),Option.bind_some]
  unfold doIt
  rw [putS_all _ s.2 hall]
 ·rw [firstI_some e1]
  have hy:m.2.1≤y.1:=by have:=List.find?_some e3;simpa using this
  have hym:=List.mem_of_getElem? e2
  have hlt:∀ z,z∈s.2.take k→z.1 < m.2.1:=fun z hz=>by
   obtain ⟨j,hj⟩:=List.getElem?_of_mem hz
   have hjk:j < k:=by have:=(List.getElem?_eq_some_iff.1 hj).1;rw [List.length_take] at this;omega
   obtain ⟨f1,f2,f3⟩:=List.findIdx?_eq_some_iff_getElem.1 e1
   rw [List.getElem?_take,if_pos hjk] at hj
   obtain ⟨j1,j2⟩:=List.getElem?_eq_some_iff.1 hj
   have:=f3 j hjk
   rw [j2] at this
   simp only [decide_eq_true_eq] at this;omega
  have hkl:=(List.getElem?_eq_some_iff.1 e2).1
  have d1:decide ((0:Int)≤(k:Int))=true:=decide_eq_true (by omega)
  simp only [d1,gb_true,Bool.true_and,idx_nat,e2,Option.bind_some]
  have hp:=putS_split (m.2.1,m.2.2.1,(catDoD s.1 m).2) s.2 k y hlt e2 hy
  by_cases h1:y.1=m.2.1
  ·rw [findS_of hpw hym h1]
   rw [if_pos h1] at hp
   simp only [decide_eq_true h1,gb_true,Bool.true_and,Option.bind_some]
   by_cases h2:y.2.1=m.2.2.1
   ·rw [decide_eq_true h2,cond_true,if_pos h2]
   rw [decide_eq_false h2,cond_false,if_neg h2]
   by_cases h3:m.2.2.1 < y.2.1
   ·rw [decide_eq_true h3,cond_true,if_pos h3];rfl
   rw [decide_eq_false h3,cond_false,if_neg h3,show i_CatDo _ _=_ from i_CatDo_eq (c:=s.1) (m:=m) h.cat hm,Option.bind_some,cond_true,Int.toNat_natCast]
   unfold doIt
   rw [hp,List.set_eq_take_append_cons_drop,if_pos hkl]
  ·rw [if_neg h1] at hp
   have hf:findS s.2 m.2.1=none:=List.find?_eq_none.2 fun z hz=>by
    rw [decide_eq_true_eq]
    intro e
    obtain ⟨j,hj⟩:=List.getElem?_of_mem hz
    obtain ⟨j1,j2⟩:=List.getElem?_eq_some_iff.1 hj
    obtain ⟨y1,y2⟩:=List.getElem?_eq_some_iff.1 e2
    rcases Nat.lt_trichotomy j k with q | q | q
    ·have:=hlt z (List.mem_of_getElem? (i:=j) (by rw [List.getElem?_take,if_pos q];exact hj));omega
    ·subst q;rw [hj] at e2;cases e2;exact h1 e
    ·have:=List.pairwise_iff_getElem.1 hpw k j y1 j1 q
     rw [j2,y2] at this;omega
   rw [hf]
   simp only [decide_eq_false h1,gb_false,Bool.false_and,cond_false]
   rw [show i_CatDo _ _=_ from i_CatDo_eq (c:=s.1) (m:=m) h.cat hm,Option.bind_some,cond_true]
   unfold insP doIt
   rw [if_pos (by omega),Option.bind_some,Int.toNat_natCast,hp]
   simp
noncomputable def playStep (t:D_State×List ByteArray) (m:D_Cmd):D_State×List ByteArray:=((stateDoD t.1 m).1,t.2++[(stateDoD t.1 m).2])
noncomputable def statePlayD (l:List D_Cmd):D_State×List ByteArray:=l.foldl playStep (([],[]),[])
theorem s_StatePlay_eq {l:List D_Cmd} (h:l.length≤1000) (hm:∀ m,m∈l→Ok.ok m):s_StatePlay l=some (statePlayD l):=by
 unfold s_StatePlay statePlayD
 rw [Option.bind_some]
 rw [loop_pass (l:=l) (fun k (t:D_State×List ByteArray)=>(t.2,(k:Int),t.1.1,t.1.2)) playStep some (fun k t=>SB t.1∧t.2.length=k) (([],[]),[]) (s0:=([],0,[],[])) rfl ⟨SB.nil,rfl⟩]
 ·intro k t m hmk ht
  have hk:=(List.getElem?_eq_some_iff.1 hmk).1
  simp only [lt_dec hk,cond_true,idx_nat,hmk,Option.bind_some]
  rw [show s_StateDo _ _=_ from s_StateDo_eq (s:=t.1) (m:=m) ht.1 (hm m (List.mem_of_getElem? hmk)),Option.bind_some,appP_ok (by simp;omega),Option.bind_some,wrap_succ (by omega)]
  exact ⟨rfl,stateDo_SB ht.1 m,by unfold playStep;simp;omega⟩
 ·intro t ht
  simp only [ge_dec,cond_false]
theorem i_StatePlay_eq {l:List D_Cmd} (h:l.length≤1000) (hm:∀ m,m∈l→Ok.ok m):i_StatePlay l=some (statePlayD l):=by
 unfold i_StatePlay statePlayD
 rw [Option.bind_some]
 rw [loop_pass (l:=l) (fun k (t:D_State×List ByteArray)=>(t.2,(k:Int),t.1.1,t.1.2)) playStep some (fun k t=>SB t.1∧t.2.length=k) (([],[]),[]) (s0:=([],0,[],[])) rfl ⟨SB.nil,rfl⟩]
 ·intro k t m hmk ht
  have hk:=(List.getElem?_eq_some_iff.1 hmk).1
  simp only [lt_dec hk,cond_true,idx_nat,hmk,Option.bind_some]
  rw [show i_StateDo _ _=_ from i_StateDo_eq (s:=t.1) (m:=m) ht.1 (hm m (List.mem_of_getElem? hmk)),Option.bind_some,appP_ok (by simp;omega),Option.bind_some,wrap_succ (by omega)]
  exact ⟨rfl,stateDo_SB ht.1 m,by unfold playStep;simp;omega⟩
 ·intro t ht
  simp only [ge_dec,cond_false]
theorem play_facts:∀ (l:List D_Cmd) (t:D_State×List ByteArray),SB t.1→SB (l.foldl playStep t).1∧(l.foldl playStep t).2.length=t.2.length+l.length
 | [],t,h=>⟨h,by simp⟩
 | m::l,t,h=>by
  obtain ⟨h1,h2⟩:=play_facts l (playStep t m) (stateDo_SB h m)
  refine ⟨h1,?_⟩
  rw [List.foldl_cons,h2]
  unfold playStep
  simp;omega
theorem statePlay_facts (l:List D_Cmd):SB (statePlayD l).1∧(statePlayD l).2.length=l.length:=by
 have:=play_facts l (([],[]),[]) SB.nil
 unfold statePlayD
 simpa using this
noncomputable def cmdsI (l:List D_Inst):List D_Cmd:=((ordI l).map fun x=>(atI l x).2.2.2.2.1).filter fun m=>!decide (m.1=0)
theorem cmds_len (l:List D_Inst):(cmdsI l).length≤324:=by
 have h1:=List.length_filter_le (fun m:D_Cmd=>!decide (m.1=0)) ((ordI l).map fun x=>(atI l x).2.2.2.2.1)
 rw [List.length_map] at h1
 have:=(ord_nodup l).2
 unfold cmdsI
 omega
theorem at_ok {l:List D_Inst} (ho:Ok.ok l) (x:D_Id):Ok.ok (atI l x).2.2.2.2.1:=by
 unfold atI
 cases hg:getI l x with
 | none=>refine ⟨?_,?_,?_,Nat.zero_le _,Nat.zero_le _,Nat.zero_le _,?_,Nat.zero_le _,fun y hy=>(by cases hy)⟩<;>(show inR 0;unfold inR;omega)
 | some y=>exact (ho.2 y (getI_some hg).1).2.2.2.2.1
theorem cmds_ok {l:List D_Inst} (ho:Ok.ok l):∀ m,m∈cmdsI l→Ok.ok m:=fun m hm=>by
 obtain ⟨x,_,rfl⟩:=List.mem_map.1 (List.mem_filter.1 hm).1
 exact at_ok ho x
theorem foldl_fm {α β:Type} (g:β→α) (p:α→Bool):∀ (xs:List β) (acc:List α),xs.foldl (fun t x=>if p (g x) then t++[g x] else t) acc=acc++(xs.map g).filter p
 | [],acc=>by simp
 | x::xs,acc=>by
  rw [List.foldl_cons,foldl_fm g p xs,List.map_cons]
  cases h:p (g x) with
  | true=>rw [if_pos rfl,List.filter_cons_of_pos h];simp
  | false=>rw [if_neg (by simp),List.filter_cons_of_neg (by simp [h])]
theorem s_ExecCmds_eq {l:List D_Inst} (ho:Ok.ok l) (hl:l.length≤1048576) (hs:smallL l):s_ExecCmds l=some (cmdsI l):=by
 unfold s_ExecCmds
 obtain ⟨_,h3⟩:=ord_nodup l
 rw [Option.bind_some,s_ExecOrder_eq ho,Option.bind_some]
 rw [loop_pass (l:=ordI l) (fun k (t:List D_Cmd)=>(t,(k:Int))) (fun t x=>if !decide ((atI l x).2.2.2.2.1.1=0) then t++[(atI l x).2.2.2.2.1] else t) some (fun k t=>t.length≤k) [] (s0:=([],0)) rfl (Nat.le_refl _)]
 ·rw [foldl_fm (fun x=>(atI l x).2.2.2.2.1) (fun m:D_Cmd=>!decide (m.1=0))];rfl
 ·intro k t x hx ht
  have hk:=(List.getElem?_eq_some_iff.1 hx).1
  simp only [lt_dec hk,cond_true,idx_nat,hx,Option.bind_some]
  rw [s_InstAt_eq hl hs x,Option.bind_some,wrap_succ (by omega)]
  cases hc:(!decide ((atI l x).2.2.2.2.1.1=0)) with
  | true=>rw [cond_true,appP_ok (by simp;omega),Option.bind_some,if_pos rfl];exact ⟨rfl,by simp;omega⟩
  | false=>rw [cond_false,if_neg (by simp)];exact ⟨rfl,by omega⟩
 ·intro t ht
  simp only [ge_dec,cond_false]
theorem i_ExecCmds_eq {l:List D_Inst} (ho:Ok.ok l) (hl:l.length≤1048576) (hs:smallL l):i_ExecCmds l=some (cmdsI l):=by
 unfold i_ExecCmds
 obtain ⟨_,h3⟩:=ord_nodup l
 rw [Option.bind_some,i_ExecOrder_eq ho hs,Option.bind_some]
 rw [loop_pass (l:=ordI l) (fun k (t:List D_Cmd)=>(t,(k:Int))) (fun t x=>if !decide ((atI l x).2.2.2.2.1.1=0) then t++[(atI l x).2.2.2.2.1] else t) some (fun k t=>t.length≤k) [] (s0:=([],0)) rfl (Nat.le_refl _)]
 ·rw [foldl_fm (fun x=>(atI l x).2.2.2.2.1) (fun m:D_Cmd=>!decide (m.1=0))];rfl
 ·intro k t x hx ht
  have hk:=(List.getElem?_eq_some_iff.1 hx).1
  simp only [lt_dec hk,cond_true,idx_nat,hx,Option.bind_some]
  rw [i_InstAt_eq hl hs x,Option.bind_some,wrap_succ (by omega)]
  cases hc:(!decide ((atI l x).2.2.2.2.1.1=0)) with
  | true=>rw [cond_true,appP_ok (by simp;omega),Option.bind_some,if_pos rfl];exact ⟨rfl,by simp;omega⟩
  | false=>rw [cond_false,if_neg (by simp)];exact ⟨rfl,by omega⟩
 ·intro t ht
  simp only [ge_dec,cond_false]
noncomputable def nodeStateD (d:D_ENode):D_State:=if nodeOkB d then (statePlayD (cmdsI d.2.2.1)).1 else ([],[])
def smallE (d:D_ENode):Prop:=d.2.2.1.length≤1048576∧smallL d.2.2.1
theorem s_NodeState_eq {d:D_ENode} (ho:Ok.ok d) (hs:smallE d):s_NodeState d=some (nodeStateD d):=by
 unfold s_NodeState nodeStateD
 rw [show s_ENodeOk _=_ from s_ENodeOk_eq (d:=d) ho,Option.bind_some]
 by_cases hk:nodeOkB d=true
 case neg=>rw [Bool.eq_false_iff.2 hk];rfl
 have:=cmds_len d.2.2.1
 rw [hk,Bool.not_true,cond_false,if_pos rfl,s_ExecCmds_eq ho.2.2.1 hs.1 hs.2,Option.bind_some,s_StatePlay_eq (by omega) (cmds_ok ho.2.2.1),Option.bind_some]
theorem i_NodeState_eq {d:D_ENode} (ho:Ok.ok d) (hs:smallE d):i_NodeState d=some (nodeStateD d):=by
 unfold i_NodeState nodeStateD
 rw [show i_ENodeOk _=_ from i_ENodeOk_eq (d:=d) ho,Option.bind_some]
 by_cases hk:nodeOkB d=true
 case neg=>rw [Bool.eq_false_iff.2 hk];rfl
 have:=cmds_len d.2.2.1
 rw [hk,Bool.not_true,cond_false,if_pos rfl,i_ExecCmds_eq ho.2.2.1 hs.1 hs.2,Option.bind_some,i_StatePlay_eq (by omega) (cmds_ok ho.2.2.1),Option.bind_some]
end Go.Proofs.SL
namespace Go.Proofs.SL
open Go
noncomputable def varB (n:Nat):ByteArray:=strP (varL n)
theorem varB_size {n:Nat} (h:n≤1000):(varB n).size≤2:=by
 unfold varB
 rw [strP_size]
 unfold varL
 split
 ·exact Nat.le_succ 1
 ·unfold varL
  rw [dif_pos (by omega)]
  exact Nat.le_refl 2
theorem s_Var_n {n:Nat} (h:n≤1000):s_Var (n:Int)=some (varB n):=s_Var_eq (by omega)
theorem i_Var_n {n:Nat} (h:n≤1000):i_Var (n:Int)=some (varB n):=i_Var_eq (by omega)
noncomputable def pieceB (x:ByteArray):ByteArray:=varB x.size++x
theorem piece_size {x:ByteArray} (h:x.size≤200):(pieceB x).size≤x.size+2:=by
 have:=varB_size (n:=x.size) (by omega)
 unfold pieceB
 rw [ByteArray.size_append]
 omega
theorem s_piece {x:ByteArray} (h:x.size≤200):s_l4Piece x=some (pieceB x):=by
 have:=varB_size (n:=x.size) (by omega)
 unfold s_l4Piece pieceB
 rw [s_Var_n (by omega),Option.bind_some,catP_ok (by omega)];rfl
theorem i_piece {x:ByteArray} (h:x.size≤200):i_sized x=some (pieceB x):=by
 have:=varB_size (n:=x.size) (by omega)
 unfold i_sized pieceB
 rw [i_Var_n (by omega),Option.bind_some,catP_ok (by omega)];rfl
noncomputable def textStep (t x:ByteArray):ByteArray:=t++pieceB x
noncomputable def textsB (l:List ByteArray):ByteArray:=l.foldl textStep ByteArray.empty
theorem text_fold:∀ (l:List ByteArray) (t:ByteArray),l.foldl textStep t=t++textsB l
 | [],t=>(ByteArray.append_empty).symm
 | x::l,t=>by
  unfold textsB
  rw [List.foldl_cons,List.foldl_cons,text_fold l,text_fold l (textStep ByteArray.empty x)]
  unfold textStep
  rw [ByteArray.empty_append,ByteArray.append_assoc]
theorem texts_size:∀ (l:List ByteArray) (t:ByteArray),(∀ x,x∈l→x.size≤8)→(l.foldl textStep t).size≤t.size+10*l.length
 | [],t,_=>by simp
 | x::l,t,h=>by
  have h1:=texts_size l (textStep t x) fun y hy=>h y (List.mem_cons_of_mem _ hy)
  have h2:=h x (List.mem_cons_self ..)
  have h3:=piece_size (x:=x) (by omega)
  rw [List.foldl_cons]
  have h4:(textStep t x).size=t.size+(pieceB x).size:=ByteArray.size_append
  simp only [List.length_cons]
  omega
theorem s_texts_eq {l:List ByteArray} (hl:l.length≤100) (h:∀ x,x∈l→x.size≤8):s_l26Texts l=some (textsB l):=by
 unfold s_l26Texts textsB
 rw [loop_pass (l:=l) (fun k (t:ByteArray)=>(t,(k:Int))) textStep some (fun k t=>t.size≤10*k) ByteArray.empty (s0:=(ByteArray.empty,0)) rfl (Nat.le_refl _)]
 ·intro k t x hx ht
  have hk:=(List.getElem?_eq_some_iff.1 hx).1
  have h2:=h x (List.mem_of_getElem? hx)
  have h3:=piece_size (x:=x) (by omega)
  simp only [lt_dec hk,cond_true,idx_nat,hx,Option.bind_some]
  rw [s_piece (by omega),Option.bind_some,catP_ok (by omega),Option.bind_some,wrap_succ (by omega)]
  refine ⟨rfl,?_⟩
  show (t++pieceB x).size≤_
  rw [ByteArray.size_append];omega
 ·intro t ht
  simp only [ge_dec,cond_false]
noncomputable def snapStep (t:ByteArray) (p:D_CSnap):ByteArray:=t++pieceB p.1++pieceB p.2.1++varB p.2.2.length++textsB p.2.2
noncomputable def setStep (t:ByteArray) (s:D_CSet):ByteArray:=s.2.foldl snapStep (t++pieceB s.1++varB s.2.length)
noncomputable def showC (c:D_Catalog):ByteArray:=c.foldl setStep (varB c.length)++varB 0
theorem snap_size {p:D_CSnap} (hp:p.1.size≤8∧p.2.1.size≤8∧p.2.2.length≤4∧∀ x,x∈p.2.2→x.size≤8) (t:ByteArray):(pieceB p.1).size≤10∧(pieceB p.2.1).size≤10∧(varB p.2.2.length).size≤2∧(textsB p.2.2).size≤40∧(snapStep t p).size≤t.size+62:=by
 obtain ⟨h1,h2,h3,h4⟩:=hp
 have a1:=piece_size (x:=p.1) (by omega)
 have a2:=piece_size (x:=p.2.1) (by omega)
 have a3:=varB_size (n:=p.2.2.length) (by omega)
 have a4:(textsB p.2.2).size≤40:=by
  have:=texts_size p.2.2 ByteArray.empty h4
  have z:ByteArray.empty.size=0:=rfl
  unfold textsB;omega
 refine ⟨by omega,by omega,a3,a4,?_⟩
 unfold snapStep
 simp only [ByteArray.size_append]
 omega
theorem snaps_size:∀ (l:List D_CSnap) (t:ByteArray),(∀ p,p∈l→p.1.size≤8∧p.2.1.size≤8∧p.2.2.length≤4∧∀ x,x∈p.2.2→x.size≤8)→(l.foldl snapStep t).size≤t.size+62*l.length
 | [],t,_=>by simp
 | p::l,t,h=>by
  have h1:=snaps_size l (snapStep t p) fun y hy=>h y (List.mem_cons_of_mem _ hy)
  have h2:=(snap_size (h p (List.mem_cons_self ..)) t).2.2.2.2
  rw [List.foldl_cons]
  simp only [List.length_cons]
  omega
theorem set_size {c:D_Catalog} (h:CBnd c) {s:D_CSet} (hs:s∈c) (t:ByteArray):(pieceB s.1).size≤10∧(varB s.2.length).size≤2∧(setStep t s).size≤t.size+400:=by
 have h1:=h.name s hs
 have h2:=h.snaps s hs
 have a1:=piece_size (x:=s.1) (by omega)
 have a2:=varB_size (n:=s.2.length) (by omega)
 have a3:=snaps_size s.2 (t++pieceB s.1++varB s.2.length) (h.snap s hs)
 simp only [ByteArray.size_append] at a3
 refine ⟨by omega,a2,?_⟩
 unfold setStep
 omega
theorem said_nil:saidOkB []=true:=rfl
noncomputable def showS (c:D_Catalog):ByteArray:=if catOkB c then showC c else ByteArray.empty
theorem s_ShowState_eq {c:D_Catalog} (h:CBnd c):s_ShowState (c,[])=some (showS c):=by
 have hlen:=h.len
 unfold s_ShowState showS
 dsimp only
 rw [show s_StateOk (c,[])=_ from s_StateOk_eq (s:=(c,[])) h (by simp),Option.bind_some]
 unfold stateOkB
 rw [said_nil,Bool.and_true]
 cases catOkB c with
 | false=>rfl
 | true =>
  rw [Bool.not_true,cond_false,if_pos rfl,s_Var_n (by omega),Option.bind_some]
  have hv:=varB_size (n:=c.length) (by omega)
  rw [loop_pass (l:=c) (fun k (t:ByteArray)=>(t,(k:Int))) setStep (fun t=>some (t++varB 0)) (fun k t=>t.size≤2+400*k) (varB c.length) (s0:=(varB c.length,0)) rfl (by omega)]
  ·rfl
  ·intro k t s hs ht
   have hk:=(List.getElem?_eq_some_iff.1 hs).1
   have hsm:=List.mem_of_getElem? hs
   obtain ⟨b1,b2,b3⟩:=set_size h hsm t
   have h1:=h.name s hsm
   have h2:=h.snaps s hsm
   simp only [lt_dec hk,cond_true,idx_nat,hs,Option.bind_some]
   rw [s_piece (by omega),Option.bind_some,catP_ok (by omega),Option.bind_some,s_Var_n (by omega),Option.bind_some,catP_ok (by simp only [ByteArray.size_append];omega),Option.bind_some]
   rw [loop_pass (l:=s.2) (fun k (t:ByteArray)=>(t,(k:Int))) snapStep (fun u=>some (.inl (u,((k+1:Nat):Int)))) (fun j u=>u.size≤t.size+12+62*j) (t++pieceB s.1++varB s.2.length) (s0:=(t++pieceB s.1++varB s.2.length,0)) rfl (by simp only [ByteArray.size_append];omega)]
   ·exact ⟨rfl,Nat.le_trans b3 (by clear b1 b2 b3 hv;omega)⟩
   ·intro j u p hp hu
    have hj:=(List.getElem?_eq_some_iff.1 hp).1
    have hpm:=h.snap s hsm p (List.mem_of_getElem? hp)
    obtain ⟨c1,c2,c3,c4,c5⟩:=snap_size hpm u
    simp only [lt_dec hj,cond_true,idx_nat,hp,Option.bind_some]
    rw [s_piece (by omega),Option.bind_some,catP_ok (by omega),Option.bind_some,s_piece (by omega),Option.bind_some,catP_ok (by simp only [ByteArray.size_append];omega),Option.bind_some,s_Var_n (by omega),Option.bind_some,catP_ok (by simp only [ByteArray.size_append];omega),Option.bind_some,s_texts_eq (by omega) hpm.2.2.2,Option.bind_some,catP_ok (by simp only [ByteArray.size_append];omega),Option.bind_some,wrap_succ (by omega)]
    exact ⟨rfl,by omega⟩
   ·intro u hu
    simp only [ge_dec,cond_false]
    rw [wrap_succ (by omega)]
  ·intro t ht
   have hv0:=varB_size (n:=0) (by omega)
   simp only [ge_dec,cond_false]
   rw [show ((([]:List D_Said).length:Nat):Int)=((0:Nat):Int) from rfl,s_Var_n (by omega),Option.bind_some,catP_ok (by omega),Option.bind_some,whileP_done (a:=t++varB 0) rfl]
theorem i_ShowState_eq {c:D_Catalog} (h:CBnd c):i_ShowState (c,[])=some (showS c):=by
 have hlen:=h.len
 unfold i_ShowState showS
 dsimp only
 rw [show i_StateOk (c,[])=_ from i_StateOk_eq (s:=(c,[])) h (by simp),Option.bind_some]
 unfold stateOkB
 rw [said_nil,Bool.and_true]
 cases catOkB c with
 | false=>rfl
 | true =>
  rw [Bool.not_true,cond_false,if_pos rfl,i_Var_n (by omega),Option.bind_some]
  have hv:=varB_size (n:=c.length) (by omega)
  rw [loop_pass (l:=c) (fun k (t:ByteArray)=>(t,(k:Int))) setStep (fun t=>some (t++varB 0)) (fun k t=>t.size≤2+400*k) (varB c.length) (s0:=(varB c.length,0)) rfl (by omega)]
  ·rfl
  ·intro k t s hs ht
   have hk:=(List.getElem?_eq_some_iff.1 hs).1
   have hsm:=List.mem_of_getElem? hs
   obtain ⟨b1,b2,b3⟩:=set_size h hsm t
   have h1:=h.name s hsm
   have h2:=h.snaps s hsm
   simp only [lt_dec hk,cond_true,idx_nat,hs,Option.bind_some]
   rw [i_piece (by omega),Option.bind_some,catP_ok (by omega),Option.bind_some,i_Var_n (by omega),Option.bind_some,catP_ok (by simp only [ByteArray.size_append];omega),Option.bind_some]
   rw [loop_pass (l:=s.2) (fun k (t:ByteArray)=>(t,(k:Int))) snapStep (fun u=>some (.inl (u,((k+1:Nat):Int)))) (fun j u=>u.size≤t.size+12+62*j) (t++pieceB s.1++varB s.2.length) (s0:=(t++pieceB s.1++varB s.2.length,0)) rfl (by simp only [ByteArray.size_append];omega)]
   ·exact ⟨rfl,Nat.le_trans b3 (by clear b1 b2 b3 hv;omega)⟩
   ·intro j u p hp hu
    have hj:=(List.getElem?_eq_some_iff.1 hp).1
    have hpm:=h.snap s hsm p (List.mem_of_getElem? hp)
    obtain ⟨c1,c2,c3,c4,c5⟩:=snap_size hpm u
    simp only [lt_dec hj,cond_true,idx_nat,hp,Option.bind_some]
    rw [i_piece (by omega),Option.bind_some,catP_ok (by omega),Option.bind_some,i_piece (by omega),Option.bind_some,catP_ok (by simp only [ByteArray.size_append];omega),Option.bind_some,i_Var_n (by omega),Option.bind_some,catP_ok (by simp only [ByteArray.size_append];omega),Option.bind_some]
    have hpl:=hpm.2.2.1
    rw [loop_pass (l:=p.2.2) (fun k (t:ByteArray)=>(t,(k:Int))) textStep (fun v=>some (.inl (v,((j+1:Nat):Int)))) (fun i v=>v.size≤u.size+22+10*i) (u++pieceB p.1++pieceB p.2.1++varB p.2.2.length) (s0:=(u++pieceB p.1++pieceB p.2.1++varB p.2.2.length,0)) rfl (by simp only [ByteArray.size_append];omega)]
    ·rw [text_fold]
     exact ⟨rfl,by omega⟩
    ·intro i v x hx hv
     have hi:=(List.getElem?_eq_some_iff.1 hx).1
     have hxs:=hpm.2.2.2 x (List.mem_of_getElem? hx)
     have h3:=piece_size (x:=x) (by omega)
     simp only [lt_dec hi,cond_true,idx_nat,hx,Option.bind_some]
     rw [i_piece (by omega),Option.bind_some,catP_ok (by omega),Option.bind_some,wrap_succ (by omega)]
     refine ⟨rfl,?_⟩
     show (v++pieceB x).size≤_
     rw [ByteArray.size_append];omega
    ·intro v hv
     simp only [ge_dec,cond_false]
     rw [wrap_succ (by omega)]
   ·intro u hu
    simp only [ge_dec,cond_false]
    rw [wrap_succ (by omega)]
  ·intro t ht
   have hv0:=varB_size (n:=0) (by omega)
   simp only [ge_dec,cond_false]
   rw [show ((([]:List D_Said).length:Nat):Int)=((0:Nat):Int) from rfl,i_Var_n (by omega),Option.bind_some,catP_ok (by omega),Option.bind_some,whileP_done (a:=t++varB 0) rfl]
theorem nodeState_cat (d:D_ENode):CBnd (nodeStateD d).1:=by
 unfold nodeStateD
 split
 ·exact (statePlay_facts _).1.cat
 ·exact bnd_nil
noncomputable def showN (d:D_ENode):ByteArray:=showS (nodeStateD d).1
theorem i_catalogOf_eq {d:D_ENode} (ho:Ok.ok d) (hs:smallE d):i_catalogOf d=some (showN d):=by
 unfold i_catalogOf showN
 rw [show i_NodeState _=_ from i_NodeState_eq (d:=d) ho hs,Option.bind_some,i_ShowState_eq (nodeState_cat d)];rfl
def sameIds (A B:List D_Id):Bool:=(A.all fun x=>decide (x∈B))&&decide (A.length=B.length)
theorem s_l27Same_eq {A B:List D_Id} (hA:A.length≤1000) (hB:B.length≤1000):s_l27Same A B=some (sameIds A B):=by
 unfold s_l27Same sameIds
 rw [each_loop (l:=A) (p:=fun x=>decide (x∈B)) (no:=some false) (yes:=some (decide (A.length=B.length))) (by omega)]
 ·cases A.all fun x=>decide (x∈B)<;>rfl
 ·intro k x hx
  simp only [lt_dec (List.getElem?_eq_some_iff.1 hx).1,cond_true,idx_nat,hx,Option.bind_some]
  rw [has_dec hB,Option.bind_some]
  cases decide (x∈B)<;>rfl
 ·simp only [ge_dec,cond_false]
  rw [show decide ((A.length:Int)=(B.length:Int))=decide (A.length=B.length) by rw [Bool.eq_iff_iff];simp only [decide_eq_true_eq];omega]
theorem same_sorted {A B:List D_Id} (hA:A.Nodup) (hB:B.Nodup):sameIds A B=pB (isort idLt A=isort idLt B):=by
 obtain ⟨u1,u2⟩:=isort_up idLt_sto hA
 obtain ⟨v1,v2⟩:=isort_up idLt_sto hB
 rw [Bool.eq_iff_iff,pB_iff]
 unfold sameIds
 rw [Bool.and_eq_true,List.all_eq_true,decide_eq_true_eq]
 constructor
 ·rintro ⟨h1,h2⟩
  refine Gr.up_ext idLt_sto u1 v1 fun x=>?_
  rw [u2,v2]
  refine ⟨fun hx=>of_decide_eq_true (h1 x hx),fun hx=>?_⟩
  by_cases hxa:x∈A
  ·exact hxa
  ·have h3:=List.Nodup.length_le_of_subset (l₂:=B.erase x) hA fun y hy=>(List.mem_erase_of_ne fun e=>hxa (by rw [← e];exact hy)).2 (of_decide_eq_true (h1 y hy))
   rw [List.length_erase_of_mem hx] at h3
   have:=List.length_pos_of_mem hx
   omega
 ·intro e
  refine ⟨fun x hx=>decide_eq_true ?_,?_⟩
  ·rw [← v2,← e,u2];exact hx
  ·rw [← (isort_perm idLt A).length_eq,e,(isort_perm idLt B).length_eq]
theorem netOk_len {d:D_ENet} (h:netOkB d=true):d.1.length=3:=by
 unfold netOkB at h
 simp only [Bool.and_eq_true,decide_eq_true_eq] at h
 exact h.1.1.1
def smallD (d:D_ENet):Prop:=∀ n,n∈d.1→smallE n
noncomputable def pairA (d:D_ENet) (k j:Nat):Bool:=match d.1[k]?,d.1[j]? with
 | some n,some m=>!sameIds (ordI n.2.2.1) (ordI m.2.2.1)||decide (showN n=showN m)
 | _,_=>false
noncomputable def alikeB (d:D_ENet):Bool:=netOkB d&&(List.range 3).all fun k=>(List.range k).all fun j=>pairA d k j
theorem s_Alike_eq {d:D_ENet} (ho:Ok.ok d) (hs:smallD d):s_Alike d=some (alikeB d):=by
 unfold s_Alike alikeB
 rw [show s_ENetOk _=_ from s_ENetOk_eq ho,Option.bind_some]
 by_cases hn:netOkB d=true
 case neg=>rw [Bool.eq_false_iff.2 hn];rfl
 have h3:=netOk_len hn
 rw [hn,Bool.not_true,cond_false,Bool.true_and]
 rw [whileP_all (n:=3) (fun k=>(List.range k).all fun j=>pairA d k j) (some false) (some true)]
 ·cases (List.range 3).all fun k=>(List.range k).all fun j=>pairA d k j<;>rfl
 ·intro k hk
  have hx:d.1[k]?=some (d.1[k]'(by omega)):=List.getElem?_eq_getElem _
  generalize d.1[k]'(by omega)=n at hx
  have hnm:=List.mem_of_getElem? hx
  rw [decide_eq_true (show (k:Int) < 3 by omega),cond_true]
  rw [whileP_all (n:=k) (fun j=>pairA d k j) (some (.inr false)) (some (.inl ((k+1:Nat):Int)))]
  ·cases (List.range k).all fun j=>pairA d k j<;>rfl
  ·intro j hj
   have hy:d.1[j]?=some (d.1[j]'(by omega)):=List.getElem?_eq_getElem _
   generalize d.1[j]'(by omega)=m at hy
   have hmm:=List.mem_of_getElem? hy
   have e:pairA d k j=(!sameIds (ordI n.2.2.1) (ordI m.2.2.1)||decide (showN n=showN m)):=by
    unfold pairA;rw [hx,hy]
   obtain ⟨_,l1⟩:=ord_nodup n.2.2.1
   obtain ⟨_,l2⟩:=ord_nodup m.2.2.1
   rw [e,decide_eq_true (show (j:Int) < (k:Int) by omega),cond_true,idx_nat,hx,Option.bind_some,idx_nat,hy,Option.bind_some,s_ExecOrder_eq (ho.1.2 n hnm).2.2.1,Option.bind_some,s_ExecOrder_eq (ho.1.2 m hmm).2.2.1,Option.bind_some,s_l27Same_eq (by omega) (by omega),Option.bind_some,wrap_succ (by omega)]
   cases sameIds (ordI n.2.2.1) (ordI m.2.2.1) with
   | false=>rfl
   | true =>
    rw [Bool.not_true,cond_false,show s_NodeState _=_ from s_NodeState_eq (d:=n) (ho.1.2 n hnm) (hs n hnm),Option.bind_some,show s_NodeState _=_ from s_NodeState_eq (d:=m) (ho.1.2 m hmm) (hs m hmm),Option.bind_some,s_ShowState_eq (nodeState_cat n),Option.bind_some,s_ShowState_eq (nodeState_cat m),Option.bind_some,Bool.false_or]
    show cond (!decide (showN n=showN m)) _ _=_
    by_cases hq:showN n=showN m
    ·rw [decide_eq_true hq];rfl
    ·rw [decide_eq_false hq];rfl
  ·rw [decide_eq_false (by omega),cond_false,wrap_succ (by omega)]
 ·rfl
theorem i_Alike_eq {d:D_ENet} (ho:Ok.ok d) (hs:smallD d):i_Alike d=some (alikeB d):=by
 unfold i_Alike alikeB
 rw [show i_ENetOk _=_ from i_ENetOk_eq ho,Option.bind_some]
 by_cases hn:netOkB d=true
 case neg=>rw [Bool.eq_false_iff.2 hn];rfl
 have h3:=netOk_len hn
 rw [hn,Bool.not_true,cond_false,Bool.true_and]
 rw [whileP_all (n:=3) (fun k=>(List.range k).all fun j=>pairA d k j) (some false) (some true)]
 ·cases (List.range 3).all fun k=>(List.range k).all fun j=>pairA d k j<;>rfl
 ·intro k hk
  have hx:d.1[k]?=some (d.1[k]'(by omega)):=List.getElem?_eq_getElem _
  generalize d.1[k]'(by omega)=n at hx
  have hnm:=List.mem_of_getElem? hx
  rw [decide_eq_true (show (k:Int) < (d.1.length:Int) by omega),cond_true,idx_nat,hx,Option.bind_some,slcP_at (by omega),Option.bind_some]
  rw [show (List.drop (Int.toNat 0) d.1).take ((k:Int).toNat - Int.toNat 0)=d.1.take k from rfl]
  rw [whileP_all (n:=k) (fun j=>pairA d k j) (some (.inr false)) (some (.inl ((k+1:Nat):Int)))]
  ·cases (List.range k).all fun j=>pairA d k j<;>rfl
  ·intro j hj
   have hy:d.1[j]?=some (d.1[j]'(by omega)):=List.getElem?_eq_getElem _
   generalize d.1[j]'(by omega)=m at hy
   have hmm:=List.mem_of_getElem? hy
   have hyt:(d.1.take k)[j]?=some m:=by rw [List.getElem?_take,if_pos hj,hy]
   have e:pairA d k j=(!sameIds (ordI n.2.2.1) (ordI m.2.2.1)||decide (showN n=showN m)):=by
    unfold pairA;rw [hx,hy]
   obtain ⟨n1,l1⟩:=ord_nodup n.2.2.1
   obtain ⟨n2,l2⟩:=ord_nodup m.2.2.1
   have p1:=(isort_perm idLt (ordI n.2.2.1)).length_eq
   rw [e,decide_eq_true (show (j:Int) < ((d.1.take k).length:Int) by rw [List.length_take];omega),cond_true,idx_nat,hyt,Option.bind_some,i_ExecOrder_eq (ho.1.2 n hnm).2.2.1 (hs n hnm).2,Option.bind_some,i_ExecOrder_eq (ho.1.2 m hmm).2.2.1 (hs m hmm).2,Option.bind_some]
   rw [show sortFn (ordI n.2.2.1) (fun z0 z1=>i_compareIds z0 z1)=some (isort idLt (ordI n.2.2.1)) from sortFn_eq idLt_sto compareIds_lt (by omega),Option.bind_some,show sortFn (ordI m.2.2.1) (fun z0 z1=>i_compareIds z0 z1)=some (isort idLt (ordI m.2.2.1)) from sortFn_eq idLt_sto compareIds_lt (by omega),Option.bind_some]
   rw [equalIds_eq (by omega),Option.bind_some,← same_sorted n1 n2,wrap_succ (by omega)]
   cases sameIds (ordI n.2.2.1) (ordI m.2.2.1) with
   | false=>rfl
   | true =>
    simp only [gb_true]
    rw [show i_catalogOf _=_ from i_catalogOf_eq (d:=n) (ho.1.2 n hnm) (hs n hnm),Option.bind_some,show i_catalogOf _=_ from i_catalogOf_eq (d:=m) (ho.1.2 m hmm) (hs m hmm),Option.bind_some,Bool.true_and,Bool.not_true,Bool.false_or]
    by_cases hq:showN n=showN m
    ·rw [decide_eq_true hq];rfl
    ·rw [decide_eq_false hq];rfl
  ·rw [decide_eq_false (by rw [List.length_take];omega),cond_false,wrap_succ (by omega)]
 ·rw [decide_eq_false (by omega)];rfl
end Go.Proofs.SL
namespace Go.Proofs.SL
open Go
theorem bd_inst (x:D_Inst):x.2.2.2.2.1.2.2.2.2.2.2.2.length+x.2.2.2.2.2.2.1.length≤Bd.bd (τ:=T_Inst) x:=by
 show _≤((0+0)+(0+(0+(0+((0+(0+(0+(x.2.2.2.2.1.2.2.2.1.size+(x.2.2.2.2.1.2.2.2.2.1.size+(x.2.2.2.2.1.2.2.2.2.2.1.size+(0+(x.2.2.2.2.1.2.2.2.2.2.2.2.length+bds ByteArray x.2.2.2.2.1.2.2.2.2.2.2.2))))))))+(0+((x.2.2.2.2.2.2.1.length+bds T_Id x.2.2.2.2.2.2.1)+0)))))))
 omega
theorem bd_node (d:D_ENode):Bd.bd (τ:=T_ENode) d=(d.2.2.1.length+bds T_Inst d.2.2.1)+(d.2.2.2.length+bds T_Lead d.2.2.2):=by
 show 0+(0+((d.2.2.1.length+bds T_Inst d.2.2.1)+(d.2.2.2.length+bds T_Lead d.2.2.2)))=_
 omega
theorem small_e {d:D_ENode} (h:Bd.bd (τ:=T_ENode) d≤1048576):smallE d:=by
 rw [bd_node] at h
 refine ⟨by omega,fun x hx=>?_⟩
 have h2:=bds_mem (τ:=T_Inst) hx
 have h3:=bd_inst x
 exact ⟨by omega,by omega⟩
end Go.Proofs.SL
namespace Go.Proofs.SL
open Go
instance bdNet:Bd T_ENet:=instBdProd
theorem small_net {d:D_ENet} (h:Bd.bd (τ:=T_ENet) d≤1048576):smallD d:=by
 have h0:(d.1.length+bds T_ENode d.1)+(d.2.length+bds T_EMsg d.2)≤1048576:=h
 intro n hn
 have h1:=bds_mem (τ:=T_ENode) hn
 exact small_e (by omega)
end Go.Proofs.SL
namespace Go.Proofs.SL
open Go
theorem eqx {a b:Value} (h:a=b:=by
  first
   | (refine congrArg Value.bool (Eq.symm (eqB_false.2 fun e=>?_));simp only [dat_pair,dat_int,dat_bool,dat_str,Prod.mk.injEq,eqB_nf,eqB_nt] at *;simp_all;done)
   | (refine congrArg Value.bool (Eq.symm (eqB_true.2 ?_));simp only [dat_pair,dat_int,dat_bool,dat_str,Prod.mk.injEq,eqB_nf,eqB_nt] at *;simp_all;done)
   | (refine congrArg Value.bool (Eq.symm (eqB_false.2 fun e=>?_));try simp only [dat_pair,dat_int,dat_bool,dat_str,Prod.mk.injEq] at e;simp_all;done)
   | (refine congrArg Value.bool (Eq.symm (eqB_true.2 ?_));try simp only [dat_pair,dat_int,dat_bool,dat_str,Prod.mk.injEq];simp_all;done)):a=b:=h
theorem eqy {a b:Value} (h:a=b:=by
  first
   | (refine congrArg Value.bool (Eq.symm (eqB_false.2 fun e=>?_));try simp only [dat_pair,dat_int,dat_bool,dat_str,Prod.mk.injEq] at e;simp_all;done)
   | (refine congrArg Value.bool (Eq.symm (eqB_true.2 ?_));try simp only [dat_pair,dat_int,dat_bool,dat_str,Prod.mk.injEq];simp_all;done)):a=b:=h
end Go.Proofs.SL
namespace Go.Proofs.SL
open Go
set_option maxHeartbeats 2000000
theorem eqIntS_spec (w:World) (t1 t2:TL Int) (h1:GT.rd w [] t1) (h2:GT.rd w [] t2):Spec Tryz.prog 137 [t1.hdr,t2.hdr].toArray w [] (IsV (.bool (eqB (GT.dat t1) (GT.dat t2)))):=by
 obtain ⟨a1,c1,e1,x1,y1⟩:=t1
 obtain ⟨a2,c2,e2,x2,y2⟩:=t2
 have hm1:x1.length≤9223372036854775807:=rd_len h1
 have hm2:x2.length≤9223372036854775807:=rd_len h2
 dsimp only [TL.hdr]
 refine Spec.intro Tryz.func137 rfl Tryz.ntmps137 rfl ?_
 refine s8 ?_
 refine L_lenS rfl rfl el104.h ?_
 refine s1 ?_
 refine L_lenS rfl rfl el104.h ?_
 refine s2 ?_
 refine kp [0,1,10] ?_
 refine W_cond rfl (fun q1=>?_) (fun q1=>?_)
 ·refine s5 ?_
  refine res1 rfl (ResOK.tmp rfl) ⟨?_,rfl⟩ ms
  refine congrArg Value.bool (Eq.symm (eqB_false.2 fun e=>?_))
  simp at q1
  exact q1 (by have:=congrArg List.length e;simp [dat_TL] at this;omega)
 ·have hl:x1.length=x2.length:=by simp at q1;omega
  refine s7 ?_
  refine W_loopC (σ:=Nat) 0 (fun (k:Nat)=>[(5,.int .i64 (k:Int))]) (fun (k:Nat)=>[]) (fun (k:Nat)=>k≤x1.length∧(x1.map GT.dat).take k=(x2.map GT.dat).take k) (fun (k:Nat)=>x1.length - k) [(0,_),(1,_)] [] ?_ sb ms ?_
  ·exact ⟨Nat.zero_le _,rfl⟩
  ·rintro k ⟨hk,ht⟩
   refine kq [0,1,5] ?_
   refine s5 ?_
   refine L_lenS rfl rfl el104.h ?_
   refine s2 ?_
   refine kp [0,1,5,14] ?_
   refine W_cond rfl (fun q4=>?_) (fun q4=>?_)
   ·have hk1:k < x1.length:=by simpa using q4
    obtain ⟨g1,o1,rfl⟩:=rd_addr h1 hk1
    obtain ⟨g2,o2,rfl⟩:=rd_addr (k:=k) h2 (show k < x2.length by omega)
    obtain ⟨u1,hu1⟩:=getEl hk1
    obtain ⟨u2,hu2⟩:=getEl (show k < x2.length by omega)
    refine s4 ?_
    refine W_D0 [25] mix (by kernel_rfl) rfl ?_
    refine s2 ?_
    refine D_indexAddr _ GC.none (OpV.t rfl) (OpV.t rfl) el104.h (fun hg=>⟨rfl,by (try dsimp only);omega⟩) ?_
    refine D_load0 GC.none (OpV.t rfl) (fun hg=>(by first | exact RdC.blk mm | exact RdC.old (Cells.el h1 rfl hu1) | exact RdC.old (Cells.el h2 rfl hu2))) one3.h rfl ?_
    refine s2 ?_
    refine D_indexAddr _ GC.none (OpV.t rfl) (OpV.t rfl) el104.h (fun hg=>⟨rfl,by (try dsimp only);omega⟩) ?_
    refine D_load0 GC.none (OpV.t rfl) (fun hg=>(by first | exact RdC.blk mm | exact RdC.old (Cells.el h1 rfl hu1) | exact RdC.old (Cells.el h2 rfl hu2))) one3.h rfl ?_
    refine s12 ?_
    refine kp [0,1,5,25] ?_
    refine W_cond rfl (fun q6=>?_) (fun q6=>?_)
    ·refine s5 ?_
     refine res1 rfl (ResOK.tmp rfl) ⟨?_,rfl⟩ ms
     refine congrArg Value.bool (Eq.symm (eqB_false.2 fun e=>?_))
     simp at q6
     replace e:x1.map GT.dat=x2.map GT.dat:=e
     have e2:=congrArg (fun l=>l[k]?) e
     simp only [List.getElem?_map,hu1,hu2,Option.map_some,Option.some.injEq] at e2
     exact q6 (by simpa [dat_int,dat_str,dat_bool] using e2)
    ·refine s3 ?_
     refine L_binV rfl rfl rfl (bv_addR (by unfold inR;omega)) ?_
     refine s2 ?_
     refine ⟨k+1,sb,ms,?_,?_⟩
     ·exact ⟨by omega,take_succ_eq ht (by rw [List.getElem?_map,hu1];rfl) (by rw [List.getElem?_map,hu2];rfl) (by simpa [dat_int,dat_str,dat_bool] using q6)⟩
     ·(try dsimp only);omega
   ·refine W_exit ?_
    refine s5 ?_
    refine res1 rfl (ResOK.tmp rfl) ⟨?_,rfl⟩ ms
    refine congrArg Value.bool (Eq.symm (eqB_true.2 ?_))
    have hk2:x1.length≤k:=by simpa using q4
    have h3:=ht
    rw [List.take_of_length_le (by simp;omega),List.take_of_length_le (by simp;omega)] at h3
    exact h3
theorem szIntS_spec (w:World) (t1:TL Int) (left:Int) (hl:0≤left) (hm:left≤1048576) (h1:GT.rd w [] t1) (ho:Ok.ok (GT.dat t1)):Spec Tryz.prog 106 [t1.hdr,.int .i64 left].toArray w [] (IsV (.int .i64 (if (Bk.bulk t1:Int)≤left then left - (Bk.bulk t1:Int) else -1))):=by
 obtain ⟨a1,c1,e1,x1,y1⟩:=t1
 have hm1:x1.length≤9223372036854775807:=rd_len h1
 rw [bulk_TL]
 dsimp only [TL.hdr]
 have hz:bulks x1=0:=by
  clear hm1 h1 ho
  induction x1 with
  | nil=>rfl
  | cons y ys ih=>simp only [bulks,ih];rfl
 refine Spec.intro Tryz.func106 rfl Tryz.ntmps106 rfl ?_
 refine s8 ?_
 refine L_lenS rfl rfl el104.h ?_
 refine L_binV rfl rfl rfl (bv_subR (by unfold inR;omega)) ?_
 refine s8 ?_
 refine kp [1,10] ?_
 refine W_cond rfl (fun q2=>?_) (fun q2=>?_)
 ·have hb0:left - (x1.length:Int) < 0:=by simpa using q2
  refine s5 ?_
  refine res1 rfl (ResOK.tmp rfl) ⟨?_,rfl⟩ ms
  simp only [hz,Nat.add_zero]
  first
   | (rw [if_pos (by omega)];done)
   | (rw [if_neg (by omega)])
 ·have hb0:¬ (left - (x1.length:Int) < 0):=by simpa using q2
  skip
  refine s7 ?_
  refine res1 rfl (ResOK.tmp rfl) ⟨?_,rfl⟩ ms
  simp only [hz,Nat.add_zero]
  first
   | (rw [if_pos (by omega)];done)
   | (rw [if_neg (by omega)])
theorem toIntS_spec (w:World) (t1:TL Int) (h1:GT.rd w [] t1) (hb:Bk.bulk t1≤1048576):Spec Tryz.prog 119 [t1.hdr].toArray w [] (fun v M=>∃ t2:TL Int,v=t2.hdr∧GT.dat t2=GT.dat t1∧M=[treeH t2]):=by
 obtain ⟨a1,c1,e1,x1,y1⟩:=t1
 rw [bulk_TL] at hb
 dsimp only [TL.hdr]
 refine Spec.intro Tryz.func119 rfl Tryz.ntmps119 rfl ?_
 refine s7 ?_
 refine L_lenS rfl rfl el104.h ?_
 refine L_make (τ:=Int) (0:Int) rfl rfl rfl el104.h rfl rfl (flat_int trivial) (by omega) (by unfold maxLen;omega) (fun g=>?_)
 refine s8 ?_
 refine W_loopC (σ:=Nat×List Int) (0,List.replicate x1.length (0:Int)) (fun (p:Nat×List Int)=>[(4,.int .i64 (p.1:Int))]) (fun (p:Nat×List Int)=>[treeH (⟨some ⟨g,0,none⟩,x1.length,3,p.2,[]⟩:TL Int)]) (fun (p:Nat×List Int)=>p.1≤x1.length∧p.2.length=x1.length∧(p.2.take p.1).map GT.dat=(x1.take p.1).map GT.dat) (fun (p:Nat×List Int)=>x1.length - p.1) [(0,_),(3,_)] [] ?_ sb ms ?_
 ·exact ⟨Nat.zero_le _,by simp,by simp⟩
 ·rintro ⟨k,cur⟩ ⟨hk,hlen,hdat⟩
  dsimp only at hk hlen hdat
  refine kq [0,3,4] ?_
  refine s5 ?_
  refine L_lenS rfl rfl el104.h ?_
  refine s2 ?_
  refine kp [0,3,4,11] ?_
  refine W_cond rfl (fun q3=>?_) (fun q3=>?_)
  ·have hk1:k < x1.length:=by simpa using q3
   obtain ⟨g1,o1,rfl⟩:=rd_addr h1 hk1
   obtain ⟨u1,hu1⟩:=getEl hk1
   have hub:Bk.bulk u1≤1048576:=by have:=bulk_mem (List.mem_of_getElem? hu1);omega
   refine s8 ?_
   refine L_indexAddr rfl rfl rfl el104.h rfl (by omega) ?_
   refine L_load0 rfl rfl (by first | exact RdC.blk mm | exact RdC.old (Cells.el h1 rfl hu1)) one3.h rfl ?_
   refine L_indexAddr rfl rfl rfl el104.h rfl (by omega) ?_
   obtain ⟨u0,hu0⟩:=getEl (show k < cur.length by omega)
   refine L_storeElV u1 rfl rfl pk rfl hu0 rfl (flat_int (h1.2.2.1 _ (List.mem_of_getElem? hu1))) (.inr ⟨one3.h,rfl⟩) ?_
   refine s3 ?_
   refine L_binV rfl rfl rfl (bv_addR (by unfold inR;omega)) ?_
   refine s2 ?_
   refine ⟨(k+1,cur.set k u1),sb,ms,?_,?_⟩
   ·exact ⟨by dsimp only;omega,by simpa using hlen,map_take_set GT.dat GT.dat hdat (by omega) hu1 rfl⟩
   ·dsimp only;omega
  ·refine W_exit ?_
   refine s6 ?_
   refine res1 rfl (ResOK.tmp rfl) ⟨⟨some ⟨g,0,none⟩,x1.length,3,cur,[]⟩,?_,?_,rfl⟩ ms
   ·show _=Value.slice _ cur.length _
    rw [hlen]
   ·have hk2:x1.length≤k:=by simpa using q3
    rw [List.take_of_length_le (by omega),List.take_of_length_le (by omega)] at hdat
    exact hdat
end Go.Proofs.SL
