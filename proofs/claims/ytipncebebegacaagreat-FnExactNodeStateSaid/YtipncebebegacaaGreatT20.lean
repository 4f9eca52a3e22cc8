/- The texts of the proof, part 20: the base, walks of functions, plain Lean. -/
import Derived.Test.YtipncebebegacaaGreatT19
import Derived.Test.YtipncebebegacaaGreatT7
import Derived.Test.YtipncebebegacaaGreatRows
namespace Go.Proofs.SL
open Go
def tOld:ByteArray:=ByteArray.mk #[111,108,100]
noncomputable def doIt (s:D_State) (m:D_Cmd):D_State×ByteArray:=(((catDoD s.1 m).1,putS (m.2.1,m.2.2.1,(catDoD s.1 m).2) s.2),(catDoD s.1 m).2)
noncomputable def stateDoD (s:D_State) (m:D_Cmd):D_State×ByteArray :=
 if stateOkB s then (if !cmdOkB m||decide (m.1=0) then (s,ByteArray.empty) else match findS s.2 m.2.1 with
  | some x=>if x.2.1=m.2.2.1 then (s,x.2.2) else if m.2.2.1 < x.2.1 then (s,tOld) else doIt s m
  | none=>doIt s m) else (([],[]),ByteArray.empty)
structure SB (s:D_State):Prop where
 cat:CBnd s.1
 said:s.2.length≤10
theorem SB.nil:SB ([],[]):=⟨bnd_nil,by decide⟩
theorem stateDo_SB {s:D_State} (h:SB s) (m:D_Cmd):SB (stateDoD s m).1:=by
 unfold stateDoD
 split
 ·rename_i hk
  unfold stateOkB at hk
  rw [Bool.and_eq_true] at hk
  have h9:=said_len hk.2
  have hd:SB (doIt s m).1:=⟨catDo_bnd s.1 m,by
   have:=putS_len (m.2.1,m.2.2.1,(catDoD s.1 m).2) s.2
   show (putS _ s.2).length≤10
   omega⟩
  split
  ·exact h
  ·split
   ·split
    ·exact h
    ·split
     ·exact h
     ·exact hd
   ·exact hd
 ·exact SB.nil
theorem s_StateDo_eq {s:D_State} {m:D_Cmd} (h:SB s) (hm:Ok.ok m):s_StateDo s m=some (stateDoD s m):=by
 have h10:=h.said
 unfold s_StateDo stateDoD
 rw [show s_StateOk _=_ from s_StateOk_eq (s:=s) h.cat (by omega),Option.bind_some]
 by_cases hk:stateOkB s=true
 case neg=>rw [Bool.eq_false_iff.2 hk];rfl
 have hk2:=hk
 unfold stateOkB at hk2
 rw [Bool.and_eq_true] at hk2
 obtain ⟨_,hpw⟩:=saidOk_facts hk2.2
 rw [hk,Bool.not_true,cond_false,if_pos rfl]
 unfold s_l16Copy
 rw [s_l15Copy_eq h.cat,Option.bind_some,Option.bind_some,appP_ok (by simp;omega),Option.bind_some,Option.bind_some,show s_CmdOk _=_ from s_CmdOk_eq (c:=m) hm,Option.bind_some]
 rw [show ([]:List D_Said)++s.2=s.2 from rfl]
 by_cases hmk:(!cmdOkB m||decide (m.1=0))=true
 ·rw [hmk,cond_true,if_pos rfl]
 rw [Bool.eq_false_iff.2 hmk,cond_false,if_neg (by simp)]
 refine whileP_is (s:=(0:Int)) (fun z:Int=>∃ k:Nat,z=(k:Int)∧k≤s.2.length∧∀ y,y∈s.2.take k→y.1=m.2.1→y.2.1 < m.2.2.1) (fun z=>(s.2.length - z).toNat) ?_ ⟨0,rfl,Nat.zero_le _,fun y hy=>by simp at hy⟩
 rintro _ ⟨k,rfl,hkl,hI⟩
 by_cases hkl2:k < s.2.length
 ·have hx:s.2[k]?=some s.2[k]:=List.getElem?_eq_getElem hkl2
  have hxm:s.2[k]∈s.2:=List.getElem_mem _
  generalize s.2[k]=y at hx hxm
  rw [lt_dec hkl2,cond_true,idx_nat,hx,Option.bind_some,wrap_succ (by omega)]
  have hI2:(y.1=m.2.1→y.2.1 < m.2.2.1)→∀ z,z∈s.2.take (k+1)→z.1=m.2.1→z.2.1 < m.2.2.1:=fun hy z hz=>by
   rw [List.take_add_one,hx] at hz
   rcases List.mem_append.1 hz with hz | hz
   ·exact hI z hz
   ·rw [List.mem_singleton.1 hz];exact hy
  by_cases h1:y.1=m.2.1
  ·rw [decide_eq_true h1,Bool.not_true,cond_false,Option.bind_some,findS_of hpw hxm h1]
   dsimp only
   by_cases h2:y.2.1=m.2.2.1
   ·right
    rw [decide_eq_true h2,cond_true,if_pos h2];rfl
   rw [decide_eq_false h2,cond_false,if_neg h2,Option.bind_some]
   by_cases h3:m.2.2.1 < y.2.1
   ·right
    rw [decide_eq_true h3,cond_true,if_pos h3];rfl
   ·left
    rw [decide_eq_false h3,cond_false]
    exact ⟨_,rfl,⟨k+1,rfl,hkl2,hI2 fun _=>by omega⟩,by omega⟩
  ·left
   rw [decide_eq_false h1,Bool.not_false,cond_true]
   exact ⟨_,rfl,⟨k+1,rfl,hkl2,hI2 fun e=>(h1 e).elim⟩,by omega⟩
 ·right
  have:k=s.2.length:=by omega
  subst this
  rw [List.take_of_length_le (Nat.le_refl _)] at hI
  rw [ge_dec,cond_false,show s_CatDo _ _=_ from s_CatDo_eq (c:=s.1) (m:=m) h.cat.ok hm,Option.bind_some,s_l16Put_eq _ (by omega) hpw,Option.bind_some]
  cases hf:findS s.2 m.2.1 with
  | none=>rfl
  | some y =>
   have h1:=List.mem_of_find?_eq_some hf
   have h2:y.1=m.2.1:=by have:=List.find?_some hf;simpa using this
   have:=hI y h1 h2
   dsimp only
   rw [if_neg (by omega),if_neg (by omega)]
   rfl
theorem i_StateDo_eq {s:D_State} {m:D_Cmd} (h:SB s) (hm:Ok.ok m):i_StateDo s m=some (stateDoD s m):=by
 have h10:=h.said
 unfold i_StateDo stateDoD
 unfold i_copyState
 rw [i_copyCatalog_eq h.cat,Option.bind_some,appP_ok (by simp;omega),Option.bind_some,Option.bind_some,show i_StateOk _=_ from i_StateOk_eq (s:=s) h.cat (by omega),Option.bind_some]
 rw [show ([]:List D_Said)++s.2=s.2 from rfl]
 by_cases hk:stateOkB s=true
 case neg=>rw [Bool.eq_false_iff.2 hk];rfl
 have hk2:=hk
 unfold stateOkB at hk2
 rw [Bool.and_eq_true] at hk2
 obtain ⟨_,hpw⟩:=saidOk_facts hk2.2
 rw [hk,Bool.not_true,cond_false,if_pos rfl,show i_CmdOk _=_ from i_CmdOk_eq (c:=m) hm,Option.bind_some]
 by_cases hmk:(!cmdOkB m||decide (m.1=0))=true
 ·rw [hmk,cond_true,if_pos rfl]
 rw [Bool.eq_false_iff.2 hmk,cond_false,if_neg (by simp)]
 have hix:sl_IndexFunc_implSaidimplSaid s.2 (fun z0=>i_StateDo_c1 z0 (m.1,m.2.1,m.2.2.1,m.2.2.2.1,m.2.2.2.2.1,m.2.2.2.2.2.1,m.2.2.2.2.2.2.1,m.2.2.2.2.2.2.2))=some (firstI (fun y:D_Said=>decide (m.2.1≤y.1)) s.2):=by
  unfold sl_IndexFunc_implSaidimplSaid i_StateDo_c1
  rw [whileP_find (l:=s.2) (fun y:D_Said=>decide (m.2.1≤y.1)) some (by omega)]
  ·intro k x hx
   simp only [lt_dec (List.getElem?_eq_some_iff.1 hx).1,cond_true,idx_nat,hx,Option.bind_some]
   cases decide (m.2.1≤x.1)<;>rfl
  ·simp only [ge_dec];rfl
 rw [hix,Option.bind_some]
 rcases Gr.findIdx_find (fun y:D_Said=>decide (m.2.1≤y.1)) s.2 with ⟨e1,_⟩ | ⟨k,y,e1,e2,e3⟩
 ·rw [firstI_none e1]
  have hall:∀ z,z∈s.2→z.1 < m.2.1:=fun z hz=>by
   have:=List.findIdx?_eq_none_iff.1 e1 z hz
   simp only [decide_eq_false_iff_not] at this;omega
  have hf:findS s.2 m.2.1=none:=List.find?_eq_none.2 fun z hz=>by have:=hall z hz;simp;omega
  rw [hf]
  have d1:decide ((0:Int)≤-1)=false:=rfl
  simp only [d1,Bool.false_and,gb_false,cond_false]
  rw [show i_CatDo _ _=_ from i_CatDo_eq (c:=s.1) (m:=m) h.cat hm,Option.bind_some,appP_ok (by simp;omega),Option.bind_some]
  unfold doIt
  rw [putS_all _ s.2 hall]
 ·rw [firstI_some e1]
  have hy:m.2.1≤y.1:=by have:=List.find?_some e3;simpa using this
  have hym:=List.mem_of_getElem? e2
  have hlt:∀ z,z∈s.2.take k→z.1 < m.2.1:=fun z hz=>by
   obtain ⟨j,hj⟩:=List.getElem?_of_mem hz
   have hjk:j < k:=by have:=(List.getElem?_eq_some_iff.1 hj).1;rw [List.length_take] at this;omega
   obtain ⟨f1,f2,f3⟩:=List.findIdx?_eq_some_iff_getElem.1 e1
   rw [List.getElem?_take,if_pos hjk] at hj
   obtain ⟨j1,j2⟩:=List.getElem?_eq_some_iff.1 hj
   have:=f3 j hjk
   rw [j2] at this
   simp only [decide_eq_true_eq] at this;omega
  have hkl:=(List.getElem?_eq_some_iff.1 e2).1
  have d1:decide ((0:Int)≤(k:Int))=true:=decide_eq_true (by omega)
  simp only [d1,gb_true,Bool.true_and,idx_nat,e2,Option.bind_some]
  have hp:=putS_split (m.2.1,m.2.2.1,(catDoD s.1 m).2) s.2 k y hlt e2 hy
  by_cases h1:y.1=m.2.1
  ·rw [findS_of hpw hym h1]
   rw [if_pos h1] at hp
   simp only [decide_eq_true h1,gb_true,Bool.true_and,Option.bind_some]
   by_cases h2:y.2.1=m.2.2.1
   ·rw [decide_eq_true h2,cond_true,if_pos h2]
   rw [decide_eq_false h2,cond_false,if_neg h2]
   by_cases h3:m.2.2.1 < y.2.1
   ·rw [decide_eq_true h3,cond_true,if_pos h3];rfl
   rw [decide_eq_false h3,cond_false,if_neg h3,show i_CatDo _ _=_ from i_CatDo_eq (c:=s.1) (m:=m) h.cat hm,Option.bind_some,cond_true,Int.toNat_natCast]
   unfold doIt
   rw [hp,List.set_eq_take_append_cons_drop,if_pos hkl]
  ·rw [if_neg h1] at hp
   have hf:findS s.2 m.2.1=none:=List.find?_eq_none.2 fun z hz=>by
    rw [decide_eq_true_eq]
    intro e
    obtain ⟨j,hj⟩:=List.getElem?_of_mem hz
    obtain ⟨j1,j2⟩:=List.getElem?_eq_some_iff.1 hj
    obtain ⟨y1,y2⟩:=List.getElem?_eq_some_iff.1 e2
    rcases Nat.lt_trichotomy j k with q | q | q
    ·have:=hlt z (List.mem_of_getElem? (i:=j) (by rw [List.getElem?_take,if_pos q];exact hj));omega
    ·subst q;rw [hj] at e2;cases e2;exact h1 e
    ·have:=List.pairwise_iff_getElem.1 hpw k j y1 j1 q
     rw [j2,y2] at this;omega
   rw [hf]
   simp only [decide_eq_false h1,gb_false,Bool.false_and,cond_false]
   rw [show i_CatDo _ _=_ from i_CatDo_eq (c:=s.1) (m:=m) h.cat hm,Option.bind_some,cond_true]
   unfold insP doIt
   rw [if_pos (by omega),Option.bind_some,Int.toNat_natCast,hp]
   simp
noncomputable def playStep (t:D_State×List ByteArray) (m:D_Cmd):D_State×List ByteArray:=((stateDoD t.1 m).1,t.2++[(stateDoD t.1 m).2])
noncomputable def statePlayD (l:List D_Cmd):D_State×List ByteArray:=l.foldl playStep (([],[]),[])
theorem s_StatePlay_eq {l:List D_Cmd} (h:l.length≤1000) (hm:∀ m,m∈l→Ok.ok m):s_StatePlay l=some (statePlayD l):=by
 unfold s_StatePlay statePlayD
 rw [Option.bind_some]
 rw [loop_pass (l:=l) (fun k (t:D_State×List ByteArray)=>(t.2,(k:Int),t.1.1,t.1.2)) playStep some (fun k t=>SB t.1∧t.2.length=k) (([],[]),[]) (s0:=([],0,[],[])) rfl ⟨SB.nil,rfl⟩]
 ·intro k t m hmk ht
  have hk:=(List.getElem?_eq_some_iff.1 hmk).1
  simp only [lt_dec hk,cond_true,idx_nat,hmk,Option.bind_some]
  rw [show s_StateDo _ _=_ from s_StateDo_eq (s:=t.1) (m:=m) ht.1 (hm m (List.mem_of_getElem? hmk)),Option.bind_some,appP_ok (by simp;omega),Option.bind_some,wrap_succ (by omega)]
  exact ⟨rfl,stateDo_SB ht.1 m,by unfold playStep;simp;omega⟩
 ·intro t ht
  simp only [ge_dec,cond_false]
theorem i_StatePlay_eq {l:List D_Cmd} (h:l.length≤1000) (hm:∀ m,m∈l→Ok.ok m):i_StatePlay l=some (statePlayD l):=by
 unfold i_StatePlay statePlayD
 rw [Option.bind_some]
 rw [loop_pass (l:=l) (fun k (t:D_State×List ByteArray)=>(t.2,(k:Int),t.1.1,t.1.2)) playStep some (fun k t=>SB t.1∧t.2.length=k) (([],[]),[]) (s0:=([],0,[],[])) rfl ⟨SB.nil,rfl⟩]
 ·intro k t m hmk ht
  have hk:=(List.getElem?_eq_some_iff.1 hmk).1
  simp only [lt_dec hk,cond_true,idx_nat,hmk,Option.bind_some]
  rw [show i_StateDo _ _=_ from i_StateDo_eq (s:=t.1) (m:=m) ht.1 (hm m (List.mem_of_getElem? hmk)),Option.bind_some,appP_ok (by simp;omega),Option.bind_some,wrap_succ (by omega)]
  exact ⟨rfl,stateDo_SB ht.1 m,by unfold playStep;simp;omega⟩
 ·intro t ht
  simp only [ge_dec,cond_false]
theorem play_facts:∀ (l:List D_Cmd) (t:D_State×List ByteArray),SB t.1→SB (l.foldl playStep t).1∧(l.foldl playStep t).2.length=t.2.length+l.length
 | [],t,h=>⟨h,by simp⟩
 | m::l,t,h=>by
  obtain ⟨h1,h2⟩:=play_facts l (playStep t m) (stateDo_SB h m)
  refine ⟨h1,?_⟩
  rw [List.foldl_cons,h2]
  unfold playStep
  simp;omega
theorem statePlay_facts (l:List D_Cmd):SB (statePlayD l).1∧(statePlayD l).2.length=l.length:=by
 have:=play_facts l (([],[]),[]) SB.nil
 unfold statePlayD
 simpa using this
noncomputable def cmdsI (l:List D_Inst):List D_Cmd:=((ordI l).map fun x=>(atI l x).2.2.2.2.1).filter fun m=>!decide (m.1=0)
theorem cmds_len (l:List D_Inst):(cmdsI l).length≤324:=by
 have h1:=List.length_filter_le (fun m:D_Cmd=>!decide (m.1=0)) ((ordI l).map fun x=>(atI l x).2.2.2.2.1)
 rw [List.length_map] at h1
 have:=(ord_nodup l).2
 unfold cmdsI
 omega
theorem at_ok {l:List D_Inst} (ho:Ok.ok l) (x:D_Id):Ok.ok (atI l x).2.2.2.2.1:=by
 unfold atI
 cases hg:getI l x with
 | none=>refine ⟨?_,?_,?_,Nat.zero_le _,Nat.zero_le _,Nat.zero_le _,?_,Nat.zero_le _,fun y hy=>(by cases hy)⟩<;>(show inR 0;unfold inR;omega)
 | some y=>exact (ho.2 y (getI_some hg).1).2.2.2.2.1
theorem cmds_ok {l:List D_Inst} (ho:Ok.ok l):∀ m,m∈cmdsI l→Ok.ok m:=fun m hm=>by
 obtain ⟨x,_,rfl⟩:=List.mem_map.1 (List.mem_filter.1 hm).1
 exact at_ok ho x
theorem foldl_fm {α β:Type} (g:β→α) (p:α→Bool):∀ (xs:List β) (acc:List α),xs.foldl (fun t x=>if p (g x) then t++[g x] else t) acc=acc++(xs.map g).filter p
 | [],acc=>by simp
 | x::xs,acc=>by
  rw [List.foldl_cons,foldl_fm g p xs,List.map_cons]
  cases h:p (g x) with
  | true=>rw [if_pos rfl,List.filter_cons_of_pos h];simp
  | false=>rw [if_neg (by simp),List.filter_cons_of_neg (by simp [h])]
theorem s_ExecCmds_eq {l:List D_Inst} (ho:Ok.ok l) (hl:l.length≤1048576) (hs:smallL l):s_ExecCmds l=some (cmdsI l):=by
 unfold s_ExecCmds
 obtain ⟨_,h3⟩:=ord_nodup l
 rw [Option.bind_some,s_ExecOrder_eq ho,Option.bind_some]
 rw [loop_pass (l:=ordI l) (fun k (t:List D_Cmd)=>(t,(k:Int))) (fun t x=>if !decide ((atI l x).2.2.2.2.1.1=0) then t++[(atI l x).2.2.2.2.1] else t) some (fun k t=>t.length≤k) [] (s0:=([],0)) rfl (Nat.le_refl _)]
 ·rw [foldl_fm (fun x=>(atI l x).2.2.2.2.1) (fun m:D_Cmd=>!decide (m.1=0))];rfl
 ·intro k t x hx ht
  have hk:=(List.getElem?_eq_some_iff.1 hx).1
  simp only [lt_dec hk,cond_true,idx_nat,hx,Option.bind_some]
  rw [s_InstAt_eq hl hs x,Option.bind_some,wrap_succ (by omega)]
  cases hc:(!decide ((atI l x).2.2.2.2.1.1=0)) with
  | true=>rw [cond_true,appP_ok (by simp;omega),Option.bind_some,if_pos rfl];exact ⟨rfl,by simp;omega⟩
  | false=>rw [cond_false,if_neg (by simp)];exact ⟨rfl,by omega⟩
 ·intro t ht
  simp only [ge_dec,cond_false]
theorem i_ExecCmds_eq {l:List D_Inst} (ho:Ok.ok l) (hl:l.length≤1048576) (hs:smallL l):i_ExecCmds l=some (cmdsI l):=by
 unfold i_ExecCmds
 obtain ⟨_,h3⟩:=ord_nodup l
 rw [Option.bind_some,i_ExecOrder_eq ho hs,Option.bind_some]
 rw [loop_pass (l:=ordI l) (fun k (t:List D_Cmd)=>(t,(k:Int))) (fun t x=>if !decide ((atI l x).2.2.2.2.1.1=0) then t++[(atI l x).2.2.2.2.1] else t) some (fun k t=>t.length≤k) [] (s0:=([],0)) rfl (Nat.le_refl _)]
 ·rw [foldl_fm (fun x=>(atI l x).2.2.2.2.1) (fun m:D_Cmd=>!decide (m.1=0))];rfl
 ·intro k t x hx ht
  have hk:=(List.getElem?_eq_some_iff.1 hx).1
  simp only [lt_dec hk,cond_true,idx_nat,hx,Option.bind_some]
  rw [i_InstAt_eq hl hs x,Option.bind_some,wrap_succ (by omega)]
  cases hc:(!decide ((atI l x).2.2.2.2.1.1=0)) with
  | true=>rw [cond_true,appP_ok (by simp;omega),Option.bind_some,if_pos rfl];exact ⟨rfl,by simp;omega⟩
  | false=>rw [cond_false,if_neg (by simp)];exact ⟨rfl,by omega⟩
 ·intro t ht
  simp only [ge_dec,cond_false]
noncomputable def nodeStateD (d:D_ENode):D_State:=if nodeOkB d then (statePlayD (cmdsI d.2.2.1)).1 else ([],[])
def smallE (d:D_ENode):Prop:=d.2.2.1.length≤1048576∧smallL d.2.2.1
theorem s_NodeState_eq {d:D_ENode} (ho:Ok.ok d) (hs:smallE d):s_NodeState d=some (nodeStateD d):=by
 unfold s_NodeState nodeStateD
 rw [show s_ENodeOk _=_ from s_ENodeOk_eq (d:=d) ho,Option.bind_some]
 by_cases hk:nodeOkB d=true
 case neg=>rw [Bool.eq_false_iff.2 hk];rfl
 have:=cmds_len d.2.2.1
 rw [hk,Bool.not_true,cond_false,if_pos rfl,s_ExecCmds_eq ho.2.2.1 hs.1 hs.2,Option.bind_some,s_StatePlay_eq (by omega) (cmds_ok ho.2.2.1),Option.bind_some]
theorem i_NodeState_eq {d:D_ENode} (ho:Ok.ok d) (hs:smallE d):i_NodeState d=some (nodeStateD d):=by
 unfold i_NodeState nodeStateD
 rw [show i_ENodeOk _=_ from i_ENodeOk_eq (d:=d) ho,Option.bind_some]
 by_cases hk:nodeOkB d=true
 case neg=>rw [Bool.eq_false_iff.2 hk];rfl
 have:=cmds_len d.2.2.1
 rw [hk,Bool.not_true,cond_false,if_pos rfl,i_ExecCmds_eq ho.2.2.1 hs.1 hs.2,Option.bind_some,i_StatePlay_eq (by omega) (cmds_ok ho.2.2.1),Option.bind_some]
end Go.Proofs.SL
namespace Go.Proofs.SL
open Go
theorem read_size:∀ (l:List D_CSnap) (t:Bool×ByteArray),(∀ p,p∈l→p.1.size≤8∧p.2.1.size≤8)→(l.foldl readStep t).2.size≤t.2.size+18*l.length
 | [],t,_=>by simp
 | p::l,t,h=>by
  have h1:=read_size l (readStep t p) fun q hq=>h q (List.mem_cons_of_mem _ hq)
  have h2:=h p (List.mem_cons_self ..)
  rw [List.foldl_cons]
  have h3:(readStep t p).2.size≤t.2.size+18:=by
   unfold readStep
   split<;>simp only [ByteArray.size_append,sz_sp,sz_col]<;>omega
  simp only [List.length_cons]
  omega
theorem list_size:∀ (l:List D_CSet) (t:Bool×ByteArray),(∀ s,s∈l→s.1.size≤8)→(l.foldl listStep t).2.size≤t.2.size+9*l.length
 | [],t,_=>by simp
 | p::l,t,h=>by
  have h1:=list_size l (listStep t p) fun q hq=>h q (List.mem_cons_of_mem _ hq)
  have h2:=h p (List.mem_cons_self ..)
  rw [List.foldl_cons]
  have h3:(listStep t p).2.size≤t.2.size+9:=by
   unfold listStep
   split<;>simp only [ByteArray.size_append,sz_sp]<;>omega
  simp only [List.length_cons]
  omega
theorem catDo_reply (c:D_Catalog) (m:D_Cmd):(catDoD c m).2.size≤200:=by
 have z0:ByteArray.empty.size=0:=rfl
 have zo:tOk.size=2:=rfl
 have zn:tNone.size=4:=rfl
 have ze:tExists.size=6:=rfl
 have zf:tFull.size=4:=rfl
 unfold catDoD
 split
 ·rename_i hk
  obtain ⟨hb,h5,h6⟩:=catOk_bnd hk
  split
  ·show ByteArray.empty.size≤200;omega
  split
  ·unfold createD
   split
   ·show tExists.size≤200;omega
   ·split
    ·show tFull.size≤200;omega
    ·show tOk.size≤200;omega
  split
  ·have:=list_size c (false,ByteArray.empty) hb.name
   show (listD c).size≤200
   unfold listD
   dsimp only at this
   omega
  split
  ·show tNone.size≤200;omega
  ·split
   ·show tNone.size≤200;omega
   ·rename_i a _ s hs
    have hsm:=List.mem_of_getElem? hs
    unfold catSetD
    split
    ·show tOk.size≤200;omega
    split
    ·split
     ·show tExists.size≤200;omega
     ·split
      ·show tFull.size≤200;omega
      ·show tOk.size≤200;omega
    split
    ·split
     ·show tNone.size≤200;omega
     ·split
      ·show tNone.size≤200;omega
      ·show tOk.size≤200;omega
    split
    ·show (digit _).size≤200
     unfold digit
     show (1:Nat)≤200
     omega
    ·have:=read_size s.2 (false,ByteArray.empty) fun p hp=>⟨(hb.snap s hsm p hp).1,(hb.snap s hsm p hp).2.1⟩
     have h7:=h6 s hsm
     show (readD s).size≤200
     unfold readD
     dsimp only at this
     omega
 ·show ByteArray.empty.size≤200;omega
def ST (l:List D_Said):Prop:=∀ x,x∈l→x.2.2.size≤200
theorem putS_mem (x:D_Said):∀ (l:List D_Said) (y:D_Said),y∈putS x l→y=x∨y∈l
 | [],y,h=>.inl (List.mem_singleton.1 h)
 | z::l,y,h=>by
  rw [putS_cons] at h
  split at h
  ·rcases List.mem_cons.1 h with q | q
   ·exact .inr (by rw [q];exact List.mem_cons_self ..)
   ·rcases putS_mem x l y q with q | q
    ·exact .inl q
    ·exact .inr (List.mem_cons_of_mem _ q)
  ·split at h
   ·rcases List.mem_cons.1 h with q | q
    ·exact .inl q
    ·exact .inr (List.mem_cons_of_mem _ q)
   ·rcases List.mem_cons.1 h with q | q
    ·exact .inl q
    ·exact .inr q
theorem stateDo_ST {s:D_State} (h:ST s.2) (m:D_Cmd):ST (stateDoD s m).1.2∧(stateDoD s m).2.size≤200:=by
 have z0:ByteArray.empty.size=0:=rfl
 have zo:tOld.size=3:=rfl
 have hr:=catDo_reply s.1 m
 have hd:ST (doIt s m).1.2∧(doIt s m).2.size≤200:=⟨fun x hx=>by
  rcases putS_mem _ s.2 x hx with q | q
  ·rw [q];exact hr
  ·exact h x q,hr⟩
 unfold stateDoD
 split
 ·split
  ·exact ⟨h,by show ByteArray.empty.size≤200;omega⟩
  ·split
   ·rename_i x hx
    split
    ·exact ⟨h,h x (List.mem_of_find?_eq_some hx)⟩
    ·split
     ·exact ⟨h,by show tOld.size≤200;omega⟩
     ·exact hd
   ·exact hd
 ·exact ⟨fun x hx=>(by cases hx),by show ByteArray.empty.size≤200;omega⟩
theorem play_ST:∀ (l:List D_Cmd) (t:D_State×List ByteArray),ST t.1.2→(∀ x,x∈t.2→x.size≤200)→ST (l.foldl playStep t).1.2∧∀ x,x∈(l.foldl playStep t).2→x.size≤200
 | [],t,h1,h2=>⟨h1,h2⟩
 | m::l,t,h1,h2=>by
  obtain ⟨a,b⟩:=stateDo_ST h1 m
  refine play_ST l (playStep t m) a fun x hx=>?_
  rcases List.mem_append.1 hx with q | q
  ·exact h2 x q
  ·rw [List.mem_singleton.1 q];exact b
theorem statePlay_ST (l:List D_Cmd):ST (statePlayD l).1.2∧∀ x,x∈(statePlayD l).2→x.size≤200:=play_ST l _ (fun x hx=>by cases hx) fun x hx=>by cases hx
theorem bds_le {τ δ:Type} [GT τ δ] [Bk τ] [Bd τ] {B:Nat}:∀ (l:List δ),(∀ x,x∈l→Bd.bd (τ:=τ) x≤B)→bds τ l≤B*l.length
 | [],_=>Nat.zero_le _
 | x::l,h=>by
  have h1:=bds_le (B:=B) l fun y hy=>h y (List.mem_cons_of_mem _ hy)
  have h2:=h x (List.mem_cons_self ..)
  show Bd.bd (τ:=τ) x+bds τ l≤_
  rw [List.length_cons,Nat.mul_succ]
  omega
theorem said_bd {l:List D_Said} (h:ST l):Bd.bd (τ:=TL T_Said) l≤201*l.length:=by
 have h1:=bds_le (τ:=T_Said) (B:=200) l fun x hx=>by
  have:=h x hx
  show 0+(0+x.2.2.size)≤200
  omega
 show l.length+bds T_Said l≤_
 omega
theorem cat_bd {c:D_Catalog} (h:CBnd c):Bd.bd (τ:=T_Catalog) c≤3000:=by
 have hset:∀ s,s∈c→Bd.bd (τ:=T_CSet) s≤400:=fun s hs=>by
  have hsnap:∀ p,p∈s.2→Bd.bd (τ:=T_CSnap) p≤60:=fun p hp=>by
   obtain ⟨h1,h2,h3,h4⟩:=h.snap s hs p hp
   have h5:=bds_le (τ:=ByteArray) (B:=8) p.2.2 fun x hx=>h4 x hx
   show p.1.size+(p.2.1.size+(p.2.2.length+bds ByteArray p.2.2))≤60
   omega
  have h1:=h.name s hs
  have h2:=h.snaps s hs
  have h3:=bds_le (τ:=T_CSnap) (B:=60) s.2 hsnap
  show s.1.size+(s.2.length+bds T_CSnap s.2)≤400
  omega
 have h1:=h.len
 have h2:=bds_le (τ:=T_CSet) (B:=400) c hset
 show c.length+bds T_CSet c≤3000
 omega
theorem nodeState_bd (d:D_ENode) (g:T_State) (h:GT.dat g=nodeStateD d):Bk.bulk g≤6000:=by
 rw [Bd.eq,h]
 have hb:SB (nodeStateD d)∧ST (nodeStateD d).2:=by
  unfold nodeStateD
  split
  ·exact ⟨(statePlay_facts _).1,(statePlay_ST _).1⟩
  ·exact ⟨SB.nil,fun x hx=>by cases hx⟩
 have h1:=cat_bd hb.1.cat
 have h2:=said_bd hb.2
 have h3:=hb.1.said
 show Bd.bd (τ:=T_Catalog) (nodeStateD d).1+Bd.bd (τ:=TL T_Said) (nodeStateD d).2≤6000
 omega
theorem bd_inst (x:D_Inst):x.2.2.2.2.1.2.2.2.2.2.2.2.length+x.2.2.2.2.2.2.1.length≤Bd.bd (τ:=T_Inst) x:=by
 show _≤((0+0)+(0+(0+(0+((0+(0+(0+(x.2.2.2.2.1.2.2.2.1.size+(x.2.2.2.2.1.2.2.2.2.1.size+(x.2.2.2.2.1.2.2.2.2.2.1.size+(0+(x.2.2.2.2.1.2.2.2.2.2.2.2.length+bds ByteArray x.2.2.2.2.1.2.2.2.2.2.2.2))))))))+(0+((x.2.2.2.2.2.2.1.length+bds T_Id x.2.2.2.2.2.2.1)+0)))))))
 omega
theorem bd_node (d:D_ENode):Bd.bd (τ:=T_ENode) d=(d.2.2.1.length+bds T_Inst d.2.2.1)+(d.2.2.2.length+bds T_Lead d.2.2.2):=by
 show 0+(0+((d.2.2.1.length+bds T_Inst d.2.2.1)+(d.2.2.2.length+bds T_Lead d.2.2.2)))=_
 omega
theorem small_e {d:D_ENode} (h:Bd.bd (τ:=T_ENode) d≤1048576):smallE d:=by
 rw [bd_node] at h
 refine ⟨by omega,fun x hx=>?_⟩
 have h2:=bds_mem (τ:=T_Inst) hx
 have h3:=bd_inst x
 exact ⟨by omega,by omega⟩
end Go.Proofs.SL
namespace Go.Proofs.SL
open Go
set_option maxHeartbeats 2000000
theorem eqIntS_spec (w:World) (t1 t2:TL Int) (h1:GT.rd w [] t1) (h2:GT.rd w [] t2):Spec Tryz.prog 137 [t1.hdr,t2.hdr].toArray w [] (IsV (.bool (eqB (GT.dat t1) (GT.dat t2)))):=by
 obtain ⟨a1,c1,e1,x1,y1⟩:=t1
 obtain ⟨a2,c2,e2,x2,y2⟩:=t2
 have hm1:x1.length≤9223372036854775807:=rd_len h1
 have hm2:x2.length≤9223372036854775807:=rd_len h2
 dsimp only [TL.hdr]
 refine Spec.intro Tryz.func137 rfl Tryz.ntmps137 rfl ?_
 refine s8 ?_
 refine L_lenS rfl rfl el104.h ?_
 refine s1 ?_
 refine L_lenS rfl rfl el104.h ?_
 refine s2 ?_
 refine kp [0,1,10] ?_
 refine W_cond rfl (fun hc1=>?_) (fun hc1=>?_)
 ·refine s5 ?_
  refine res1 rfl (ResOK.tmp rfl) ⟨?_,rfl⟩ ms
  refine congrArg Value.bool (Eq.symm (eqB_false.2 fun e=>?_))
  simp at hc1
  exact hc1 (by have:=congrArg List.length e;simp [dat_TL] at this;omega)
 ·have hl:x1.length=x2.length:=by simp at hc1;omega
  refine s7 ?_
  refine W_loopC (σ:=Nat) 0 (fun (k:Nat)=>[(5,.int .i64 (k:Int))]) (fun (k:Nat)=>[]) (fun (k:Nat)=>k≤x1.length∧(x1.map GT.dat).take k=(x2.map GT.dat).take k) (fun (k:Nat)=>x1.length - k) [(0,_),(1,_)] [] ?_ sb ms ?_
  ·exact ⟨Nat.zero_le _,rfl⟩
  ·rintro k ⟨hk,ht⟩
   refine kq [0,1,5] ?_
   refine s5 ?_
   refine L_lenS rfl rfl el104.h ?_
   refine s2 ?_
   refine kp [0,1,5,14] ?_
   refine W_cond rfl (fun hc4=>?_) (fun hc4=>?_)
   ·have hk1:k < x1.length:=by simpa using hc4
    obtain ⟨g1,o1,rfl⟩:=rd_addr h1 hk1
    obtain ⟨g2,o2,rfl⟩:=rd_addr (k:=k) h2 (show k < x2.length by omega)
    obtain ⟨u1,hu1⟩:=getEl hk1
    obtain ⟨u2,hu2⟩:=getEl (show k < x2.length by omega)
    refine s4 ?_
    refine W_D0 [25] mix (by kernel_rfl) rfl ?_
    refine s2 ?_
    refine D_indexAddr _ GC.none (OpV.t rfl) (OpV.t rfl) el104.h (fun hg=>⟨rfl,by (try dsimp only);omega⟩) ?_
    refine D_load0 GC.none (OpV.t rfl) (fun hg=>(by first | exact RdC.blk mm | exact RdC.old (Cells.el h1 rfl hu1) | exact RdC.old (Cells.el h2 rfl hu2))) one3.h rfl ?_
    refine s2 ?_
    refine D_indexAddr _ GC.none (OpV.t rfl) (OpV.t rfl) el104.h (fun hg=>⟨rfl,by (try dsimp only);omega⟩) ?_
    refine D_load0 GC.none (OpV.t rfl) (fun hg=>(by first | exact RdC.blk mm | exact RdC.old (Cells.el h1 rfl hu1) | exact RdC.old (Cells.el h2 rfl hu2))) one3.h rfl ?_
    refine s12 ?_
    refine kp [0,1,5,25] ?_
    refine W_cond rfl (fun hc6=>?_) (fun hc6=>?_)
    ·refine s5 ?_
     refine res1 rfl (ResOK.tmp rfl) ⟨?_,rfl⟩ ms
     refine congrArg Value.bool (Eq.symm (eqB_false.2 fun e=>?_))
     simp at hc6
     replace e:x1.map GT.dat=x2.map GT.dat:=e
     have e2:=congrArg (fun l=>l[k]?) e
     simp only [List.getElem?_map,hu1,hu2,Option.map_some,Option.some.injEq] at e2
     exact hc6 (by simpa [dat_int,dat_str,dat_bool] using e2)
    ·refine s3 ?_
     refine L_binV rfl rfl rfl (bv_addR (by unfold inR;omega)) ?_
     refine s2 ?_
     refine ⟨k+1,sb,ms,?_,?_⟩
     ·exact ⟨by omega,take_succ_eq ht (by rw [List.getElem?_map,hu1];rfl) (by rw [List.getElem?_map,hu2];rfl) (by simpa [dat_int,dat_str,dat_bool] using hc6)⟩
     ·(try dsimp only);omega
   ·refine W_exit ?_
    refine s5 ?_
    refine res1 rfl (ResOK.tmp rfl) ⟨?_,rfl⟩ ms
    refine congrArg Value.bool (Eq.symm (eqB_true.2 ?_))
    have hk2:x1.length≤k:=by simpa using hc4
    have h3:=ht
    rw [List.take_of_length_le (by simp;omega),List.take_of_length_le (by simp;omega)] at h3
    exact h3
theorem szIntS_spec (w:World) (t1:TL Int) (left:Int) (hl:0≤left) (hm:left≤1048576) (h1:GT.rd w [] t1) (ho:Ok.ok (GT.dat t1)):Spec Tryz.prog 106 [t1.hdr,.int .i64 left].toArray w [] (IsV (.int .i64 (if (Bk.bulk t1:Int)≤left then left - (Bk.bulk t1:Int) else -1))):=by
 obtain ⟨a1,c1,e1,x1,y1⟩:=t1
 have hm1:x1.length≤9223372036854775807:=rd_len h1
 rw [bulk_TL]
 dsimp only [TL.hdr]
 have hz:bulks x1=0:=by
  clear hm1 h1 ho
  induction x1 with
  | nil=>rfl
  | cons y ys ih=>simp only [bulks,ih];rfl
 refine Spec.intro Tryz.func106 rfl Tryz.ntmps106 rfl ?_
 refine s8 ?_
 refine L_lenS rfl rfl el104.h ?_
 refine L_binV rfl rfl rfl (bv_subR (by unfold inR;omega)) ?_
 refine s8 ?_
 refine kp [1,10] ?_
 refine W_cond rfl (fun hc2=>?_) (fun hc2=>?_)
 ·have hb0:left - (x1.length:Int) < 0:=by simpa using hc2
  refine s5 ?_
  refine res1 rfl (ResOK.tmp rfl) ⟨?_,rfl⟩ ms
  simp only [hz,Nat.add_zero]
  first
   | (rw [if_pos (by omega)];done)
   | (rw [if_neg (by omega)])
 ·have hb0:¬ (left - (x1.length:Int) < 0):=by simpa using hc2
  skip
  refine s7 ?_
  refine res1 rfl (ResOK.tmp rfl) ⟨?_,rfl⟩ ms
  simp only [hz,Nat.add_zero]
  first
   | (rw [if_pos (by omega)];done)
   | (rw [if_neg (by omega)])
theorem toIntS_spec (w:World) (t1:TL Int) (h1:GT.rd w [] t1) (hb:Bk.bulk t1≤1048576):Spec Tryz.prog 119 [t1.hdr].toArray w [] (fun v M=>∃ t2:TL Int,v=t2.hdr∧GT.dat t2=GT.dat t1∧M=[treeH t2]):=by
 obtain ⟨a1,c1,e1,x1,y1⟩:=t1
 rw [bulk_TL] at hb
 dsimp only [TL.hdr]
 refine Spec.intro Tryz.func119 rfl Tryz.ntmps119 rfl ?_
 refine s7 ?_
 refine L_lenS rfl rfl el104.h ?_
 refine L_make (τ:=Int) (0:Int) rfl rfl rfl el104.h rfl rfl (flat_int trivial) (by omega) (by unfold maxLen;omega) (fun g=>?_)
 refine s8 ?_
 refine W_loopC (σ:=Nat×List Int) (0,List.replicate x1.length (0:Int)) (fun (p:Nat×List Int)=>[(4,.int .i64 (p.1:Int))]) (fun (p:Nat×List Int)=>[treeH (⟨some ⟨g,0,none⟩,x1.length,3,p.2,[]⟩:TL Int)]) (fun (p:Nat×List Int)=>p.1≤x1.length∧p.2.length=x1.length∧(p.2.take p.1).map GT.dat=(x1.take p.1).map GT.dat) (fun (p:Nat×List Int)=>x1.length - p.1) [(0,_),(3,_)] [] ?_ sb ms ?_
 ·exact ⟨Nat.zero_le _,by simp,by simp⟩
 ·rintro ⟨k,cur⟩ ⟨hk,hlen,hdat⟩
  dsimp only at hk hlen hdat
  refine kq [0,3,4] ?_
  refine s5 ?_
  refine L_lenS rfl rfl el104.h ?_
  refine s2 ?_
  refine kp [0,3,4,11] ?_
  refine W_cond rfl (fun hc3=>?_) (fun hc3=>?_)
  ·have hk1:k < x1.length:=by simpa using hc3
   obtain ⟨g1,o1,rfl⟩:=rd_addr h1 hk1
   obtain ⟨u1,hu1⟩:=getEl hk1
   have hub:Bk.bulk u1≤1048576:=by have:=bulk_mem (List.mem_of_getElem? hu1);omega
   refine s8 ?_
   refine L_indexAddr rfl rfl rfl el104.h rfl (by omega) ?_
   refine L_load0 rfl rfl (by first | exact RdC.blk mm | exact RdC.old (Cells.el h1 rfl hu1)) one3.h rfl ?_
   refine L_indexAddr rfl rfl rfl el104.h rfl (by omega) ?_
   obtain ⟨u0,hu0⟩:=getEl (show k < cur.length by omega)
   refine L_storeElV u1 rfl rfl pk rfl hu0 rfl (flat_int (h1.2.2.1 _ (List.mem_of_getElem? hu1))) (.inr ⟨one3.h,rfl⟩) ?_
   refine s3 ?_
   refine L_binV rfl rfl rfl (bv_addR (by unfold inR;omega)) ?_
   refine s2 ?_
   refine ⟨(k+1,cur.set k u1),sb,ms,?_,?_⟩
   ·exact ⟨by dsimp only;omega,by simpa using hlen,map_take_set GT.dat GT.dat hdat (by omega) hu1 rfl⟩
   ·dsimp only;omega
  ·refine W_exit ?_
   refine s6 ?_
   refine res1 rfl (ResOK.tmp rfl) ⟨⟨some ⟨g,0,none⟩,x1.length,3,cur,[]⟩,?_,?_,rfl⟩ ms
   ·show _=Value.slice _ cur.length _
    rw [hlen]
   ·have hk2:x1.length≤k:=by simpa using hc3
    rw [List.take_of_length_le (by omega),List.take_of_length_le (by omega)] at hdat
    exact hdat
theorem markText_spec (w:World) (k0:Nat) (hk0:0 < k0) (hm:k0 < 9223372036854775807):Spec Tryz.prog 40 [.int .i64 (k0:Int)].toArray w [] (IsV (.string (mtx k0))):=by
 refine Spec.intro Tryz.func40 rfl Tryz.ntmps40 rfl ?_
 refine s10 ?_
 refine kp [0,5] ?_
 refine W_cond rfl (fun hc1=>?_) (fun hc1=>?_)
 ·refine s5 ?_
  refine res1 rfl (ResOK.tmp rfl) ⟨?_,rfl⟩ ms
  exfalso;simp at hc1;omega
 ·refine s7 ?_
  refine W_loopC (σ:=Nat×ByteArray) (k0,ByteArray.mk #[]) (fun (p:Nat×ByteArray)=>[(0,.int .i64 (p.1:Int)),(3,.string p.2)]) (fun (p:Nat×ByteArray)=>[]) (fun (p:Nat×ByteArray)=>mtxN p.1 p.2=mtxN k0 (ByteArray.mk #[])∧p.2.size+p.1≤k0) (fun (p:Nat×ByteArray)=>p.1) [] [] ?_ sb ms ?_
  ·refine ⟨rfl,?_⟩
   show (ByteArray.mk #[]).size+k0≤k0
   have:(ByteArray.mk #[]).size=0:=rfl
   omega
  ·rintro ⟨k,s⟩ ⟨hs,hz⟩
   refine kq [0,3] ?_
   refine s6 ?_
   refine kp [0,3,7] ?_
   refine W_cond rfl (fun hc4=>?_) (fun hc4=>?_)
   ·have hkp:0 < k:=by simpa using hc4
    refine s5 ?_
    refine L_binV rfl rfl rfl (bv_remN k 10 (by omega)) ?_
    refine L_binV rfl rfl rfl (bv_addR (by unfold inR;omega)) ?_
    refine L_convInt rfl rfl und5.h (by rw [und3.h];rfl) ?_
    refine L_buildSlice1 rfl rfl el128.h rfl (by decide) (by decide) rfl (fun bb=>?_)
    refine L_bytesToStr (ns:=[IntKind.u8.wrap (48+((k % 10:Nat):Int))]) rfl rfl und128.h und5.h und9.h (RdC.blk mm) rfl rfl ?_
    refine s1 ?_
    refine L_binV rfl rfl rfl (bv_sadd (by rw [strOf_size1];omega)) ?_
    refine s4 ?_
    refine L_binV rfl rfl rfl (bv_quoN k 10 (by omega) (by omega)) ?_
    refine s2 ?_
    refine ⟨(k / 10,dg k++s),sb,ms,?_,?_⟩
    ·refine ⟨?_,?_⟩
     ·rw [← hs];exact (mtxN_step s hkp).symm
     ·dsimp only at hz ⊢
      rw [ByteArray.size_append,dg_size];omega
    ·dsimp only;omega
   ·refine W_exit ?_
    refine s1 ?_
    have hd1:({ data:=#[109] }:ByteArray).size=1:=rfl
    dsimp only at hz
    refine s2 ?_
    refine L_binV rfl rfl rfl (bv_sadd (by (try dsimp only);omega)) ?_
    refine s3 ?_
    refine res1 rfl (ResOK.tmp rfl) ⟨?_,rfl⟩ ms
    have hk2:k=0:=by simp at hc4;omega
    subst hk2
    dsimp only at hs
    rw [mtxN_zero] at hs
    exact congrArg Value.string (by rw [hs];rfl)
theorem markIntS_spec (w:World) (t1:TL Int) (k0:Nat) (hk0:0 < k0) (hb:k0+Mk.cnt t1 < 9223372036854775807):Spec Tryz.prog 83 [t1.hdr,.int .i64 (k0:Int)].toArray w [treeH t1] (fun v M=>v=.int .i64 ((k0+Mk.cnt t1:Nat):Int)∧M=[treeH (Mk.mkd k0 t1)]):=by
 obtain ⟨a1,c1,e1,x1,y1⟩:=t1
 replace hb:k0+cnts x1 < 9223372036854775807:=hb
 dsimp only [TL.hdr]
 refine Spec.intro Tryz.func83 rfl Tryz.ntmps83 rfl ?_
 refine W_fact (fun w h=>ow_facts (h.prs _ (List.mem_cons_self ..))) fun hF=>?_
 replace hF:x1.length≤9223372036854775807∧(0 < x1.length→∃ g,a1=some ⟨g,0,none⟩):=hF
 refine s10 ?_
 refine W_conv (M':=[treeH (⟨a1,c1,e1,half k0 0 x1,y1⟩:TL Int)]) (fun w h=>by rw [half_zero];exact h) ?_
 refine W_loopC (σ:=Nat) 0 (fun (i:Nat)=>[(1,.int .i64 ((k0+cnts (x1.take i):Nat):Int)),(5,.int .i64 (i:Int))]) (fun (i:Nat)=>[treeH (⟨a1,c1,e1,half k0 i x1,y1⟩:TL Int)]) (fun (i:Nat)=>i≤x1.length) (fun (i:Nat)=>x1.length - i) [(0,_)] [] ?_ sb ms ?_
 ·exact Nat.zero_le _
 ·rintro i hi
  refine kq [0,1,5] ?_
  refine s5 ?_
  refine L_lenS rfl rfl el104.h ?_
  refine s2 ?_
  refine kp [0,1,5,9] ?_
  refine W_cond rfl (fun hc2=>?_) (fun hc2=>?_)
  ·have hk1:i < x1.length:=by simpa using hc2
   obtain ⟨g,rfl⟩:=hF.2 (by omega)
   obtain ⟨u,hu⟩:=getEl hk1
   have hs:=cnts_take_succ hu
   have hle:=cnts_take_le x1 (i+1)
   have hlh:=half_length k0 i x1
   try simp only [cnt_int,cnt_str] at hs
   refine s8 ?_
   refine L_indexAddr rfl rfl rfl el104.h rfl (by omega) ?_
   refine L_storeElV (((k0+cnts (x1.take i)):Nat):Int) rfl rfl pk rfl (show ((half k0 i x1):List Int)[i]?=some (u:Int) from half_get (k:=k0) hu) rfl (flat_int trivial) (.inr ⟨one3.h,rfl⟩) ?_
   refine s3 ?_
   refine L_binV rfl rfl rfl (bv_addR (by unfold inR;omega)) ?_
   refine s2 ?_
   rw [show (((k0+cnts (x1.take i)):Nat):Int)+1=((((k0+cnts (x1.take i))+1):Nat):Int) from rfl]
   have hfin:((half k0 i x1).set i (((k0+cnts (x1.take i)):Nat):Int))=half k0 (i+1) x1:=by
    have h9:=half_set (k:=k0) hu
    try simp only [mk_pair,mk_int,mk_str,cnt_pair,cnt_int,cnt_str,← Nat.add_assoc] at h9
    try simp only [List.set_set]
    exact h9
   refine W_conv (M':=treeH (⟨some ⟨g,0,none⟩,c1,e1,(half k0 (i+1) x1),y1⟩:TL Int)::_) (fun w h=>by rw [← hfin];exact h) ?_
   have hE:((k0+cnts (x1.take i))+1)=k0+cnts (x1.take (i+1)):=by rw [hs];(try simp only [cnt_pair,cnt_int,cnt_str]);omega
   rw [hE]
   refine s2 ?_
   refine L_binV rfl rfl rfl (bv_addR (by unfold inR;omega)) ?_
   refine s2 ?_
   refine ⟨i+1,sb,ms,?_,?_⟩
   ·show i+1≤x1.length
    omega
   ·show x1.length - (i+1) < x1.length - i
    omega
  ·refine W_exit ?_
   refine s6 ?_
   have hk2:x1.length≤i:=by simpa using hc2
   rw [half_all k0 hk2]
   refine res1 rfl (ResOK.tmp rfl) ⟨?_,rfl⟩ ms
   have hk2:x1.length≤i:=by simpa using hc2
   rw [List.take_of_length_le hk2];rfl
end Go.Proofs.SL
