/- The texts of the proof, part 1. -/
import Derived.WalkKit
import Derived.Orders
import Derived.KernelRfl
set_option linter.all false
namespace Go.Proofs.SL
open Go
abbrev aA0:=@ByteArray.empty
abbrev aA1:=@List.getElem?_eq_getElem
abbrev aA2:=@List.getElem?_eq_some_iff
abbrev aA3:=@cond_false
abbrev aA4:=@List.mem_cons_of_mem
abbrev aA5:=@decide_eq_false
abbrev aA6:=@decide_eq_true
abbrev aA7:=@Option.bind_some
abbrev aA8:=@cond_true
abbrev aA9:=@List.mem_cons_self
abbrev aAa:=@List.nil_append
abbrev aAb:=@Bool.false_ne_true
abbrev aAc:=@Nat.le_of_ble_eq_true
abbrev aAd:=@decide_eq_true_eq
abbrev aAe:=@Bool.not_true
abbrev aAf:=@List.mem_cons
abbrev aAg:=@Bool.and_eq_true
abbrev aAh:=@List.append_assoc
abbrev aAi:=@Bool.not_false
abbrev aAj:=@List.mem_of_getElem?
abbrev aAk:=@List.cons_append
abbrev aAl:=@List.mem_singleton
abbrev aAm:=@decide_eq_false_iff_not
abbrev aAn:=@Nat.zero_le
abbrev aAo:=@Array.getD_eq_getD_getElem?
abbrev aAp:=@List.getElem?_append_left
abbrev aAq:=@List.length_append
abbrev aAr:=@of_decide_eq_true
abbrev aAs:=@List.mem_filter
abbrev aAt:=@List.getD_eq_getElem?_getD
abbrev aAu:=@Nat.le_refl
abbrev aAv:=@List.mem_range
abbrev aAw:=@List.all_eq_true
abbrev aAx:=@List.mem_append_right
abbrev aAy:=@Array.getElem?_eq_getElem
abbrev aAz:=@Bool.false_or
abbrev aB0:=@List.mem_append
abbrev aB1:=@List.length_map
abbrev aB2:=@List.mem_append_left
abbrev aB3:=@List.length_take
abbrev aB4:=@Bool.not_eq_true'
abbrev aB5:=@List.length_cons
abbrev aB6:=@Iff.rfl
abbrev aB7:=@Array.getElem?_eq_some_iff
abbrev aB8:=@Int.toNat_natCast
abbrev aB9:=@List.perm_append_comm
abbrev aBa:=@List.Perm.of_eq
abbrev aBb:=@List.getElem?_append_right
abbrev aBc:=@Bool.true_and
abbrev aBd:=@List.findIdx?_eq_some_iff_getElem
abbrev aBe:=@List.getElem?_of_mem
abbrev aBf:=@List.take_append_drop
abbrev aBg:=@Bool.or_eq_true
abbrev aBh:=@List.lookup_cons
abbrev aBi:=@List.take_of_length_le
abbrev aBj:=@List.drop_of_length_le
abbrev aBk:=@Nat.zero_add
abbrev aBl:=@instDecidableEqProd
abbrev aBm:=@List.getElem?_toArray
abbrev aBn:=@Bool.eq_iff_iff
abbrev aBo:=@List.nodup_append
abbrev aBp:=@List.filter_cons
abbrev aBq:=@List.mem_flatMap
abbrev aBr:=@Bool.false_eq_true
abbrev aBs:=@List.any_eq_true
abbrev aBt:=@List.pairwise_cons
abbrev aBu:=@List.getElem?_set_self
abbrev aBv:=@List.pairwise_iff_getElem
abbrev aBw:=@List.getElem_mem
abbrev aBx:=@List.append_nil
abbrev aBy:=@List.Perm.swap
abbrev aBz:=@List.mem_map
abbrev aC0:=@List.eq_nil_of_length_eq_zero
abbrev aC1:=@List.length_drop
abbrev aC2:=@List.getElem?_drop
abbrev aC3:=@Nat.add_mul
abbrev aC4:=@List.length_filter_le
abbrev aC5:=@congrArg
abbrev aC6:=@Nat.lt_of_lt_of_le
abbrev aC7:=@Int.eq_ofNat_of_zero_le
abbrev aC8:=@List.drop_eq_getElem_cons
abbrev aC9:=@List.find?_some
abbrev aCa:=@Nat.min_eq_left
abbrev aCb:=@List.map_append
abbrev aCc:=@Option.getD_some
abbrev aCd:=@List.getElem?_eq_none
abbrev aCe:=@Bool.eq_false_iff
abbrev aCf:=@Nat.lt_or_ge
abbrev aCg:=@Nat.mul_le_mul_right
abbrev aCh:=@List.Perm.append_right
abbrev aCi:=@List.mem_of_find?_eq_some
abbrev aCj:=@List.findIdx?_eq_none_iff
abbrev aCk:=@List.take_append_of_le_length
abbrev aCl:=@List.takeWhile_cons
abbrev aCm:=@Bool.or_false
abbrev aCn:=@Array.setIfInBounds_comm
abbrev aCo:=@List.set_eq_take_append_cons_drop
abbrev aCp:=@List.nodup_cons
abbrev aCq:=@List.foldl_cons
abbrev aCr:=@List.length_nil
abbrev aCs:=@List.find?_eq_none
abbrev aCt:=@List.filter_append
abbrev aCu:=@Nat.add_sub_cancel_left
abbrev aCv:=@List.eraseIdx_eq_take_drop_succ
abbrev aCw:=@List.find?_cons_of_neg
abbrev aCx:=@List.dropWhile_cons
abbrev aCy:=@Nat.le_trans
abbrev aCz:=@List.getElem?_take
abbrev aD0:=@Array.getElem?_replicate
abbrev aD1:=@Nat.eq_zero_or_pos
abbrev aD2:=@Array.mem_toList_iff
abbrev aD3:=@List.flatten_cons
abbrev aD4:=@List.getElem?_map
abbrev aD5:=@List.any_eq_false
abbrev aD6:=@List.filter_eq_self
abbrev aD7:=@Nat.beq_refl
abbrev aD8:=@Array.getElem?_eq_none
abbrev aD9:=@Option.map_eq_some_iff
abbrev aDa:=@List.nodup_iff_pairwise_ne
abbrev aDb:=@List.take_length
abbrev aDc:=@of_decide_eq_false
abbrev aDd:=@Bool.and_eq_false_iff
abbrev aDe:=@Array.getElem?_setIfInBounds_ne
abbrev aDf:=@Option.all_some
abbrev aDg:=@List.pairwise_append
abbrev aDh:=@List.find?_cons
abbrev aDi:=@List.size_toArray
abbrev aDj:=@Array.length_toList
abbrev aDk:=@List.mem_flatten
abbrev aDl:=@List.drop_drop
abbrev aDm:=@Bool.false_and
abbrev aDn:=@Array.getElem?_modify
abbrev aDo:=@Int.tmod_eq_emod_of_nonneg
abbrev aDp:=@List.flatMap_cons
abbrev aDq:=@List.ext_getElem?
abbrev aDr:=@List.pairwise_map
abbrev aDs:=@List.mem_iff_getElem
abbrev aDt:=@Bool.or_eq_false_iff
abbrev aDu:=@List.getElem?_take_of_lt
abbrev aDv:=@List.perm_middle
abbrev aDw:=@List.flatMap_append
abbrev aDx:=@Nat.mul_le_mul_left
abbrev aDy:=@List.flatMap_eq_nil_iff
abbrev aDz:=@Option.bind_eq_some_iff
abbrev aE0:=@List.filter_cons_of_neg
abbrev aE1:=@List.filter_cons_of_pos
abbrev aE2:=@List.map_cons
abbrev aE3:=@Option.map_some
abbrev aE4:=@Option.isSome_none
abbrev aE5:=@List.find?_cons_of_pos
abbrev aE6:=@List.filter_eq_nil_iff
abbrev aE7:=@List.take_add_one
abbrev aE8:=@List.length_replicate
abbrev aE9:=@List.take_left
abbrev aEa:=@Bool.not_not
abbrev aEb:=@List.length_singleton
abbrev aEc:=@List.dropLast_concat_getLast
abbrev aEd:=@List.drop_append
abbrev aEe:=@List.mem_of_mem_take
abbrev aEf:=@Array.getElem?_setIfInBounds_self_of_lt
abbrev aEg:=@Array.getElem?_append_left
abbrev aEh:=@List.map_take
abbrev aEi:=@List.map_drop
abbrev aEj:=@List.getElem?_range
abbrev aEk:=@List.take_set_of_le
abbrev aEl:=@List.drop_set_of_lt
abbrev aEm:=@List.flatten_append
abbrev aEn:=@Nat.zero_mul
abbrev aEo:=@Option.isSome_iff_exists
abbrev aEp:=@Nat.add_zero
abbrev aEq:=@List.mem_of_elem_eq_true
abbrev aEr:=@List.elem_eq_true_of_mem
abbrev aEs:=@List.mem_filterMap
abbrev aEt:=@List.length_erase_of_mem
abbrev aEu:=@Nat.sub_self
abbrev aEv:=@Nat.add_sub_cancel
abbrev aEw:=@Bool.not_eq_false'
abbrev aEx:=@List.Perm.refl
abbrev aEy:=@List.take_zero
abbrev aEz:=@List.flatMap_def
abbrev aF0:=@Nat.le_add_right
abbrev aF1:=@Bool.not_eq_true
abbrev aF2:=@List.Perm.append_left
abbrev aF3:=@List.getElem?_reverse
abbrev aF4:=@List.contains_eq_mem
abbrev aF5:=@Nat.div_lt_of_lt_mul
abbrev aF6:=@List.find?_eq_some_iff_getElem
abbrev aF7:=@List.length_set
abbrev aF8:=@List.mem_erase_of_ne
abbrev aF9:=@List.set_set
abbrev aFa:=@List.getElem?_set_ne
abbrev aFb:=@List.any_append
abbrev aFc:=@List.drop_append_of_le_length
abbrev aFd:=@List.map_congr_left
abbrev aFe:=@List.length_pos_iff
abbrev aFf:=@List.replicate_succ
abbrev aFg:=@List.drop_left
abbrev aFh:=@List.nodup_nil
abbrev aFi:=@Int.le_refl
abbrev aFj:=@List.count_eq_zero
abbrev aFk:=@Array.toList_range
abbrev aFl:=@Nat.add_assoc
abbrev aFm:=@List.perm_ext_iff_of_nodup
abbrev aFn:=@List.filter_congr
abbrev aFo:=@List.length_range
abbrev aFp:=@List.foldl_append
abbrev aFq:=@Bool.not_eq_false
abbrev aFr:=@Classical.not_not
abbrev aFs:=@List.mem_or_eq_of_mem_set
abbrev aFt:=@List.nodup_range
abbrev aFu:=@Nat.mul_comm
abbrev aFv:=@Nat.div_add_mod'
abbrev aFw:=@Array.toList_map
abbrev aFx:=@List.eq_of_mem_replicate
abbrev aFy:=@List.take_append
abbrev aFz:=@Nat.mod_eq_of_lt
abbrev aG0:=@Nat.lt_succ_self
abbrev aG1:=@Nat.sub_zero
abbrev aG2:=@List.map_map
abbrev aG3:=@Int.le_trans
abbrev aG4:=@List.getElem?_cons_succ
abbrev aG5:=@Nat.le_mul_of_pos_right
abbrev aG6:=@List.head_eq_of_cons_eq
abbrev aG7:=@Option.map_none
abbrev aG8:=@Bool.decide_and
abbrev aG9:=@List.tail_drop
abbrev aGa:=@Nat.mod_lt
abbrev aGb:=@Bool.and_true
theorem kr {p:Prop} (h:p:=by kernel_rfl):p:=h
theorem om {p:Prop} (h:p:=by omega):p:=h
theorem de {p:Prop} (h:p:=by decide):p:=h
theorem sj {α:Type} {a b:α} (h:some a=some b):a=b:=Option.some.inj h
abbrev BR:=List (Nat×Value)
structure Env (a:Act) (n:Nat) (l:BR):Prop where
 size:a.tmps.size=n
 defers:a.defers=[]
 get:∀ t v,l.lookup t=some v→a.tmps[t]?=some v
structure HP where
 fp:List Nat
 pr:World→Prop
 st:∀ w w':World,(∀ k,k∈fp→w'.heap[k]?=w.heap[k]?)→pr w→pr w'
def fps (M:List HP):List Nat:=M.flatMap HP.fp
structure Holds (w0:World) (S0:List Nat) (M:List HP) (w:World):Prop where
 os:w.os=w0.os
 tape:w.tape=w0.tape∧w0.drawn≤w.drawn
 output:w.output=w0.output
 size:w0.heap.size≤w.heap.size
 old:∀ k,k < w0.heap.size→k ∉ S0→w.heap[k]?=w0.heap[k]?
 prs:∀ h,h∈M→h.pr w
 nodup:(fps M).Nodup
 rng:∀ k,k∈fps M→(k∈S0∨w0.heap.size≤k)∧k < w.heap.size
structure Cx where
 P:Program
 n:Nat
 w0:World
 S0:List Nat
abbrev CW:=BR→List HP→Prop
abbrev CX:=Exit→BR→List HP→Prop
def Ng (Γ:Cx) (Q:CX):Exit→Act→World→Prop
 | .outgrown=>fun _ _=>False
 | .panic _=>fun _ _=>False
 | e=>fun a w=>∃ l M,Env a Γ.n l∧Holds Γ.w0 Γ.S0 M w∧Q e l M
def W (Γ:Cx) (c:Code) (l:BR) (M:List HP) (Q:CX):Prop :=
 ∀ a w,Env a Γ.n l→Holds Γ.w0 Γ.S0 M w→c.wp Γ.P (Ng Γ Q) a w
@[reducible] def Vw (K:CW) (Q:CX):CX
 | .normal,l,M=>K l M
 | e,l,M=>Q e l M
@[reducible] def jA (id:Nat) (Q:CX):CX
 | .exit id',l,M=>match Nat.beq id' id with
  | true=>Q .normal l M
  | false=>Q (.exit id') l M
 | e,l,M=>Q e l M
def L (Γ:Cx) (rest:List Oper) (l:BR) (M:List HP) (K:CW):Prop :=
 ∀ ops a w (Q:Exit→Act→World→Prop),Env a Γ.n l→Holds Γ.w0 Γ.S0 M w →
  (∀ a' w' l' M',Env a' Γ.n l'→Holds Γ.w0 Γ.S0 M' w'→K l' M'→Q .normal a' w')→wpList Γ.P ops Q rest a w
variable {Γ:Cx} {l:BR} {M:List HP} {Q:CX} {K:CW}
theorem tI {c:Code} {Q':CX} (h:W Γ c l M Q) (hq:∀ e l M,Q e l M→Q' e l M):W Γ c l M Q':=fun a w ha hw =>
 Code.wp_mono (fun e _ _ q=>by
  cases e<;>first | exact q.elim | (obtain ⟨l,M,h1,h2,h3⟩:=q;exact ⟨l,M,h1,h2,hq _ _ _ h3⟩)) (h a w ha hw)
theorem Ot {x y:Code} (h:W Γ x l M (Vw (fun l M=>W Γ y l M Q) Q)):W Γ (.seq x y) l M Q:=fun a w ha hw =>
 wp_seq (Code.wp_mono (fun e a w q=>by
  cases e<;>first
   | exact q.elim
   | (obtain ⟨l,M,h1,h2,h3⟩:=q;exact h3 a w h1 h2)
   | (obtain ⟨l,M,h1,h2,h3⟩:=q;exact ⟨l,M,h1,h2,h3⟩)) (h a w ha hw))
theorem tJ (h:Q .normal l M):W Γ .skip l M Q:=fun a w ha hw=>wp_skip ⟨l,M,ha,hw,h⟩
theorem YE (h:Q .ret l M):W Γ .ret l M Q:=fun a w ha hw=>wp_ret ⟨l,M,ha,hw,h⟩
theorem BG {id:Nat} (h:Q (.exit id) l M):W Γ (.exit id) l M Q:=fun a w ha hw=>wp_exit ⟨l,M,ha,hw,h⟩
theorem qJ {id:Nat} {c:Code} (h:W Γ c l M (jA id Q)):W Γ (.block id c) l M Q:=fun a w ha hw =>
 wp_block (Code.wp_mono (fun e _ _ q=>by
  cases e with
  | exit id' =>
   obtain ⟨l,M,h1,h2,h3⟩:=q;simp only [jA] at h3;simp only [Exit.inBlock];split
   ·rename_i hid;subst hid;rw [aD7] at h3;exact ⟨l,M,h1,h2,h3⟩
   ·rename_i hid;rw [show Nat.beq id' id=false by cases hb:Nat.beq id' id;rfl;exact (hid (Nat.eq_of_beq_eq_true hb)).elim] at h3;exact ⟨l,M,h1,h2,h3⟩
  | panic ch=>exact q.elim
  | outgrown=>exact q.elim
  | normal=>exact q
  | goto l=>exact q
  | ret=>exact q) (h a w ha hw))
def ev (l:BR):Operand→Option Value
 | .tmp t=>l.lookup t
 | .const v=>some v
 | .func f=>some (.func (.func f) #[] #[])
 | .global g=>some (.pointer (some ⟨g,0,none⟩))
theorem Env.eval {a:Act} {n:Nat} {x:Operand} {v:Value} (h:Env a n l) (hx:ev l x=some v):a.eval x=v:=by
 cases x with
 | tmp t =>
  have:=h.get t v hx;simp only [Act.eval,aAo,this,aCc]
 | const u=>simpa [ev,Act.eval] using hx
 | func f=>simpa [ev,Act.eval] using hx
 | global g=>simpa [ev,Act.eval] using hx
theorem Tg {t:Operand} {b:Bool} {x y:Code} (ht:ev l t=some (.bool b)) (h1:b=true→W Γ x l M Q) (h2:b=false→W Γ y l M Q) :
  W Γ (.cond t x y) l M Q:=fun a w ha hw =>
 wp_cond_split (ha.eval ht) (fun h=>h1 h a w ha hw) (fun h=>h2 h a w ha hw)
theorem qK {t:Operand} {x y:Code} (ht:ev l t=some (.bool true)) (h1:W Γ x l M Q):W Γ (.cond t x y) l M Q :=
 Tg ht (fun _=>h1) (fun h=>by cases h)
def Sub (l' l:BR):Prop:=∀ t v,l'.lookup t=some v→l.lookup t=some v
theorem Sub.refl (l:BR):Sub l l:=fun _ _ h=>h
theorem Sub.nil (l:BR):Sub [] l:=fun _ _ h=>by simp at h
theorem Sub.cons {l':BR} {t:Nat} {v:Value} (h:l.lookup t=some v) (hs:Sub l' l):Sub ((t,v)::l') l:=by
 intro t' v' h';simp only [aBh] at h';split at h'
 ·rename_i he;simp only [beq_iff_eq] at he;subst he;cases h';exact h
 ·exact hs _ _ h'
theorem Env.sub {a:Act} {n:Nat} {l':BR} (h:Env a n l) (hs:Sub l' l):Env a n l':=⟨h.size,h.defers,fun t v ht=>h.get t v (hs t v ht)⟩
def MSub (M' M:List HP):Prop:=∃ r,List.Perm M (M'++r)
theorem MSub.refl (M:List HP):MSub M M:=⟨[],by simp⟩
theorem MSub.nil (M:List HP):MSub [] M:=⟨M,by simp⟩
theorem YW {M M':List HP} (h:List.Perm M M'):List.Perm (fps M) (fps M'):=by
 unfold fps;exact h.flatMap_right _
theorem FN (M M':List HP):fps (M++M')=fps M++fps M':=by simp [fps]
theorem BZ (h:HP) (M:List HP):fps (h::M)=h.fp++fps M:=by simp [fps]
@[simp] theorem Ab5:fps []=[]:=rfl
variable {w0 w:World} {S0:List Nat}
theorem Holds.perm {M':List HP} (h:Holds w0 S0 M w) (hp:List.Perm M M'):Holds w0 S0 M' w :=
 ⟨h.os,h.tape,h.output,h.size,h.old,fun x hx=>h.prs x (hp.mem_iff.2 hx),(YW hp).nodup_iff.1 h.nodup,fun k hk=>h.rng k ((YW hp).mem_iff.2 hk)⟩
theorem Holds.left {M1 M2:List HP} (h:Holds w0 S0 (M1++M2) w):Holds w0 S0 M1 w :=
 ⟨h.os,h.tape,h.output,h.size,h.old,fun x hx=>h.prs x (aB2 _ hx),
  by have:=h.nodup;rw [FN] at this;exact (aBo.1 this).1,fun k hk=>h.rng k (by rw [FN];exact aB2 _ hk)⟩
theorem Holds.sub {M':List HP} (h:Holds w0 S0 M w) (hs:MSub M' M):Holds w0 S0 M' w:=by
 obtain ⟨r,hr⟩:=hs;exact (h.perm hr).left
theorem RR {c:Code} {l':BR} {M':List HP} (hs:Sub l' l) (hm:MSub M' M) (h:W Γ c l' M' Q):W Γ c l M Q :=
 fun a w ha hw=>h a w (ha.sub hs) (hw.sub hm)
theorem tK {σ:Type} {c:Code} (E:σ→BR) (Mf:σ→List HP) (I:σ→Prop) (μ:σ→Nat) (s0:σ) (h0:I s0) (hl:Sub (E s0) l) (hm:MSub (Mf s0) M)
  (round:∀ s,I s→W Γ c (E s) (Mf s) (Vw (fun l' M'=>∃ s',Sub (E s') l'∧MSub (Mf s') M'∧I s'∧μ s' < μ s) Q)):W Γ (.loop c) l M Q:=by
 intro a0 w0 ha0 hw0 b k cs;have key:∀ n s a w,μ s=n→I s→Env a Γ.n (E s)→Holds Γ.w0 Γ.S0 (Mf s) w →
   ∃ e a' w',Ng Γ Q e a' w'∧Arrives Γ.P (lone (b.at a (.code c::.inLoop c::k)) cs w) b k cs e a' w':=by
  intro n
  induction n using Nat.strongRecOn with
  | _ n ih =>
   intro s a w hn hI ha hw;obtain ⟨e,a₁,w₁,hq,harr⟩:=round s hI a w ha hw b (.inLoop c::k) cs
   cases e with
   | normal =>
    obtain ⟨l',M',h1,h2,s',h3,h4,h5,h6⟩:=hq;obtain ⟨e₂,a₂,w₂,hq₂,harr₂⟩:=ih (μ s') (hn ▸ h6) s' a₁ w₁ rfl h5 (h1.sub h3) (h2.sub h4);exact ⟨e₂,a₂,w₂,hq₂,.of_steps (Steps.trans harr (.one step_inLoop)) harr₂⟩
   | exit id=>exact ⟨.exit id,a₁,w₁,hq,.pass (x:=.inLoop c) rfl (fun _ _=>.inl (by simp)) harr⟩
   | goto l=>exact ⟨.goto l,a₁,w₁,hq,.pass (x:=.inLoop c) rfl (fun _ _=>.inl (by simp)) harr⟩
   | ret=>exact ⟨.ret,a₁,w₁,hq,.pass (x:=.inLoop c) rfl (fun _ _=>.inl (by simp)) harr⟩
   | panic ch=>exact hq.elim
   | outgrown=>exact hq.elim
 obtain ⟨e,a',w',hq,harr⟩:=key _ s0 a0 w0 rfl h0 (ha0.sub hl) (hw0.sub hm);exact ⟨e,a',w',hq,.of_steps (.one step_loop) harr⟩
theorem Env.put {a:Act} {n d:Nat} {v:Value} (h:Env a n l) (hd:d < n):Env (a.put (some d) v) n ((d,v)::l):=by
 refine ⟨by simp [Act.put,h.size],by simp [Act.put,h.defers],fun t u ht=>?_⟩;simp only [aBh] at ht;simp only [Act.put];by_cases e:t=d
 ·subst e;simp at ht;subst ht;rw [aEf (by rw [h.size];exact hd)]
 ·rw [aDe om];rw [show (t == d)=false by simpa using e] at ht;exact h.get t u ht
theorem RS {id:Nat} {ops:List Oper} (h:L Γ ops l M (fun l M=>Q .normal l M)):W Γ (.region id ops.toArray false) l M Q :=
 fun a w ha hw=>wp_region_lit (h _ a w _ ha hw fun a' w' l' M' h1 h2 h3=>⟨l',M',h1,h2,h3⟩)
theorem Ca (h:K l M):L Γ [] l M K:=fun ops a w Q ha hw hk=>wpList_nil (hk a w l M ha hw h)
theorem Vx {o:Oper} {rest:List Oper} {M':List HP} {v:Value} {d:Nat} (hg:o.guard=none) (hd:o.dst=some d) (hn:d < Γ.n)
  (he:∀ a w,Env a Γ.n l→Holds Γ.w0 Γ.S0 M w→∃ w',(execOp a.eval o).run Γ.P w=.ok (.value v) w'∧Holds Γ.w0 Γ.S0 M' w')
  (hk:L Γ rest ((d,v)::l) M' K):L Γ (o::rest) l M K:=fun ops a w Q ha hw hq =>
 wpList_plain hg fun K' hK'=>by
  obtain ⟨w',h1,h2⟩:=he a w ha hw;unfold Oper.wp;rw [h1,Oper.upon_value,hd];exact hK' _ _ (hk ops _ w' Q (ha.put hn) h2 hq)
theorem Md {o:Oper} {rest:List Oper} {d:Nat} (R:Value→List HP→Prop) (hg:o.guard=none) (hd:o.dst=some d) (hn:d < Γ.n)
  (he:∀ a w,Env a Γ.n l→Holds Γ.w0 Γ.S0 M w→∃ v M' w',R v M'∧(execOp a.eval o).run Γ.P w=.ok (.value v) w'∧Holds Γ.w0 Γ.S0 M' w')
  (hk:∀ v M',R v M'→L Γ rest ((d,v)::l) M' K):L Γ (o::rest) l M K:=fun ops a w Q ha hw hq =>
 wpList_plain hg fun K' hK'=>by
  obtain ⟨v,M',w',hr,h1,h2⟩:=he a w ha hw;unfold Oper.wp;rw [h1,Oper.upon_value,hd];exact hK' _ _ (hk v M' hr ops _ w' Q (ha.put hn) h2 hq)
theorem Th {o:Oper} {rest:List Oper} {M':List HP} (hg:o.guard=none) (hd:o.dst=none)
  (he:∀ a w,Env a Γ.n l→Holds Γ.w0 Γ.S0 M w→∃ w',(execOp a.eval o).run Γ.P w=.ok .skip w'∧Holds Γ.w0 Γ.S0 M' w')
  (hk:L Γ rest l M' K):L Γ (o::rest) l M K:=fun ops a w Q ha hw hq =>
 wpList_plain hg fun K' hK'=>by
  obtain ⟨w',h1,h2⟩:=he a w ha hw;unfold Oper.wp;rw [h1,Oper.upon_skip,hd];exact hK' _ _ (hk ops _ w' Q (by simpa [Act.put] using ha) h2 hq)
def Spec (P:Program) (f:FuncId) (args:Array Value) (w:World) (M:List HP) (R:Value→List HP→Prop):Prop :=
 Holds w (fps M) M w→Calls P f args w fun e w'=>∃ v M',e=.returned v∧R v M'∧Holds w (fps M) M' w'
theorem Spec.mono {P:Program} {f:FuncId} {args:Array Value} {R R':Value→List HP→Prop} (h:Spec P f args w M R) (hr:∀ v M',R v M'→R' v M') :
  Spec P f args w M R':=fun hh=>(h hh).mono fun _ _ ⟨v,M',h1,h2,h3⟩=>⟨v,M',h1,hr _ _ h2,h3⟩
theorem Holds.split {M1 M2:List HP} (h:Holds w0 S0 (M1++M2) w):Holds w (fps M1) M1 w :=
 ⟨rfl,⟨rfl,aAu _⟩,rfl,aAu _,fun _ _ _=>rfl,h.left.prs,h.left.nodup,fun k hk=>⟨.inl hk,(h.left.rng k hk).2⟩⟩
theorem Holds.frame {M1 M2 M':List HP} {w':World} (h:Holds w0 S0 (M1++M2) w) (h':Holds w (fps M1) M' w'):Holds w0 S0 (M'++M2) w':=by
 have hnd:=h.nodup;rw [FN] at hnd;obtain ⟨a1,a0,hdis⟩:=aBo.1 hnd;have hr1:∀ k,k∈fps M1→(k∈S0∨w0.heap.size≤k)∧k < w.heap.size:=fun k hk=>h.rng k (by rw [FN];exact aB2 _ hk);have hr2:∀ k,k∈fps M2→(k∈S0∨w0.heap.size≤k)∧k < w.heap.size:=fun k hk=>h.rng k (by rw [FN];exact aAx _ hk);have hno:∀ k,k∈fps M2→k ∉ fps M1:=fun k h2 h1=>hdis k h1 k h2 rfl;refine ⟨h'.os.trans h.os,⟨h'.tape.1.trans h.tape.1,aCy h.tape.2 h'.tape.2⟩,h'.output.trans h.output,aCy h.size h'.size,fun k hk hs=>?_,fun x hx=>?_,?_,fun k hk=>?_⟩
 ·rw [h'.old k (aC6 hk h.size) (fun hm=>by
   rcases (hr1 k hm).1 with h3 | h3
   ·exact hs h3
   ·omega)]
  exact h.old k hk hs
 ·rcases aB0.1 hx with hx | hx
  ·exact h'.prs x hx
  ·refine x.st w w' (fun k hk=>?_) (h.prs x (aAx _ hx));have hm:k∈fps M2:=aBq.2 ⟨x,hx,hk⟩;exact h'.old k (hr2 k hm).2 (hno k hm)
 ·rw [FN];refine aBo.2 ⟨h'.nodup,a0,fun a ha b hb e=>?_⟩;subst e;rcases (h'.rng a ha).1 with h3 | h3
  ·exact hno a hb h3
  ·have:=(hr2 a hb).2;omega
 ·rw [FN] at hk;rcases aB0.1 hk with hk | hk
  ·obtain ⟨h3,h4⟩:=h'.rng k hk;refine ⟨?_,h4⟩;rcases h3 with h3 | h3
   ·exact (hr1 k h3).1
   ·exact .inr (aCy h.size h3)
  ·exact ⟨(hr2 k hk).1,aC6 (hr2 k hk).2 h'.size⟩
structure IsFn (P:Program) (f:FuncId):Prop where
 out:∃ fn:Func,P.funcs[f]?=some fn∧(fn.name == "runtime.NumGoroutine")=false∧fn.body.isNone=false
theorem IsFn.run {P:Program} {f:FuncId} (h:IsFn P f) (args:Array Value) (w:World):(callFunc f args).run P w=.ok (.enter f args) w:=by
 obtain ⟨fn,h1,h2,h3⟩:=h.out;simp only [callFunc,Sem.run_bind,run_program,Result.andThen_ok,h1,h2,h3,aBr,if_false,Sem.run_pure]
def evs (l:BR):List Operand→Option (List Value)
 | []=>some []
 | x::xs=>match ev l x,evs l xs with
  | some v,some vs=>some (v::vs)
  | _,_=>none
theorem Env.evals {a:Act} {n:Nat} (h:Env a n l):∀ (xs:List Operand) (vs:List Value),evs l xs=some vs→xs.map a.eval=vs
 | [],vs,hx=>by simp [evs] at hx;simp [hx]
 | x::xs,vs,hx=>by
  simp only [evs] at hx;split at hx
  ·rename_i v us h1 h2
   cases hx;simp [h.eval h1,h.evals xs us h2]
  ·cases hx
theorem YX {o:Oper} {rest:List Oper} {d f:Nat} {xs:List Operand} {ats:Array TypeId} {vs:List Value} {M1 M2:List HP} {R:Value→List HP→Prop}
  (ho:o.op=.call { callee:=.value (.func f),args:=xs.toArray,argTypes:=ats }) (hg:o.guard=none) (hd:o.dst=some d) (hn:d < Γ.n)
  (hf:IsFn Γ.P f) (hx:evs l xs=some vs) (hp:List.Perm M (M1++M2))
  (hc:∀ w,Holds Γ.w0 Γ.S0 (M1++M2) w→Spec Γ.P f vs.toArray w M1 R)
  (hk:∀ v M',R v M'→L Γ rest ((d,v)::l) (M'++M2) K):L Γ (o::rest) l M K:=fun ops a w Q ha hw hq =>
 wpList_plain hg fun K' hK'=>by
  have hw':=hw.perm hp;have he:(execOp a.eval o).run Γ.P w=.ok (.enter f vs.toArray) w:=by
   have h1:execOp a.eval o=callFunc f (#[]++xs.toArray.map a.eval++#[]):=by unfold execOp;rw [ho];rfl
   have h2:(#[]++xs.toArray.map a.eval++#[]:Array Value)=vs.toArray:=by simp [ha.evals xs vs hx]
   rw [h1,h2,hf.run]
  unfold Oper.wp;rw [he,Oper.upon_enter];refine (hc w hw' hw'.split).mono fun e w'' ⟨v,M',h1,h2,h3⟩=>?_;subst h1;simp only [hd];exact hK' _ _ (hk v M' h2 ops _ w'' Q (ha.put hn) (hw'.frame h3) hq)
def Old (w0:World) (S0:List Nat) (a:Addr) (v:Value):Prop:=w0.cell? a=some v∧a.block ∉ S0
variable {Γ:Cx} {l:BR} {M:List HP} {Q:CX} {K:CW} {w0 w:World} {S0:List Nat}
structure Sees (w0:World) (S0:List Nat) (M:List HP) (w:World):Prop where
 old:∀ k,k < w0.heap.size→k ∉ S0→w.heap[k]?=w0.heap[k]?
 prs:∀ h,h∈M→h.pr w
theorem Holds.sees (h:Holds w0 S0 M w):Sees w0 S0 M w:=⟨h.old,h.prs⟩
theorem Holds.seesSub {M':List HP} (h:Holds w0 S0 M w) (hs:∀ x,x∈M'→x∈M):Sees w0 S0 M' w:=⟨h.old,fun x hx=>h.prs x (hs x hx)⟩
theorem Old.now {a:Addr} {v:Value} (h:Old w0 S0 a v) (hw:Sees w0 S0 M w):w.cell? a=some v:=by
 have hb:=World.block_lt_of_cell? w0 a h.1;rw [World.cell?_of_block (w:=w0) (hw.old a.block hb h.2)];exact h.1
theorem Old.carry {a:Addr} {v:Value} {M1 M2:List HP} (h:Old w0 S0 a v) (hw:Holds w0 S0 (M1++M2) w):Old w (fps M1) a v:=by
 have hb:=World.block_lt_of_cell? w0 a h.1;refine ⟨h.now hw.sees,fun hm=>?_⟩;rcases (hw.rng a.block (by rw [FN];exact aB2 _ hm)).1 with h1 | h1
 ·exact h.2 h1
 ·omega
def inR (n:Int):Prop:=-9223372036854775808≤n∧n≤9223372036854775807
class GT (τ:Type) (δ:outParam Type) where
 sz:Nat
 pos:0 < sz
 cells:τ→List Value
 len:∀ t,(cells t).length=sz
 one:∀ t,∀ v,v∈cells t→v.oneCell'=true
 rd:World→List Nat→τ→Prop
 fp:τ→List Nat
 ow:World→τ→Prop
 dat:τ→δ
 rd_mono:∀ {w0 w S0 S t},rd w0 S0 t→(∀ a v,Old w0 S0 a v→Old w S a v)→rd w S t
 ow_st:∀ {w w' t},(∀ k,k∈fp t→w'.heap[k]?=w.heap[k]?)→ow w t→ow w' t
 ow_rd:∀ {w S t},ow w t→(∀ k,k∈fp t→k ∉ S)→rd w S t
instance:GT Int Int where
 sz:=1
 pos:=by decide
 cells n:=[.int .i64 n]
 len _:=rfl
 one _ v hv:=by simp at hv;subst hv;rfl
 rd _ _ _:=True
 fp _:=[]
 ow _ _:=True
 dat n:=n
 rd_mono h _:=h
 ow_st _ h:=h
 ow_rd h _:=h
instance:GT Bool Bool where
 sz:=1
 pos:=by decide
 cells b:=[.bool b]
 len _:=rfl
 one _ v hv:=by simp at hv;subst hv;rfl
 rd _ _ _:=True
 fp _:=[]
 ow _ _:=True
 dat b:=b
 rd_mono h _:=h
 ow_st _ h:=h
 ow_rd h _:=h
instance:GT UInt8 UInt8 where
 sz:=1
 pos:=by decide
 cells b:=[.int .u8 b.toNat]
 len _:=rfl
 one _ v hv:=by simp at hv;subst hv;rfl
 rd _ _ _:=True
 fp _:=[]
 ow _ _:=True
 dat b:=b
 rd_mono h _:=h
 ow_st _ h:=h
 ow_rd h _:=h
instance:GT ByteArray ByteArray where
 sz:=1
 pos:=by decide
 cells s:=[.string s]
 len _:=rfl
 one _ v hv:=by simp at hv;subst hv;rfl
 rd _ _ _:=True
 fp _:=[]
 ow _ _:=True
 dat s:=s
 rd_mono h _:=h
 ow_st _ h:=h
 ow_rd h _:=h
instance {α β δ ε:Type} [GT α δ] [GT β ε]:GT (α×β) (δ×ε) where
 sz:=GT.sz α+GT.sz β
 pos:=by have:=GT.pos (τ:=α);omega
 cells t:=GT.cells t.1++GT.cells t.2
 len t:=by simp [GT.len]
 one t v hv:=by
  rcases aB0.1 hv with h | h
  ·exact GT.one _ v h
  ·exact GT.one _ v h
 rd w S t:=GT.rd w S t.1∧GT.rd w S t.2
 fp t:=GT.fp t.1++GT.fp t.2
 ow w t:=GT.ow w t.1∧GT.ow w t.2
 dat t:=(GT.dat t.1,GT.dat t.2)
 rd_mono h hm:=⟨GT.rd_mono h.1 hm,GT.rd_mono h.2 hm⟩
 ow_st hh h:=⟨GT.ow_st (fun k hk=>hh k (aB2 _ hk)) h.1,GT.ow_st (fun k hk=>hh k (aAx _ hk)) h.2⟩
 ow_rd h hn:=⟨GT.ow_rd h.1 fun k hk=>hn k (aB2 _ hk),GT.ow_rd h.2 fun k hk=>hn k (aAx _ hk)⟩
structure TL (τ:Type) where
 a:Option Addr
 cap:Nat
 e:TypeId
 els:List τ
 tail:List Value
def TL.hdr {τ:Type} (L:TL τ):Value:=.slice L.a L.els.length L.cap
section
variable {τ δ:Type} [GT τ δ]
def Av (xs:List τ):List Value:=xs.flatMap GT.cells
theorem EZ (x:τ) (xs:List τ):Av (x::xs)=GT.cells x++Av xs:=by simp [Av]
theorem CG (xs ys:List τ):Av (xs++ys)=Av xs++Av ys:=by simp [Av]
@[simp] theorem BV (xs:List τ):(Av xs).length=xs.length*GT.sz τ:=by
 induction xs with
 | nil=>simp [Av]
 | cons x xs ih=>rw [EZ,aAq,ih,GT.len,aB5,aC3];omega
theorem Hq (xs:List τ) (i j:Nat) (x:τ) (h:xs[i]?=some x) (hj:j < GT.sz τ):(Av xs)[i*GT.sz τ+j]?=(GT.cells x)[j]?:=by
 induction xs generalizing i with
 | nil=>simp at h
 | cons y ys ih =>
  rw [EZ]
  cases i with
  | zero =>
   simp at h;subst h;rw [aEn,aBk,aAp (by rw [GT.len];exact hj)]
  | succ i =>
   rw [aBb (by rw [GT.len,aC3];omega),GT.len,show (i+1)*GT.sz τ+j - GT.sz τ=i*GT.sz τ+j by rw [aC3];omega];exact ih i (by simpa using h)
theorem OX (xs:List τ) (v:Value) (h:v∈Av xs):v.oneCell'=true:=by
 obtain ⟨x,_,hx⟩:=aBq.1 h;exact GT.one x v hx
instance:GT (TL τ) (List δ) where
 sz:=1
 pos:=by decide
 cells L:=[L.hdr]
 len _:=rfl
 one L v hv:=by simp at hv;subst hv;rfl
 rd w S L:=L.els.length≤L.cap∧L.cap≤maxLen∧(∀ x,x∈L.els→GT.rd w S x)∧(L.a=none→L.els=[]) ∧
  ∀ a,L.a=some a→(L.els≠[]→a.spot=none)∧∀ j v,(Av L.els)[j]?=some v→Old w S ⟨a.block,a.off+j,none⟩ v
 fp L:=(match L.a with | none=>[] | some a=>[a.block])++L.els.flatMap GT.fp
 ow w L:=L.els.length≤L.cap∧L.cap≤maxLen∧(∀ x,x∈L.els→GT.ow w x)∧(L.a=none→L.els=[]∧L.cap=0) ∧
  ∀ a,L.a=some a→a.spot=none∧a.off=0∧w.heap[a.block]?=some (.cells (Av L.els++L.tail).toArray L.e (0,0))∧L.els.length*GT.sz τ+L.tail.length=L.cap*GT.sz τ
 dat L:=L.els.map GT.dat
 rd_mono h hm:=⟨h.1,h.2.1,fun x hx=>GT.rd_mono (h.2.2.1 x hx) hm,h.2.2.2.1,fun a ha=>⟨(h.2.2.2.2 a ha).1,fun j v hv=>hm _ _ ((h.2.2.2.2 a ha).2 j v hv)⟩⟩
 ow_st hh h:=⟨h.1,h.2.1,fun x hx=>GT.ow_st (fun k hk=>hh k (aAx _ (aBq.2 ⟨x,hx,hk⟩))) (h.2.2.1 x hx),h.2.2.2.1,fun a ha=>by
  obtain ⟨h1,h2,h3,h4⟩:=h.2.2.2.2 a ha;exact ⟨h1,h2,by rw [hh a.block (by rw [ha];simp)];exact h3,h4⟩⟩
 ow_rd h hn:=⟨h.1,h.2.1,fun x hx=>GT.ow_rd (h.2.2.1 x hx) (fun k hk=>hn k (aAx _ (aBq.2 ⟨x,hx,hk⟩))),fun ha=>(h.2.2.2.1 ha).1,fun a ha=>by
  obtain ⟨h1,h2,h3,h4⟩:=h.2.2.2.2 a ha;refine ⟨fun _=>h1,fun j v hv=>⟨?_,hn a.block (by rw [ha];simp)⟩⟩;rw [cell_of_row _ _ _ _ _ _ h3,h2,aBk];simp only [aBm];rw [aAp (aA2.1 hv).1];exact hv⟩
end
def Af {τ δ:Type} [GT τ δ] (t:τ):HP:=⟨GT.fp t,fun w=>GT.ow w t,fun _ _ h=>GT.ow_st h⟩
def blk (b:Nat) (cs:List Value) (T:TypeId):HP:=⟨[b],fun w=>w.heap[b]?=some (.cells cs.toArray T (0,0)),fun w w' h hp=>by rw [h b (by simp)];exact hp⟩
inductive Pick (h:HP):List HP→List HP→Prop
 | here (M:List HP):Pick h (h::M) M
 | there (g:HP) {M M':List HP} (hp:Pick h M M'):Pick h (g::M) (g::M')
theorem Pick.perm {h:HP} {M M':List HP} (p:Pick h M M'):List.Perm M (h::M'):=by
 induction p with
 | here M=>exact aEx _
 | there g _ ih=>exact (ih.cons g).trans (aBy _ _ _)
theorem MSub.cons {h:HP} {Ms M M':List HP} (p:Pick h M M') (hs:MSub Ms M'):MSub (h::Ms) M:=by
 obtain ⟨r,hr⟩:=hs;exact ⟨r,p.perm.trans (hr.cons h)⟩
theorem SO (M:List HP):List.Perm M ([]++M):=by simp
theorem perm_cons {h:HP} {Ms M M' R:List HP} (p:Pick h M M') (hs:List.Perm M' (Ms++R)):List.Perm M ((h::Ms)++R):=p.perm.trans (hs.cons h)
def RdC (Γ:Cx) (M:List HP) (g off:Nat) (cs:List Value):Prop:=∀ w,Sees Γ.w0 Γ.S0 M w→∀ j v,cs[j]?=some v→w.cell? ⟨g,off+j,none⟩=some v
def Cells (w0:World) (S0:List Nat) (g off:Nat) (cs:List Value):Prop:=∀ j v,cs[j]?=some v→Old w0 S0 ⟨g,off+j,none⟩ v
theorem RdC.old {g off:Nat} {cs:List Value} (h:Cells Γ.w0 Γ.S0 g off cs):RdC Γ M g off cs:=fun _ hw j v hv=>(h j v hv).now hw
abbrev Gj:=@RdC.old
theorem Ax {b:Nat} {cs:List Value} {T:TypeId} (h:blk b cs T∈M):RdC Γ M b 0 cs:=fun w hw j v hv=>by
 have hp:w.heap[b]?=some (.cells cs.toArray T (0,0)):=hw.prs _ h;rw [cell_of_row _ _ _ _ _ _ hp,aBk];simpa using hv
section
variable {τ δ:Type} [GT τ δ]
theorem Cells.el {L:TL τ} {g o i:Nat} {x:τ} (h:GT.rd w0 S0 L) (ha:L.a=some ⟨g,o,none⟩) (hi:L.els[i]?=some x):Cells w0 S0 g (o+i*GT.sz τ) (GT.cells x):=fun j v hv=>by
 have hj:j < GT.sz τ:=by rw [← GT.len x];exact (aA2.1 hv).1
 have:=(h.2.2.2.2 _ ha).2 (i*GT.sz τ+j) v (by rw [Hq _ _ _ _ hi hj];exact hv);rw [aFl];exact this
theorem RdC.el {L:TL τ} {g o i:Nat} {x:τ} (hm:Af L∈M) (ha:L.a=some ⟨g,o,none⟩) (hi:L.els[i]?=some x):RdC Γ M g (o+i*GT.sz τ) (GT.cells x):=fun w hw j v hv=>by
 have hj:j < GT.sz τ:=by rw [← GT.len x];exact (aA2.1 hv).1
 have h:GT.ow w L:=hw.prs _ hm;obtain ⟨h1,h2,h3,h4⟩:=h.2.2.2.2 _ ha;have h2':o=0:=h2;subst h2';have hlt:i*GT.sz τ+j < (Av L.els).length:=by
  have:=(aA2.1 (Hq L.els i j x hi hj ▸ hv:(Av L.els)[i*GT.sz τ+j]?=some v)).1;exact this
 rw [cell_of_row _ _ _ _ _ _ h3,aBk];simp only [aBm];rw [aAp hlt,Hq _ _ _ _ hi hj];exact hv
end
def Jp (P:Program) (T:TypeId):Option Nat :=
 match P.underlying T,P.info? T with
 | some (.struct _),some i=>some i.size
 | some (.array _ _),some i=>some i.size
 | _,_=>none
def Ie (P:Program) (T:TypeId):Bool :=
 match P.underlying T,P.info? T with
 | some (.struct _),_=>false
 | some (.array _ _),_=>false
 | some _,some i=>i.size == 1
 | _,_=>false
def PU (P:Program) (T:TypeId) (f:Nat):Option Nat :=
 match P.underlying T with
 | some (.struct fs)=>match fs[f]? with
  | some x=>match P.info? x.type with
   | some i=>if i.size=0 then none else some x.offset
   | none=>none
  | none=>none
 | _=>none
def elOf (P:Program) (T:TypeId):Option (TypeId×Nat×Nat×List Value) :=
 match P.underlying T with
 | some (.slice e)=>match P.info? e with
  | some i=>match i.zero with
   | some z=>some (e,i.size,i.bytes,z.cells.toList)
   | none=>none
  | none=>none
 | _=>none
def OY (P:Program) (T:TypeId):Option (List Value) :=
 match P.info? T with
 | some i=>match i.zero with
  | some z=>some z.cells.toList
  | none=>none
 | none=>none
def PV (P:Program) (T:TypeId):Bool:=match P.underlying T with | some .string=>true | _=>false
theorem Ey {P:Program} {T n:Nat} (h:Jp P T=some n) (w:World):(isAgg T).run P w=.ok true w∧(sizeOf T).run P w=.ok n w:=by
 unfold Jp at h;split at h<;>(try cases h)<;>(rename_i h1 h2;simp [isAgg,underlying,sizeOf,typeInfo,h1,h2])
theorem Fx {P:Program} {T:Nat} (h:Ie P T=true) (w:World):(isAgg T).run P w=.ok false w∧(sizeOf T).run P w=.ok 1 w:=by
 unfold Ie at h;split at h
 ·cases h
 ·cases h
 ·rename_i d i a0 a1 h1 h2;simp only [beq_iff_eq] at h;simp only [isAgg,underlying,sizeOf,typeInfo,Sem.run_bind,run_program,Result.andThen_ok,h1,h2,Sem.run_pure,h,and_true]
 ·cases h
def Vy:Nat→List Value→BR
 | _,[]=>[]
 | i,v::vs=>(i,v)::Vy (i+1) vs
theorem YY (vs:List Value):∀ i t v,(Vy i vs).lookup t=some v→i≤t∧vs[t - i]?=some v:=by
 induction vs with
 | nil=>intro i t v h;simp [Vy] at h
 | cons u us ih =>
  intro i t v h;simp only [Vy,aBh] at h;split at h
  ·rename_i he;simp only [beq_iff_eq] at he;subst he;cases h;simp
  ·rename_i he;obtain ⟨h1,h2⟩:=ih (i+1) t v h;refine ⟨by omega,?_⟩;rw [show t - i=(t - (i+1))+1 by omega];simpa using h2
def WP (P:Program) (fn:Func) (w0:World) (S0:List Nat) (R:Value→List HP→Prop):CX
 | .normal,l,M=>∃ v M',(∀ a w,Env a fn.ntmps l→Holds w0 S0 M w→(results fn a.tmps).run P w=.ok v w)∧R v M'∧MSub M' M
 | .ret,l,M=>∃ v M',(∀ a w,Env a fn.ntmps l→Holds w0 S0 M w→(results fn a.tmps).run P w=.ok v w)∧R v M'∧MSub M' M
 | _,_,_=>False
theorem Spec.intro {P:Program} {f:FuncId} {fn:Func} {c:Code} {args:List Value} {R:Value→List HP→Prop} {n:Nat} (hf:P.funcs[f]?=some fn) (hb:fn.body=some c)
  (hn:fn.ntmps=n) (hs:Nat.ble args.length n=true) (h:W ⟨P,n,w,fps M⟩ c (Vy 0 args) M (WP P fn w (fps M) R)):Spec P f args.toArray w M R:=by
 subst hn;have hs:=aAc hs;intro hh;refine calls_of_wp hf hb (Code.wp_mono ?_ (h _ w ?_ hh))
 ·intro e a w' q
  cases e<;>first
   | exact q.elim
   | (obtain ⟨l,M',h1,h2,h3⟩:=q;exact h3.elim)
   | (obtain ⟨l,M',h1,h2,v,M'',h3,h4,h5⟩:=q;exact ⟨h1.defers,v,h3 a w' h1 h2,v,M'',rfl,h4,h2.sub h5⟩)
 ·refine ⟨by simp;omega,rfl,fun t v ht=>?_⟩;obtain ⟨_,h2⟩:=YY _ _ _ _ ht;have hlt:=(aA2.1 h2).1;rw [aEg (by simpa using hlt)];simpa using h2
abbrev Ay:=@Spec.intro
def eW (tmps:Array Value) (rv:ResultVar):Sem Value :=
 match rv with
 | .tmp t=>pure (tmps.getD t undef)
 | .cell a t=>do loadVar t (← asAddr (tmps.getD a undef))
theorem LC (fn:Func) (tmps:Array Value):results fn tmps=(do
 let vs ← fn.results.mapM (eW tmps)
 pure (if h:vs.size=1 then vs[0] else .tuple vs)):=rfl
def ResOK (P:Program) (n:Nat) (w0:World) (S0:List Nat) (l:BR) (M:List HP) (rv:ResultVar) (v:Value):Prop :=
 ∀ a w,Env a n l→Holds w0 S0 M w→(eW a.tmps rv).run P w=.ok v w
theorem ResOK.tmp {P:Program} {n t:Nat} {v:Value} (h:l.lookup t=some v):ResOK P n w0 S0 l M (.tmp t) v:=fun a w ha _=>by
 have:=ha.get t v h;simp [eW,aAo,this]
abbrev Ah:=@ResOK.tmp
theorem Gk {P:Program} {g off:Nat} {cs:List Value} (h:∀ j v,cs[j]?=some v→w.cell? ⟨g,off+j,none⟩=some v) :
  (loadCells ⟨g,off,none⟩ cs.length).run P w=.ok cs.toArray w :=
 run_loadCells_list (P:=P) w ⟨g,off,none⟩ cs (fun j v hv=>by
  have hadd:(⟨g,off,none⟩:Addr).add j=⟨g,off+j,none⟩:=by unfold Addr.add;split<;>simp_all
  rw [hadd];exact h j v hv)
theorem ResOK.cell {P:Program} {n t ty b:Nat} {cs:List Value} {T:TypeId} (h:l.lookup t=some (.pointer (some ⟨b,0,none⟩))) (hm:blk b cs T∈M)
  (ht:Jp P ty=some cs.length):ResOK P n w0 S0 l M (.cell t ty) (.agg cs.toArray):=fun a w ha hw=>by
 have:=ha.get t _ h;have hp:w.heap[b]?=some (.cells cs.toArray T (0,0)):=hw.prs _ hm;have hl:(loadCells ⟨b,0,none⟩ cs.length).run P w=.ok cs.toArray w:=Gk (fun j v hv=>by
  rw [cell_of_row _ _ _ _ _ _ hp,aBk];simpa using hv)
 simp [eW,aAo,this,asAddr,loadVar,Ey ht,hl]
abbrev AF:=@ResOK.cell
theorem Ct {P:Program} {fn:Func} {rv:ResultVar} {v:Value} {R:Value→List HP→Prop} {M':List HP} (hr:fn.results=#[rv])
  (h:ResOK P fn.ntmps w0 S0 l M rv v) (hR:R v M') (hm:MSub M' M):WP P fn w0 S0 R .ret l M :=
 ⟨v,M',fun a w ha hw=>by
  rw [LC,hr];simp [h a w ha hw],hR,hm⟩
theorem Cz {P:Program} {fn:Func} {r1 r2:ResultVar} {v1 v2:Value} {R:Value→List HP→Prop} {M':List HP} (hr:fn.results=#[r1,r2])
  (h1:ResOK P fn.ntmps w0 S0 l M r1 v1) (h2:ResOK P fn.ntmps w0 S0 l M r2 v2) (hR:R (.tuple #[v1,v2]) M') (hm:MSub M' M):WP P fn w0 S0 R .ret l M :=
 ⟨_,M',fun a w ha hw=>by
  rw [LC,hr];simp [h1 a w ha hw,h2 a w ha hw],hR,hm⟩
theorem CY {P:Program} {fn:Func} {r1 r2 r3:ResultVar} {v1 v2 v3:Value} {R:Value→List HP→Prop} {M':List HP} (hr:fn.results=#[r1,r2,r3])
  (h1:ResOK P fn.ntmps w0 S0 l M r1 v1) (h2:ResOK P fn.ntmps w0 S0 l M r2 v2) (h3:ResOK P fn.ntmps w0 S0 l M r3 v3) (hR:R (.tuple #[v1,v2,v3]) M') (hm:MSub M' M):WP P fn w0 S0 R .ret l M :=
 ⟨_,M',fun a w ha hw=>by
  rw [LC,hr];simp [h1 a w ha hw,h2 a w ha hw,h3 a w ha hw],hR,hm⟩
variable {Γ:Cx} {l:BR} {M:List HP} {Q:CX} {K:CW} {w0 w:World} {S0:List Nat}
variable {rest:List Oper} {d:Nat} {ty:TypeId} {pos:String} {af:Array Edge}
theorem Eq {op:Op} {v:Value} (hn:Nat.blt d Γ.n=true)
  (he:∀ a w,Env a Γ.n l→Holds Γ.w0 Γ.S0 M w→(execOp a.eval ⟨some d,op,ty,pos,af,none⟩).run Γ.P w=.ok (.value v) w)
  (hk:L Γ rest ((d,v)::l) M K):L Γ (⟨some d,op,ty,pos,af,none⟩::rest) l M K :=
 Vx rfl rfl (aAc hn) (fun a w ha hw=>⟨w,he a w ha hw,hw⟩) hk
theorem tL {x:Operand} {v:Value} (hn:Nat.blt d Γ.n=true) (hx:ev l x=some v) (hk:L Γ rest ((d,v)::l) M K) :
  L Γ (⟨some d,.move x,ty,pos,af,none⟩::rest) l M K :=
 Eq hn (fun a w ha _=>by simp [execOp,ha.eval hx]) hk
theorem Bi {x:Operand} {v:Value} (hn:Nat.blt d Γ.n=true) (hx:ev l x=some v) (hk:L Γ rest ((d,v)::l) M K) :
  L Γ (⟨some d,.assign x,ty,pos,af,none⟩::rest) l M K :=
 Eq hn (fun a w ha _=>by simp [execOp,ha.eval hx]) hk
theorem wO {op:BinOp} {T U:TypeId} {x y:Operand} {u v r:Value} (hn:Nat.blt d Γ.n=true) (hx:ev l x=some u) (hy:ev l y=some v)
  (he:∀ w,(do eqGuard op T x y u v;binOp op T u v:Sem Value).run Γ.P w=.ok r w)
  (hk:L Γ rest ((d,r)::l) M K) :
  L Γ (⟨some d,.binOp op T x y U,ty,pos,af,none⟩::rest) l M K :=
 Eq hn (fun a w ha _=>by
  simp only [execOp,ha.eval hx,ha.eval hy];rw [Sem.run_bind,he w];rfl) hk
def ET (P:Program) (op:BinOp) (T:TypeId) (x y:Operand) (u v r:Value):Prop:=∀ w,(do eqGuard op T x y u v;binOp op T u v:Sem Value).run P w=.ok r w
theorem Jw {op:BinOp} {T U:TypeId} {x y:Operand} {u v r:Value} (hn:Nat.blt d Γ.n=true) (hx:ev l x=some u) (hy:ev l y=some v)
  (he:ET Γ.P op T x y u v r) (hk:L Γ rest ((d,r)::l) M K) :
  L Γ (⟨some d,.binOp op T x y U,ty,pos,af,none⟩::rest) l M K:=wO hn hx hy he hk
section
variable {P:Program} {T:TypeId} {x y:Operand} {k:IntKind} {a b:Int}
theorem BT {n:Int} (h:inR n):IntKind.wrap .i64 n=n:=IntWalk.i64_in n h
theorem Ou (n:Int):inR (IntKind.wrap .i64 n):=by rw [IntKind.wrap_i64];unfold inR;omega
theorem tM:ET P .add T x y (.int k a) (.int k b) (.int k (k.wrap (a+b))):=fun w=>by simp [eqGuard,binOp,Op.intArith]
theorem tN:ET P .sub T x y (.int k a) (.int k b) (.int k (k.wrap (a - b))):=fun w=>by simp [eqGuard,binOp,Op.intArith]
theorem tO:ET P .mul T x y (.int k a) (.int k b) (.int k (k.wrap (a*b))):=fun w=>by simp [eqGuard,binOp,Op.intArith]
theorem tP (hb:b≠0):ET P .quo T x y (.int k a) (.int k b) (.int k (k.wrap (a.tdiv b))):=fun w=>by simp [eqGuard,binOp,Op.intDiv,hb]
theorem jB (hb:b≠0):ET P .rem T x y (.int k a) (.int k b) (.int k (a.tmod b)):=fun w=>by simp [eqGuard,binOp,Op.intDiv,hb]
theorem tQ:ET P .lss T x y (.int k a) (.int k b) (.bool (decide (a < b))):=fun w=>by simp [eqGuard,binOp,Op.intCmp]
theorem tR:ET P .leq T x y (.int k a) (.int k b) (.bool (decide (a≤b))):=fun w=>by simp [eqGuard,binOp,Op.intCmp]
theorem tS:ET P .gtr T x y (.int k a) (.int k b) (.bool (decide (b < a))):=fun w=>by simp [eqGuard,binOp,Op.intCmp]
theorem tT:ET P .geq T x y (.int k a) (.int k b) (.bool (decide (b≤a))):=fun w=>by simp [eqGuard,binOp,Op.intCmp]
theorem Hr:ET P .eql T x y (.int k a) (.int k b) (.bool (decide (a=b))):=fun w=>by by_cases h:a=b<;>simp [eqGuard,binOp,Op.intCmp,h]
theorem jC:ET P .neq T x y (.int k a) (.int k b) (.bool (!decide (a=b))):=fun w=>by by_cases h:a=b<;>simp [eqGuard,binOp,Op.intCmp,h]
theorem Vz (s t:ByteArray):(s.toList == t.toList)=decide (s=t):=by
 by_cases h:s=t
 ·subst h;simp
 ·rw [aA5 h];refine beq_eq_false_iff_ne.2 fun e=>h ?_;rw [ByteArray.toList_eq,ByteArray.toList_eq] at e
  cases s;cases t
  exact aC5 _ (Array.toList_inj.1 e)
variable {s t:ByteArray}
theorem qL:ET P .eql T x y (.string s) (.string t) (.bool (decide (s=t))):=fun w=>by simp [eqGuard,binOp,Op.stringOp,Vz]
theorem qM:ET P .neq T x y (.string s) (.string t) (.bool (!decide (s=t))):=fun w=>by simp [eqGuard,binOp,Op.stringOp,Vz]
def sLt (s t:ByteArray):Bool:=Op.bytesLess s.toList t.toList
theorem qN:ET P .lss T x y (.string s) (.string t) (.bool (sLt s t)):=fun w=>by simp [eqGuard,binOp,Op.stringOp,sLt]
theorem qO:ET P .geq T x y (.string s) (.string t) (.bool (!sLt s t)):=fun w=>by simp [eqGuard,binOp,Op.stringOp,sLt]
theorem qP (h:s.size+t.size≤9223372036854775807):ET P .add T x y (.string s) (.string t) (.string (s++t)):=fun w=>by
 have:¬ (((s.size+t.size:Nat):Int) > IntKind.i64.max):=by
  have e:IntKind.i64.max=9223372036854775807:=by decide
  rw [e];omega
 simp only [eqGuard,binOp,Op.stringOp,if_neg this];simp
end
theorem wP {x:Operand} {T:TypeId} {b:Bool} (hn:Nat.blt d Γ.n=true) (hx:ev l x=some (.bool b)) (hk:L Γ rest ((d,.bool (!b))::l) M K) :
  L Γ (⟨some d,.unOp .not T x,ty,pos,af,none⟩::rest) l M K :=
 Eq hn (fun a w ha _=>by simp [execOp,ha.eval hx,Op.unary]) hk
theorem NU {P:Program} {T:TypeId} {e z:TypeId×Nat×Nat×List Value} (h:elOf P T=some e) (a:Option Addr) (n c:Nat) (ty:TypeId) (w:World) :
  (Builtin.len_ #[T] ty #[.slice a n c]).run P w=.ok (.int .i64 n) w:=by
 unfold elOf at h;split at h<;>(try cases h);rename_i e' he;simp [Builtin.len_,underlying,he,goInt]
theorem VA {x:Operand} {T:TypeId} {e:TypeId×Nat×Nat×List Value} {a:Option Addr} {n c:Nat} (hn:Nat.blt d Γ.n=true) (hx:ev l x=some (.slice a n c)) (ht:elOf Γ.P T=some e)
  (hk:L Γ rest ((d,.int .i64 n)::l) M K) :
  L Γ (⟨some d,.call { callee:=.builtin .len,args:=#[x],argTypes:=#[T] },ty,pos,af,none⟩::rest) l M K :=
 Eq hn (fun a' w ha _=>by
  have:=NU (z:=e) ht a n c ty w;simp [execOp,resolve,invoke,builtin,ha.eval hx,this]) hk
theorem tU {x:Operand} {T:TypeId} {s:ByteArray} (hn:Nat.blt d Γ.n=true) (hx:ev l x=some (.string s)) (ht:PV Γ.P T=true)
  (hk:L Γ rest ((d,.int .i64 s.size)::l) M K) :
  L Γ (⟨some d,.call { callee:=.builtin .len,args:=#[x],argTypes:=#[T] },ty,pos,af,none⟩::rest) l M K :=
 Eq hn (fun a' w ha _=>by
  have h2:Γ.P.underlying T=some .string:=by unfold PV at ht;split at ht<;>simp_all
  simp [execOp,resolve,invoke,builtin,ha.eval hx,Builtin.len_,underlying,h2,goInt]) hk
theorem DP (g o n:Nat):(⟨g,o,none⟩:Addr).add n=⟨g,o+n,none⟩:=by unfold Addr.add;split<;>simp_all
theorem cF {x:Operand} {T f fo g o:Nat} (hn:Nat.blt d Γ.n=true) (hx:ev l x=some (.pointer (some ⟨g,o,none⟩))) (ht:PU Γ.P T f=some fo)
  (hk:L Γ rest ((d,.pointer (some ⟨g,o+fo,none⟩))::l) M K) :
  L Γ (⟨some d,.fieldAddr T x f,ty,pos,af,none⟩::rest) l M K :=
 Eq hn (fun a' w ha _=>by
  unfold PU at ht;split at ht<;>(try cases ht);rename_i fs hfs;split at ht<;>(try cases ht);rename_i x' hx';split at ht<;>(try cases ht);rename_i i hi;split at ht<;>cases ht;rename_i hsz;simp [execOp,ha.eval hx,Instr.fieldAt,underlying,hfs,hx',Instr.sureAddr,fieldPlace,sizeOf,typeInfo,hi,hsz,DP]) hk
theorem eX {x:Operand} {a:Addr} (hn:Nat.blt d Γ.n=true) (hx:ev l x=some (.pointer (some a)))
  (hk:L Γ rest ((d,.pointer (some a))::l) M K) :
  L Γ (⟨some d,.nilCheck x,ty,pos,af,none⟩::rest) l M K :=
 Eq hn (fun a' w ha _=>by simp [execOp,ha.eval hx]) hk
theorem Ko {P:Program} {T:TypeId} {e:TypeId} {sz by_:Nat} {z:List Value} (h:elOf P T=some (e,sz,by_,z)) (g o n c:Nat) (k:IntKind) (i:Int) (j:Nat) (hi:i=(j:Int)) (hj:j < n) (w:World) :
  (Instr.indexAt T (.slice (some ⟨g,o,none⟩) n c) (.int k i)).run P w=.ok (.pointer (some ⟨g,o+j*sz,none⟩)) w:=by
 unfold elOf at h;split at h<;>(try cases h);rename_i e' he;split at h<;>(try cases h);rename_i i' hi';split at h<;>cases h;subst hi;have h0:(0:Int)≤(j:Int)∧((j:Int) < (n:Int)):=by omega
 have h0':¬ n≤j:=by omega
 simp [Instr.indexAt,asIntOf,underlying,he,h0,h0',sizeOf,typeInfo,hi',DP]
theorem Ti {x:Operand} {S T:TypeId} {k k':IntKind} {n:Int} (hn:Nat.blt d Γ.n=true) (hx:ev l x=some (.int k n)) (ht:Γ.P.underlying T=some (.int k')) (hs:(Γ.P.underlying S).isSome=true)
  (hk:L Γ rest ((d,.int k' (k'.wrap n))::l) M K) :
  L Γ (⟨some d,.convert S T x,ty,pos,af,none⟩::rest) l M K :=
 Eq hn (fun a' w ha _=>by
  obtain ⟨u,hu⟩:=aEo.1 hs;simp [execOp,ha.eval hx,convert,underlying,hu,ht,Conv.intToInt]) hk
theorem IX {x:Operand} {T g off fo:Nat} {cs:List Value} {v:Value} (hn:Nat.blt d Γ.n=true) (hx:ev l x=some (.pointer (some ⟨g,off+fo,none⟩))) (hc:RdC Γ M g off cs) (ht:Ie Γ.P T=true)
  (hv:cs[fo]?=some v) (hk:L Γ rest ((d,v)::l) M K) :
  L Γ (⟨some d,.load T x,ty,pos,af,none⟩::rest) l M K :=
 Eq hn (fun a' w ha hw=>by simp [execOp,ha.eval hx,Instr.loadAt,Instr.sureAddr,loadVar,Fx ht,hc w hw.sees fo v hv]) hk
theorem FA {x:Operand} {T g off:Nat} {cs:List Value} {v:Value} (hn:Nat.blt d Γ.n=true) (hx:ev l x=some (.pointer (some ⟨g,off,none⟩))) (hc:RdC Γ M g off cs) (ht:Ie Γ.P T=true)
  (hv:cs[0]?=some v) (hk:L Γ rest ((d,v)::l) M K) :
  L Γ (⟨some d,.load T x,ty,pos,af,none⟩::rest) l M K :=
 Eq hn (fun a' w ha hw=>by
  have:=hc w hw.sees 0 v hv;simp only [aEp] at this;simp [execOp,ha.eval hx,Instr.loadAt,Instr.sureAddr,loadVar,Fx ht,this]) hk
theorem Ba {x:Operand} {T g off:Nat} {cs:List Value} (hn:Nat.blt d Γ.n=true) (hx:ev l x=some (.pointer (some ⟨g,off,none⟩))) (hc:RdC Γ M g off cs) (ht:Jp Γ.P T=some cs.length)
  (hk:L Γ rest ((d,.agg cs.toArray)::l) M K) :
  L Γ (⟨some d,.load T x,ty,pos,af,none⟩::rest) l M K :=
 Eq hn (fun a' w ha hw=>by
  have hl:=Gk (P:=Γ.P) (hc w hw.sees);simp [execOp,ha.eval hx,Instr.loadAt,Instr.sureAddr,loadVar,Ey ht,hl]) hk
theorem AW {g off:Nat} {cs:List Value} (h:RdC Γ M g off cs) (fo n:Nat) {cs':List Value} (he:(cs.drop fo).take n=cs'):RdC Γ M g (off+fo) cs':=fun w hw j v hv=>by
 subst he;rw [aCz] at hv;split at hv
 ·rw [aC2] at hv;rw [aFl];exact h w hw _ _ hv
 ·cases hv
theorem Holds.new {b:Nat} {cs:List Value} {T:TypeId} (hw:Holds w0 S0 M w) (hb:b=w.heap.size):Holds w0 S0 (blk b cs T::M) (w.alloc (.cells cs.toArray T (0,0))):=by
 subst hb;have hlt:∀ k,k∈fps M→k < w.heap.size:=fun k hk=>(hw.rng k hk).2;refine ⟨hw.os,hw.tape,hw.output,by rw [World.size_alloc];have:=hw.size;omega,fun k hk hs=>?_,fun x hx=>?_,?_,fun k hk=>?_⟩
 ·rw [heap_alloc_old _ _ (aC6 hk hw.size)];exact hw.old k hk hs
 ·rcases aAf.1 hx with rfl | hx
  ·exact heap_alloc_new w _
  ·exact x.st w _ (fun k hk=>heap_alloc_old _ _ (hlt k (aBq.2 ⟨x,hx,hk⟩))) (hw.prs x hx)
 ·rw [BZ];refine aBo.2 ⟨by simp [blk],hw.nodup,fun a ha b hb e=>?_⟩;simp [blk] at ha;subst ha;subst e;have:=hlt _ hb;omega
 ·rw [BZ] at hk;rw [World.size_alloc];rcases aB0.1 hk with hk | hk
  ·simp [blk] at hk;subst hk;exact ⟨.inr hw.size,by omega⟩
  ·exact ⟨(hw.rng k hk).1,by have:=hlt k hk;omega⟩
theorem pI {op:Op} {cs:List Value} {T:TypeId} (hn:Nat.blt d Γ.n=true)
  (he:∀ a w,Env a Γ.n l→(execOp a.eval ⟨some d,op,ty,pos,af,none⟩).run Γ.P w=.ok (.value (.pointer (some ⟨w.heap.size,0,none⟩))) (w.alloc (.cells cs.toArray T (0,0))))
  (hk:∀ b,L Γ rest ((d,.pointer (some ⟨b,0,none⟩))::l) (blk b cs T::M) K):L Γ (⟨some d,op,ty,pos,af,none⟩::rest) l M K :=
 Md (fun v M'=>∃ b,v=.pointer (some ⟨b,0,none⟩)∧M'=blk b cs T::M) rfl rfl (aAc hn)
  (fun a w ha hw=>⟨_,_,_,⟨w.heap.size,rfl,rfl⟩,he a w ha,hw.new rfl⟩) (fun v M' ⟨b,h1,h2⟩=>by subst h1;subst h2;exact hk b)
theorem TY {x:Operand} {T:TypeId} {v:Value} (hn:Nat.blt d Γ.n=true) (hx:ev l x=some v)
  (hk:∀ b,L Γ rest ((d,.pointer (some ⟨b,0,none⟩))::l) (blk b v.cells.toList T::M) K):L Γ (⟨some d,.box T x,ty,pos,af,none⟩::rest) l M K :=
 pI hn (fun a w ha=>by simp [execOp,ha.eval hx,Instr.box,newVar,newRow]) hk
theorem Er {T:TypeId} {z:List Value} (hn:Nat.blt d Γ.n=true) (hz:OY Γ.P T=some z)
  (hk:∀ b,L Γ rest ((d,.pointer (some ⟨b,0,none⟩))::l) (blk b z T::M) K):L Γ (⟨some d,.alloc T,ty,pos,af,none⟩::rest) l M K :=
 pI hn (fun a w ha=>by
  unfold OY at hz;split at hz<;>(try cases hz);rename_i i hi;split at hz<;>cases hz;rename_i z' hz';simp [execOp,Instr.alloc,zeroValue,typeInfo,hi,hz',newVar,newRow]) hk
theorem IB {b:Nat} {cs cs':List Value} {T:TypeId} {M':List HP} (hw:Holds w0 S0 (blk b cs T::M') w):Holds w0 S0 (blk b cs' T::M') (w.setRow b cs'.toArray):=by
 have hp:w.heap[b]?=some (.cells cs.toArray T (0,0)):=hw.prs (blk b cs T) (by simp);have hnd:=hw.nodup;rw [BZ] at hnd;obtain ⟨_,a0,hdis⟩:=aBo.1 hnd;have hb:b∈S0∨w0.heap.size≤b:=(hw.rng b (by simp [fps,blk])).1;refine ⟨hw.os,hw.tape,hw.output,by simpa using hw.size,fun k hk hs=>?_,fun x hx=>?_,?_,fun k hk=>?_⟩
 ·rw [setRow_other w b k _ (fun e=>by subst e;rcases hb with h | h;exact hs h;omega)];exact hw.old k hk hs
 ·rcases aAf.1 hx with rfl | hx
  ·exact setRow_heap w b cs.toArray _ T _ hp
  ·exact x.st w _ (fun k hk=>setRow_other w b k _ (fun e=>hdis b (by simp [blk]) k (aBq.2 ⟨x,hx,hk⟩) e.symm)) (hw.prs x (aA4 _ hx))
 ·exact hw.nodup
 ·rw [size_setRow];exact hw.rng k hk
theorem Ga {P:Program} {b fo:Nat} {cs vs:List Value} {T ty:TypeId} (hp:w.heap[b]?=some (.cells cs.toArray T (0,0))) (hfit:fo+vs.length≤cs.length) (h1:∀ v,v∈vs→v.oneCell'=true) :
  (storeCells ⟨b,fo,none⟩ vs).run P w=.ok () (w.setRow b (cs.take fo++vs++cs.drop (fo+vs.length)).toArray):=by
 have:=run_storeCells_at P b fo T vs 0 cs.toArray w hp (by simpa using hfit) h1;simpa using this
theorem dH {x y:Operand} {T b fo:Nat} {T':TypeId} {cs:List Value} {v:Value} {M':List HP} (hx:ev l x=some (.pointer (some ⟨b,0+fo,none⟩))) (hy:ev l y=some v) (hp:Pick (blk b cs T') M M')
  (ht:Ie Γ.P T=true) (h1:v.oneCell'=true) (hlt:Nat.blt fo cs.length=true) (hk:L Γ rest l (blk b (cs.set fo v) T'::M') K) :
  L Γ (⟨none,.store T x y,ty,pos,af,none⟩::rest) l M K :=
 Th rfl rfl (fun a w ha hw=>by
  have hw':=hw.perm hp.perm;have hh:w.heap[b]?=some (.cells cs.toArray T' (0,0)):=hw'.prs (blk b cs T') (by simp);have hlt:=aAc hlt;have hc:v.cells=#[v]:=by cases v<;>first | rfl | cases h1
  have hs:=Ga (P:=Γ.P) (fo:=fo) (vs:=[v]) (ty:=T) hh (by simpa using hlt) (by simpa using h1);refine ⟨_,?_,IB (cs':=cs.set fo v) hw'⟩;rw [aBk] at hx;have e:(cs.take fo++[v]++cs.drop (fo+[v].length))=cs.set fo v:=by
   rw [aCo,if_pos (show fo < cs.length from hlt)];simp
  rw [e] at hs;simp [execOp,ha.eval hx,ha.eval hy,Instr.storeAt,Instr.sureAddr,storeVar,Fx ht,hc,hs]) hk
theorem YZ {x y:Operand} {T b:Nat} {T':TypeId} {u v:Value} {M':List HP} (hx:ev l x=some (.pointer (some ⟨b,0,none⟩))) (hy:ev l y=some v) (hp:Pick (blk b [u] T') M M')
  (ht:Ie Γ.P T=true) (h1:v.oneCell'=true) (hk:L Γ rest l (blk b [v] T'::M') K) :
  L Γ (⟨none,.store T x y,ty,pos,af,none⟩::rest) l M K :=
 dH (fo:=0) hx hy hp ht h1 rfl hk
theorem Za {x y:Operand} {T b:Nat} {T':TypeId} {cs cs':List Value} {M':List HP} (hx:ev l x=some (.pointer (some ⟨b,0,none⟩))) (hy:ev l y=some (.agg cs'.toArray)) (hp:Pick (blk b cs T') M M')
  (ht:Jp Γ.P T=some cs'.length) (hl:cs'.length=cs.length) (h1:∀ v,v∈cs'→v.oneCell'=true) (hk:L Γ rest l (blk b cs' T'::M') K) :
  L Γ (⟨none,.store T x y,ty,pos,af,none⟩::rest) l M K :=
 Th rfl rfl (fun a w ha hw=>by
  have hw':=hw.perm hp.perm;have hh:w.heap[b]?=some (.cells cs.toArray T' (0,0)):=hw'.prs (blk b cs T') (by simp);have hs:=Ga (P:=Γ.P) (fo:=0) (vs:=cs') (ty:=T) hh om h1;refine ⟨_,?_,IB (cs':=cs') hw'⟩;have e:(cs.take 0++cs'++cs.drop (0+cs'.length))=cs':=by simp [hl]
  rw [e] at hs;simp [execOp,ha.eval hx,ha.eval hy,Instr.storeAt,Instr.sureAddr,storeVar,Ey ht,Value.cells,hs]) hk
end Go.Proofs.SL
