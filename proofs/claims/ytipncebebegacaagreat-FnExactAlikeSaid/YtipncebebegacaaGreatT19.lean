/- The texts of the proof, part 19: the base, walks of functions, plain Lean. -/
import Derived.Test.YtipncebebegacaaGreatT18
import Derived.Test.YtipncebebegacaaGreatT13
import Derived.Test.YtipncebebegacaaGreatT5
import Derived.Test.YtipncebebegacaaGreatT6
namespace Go.Proofs.SL
open Go
theorem l1In_eq (x a b:Int):s_l1In x a b=some (decide (a≤x∧x≤b)):=by
 unfold s_l1In;rw [Bool.decide_and]
theorem within_eq (x a b:Int):i_within x a b=some (decide (a≤x∧x≤b)):=by
 unfold i_within;rw [Bool.decide_and]
theorem firstI_some {α:Type} {p:α→Bool} {xs:List α} {k:Nat} (h:xs.findIdx? p=some k):firstI p xs=(k:Int):=by unfold firstI;rw [h]
theorem firstI_none {α:Type} {p:α→Bool} {xs:List α} (h:xs.findIdx? p=none):firstI p xs=-1:=by unfold firstI;rw [h]
theorem gbs {α β:Type} [Inhabited α] (g:Bool) (a:α) (k:α→Option β):gb g (some a) k=if g then k a else k default:=by cases g<;>rfl
theorem prev_idx' {δ:Type} {l:List δ} {k:Nat} (hk:k < l.length) (hl:l.length≤9223372036854775807) (h0:0 < k):∃ r,l[k - 1]?=some r∧idx l (IntKind.wrap .i64 ((k:Int) - 1))=some r:=by
 refine ⟨l[k - 1],List.getElem?_eq_getElem (by omega),?_⟩
 rw [wrap64_in (by unfold inR;omega),show ((k:Int) - 1)=((k - 1:Nat):Int) by omega,idx_nat]
 exact List.getElem?_eq_getElem (by omega)
theorem gb_none {α β:Type} [Inhabited α] (g:Bool) (o:Option α) (k:α→Option β) (h:g=false):gb g o k=k default:=by subst h;rfl
theorem sidx_lt {s:ByteArray} {k:Nat} (h:k < s.size):∃ n,sidx s (k:Int)=some n∧0≤n∧n < 256:=by
 refine ⟨((s[k]'h).toNat:Int),?_,by omega,by have:=(s[k]'h).toNat_lt;omega⟩
 unfold sidx
 rw [dif_pos ⟨by omega,by simpa using h⟩]
 simp
theorem each_loop {β γ:Type} {l:List γ} {p:γ→Bool} {no yes:Option β} {f:Int→Option (Int ⊕ β)} (hl:l.length≤9223372036854775807)
  (hf:∀ (k:Nat) (x:γ),l[k]?=some x→f (k:Int)=if p x then some (.inl (IntKind.wrap .i64 ((k:Int)+1))) else no.map .inr) (hn:f (l.length:Int)=yes.map .inr) :
  whileP f 0=if l.all p then yes else no:=by
 rw [whileP_all (n:=l.length) (fun k=>(l[k]?).all p) no yes ?_ hn,all_range_get]
 intro k hk
 rw [hf k l[k] (List.getElem?_eq_getElem hk),List.getElem?_eq_getElem hk,wrap_succ (by omega)]
 rfl
theorem bds_mem {τ δ:Type} [GT τ δ] [Bk τ] [Bd τ] {l:List δ} {x:δ} (h:x∈l):Bd.bd (τ:=τ) x≤bds τ l:=by
 induction l with
 | nil=>cases h
 | cons y ys ih =>
  rcases List.mem_cons.1 h with rfl | h
  ·simp only [bds];omega
  ·have:=ih h;simp only [bds];omega
end Go.Proofs.SL
namespace Go.Proofs.SL
open Go
theorem pairwise_of_step {α:Type} {R:α→α→Prop} (tr:∀ a b c,R a b→R b c→R a c):∀ (l:List α),(∀ k (h:k+1 < l.length),R l[k] l[k+1])→l.Pairwise R
 | [],_=>List.Pairwise.nil
 | [a],_=>List.pairwise_singleton _ _
 | a::b::l,h=>by
  have ih:=pairwise_of_step tr (b::l) (fun k hk=>h (k+1) (by simp at hk ⊢;omega))
  refine List.pairwise_cons.2 ⟨fun x hx=>?_,ih⟩
  have h0:R a b:=h 0 (by simp)
  rcases List.mem_cons.1 hx with rfl | hx
  ·exact h0
  ·exact tr _ _ _ h0 (List.rel_of_pairwise_cons ih hx)
end Go.Proofs.SL
namespace Go.Proofs.SL
open Go
theorem isRep_eq (x:Int):i_isRep x=some (decide (0≤x∧x < 3)):=by
 unfold i_isRep
 rw [within_eq,show decide (0≤x∧x≤2)=decide (0≤x∧x < 3) by rw [Bool.eq_iff_iff];simp;omega];rfl
theorem l9Node_eq (x:Int):s_l9Node x=some (decide (0≤x∧x < 3)):=by unfold s_l9Node;rw [Bool.decide_and]
def nodeOk (ns:List Int) (k:Nat):Bool:=match ns[k]? with
 | none=>false
 | some n=>decide (0≤n∧n < 3)&&(decide (k=0)||(ns[k - 1]?).all fun r=>decide (r < n))
def nodesOk (ns:List Int):Bool:=(List.range ns.length).all (nodeOk ns)
theorem firstI_any {α:Type} (p:α→Bool) (l:List α):decide (0≤firstI p l)=l.any p:=by
 rcases firstI_find p l with ⟨h1,h2⟩ | ⟨k,x,h1,h2,h3,_⟩
 ·rw [h1]
  cases h:l.any p with
  | false=>rfl
  | true =>
   obtain ⟨x,hx,hp⟩:=List.any_eq_true.1 h
   exact absurd hp (List.find?_eq_none.1 h2 x hx)
 ·rw [h1,show decide (0≤(k:Int))=true by simp]
  symm
  exact List.any_eq_true.2 ⟨x,List.mem_of_getElem? h2,List.find?_some h3⟩
theorem foldl_filter' {β:Type} (p:β→Bool):∀ (xs acc:List β),xs.foldl (fun t x=>if p x then t++[x] else t) acc=acc++xs.filter p
 | [],acc=>by simp
 | x::xs,acc=>by
  rw [List.foldl_cons]
  cases hp:p x with
  | true=>simp only [if_true];rw [foldl_filter' p xs];simp [hp]
  | false=>simp only [Bool.false_eq_true,if_false];rw [foldl_filter' p xs];simp [hp]
theorem nodesOk_facts {ns:List Int} (h:nodesOk ns=true):(∀ n,n∈ns→0≤n∧n < 3)∧ns.Pairwise (· < ·):=by
 unfold nodesOk at h
 simp only [List.all_eq_true,List.mem_range] at h
 have h1:∀ n,n∈ns→0≤n∧n < 3:=fun n hn=>by
  obtain ⟨k,hk⟩:=List.getElem?_of_mem hn
  have:=h k (List.getElem?_eq_some_iff.1 hk).1
  unfold nodeOk at this
  rw [hk] at this
  simp only [Bool.and_eq_true,decide_eq_true_eq] at this
  exact this.1
 refine ⟨h1,pairwise_of_step (R:=(· < ·)) (fun a b c=>Int.lt_trans) ns fun k hk=>?_⟩
 have:=h (k+1) hk
 unfold nodeOk at this
 rw [List.getElem?_eq_getElem hk] at this
 simp only [Bool.and_eq_true,decide_eq_true_eq,Bool.or_eq_true,Nat.add_sub_cancel,List.getElem?_eq_getElem (show k < ns.length by omega),Option.all_some] at this
 rcases this.2 with h2 | h2
 ·omega
 ·exact h2
theorem sorted_le:∀ {l:List Int} {a b:Int},l.Pairwise (· < ·)→(∀ n,n∈l→a≤n∧n < b)→(l.length:Int)≤max 0 (b - a)
 | [],a,b,_,_=>by simp;omega
 | x::l,a,b,h1,h2=>by
  obtain ⟨h3,h4⟩:=List.pairwise_cons.1 h1
  have hx:=h2 x (List.mem_cons_self ..)
  have:=sorted_le (a:=x+1) (b:=b) h4 (fun n hn=>⟨by have:=h3 n hn;omega,(h2 n (List.mem_cons_of_mem _ hn)).2⟩)
  simp only [List.length_cons]
  omega
theorem nodes_le {l:List Int} (h1:∀ n,n∈l→0≤n∧n < 3) (h2:l.Pairwise (· < ·)):l.length≤3:=by
 have:=sorted_le h2 h1
 omega
end Go.Proofs.SL
namespace Go.Proofs.SL
open Go
def letter (s:ByteArray) (k:Nat):Bool:=match sidx s (k:Int) with
 | some n=>!(decide (n < 97)||decide (122 < n))
 | none=>false
def isWordB (s:ByteArray):Bool:=decide (1≤(s.size:Int)∧(s.size:Int)≤8)&&(List.range s.size).all (letter s)
theorem word_loop {β:Type} {s:ByteArray} {no yes:Option β} {f:Int→Option (Int ⊕ β)} (hl:s.size≤9223372036854775807)
  (hf:∀ (k:Nat) (n:Int),k < s.size→sidx s (k:Int)=some n→f (k:Int)=if !(decide (n < 97)||decide (122 < n)) then some (.inl (IntKind.wrap .i64 ((k:Int)+1))) else no.map .inr) (hn:f (s.size:Int)=yes.map .inr) :
  whileP f 0=if (List.range s.size).all (letter s) then yes else no:=by
 refine whileP_all (letter s) no yes (fun k hk=>?_) hn
 obtain ⟨n,hs,_,_⟩:=sidx_lt hk
 rw [hf k n hk hs,wrap_succ (by omega)]
 unfold letter
 rw [hs]
theorem s_l4Word_eq {s:ByteArray} (hl:s.size≤9223372036854775807):s_l4Word s=some (isWordB s):=by
 unfold s_l4Word isWordB
 rw [l1In_eq]
 cases h:decide (1≤(s.size:Int)∧(s.size:Int)≤8) with
 | false=>rfl
 | true =>
  simp only [Option.bind_some,Bool.not_true,cond_false,Bool.true_and]
  rw [word_loop (no:=some false) (yes:=some true) hl]
  ·cases (List.range s.size).all (letter s)<;>rfl
  ·intro k n hk hs
   simp only [lt_dec hk,cond_true,hs,Option.bind_some]
   rw [show ∀ (g:Bool) (q:Int→Option (Int ⊕ Bool)),gb g (some n) q=if g then q n else q default from fun g q=>by cases g<;>rfl]
   cases decide (n < 97)<;>cases decide (122 < n)<;>rfl
  ·simp only [ge_dec];rfl
theorem i_isWord_eq {s:ByteArray} (hl:s.size≤9223372036854775807):i_isWord s=some (isWordB s):=by
 unfold i_isWord isWordB
 simp only [within_eq,Option.bind_some]
 rw [word_loop (no:=some false) (yes:=some (decide (1≤(s.size:Int)∧(s.size:Int)≤8))) hl]
 ·cases (List.range s.size).all (letter s)<;>simp
 ·intro k n hk hs
  simp only [lt_dec hk,cond_true,hs,Option.bind_some]
  rw [show ∀ (g:Bool) (q:Int→Option (Int ⊕ Bool)),gb g (some n) q=if g then q n else q default from fun g q=>by cases g<;>rfl]
  cases decide (n < 97)<;>cases decide (122 < n)<;>rfl
 ·simp only [ge_dec];rfl
def wordIfB (s:ByteArray) (is:Bool):Bool:=if is then isWordB s else decide (s=ByteArray.empty)
theorem s_l4May_eq {s:ByteArray} {b:Bool} (hl:s.size≤9223372036854775807):s_l4May s b=some (wordIfB s b):=by
 unfold s_l4May wordIfB
 rw [s_l4Word_eq hl]
 cases b<;>rfl
theorem i_wordIf_eq {s:ByteArray} {b:Bool} (hl:s.size≤9223372036854775807):i_wordIf s b=some (wordIfB s b):=by
 unfold i_wordIf wordIfB
 rw [i_isWord_eq hl]
 cases b<;>rfl
def areChunksB (l:List ByteArray):Bool:=l.all fun c=>decide ((c.size:Int)=8)
theorem i_areChunks_eq {l:List ByteArray} (hl:l.length≤9223372036854775807):i_areChunks l=some (areChunksB l):=by
 unfold i_areChunks areChunksB
 rw [each_loop (p:=fun c=>decide ((c.size:Int)=8)) (no:=some false) (yes:=some true) hl]
 ·cases l.all _<;>rfl
 ·intro k x hx
  simp only [lt_dec (List.getElem?_eq_some_iff.1 hx).1,cond_true,idx_nat,hx,Option.bind_some]
  cases decide ((x.size:Int)=8)<;>rfl
 ·simp only [ge_dec];rfl
theorem s_l4Texts_eq {a b:List ByteArray} (hl:a.length≤9223372036854775807):s_l4Texts a b=some (decide (a=b)):=by
 unfold s_l4Texts
 by_cases h:a.length=b.length
 ·rw [show decide ((a.length:Int)=(b.length:Int))=true by simp;omega]
  simp only [Bool.not_true,cond_false]
  rw [whileP_all (n:=a.length) (fun k=>decide (a[k]?=b[k]?)) (some false) (some true)]
  ·by_cases e:a=b
   ·subst e;simp
   ·rw [decide_eq_false e]
    have:(List.range a.length).all (fun k=>decide (a[k]?=b[k]?))=false:=by
     rw [Bool.eq_false_iff]
     intro hh
     refine e (List.ext_getElem? fun i=>?_)
     by_cases hi:i < a.length
     ·simpa using List.all_eq_true.1 hh i (List.mem_range.2 hi)
     ·rw [List.getElem?_eq_none (by omega),List.getElem?_eq_none (by omega)]
    rw [this];rfl
  ·intro k hk
   have h1:a[k]?=some a[k]:=List.getElem?_eq_getElem hk
   have h2:b[k]?=some (b[k]'(by omega)):=List.getElem?_eq_getElem (by omega)
   simp only [lt_dec hk,cond_true,idx_nat,h1,h2,Option.bind_some,wrap_succ (show k < 9223372036854775807 by omega),Option.some.injEq]
   cases decide (a[k]=b[k]'(by omega))<;>rfl
  ·simp only [ge_dec];rfl
 ·rw [show decide ((a.length:Int)=(b.length:Int))=false by simp;omega,decide_eq_false (fun e=>h (by rw [e]))];rfl
theorem s_SameCmd_eq {a b:D_Cmd} (ho:Ok.ok a):s_SameCmd a b=some (pB (a=b)):=by
 obtain ⟨a1,a2,a3,a4,a5,a6,a7,a8⟩:=a
 obtain ⟨b1,b2,b3,b4,b5,b6,b7,b8⟩:=b
 have hl:a8.length≤9223372036854775807:=ho.2.2.2.2.2.2.2.1
 unfold s_SameCmd
 rw [s_l4Texts_eq hl,gb_some (fun h=>by rw [h];simp)]
 congr 1
 rw [Bool.eq_iff_iff,pB_iff]
 simp [and_assoc]
theorem i_SameCmd_eq {a b:D_Cmd} (ho:Ok.ok a):i_SameCmd a b=some (pB (a=b)):=s_SameCmd_eq ho
def noCmd:D_Cmd:=(0,0,0,ByteArray.empty,ByteArray.empty,ByteArray.empty,0,[])
noncomputable def cmdOkB (c:D_Cmd):Bool :=
 if c.1=0 then pB (c=noCmd) else
  decide (1≤c.1∧c.1≤7)&&decide (1≤c.2.1∧c.2.1≤9)&&decide (1≤c.2.2.1∧c.2.2.1≤1000)&&wordIfB c.2.2.2.1 (!decide (c.1=7))&&wordIfB c.2.2.2.2.1 (decide (c.1=3)||decide (c.1=4))&&wordIfB c.2.2.2.2.2.1 (decide (c.1=4)) &&
  (decide (c.2.2.2.2.2.2.1=0)||(decide (c.1=5)&&decide (0≤c.2.2.2.2.2.2.1∧c.2.2.2.2.2.2.1≤9)))&&(if c.1=3 then decide (1≤(c.2.2.2.2.2.2.2.length:Int)∧(c.2.2.2.2.2.2.2.length:Int)≤4)&&areChunksB c.2.2.2.2.2.2.2 else decide ((c.2.2.2.2.2.2.2.length:Int)=0))
set_option maxHeartbeats 1000000 in
theorem i_CmdOk_eq {c:D_Cmd} (ho:Ok.ok c):i_CmdOk c=some (cmdOkB c):=by
 have hl:c.2.2.2.2.2.2.2.length≤9223372036854775807:=ho.2.2.2.2.2.2.2.1
 have h4:c.2.2.2.1.size≤9223372036854775807:=ho.2.2.2.1
 have h5:c.2.2.2.2.1.size≤9223372036854775807:=ho.2.2.2.2.1
 have h6:c.2.2.2.2.2.1.size≤9223372036854775807:=ho.2.2.2.2.2.1
 unfold i_CmdOk cmdOkB
 simp only [i_SameCmd_eq ho,within_eq,i_wordIf_eq h4,i_wordIf_eq h5,i_wordIf_eq h6,i_areChunks_eq hl,Option.bind_some,gbs]
 by_cases h0:c.1=0
 ·rw [if_pos h0,decide_eq_true h0];rfl
 ·rw [if_neg h0,decide_eq_false h0]
  generalize wordIfB c.2.2.2.1 _=W1
  generalize wordIfB c.2.2.2.2.1 _=W2
  generalize wordIfB c.2.2.2.2.2.1 _=W3
  generalize areChunksB c.2.2.2.2.2.2.2=W4
  by_cases h5:c.1=5
  ·simp only [h5]
   cases decide (1≤c.2.1∧c.2.1≤9)<;>cases decide (1≤c.2.2.1∧c.2.2.1≤1000)<;>cases W1<;>cases W2<;>cases W3<;>cases decide (c.2.2.2.2.2.2.1=0)<;>cases decide (0≤c.2.2.2.2.2.2.1∧c.2.2.2.2.2.2.1≤9)<;>simp
  ·by_cases h3:c.1=3
   ·simp only [h3]
    cases decide (1≤c.2.1∧c.2.1≤9)<;>cases decide (1≤c.2.2.1∧c.2.2.1≤1000)<;>cases W1<;>cases W2<;>cases W3<;>cases decide (c.2.2.2.2.2.2.1=0)<;>cases decide (1≤(c.2.2.2.2.2.2.2.length:Int)∧(c.2.2.2.2.2.2.2.length:Int)≤4)<;>simp
   ·rw [decide_eq_false h5,decide_eq_false h3,if_neg h3]
    cases decide (1≤c.1∧c.1≤7)<;>cases decide (1≤c.2.1∧c.2.1≤9)<;>cases decide (1≤c.2.2.1∧c.2.2.1≤1000)<;>cases W1<;>cases W2<;>cases W3<;>cases decide (c.2.2.2.2.2.2.1=0)<;>simp
set_option maxHeartbeats 1000000 in
theorem s_CmdOk_eq {c:D_Cmd} (ho:Ok.ok c):s_CmdOk c=some (cmdOkB c):=by
 have hl:c.2.2.2.2.2.2.2.length≤9223372036854775807:=ho.2.2.2.2.2.2.2.1
 have h4:c.2.2.2.1.size≤9223372036854775807:=ho.2.2.2.1
 have h5:c.2.2.2.2.1.size≤9223372036854775807:=ho.2.2.2.2.1
 have h6:c.2.2.2.2.2.1.size≤9223372036854775807:=ho.2.2.2.2.2.1
 unfold s_CmdOk cmdOkB
 simp only [s_SameCmd_eq ho,l1In_eq,s_l4May_eq h4,s_l4May_eq h5,s_l4May_eq h6,Option.bind_some,gbs]
 rw [each_loop (p:=fun c=>decide ((c.size:Int)=8)) (no:=some false) (yes:=some true) hl]
 rotate_left
 ·intro k x hx
  simp only [lt_dec (List.getElem?_eq_some_iff.1 hx).1,cond_true,idx_nat,hx,Option.bind_some]
  cases decide ((x.size:Int)=8)<;>rfl
 ·simp only [ge_dec];rfl
 by_cases h0:c.1=0
 ·rw [if_pos h0,decide_eq_true h0,decide_eq_true (show 0≤c.1∧c.1≤7 by omega)];rfl
 ·rw [if_neg h0,decide_eq_false h0]
  have e7:decide (0≤c.1∧c.1≤7)=decide (1≤c.1∧c.1≤7):=by rw [Bool.eq_iff_iff];simp;omega
  rw [e7]
  show _=some (_&&(if c.1=3 then _&&c.2.2.2.2.2.2.2.all (fun c=>decide ((c.size:Int)=8)) else _))
  generalize wordIfB c.2.2.2.1 _=W1
  generalize wordIfB c.2.2.2.2.1 _=W2
  generalize wordIfB c.2.2.2.2.2.1 _=W3
  generalize c.2.2.2.2.2.2.2.all _=W4
  by_cases h5:c.1=5
  ·simp only [h5]
   cases decide (1≤c.2.1∧c.2.1≤9)<;>cases decide (1≤c.2.2.1∧c.2.2.1≤1000)<;>cases W1<;>cases W2<;>cases W3<;>cases decide (c.2.2.2.2.2.2.1=0)<;>cases decide (0≤c.2.2.2.2.2.2.1∧c.2.2.2.2.2.2.1≤9)<;>simp
  ·by_cases h3:c.1=3
   ·simp only [h3]
    cases decide (1≤c.2.1∧c.2.1≤9)<;>cases decide (1≤c.2.2.1∧c.2.2.1≤1000)<;>cases W1<;>cases W2<;>cases W3<;>cases decide (c.2.2.2.2.2.2.1=0)<;>cases decide (1≤(c.2.2.2.2.2.2.2.length:Int)∧(c.2.2.2.2.2.2.2.length:Int)≤4)<;>cases W4<;>simp
   ·rw [decide_eq_false h5,decide_eq_false h3,if_neg h3]
    cases decide (1≤c.1∧c.1≤7)<;>cases decide (1≤c.2.1∧c.2.1≤9)<;>cases decide (1≤c.2.2.1∧c.2.2.1≤1000)<;>cases W1<;>cases W2<;>cases W3<;>cases decide (c.2.2.2.2.2.2.1=0)<;>simp
end Go.Proofs.SL
namespace Go.Proofs.SL
open Go
def idOkB (x:D_Id):Bool:=decide (0≤x.1∧x.1≤2)&&decide (1≤x.2∧x.2≤6)
theorem s_l8Id_eq (x:D_Id):s_l8Id x=some (idOkB x):=by
 unfold s_l8Id idOkB
 simp only [l1In_eq,Option.bind_some,gbs]
 cases decide (0≤x.1∧x.1≤2)<;>cases decide (1≤x.2∧x.2≤6)<;>rfl
theorem i_idOk_eq (x:D_Id):i_idOk x=some (idOkB x):=by
 unfold i_idOk idOkB
 simp only [within_eq,Option.bind_some,gbs]
 cases decide (0≤x.1∧x.1≤2)<;>cases decide (1≤x.2∧x.2≤6)<;>rfl
def idLt (a b:D_Id):Bool:=decide (a.1 < b.1)||(decide (a.1=b.1)&&decide (a.2 < b.2))
theorem s_l8Less_eq (a b:D_Id):s_l8Less a b=some (idLt a b):=rfl
theorem compareIds_eq (a b:D_Id):∃ c,i_compareIds a b=some c∧decide (0≤c)=!idLt a b:=by
 unfold i_compareIds idLt
 cases h:decide (a.1 < b.1)||(decide (a.1=b.1)&&decide (a.2 < b.2)) with
 | true=>exact ⟨-1,rfl,rfl⟩
 | false =>
  cases h2:decide (a.1=b.1)&&(decide (a.2=b.2)&&true) with
  | true=>exact ⟨0,rfl,rfl⟩
  | false=>exact ⟨1,rfl,rfl⟩
def idEq (a b:D_Id):Bool:=decide (a.1=b.1)&&(decide (a.2=b.2)&&true)
theorem idEq_comm (a b:D_Id):idEq a b=idEq b a:=by unfold idEq;rw [Bool.eq_iff_iff];simp only [Bool.and_eq_true,decide_eq_true_eq,and_true];constructor<;>(rintro ⟨h1,h2⟩;exact ⟨h1.symm,h2.symm⟩)
def idAt (l:List D_Id) (k:Nat):Bool:=match l[k]? with
 | none=>false
 | some x=>idOkB x&&(decide (k=0)||(l[k - 1]?).all fun r=>idLt r x)
def idsOkB (l:List D_Id):Bool:=(List.range l.length).all (idAt l)
theorem s_IdsOk_eq {l:List D_Id} (hl:l.length≤9223372036854775807):s_IdsOk l=some (idsOkB l):=by
 unfold s_IdsOk idsOkB
 rw [whileP_all (n:=l.length) (idAt l) (some false) (some true)]
 ·cases (List.range l.length).all (idAt l)<;>rfl
 ·intro k hk
  have hx:l[k]?=some l[k]:=List.getElem?_eq_getElem hk
  generalize l[k]=x at hx
  simp only [lt_dec hk,cond_true,idx_nat,hx,Option.bind_some,Prod.eta,s_l8Id_eq,s_l8Less_eq,wrap_succ (show k < 9223372036854775807 by omega)]
  unfold idAt
  simp only [hx]
  rcases Nat.eq_zero_or_pos k with h0 | h0
  ·subst h0
   rw [gb_none _ _ _ (by simp)]
   cases idOkB x<;>simp [gb]
  ·obtain ⟨r,hr1,hr2⟩:=prev_idx' hk hl h0
   have h5:decide (0 < (k:Int))=true:=by simp;omega
   have h6:decide (k=0)=false:=by simp;omega
   rw [hr1,hr2,h5,h6,gbs]
   simp only [Option.all_some]
   by_cases h7:idLt r x=true<;>cases idOkB x<;>simp [gb,h7]
 ·simp only [ge_dec];rfl
theorem i_IdsOk_eq {l:List D_Id} (hl:l.length≤9223372036854775807):i_IdsOk l=some (idsOkB l):=by
 unfold i_IdsOk idsOkB
 rw [whileP_all (n:=l.length) (idAt l) (some false) (some true)]
 ·cases (List.range l.length).all (idAt l)<;>rfl
 ·intro k hk
  have hx:l[k]?=some l[k]:=List.getElem?_eq_getElem hk
  generalize l[k]=x at hx
  simp only [lt_dec hk,cond_true,idx_nat,hx,Option.bind_some,Prod.eta,i_idOk_eq,wrap_succ (show k < 9223372036854775807 by omega)]
  unfold idAt
  simp only [hx]
  rcases Nat.eq_zero_or_pos k with h0 | h0
  ·subst h0
   rw [gb_none _ _ _ (by simp),gb_none _ _ _ (by simp)]
   cases idOkB x<;>simp
  ·obtain ⟨r,hr1,hr2⟩:=prev_idx' hk hl h0
   have h5:decide (0 < (k:Int))=true:=by simp;omega
   have h6:decide (k=0)=false:=by simp;omega
   obtain ⟨c,hc1,hc2⟩:=compareIds_eq r x
   rw [hr1,hr2,h5,h6,gbs]
   simp only [Option.all_some,hc1]
   by_cases h7:idLt r x=true<;>cases idOkB x<;>simp [gb,h7,hc2]
 ·simp only [ge_dec];rfl
theorem s_l8Has_eq {l:List D_Id} {x:D_Id} (h:l.length≤9223372036854775807):s_l8Has l x=some (l.any fun y=>idEq y x):=by
 unfold s_l8Has
 rw [whileP_find (fun y=>idEq y x) (fun i=>some (decide (0≤i))) h,firstI_any]
 ·intro k y hy
  simp only [lt_dec (List.getElem?_eq_some_iff.1 hy).1,cond_true,idx_nat,hy,Option.bind_some]
  show cond (idEq y x) _ _=_
  cases idEq y x<;>simp
 ·simp only [ge_dec];rfl
theorem containsId_eq {l:List D_Id} {x:D_Id} (h:l.length≤9223372036854775807):sl_Contains_implIdimplId l x=some (l.any fun y=>idEq y x):=by
 unfold sl_Contains_implIdimplId sl_Index_implIdimplId
 rw [whileP_find (fun y=>idEq y x) some h]
 ·rw [Option.bind_some,firstI_any]
 ·intro k y hy
  simp only [lt_dec (List.getElem?_eq_some_iff.1 hy).1,cond_true,idx_nat,hy,Option.bind_some]
  show cond (idEq x y) _ _=_
  rw [idEq_comm]
  cases idEq y x<;>rfl
 ·simp only [ge_dec];rfl
noncomputable def instOkB (x:D_Inst):Bool:=idOkB x.1&&decide (-1≤x.2.1∧x.2.1≤600)&&decide (-1≤x.2.2.1∧x.2.2.1≤x.2.1)&&decide (0≤x.2.2.2.1∧x.2.2.2.1≤3)&&cmdOkB x.2.2.2.2.1&&decide (0≤x.2.2.2.2.2.1∧x.2.2.2.2.2.1≤60)&&idsOkB x.2.2.2.2.2.2.1&&!(x.2.2.2.2.2.2.1.any fun y=>idEq y x.1) &&
 ((!decide (x.2.2.2.1=0))||(((((decide (x.2.2.1=(-1)))&&(decide (x.2.2.2.2.1.1=0)))&&(decide (x.2.2.2.2.2.1=0)))&&(decide ((x.2.2.2.2.2.2.1.length:Int)=0)))&&(!x.2.2.2.2.2.2.2)))
theorem s_l8Inst_eq {x:D_Inst} (ho:Ok.ok x):s_l8Inst x=some (instOkB x):=by
 have hc:Ok.ok x.2.2.2.2.1:=ho.2.2.2.2.1
 have hd:x.2.2.2.2.2.2.1.length≤9223372036854775807:=ho.2.2.2.2.2.2.1.1
 unfold s_l8Inst instOkB
 simp only [Prod.eta,s_l8Id_eq,l1In_eq,s_CmdOk_eq hc,s_IdsOk_eq hd,s_l8Has_eq hd,Option.bind_some]
 generalize ((!decide (x.2.2.2.1=0))||(((((decide (x.2.2.1=(-1)))&&(decide (x.2.2.2.2.1.1=0)))&&(decide (x.2.2.2.2.2.1=0)))&&(decide ((x.2.2.2.2.2.2.1.length:Int)=0)))&&(!x.2.2.2.2.2.2.2)))=b9
 generalize (x.2.2.2.2.2.2.1.any fun y=>idEq y x.1)=b8
 generalize idsOkB x.2.2.2.2.2.2.1=b7
 generalize decide (0≤x.2.2.2.2.2.1∧x.2.2.2.2.2.1≤60)=b6
 generalize cmdOkB x.2.2.2.2.1=b5
 generalize decide (0≤x.2.2.2.1∧x.2.2.2.1≤3)=b4
 generalize decide (-1≤x.2.2.1∧x.2.2.1≤x.2.1)=b3
 generalize decide (-1≤x.2.1∧x.2.1≤600)=b2
 generalize idOkB x.1=b1
 cases b1
 ·rfl
 cases b2
 ·rfl
 cases b3
 ·rfl
 cases b4
 ·rfl
 cases b5
 ·rfl
 cases b6
 ·rfl
 cases b7
 ·rfl
 cases b8<;>rfl
theorem i_instOk_eq {x:D_Inst} (ho:Ok.ok x):i_instOk x=some (instOkB x):=by
 have hc:Ok.ok x.2.2.2.2.1:=ho.2.2.2.2.1
 have hd:x.2.2.2.2.2.2.1.length≤9223372036854775807:=ho.2.2.2.2.2.2.1.1
 unfold i_instOk instOkB
 simp only [Prod.eta,i_idOk_eq,within_eq,i_CmdOk_eq hc,i_IdsOk_eq hd,containsId_eq hd,Option.bind_some]
 generalize ((!decide (x.2.2.2.1=0))||(((((decide (x.2.2.1=(-1)))&&(decide (x.2.2.2.2.1.1=0)))&&(decide (x.2.2.2.2.2.1=0)))&&(decide ((x.2.2.2.2.2.2.1.length:Int)=0)))&&(!x.2.2.2.2.2.2.2)))=b9
 generalize (x.2.2.2.2.2.2.1.any fun y=>idEq y x.1)=b8
 generalize idsOkB x.2.2.2.2.2.2.1=b7
 generalize decide (0≤x.2.2.2.2.2.1∧x.2.2.2.2.2.1≤60)=b6
 generalize cmdOkB x.2.2.2.2.1=b5
 generalize decide (0≤x.2.2.2.1∧x.2.2.2.1≤3)=b4
 generalize decide (-1≤x.2.2.1∧x.2.2.1≤x.2.1)=b3
 generalize decide (-1≤x.2.1∧x.2.1≤600)=b2
 generalize idOkB x.1=b1
 cases b1
 ·rfl
 cases b2
 ·rfl
 cases b3
 ·rfl
 cases b4
 ·rfl
 cases b5
 ·rfl
 cases b6
 ·rfl
 cases b7
 ·rfl
 cases b8<;>rfl
noncomputable def instAt (l:List D_Inst) (k:Nat):Bool:=match l[k]? with
 | none=>false
 | some x=>instOkB x&&(decide (k=0)||(l[k - 1]?).all fun r=>idLt r.1 x.1)
noncomputable def instsOkB (l:List D_Inst):Bool:=(List.range l.length).all (instAt l)
theorem s_InstsOk_eq {l:List D_Inst} (ho:Ok.ok l):s_InstsOk l=some (instsOkB l):=by
 have hl:l.length≤9223372036854775807:=ho.1
 unfold s_InstsOk instsOkB
 rw [whileP_all (n:=l.length) (instAt l) (some false) (some true)]
 ·cases (List.range l.length).all (instAt l)<;>rfl
 ·intro k hk
  have hx:l[k]?=some l[k]:=List.getElem?_eq_getElem hk
  generalize l[k]=x at hx
  have hox:Ok.ok x:=ho.2 x (List.mem_of_getElem? hx)
  simp only [lt_dec hk,cond_true,idx_nat,hx,Option.bind_some,Prod.eta,s_l8Inst_eq hox,s_l8Less_eq,wrap_succ (show k < 9223372036854775807 by omega)]
  unfold instAt
  simp only [hx]
  rcases Nat.eq_zero_or_pos k with h0 | h0
  ·subst h0
   rw [gb_none _ _ _ (by simp)]
   cases instOkB x<;>simp [gb]
  ·obtain ⟨r,hr1,hr2⟩:=prev_idx' hk hl h0
   have h5:decide (0 < (k:Int))=true:=by simp;omega
   have h6:decide (k=0)=false:=by simp;omega
   rw [hr1,hr2,h5,h6,gbs]
   simp only [Option.all_some]
   by_cases h7:idLt r.1 x.1=true<;>cases instOkB x<;>simp [gb,h7]
 ·simp only [ge_dec];rfl
theorem i_InstsOk_eq {l:List D_Inst} (ho:Ok.ok l):i_InstsOk l=some (instsOkB l):=by
 have hl:l.length≤9223372036854775807:=ho.1
 unfold i_InstsOk instsOkB
 rw [whileP_all (n:=l.length) (instAt l) (some false) (some true)]
 ·cases (List.range l.length).all (instAt l)<;>rfl
 ·intro k hk
  have hx:l[k]?=some l[k]:=List.getElem?_eq_getElem hk
  generalize l[k]=x at hx
  have hox:Ok.ok x:=ho.2 x (List.mem_of_getElem? hx)
  simp only [lt_dec hk,cond_true,idx_nat,hx,Option.bind_some,Prod.eta,i_instOk_eq hox,wrap_succ (show k < 9223372036854775807 by omega)]
  unfold instAt
  simp only [hx]
  rcases Nat.eq_zero_or_pos k with h0 | h0
  ·subst h0
   rw [gb_none _ _ _ (by simp),gb_none _ _ _ (by simp)]
   cases instOkB x<;>simp
  ·obtain ⟨r,hr1,hr2⟩:=prev_idx' hk hl h0
   have h5:decide (0 < (k:Int))=true:=by simp;omega
   have h6:decide (k=0)=false:=by simp;omega
   obtain ⟨c,hc1,hc2⟩:=compareIds_eq r.1 x.1
   rw [hr1,hr2,h5,h6,gbs]
   simp only [Option.all_some,hc1]
   by_cases h7:idLt r.1 x.1=true<;>cases instOkB x<;>simp [gb,h7,hc2]
 ·simp only [ge_dec];rfl
end Go.Proofs.SL
namespace Go.Proofs.SL
open Go
noncomputable def leadOkB (x:D_Lead):Bool:=idOkB x.1&&decide (0≤x.2.1∧x.2.1≤600)&&decide (1≤x.2.2.1∧x.2.2.1≤3)&&decide (0≤x.2.2.2.1∧x.2.2.2.1≤60)&&idsOkB x.2.2.2.2.1&&!(x.2.2.2.2.1.any fun y=>idEq y x.1)&&nodesOk x.2.2.2.2.2.1
theorem nodes_loop {α:Type} {l:List Int} {f:Int→Option (Int ⊕ α)} (no yes:Option α) (hl:l.length≤9223372036854775807)
  (hf:∀ (k:Nat) (y:Int),l[k]?=some y→f (k:Int)=gb ((!(!decide (0≤y∧y < 3)))&&(decide (0 < (k:Int)))) (idx l (IntKind.wrap .i64 ((k:Int) - 1))) (fun r=>cond ((!decide (0≤y∧y < 3))||((decide (0 < (k:Int)))&&(decide (y≤r)))) (no.map .inr) (some (.inl (IntKind.wrap .i64 ((k:Int)+1))))))
  (he:f (l.length:Int)=yes.map .inr):whileP f 0=if nodesOk l then yes else no:=by
 refine whileP_all (n:=l.length) (nodeOk l) no yes (fun k hk=>?_) he
 have hy:l[k]?=some l[k]:=List.getElem?_eq_getElem hk
 generalize l[k]=y at hy
 rw [hf k y hy]
 simp only [wrap_succ (show k < 9223372036854775807 by omega)]
 unfold nodeOk
 simp only [hy]
 rcases Nat.eq_zero_or_pos k with h0 | h0
 ·subst h0
  rw [gb_none _ _ _ (by simp)]
  cases decide (0≤y∧y < 3)<;>simp
 ·obtain ⟨r,hr1,hr2⟩:=prev_idx' hk hl h0
  have h5:decide (0 < (k:Int))=true:=by simp;omega
  have h6:decide (k=0)=false:=by simp;omega
  rw [hr1,hr2,h5,h6,gbs]
  simp only [Option.all_some]
  by_cases h7:r < y
  ·have h8:decide (y≤r)=false:=by simp;omega
   cases decide (0≤y∧y < 3)<;>simp [h7,h8]
  ·have h8:decide (y≤r)=true:=by simp;omega
   cases decide (0≤y∧y < 3)<;>simp [h7,h8]
theorem s_l9Lead_eq {x:D_Lead} (ho:Ok.ok x):s_l9Lead x=some (leadOkB x):=by
 have hd:x.2.2.2.2.1.length≤9223372036854775807:=ho.2.2.2.2.1.1
 have hf:x.2.2.2.2.2.1.length≤9223372036854775807:=ho.2.2.2.2.2.1.1
 unfold s_l9Lead leadOkB
 rw [nodes_loop (l:=x.2.2.2.2.2.1) (some false) (some true) hf]
 ·simp only [Prod.eta,s_l8Id_eq,l1In_eq,s_IdsOk_eq hd,s_l8Has_eq hd,Option.bind_some]
  have h3:nodesOk x.2.2.2.2.2.1=true→decide (3 < (x.2.2.2.2.2.1.length:Int))=false:=fun h=>by
   obtain ⟨h1,h2⟩:=nodesOk_facts h
   have:=nodes_le h1 h2
   simp;omega
  generalize decide (3 < (x.2.2.2.2.2.1.length:Int))=b8 at *
  generalize nodesOk x.2.2.2.2.2.1=b7 at *
  generalize (x.2.2.2.2.1.any fun y=>idEq y x.1)=b6
  generalize idsOkB x.2.2.2.2.1=b5
  generalize decide (0≤x.2.2.2.1∧x.2.2.2.1≤60)=b4
  generalize decide (1≤x.2.2.1∧x.2.2.1≤3)=b3
  generalize decide (0≤x.2.1∧x.2.1≤600)=b2
  generalize idOkB x.1=b1
  cases b1
  ·rfl
  cases b2
  ·rfl
  cases b3
  ·rfl
  cases b4
  ·rfl
  cases b5
  ·rfl
  cases b6
  ·cases b7
   ·cases b8<;>rfl
   ·rw [h3 rfl];rfl
  ·rfl
 ·intro k y hy
  simp only [lt_dec (List.getElem?_eq_some_iff.1 hy).1,cond_true,idx_nat,hy,Option.bind_some,l9Node_eq]
  congr 1
  funext r
  cases h:((!(!decide (0≤y∧y < 3)))&&decide (0 < (k:Int))) with
  | true=>rfl
  | false =>
   simp only [gb]
   simp only [Bool.and_eq_false_imp,Bool.not_not] at h
   cases h1:decide (0≤y∧y < 3) with
   | false=>rfl
   | true=>rw [h h1];rfl
 ·simp only [ge_dec];rfl
theorem i_areDeps_eq {l:List D_Id} {x:D_Id} (h:l.length≤9223372036854775807):i_areDeps l x=some (idsOkB l&&!(l.any fun y=>idEq y x)):=by
 unfold i_areDeps
 simp only [Prod.eta,i_IdsOk_eq h,containsId_eq h,Option.bind_some,gbs]
 cases idsOkB l<;>rfl
theorem i_leadOk_eq {x:D_Lead} (ho:Ok.ok x):i_leadOk x=some (leadOkB x):=by
 have hd:x.2.2.2.2.1.length≤9223372036854775807:=ho.2.2.2.2.1.1
 have hf:x.2.2.2.2.2.1.length≤9223372036854775807:=ho.2.2.2.2.2.1.1
 unfold i_leadOk leadOkB
 rw [nodes_loop (l:=x.2.2.2.2.2.1) (some false) (some (idOkB x.1&&decide (0≤x.2.1∧x.2.1≤600)&&decide (1≤x.2.2.1∧x.2.2.1≤3)&&decide (0≤x.2.2.2.1∧x.2.2.2.1≤60)&&(idsOkB x.2.2.2.2.1&&!(x.2.2.2.2.1.any fun y=>idEq y x.1)))) hf]
 ·cases nodesOk x.2.2.2.2.2.1 with
  | true=>simp only [if_true,Bool.and_true,Bool.and_assoc]
  | false=>simp
 ·intro k y hy
  simp only [lt_dec (List.getElem?_eq_some_iff.1 hy).1,cond_true,idx_nat,hy,Option.bind_some,isRep_eq]
 ·simp only [ge_dec,cond_false,Prod.eta,i_idOk_eq,within_eq,i_areDeps_eq hd,Option.bind_some,gbs]
  generalize (idsOkB x.2.2.2.2.1&&!(x.2.2.2.2.1.any fun y=>idEq y x.1))=b5
  generalize decide (0≤x.2.2.2.1∧x.2.2.2.1≤60)=b4
  generalize decide (1≤x.2.2.1∧x.2.2.1≤3)=b3
  generalize decide (0≤x.2.1∧x.2.1≤600)=b2
  generalize idOkB x.1=b1
  cases b1<;>cases b2<;>cases b3<;>cases b4<;>cases b5<;>rfl
theorem s_l9At_eq {d:D_ENode} {x:D_Id} (h:d.2.2.2.length≤9223372036854775807):s_l9At d x=some (firstI (fun y:D_Lead=>idEq y.1 x) d.2.2.2):=by
 unfold s_l9At
 rw [whileP_find (fun y:D_Lead=>idEq y.1 x) some h]
 ·intro k y hy
  simp only [lt_dec (List.getElem?_eq_some_iff.1 hy).1,cond_true,idx_nat,hy,Option.bind_some]
  show cond (idEq y.1 x) _ _=_
  cases idEq y.1 x<;>rfl
 ·simp only [ge_dec];rfl
theorem i_lead_eq {d:D_ENode} {x:D_Id} (h:d.2.2.2.length≤9223372036854775807):i_ENode_lead d x=some (firstI (fun y:D_Lead=>idEq y.1 x) d.2.2.2):=by
 unfold i_ENode_lead sl_IndexFunc_implLeadimplLead i_ENode_lead_c1
 rw [whileP_find (fun y:D_Lead=>idEq y.1 x) some h]
 ·rfl
 ·intro k y hy
  simp only [lt_dec (List.getElem?_eq_some_iff.1 hy).1,cond_true,idx_nat,hy,Option.bind_some]
  show cond (idEq y.1 x) _ _=_
  cases idEq y.1 x<;>rfl
 ·simp only [ge_dec];rfl
noncomputable def leadAt (l:List D_Lead) (k:Nat):Bool:=match l[k]? with
 | none=>false
 | some x=>leadOkB x&&decide (firstI (fun y:D_Lead=>idEq y.1 x.1) l=(k:Int))
noncomputable def nodeOkB (d:D_ENode):Bool:=decide (0≤d.1∧d.1 < 3)&&decide (1≤d.2.1∧d.2.1≤7)&&instsOkB d.2.2.1&&decide (d.2.2.2.length≤8)&&(d.2.2.1.all fun x=>!(decide (x.1.1=d.1)&&decide (d.2.1≤x.1.2)))&&(List.range d.2.2.2.length).all (leadAt d.2.2.2)
theorem s_ENodeOk_eq {d:D_ENode} (ho:Ok.ok d):s_ENodeOk d=some (nodeOkB d):=by
 have hi:Ok.ok d.2.2.1:=ho.2.2.1
 have hil:d.2.2.1.length≤9223372036854775807:=ho.2.2.1.1
 have hll:d.2.2.2.length≤9223372036854775807:=ho.2.2.2.1
 have hin:(whileP (fun s12:Int=>cond (decide (s12 < (d.2.2.2.length:Int))) (Option.bind (idx d.2.2.2 s12) (fun y14=>Option.bind (s_l9Lead y14) (fun y15=>gb (!(!y15)) (idx d.2.2.2 s12) (fun y16=>gb (!(!y15)) (s_l9At d y16.1) (fun y17=>cond ((!y15)||(!decide (y17=s12))) (Option.map .inr (some false)) (some (.inl (IntKind.wrap .i64 (s12+1))))))))) (Option.map .inr (some true))) 0:Option Bool)=if (List.range d.2.2.2.length).all (leadAt d.2.2.2) then some true else some false:=by
  refine whileP_all (n:=d.2.2.2.length) (leadAt d.2.2.2) (some false) (some true) ?_ ?_
  ·intro k hk
   have hx:d.2.2.2[k]?=some d.2.2.2[k]:=List.getElem?_eq_getElem hk
   generalize d.2.2.2[k]=x at hx
   have hox:Ok.ok x:=ho.2.2.2.2 x (List.mem_of_getElem? hx)
   simp only [lt_dec hk,cond_true,idx_nat,hx,Option.bind_some,s_l9Lead_eq hox,s_l9At_eq hll,wrap_succ (show k < 9223372036854775807 by omega)]
   unfold leadAt
   simp only [hx]
   cases leadOkB x with
   | false=>rfl
   | true =>
    simp only [Bool.not_true,Bool.not_false,gb,Option.bind_some,Bool.true_and,Bool.false_or]
    cases decide (firstI (fun y:D_Lead=>idEq y.1 x.1) d.2.2.2=(k:Int))<;>rfl
  ·simp only [ge_dec];rfl
 unfold s_ENodeOk nodeOkB
 simp only [Prod.eta]
 rw [hin,each_loop (l:=d.2.2.1) (p:=fun x=>!(decide (x.1.1=d.1)&&decide (d.2.1≤x.1.2))) (no:=some false) (yes:=if (List.range d.2.2.2.length).all (leadAt d.2.2.2) then some true else some false) hil]
 ·have h8:decide (8 < (d.2.2.2.length:Int))=!decide (d.2.2.2.length≤8):=by rw [Bool.eq_iff_iff];simp;omega
  simp only [l9Node_eq,l1In_eq,s_InstsOk_eq hi,Option.bind_some,h8]
  generalize (List.range d.2.2.2.length).all (leadAt d.2.2.2)=b6
  generalize (d.2.2.1.all fun x=>!(decide (x.1.1=d.1)&&decide (d.2.1≤x.1.2)))=b5
  generalize decide (d.2.2.2.length≤8)=b4
  generalize instsOkB d.2.2.1=b3
  generalize decide (1≤d.2.1∧d.2.1≤7)=b2
  generalize decide (0≤d.1∧d.1 < 3)=b1
  cases b1
  ·rfl
  cases b2
  ·rfl
  cases b3
  ·rfl
  cases b4
  ·rfl
  cases b5
  ·rfl
  cases b6<;>rfl
 ·intro k x hx
  simp only [lt_dec (List.getElem?_eq_some_iff.1 hx).1,cond_true,idx_nat,hx,Option.bind_some]
  cases h1:decide (x.1.1=d.1)<;>cases h2:decide (d.2.1≤x.1.2)<;>simp [gb,h2]
 ·simp only [ge_dec];rfl
theorem i_ENodeOk_eq {d:D_ENode} (ho:Ok.ok d):i_ENodeOk d=some (nodeOkB d):=by
 have hi:Ok.ok d.2.2.1:=ho.2.2.1
 have hil:d.2.2.1.length≤9223372036854775807:=ho.2.2.1.1
 have hll:d.2.2.2.length≤9223372036854775807:=ho.2.2.2.1
 have hin:(whileP (fun s12:Int=>cond (decide (s12 < (d.2.2.2.length:Int))) (Option.bind (idx d.2.2.2 s12) (fun y14=>Option.bind (i_leadOk y14) (fun y15=>gb (!(!y15)) (i_ENode_lead d y14.1) (fun y16=>cond ((!y15)||(!decide (y16=s12))) (Option.map .inr (some false)) (some (.inl (IntKind.wrap .i64 (s12+1)))))))) (Option.map .inr (some true))) 0:Option Bool)=if (List.range d.2.2.2.length).all (leadAt d.2.2.2) then some true else some false:=by
  refine whileP_all (n:=d.2.2.2.length) (leadAt d.2.2.2) (some false) (some true) ?_ ?_
  ·intro k hk
   have hx:d.2.2.2[k]?=some d.2.2.2[k]:=List.getElem?_eq_getElem hk
   generalize d.2.2.2[k]=x at hx
   have hox:Ok.ok x:=ho.2.2.2.2 x (List.mem_of_getElem? hx)
   simp only [lt_dec hk,cond_true,idx_nat,hx,Option.bind_some,i_leadOk_eq hox,i_lead_eq hll,wrap_succ (show k < 9223372036854775807 by omega)]
   unfold leadAt
   simp only [hx]
   cases leadOkB x with
   | false=>rfl
   | true =>
    simp only [Bool.not_true,Bool.not_false,gb,Option.bind_some,Bool.true_and,Bool.false_or]
    cases decide (firstI (fun y:D_Lead=>idEq y.1 x.1) d.2.2.2=(k:Int))<;>rfl
  ·simp only [ge_dec];rfl
 unfold i_ENodeOk nodeOkB
 simp only [Prod.eta]
 rw [hin,each_loop (l:=d.2.2.1) (p:=fun x=>!(decide (x.1.1=d.1)&&decide (d.2.1≤x.1.2))) (no:=some false) (yes:=if (List.range d.2.2.2.length).all (leadAt d.2.2.2) then some true else some false) hil]
 ·have h8:decide (8 < (d.2.2.2.length:Int))=!decide (d.2.2.2.length≤8):=by rw [Bool.eq_iff_iff];simp;omega
  simp only [isRep_eq,within_eq,i_InstsOk_eq hi,Option.bind_some,h8]
  generalize (List.range d.2.2.2.length).all (leadAt d.2.2.2)=b6
  generalize (d.2.2.1.all fun x=>!(decide (x.1.1=d.1)&&decide (d.2.1≤x.1.2)))=b5
  generalize decide (d.2.2.2.length≤8)=b4
  generalize instsOkB d.2.2.1=b3
  generalize decide (1≤d.2.1∧d.2.1≤7)=b2
  generalize decide (0≤d.1∧d.1 < 3)=b1
  cases b1
  ·rfl
  cases b2
  ·rfl
  cases b3
  ·rfl
  cases b4
  ·rfl
  cases b5
  ·rfl
  cases b6<;>rfl
 ·intro k x hx
  simp only [lt_dec (List.getElem?_eq_some_iff.1 hx).1,cond_true,idx_nat,hx,Option.bind_some,i_ENode_unknown]
  cases h1:decide (x.1.1=d.1)<;>cases h2:decide (d.2.1≤x.1.2)<;>simp
 ·simp only [ge_dec];rfl
def smallI (x:D_Inst):Prop:=x.2.2.2.2.1.2.2.2.2.2.2.2.length≤1048576∧x.2.2.2.2.2.2.1.length≤1048576
theorem s_l4Copy_eq {c:D_Cmd} (h:c.2.2.2.2.2.2.2.length≤1048576):s_l4Copy c=some c:=by
 unfold s_l4Copy
 simp only [Option.bind_some]
 rw [appP_ok (by simp;omega)];rfl
theorem s_l8Copy_eq {x:D_Inst} (h:smallI x):s_l8Copy x=some x:=by
 unfold s_l8Copy
 simp only [Prod.eta,s_l4Copy_eq h.1,Option.bind_some]
 have:=h.2
 rw [appP_ok (by simp;omega)];rfl
theorem copyTexts_eq {l:List ByteArray} (h:l.length≤4294967296):i_copyTexts l=some l:=by
 unfold i_copyTexts
 rw [appP_ok (by simpa using h)];rfl
theorem i_copyCmd_eq {c:D_Cmd} (h:c.2.2.2.2.2.2.2.length≤1048576):i_copyCmd c=some c:=by
 unfold i_copyCmd
 rw [copyTexts_eq (by omega)];rfl
theorem i_copyIds_eq {l:List D_Id} (h:l.length≤4294967296):i_copyIds l=some l:=by
 unfold i_copyIds
 rw [appP_ok (by simpa using h)];rfl
theorem i_copyInst_eq {x:D_Inst} (h:smallI x):i_copyInst x=some x:=by
 unfold i_copyInst
 have:=h.2
 simp only [Prod.eta,i_copyCmd_eq h.1,Option.bind_some,i_copyIds_eq (show x.2.2.2.2.2.2.1.length≤4294967296 by omega)]
end Go.Proofs.SL
namespace Go.Proofs.SL
open Go
theorem whileP_is {σ α:Type} {f:σ→Option (σ ⊕ α)} {r:α} {s:σ} (I:σ→Prop) (μ:σ→Nat) (h:∀ s,I s→(∃ s',f s=some (.inl s')∧I s'∧μ s' < μ s)∨f s=some (.inr r)) (hs:I s):whileP f s=some r:=by
 obtain ⟨a,ha,rfl⟩:=whileP_rule I μ (·=r) (fun s hs=>(h s hs).imp id fun h=>⟨r,h,rfl⟩) s hs
 exact ha
end Go.Proofs.SL
namespace Go.Proofs.SL
open Go
end Go.Proofs.SL
namespace Go.Proofs.SL
open Go
end Go.Proofs.SL
namespace Go.Proofs.SL
open Go
def snapOkB (p:D_CSnap):Bool:=isWordB p.1&&(decide (p.2.1=ByteArray.empty)||isWordB p.2.1)&&decide (1≤(p.2.2.length:Int)∧(p.2.2.length:Int)≤4)&&areChunksB p.2.2
def snapAt (s:D_CSet) (k:Nat):Bool:=match s.2[k]? with
 | none=>false
 | some p=>snapOkB p&&decide (firstI (fun q:D_CSnap=>decide (q.1=p.1)) s.2=(k:Int))
def setOkB (s:D_CSet):Bool:=isWordB s.1&&decide (s.2.length≤5)&&(List.range s.2.length).all (snapAt s)
def setAt (c:D_Catalog) (k:Nat):Bool:=match c[k]? with
 | none=>false
 | some s=>setOkB s&&(decide (k=0)||(c[k - 1]?).all fun r=>sLt r.1 s.1)
def catOkB (c:D_Catalog):Bool:=decide (c.length≤5)&&(List.range c.length).all (setAt c)
theorem s_l15Snap_eq {p:D_CSnap} (ho:Ok.ok p):s_l15Snap p=some (snapOkB p):=by
 have h1:p.1.size≤9223372036854775807:=ho.1
 have h2:p.2.1.size≤9223372036854775807:=ho.2.1
 have h3:p.2.2.length≤9223372036854775807:=ho.2.2.1
 unfold s_l15Snap snapOkB areChunksB
 rw [each_loop (p:=fun c=>decide ((c.size:Int)=8)) (no:=some false) (yes:=some true) h3]
 ·simp only [s_l4Word_eq h1,s_l4Word_eq h2,l1In_eq,Option.bind_some,gbs]
  cases isWordB p.1<;>cases decide (p.2.1=ByteArray.empty)<;>cases isWordB p.2.1<;>cases decide (1≤(p.2.2.length:Int)∧(p.2.2.length:Int)≤4)<;>cases (p.2.2.all fun c=>decide ((c.size:Int)=8))<;>rfl
 ·intro k x hx
  simp only [lt_dec (List.getElem?_eq_some_iff.1 hx).1,cond_true,idx_nat,hx,Option.bind_some]
  cases decide ((x.size:Int)=8)<;>rfl
 ·simp only [ge_dec];rfl
theorem s_l15Find_eq {s:D_CSet} {n:ByteArray} (h:s.2.length≤9223372036854775807):s_l15Find s n=some (firstI (fun q:D_CSnap=>decide (q.1=n)) s.2):=by
 unfold s_l15Find
 rw [whileP_find (fun q:D_CSnap=>decide (q.1=n)) some h]
 ·intro k x hx
  simp only [lt_dec (List.getElem?_eq_some_iff.1 hx).1,cond_true,idx_nat,hx,Option.bind_some]
  cases decide (x.1=n)<;>rfl
 ·simp only [ge_dec];rfl
theorem i_CSet_snap_eq {s:D_CSet} {n:ByteArray} (h:s.2.length≤9223372036854775807):i_CSet_snap s n=some (firstI (fun q:D_CSnap=>decide (q.1=n)) s.2):=by
 unfold i_CSet_snap sl_IndexFunc_implCSnapimplCSnap i_CSet_snap_c1
 rw [whileP_find (fun q:D_CSnap=>decide (q.1=n)) some h]
 ·rfl
 ·intro k x hx
  simp only [lt_dec (List.getElem?_eq_some_iff.1 hx).1,cond_true,idx_nat,hx,Option.bind_some]
  cases decide (x.1=n)<;>rfl
 ·simp only [ge_dec];rfl
theorem i_setOk_eq {s:D_CSet} (ho:Ok.ok s):i_setOk s=some (setOkB s):=by
 have h1:s.1.size≤9223372036854775807:=ho.1
 have h2:s.2.length≤9223372036854775807:=ho.2.1
 unfold i_setOk setOkB
 rw [whileP_all (n:=s.2.length) (snapAt s) (some false) (some (isWordB s.1&&decide (s.2.length≤5)))]
 ·cases isWordB s.1<;>cases decide (s.2.length≤5)<;>cases (List.range s.2.length).all (snapAt s)<;>rfl
 ·intro k hk
  have hx:s.2[k]?=some s.2[k]:=List.getElem?_eq_getElem hk
  generalize s.2[k]=p at hx
  have hp:Ok.ok p:=ho.2.2 p (List.mem_of_getElem? hx)
  have h3:p.1.size≤9223372036854775807:=hp.1
  have h4:p.2.1.size≤9223372036854775807:=hp.2.1
  have h5:p.2.2.length≤9223372036854775807:=hp.2.2.1
  simp only [lt_dec hk,cond_true,idx_nat,hx,Option.bind_some,i_isWord_eq h3,i_isWord_eq h4,within_eq,i_areChunks_eq h5,i_CSet_snap_eq (s:=(s.1,s.2)) h2,gbs,wrap_succ (show k < 9223372036854775807 by omega)]
  unfold snapAt snapOkB
  simp only [hx]
  cases isWordB p.1<;>cases decide (p.2.1=ByteArray.empty)<;>cases isWordB p.2.1<;>cases decide (1≤(p.2.2.length:Int)∧(p.2.2.length:Int)≤4)<;>cases areChunksB p.2.2<;>cases decide (firstI (fun q:D_CSnap=>decide (q.1=p.1)) s.2=(k:Int))<;>simp
 ·have h9:decide ((s.2.length:Int)≤5)=decide (s.2.length≤5):=by rw [Bool.eq_iff_iff];simp;omega
  simp only [ge_dec,cond_false,i_isWord_eq h1,Option.bind_some,h9]
theorem i_CatOk_eq {c:D_Catalog} (ho:Ok.ok c):i_CatOk c=some (catOkB c):=by
 have hl:c.length≤9223372036854775807:=ho.1
 unfold i_CatOk catOkB
 rw [whileP_all (n:=c.length) (setAt c) (some false) (some (decide (c.length≤5)))]
 ·cases decide (c.length≤5)<;>cases (List.range c.length).all (setAt c)<;>rfl
 ·intro k hk
  have hx:c[k]?=some c[k]:=List.getElem?_eq_getElem hk
  generalize c[k]=s at hx
  have hs:Ok.ok s:=ho.2 s (List.mem_of_getElem? hx)
  simp only [lt_dec hk,cond_true,idx_nat,hx,Option.bind_some,Prod.eta,i_setOk_eq hs,wrap_succ (show k < 9223372036854775807 by omega)]
  unfold setAt
  simp only [hx]
  rcases Nat.eq_zero_or_pos k with h0 | h0
  ·subst h0
   rw [gb_none _ _ _ (by simp)]
   cases setOkB s<;>simp
  ·obtain ⟨r,hr1,hr2⟩:=prev_idx' hk hl h0
   have h5:decide (0 < (k:Int))=true:=by simp;omega
   have h6:decide (k=0)=false:=by simp;omega
   rw [hr1,hr2,h5,h6,gbs]
   simp only [Option.all_some]
   by_cases h7:sLt r.1 s.1=true<;>cases setOkB s<;>simp [h7]
 ·have h9:decide ((c.length:Int)≤5)=decide (c.length≤5):=by rw [Bool.eq_iff_iff];simp;omega
  simp only [ge_dec,cond_false,h9]
theorem s_CatOk_eq {c:D_Catalog} (ho:Ok.ok c):s_CatOk c=some (catOkB c):=by
 have hl:c.length≤9223372036854775807:=ho.1
 unfold s_CatOk catOkB
 have h9:decide (5 < (c.length:Int))=!decide (c.length≤5):=by rw [Bool.eq_iff_iff];simp;omega
 rw [whileP_all (n:=c.length) (setAt c) (some false) (some true),h9]
 ·cases decide (c.length≤5)<;>cases (List.range c.length).all (setAt c)<;>rfl
 ·intro k hk
  have hx:c[k]?=some c[k]:=List.getElem?_eq_getElem hk
  generalize c[k]=s at hx
  have hs:Ok.ok s:=ho.2 s (List.mem_of_getElem? hx)
  have h1:s.1.size≤9223372036854775807:=hs.1
  have h2:s.2.length≤9223372036854775807:=hs.2.1
  simp only [lt_dec hk,cond_true,idx_nat,hx,Option.bind_some,Prod.eta,s_l4Word_eq h1]
  rw [whileP_all (n:=s.2.length) (snapAt s) (some (.inr false)) (some (.inl ((k+1:Nat):Int)))]
  ·have h10:decide (5 < (s.2.length:Int))=!decide (s.2.length≤5):=by rw [Bool.eq_iff_iff];simp;omega
   unfold setAt setOkB
   simp only [hx,h10]
   rcases Nat.eq_zero_or_pos k with h0 | h0
   ·subst h0
    rw [gb_none _ _ _ (by simp)]
    cases isWordB s.1<;>cases decide (s.2.length≤5)<;>cases (List.range s.2.length).all (snapAt s)<;>simp
   ·obtain ⟨r,hr1,hr2⟩:=prev_idx' hk hl h0
    have h5:decide (0 < (k:Int))=true:=by simp;omega
    have h6:decide (k=0)=false:=by simp;omega
    rw [hr1,hr2,h5,h6,gbs]
    simp only [Option.all_some]
    by_cases h7:sLt r.1 s.1=true<;>cases isWordB s.1<;>cases decide (s.2.length≤5)<;>cases (List.range s.2.length).all (snapAt s)<;>simp [h7]
  ·intro j hj
   have hy:s.2[j]?=some s.2[j]:=List.getElem?_eq_getElem hj
   generalize s.2[j]=p at hy
   have hp:Ok.ok p:=hs.2.2 p (List.mem_of_getElem? hy)
   simp only [lt_dec hj,cond_true,idx_nat,hy,Option.bind_some,Prod.eta,s_l15Snap_eq hp,gbs,wrap_succ (show j < 9223372036854775807 by omega)]
   unfold snapAt
   simp only [hy]
   cases snapOkB p with
   | false=>rfl
   | true =>
    simp only [Bool.not_true,Bool.not_false,if_true,gb,Option.bind_some,s_l15Find_eq h2,Bool.true_and,Bool.false_or]
    cases decide (firstI (fun q:D_CSnap=>decide (q.1=p.1)) s.2=(j:Int))<;>rfl
  ·simp only [ge_dec,cond_false,wrap_succ (show k < 9223372036854775807 by omega)]
 ·simp only [ge_dec];rfl
theorem catOk_facts {c:D_Catalog} (h:catOkB c=true):c.length≤5∧∀ s,s∈c→s.2.length≤5∧∀ p,p∈s.2→p.2.2.length≤4∧∀ x,x∈p.2.2→x.size=8:=by
 unfold catOkB at h
 simp only [Bool.and_eq_true,decide_eq_true_eq,List.all_eq_true,List.mem_range] at h
 refine ⟨h.1,fun s hs=>?_⟩
 obtain ⟨k,hk⟩:=List.getElem?_of_mem hs
 have h1:=h.2 k (List.getElem?_eq_some_iff.1 hk).1
 unfold setAt at h1
 rw [hk] at h1
 simp only [Bool.and_eq_true] at h1
 have h2:=h1.1
 unfold setOkB at h2
 simp only [Bool.and_eq_true,decide_eq_true_eq,List.all_eq_true,List.mem_range] at h2
 refine ⟨h2.1.2,fun p hp=>?_⟩
 obtain ⟨j,hj⟩:=List.getElem?_of_mem hp
 have h3:=h2.2 j (List.getElem?_eq_some_iff.1 hj).1
 unfold snapAt at h3
 rw [hj] at h3
 simp only [Bool.and_eq_true] at h3
 have h4:=h3.1
 unfold snapOkB areChunksB at h4
 simp only [Bool.and_eq_true,decide_eq_true_eq,List.all_eq_true] at h4
 exact ⟨by omega,fun x hx=>by have:=h4.2 x hx;omega⟩
end Go.Proofs.SL
namespace Go.Proofs.SL
open Go
end Go.Proofs.SL
namespace Go.Proofs.SL
open Go
theorem firstI_get {α:Type} (p:α→Bool) (l:List α):(firstI p l=-1∧l.findIdx? p=none)∨∃ (k:Nat) (x:α),firstI p l=(k:Int)∧l.findIdx? p=some k∧l[k]?=some x∧p x=true:=by
 cases h:l.findIdx? p with
 | none=>exact .inl ⟨firstI_none h,rfl⟩
 | some k =>
  obtain ⟨h1,h2,_⟩:=List.findIdx?_eq_some_iff_getElem.1 h
  exact .inr ⟨k,l[k],firstI_some h,rfl,List.getElem?_eq_getElem h1,h2⟩
end Go.Proofs.SL
namespace Go.Proofs.SL
open Go
theorem loop_pass {α β τ σ:Type} {f:σ→Option (σ ⊕ α)} {l:List β} (mk:Nat→τ→σ) (h:τ→β→τ) (g:τ→Option α) (I:Nat→τ→Prop) (t0:τ) {s0:σ} (h0:mk 0 t0=s0) (hI:I 0 t0)
  (hs:∀ k t x,l[k]?=some x→I k t→f (mk k t)=some (.inl (mk (k+1) (h t x)))∧I (k+1) (h t x)) (he:∀ t,I l.length t→f (mk l.length t)=(g t).map .inr):whileP f s0=g (l.foldl h t0):=by
 rw [whileP_for (l:=l) mk (fun t x=>.inl (h t x)) g I t0 h0 hI (fun k t x hx hi=>.inl ⟨_,rfl,hs k t x hx hi⟩) he,goE_fold]
theorem word_size {s:ByteArray} (h:isWordB s=true):s.size≤8:=by
 unfold isWordB at h
 simp only [Bool.and_eq_true,decide_eq_true_eq] at h
 omega
structure CBnd (c:D_Catalog):Prop where
 len:c.length≤6
 name:∀ s,s∈c→s.1.size≤8
 snaps:∀ s,s∈c→s.2.length≤6
 snap:∀ s,s∈c→∀ p,p∈s.2→p.1.size≤8∧p.2.1.size≤8∧p.2.2.length≤4∧∀ x,x∈p.2.2→x.size≤8
theorem CBnd.ok {c:D_Catalog} (h:CBnd c):Ok.ok c :=
 ⟨by have:=h.len;omega,fun s hs=>⟨by have:=h.name s hs;show s.1.size≤_;omega,by have:=h.snaps s hs;omega,fun p hp=>by
  obtain ⟨h1,h2,h3,h4⟩:=h.snap s hs p hp
  exact ⟨by show p.1.size≤_;omega,by show p.2.1.size≤_;omega,by omega,fun x hx=>by have:=h4 x hx;show x.size≤_;omega⟩⟩⟩
theorem catOk_bnd {c:D_Catalog} (h:catOkB c=true):CBnd c∧c.length≤5∧∀ s,s∈c→s.2.length≤5:=by
 have h0:=catOk_facts h
 unfold catOkB at h
 simp only [Bool.and_eq_true,decide_eq_true_eq,List.all_eq_true,List.mem_range] at h
 have hset:∀ s,s∈c→setOkB s=true:=fun s hs=>by
  obtain ⟨k,hk⟩:=List.getElem?_of_mem hs
  have h1:=h.2 k (List.getElem?_eq_some_iff.1 hk).1
  unfold setAt at h1
  rw [hk] at h1
  simp only [Bool.and_eq_true] at h1
  exact h1.1
 refine ⟨⟨by omega,fun s hs=>?_,fun s hs=>by have:=(h0.2 s hs).1;omega,fun s hs p hp=>?_⟩,h0.1,fun s hs=>(h0.2 s hs).1⟩
 ·have h2:=hset s hs
  unfold setOkB at h2
  simp only [Bool.and_eq_true] at h2
  exact word_size h2.1.1
 ·have h2:=hset s hs
  unfold setOkB at h2
  simp only [Bool.and_eq_true,decide_eq_true_eq,List.all_eq_true,List.mem_range] at h2
  obtain ⟨j,hj⟩:=List.getElem?_of_mem hp
  have h3:=h2.2 j (List.getElem?_eq_some_iff.1 hj).1
  unfold snapAt at h3
  rw [hj] at h3
  simp only [Bool.and_eq_true] at h3
  have h4:=h3.1
  unfold snapOkB areChunksB at h4
  simp only [Bool.and_eq_true,Bool.or_eq_true,decide_eq_true_eq,List.all_eq_true] at h4
  refine ⟨word_size h4.1.1.1,?_,by omega,fun x hx=>by have:=h4.2 x hx;omega⟩
  rcases h4.1.1.2 with h5 | h5
  ·rw [h5];decide
  ·exact word_size h5
theorem s_l15Copy_eq {c:D_Catalog} (h:CBnd c):s_l15Copy c=some c:=by
 have hlen:=h.len
 unfold s_l15Copy
 rw [loop_pass (l:=c) (fun k (t:List D_CSet)=>((k:Int),t)) (fun t x=>t++[x]) (fun t=>some t) (fun k t=>t.length≤k) [] (s0:=(0,[])) rfl (Nat.le_refl _)]
 ·have:∀ (xs acc:List D_CSet),xs.foldl (fun t x=>t++[x]) acc=acc++xs:=fun xs=>by
   induction xs with
   | nil=>intro acc;simp
   | cons x xs ih=>intro acc;rw [List.foldl_cons,ih];simp
  rw [this,List.nil_append]
 ·intro k t s hs ht
  have hk:=(List.getElem?_eq_some_iff.1 hs).1
  have hmem:=List.mem_of_getElem? hs
  have hsl:=h.snaps s hmem
  refine ⟨?_,by simp;omega⟩
  simp only [lt_dec hk,cond_true,idx_nat,hs,Option.bind_some]
  rw [loop_pass (l:=s.2) (fun j (t:List D_CSnap)=>((j:Int),t)) (fun t x=>t++[x]) (fun u=>Option.bind (appP t [(s.1,u)]) fun y17=>some (.inl (IntKind.wrap .i64 ((k:Int)+1),y17))) (fun k t=>t.length≤k) [] (s0:=(0,[])) rfl (Nat.le_refl _)]
  ·have:∀ (xs acc:List D_CSnap),xs.foldl (fun t x=>t++[x]) acc=acc++xs:=fun xs=>by
    induction xs with
    | nil=>intro acc;simp
    | cons x xs ih=>intro acc;rw [List.foldl_cons,ih];simp
   rw [this,List.nil_append,appP_ok (by simp;omega),Option.bind_some,wrap_succ (by omega)]
  ·intro j u p hp hu
   have hj:=(List.getElem?_eq_some_iff.1 hp).1
   obtain ⟨_,_,h3,_⟩:=h.snap s hmem p (List.mem_of_getElem? hp)
   refine ⟨?_,by simp;omega⟩
   simp only [lt_dec hj,cond_true,idx_nat,hp,Option.bind_some]
   rw [appP_ok (by simp;omega),Option.bind_some,List.nil_append,appP_ok (by simp;omega),Option.bind_some,wrap_succ (by omega)]
  ·intro u hu
   simp only [ge_dec,cond_false]
 ·intro t ht
  simp only [ge_dec,cond_false]
def gtN (s:D_CSet) (n:ByteArray):Bool:=!sLt s.1 n&&!decide (s.1=n)
def insSet (n:ByteArray):List D_CSet→List D_CSet
 | []=>[(n,[])]
 | s::r=>if gtN s n then (n,[])::s::r else s::insSet n r
def stepC (n:ByteArray) (t:List D_CSet×Bool) (s:D_CSet):List D_CSet×Bool :=
 if !t.2&&gtN s n then (t.1++[(n,[])]++[s],true) else (t.1++[s],t.2)
theorem stepC_true (n:ByteArray):∀ (ys acc:List D_CSet),ys.foldl (stepC n) (acc,true)=(acc++ys,true)
 | [],acc=>by simp
 | y::ys,acc=>by
  rw [List.foldl_cons,show stepC n (acc,true) y=(acc++[y],true) by simp [stepC],stepC_true n ys];simp
theorem stepC_false (n:ByteArray):∀ (ys acc:List D_CSet),(if !(ys.foldl (stepC n) (acc,false)).2 then (ys.foldl (stepC n) (acc,false)).1++[(n,[])] else (ys.foldl (stepC n) (acc,false)).1)=acc++insSet n ys
 | [],acc=>by simp [insSet]
 | y::ys,acc=>by
  rw [List.foldl_cons]
  cases hg:gtN y n with
  | true =>
   rw [show stepC n (acc,false) y=(acc++[(n,[])]++[y],true) by simp [stepC,hg],stepC_true n ys]
   simp [insSet,hg]
  | false =>
   rw [show stepC n (acc,false) y=(acc++[y],false) by simp [stepC,hg],stepC_false n ys]
   simp [insSet,hg]
def tOk:ByteArray:=ByteArray.mk #[111,107]
def tExists:ByteArray:=ByteArray.mk #[101,120,105,115,116,115]
def tFull:ByteArray:=ByteArray.mk #[102,117,108,108]
def tNone:ByteArray:=ByteArray.mk #[110,111,110,101]
def createD (c:D_Catalog) (n:ByteArray):D_Catalog×ByteArray:=if c.any (fun s=>decide (s.1=n)) then (c,tExists) else if 5≤c.length then (c,tFull) else (insSet n c,tOk)
theorem s_l15At_eq' {c:D_Catalog} {n:ByteArray} (h:c.length≤9223372036854775807):s_l15At c n=some (firstI (fun s:D_CSet=>decide (s.1=n)) c):=by
 unfold s_l15At
 rw [whileP_find (fun s:D_CSet=>decide (s.1=n)) (fun i=>some i) h]
 ·intro k x hx
  simp only [lt_dec (List.getElem?_eq_some_iff.1 hx).1,cond_true,idx_nat,hx,Option.bind_some]
  cases decide (x.1=n)<;>rfl
 ·simp only [ge_dec];rfl
theorem s_l15Create_eq {c:D_Catalog} {n:ByteArray} (h:c.length≤1000000):s_l15Create c n=some (createD c n):=by
 unfold s_l15Create createD
 rw [s_l15At_eq' (by omega),Option.bind_some,firstI_any]
 cases c.any (fun s=>decide (s.1=n)) with
 | true=>rfl
 | false =>
  by_cases h5:5≤c.length
  ·rw [if_neg (by simp),cond_false,decide_eq_true (show (5:Int)≤(c.length:Int) by omega),if_pos h5];rfl
  rw [if_neg (by simp),cond_false,decide_eq_false (show ¬ (5:Int)≤(c.length:Int) by omega),if_neg h5,cond_false,Option.bind_some]
  rw [loop_pass (l:=c) (fun k (t:List D_CSet×Bool)=>(t.1,t.2,(k:Int))) (stepC n) (fun t=>some ((if !t.2 then t.1++[(n,[])] else t.1),tOk)) (fun k t=>t.1.length≤2*k) ([],false) (s0:=([],false,0)) rfl (Nat.le_refl _)]
  ·rw [stepC_false,List.nil_append]
  ·intro k t s hs ht
   have hk:=(List.getElem?_eq_some_iff.1 hs).1
   obtain ⟨acc,b⟩:=t
   dsimp only at ht ⊢
   simp only [lt_dec hk,cond_true,idx_nat,hs,Option.bind_some,gbs]
   constructor
   ·unfold stepC gtN
    cases b with
    | true=>simp only [Bool.not_true,Bool.false_and,cond_false];rw [appP_ok (by simp;omega),Option.bind_some,wrap_succ (by omega)];rfl
    | false =>
     simp only [Bool.not_false,Bool.true_and,if_true]
     cases hg:(!sLt s.1 n&&!decide (s.1=n)) with
     | true =>
      rw [cond_true,appP_ok (by simp;omega),Option.bind_some,appP_ok (by simp;omega),Option.bind_some,wrap_succ (by omega)];rfl
     | false=>rw [cond_false,appP_ok (by simp;omega),Option.bind_some,wrap_succ (by omega)];rfl
   ·unfold stepC
    split<;>simp<;>omega
  ·intro t ht
   obtain ⟨acc,b⟩:=t
   simp only [ge_dec,cond_false]
   cases b with
   | true=>rfl
   | false=>simp only [Bool.not_false,cond_true,if_true];rw [appP_ok (by simp at ht ⊢;omega)];rfl
end Go.Proofs.SL
namespace Go.Proofs.SL
open Go
theorem whileP_step {σ α:Type} {f:σ→Option (σ ⊕ α)} {s s':σ} (h:f s=some (.inl s')):whileP f s=whileP f s':=by rw [whileP_eq,h]
theorem whileP_done {σ α:Type} {f:σ→Option (σ ⊕ α)} {s:σ} {a:α} (h:f s=some (.inr a)):whileP f s=some a:=by rw [whileP_eq,h]
def digit (k:Nat):ByteArray:=ByteArray.mk #[UInt8.ofNat (48+k)]
theorem s_Dec_small:∀ k:Nat,k≤5→s_Dec (k:Int)=some (digit k)
 | 0,_=>rfl
 | 1,_=>by unfold s_Dec;rw [decide_eq_false (by decide),cond_false,whileP_step (s':=(0,digit 1)) (by kernel_rfl),whileP_done (by kernel_rfl)]
 | 2,_=>by unfold s_Dec;rw [decide_eq_false (by decide),cond_false,whileP_step (s':=(0,digit 2)) (by kernel_rfl),whileP_done (by kernel_rfl)]
 | 3,_=>by unfold s_Dec;rw [decide_eq_false (by decide),cond_false,whileP_step (s':=(0,digit 3)) (by kernel_rfl),whileP_done (by kernel_rfl)]
 | 4,_=>by unfold s_Dec;rw [decide_eq_false (by decide),cond_false,whileP_step (s':=(0,digit 4)) (by kernel_rfl),whileP_done (by kernel_rfl)]
 | 5,_=>by unfold s_Dec;rw [decide_eq_false (by decide),cond_false,whileP_step (s':=(0,digit 5)) (by kernel_rfl),whileP_done (by kernel_rfl)]
 | n+6,h=>by omega
def tSp:ByteArray:=ByteArray.mk #[32]
def tCol:ByteArray:=ByteArray.mk #[58]
def readStep (t:Bool×ByteArray) (p:D_CSnap):Bool×ByteArray:=(true,(if t.1 then t.2++tSp else t.2)++p.1++tCol++p.2.1)
def readD (s:D_CSet):ByteArray:=(s.2.foldl readStep (false,ByteArray.empty)).2
theorem sz_sp:tSp.size=1:=rfl
theorem sz_col:tCol.size=1:=rfl
theorem s_l15Read_eq {s:D_CSet} (h:s.2.length≤1000) (hp:∀ p,p∈s.2→p.1.size≤8∧p.2.1.size≤8):s_l15Read s=some (readD s):=by
 unfold s_l15Read readD
 rw [loop_pass (l:=s.2) (fun k (t:Bool×ByteArray)=>(t.2,(k:Int))) readStep (fun t=>some t.2) (fun k t=>t.1=decide (0 < k)∧t.2.size≤18*k) (false,ByteArray.empty) (s0:=(ByteArray.empty,0)) rfl ⟨rfl,Nat.le_refl _⟩]
 ·intro k t p hx ht
  have hk:=(List.getElem?_eq_some_iff.1 hx).1
  obtain ⟨b,a⟩:=t
  obtain ⟨rfl,ha⟩:=ht
  dsimp only at ha ⊢
  obtain ⟨h1,h2⟩:=hp p (List.mem_of_getElem? hx)
  simp only [lt_dec hk,cond_true,idx_nat,hx,Option.bind_some]
  rcases Nat.eq_zero_or_pos k with h0 | h0
  ·subst h0
   rw [decide_eq_false (show ¬ (0:Int) < ((0:Nat):Int) by omega),cond_false]
   show Option.bind (catP a p.1) _=_∧_
   rw [catP_ok (by omega),Option.bind_some,show (ByteArray.mk #[58])=tCol from rfl,catP_ok (by simp [ByteArray.size_append,sz_col];omega),Option.bind_some,catP_ok (by simp [ByteArray.size_append,sz_col];omega),Option.bind_some,wrap_succ (by omega)]
   exact ⟨rfl,by simp [readStep],by simp [readStep,ByteArray.size_append,sz_col];omega⟩
  ·rw [decide_eq_true (show (0:Int) < (k:Int) by omega),cond_true,show (ByteArray.mk #[32])=tSp from rfl,catP_ok (by rw [sz_sp];omega),Option.bind_some]
   show Option.bind (catP (a++tSp) p.1) _=_∧_
   rw [catP_ok (by simp [ByteArray.size_append,sz_sp];omega),Option.bind_some,show (ByteArray.mk #[58])=tCol from rfl,catP_ok (by simp [ByteArray.size_append,sz_col,sz_sp];omega),Option.bind_some,catP_ok (by simp [ByteArray.size_append,sz_col,sz_sp];omega),Option.bind_some,wrap_succ (by omega)]
   refine ⟨?_,by simp [readStep],?_⟩
   ·simp [readStep,decide_eq_true h0]
   ·simp [readStep,decide_eq_true h0,ByteArray.size_append,sz_col,sz_sp];omega
 ·intro t ht
  simp only [ge_dec,cond_false]
def listStep (t:Bool×ByteArray) (p:D_CSet):Bool×ByteArray:=(true,(if t.1 then t.2++tSp else t.2)++p.1)
def listD (c:D_Catalog):ByteArray:=(c.foldl listStep (false,ByteArray.empty)).2
def bareN (l:List D_CSnap):Nat:=(l.filter fun p=>decide (p.2.1=ByteArray.empty)).length
def pruneStep (n:Int) (t:Int×List D_CSnap) (p:D_CSnap):Int×List D_CSnap :=
 if p.2.1=ByteArray.empty then (if n≤t.1 - 1 then (t.1 - 1,t.2) else (t.1 - 1,t.2++[p])) else (t.1,t.2++[p])
def pruneD (l:List D_CSnap) (n:Int):List D_CSnap:=(l.foldl (pruneStep n) ((bareN l:Int),[])).2
theorem prune_len (n:Int):∀ (l:List D_CSnap) (t:Int×List D_CSnap),(l.foldl (pruneStep n) t).2.length≤t.2.length+l.length∧∀ p,p∈(l.foldl (pruneStep n) t).2→p∈t.2∨p∈l
 | [],t=>⟨by simp,fun p hp=>.inl hp⟩
 | x::l,t=>by
  rw [List.foldl_cons]
  obtain ⟨h1,h2⟩:=prune_len n l (pruneStep n t x)
  have h3:(pruneStep n t x).2=t.2∨(pruneStep n t x).2=t.2++[x]:=by unfold pruneStep;split<;>(try split)<;>simp
  refine ⟨?_,fun p hp=>?_⟩
  ·rcases h3 with h3 | h3<;>rw [h3] at h1<;>simp at h1 ⊢<;>omega
  ·rcases h2 p hp with h4 | h4
   ·rcases h3 with h3 | h3<;>rw [h3] at h4
    ·exact .inl h4
    ·rcases List.mem_append.1 h4 with h5 | h5
     ·exact .inl h5
     ·exact .inr (by rw [List.mem_singleton.1 h5];exact List.mem_cons_self ..)
   ·exact .inr (List.mem_cons_of_mem _ h4)
theorem s_l15Prune_eq {l:List D_CSnap} {n:Int} (h:l.length≤1000):s_l15Prune l n=some (pruneD l n,((l.length - (pruneD l n).length:Nat):Int)):=by
 unfold s_l15Prune
 rw [loop_pass (l:=l) (fun k (t:Nat)=>((t:Int),(k:Int))) (fun t p=>if p.2.1=ByteArray.empty then t+1 else t) (fun t=>if t=bareN l then some (pruneD l n,((l.length - (pruneD l n).length:Nat):Int)) else
   whileP (fun s8:Int×(List D_CSnap)×Int=>cond (decide (s8.2.2 < (l.length:Int))) (Option.bind (idx l s8.2.2) (fun y10=>cond (decide (y10.2.1=ByteArray.empty)) (cond (decide (n≤IntKind.wrap .i64 (s8.1 - 1))) (some (.inl ((IntKind.wrap .i64 (s8.1 - 1),s8.2.1,IntKind.wrap .i64 (s8.2.2+1))))) (Option.bind (idx l s8.2.2) (fun y13=>Option.bind (appP s8.2.1 [(y13.1,y13.2.1,y13.2.2)]) (fun y15=>some (.inl ((IntKind.wrap .i64 (s8.1 - 1),y15,IntKind.wrap .i64 (s8.2.2+1)))))))) (Option.bind (idx l s8.2.2) (fun y16=>Option.bind (appP s8.2.1 [(y16.1,y16.2.1,y16.2.2)]) (fun y18=>some (.inl ((s8.1,y18,IntKind.wrap .i64 (s8.2.2+1))))))))) (Option.map .inr (some (s8.2.1,IntKind.wrap .i64 ((l.length:Int) - (s8.2.1.length:Int)))))) ((t:Int),[],0))
   (fun k t=>t≤k) 0 (s0:=(0,0)) rfl (Nat.le_refl _)]
 ·have hb:l.foldl (fun t p=>if p.2.1=ByteArray.empty then t+1 else t) 0=bareN l:=by
   have:∀ (l:List D_CSnap) (t:Nat),l.foldl (fun t p=>if p.2.1=ByteArray.empty then t+1 else t) t=t+bareN l:=fun l=>by
    induction l with
    | nil=>intro t;rfl
    | cons p l ih =>
     intro t
     rw [List.foldl_cons,ih]
     unfold bareN
     by_cases hp:p.2.1=ByteArray.empty
     ·rw [if_pos hp,List.filter_cons_of_pos (by simpa using hp),List.length_cons];omega
     ·rw [if_neg hp,List.filter_cons_of_neg (by simpa using hp)]
   rw [this,Nat.zero_add]
  rw [hb,if_pos rfl]
 ·intro k t p hx ht
  have hk:=(List.getElem?_eq_some_iff.1 hx).1
  simp only [lt_dec hk,cond_true,idx_nat,hx,Option.bind_some]
  by_cases hp:p.2.1=ByteArray.empty
  ·rw [decide_eq_true hp,cond_true,wrap_succ (by omega),wrap_succ (by omega),if_pos hp];exact ⟨rfl,by omega⟩
  ·rw [decide_eq_false hp,cond_false,wrap_succ (by omega),if_neg hp];exact ⟨rfl,by omega⟩
 ·intro t ht
  simp only [ge_dec,cond_false,Option.bind_some]
  congr 1
  split
  ·rename_i hb
   subst hb
   have hbl:bareN l≤l.length:=List.length_filter_le _ _
   rw [loop_pass (l:=l) (fun k (t:Int×List D_CSnap)=>(t.1,t.2,(k:Int))) (pruneStep n) (fun t=>some (t.2,((l.length - t.2.length:Nat):Int))) (fun k t=>-(k:Int)≤t.1∧t.1≤1000∧t.2.length≤k) ((bareN l:Int),[]) (s0:=((bareN l:Int),[],0)) rfl ⟨by omega,by omega,Nat.le_refl _⟩]
   ·rfl
   ·intro k t p hx ht
    have hk:=(List.getElem?_eq_some_iff.1 hx).1
    obtain ⟨b,a⟩:=t
    dsimp only at ht ⊢
    simp only [lt_dec hk,cond_true,idx_nat,hx,Option.bind_some]
    have hw:IntKind.wrap .i64 (b - 1)=b - 1:=wrap64_in (by unfold inR;omega)
    rw [hw,appP_ok (by simp;omega),wrap_succ (by omega)]
    unfold pruneStep
    by_cases hp:p.2.1=ByteArray.empty
    ·rw [decide_eq_true hp,cond_true,if_pos hp]
     by_cases hn:n≤b - 1
     ·rw [decide_eq_true hn,cond_true,if_pos hn];exact ⟨rfl,by dsimp only;omega⟩
     ·rw [decide_eq_false hn,cond_false,if_neg hn];exact ⟨rfl,by simp;omega⟩
    ·rw [decide_eq_false hp,cond_false,if_neg hp];exact ⟨rfl,by simp;omega⟩
   ·intro t ht
    simp only [ge_dec,cond_false]
    rw [wrap64_in (by unfold inR;omega)]
    have e:(l.length:Int) - (t.2.length:Int)=((l.length - t.2.length:Nat):Int):=by omega
    rw [e]
  ·rfl
end Go.Proofs.SL
namespace Go.Proofs.SL
open Go
def catSetD (c:D_Catalog) (a:Nat) (s:D_CSet) (m:D_Cmd):D_Catalog×ByteArray :=
 if m.1=2 then (c.eraseIdx a,tOk)
 else if m.1=3 then (if s.2.any (fun p=>decide (p.1=m.2.2.2.2.1)) then (c,tExists) else if 5≤s.2.length then (c,tFull) else (c.set a (s.1,s.2++[(m.2.2.2.2.1,ByteArray.empty,m.2.2.2.2.2.2.2)]),tOk))
 else if m.1=4 then (match s.2.findIdx? (fun p=>decide (p.1=m.2.2.2.2.1)) with
  | none=>(c,tNone)
  | some k=>match s.2[k]? with
   | none=>(c,tNone)
   | some p=>(c.set a (s.1,s.2.set k (p.1,m.2.2.2.2.2.1,p.2.2)),tOk))
 else if m.1=5 then (c.set a (s.1,pruneD s.2 m.2.2.2.2.2.2.1),digit (s.2.length - (pruneD s.2 m.2.2.2.2.2.2.1).length))
 else (c,readD s)
theorem slcP_pos {α:Type} {l:List α} {a b:Int} (h:0≤a∧a≤b∧b≤l.length):slcP l a b=some ((l.drop a.toNat).take (b.toNat - a.toNat)):=if_pos h
theorem s_l15Set_eq {c:D_Catalog} {a:Nat} {s:D_CSet} {m:D_Cmd} (hc:c.length≤1000) (ha:c[a]?=some s) (hs:s.2.length≤5) (hp:∀ p,p∈s.2→p.1.size≤8∧p.2.1.size≤8) (hm:m.2.2.2.2.2.2.2.length≤1000):s_l15Set c (a:Int) m=some (catSetD c a s m):=by
 have hal:=(List.getElem?_eq_some_iff.1 ha).1
 unfold s_l15Set catSetD
 simp only [idx_nat,ha,Option.bind_some,Prod.eta]
 rw [s_l15Find_eq (by omega),Option.bind_some]
 by_cases h2:m.1=2
 ·rw [if_pos h2,decide_eq_true h2,cond_true,slcP_pos (by omega),Option.bind_some]
  have e1:chkP (decide (0≤((0:Int)).toNat))=some ():=rfl
  have e2:chkP (decide ((a:Int).toNat≤(IntKind.wrap .i64 ((a:Int)+1)).toNat))=some ():=by
   rw [wrap_succ (by omega)];unfold chkP;rw [if_pos (by simp)]
  rw [e1,Option.bind_some,appP_ok (by simp;omega),Option.bind_some,e2,wrap_succ (by omega),slcP_pos (by omega),Option.bind_some,Option.bind_some,appP_ok (by simp;omega),Option.bind_some,List.eraseIdx_eq_take_drop_succ]
  congr 2
  simp only [Int.toNat_zero,List.drop_zero,Int.toNat_natCast,Nat.sub_zero,List.nil_append]
  rw [List.take_of_length_le (l:=c.drop (a+1)) (by simp)]
 rw [if_neg h2,decide_eq_false h2,cond_false]
 by_cases h3:m.1=3
 ·rw [if_pos h3,decide_eq_true h3,cond_true,firstI_any]
  cases s.2.any (fun p=>decide (p.1=m.2.2.2.2.1)) with
  | true=>rfl
  | false =>
   rw [cond_false,if_neg (by simp)]
   by_cases h5:5≤s.2.length
   ·rw [decide_eq_true (show (5:Int)≤(s.2.length:Int) by omega),if_pos h5];rfl
   rw [decide_eq_false (show ¬ (5:Int)≤(s.2.length:Int) by omega),if_neg h5,cond_false]
   rw [appP_ok (by simp;omega),Option.bind_some,appP_ok (by simp;omega),Option.bind_some,List.nil_append,appP_ok (by simp;omega),Option.bind_some]
   rfl
 rw [if_neg h3,decide_eq_false h3,cond_false]
 by_cases h4:m.1=4
 ·rw [if_pos h4,decide_eq_true h4,cond_true]
  rcases firstI_get (fun p:D_CSnap=>decide (p.1=m.2.2.2.2.1)) s.2 with ⟨e1,e2⟩ | ⟨k,p,e1,e2,e3,_⟩
  ·rw [e1,e2];rfl
  ·rw [e1,e2,decide_eq_false (show ¬ ((k:Int) < 0) by omega),cond_false]
   simp only [idx_nat,e3,Option.bind_some,Int.toNat_natCast]
   rfl
 rw [if_neg h4,decide_eq_false h4,cond_false]
 by_cases h5:m.1=5
 ·rw [if_pos h5,decide_eq_true h5,cond_true,s_l15Prune_eq (by omega),Option.bind_some]
  dsimp only
  rw [s_Dec_small _ (by omega)]
  rfl
 rw [if_neg h5,decide_eq_false h5,cond_false,s_l15Read_eq (by omega) hp]
 rfl
noncomputable def catDoD (c:D_Catalog) (m:D_Cmd):D_Catalog×ByteArray :=
 if catOkB c then (if !cmdOkB m||decide (m.1=0) then (c,ByteArray.empty) else if m.1=1 then createD c m.2.2.2.1 else if m.1=7 then (c,listD c) else
  match c.findIdx? (fun s=>decide (s.1=m.2.2.2.1)) with
  | none=>(c,tNone)
  | some a=>match c[a]? with
   | none=>(c,tNone)
   | some s=>catSetD c a s m) else ([],ByteArray.empty)
theorem cmdOk_bnd {m:D_Cmd} (h:cmdOkB m=true):m.2.2.2.1.size≤8∧m.2.2.2.2.1.size≤8∧m.2.2.2.2.2.1.size≤8∧m.2.2.2.2.2.2.2.length≤4∧∀ x,x∈m.2.2.2.2.2.2.2→x.size≤8:=by
 have hw:∀ {s:ByteArray} {b:Bool},wordIfB s b=true→s.size≤8:=by
  intro s b hb
  unfold wordIfB at hb
  split at hb
  ·exact word_size hb
  ·rw [of_decide_eq_true hb];decide
 unfold cmdOkB at h
 split at h
 ·rw [pB_iff] at h
  subst h
  exact ⟨by decide,by decide,by decide,by decide,fun x hx=>by cases hx⟩
 ·simp only [Bool.and_eq_true] at h
  obtain ⟨⟨⟨⟨⟨_,h4⟩,h5⟩,h6⟩,_⟩,h8⟩:=h
  refine ⟨hw h4,hw h5,hw h6,?_⟩
  split at h8
  ·unfold areChunksB at h8
   simp only [Bool.and_eq_true,decide_eq_true_eq,List.all_eq_true] at h8
   exact ⟨by omega,fun x hx=>by have:=h8.2 x hx;omega⟩
  ·simp only [decide_eq_true_eq] at h8
   have:m.2.2.2.2.2.2.2=[]:=by apply List.eq_nil_of_length_eq_zero;omega
   rw [this];exact ⟨by decide,fun x hx=>by cases hx⟩
theorem s_CatDo_eq {c:D_Catalog} {m:D_Cmd} (hc:Ok.ok c) (hm:Ok.ok m):s_CatDo c m=some (catDoD c m):=by
 unfold s_CatDo catDoD
 simp only [Prod.eta]
 rw [s_CatOk_eq hc,Option.bind_some]
 cases hk:catOkB c with
 | false=>rfl
 | true =>
  obtain ⟨hb,h5,h6⟩:=catOk_bnd hk
  rw [Bool.not_true,cond_false,s_l15Copy_eq hb,Option.bind_some,s_CmdOk_eq hm,Option.bind_some,if_pos rfl]
  cases hq:(!cmdOkB m||decide (m.1=0)) with
  | true=>rfl
  | false =>
   have hmk:cmdOkB m=true:=by
    cases h:cmdOkB m with
    | true=>rfl
    | false=>rw [h] at hq;simp at hq
   obtain ⟨_,_,_,m4,_⟩:=cmdOk_bnd hmk
   rw [cond_false,if_neg (by simp)]
   by_cases h1:m.1=1
   ·rw [decide_eq_true h1,cond_true,if_pos h1,s_l15Create_eq (by omega)];rfl
   rw [decide_eq_false h1,cond_false,if_neg h1]
   by_cases h7:m.1=7
   ·rw [decide_eq_true h7,cond_true,if_pos h7]
    rw [loop_pass (l:=c) (fun k (t:Bool×ByteArray)=>(t.2,(k:Int))) listStep (fun t=>some (c,t.2)) (fun k t=>t.1=decide (0 < k)∧t.2.size≤9*k) (false,ByteArray.empty) (s0:=(ByteArray.empty,0)) rfl ⟨rfl,Nat.le_refl _⟩]
    ·rfl
    ·intro k t p hx ht
     have hkl:=(List.getElem?_eq_some_iff.1 hx).1
     obtain ⟨b,a⟩:=t
     obtain ⟨rfl,ha⟩:=ht
     dsimp only at ha ⊢
     have h2:=hb.name p (List.mem_of_getElem? hx)
     simp only [lt_dec hkl,cond_true,idx_nat,hx,Option.bind_some]
     rcases Nat.eq_zero_or_pos k with h0 | h0
     ·subst h0
      rw [decide_eq_false (show ¬ (0:Int) < ((0:Nat):Int) by omega),cond_false,catP_ok (by omega),Option.bind_some,wrap_succ (by omega)]
      exact ⟨rfl,by simp [listStep],by simp [listStep,ByteArray.size_append];omega⟩
     ·rw [decide_eq_true (show (0:Int) < (k:Int) by omega),cond_true,show (ByteArray.mk #[32])=tSp from rfl,catP_ok (by rw [sz_sp];omega),Option.bind_some,catP_ok (by simp [ByteArray.size_append,sz_sp];omega),Option.bind_some,wrap_succ (by omega)]
      refine ⟨?_,by simp [listStep],?_⟩
      ·simp [listStep,decide_eq_true h0]
      ·simp [listStep,decide_eq_true h0,ByteArray.size_append,sz_sp];omega
    ·intro t ht
     simp only [ge_dec,cond_false]
   rw [decide_eq_false h7,cond_false,if_neg h7,s_l15At_eq' (by omega),Option.bind_some]
   rcases firstI_get (fun p:D_CSet=>decide (p.1=m.2.2.2.1)) c with ⟨e1,e2⟩ | ⟨k,p,e1,e2,e3,_⟩
   ·rw [e1,e2];rfl
   ·have hp:=List.mem_of_getElem? e3
    rw [e1,e2,decide_eq_false (show ¬ ((k:Int) < 0) by omega),cond_false,s_l15Set_eq (by omega) e3 (h6 p hp) (fun q hq=>⟨(hb.snap p hp q hq).1,(hb.snap p hp q hq).2.1⟩) (by omega),Option.bind_some]
    dsimp only
    rw [e3]
theorem insSet_mem (n:ByteArray):∀ (c:D_Catalog) (s:D_CSet),s∈insSet n c→s=(n,[])∨s∈c
 | [],s,h=>.inl (List.mem_singleton.1 h)
 | x::c,s,h=>by
  unfold insSet at h
  split at h
  ·rcases List.mem_cons.1 h with rfl | h
   ·exact .inl rfl
   ·exact .inr h
  ·rcases List.mem_cons.1 h with rfl | h
   ·exact .inr (List.mem_cons_self ..)
   ·rcases insSet_mem n c s h with h | h
    ·exact .inl h
    ·exact .inr (List.mem_cons_of_mem _ h)
theorem insSet_len (n:ByteArray):∀ c:D_Catalog,(insSet n c).length=c.length+1
 | []=>rfl
 | x::c=>by unfold insSet;split<;>simp [insSet_len n c]
theorem mem_set' {α:Type} {l:List α} {k:Nat} {x y:α} (h:y∈l.set k x):y=x∨y∈l:=by
 rcases List.mem_or_eq_of_mem_set h with h | h
 ·exact .inr h
 ·exact .inl h
theorem bnd_set {c:D_Catalog} (h:CBnd c) {k:Nat} {s:D_CSet} (h1:s.1.size≤8) (h2:s.2.length≤6) (h3:∀ p,p∈s.2→p.1.size≤8∧p.2.1.size≤8∧p.2.2.length≤4∧∀ x,x∈p.2.2→x.size≤8):CBnd (c.set k s) :=
 ⟨by rw [List.length_set];exact h.len,fun z hz=>by
  rcases mem_set' hz with rfl | hz
  ·exact h1
  ·exact h.name z hz,fun z hz=>by
  rcases mem_set' hz with rfl | hz
  ·exact h2
  ·exact h.snaps z hz,fun z hz=>by
  rcases mem_set' hz with rfl | hz
  ·exact h3
  ·exact h.snap z hz⟩
theorem bnd_nil:CBnd []:=⟨by decide,fun s h=>(by cases h),fun s h=>(by cases h),fun s h=>by cases h⟩
theorem catDo_bnd (c:D_Catalog) (m:D_Cmd):CBnd (catDoD c m).1:=by
 unfold catDoD
 split
 ·rename_i hk
  obtain ⟨hb,h5,h6⟩:=catOk_bnd hk
  split
  ·exact hb
  ·rename_i hq
   have hmk:cmdOkB m=true:=by
    cases h:cmdOkB m with
    | true=>rfl
    | false=>rw [h] at hq;simp at hq
   obtain ⟨m1,m2,m3,m4,m5⟩:=cmdOk_bnd hmk
   split
   ·unfold createD
    split
    ·exact hb
    ·split
     ·exact hb
     ·refine ⟨by rw [insSet_len];omega,fun s hs=>?_,fun s hs=>?_,fun s hs=>?_⟩
      all_goals rcases insSet_mem _ _ _ hs with rfl | hs
      ·exact m1
      ·exact hb.name s hs
      ·exact Nat.zero_le _
      ·exact hb.snaps s hs
      ·exact fun p hp=>by cases hp
      ·exact hb.snap s hs
   ·split
    ·exact hb
    ·split
     ·exact hb
     ·split
      ·exact hb
      ·rename_i s hs
       have hmem:=List.mem_of_getElem? hs
       have n1:=hb.name s hmem
       have n2:=h6 s hmem
       have n3:=hb.snap s hmem
       unfold catSetD
       split
       ·refine ⟨Nat.le_trans (List.length_eraseIdx_le _ _) hb.len,fun z hz=>hb.name z (List.mem_of_mem_eraseIdx hz),fun z hz=>hb.snaps z (List.mem_of_mem_eraseIdx hz),fun z hz=>hb.snap z (List.mem_of_mem_eraseIdx hz)⟩
       ·split
        ·split
         ·exact hb
         ·split
          ·exact hb
          ·refine bnd_set hb n1 (by simp;omega) fun p hp=>?_
           rcases List.mem_append.1 hp with hp | hp
           ·exact n3 p hp
           ·rw [List.mem_singleton.1 hp];exact ⟨m2,Nat.zero_le _,m4,m5⟩
        ·split
         ·split
          ·exact hb
          ·split
           ·exact hb
           ·rename_i p hpk
            obtain ⟨q1,q2,q3,q4⟩:=n3 p (List.mem_of_getElem? hpk)
            refine bnd_set hb n1 (by rw [List.length_set];omega) fun p' hp'=>?_
            rcases mem_set' hp' with rfl | hp'
            ·exact ⟨q1,m3,q3,q4⟩
            ·exact n3 p' hp'
         ·split
          ·refine bnd_set hb n1 ?_ fun p hp=>?_
           ·have:=(prune_len m.2.2.2.2.2.2.1 s.2 ((bareN s.2:Int),[])).1
            show (pruneD s.2 _).length≤6
            unfold pruneD;simp at this;omega
           ·rcases (prune_len m.2.2.2.2.2.2.1 s.2 ((bareN s.2:Int),[])).2 p hp with h | h
            ·cases h
            ·exact n3 p h
          ·exact hb
 ·exact bnd_nil
end Go.Proofs.SL
namespace Go.Proofs.SL
open Go
structure MB (m:D_Cmd):Prop where
 k:inR m.1
 cl:inR m.2.1
 no:inR m.2.2.1
 s1:m.2.2.2.1.size≤9
 s2:m.2.2.2.2.1.size≤9
 s3:m.2.2.2.2.2.1.size≤9
 n:inR m.2.2.2.2.2.2.1
 len:m.2.2.2.2.2.2.2.length≤5
 ch:∀ x,x∈m.2.2.2.2.2.2.2→x.size≤9
theorem MB.ok {m:D_Cmd} (h:MB m):Ok.ok m :=
 ⟨h.k,h.cl,h.no,by have:=h.s1;show _≤_;omega,by have:=h.s2;show _≤_;omega,by have:=h.s3;show _≤_;omega,h.n,by have:=h.len;omega,fun x hx=>by have:=h.ch x hx;show x.size≤_;omega⟩
end Go.Proofs.SL
namespace Go.Proofs.SL
open Go
theorem whileP_inl {σ σ' α:Type} {f:σ→Option (σ ⊕ (σ' ⊕ α))} (I:σ→Prop) (μ:σ→Nat) (P:σ'→Prop)
  (h:∀ s,I s→(∃ s',f s=some (.inl s')∧I s'∧μ s' < μ s)∨∃ s',f s=some (.inr (.inl s'))∧P s') (s:σ) (hs:I s):∃ s',whileP f s=some (.inl s')∧P s':=by
 obtain ⟨r,h1,s',h2,h3⟩:=whileP_rule I μ (fun r:σ' ⊕ α=>∃ s',r=.inl s'∧P s') (fun s hi=>by
  rcases h s hi with h | ⟨s',h1,h2⟩
  ·exact .inl h
  ·exact .inr ⟨_,h1,_,rfl,h2⟩) s hs
 exact ⟨s',by rw [h1,h2],h3⟩
end Go.Proofs.SL
namespace Go.Proofs.SL
open Go
end Go.Proofs.SL
namespace Go.Proofs.SL
open Go
theorem i_Catalog_set_eq {c:D_Catalog} {n:ByteArray} (h:c.length≤9223372036854775807):i_Catalog_set c n=some (firstI (fun s:D_CSet=>decide (s.1=n)) c):=by
 unfold i_Catalog_set sl_IndexFunc_implCSetimplCSet i_Catalog_set_c1
 rw [whileP_find (fun s:D_CSet=>decide (s.1=n)) some h]
 ·rfl
 ·intro k x hx
  simp only [lt_dec (List.getElem?_eq_some_iff.1 hx).1,cond_true,idx_nat,hx,Option.bind_some]
  cases decide (x.1=n)<;>rfl
 ·simp only [ge_dec];rfl
end Go.Proofs.SL
namespace Go.Proofs.SL
open Go
section
variable {α β:Type}
end
section
variable {σ τ α:Type}
end
theorem u8_mod (m:Nat):u8P (IntKind.wrap .u8 ((m % 256:Nat):Int))=some (UInt8.ofNat m):=by
 rw [IntKind.wrap_u8,show ((m % 256:Nat):Int) % 256=((m % 256:Nat):Int) by omega]
 unfold u8P
 rw [if_pos (by omega),show (((m % 256:Nat):Int)).toNat=m % 256 by omega]
 congr 1
 apply UInt8.toNat_inj.1
 simp
end Go.Proofs.SL
namespace Go.Proofs.SL
open Go
abbrev Bs:=List UInt8
theorem strP_size (a:Bs):(strP a).size=a.length:=rfl
def varL (n:Nat):Bs:=if h:n < 128 then [UInt8.ofNat n] else UInt8.ofNat (128+n % 128)::varL (n / 128)
termination_by n
decreasing_by omega
theorem or128:∀ x:Fin 128,bits .or .i64 ((x.val:Nat):Int) 128=((128+x.val:Nat):Int):=by decide
theorem and127 {m:Nat} (h:m < 9223372036854775808):bits .and .i64 (m:Int) 127=((m % 128:Nat):Int):=by
 show IntKind.wrap .i64 (((BitVec.ofInt 64 (m:Int)) &&& (BitVec.ofInt 64 127)).toNat:Int)=_
 rw [BitVec.toNat_and,show (BitVec.ofInt 64 127).toNat=2 ^ 7 - 1 by decide,Nat.and_two_pow_sub_one_eq_mod,BitVec.toNat_ofInt]
 rw [wrap64_in (by unfold inR;omega)]
 omega
theorem u8_nat {m:Nat} (h:m < 256):u8P (IntKind.wrap .u8 (m:Int))=some (UInt8.ofNat m):=by
 have:=u8_mod m
 rw [show m % 256=m by omega] at this;exact this
theorem varL_len:∀ (k n:Nat),n < 128 ^ (k+1)→1≤(varL n).length∧(varL n).length≤k+1
 | 0,n,h=>by
  rw [varL,dif_pos (by simpa using h)];simp
 | k+1,n,h=>by
  rw [varL]
  split
  ·simp
  ·have:=varL_len k (n / 128) (by
    rw [Nat.div_lt_iff_lt_mul (by omega),← Nat.pow_succ];exact h)
   rw [List.length_cons];omega
theorem varL_7 {n:Nat} (h:n≤562949953421311):1≤(varL n).length∧(varL n).length≤7:=varL_len 6 n (by
 have:(128:Nat) ^ 7=562949953421312:=by decide
 omega)
theorem var_loop {n:Nat} (h:n≤562949953421311) {f:Int×Bs→Option ((Int×Bs) ⊕ ByteArray)}
  (h1:∀ (m:Nat) (acc:Bs),128≤m→m≤n→acc.length≤7→f ((m:Int),acc)=some (.inl (((m / 128:Nat):Int),acc++[UInt8.ofNat (128+m % 128)])))
  (h2:∀ (m:Nat) (acc:Bs),m < 128→acc.length≤7→f ((m:Int),acc)=some (.inr (strP (acc++[UInt8.ofNat m])))):whileP f ((n:Int),[])=some (strP (varL n)):=by
 refine whileP_is (fun s:Int×Bs=>∃ m:Nat,s.1=(m:Int)∧m≤n∧s.2++varL m=varL n) (fun s=>s.1.toNat) ?_ ⟨n,rfl,Nat.le_refl _,rfl⟩
 rintro ⟨m',acc⟩ ⟨m,rfl,hm,he⟩
 dsimp only at he ⊢
 have hl:acc.length≤7:=by
  have:=congrArg List.length he
  rw [List.length_append] at this
  have:=(varL_7 h).2
  omega
 by_cases h0:m < 128
 ·right
  rw [h2 m acc h0 hl,← he,varL,dif_pos h0]
 ·left
  refine ⟨_,h1 m acc (by omega) hm hl,⟨m / 128,rfl,by omega,?_⟩,?_⟩
  ·dsimp only
   rw [← he,List.append_assoc]
   conv=>rhs;rw [varL,dif_neg h0]
   rfl
  ·dsimp only;omega
theorem i_Var_eq {n:Nat} (h:n≤562949953421311):i_Var (n:Int)=some (strP (varL n)):=by
 unfold i_Var
 rw [within_eq,Option.bind_some,show decide (0≤(n:Int)∧(n:Int)≤562949953421311)=true from decide_eq_true (by omega),Bool.not_true,cond_false,Option.bind_some]
 refine var_loop h (fun m acc hm hn hl=>?_) (fun m acc hm hl=>?_)
 ·dsimp only
  rw [decide_eq_true (by omega),cond_true,and127 (by omega),or128 ⟨m % 128,by omega⟩,u8_nat (by dsimp only;omega),Option.bind_some,appP_ok (by simp;omega),Option.bind_some]
  congr 4
 ·dsimp only
  rw [decide_eq_false (by omega),cond_false,u8_nat (by omega),Option.bind_some,appP_ok (by simp;omega)]
  rfl
theorem s_Var_eq {n:Nat} (h:n≤562949953421311):s_Var (n:Int)=some (strP (varL n)):=by
 unfold s_Var
 rw [l1In_eq,Option.bind_some,show decide (0≤(n:Int)∧(n:Int)≤562949953421311)=true from decide_eq_true (by omega),Bool.not_true,cond_false,Option.bind_some]
 refine var_loop h (fun m acc hm hn hl=>?_) (fun m acc hm hl=>?_)
 ·dsimp only
  have e1:(m:Int).tmod 128=((m % 128:Nat):Int):=by rw [Int.tmod_eq_emod_of_nonneg (by omega)];omega
  have e2:(m:Int).tdiv 128=((m / 128:Nat):Int):=by rw [Int.tdiv_eq_ediv_of_nonneg (by omega)];omega
  rw [decide_eq_true (by omega),cond_true,e1,e2,wrap64_in (n:=128+_) (by unfold inR;omega),show (128:Int)+((m % 128:Nat):Int)=((128+m % 128:Nat):Int) by omega,u8_nat (by omega),Option.bind_some,appP_ok (by simp;omega),Option.bind_some,wrap64_in (by unfold inR;omega)]
 ·dsimp only
  rw [decide_eq_false (by omega),cond_false,u8_nat (by omega),Option.bind_some,appP_ok (by simp;omega)]
  rfl
end Go.Proofs.SL
namespace Go.Proofs.SL
open Go
section
variable {σ α:Type} {f:σ→Option (σ ⊕ α)}
end
end Go.Proofs.SL
namespace Go.Proofs.SL
open Go
section
variable {β:Type}
end
end Go.Proofs.SL
namespace Go.Proofs.SL
open Go
end Go.Proofs.SL
