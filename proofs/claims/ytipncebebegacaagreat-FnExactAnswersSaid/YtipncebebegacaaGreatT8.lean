/- The texts of the proof, part 8: the base, walks of functions, plain Lean. -/
import Derived.Test.YtipncebebegacaaGreatT7
import Derived.Test.YtipncebebegacaaGreatT6
import Derived.Test.YtipncebebegacaaGreatT3
namespace Go.Proofs.SL
open Go
theorem l1In_eq (x a b:Int):s_l1In x a b=some (decide (a≤x∧x≤b)):=by
 unfold s_l1In;rw [Bool.decide_and]
theorem within_eq (x a b:Int):i_within x a b=some (decide (a≤x∧x≤b)):=by
 unfold i_within;rw [Bool.decide_and]
theorem firstI_some {α:Type} {p:α→Bool} {xs:List α} {k:Nat} (h:xs.findIdx? p=some k):firstI p xs=(k:Int):=by unfold firstI;rw [h]
theorem firstI_none {α:Type} {p:α→Bool} {xs:List α} (h:xs.findIdx? p=none):firstI p xs=-1:=by unfold firstI;rw [h]
theorem gbs {α β:Type} [Inhabited α] (g:Bool) (a:α) (k:α→Option β):gb g (some a) k=if g then k a else k default:=by cases g<;>rfl
theorem prev_idx' {δ:Type} {l:List δ} {k:Nat} (hk:k < l.length) (hl:l.length≤9223372036854775807) (h0:0 < k):∃ r,l[k - 1]?=some r∧idx l (IntKind.wrap .i64 ((k:Int) - 1))=some r:=by
 refine ⟨l[k - 1],List.getElem?_eq_getElem (by omega),?_⟩
 rw [wrap64_in (by unfold inR;omega),show ((k:Int) - 1)=((k - 1:Nat):Int) by omega,idx_nat]
 exact List.getElem?_eq_getElem (by omega)
theorem gb_none {α β:Type} [Inhabited α] (g:Bool) (o:Option α) (k:α→Option β) (h:g=false):gb g o k=k default:=by subst h;rfl
theorem sidx_lt {s:ByteArray} {k:Nat} (h:k < s.size):∃ n,sidx s (k:Int)=some n∧0≤n∧n < 256:=by
 refine ⟨((s[k]'h).toNat:Int),?_,by omega,by have:=(s[k]'h).toNat_lt;omega⟩
 unfold sidx
 rw [dif_pos ⟨by omega,by simpa using h⟩]
 simp
theorem each_loop {β γ:Type} {l:List γ} {p:γ→Bool} {no yes:Option β} {f:Int→Option (Int ⊕ β)} (hl:l.length≤9223372036854775807)
  (hf:∀ (k:Nat) (x:γ),l[k]?=some x→f (k:Int)=if p x then some (.inl (IntKind.wrap .i64 ((k:Int)+1))) else no.map .inr) (hn:f (l.length:Int)=yes.map .inr) :
  whileP f 0=if l.all p then yes else no:=by
 rw [whileP_all (n:=l.length) (fun k=>(l[k]?).all p) no yes ?_ hn,all_range_get]
 intro k hk
 rw [hf k l[k] (List.getElem?_eq_getElem hk),List.getElem?_eq_getElem hk,wrap_succ (by omega)]
 rfl
theorem bds_mem {τ δ:Type} [GT τ δ] [Bk τ] [Bd τ] {l:List δ} {x:δ} (h:x∈l):Bd.bd (τ:=τ) x≤bds τ l:=by
 induction l with
 | nil=>cases h
 | cons y ys ih =>
  rcases List.mem_cons.1 h with rfl | h
  ·simp only [bds];omega
  ·have:=ih h;simp only [bds];omega
end Go.Proofs.SL
namespace Go.Proofs.SL
open Go
theorem pairwise_of_step {α:Type} {R:α→α→Prop} (tr:∀ a b c,R a b→R b c→R a c):∀ (l:List α),(∀ k (h:k+1 < l.length),R l[k] l[k+1])→l.Pairwise R
 | [],_=>List.Pairwise.nil
 | [a],_=>List.pairwise_singleton _ _
 | a::b::l,h=>by
  have ih:=pairwise_of_step tr (b::l) (fun k hk=>h (k+1) (by simp at hk ⊢;omega))
  refine List.pairwise_cons.2 ⟨fun x hx=>?_,ih⟩
  have h0:R a b:=h 0 (by simp)
  rcases List.mem_cons.1 hx with rfl | hx
  ·exact h0
  ·exact tr _ _ _ h0 (List.rel_of_pairwise_cons ih hx)
end Go.Proofs.SL
namespace Go.Proofs.SL
open Go
theorem isRep_eq (x:Int):i_isRep x=some (decide (0≤x∧x < 3)):=by
 unfold i_isRep
 rw [within_eq,show decide (0≤x∧x≤2)=decide (0≤x∧x < 3) by rw [Bool.eq_iff_iff];simp;omega];rfl
theorem l9Node_eq (x:Int):s_l9Node x=some (decide (0≤x∧x < 3)):=by unfold s_l9Node;rw [Bool.decide_and]
def nodeOk (ns:List Int) (k:Nat):Bool:=match ns[k]? with
 | none=>false
 | some n=>decide (0≤n∧n < 3)&&(decide (k=0)||(ns[k - 1]?).all fun r=>decide (r < n))
def nodesOk (ns:List Int):Bool:=(List.range ns.length).all (nodeOk ns)
theorem firstI_any {α:Type} (p:α→Bool) (l:List α):decide (0≤firstI p l)=l.any p:=by
 rcases firstI_find p l with ⟨h1,h2⟩ | ⟨k,x,h1,h2,h3,_⟩
 ·rw [h1]
  cases h:l.any p with
  | false=>rfl
  | true =>
   obtain ⟨x,hx,hp⟩:=List.any_eq_true.1 h
   exact absurd hp (List.find?_eq_none.1 h2 x hx)
 ·rw [h1,show decide (0≤(k:Int))=true by simp]
  symm
  exact List.any_eq_true.2 ⟨x,List.mem_of_getElem? h2,List.find?_some h3⟩
theorem foldl_filter' {β:Type} (p:β→Bool):∀ (xs acc:List β),xs.foldl (fun t x=>if p x then t++[x] else t) acc=acc++xs.filter p
 | [],acc=>by simp
 | x::xs,acc=>by
  rw [List.foldl_cons]
  cases hp:p x with
  | true=>simp only [if_true];rw [foldl_filter' p xs];simp [hp]
  | false=>simp only [Bool.false_eq_true,if_false];rw [foldl_filter' p xs];simp [hp]
theorem nodesOk_facts {ns:List Int} (h:nodesOk ns=true):(∀ n,n∈ns→0≤n∧n < 3)∧ns.Pairwise (· < ·):=by
 unfold nodesOk at h
 simp only [List.all_eq_true,List.mem_range] at h
 have h1:∀ n,n∈ns→0≤n∧n < 3:=fun n hn=>by
  obtain ⟨k,hk⟩:=List.getElem?_of_mem hn
  have:=h k (List.getElem?_eq_some_iff.1 hk).1
  unfold nodeOk at this
  rw [hk] at this
  simp only [Bool.and_eq_true,decide_eq_true_eq] at this
  exact this.1
 refine ⟨h1,pairwise_of_step (R:=(· < ·)) (fun a b c=>Int.lt_trans) ns fun k hk=>?_⟩
 have:=h (k+1) hk
 unfold nodeOk at this
 rw [List.getElem?_eq_getElem hk] at this
 simp only [Bool.and_eq_true,decide_eq_true_eq,Bool.or_eq_true,Nat.add_sub_cancel,List.getElem?_eq_getElem (show k < ns.length by omega),Option.all_some] at this
 rcases this.2 with h2 | h2
 ·omega
 ·exact h2
theorem sorted_le:∀ {l:List Int} {a b:Int},l.Pairwise (· < ·)→(∀ n,n∈l→a≤n∧n < b)→(l.length:Int)≤max 0 (b - a)
 | [],a,b,_,_=>by simp;omega
 | x::l,a,b,h1,h2=>by
  obtain ⟨h3,h4⟩:=List.pairwise_cons.1 h1
  have hx:=h2 x (List.mem_cons_self ..)
  have:=sorted_le (a:=x+1) (b:=b) h4 (fun n hn=>⟨by have:=h3 n hn;omega,(h2 n (List.mem_cons_of_mem _ hn)).2⟩)
  simp only [List.length_cons]
  omega
theorem nodes_le {l:List Int} (h1:∀ n,n∈l→0≤n∧n < 3) (h2:l.Pairwise (· < ·)):l.length≤3:=by
 have:=sorted_le h2 h1
 omega
end Go.Proofs.SL
namespace Go.Proofs.SL
open Go
def letter (s:ByteArray) (k:Nat):Bool:=match sidx s (k:Int) with
 | some n=>!(decide (n < 97)||decide (122 < n))
 | none=>false
def isWordB (s:ByteArray):Bool:=decide (1≤(s.size:Int)∧(s.size:Int)≤8)&&(List.range s.size).all (letter s)
theorem word_loop {β:Type} {s:ByteArray} {no yes:Option β} {f:Int→Option (Int ⊕ β)} (hl:s.size≤9223372036854775807)
  (hf:∀ (k:Nat) (n:Int),k < s.size→sidx s (k:Int)=some n→f (k:Int)=if !(decide (n < 97)||decide (122 < n)) then some (.inl (IntKind.wrap .i64 ((k:Int)+1))) else no.map .inr) (hn:f (s.size:Int)=yes.map .inr) :
  whileP f 0=if (List.range s.size).all (letter s) then yes else no:=by
 refine whileP_all (letter s) no yes (fun k hk=>?_) hn
 obtain ⟨n,hs,_,_⟩:=sidx_lt hk
 rw [hf k n hk hs,wrap_succ (by omega)]
 unfold letter
 rw [hs]
theorem s_l4Word_eq {s:ByteArray} (hl:s.size≤9223372036854775807):s_l4Word s=some (isWordB s):=by
 unfold s_l4Word isWordB
 rw [l1In_eq]
 cases h:decide (1≤(s.size:Int)∧(s.size:Int)≤8) with
 | false=>rfl
 | true =>
  simp only [Option.bind_some,Bool.not_true,cond_false,Bool.true_and]
  rw [word_loop (no:=some false) (yes:=some true) hl]
  ·cases (List.range s.size).all (letter s)<;>rfl
  ·intro k n hk hs
   simp only [lt_dec hk,cond_true,hs,Option.bind_some]
   rw [show ∀ (g:Bool) (q:Int→Option (Int ⊕ Bool)),gb g (some n) q=if g then q n else q default from fun g q=>by cases g<;>rfl]
   cases decide (n < 97)<;>cases decide (122 < n)<;>rfl
  ·simp only [ge_dec];rfl
theorem i_isWord_eq {s:ByteArray} (hl:s.size≤9223372036854775807):i_isWord s=some (isWordB s):=by
 unfold i_isWord isWordB
 simp only [within_eq,Option.bind_some]
 rw [word_loop (no:=some false) (yes:=some (decide (1≤(s.size:Int)∧(s.size:Int)≤8))) hl]
 ·cases (List.range s.size).all (letter s)<;>simp
 ·intro k n hk hs
  simp only [lt_dec hk,cond_true,hs,Option.bind_some]
  rw [show ∀ (g:Bool) (q:Int→Option (Int ⊕ Bool)),gb g (some n) q=if g then q n else q default from fun g q=>by cases g<;>rfl]
  cases decide (n < 97)<;>cases decide (122 < n)<;>rfl
 ·simp only [ge_dec];rfl
def wordIfB (s:ByteArray) (is:Bool):Bool:=if is then isWordB s else decide (s=ByteArray.empty)
theorem s_l4May_eq {s:ByteArray} {b:Bool} (hl:s.size≤9223372036854775807):s_l4May s b=some (wordIfB s b):=by
 unfold s_l4May wordIfB
 rw [s_l4Word_eq hl]
 cases b<;>rfl
theorem i_wordIf_eq {s:ByteArray} {b:Bool} (hl:s.size≤9223372036854775807):i_wordIf s b=some (wordIfB s b):=by
 unfold i_wordIf wordIfB
 rw [i_isWord_eq hl]
 cases b<;>rfl
def areChunksB (l:List ByteArray):Bool:=l.all fun c=>decide ((c.size:Int)=8)
theorem i_areChunks_eq {l:List ByteArray} (hl:l.length≤9223372036854775807):i_areChunks l=some (areChunksB l):=by
 unfold i_areChunks areChunksB
 rw [each_loop (p:=fun c=>decide ((c.size:Int)=8)) (no:=some false) (yes:=some true) hl]
 ·cases l.all _<;>rfl
 ·intro k x hx
  simp only [lt_dec (List.getElem?_eq_some_iff.1 hx).1,cond_true,idx_nat,hx,Option.bind_some]
  cases decide ((x.size:Int)=8)<;>rfl
 ·simp only [ge_dec];rfl
theorem s_l4Texts_eq {a b:List ByteArray} (hl:a.length≤9223372036854775807):s_l4Texts a b=some (decide (a=b)):=by
 unfold s_l4Texts
 by_cases h:a.length=b.length
 ·rw [show decide ((a.length:Int)=(b.length:Int))=true by simp;omega]
  simp only [Bool.not_true,cond_false]
  rw [whileP_all (n:=a.length) (fun k=>decide (a[k]?=b[k]?)) (some false) (some true)]
  ·by_cases e:a=b
   ·subst e;simp
   ·rw [decide_eq_false e]
    have:(List.range a.length).all (fun k=>decide (a[k]?=b[k]?))=false:=by
     rw [Bool.eq_false_iff]
     intro hh
     refine e (List.ext_getElem? fun i=>?_)
     by_cases hi:i < a.length
     ·simpa using List.all_eq_true.1 hh i (List.mem_range.2 hi)
     ·rw [List.getElem?_eq_none (by omega),List.getElem?_eq_none (by omega)]
    rw [this];rfl
  ·intro k hk
   have h1:a[k]?=some a[k]:=List.getElem?_eq_getElem hk
   have h2:b[k]?=some (b[k]'(by omega)):=List.getElem?_eq_getElem (by omega)
   simp only [lt_dec hk,cond_true,idx_nat,h1,h2,Option.bind_some,wrap_succ (show k < 9223372036854775807 by omega),Option.some.injEq]
   cases decide (a[k]=b[k]'(by omega))<;>rfl
  ·simp only [ge_dec];rfl
 ·rw [show decide ((a.length:Int)=(b.length:Int))=false by simp;omega,decide_eq_false (fun e=>h (by rw [e]))];rfl
theorem s_SameCmd_eq {a b:D_Cmd} (ho:Ok.ok a):s_SameCmd a b=some (pB (a=b)):=by
 obtain ⟨a1,a2,a3,a4,a5,a6,a7,a8⟩:=a
 obtain ⟨b1,b2,b3,b4,b5,b6,b7,b8⟩:=b
 have hl:a8.length≤9223372036854775807:=ho.2.2.2.2.2.2.2.1
 unfold s_SameCmd
 rw [s_l4Texts_eq hl,gb_some (fun h=>by rw [h];simp)]
 congr 1
 rw [Bool.eq_iff_iff,pB_iff]
 simp [and_assoc]
theorem i_SameCmd_eq {a b:D_Cmd} (ho:Ok.ok a):i_SameCmd a b=some (pB (a=b)):=s_SameCmd_eq ho
def noCmd:D_Cmd:=(0,0,0,ByteArray.empty,ByteArray.empty,ByteArray.empty,0,[])
noncomputable def cmdOkB (c:D_Cmd):Bool :=
 if c.1=0 then pB (c=noCmd) else
  decide (1≤c.1∧c.1≤7)&&decide (1≤c.2.1∧c.2.1≤9)&&decide (1≤c.2.2.1∧c.2.2.1≤1000)&&wordIfB c.2.2.2.1 (!decide (c.1=7))&&wordIfB c.2.2.2.2.1 (decide (c.1=3)||decide (c.1=4))&&wordIfB c.2.2.2.2.2.1 (decide (c.1=4)) &&
  (decide (c.2.2.2.2.2.2.1=0)||(decide (c.1=5)&&decide (0≤c.2.2.2.2.2.2.1∧c.2.2.2.2.2.2.1≤9)))&&(if c.1=3 then decide (1≤(c.2.2.2.2.2.2.2.length:Int)∧(c.2.2.2.2.2.2.2.length:Int)≤4)&&areChunksB c.2.2.2.2.2.2.2 else decide ((c.2.2.2.2.2.2.2.length:Int)=0))
set_option maxHeartbeats 1000000 in
theorem i_CmdOk_eq {c:D_Cmd} (ho:Ok.ok c):i_CmdOk c=some (cmdOkB c):=by
 have hl:c.2.2.2.2.2.2.2.length≤9223372036854775807:=ho.2.2.2.2.2.2.2.1
 have h4:c.2.2.2.1.size≤9223372036854775807:=ho.2.2.2.1
 have h5:c.2.2.2.2.1.size≤9223372036854775807:=ho.2.2.2.2.1
 have h6:c.2.2.2.2.2.1.size≤9223372036854775807:=ho.2.2.2.2.2.1
 unfold i_CmdOk cmdOkB
 simp only [i_SameCmd_eq ho,within_eq,i_wordIf_eq h4,i_wordIf_eq h5,i_wordIf_eq h6,i_areChunks_eq hl,Option.bind_some,gbs]
 by_cases h0:c.1=0
 ·rw [if_pos h0,decide_eq_true h0];rfl
 ·rw [if_neg h0,decide_eq_false h0]
  generalize wordIfB c.2.2.2.1 _=W1
  generalize wordIfB c.2.2.2.2.1 _=W2
  generalize wordIfB c.2.2.2.2.2.1 _=W3
  generalize areChunksB c.2.2.2.2.2.2.2=W4
  by_cases h5:c.1=5
  ·simp only [h5]
   cases decide (1≤c.2.1∧c.2.1≤9)<;>cases decide (1≤c.2.2.1∧c.2.2.1≤1000)<;>cases W1<;>cases W2<;>cases W3<;>cases decide (c.2.2.2.2.2.2.1=0)<;>cases decide (0≤c.2.2.2.2.2.2.1∧c.2.2.2.2.2.2.1≤9)<;>simp
  ·by_cases h3:c.1=3
   ·simp only [h3]
    cases decide (1≤c.2.1∧c.2.1≤9)<;>cases decide (1≤c.2.2.1∧c.2.2.1≤1000)<;>cases W1<;>cases W2<;>cases W3<;>cases decide (c.2.2.2.2.2.2.1=0)<;>cases decide (1≤(c.2.2.2.2.2.2.2.length:Int)∧(c.2.2.2.2.2.2.2.length:Int)≤4)<;>simp
   ·rw [decide_eq_false h5,decide_eq_false h3,if_neg h3]
    cases decide (1≤c.1∧c.1≤7)<;>cases decide (1≤c.2.1∧c.2.1≤9)<;>cases decide (1≤c.2.2.1∧c.2.2.1≤1000)<;>cases W1<;>cases W2<;>cases W3<;>cases decide (c.2.2.2.2.2.2.1=0)<;>simp
set_option maxHeartbeats 1000000 in
theorem s_CmdOk_eq {c:D_Cmd} (ho:Ok.ok c):s_CmdOk c=some (cmdOkB c):=by
 have hl:c.2.2.2.2.2.2.2.length≤9223372036854775807:=ho.2.2.2.2.2.2.2.1
 have h4:c.2.2.2.1.size≤9223372036854775807:=ho.2.2.2.1
 have h5:c.2.2.2.2.1.size≤9223372036854775807:=ho.2.2.2.2.1
 have h6:c.2.2.2.2.2.1.size≤9223372036854775807:=ho.2.2.2.2.2.1
 unfold s_CmdOk cmdOkB
 simp only [s_SameCmd_eq ho,l1In_eq,s_l4May_eq h4,s_l4May_eq h5,s_l4May_eq h6,Option.bind_some,gbs]
 rw [each_loop (p:=fun c=>decide ((c.size:Int)=8)) (no:=some false) (yes:=some true) hl]
 rotate_left
 ·intro k x hx
  simp only [lt_dec (List.getElem?_eq_some_iff.1 hx).1,cond_true,idx_nat,hx,Option.bind_some]
  cases decide ((x.size:Int)=8)<;>rfl
 ·simp only [ge_dec];rfl
 by_cases h0:c.1=0
 ·rw [if_pos h0,decide_eq_true h0,decide_eq_true (show 0≤c.1∧c.1≤7 by omega)];rfl
 ·rw [if_neg h0,decide_eq_false h0]
  have e7:decide (0≤c.1∧c.1≤7)=decide (1≤c.1∧c.1≤7):=by rw [Bool.eq_iff_iff];simp;omega
  rw [e7]
  show _=some (_&&(if c.1=3 then _&&c.2.2.2.2.2.2.2.all (fun c=>decide ((c.size:Int)=8)) else _))
  generalize wordIfB c.2.2.2.1 _=W1
  generalize wordIfB c.2.2.2.2.1 _=W2
  generalize wordIfB c.2.2.2.2.2.1 _=W3
  generalize c.2.2.2.2.2.2.2.all _=W4
  by_cases h5:c.1=5
  ·simp only [h5]
   cases decide (1≤c.2.1∧c.2.1≤9)<;>cases decide (1≤c.2.2.1∧c.2.2.1≤1000)<;>cases W1<;>cases W2<;>cases W3<;>cases decide (c.2.2.2.2.2.2.1=0)<;>cases decide (0≤c.2.2.2.2.2.2.1∧c.2.2.2.2.2.2.1≤9)<;>simp
  ·by_cases h3:c.1=3
   ·simp only [h3]
    cases decide (1≤c.2.1∧c.2.1≤9)<;>cases decide (1≤c.2.2.1∧c.2.2.1≤1000)<;>cases W1<;>cases W2<;>cases W3<;>cases decide (c.2.2.2.2.2.2.1=0)<;>cases decide (1≤(c.2.2.2.2.2.2.2.length:Int)∧(c.2.2.2.2.2.2.2.length:Int)≤4)<;>cases W4<;>simp
   ·rw [decide_eq_false h5,decide_eq_false h3,if_neg h3]
    cases decide (1≤c.1∧c.1≤7)<;>cases decide (1≤c.2.1∧c.2.1≤9)<;>cases decide (1≤c.2.2.1∧c.2.2.1≤1000)<;>cases W1<;>cases W2<;>cases W3<;>cases decide (c.2.2.2.2.2.2.1=0)<;>simp
end Go.Proofs.SL
namespace Go.Proofs.SL
open Go
def idOkB (x:D_Id):Bool:=decide (0≤x.1∧x.1≤2)&&decide (1≤x.2∧x.2≤6)
theorem s_l8Id_eq (x:D_Id):s_l8Id x=some (idOkB x):=by
 unfold s_l8Id idOkB
 simp only [l1In_eq,Option.bind_some,gbs]
 cases decide (0≤x.1∧x.1≤2)<;>cases decide (1≤x.2∧x.2≤6)<;>rfl
theorem i_idOk_eq (x:D_Id):i_idOk x=some (idOkB x):=by
 unfold i_idOk idOkB
 simp only [within_eq,Option.bind_some,gbs]
 cases decide (0≤x.1∧x.1≤2)<;>cases decide (1≤x.2∧x.2≤6)<;>rfl
def idLt (a b:D_Id):Bool:=decide (a.1 < b.1)||(decide (a.1=b.1)&&decide (a.2 < b.2))
theorem s_l8Less_eq (a b:D_Id):s_l8Less a b=some (idLt a b):=rfl
theorem compareIds_eq (a b:D_Id):∃ c,i_compareIds a b=some c∧decide (0≤c)=!idLt a b:=by
 unfold i_compareIds idLt
 cases h:decide (a.1 < b.1)||(decide (a.1=b.1)&&decide (a.2 < b.2)) with
 | true=>exact ⟨-1,rfl,rfl⟩
 | false =>
  cases h2:decide (a.1=b.1)&&(decide (a.2=b.2)&&true) with
  | true=>exact ⟨0,rfl,rfl⟩
  | false=>exact ⟨1,rfl,rfl⟩
def idEq (a b:D_Id):Bool:=decide (a.1=b.1)&&(decide (a.2=b.2)&&true)
theorem idEq_comm (a b:D_Id):idEq a b=idEq b a:=by unfold idEq;rw [Bool.eq_iff_iff];simp only [Bool.and_eq_true,decide_eq_true_eq,and_true];constructor<;>(rintro ⟨h1,h2⟩;exact ⟨h1.symm,h2.symm⟩)
def idAt (l:List D_Id) (k:Nat):Bool:=match l[k]? with
 | none=>false
 | some x=>idOkB x&&(decide (k=0)||(l[k - 1]?).all fun r=>idLt r x)
def idsOkB (l:List D_Id):Bool:=(List.range l.length).all (idAt l)
theorem s_IdsOk_eq {l:List D_Id} (hl:l.length≤9223372036854775807):s_IdsOk l=some (idsOkB l):=by
 unfold s_IdsOk idsOkB
 rw [whileP_all (n:=l.length) (idAt l) (some false) (some true)]
 ·cases (List.range l.length).all (idAt l)<;>rfl
 ·intro k hk
  have hx:l[k]?=some l[k]:=List.getElem?_eq_getElem hk
  generalize l[k]=x at hx
  simp only [lt_dec hk,cond_true,idx_nat,hx,Option.bind_some,Prod.eta,s_l8Id_eq,s_l8Less_eq,wrap_succ (show k < 9223372036854775807 by omega)]
  unfold idAt
  simp only [hx]
  rcases Nat.eq_zero_or_pos k with h0 | h0
  ·subst h0
   rw [gb_none _ _ _ (by simp)]
   cases idOkB x<;>simp [gb]
  ·obtain ⟨r,hr1,hr2⟩:=prev_idx' hk hl h0
   have h5:decide (0 < (k:Int))=true:=by simp;omega
   have h6:decide (k=0)=false:=by simp;omega
   rw [hr1,hr2,h5,h6,gbs]
   simp only [Option.all_some]
   by_cases h7:idLt r x=true<;>cases idOkB x<;>simp [gb,h7]
 ·simp only [ge_dec];rfl
theorem i_IdsOk_eq {l:List D_Id} (hl:l.length≤9223372036854775807):i_IdsOk l=some (idsOkB l):=by
 unfold i_IdsOk idsOkB
 rw [whileP_all (n:=l.length) (idAt l) (some false) (some true)]
 ·cases (List.range l.length).all (idAt l)<;>rfl
 ·intro k hk
  have hx:l[k]?=some l[k]:=List.getElem?_eq_getElem hk
  generalize l[k]=x at hx
  simp only [lt_dec hk,cond_true,idx_nat,hx,Option.bind_some,Prod.eta,i_idOk_eq,wrap_succ (show k < 9223372036854775807 by omega)]
  unfold idAt
  simp only [hx]
  rcases Nat.eq_zero_or_pos k with h0 | h0
  ·subst h0
   rw [gb_none _ _ _ (by simp),gb_none _ _ _ (by simp)]
   cases idOkB x<;>simp
  ·obtain ⟨r,hr1,hr2⟩:=prev_idx' hk hl h0
   have h5:decide (0 < (k:Int))=true:=by simp;omega
   have h6:decide (k=0)=false:=by simp;omega
   obtain ⟨c,hc1,hc2⟩:=compareIds_eq r x
   rw [hr1,hr2,h5,h6,gbs]
   simp only [Option.all_some,hc1]
   by_cases h7:idLt r x=true<;>cases idOkB x<;>simp [gb,h7,hc2]
 ·simp only [ge_dec];rfl
theorem s_l8Has_eq {l:List D_Id} {x:D_Id} (h:l.length≤9223372036854775807):s_l8Has l x=some (l.any fun y=>idEq y x):=by
 unfold s_l8Has
 rw [whileP_find (fun y=>idEq y x) (fun i=>some (decide (0≤i))) h,firstI_any]
 ·intro k y hy
  simp only [lt_dec (List.getElem?_eq_some_iff.1 hy).1,cond_true,idx_nat,hy,Option.bind_some]
  show cond (idEq y x) _ _=_
  cases idEq y x<;>simp
 ·simp only [ge_dec];rfl
theorem containsId_eq {l:List D_Id} {x:D_Id} (h:l.length≤9223372036854775807):sl_Contains_implIdimplId l x=some (l.any fun y=>idEq y x):=by
 unfold sl_Contains_implIdimplId sl_Index_implIdimplId
 rw [whileP_find (fun y=>idEq y x) some h]
 ·rw [Option.bind_some,firstI_any]
 ·intro k y hy
  simp only [lt_dec (List.getElem?_eq_some_iff.1 hy).1,cond_true,idx_nat,hy,Option.bind_some]
  show cond (idEq x y) _ _=_
  rw [idEq_comm]
  cases idEq y x<;>rfl
 ·simp only [ge_dec];rfl
noncomputable def instOkB (x:D_Inst):Bool:=idOkB x.1&&decide (-1≤x.2.1∧x.2.1≤600)&&decide (-1≤x.2.2.1∧x.2.2.1≤x.2.1)&&decide (0≤x.2.2.2.1∧x.2.2.2.1≤3)&&cmdOkB x.2.2.2.2.1&&decide (0≤x.2.2.2.2.2.1∧x.2.2.2.2.2.1≤60)&&idsOkB x.2.2.2.2.2.2.1&&!(x.2.2.2.2.2.2.1.any fun y=>idEq y x.1) &&
 ((!decide (x.2.2.2.1=0))||(((((decide (x.2.2.1=(-1)))&&(decide (x.2.2.2.2.1.1=0)))&&(decide (x.2.2.2.2.2.1=0)))&&(decide ((x.2.2.2.2.2.2.1.length:Int)=0)))&&(!x.2.2.2.2.2.2.2)))
theorem s_l8Inst_eq {x:D_Inst} (ho:Ok.ok x):s_l8Inst x=some (instOkB x):=by
 have hc:Ok.ok x.2.2.2.2.1:=ho.2.2.2.2.1
 have hd:x.2.2.2.2.2.2.1.length≤9223372036854775807:=ho.2.2.2.2.2.2.1.1
 unfold s_l8Inst instOkB
 simp only [Prod.eta,s_l8Id_eq,l1In_eq,s_CmdOk_eq hc,s_IdsOk_eq hd,s_l8Has_eq hd,Option.bind_some]
 generalize ((!decide (x.2.2.2.1=0))||(((((decide (x.2.2.1=(-1)))&&(decide (x.2.2.2.2.1.1=0)))&&(decide (x.2.2.2.2.2.1=0)))&&(decide ((x.2.2.2.2.2.2.1.length:Int)=0)))&&(!x.2.2.2.2.2.2.2)))=b9
 generalize (x.2.2.2.2.2.2.1.any fun y=>idEq y x.1)=b8
 generalize idsOkB x.2.2.2.2.2.2.1=b7
 generalize decide (0≤x.2.2.2.2.2.1∧x.2.2.2.2.2.1≤60)=b6
 generalize cmdOkB x.2.2.2.2.1=b5
 generalize decide (0≤x.2.2.2.1∧x.2.2.2.1≤3)=b4
 generalize decide (-1≤x.2.2.1∧x.2.2.1≤x.2.1)=b3
 generalize decide (-1≤x.2.1∧x.2.1≤600)=b2
 generalize idOkB x.1=b1
 cases b1
 ·rfl
 cases b2
 ·rfl
 cases b3
 ·rfl
 cases b4
 ·rfl
 cases b5
 ·rfl
 cases b6
 ·rfl
 cases b7
 ·rfl
 cases b8<;>rfl
theorem i_instOk_eq {x:D_Inst} (ho:Ok.ok x):i_instOk x=some (instOkB x):=by
 have hc:Ok.ok x.2.2.2.2.1:=ho.2.2.2.2.1
 have hd:x.2.2.2.2.2.2.1.length≤9223372036854775807:=ho.2.2.2.2.2.2.1.1
 unfold i_instOk instOkB
 simp only [Prod.eta,i_idOk_eq,within_eq,i_CmdOk_eq hc,i_IdsOk_eq hd,containsId_eq hd,Option.bind_some]
 generalize ((!decide (x.2.2.2.1=0))||(((((decide (x.2.2.1=(-1)))&&(decide (x.2.2.2.2.1.1=0)))&&(decide (x.2.2.2.2.2.1=0)))&&(decide ((x.2.2.2.2.2.2.1.length:Int)=0)))&&(!x.2.2.2.2.2.2.2)))=b9
 generalize (x.2.2.2.2.2.2.1.any fun y=>idEq y x.1)=b8
 generalize idsOkB x.2.2.2.2.2.2.1=b7
 generalize decide (0≤x.2.2.2.2.2.1∧x.2.2.2.2.2.1≤60)=b6
 generalize cmdOkB x.2.2.2.2.1=b5
 generalize decide (0≤x.2.2.2.1∧x.2.2.2.1≤3)=b4
 generalize decide (-1≤x.2.2.1∧x.2.2.1≤x.2.1)=b3
 generalize decide (-1≤x.2.1∧x.2.1≤600)=b2
 generalize idOkB x.1=b1
 cases b1
 ·rfl
 cases b2
 ·rfl
 cases b3
 ·rfl
 cases b4
 ·rfl
 cases b5
 ·rfl
 cases b6
 ·rfl
 cases b7
 ·rfl
 cases b8<;>rfl
noncomputable def instAt (l:List D_Inst) (k:Nat):Bool:=match l[k]? with
 | none=>false
 | some x=>instOkB x&&(decide (k=0)||(l[k - 1]?).all fun r=>idLt r.1 x.1)
noncomputable def instsOkB (l:List D_Inst):Bool:=(List.range l.length).all (instAt l)
theorem s_InstsOk_eq {l:List D_Inst} (ho:Ok.ok l):s_InstsOk l=some (instsOkB l):=by
 have hl:l.length≤9223372036854775807:=ho.1
 unfold s_InstsOk instsOkB
 rw [whileP_all (n:=l.length) (instAt l) (some false) (some true)]
 ·cases (List.range l.length).all (instAt l)<;>rfl
 ·intro k hk
  have hx:l[k]?=some l[k]:=List.getElem?_eq_getElem hk
  generalize l[k]=x at hx
  have hox:Ok.ok x:=ho.2 x (List.mem_of_getElem? hx)
  simp only [lt_dec hk,cond_true,idx_nat,hx,Option.bind_some,Prod.eta,s_l8Inst_eq hox,s_l8Less_eq,wrap_succ (show k < 9223372036854775807 by omega)]
  unfold instAt
  simp only [hx]
  rcases Nat.eq_zero_or_pos k with h0 | h0
  ·subst h0
   rw [gb_none _ _ _ (by simp)]
   cases instOkB x<;>simp [gb]
  ·obtain ⟨r,hr1,hr2⟩:=prev_idx' hk hl h0
   have h5:decide (0 < (k:Int))=true:=by simp;omega
   have h6:decide (k=0)=false:=by simp;omega
   rw [hr1,hr2,h5,h6,gbs]
   simp only [Option.all_some]
   by_cases h7:idLt r.1 x.1=true<;>cases instOkB x<;>simp [gb,h7]
 ·simp only [ge_dec];rfl
theorem i_InstsOk_eq {l:List D_Inst} (ho:Ok.ok l):i_InstsOk l=some (instsOkB l):=by
 have hl:l.length≤9223372036854775807:=ho.1
 unfold i_InstsOk instsOkB
 rw [whileP_all (n:=l.length) (instAt l) (some false) (some true)]
 ·cases (List.range l.length).all (instAt l)<;>rfl
 ·intro k hk
  have hx:l[k]?=some l[k]:=List.getElem?_eq_getElem hk
  generalize l[k]=x at hx
  have hox:Ok.ok x:=ho.2 x (List.mem_of_getElem? hx)
  simp only [lt_dec hk,cond_true,idx_nat,hx,Option.bind_some,Prod.eta,i_instOk_eq hox,wrap_succ (show k < 9223372036854775807 by omega)]
  unfold instAt
  simp only [hx]
  rcases Nat.eq_zero_or_pos k with h0 | h0
  ·subst h0
   rw [gb_none _ _ _ (by simp),gb_none _ _ _ (by simp)]
   cases instOkB x<;>simp
  ·obtain ⟨r,hr1,hr2⟩:=prev_idx' hk hl h0
   have h5:decide (0 < (k:Int))=true:=by simp;omega
   have h6:decide (k=0)=false:=by simp;omega
   obtain ⟨c,hc1,hc2⟩:=compareIds_eq r.1 x.1
   rw [hr1,hr2,h5,h6,gbs]
   simp only [Option.all_some,hc1]
   by_cases h7:idLt r.1 x.1=true<;>cases instOkB x<;>simp [gb,h7,hc2]
 ·simp only [ge_dec];rfl
end Go.Proofs.SL
namespace Go.Proofs.SL
open Go
noncomputable def leadOkB (x:D_Lead):Bool:=idOkB x.1&&decide (0≤x.2.1∧x.2.1≤600)&&decide (1≤x.2.2.1∧x.2.2.1≤3)&&decide (0≤x.2.2.2.1∧x.2.2.2.1≤60)&&idsOkB x.2.2.2.2.1&&!(x.2.2.2.2.1.any fun y=>idEq y x.1)&&nodesOk x.2.2.2.2.2.1
theorem nodes_loop {α:Type} {l:List Int} {f:Int→Option (Int ⊕ α)} (no yes:Option α) (hl:l.length≤9223372036854775807)
  (hf:∀ (k:Nat) (y:Int),l[k]?=some y→f (k:Int)=gb ((!(!decide (0≤y∧y < 3)))&&(decide (0 < (k:Int)))) (idx l (IntKind.wrap .i64 ((k:Int) - 1))) (fun r=>cond ((!decide (0≤y∧y < 3))||((decide (0 < (k:Int)))&&(decide (y≤r)))) (no.map .inr) (some (.inl (IntKind.wrap .i64 ((k:Int)+1))))))
  (he:f (l.length:Int)=yes.map .inr):whileP f 0=if nodesOk l then yes else no:=by
 refine whileP_all (n:=l.length) (nodeOk l) no yes (fun k hk=>?_) he
 have hy:l[k]?=some l[k]:=List.getElem?_eq_getElem hk
 generalize l[k]=y at hy
 rw [hf k y hy]
 simp only [wrap_succ (show k < 9223372036854775807 by omega)]
 unfold nodeOk
 simp only [hy]
 rcases Nat.eq_zero_or_pos k with h0 | h0
 ·subst h0
  rw [gb_none _ _ _ (by simp)]
  cases decide (0≤y∧y < 3)<;>simp
 ·obtain ⟨r,hr1,hr2⟩:=prev_idx' hk hl h0
  have h5:decide (0 < (k:Int))=true:=by simp;omega
  have h6:decide (k=0)=false:=by simp;omega
  rw [hr1,hr2,h5,h6,gbs]
  simp only [Option.all_some]
  by_cases h7:r < y
  ·have h8:decide (y≤r)=false:=by simp;omega
   cases decide (0≤y∧y < 3)<;>simp [h7,h8]
  ·have h8:decide (y≤r)=true:=by simp;omega
   cases decide (0≤y∧y < 3)<;>simp [h7,h8]
theorem s_l9Lead_eq {x:D_Lead} (ho:Ok.ok x):s_l9Lead x=some (leadOkB x):=by
 have hd:x.2.2.2.2.1.length≤9223372036854775807:=ho.2.2.2.2.1.1
 have hf:x.2.2.2.2.2.1.length≤9223372036854775807:=ho.2.2.2.2.2.1.1
 unfold s_l9Lead leadOkB
 rw [nodes_loop (l:=x.2.2.2.2.2.1) (some false) (some true) hf]
 ·simp only [Prod.eta,s_l8Id_eq,l1In_eq,s_IdsOk_eq hd,s_l8Has_eq hd,Option.bind_some]
  have h3:nodesOk x.2.2.2.2.2.1=true→decide (3 < (x.2.2.2.2.2.1.length:Int))=false:=fun h=>by
   obtain ⟨h1,h2⟩:=nodesOk_facts h
   have:=nodes_le h1 h2
   simp;omega
  generalize decide (3 < (x.2.2.2.2.2.1.length:Int))=b8 at *
  generalize nodesOk x.2.2.2.2.2.1=b7 at *
  generalize (x.2.2.2.2.1.any fun y=>idEq y x.1)=b6
  generalize idsOkB x.2.2.2.2.1=b5
  generalize decide (0≤x.2.2.2.1∧x.2.2.2.1≤60)=b4
  generalize decide (1≤x.2.2.1∧x.2.2.1≤3)=b3
  generalize decide (0≤x.2.1∧x.2.1≤600)=b2
  generalize idOkB x.1=b1
  cases b1
  ·rfl
  cases b2
  ·rfl
  cases b3
  ·rfl
  cases b4
  ·rfl
  cases b5
  ·rfl
  cases b6
  ·cases b7
   ·cases b8<;>rfl
   ·rw [h3 rfl];rfl
  ·rfl
 ·intro k y hy
  simp only [lt_dec (List.getElem?_eq_some_iff.1 hy).1,cond_true,idx_nat,hy,Option.bind_some,l9Node_eq]
  congr 1
  funext r
  cases h:((!(!decide (0≤y∧y < 3)))&&decide (0 < (k:Int))) with
  | true=>rfl
  | false =>
   simp only [gb]
   simp only [Bool.and_eq_false_imp,Bool.not_not] at h
   cases h1:decide (0≤y∧y < 3) with
   | false=>rfl
   | true=>rw [h h1];rfl
 ·simp only [ge_dec];rfl
theorem i_areDeps_eq {l:List D_Id} {x:D_Id} (h:l.length≤9223372036854775807):i_areDeps l x=some (idsOkB l&&!(l.any fun y=>idEq y x)):=by
 unfold i_areDeps
 simp only [Prod.eta,i_IdsOk_eq h,containsId_eq h,Option.bind_some,gbs]
 cases idsOkB l<;>rfl
theorem i_leadOk_eq {x:D_Lead} (ho:Ok.ok x):i_leadOk x=some (leadOkB x):=by
 have hd:x.2.2.2.2.1.length≤9223372036854775807:=ho.2.2.2.2.1.1
 have hf:x.2.2.2.2.2.1.length≤9223372036854775807:=ho.2.2.2.2.2.1.1
 unfold i_leadOk leadOkB
 rw [nodes_loop (l:=x.2.2.2.2.2.1) (some false) (some (idOkB x.1&&decide (0≤x.2.1∧x.2.1≤600)&&decide (1≤x.2.2.1∧x.2.2.1≤3)&&decide (0≤x.2.2.2.1∧x.2.2.2.1≤60)&&(idsOkB x.2.2.2.2.1&&!(x.2.2.2.2.1.any fun y=>idEq y x.1)))) hf]
 ·cases nodesOk x.2.2.2.2.2.1 with
  | true=>simp only [if_true,Bool.and_true,Bool.and_assoc]
  | false=>simp
 ·intro k y hy
  simp only [lt_dec (List.getElem?_eq_some_iff.1 hy).1,cond_true,idx_nat,hy,Option.bind_some,isRep_eq]
 ·simp only [ge_dec,cond_false,Prod.eta,i_idOk_eq,within_eq,i_areDeps_eq hd,Option.bind_some,gbs]
  generalize (idsOkB x.2.2.2.2.1&&!(x.2.2.2.2.1.any fun y=>idEq y x.1))=b5
  generalize decide (0≤x.2.2.2.1∧x.2.2.2.1≤60)=b4
  generalize decide (1≤x.2.2.1∧x.2.2.1≤3)=b3
  generalize decide (0≤x.2.1∧x.2.1≤600)=b2
  generalize idOkB x.1=b1
  cases b1<;>cases b2<;>cases b3<;>cases b4<;>cases b5<;>rfl
theorem s_l9At_eq {d:D_ENode} {x:D_Id} (h:d.2.2.2.length≤9223372036854775807):s_l9At d x=some (firstI (fun y:D_Lead=>idEq y.1 x) d.2.2.2):=by
 unfold s_l9At
 rw [whileP_find (fun y:D_Lead=>idEq y.1 x) some h]
 ·intro k y hy
  simp only [lt_dec (List.getElem?_eq_some_iff.1 hy).1,cond_true,idx_nat,hy,Option.bind_some]
  show cond (idEq y.1 x) _ _=_
  cases idEq y.1 x<;>rfl
 ·simp only [ge_dec];rfl
theorem i_lead_eq {d:D_ENode} {x:D_Id} (h:d.2.2.2.length≤9223372036854775807):i_ENode_lead d x=some (firstI (fun y:D_Lead=>idEq y.1 x) d.2.2.2):=by
 unfold i_ENode_lead sl_IndexFunc_implLeadimplLead i_ENode_lead_c1
 rw [whileP_find (fun y:D_Lead=>idEq y.1 x) some h]
 ·rfl
 ·intro k y hy
  simp only [lt_dec (List.getElem?_eq_some_iff.1 hy).1,cond_true,idx_nat,hy,Option.bind_some]
  show cond (idEq y.1 x) _ _=_
  cases idEq y.1 x<;>rfl
 ·simp only [ge_dec];rfl
noncomputable def leadAt (l:List D_Lead) (k:Nat):Bool:=match l[k]? with
 | none=>false
 | some x=>leadOkB x&&decide (firstI (fun y:D_Lead=>idEq y.1 x.1) l=(k:Int))
noncomputable def nodeOkB (d:D_ENode):Bool:=decide (0≤d.1∧d.1 < 3)&&decide (1≤d.2.1∧d.2.1≤7)&&instsOkB d.2.2.1&&decide (d.2.2.2.length≤8)&&(d.2.2.1.all fun x=>!(decide (x.1.1=d.1)&&decide (d.2.1≤x.1.2)))&&(List.range d.2.2.2.length).all (leadAt d.2.2.2)
theorem s_ENodeOk_eq {d:D_ENode} (ho:Ok.ok d):s_ENodeOk d=some (nodeOkB d):=by
 have hi:Ok.ok d.2.2.1:=ho.2.2.1
 have hil:d.2.2.1.length≤9223372036854775807:=ho.2.2.1.1
 have hll:d.2.2.2.length≤9223372036854775807:=ho.2.2.2.1
 have hin:(whileP (fun s12:Int=>cond (decide (s12 < (d.2.2.2.length:Int))) (Option.bind (idx d.2.2.2 s12) (fun y14=>Option.bind (s_l9Lead y14) (fun y15=>gb (!(!y15)) (idx d.2.2.2 s12) (fun y16=>gb (!(!y15)) (s_l9At d y16.1) (fun y17=>cond ((!y15)||(!decide (y17=s12))) (Option.map .inr (some false)) (some (.inl (IntKind.wrap .i64 (s12+1))))))))) (Option.map .inr (some true))) 0:Option Bool)=if (List.range d.2.2.2.length).all (leadAt d.2.2.2) then some true else some false:=by
  refine whileP_all (n:=d.2.2.2.length) (leadAt d.2.2.2) (some false) (some true) ?_ ?_
  ·intro k hk
   have hx:d.2.2.2[k]?=some d.2.2.2[k]:=List.getElem?_eq_getElem hk
   generalize d.2.2.2[k]=x at hx
   have hox:Ok.ok x:=ho.2.2.2.2 x (List.mem_of_getElem? hx)
   simp only [lt_dec hk,cond_true,idx_nat,hx,Option.bind_some,s_l9Lead_eq hox,s_l9At_eq hll,wrap_succ (show k < 9223372036854775807 by omega)]
   unfold leadAt
   simp only [hx]
   cases leadOkB x with
   | false=>rfl
   | true =>
    simp only [Bool.not_true,Bool.not_false,gb,Option.bind_some,Bool.true_and,Bool.false_or]
    cases decide (firstI (fun y:D_Lead=>idEq y.1 x.1) d.2.2.2=(k:Int))<;>rfl
  ·simp only [ge_dec];rfl
 unfold s_ENodeOk nodeOkB
 simp only [Prod.eta]
 rw [hin,each_loop (l:=d.2.2.1) (p:=fun x=>!(decide (x.1.1=d.1)&&decide (d.2.1≤x.1.2))) (no:=some false) (yes:=if (List.range d.2.2.2.length).all (leadAt d.2.2.2) then some true else some false) hil]
 ·have h8:decide (8 < (d.2.2.2.length:Int))=!decide (d.2.2.2.length≤8):=by rw [Bool.eq_iff_iff];simp;omega
  simp only [l9Node_eq,l1In_eq,s_InstsOk_eq hi,Option.bind_some,h8]
  generalize (List.range d.2.2.2.length).all (leadAt d.2.2.2)=b6
  generalize (d.2.2.1.all fun x=>!(decide (x.1.1=d.1)&&decide (d.2.1≤x.1.2)))=b5
  generalize decide (d.2.2.2.length≤8)=b4
  generalize instsOkB d.2.2.1=b3
  generalize decide (1≤d.2.1∧d.2.1≤7)=b2
  generalize decide (0≤d.1∧d.1 < 3)=b1
  cases b1
  ·rfl
  cases b2
  ·rfl
  cases b3
  ·rfl
  cases b4
  ·rfl
  cases b5
  ·rfl
  cases b6<;>rfl
 ·intro k x hx
  simp only [lt_dec (List.getElem?_eq_some_iff.1 hx).1,cond_true,idx_nat,hx,Option.bind_some]
  cases h1:decide (x.1.1=d.1)<;>cases h2:decide (d.2.1≤x.1.2)<;>simp [gb,h2]
 ·simp only [ge_dec];rfl
theorem i_ENodeOk_eq {d:D_ENode} (ho:Ok.ok d):i_ENodeOk d=some (nodeOkB d):=by
 have hi:Ok.ok d.2.2.1:=ho.2.2.1
 have hil:d.2.2.1.length≤9223372036854775807:=ho.2.2.1.1
 have hll:d.2.2.2.length≤9223372036854775807:=ho.2.2.2.1
 have hin:(whileP (fun s12:Int=>cond (decide (s12 < (d.2.2.2.length:Int))) (Option.bind (idx d.2.2.2 s12) (fun y14=>Option.bind (i_leadOk y14) (fun y15=>gb (!(!y15)) (i_ENode_lead d y14.1) (fun y16=>cond ((!y15)||(!decide (y16=s12))) (Option.map .inr (some false)) (some (.inl (IntKind.wrap .i64 (s12+1)))))))) (Option.map .inr (some true))) 0:Option Bool)=if (List.range d.2.2.2.length).all (leadAt d.2.2.2) then some true else some false:=by
  refine whileP_all (n:=d.2.2.2.length) (leadAt d.2.2.2) (some false) (some true) ?_ ?_
  ·intro k hk
   have hx:d.2.2.2[k]?=some d.2.2.2[k]:=List.getElem?_eq_getElem hk
   generalize d.2.2.2[k]=x at hx
   have hox:Ok.ok x:=ho.2.2.2.2 x (List.mem_of_getElem? hx)
   simp only [lt_dec hk,cond_true,idx_nat,hx,Option.bind_some,i_leadOk_eq hox,i_lead_eq hll,wrap_succ (show k < 9223372036854775807 by omega)]
   unfold leadAt
   simp only [hx]
   cases leadOkB x with
   | false=>rfl
   | true =>
    simp only [Bool.not_true,Bool.not_false,gb,Option.bind_some,Bool.true_and,Bool.false_or]
    cases decide (firstI (fun y:D_Lead=>idEq y.1 x.1) d.2.2.2=(k:Int))<;>rfl
  ·simp only [ge_dec];rfl
 unfold i_ENodeOk nodeOkB
 simp only [Prod.eta]
 rw [hin,each_loop (l:=d.2.2.1) (p:=fun x=>!(decide (x.1.1=d.1)&&decide (d.2.1≤x.1.2))) (no:=some false) (yes:=if (List.range d.2.2.2.length).all (leadAt d.2.2.2) then some true else some false) hil]
 ·have h8:decide (8 < (d.2.2.2.length:Int))=!decide (d.2.2.2.length≤8):=by rw [Bool.eq_iff_iff];simp;omega
  simp only [isRep_eq,within_eq,i_InstsOk_eq hi,Option.bind_some,h8]
  generalize (List.range d.2.2.2.length).all (leadAt d.2.2.2)=b6
  generalize (d.2.2.1.all fun x=>!(decide (x.1.1=d.1)&&decide (d.2.1≤x.1.2)))=b5
  generalize decide (d.2.2.2.length≤8)=b4
  generalize instsOkB d.2.2.1=b3
  generalize decide (1≤d.2.1∧d.2.1≤7)=b2
  generalize decide (0≤d.1∧d.1 < 3)=b1
  cases b1
  ·rfl
  cases b2
  ·rfl
  cases b3
  ·rfl
  cases b4
  ·rfl
  cases b5
  ·rfl
  cases b6<;>rfl
 ·intro k x hx
  simp only [lt_dec (List.getElem?_eq_some_iff.1 hx).1,cond_true,idx_nat,hx,Option.bind_some,i_ENode_unknown]
  cases h1:decide (x.1.1=d.1)<;>cases h2:decide (d.2.1≤x.1.2)<;>simp
 ·simp only [ge_dec];rfl
def smallI (x:D_Inst):Prop:=x.2.2.2.2.1.2.2.2.2.2.2.2.length≤1048576∧x.2.2.2.2.2.2.1.length≤1048576
theorem s_l4Copy_eq {c:D_Cmd} (h:c.2.2.2.2.2.2.2.length≤1048576):s_l4Copy c=some c:=by
 unfold s_l4Copy
 simp only [Option.bind_some]
 rw [appP_ok (by simp;omega)];rfl
theorem s_l8Copy_eq {x:D_Inst} (h:smallI x):s_l8Copy x=some x:=by
 unfold s_l8Copy
 simp only [Prod.eta,s_l4Copy_eq h.1,Option.bind_some]
 have:=h.2
 rw [appP_ok (by simp;omega)];rfl
theorem copyTexts_eq {l:List ByteArray} (h:l.length≤4294967296):i_copyTexts l=some l:=by
 unfold i_copyTexts
 rw [appP_ok (by simpa using h)];rfl
theorem i_copyCmd_eq {c:D_Cmd} (h:c.2.2.2.2.2.2.2.length≤1048576):i_copyCmd c=some c:=by
 unfold i_copyCmd
 rw [copyTexts_eq (by omega)];rfl
theorem i_copyIds_eq {l:List D_Id} (h:l.length≤4294967296):i_copyIds l=some l:=by
 unfold i_copyIds
 rw [appP_ok (by simpa using h)];rfl
theorem i_copyInst_eq {x:D_Inst} (h:smallI x):i_copyInst x=some x:=by
 unfold i_copyInst
 have:=h.2
 simp only [Prod.eta,i_copyCmd_eq h.1,Option.bind_some,i_copyIds_eq (show x.2.2.2.2.2.2.1.length≤4294967296 by omega)]
end Go.Proofs.SL
namespace Go.Proofs.SL
open Go
theorem whileP_is {σ α:Type} {f:σ→Option (σ ⊕ α)} {r:α} {s:σ} (I:σ→Prop) (μ:σ→Nat) (h:∀ s,I s→(∃ s',f s=some (.inl s')∧I s'∧μ s' < μ s)∨f s=some (.inr r)) (hs:I s):whileP f s=some r:=by
 obtain ⟨a,ha,rfl⟩:=whileP_rule I μ (·=r) (fun s hs=>(h s hs).imp id fun h=>⟨r,h,rfl⟩) s hs
 exact ha
end Go.Proofs.SL
namespace Go.Proofs.SL
open Go
end Go.Proofs.SL
namespace Go.Proofs.SL
open Go
end Go.Proofs.SL
namespace Go.Proofs.SL
open Go
def snapOkB (p:D_CSnap):Bool:=isWordB p.1&&(decide (p.2.1=ByteArray.empty)||isWordB p.2.1)&&decide (1≤(p.2.2.length:Int)∧(p.2.2.length:Int)≤4)&&areChunksB p.2.2
def snapAt (s:D_CSet) (k:Nat):Bool:=match s.2[k]? with
 | none=>false
 | some p=>snapOkB p&&decide (firstI (fun q:D_CSnap=>decide (q.1=p.1)) s.2=(k:Int))
def setOkB (s:D_CSet):Bool:=isWordB s.1&&decide (s.2.length≤5)&&(List.range s.2.length).all (snapAt s)
def setAt (c:D_Catalog) (k:Nat):Bool:=match c[k]? with
 | none=>false
 | some s=>setOkB s&&(decide (k=0)||(c[k - 1]?).all fun r=>sLt r.1 s.1)
def catOkB (c:D_Catalog):Bool:=decide (c.length≤5)&&(List.range c.length).all (setAt c)
theorem s_l15Snap_eq {p:D_CSnap} (ho:Ok.ok p):s_l15Snap p=some (snapOkB p):=by
 have h1:p.1.size≤9223372036854775807:=ho.1
 have h2:p.2.1.size≤9223372036854775807:=ho.2.1
 have h3:p.2.2.length≤9223372036854775807:=ho.2.2.1
 unfold s_l15Snap snapOkB areChunksB
 rw [each_loop (p:=fun c=>decide ((c.size:Int)=8)) (no:=some false) (yes:=some true) h3]
 ·simp only [s_l4Word_eq h1,s_l4Word_eq h2,l1In_eq,Option.bind_some,gbs]
  cases isWordB p.1<;>cases decide (p.2.1=ByteArray.empty)<;>cases isWordB p.2.1<;>cases decide (1≤(p.2.2.length:Int)∧(p.2.2.length:Int)≤4)<;>cases (p.2.2.all fun c=>decide ((c.size:Int)=8))<;>rfl
 ·intro k x hx
  simp only [lt_dec (List.getElem?_eq_some_iff.1 hx).1,cond_true,idx_nat,hx,Option.bind_some]
  cases decide ((x.size:Int)=8)<;>rfl
 ·simp only [ge_dec];rfl
theorem s_l15Find_eq {s:D_CSet} {n:ByteArray} (h:s.2.length≤9223372036854775807):s_l15Find s n=some (firstI (fun q:D_CSnap=>decide (q.1=n)) s.2):=by
 unfold s_l15Find
 rw [whileP_find (fun q:D_CSnap=>decide (q.1=n)) some h]
 ·intro k x hx
  simp only [lt_dec (List.getElem?_eq_some_iff.1 hx).1,cond_true,idx_nat,hx,Option.bind_some]
  cases decide (x.1=n)<;>rfl
 ·simp only [ge_dec];rfl
theorem i_CSet_snap_eq {s:D_CSet} {n:ByteArray} (h:s.2.length≤9223372036854775807):i_CSet_snap s n=some (firstI (fun q:D_CSnap=>decide (q.1=n)) s.2):=by
 unfold i_CSet_snap sl_IndexFunc_implCSnapimplCSnap i_CSet_snap_c1
 rw [whileP_find (fun q:D_CSnap=>decide (q.1=n)) some h]
 ·rfl
 ·intro k x hx
  simp only [lt_dec (List.getElem?_eq_some_iff.1 hx).1,cond_true,idx_nat,hx,Option.bind_some]
  cases decide (x.1=n)<;>rfl
 ·simp only [ge_dec];rfl
theorem i_setOk_eq {s:D_CSet} (ho:Ok.ok s):i_setOk s=some (setOkB s):=by
 have h1:s.1.size≤9223372036854775807:=ho.1
 have h2:s.2.length≤9223372036854775807:=ho.2.1
 unfold i_setOk setOkB
 rw [whileP_all (n:=s.2.length) (snapAt s) (some false) (some (isWordB s.1&&decide (s.2.length≤5)))]
 ·cases isWordB s.1<;>cases decide (s.2.length≤5)<;>cases (List.range s.2.length).all (snapAt s)<;>rfl
 ·intro k hk
  have hx:s.2[k]?=some s.2[k]:=List.getElem?_eq_getElem hk
  generalize s.2[k]=p at hx
  have hp:Ok.ok p:=ho.2.2 p (List.mem_of_getElem? hx)
  have h3:p.1.size≤9223372036854775807:=hp.1
  have h4:p.2.1.size≤9223372036854775807:=hp.2.1
  have h5:p.2.2.length≤9223372036854775807:=hp.2.2.1
  simp only [lt_dec hk,cond_true,idx_nat,hx,Option.bind_some,i_isWord_eq h3,i_isWord_eq h4,within_eq,i_areChunks_eq h5,i_CSet_snap_eq (s:=(s.1,s.2)) h2,gbs,wrap_succ (show k < 9223372036854775807 by omega)]
  unfold snapAt snapOkB
  simp only [hx]
  cases isWordB p.1<;>cases decide (p.2.1=ByteArray.empty)<;>cases isWordB p.2.1<;>cases decide (1≤(p.2.2.length:Int)∧(p.2.2.length:Int)≤4)<;>cases areChunksB p.2.2<;>cases decide (firstI (fun q:D_CSnap=>decide (q.1=p.1)) s.2=(k:Int))<;>simp
 ·have h9:decide ((s.2.length:Int)≤5)=decide (s.2.length≤5):=by rw [Bool.eq_iff_iff];simp;omega
  simp only [ge_dec,cond_false,i_isWord_eq h1,Option.bind_some,h9]
theorem i_CatOk_eq {c:D_Catalog} (ho:Ok.ok c):i_CatOk c=some (catOkB c):=by
 have hl:c.length≤9223372036854775807:=ho.1
 unfold i_CatOk catOkB
 rw [whileP_all (n:=c.length) (setAt c) (some false) (some (decide (c.length≤5)))]
 ·cases decide (c.length≤5)<;>cases (List.range c.length).all (setAt c)<;>rfl
 ·intro k hk
  have hx:c[k]?=some c[k]:=List.getElem?_eq_getElem hk
  generalize c[k]=s at hx
  have hs:Ok.ok s:=ho.2 s (List.mem_of_getElem? hx)
  simp only [lt_dec hk,cond_true,idx_nat,hx,Option.bind_some,Prod.eta,i_setOk_eq hs,wrap_succ (show k < 9223372036854775807 by omega)]
  unfold setAt
  simp only [hx]
  rcases Nat.eq_zero_or_pos k with h0 | h0
  ·subst h0
   rw [gb_none _ _ _ (by simp)]
   cases setOkB s<;>simp
  ·obtain ⟨r,hr1,hr2⟩:=prev_idx' hk hl h0
   have h5:decide (0 < (k:Int))=true:=by simp;omega
   have h6:decide (k=0)=false:=by simp;omega
   rw [hr1,hr2,h5,h6,gbs]
   simp only [Option.all_some]
   by_cases h7:sLt r.1 s.1=true<;>cases setOkB s<;>simp [h7]
 ·have h9:decide ((c.length:Int)≤5)=decide (c.length≤5):=by rw [Bool.eq_iff_iff];simp;omega
  simp only [ge_dec,cond_false,h9]
theorem s_CatOk_eq {c:D_Catalog} (ho:Ok.ok c):s_CatOk c=some (catOkB c):=by
 have hl:c.length≤9223372036854775807:=ho.1
 unfold s_CatOk catOkB
 have h9:decide (5 < (c.length:Int))=!decide (c.length≤5):=by rw [Bool.eq_iff_iff];simp;omega
 rw [whileP_all (n:=c.length) (setAt c) (some false) (some true),h9]
 ·cases decide (c.length≤5)<;>cases (List.range c.length).all (setAt c)<;>rfl
 ·intro k hk
  have hx:c[k]?=some c[k]:=List.getElem?_eq_getElem hk
  generalize c[k]=s at hx
  have hs:Ok.ok s:=ho.2 s (List.mem_of_getElem? hx)
  have h1:s.1.size≤9223372036854775807:=hs.1
  have h2:s.2.length≤9223372036854775807:=hs.2.1
  simp only [lt_dec hk,cond_true,idx_nat,hx,Option.bind_some,Prod.eta,s_l4Word_eq h1]
  rw [whileP_all (n:=s.2.length) (snapAt s) (some (.inr false)) (some (.inl ((k+1:Nat):Int)))]
  ·have h10:decide (5 < (s.2.length:Int))=!decide (s.2.length≤5):=by rw [Bool.eq_iff_iff];simp;omega
   unfold setAt setOkB
   simp only [hx,h10]
   rcases Nat.eq_zero_or_pos k with h0 | h0
   ·subst h0
    rw [gb_none _ _ _ (by simp)]
    cases isWordB s.1<;>cases decide (s.2.length≤5)<;>cases (List.range s.2.length).all (snapAt s)<;>simp
   ·obtain ⟨r,hr1,hr2⟩:=prev_idx' hk hl h0
    have h5:decide (0 < (k:Int))=true:=by simp;omega
    have h6:decide (k=0)=false:=by simp;omega
    rw [hr1,hr2,h5,h6,gbs]
    simp only [Option.all_some]
    by_cases h7:sLt r.1 s.1=true<;>cases isWordB s.1<;>cases decide (s.2.length≤5)<;>cases (List.range s.2.length).all (snapAt s)<;>simp [h7]
  ·intro j hj
   have hy:s.2[j]?=some s.2[j]:=List.getElem?_eq_getElem hj
   generalize s.2[j]=p at hy
   have hp:Ok.ok p:=hs.2.2 p (List.mem_of_getElem? hy)
   simp only [lt_dec hj,cond_true,idx_nat,hy,Option.bind_some,Prod.eta,s_l15Snap_eq hp,gbs,wrap_succ (show j < 9223372036854775807 by omega)]
   unfold snapAt
   simp only [hy]
   cases snapOkB p with
   | false=>rfl
   | true =>
    simp only [Bool.not_true,Bool.not_false,if_true,gb,Option.bind_some,s_l15Find_eq h2,Bool.true_and,Bool.false_or]
    cases decide (firstI (fun q:D_CSnap=>decide (q.1=p.1)) s.2=(j:Int))<;>rfl
  ·simp only [ge_dec,cond_false,wrap_succ (show k < 9223372036854775807 by omega)]
 ·simp only [ge_dec];rfl
theorem catOk_facts {c:D_Catalog} (h:catOkB c=true):c.length≤5∧∀ s,s∈c→s.2.length≤5∧∀ p,p∈s.2→p.2.2.length≤4∧∀ x,x∈p.2.2→x.size=8:=by
 unfold catOkB at h
 simp only [Bool.and_eq_true,decide_eq_true_eq,List.all_eq_true,List.mem_range] at h
 refine ⟨h.1,fun s hs=>?_⟩
 obtain ⟨k,hk⟩:=List.getElem?_of_mem hs
 have h1:=h.2 k (List.getElem?_eq_some_iff.1 hk).1
 unfold setAt at h1
 rw [hk] at h1
 simp only [Bool.and_eq_true] at h1
 have h2:=h1.1
 unfold setOkB at h2
 simp only [Bool.and_eq_true,decide_eq_true_eq,List.all_eq_true,List.mem_range] at h2
 refine ⟨h2.1.2,fun p hp=>?_⟩
 obtain ⟨j,hj⟩:=List.getElem?_of_mem hp
 have h3:=h2.2 j (List.getElem?_eq_some_iff.1 hj).1
 unfold snapAt at h3
 rw [hj] at h3
 simp only [Bool.and_eq_true] at h3
 have h4:=h3.1
 unfold snapOkB areChunksB at h4
 simp only [Bool.and_eq_true,decide_eq_true_eq,List.all_eq_true] at h4
 exact ⟨by omega,fun x hx=>by have:=h4.2 x hx;omega⟩
end Go.Proofs.SL
namespace Go.Proofs.SL
open Go
end Go.Proofs.SL
namespace Go.Proofs.SL
open Go
theorem firstI_get {α:Type} (p:α→Bool) (l:List α):(firstI p l=-1∧l.findIdx? p=none)∨∃ (k:Nat) (x:α),firstI p l=(k:Int)∧l.findIdx? p=some k∧l[k]?=some x∧p x=true:=by
 cases h:l.findIdx? p with
 | none=>exact .inl ⟨firstI_none h,rfl⟩
 | some k =>
  obtain ⟨h1,h2,_⟩:=List.findIdx?_eq_some_iff_getElem.1 h
  exact .inr ⟨k,l[k],firstI_some h,rfl,List.getElem?_eq_getElem h1,h2⟩
end Go.Proofs.SL
namespace Go.Proofs.SL
open Go
theorem loop_pass {α β τ σ:Type} {f:σ→Option (σ ⊕ α)} {l:List β} (mk:Nat→τ→σ) (h:τ→β→τ) (g:τ→Option α) (I:Nat→τ→Prop) (t0:τ) {s0:σ} (h0:mk 0 t0=s0) (hI:I 0 t0)
  (hs:∀ k t x,l[k]?=some x→I k t→f (mk k t)=some (.inl (mk (k+1) (h t x)))∧I (k+1) (h t x)) (he:∀ t,I l.length t→f (mk l.length t)=(g t).map .inr):whileP f s0=g (l.foldl h t0):=by
 rw [whileP_for (l:=l) mk (fun t x=>.inl (h t x)) g I t0 h0 hI (fun k t x hx hi=>.inl ⟨_,rfl,hs k t x hx hi⟩) he,goE_fold]
theorem word_size {s:ByteArray} (h:isWordB s=true):s.size≤8:=by
 unfold isWordB at h
 simp only [Bool.and_eq_true,decide_eq_true_eq] at h
 omega
structure CBnd (c:D_Catalog):Prop where
 len:c.length≤6
 name:∀ s,s∈c→s.1.size≤8
 snaps:∀ s,s∈c→s.2.length≤6
 snap:∀ s,s∈c→∀ p,p∈s.2→p.1.size≤8∧p.2.1.size≤8∧p.2.2.length≤4∧∀ x,x∈p.2.2→x.size≤8
theorem CBnd.ok {c:D_Catalog} (h:CBnd c):Ok.ok c :=
 ⟨by have:=h.len;omega,fun s hs=>⟨by have:=h.name s hs;show s.1.size≤_;omega,by have:=h.snaps s hs;omega,fun p hp=>by
  obtain ⟨h1,h2,h3,h4⟩:=h.snap s hs p hp
  exact ⟨by show p.1.size≤_;omega,by show p.2.1.size≤_;omega,by omega,fun x hx=>by have:=h4 x hx;show x.size≤_;omega⟩⟩⟩
theorem catOk_bnd {c:D_Catalog} (h:catOkB c=true):CBnd c∧c.length≤5∧∀ s,s∈c→s.2.length≤5:=by
 have h0:=catOk_facts h
 unfold catOkB at h
 simp only [Bool.and_eq_true,decide_eq_true_eq,List.all_eq_true,List.mem_range] at h
 have hset:∀ s,s∈c→setOkB s=true:=fun s hs=>by
  obtain ⟨k,hk⟩:=List.getElem?_of_mem hs
  have h1:=h.2 k (List.getElem?_eq_some_iff.1 hk).1
  unfold setAt at h1
  rw [hk] at h1
  simp only [Bool.and_eq_true] at h1
  exact h1.1
 refine ⟨⟨by omega,fun s hs=>?_,fun s hs=>by have:=(h0.2 s hs).1;omega,fun s hs p hp=>?_⟩,h0.1,fun s hs=>(h0.2 s hs).1⟩
 ·have h2:=hset s hs
  unfold setOkB at h2
  simp only [Bool.and_eq_true] at h2
  exact word_size h2.1.1
 ·have h2:=hset s hs
  unfold setOkB at h2
  simp only [Bool.and_eq_true,decide_eq_true_eq,List.all_eq_true,List.mem_range] at h2
  obtain ⟨j,hj⟩:=List.getElem?_of_mem hp
  have h3:=h2.2 j (List.getElem?_eq_some_iff.1 hj).1
  unfold snapAt at h3
  rw [hj] at h3
  simp only [Bool.and_eq_true] at h3
  have h4:=h3.1
  unfold snapOkB areChunksB at h4
  simp only [Bool.and_eq_true,Bool.or_eq_true,decide_eq_true_eq,List.all_eq_true] at h4
  refine ⟨word_size h4.1.1.1,?_,by omega,fun x hx=>by have:=h4.2 x hx;omega⟩
  rcases h4.1.1.2 with h5 | h5
  ·rw [h5];decide
  ·exact word_size h5
theorem s_l15Copy_eq {c:D_Catalog} (h:CBnd c):s_l15Copy c=some c:=by
 have hlen:=h.len
 unfold s_l15Copy
 rw [loop_pass (l:=c) (fun k (t:List D_CSet)=>((k:Int),t)) (fun t x=>t++[x]) (fun t=>some t) (fun k t=>t.length≤k) [] (s0:=(0,[])) rfl (Nat.le_refl _)]
 ·have:∀ (xs acc:List D_CSet),xs.foldl (fun t x=>t++[x]) acc=acc++xs:=fun xs=>by
   induction xs with
   | nil=>intro acc;simp
   | cons x xs ih=>intro acc;rw [List.foldl_cons,ih];simp
  rw [this,List.nil_append]
 ·intro k t s hs ht
  have hk:=(List.getElem?_eq_some_iff.1 hs).1
  have hmem:=List.mem_of_getElem? hs
  have hsl:=h.snaps s hmem
  refine ⟨?_,by simp;omega⟩
  simp only [lt_dec hk,cond_true,idx_nat,hs,Option.bind_some]
  rw [loop_pass (l:=s.2) (fun j (t:List D_CSnap)=>((j:Int),t)) (fun t x=>t++[x]) (fun u=>Option.bind (appP t [(s.1,u)]) fun y17=>some (.inl (IntKind.wrap .i64 ((k:Int)+1),y17))) (fun k t=>t.length≤k) [] (s0:=(0,[])) rfl (Nat.le_refl _)]
  ·have:∀ (xs acc:List D_CSnap),xs.foldl (fun t x=>t++[x]) acc=acc++xs:=fun xs=>by
    induction xs with
    | nil=>intro acc;simp
    | cons x xs ih=>intro acc;rw [List.foldl_cons,ih];simp
   rw [this,List.nil_append,appP_ok (by simp;omega),Option.bind_some,wrap_succ (by omega)]
  ·intro j u p hp hu
   have hj:=(List.getElem?_eq_some_iff.1 hp).1
   obtain ⟨_,_,h3,_⟩:=h.snap s hmem p (List.mem_of_getElem? hp)
   refine ⟨?_,by simp;omega⟩
   simp only [lt_dec hj,cond_true,idx_nat,hp,Option.bind_some]
   rw [appP_ok (by simp;omega),Option.bind_some,List.nil_append,appP_ok (by simp;omega),Option.bind_some,wrap_succ (by omega)]
  ·intro u hu
   simp only [ge_dec,cond_false]
 ·intro t ht
  simp only [ge_dec,cond_false]
def gtN (s:D_CSet) (n:ByteArray):Bool:=!sLt s.1 n&&!decide (s.1=n)
def insSet (n:ByteArray):List D_CSet→List D_CSet
 | []=>[(n,[])]
 | s::r=>if gtN s n then (n,[])::s::r else s::insSet n r
def stepC (n:ByteArray) (t:List D_CSet×Bool) (s:D_CSet):List D_CSet×Bool :=
 if !t.2&&gtN s n then (t.1++[(n,[])]++[s],true) else (t.1++[s],t.2)
theorem stepC_true (n:ByteArray):∀ (ys acc:List D_CSet),ys.foldl (stepC n) (acc,true)=(acc++ys,true)
 | [],acc=>by simp
 | y::ys,acc=>by
  rw [List.foldl_cons,show stepC n (acc,true) y=(acc++[y],true) by simp [stepC],stepC_true n ys];simp
theorem stepC_false (n:ByteArray):∀ (ys acc:List D_CSet),(if !(ys.foldl (stepC n) (acc,false)).2 then (ys.foldl (stepC n) (acc,false)).1++[(n,[])] else (ys.foldl (stepC n) (acc,false)).1)=acc++insSet n ys
 | [],acc=>by simp [insSet]
 | y::ys,acc=>by
  rw [List.foldl_cons]
  cases hg:gtN y n with
  | true =>
   rw [show stepC n (acc,false) y=(acc++[(n,[])]++[y],true) by simp [stepC,hg],stepC_true n ys]
   simp [insSet,hg]
  | false =>
   rw [show stepC n (acc,false) y=(acc++[y],false) by simp [stepC,hg],stepC_false n ys]
   simp [insSet,hg]
def tOk:ByteArray:=ByteArray.mk #[111,107]
def tExists:ByteArray:=ByteArray.mk #[101,120,105,115,116,115]
def tFull:ByteArray:=ByteArray.mk #[102,117,108,108]
def tNone:ByteArray:=ByteArray.mk #[110,111,110,101]
def createD (c:D_Catalog) (n:ByteArray):D_Catalog×ByteArray:=if c.any (fun s=>decide (s.1=n)) then (c,tExists) else if 5≤c.length then (c,tFull) else (insSet n c,tOk)
theorem s_l15At_eq' {c:D_Catalog} {n:ByteArray} (h:c.length≤9223372036854775807):s_l15At c n=some (firstI (fun s:D_CSet=>decide (s.1=n)) c):=by
 unfold s_l15At
 rw [whileP_find (fun s:D_CSet=>decide (s.1=n)) (fun i=>some i) h]
 ·intro k x hx
  simp only [lt_dec (List.getElem?_eq_some_iff.1 hx).1,cond_true,idx_nat,hx,Option.bind_some]
  cases decide (x.1=n)<;>rfl
 ·simp only [ge_dec];rfl
theorem s_l15Create_eq {c:D_Catalog} {n:ByteArray} (h:c.length≤1000000):s_l15Create c n=some (createD c n):=by
 unfold s_l15Create createD
 rw [s_l15At_eq' (by omega),Option.bind_some,firstI_any]
 cases c.any (fun s=>decide (s.1=n)) with
 | true=>rfl
 | false =>
  by_cases h5:5≤c.length
  ·rw [if_neg (by simp),cond_false,decide_eq_true (show (5:Int)≤(c.length:Int) by omega),if_pos h5];rfl
  rw [if_neg (by simp),cond_false,decide_eq_false (show ¬ (5:Int)≤(c.length:Int) by omega),if_neg h5,cond_false,Option.bind_some]
  rw [loop_pass (l:=c) (fun k (t:List D_CSet×Bool)=>(t.1,t.2,(k:Int))) (stepC n) (fun t=>some ((if !t.2 then t.1++[(n,[])] else t.1),tOk)) (fun k t=>t.1.length≤2*k) ([],false) (s0:=([],false,0)) rfl (Nat.le_refl _)]
  ·rw [stepC_false,List.nil_append]
  ·intro k t s hs ht
   have hk:=(List.getElem?_eq_some_iff.1 hs).1
   obtain ⟨acc,b⟩:=t
   dsimp only at ht ⊢
   simp only [lt_dec hk,cond_true,idx_nat,hs,Option.bind_some,gbs]
   constructor
   ·unfold stepC gtN
    cases b with
    | true=>simp only [Bool.not_true,Bool.false_and,cond_false];rw [appP_ok (by simp;omega),Option.bind_some,wrap_succ (by omega)];rfl
    | false =>
     simp only [Bool.not_false,Bool.true_and,if_true]
     cases hg:(!sLt s.1 n&&!decide (s.1=n)) with
     | true =>
      rw [cond_true,appP_ok (by simp;omega),Option.bind_some,appP_ok (by simp;omega),Option.bind_some,wrap_succ (by omega)];rfl
     | false=>rw [cond_false,appP_ok (by simp;omega),Option.bind_some,wrap_succ (by omega)];rfl
   ·unfold stepC
    split<;>simp<;>omega
  ·intro t ht
   obtain ⟨acc,b⟩:=t
   simp only [ge_dec,cond_false]
   cases b with
   | true=>rfl
   | false=>simp only [Bool.not_false,cond_true,if_true];rw [appP_ok (by simp at ht ⊢;omega)];rfl
end Go.Proofs.SL
namespace Go.Proofs.SL
open Go
theorem whileP_step {σ α:Type} {f:σ→Option (σ ⊕ α)} {s s':σ} (h:f s=some (.inl s')):whileP f s=whileP f s':=by rw [whileP_eq,h]
theorem whileP_done {σ α:Type} {f:σ→Option (σ ⊕ α)} {s:σ} {a:α} (h:f s=some (.inr a)):whileP f s=some a:=by rw [whileP_eq,h]
def digit (k:Nat):ByteArray:=ByteArray.mk #[UInt8.ofNat (48+k)]
theorem s_Dec_small:∀ k:Nat,k≤5→s_Dec (k:Int)=some (digit k)
 | 0,_=>rfl
 | 1,_=>by unfold s_Dec;rw [decide_eq_false (by decide),cond_false,whileP_step (s':=(0,digit 1)) (by kernel_rfl),whileP_done (by kernel_rfl)]
 | 2,_=>by unfold s_Dec;rw [decide_eq_false (by decide),cond_false,whileP_step (s':=(0,digit 2)) (by kernel_rfl),whileP_done (by kernel_rfl)]
 | 3,_=>by unfold s_Dec;rw [decide_eq_false (by decide),cond_false,whileP_step (s':=(0,digit 3)) (by kernel_rfl),whileP_done (by kernel_rfl)]
 | 4,_=>by unfold s_Dec;rw [decide_eq_false (by decide),cond_false,whileP_step (s':=(0,digit 4)) (by kernel_rfl),whileP_done (by kernel_rfl)]
 | 5,_=>by unfold s_Dec;rw [decide_eq_false (by decide),cond_false,whileP_step (s':=(0,digit 5)) (by kernel_rfl),whileP_done (by kernel_rfl)]
 | n+6,h=>by omega
def tSp:ByteArray:=ByteArray.mk #[32]
def tCol:ByteArray:=ByteArray.mk #[58]
def readStep (t:Bool×ByteArray) (p:D_CSnap):Bool×ByteArray:=(true,(if t.1 then t.2++tSp else t.2)++p.1++tCol++p.2.1)
def readD (s:D_CSet):ByteArray:=(s.2.foldl readStep (false,ByteArray.empty)).2
theorem sz_sp:tSp.size=1:=rfl
theorem sz_col:tCol.size=1:=rfl
theorem s_l15Read_eq {s:D_CSet} (h:s.2.length≤1000) (hp:∀ p,p∈s.2→p.1.size≤8∧p.2.1.size≤8):s_l15Read s=some (readD s):=by
 unfold s_l15Read readD
 rw [loop_pass (l:=s.2) (fun k (t:Bool×ByteArray)=>(t.2,(k:Int))) readStep (fun t=>some t.2) (fun k t=>t.1=decide (0 < k)∧t.2.size≤18*k) (false,ByteArray.empty) (s0:=(ByteArray.empty,0)) rfl ⟨rfl,Nat.le_refl _⟩]
 ·intro k t p hx ht
  have hk:=(List.getElem?_eq_some_iff.1 hx).1
  obtain ⟨b,a⟩:=t
  obtain ⟨rfl,ha⟩:=ht
  dsimp only at ha ⊢
  obtain ⟨h1,h2⟩:=hp p (List.mem_of_getElem? hx)
  simp only [lt_dec hk,cond_true,idx_nat,hx,Option.bind_some]
  rcases Nat.eq_zero_or_pos k with h0 | h0
  ·subst h0
   rw [decide_eq_false (show ¬ (0:Int) < ((0:Nat):Int) by omega),cond_false]
   show Option.bind (catP a p.1) _=_∧_
   rw [catP_ok (by omega),Option.bind_some,show (ByteArray.mk #[58])=tCol from rfl,catP_ok (by simp [ByteArray.size_append,sz_col];omega),Option.bind_some,catP_ok (by simp [ByteArray.size_append,sz_col];omega),Option.bind_some,wrap_succ (by omega)]
   exact ⟨rfl,by simp [readStep],by simp [readStep,ByteArray.size_append,sz_col];omega⟩
  ·rw [decide_eq_true (show (0:Int) < (k:Int) by omega),cond_true,show (ByteArray.mk #[32])=tSp from rfl,catP_ok (by rw [sz_sp];omega),Option.bind_some]
   show Option.bind (catP (a++tSp) p.1) _=_∧_
   rw [catP_ok (by simp [ByteArray.size_append,sz_sp];omega),Option.bind_some,show (ByteArray.mk #[58])=tCol from rfl,catP_ok (by simp [ByteArray.size_append,sz_col,sz_sp];omega),Option.bind_some,catP_ok (by simp [ByteArray.size_append,sz_col,sz_sp];omega),Option.bind_some,wrap_succ (by omega)]
   refine ⟨?_,by simp [readStep],?_⟩
   ·simp [readStep,decide_eq_true h0]
   ·simp [readStep,decide_eq_true h0,ByteArray.size_append,sz_col,sz_sp];omega
 ·intro t ht
  simp only [ge_dec,cond_false]
def listStep (t:Bool×ByteArray) (p:D_CSet):Bool×ByteArray:=(true,(if t.1 then t.2++tSp else t.2)++p.1)
def listD (c:D_Catalog):ByteArray:=(c.foldl listStep (false,ByteArray.empty)).2
def bareN (l:List D_CSnap):Nat:=(l.filter fun p=>decide (p.2.1=ByteArray.empty)).length
def pruneStep (n:Int) (t:Int×List D_CSnap) (p:D_CSnap):Int×List D_CSnap :=
 if p.2.1=ByteArray.empty then (if n≤t.1 - 1 then (t.1 - 1,t.2) else (t.1 - 1,t.2++[p])) else (t.1,t.2++[p])
def pruneD (l:List D_CSnap) (n:Int):List D_CSnap:=(l.foldl (pruneStep n) ((bareN l:Int),[])).2
theorem prune_len (n:Int):∀ (l:List D_CSnap) (t:Int×List D_CSnap),(l.foldl (pruneStep n) t).2.length≤t.2.length+l.length∧∀ p,p∈(l.foldl (pruneStep n) t).2→p∈t.2∨p∈l
 | [],t=>⟨by simp,fun p hp=>.inl hp⟩
 | x::l,t=>by
  rw [List.foldl_cons]
  obtain ⟨h1,h2⟩:=prune_len n l (pruneStep n t x)
  have h3:(pruneStep n t x).2=t.2∨(pruneStep n t x).2=t.2++[x]:=by unfold pruneStep;split<;>(try split)<;>simp
  refine ⟨?_,fun p hp=>?_⟩
  ·rcases h3 with h3 | h3<;>rw [h3] at h1<;>simp at h1 ⊢<;>omega
  ·rcases h2 p hp with h4 | h4
   ·rcases h3 with h3 | h3<;>rw [h3] at h4
    ·exact .inl h4
    ·rcases List.mem_append.1 h4 with h5 | h5
     ·exact .inl h5
     ·exact .inr (by rw [List.mem_singleton.1 h5];exact List.mem_cons_self ..)
   ·exact .inr (List.mem_cons_of_mem _ h4)
theorem s_l15Prune_eq {l:List D_CSnap} {n:Int} (h:l.length≤1000):s_l15Prune l n=some (pruneD l n,((l.length - (pruneD l n).length:Nat):Int)):=by
 unfold s_l15Prune
 rw [loop_pass (l:=l) (fun k (t:Nat)=>((t:Int),(k:Int))) (fun t p=>if p.2.1=ByteArray.empty then t+1 else t) (fun t=>if t=bareN l then some (pruneD l n,((l.length - (pruneD l n).length:Nat):Int)) else
   whileP (fun s8:Int×(List D_CSnap)×Int=>cond (decide (s8.2.2 < (l.length:Int))) (Option.bind (idx l s8.2.2) (fun y10=>cond (decide (y10.2.1=ByteArray.empty)) (cond (decide (n≤IntKind.wrap .i64 (s8.1 - 1))) (some (.inl ((IntKind.wrap .i64 (s8.1 - 1),s8.2.1,IntKind.wrap .i64 (s8.2.2+1))))) (Option.bind (idx l s8.2.2) (fun y13=>Option.bind (appP s8.2.1 [(y13.1,y13.2.1,y13.2.2)]) (fun y15=>some (.inl ((IntKind.wrap .i64 (s8.1 - 1),y15,IntKind.wrap .i64 (s8.2.2+1)))))))) (Option.bind (idx l s8.2.2) (fun y16=>Option.bind (appP s8.2.1 [(y16.1,y16.2.1,y16.2.2)]) (fun y18=>some (.inl ((s8.1,y18,IntKind.wrap .i64 (s8.2.2+1))))))))) (Option.map .inr (some (s8.2.1,IntKind.wrap .i64 ((l.length:Int) - (s8.2.1.length:Int)))))) ((t:Int),[],0))
   (fun k t=>t≤k) 0 (s0:=(0,0)) rfl (Nat.le_refl _)]
 ·have hb:l.foldl (fun t p=>if p.2.1=ByteArray.empty then t+1 else t) 0=bareN l:=by
   have:∀ (l:List D_CSnap) (t:Nat),l.foldl (fun t p=>if p.2.1=ByteArray.empty then t+1 else t) t=t+bareN l:=fun l=>by
    induction l with
    | nil=>intro t;rfl
    | cons p l ih =>
     intro t
     rw [List.foldl_cons,ih]
     unfold bareN
     by_cases hp:p.2.1=ByteArray.empty
     ·rw [if_pos hp,List.filter_cons_of_pos (by simpa using hp),List.length_cons];omega
     ·rw [if_neg hp,List.filter_cons_of_neg (by simpa using hp)]
   rw [this,Nat.zero_add]
  rw [hb,if_pos rfl]
 ·intro k t p hx ht
  have hk:=(List.getElem?_eq_some_iff.1 hx).1
  simp only [lt_dec hk,cond_true,idx_nat,hx,Option.bind_some]
  by_cases hp:p.2.1=ByteArray.empty
  ·rw [decide_eq_true hp,cond_true,wrap_succ (by omega),wrap_succ (by omega),if_pos hp];exact ⟨rfl,by omega⟩
  ·rw [decide_eq_false hp,cond_false,wrap_succ (by omega),if_neg hp];exact ⟨rfl,by omega⟩
 ·intro t ht
  simp only [ge_dec,cond_false,Option.bind_some]
  congr 1
  split
  ·rename_i hb
   subst hb
   have hbl:bareN l≤l.length:=List.length_filter_le _ _
   rw [loop_pass (l:=l) (fun k (t:Int×List D_CSnap)=>(t.1,t.2,(k:Int))) (pruneStep n) (fun t=>some (t.2,((l.length - t.2.length:Nat):Int))) (fun k t=>-(k:Int)≤t.1∧t.1≤1000∧t.2.length≤k) ((bareN l:Int),[]) (s0:=((bareN l:Int),[],0)) rfl ⟨by omega,by omega,Nat.le_refl _⟩]
   ·rfl
   ·intro k t p hx ht
    have hk:=(List.getElem?_eq_some_iff.1 hx).1
    obtain ⟨b,a⟩:=t
    dsimp only at ht ⊢
    simp only [lt_dec hk,cond_true,idx_nat,hx,Option.bind_some]
    have hw:IntKind.wrap .i64 (b - 1)=b - 1:=wrap64_in (by unfold inR;omega)
    rw [hw,appP_ok (by simp;omega),wrap_succ (by omega)]
    unfold pruneStep
    by_cases hp:p.2.1=ByteArray.empty
    ·rw [decide_eq_true hp,cond_true,if_pos hp]
     by_cases hn:n≤b - 1
     ·rw [decide_eq_true hn,cond_true,if_pos hn];exact ⟨rfl,by dsimp only;omega⟩
     ·rw [decide_eq_false hn,cond_false,if_neg hn];exact ⟨rfl,by simp;omega⟩
    ·rw [decide_eq_false hp,cond_false,if_neg hp];exact ⟨rfl,by simp;omega⟩
   ·intro t ht
    simp only [ge_dec,cond_false]
    rw [wrap64_in (by unfold inR;omega)]
    have e:(l.length:Int) - (t.2.length:Int)=((l.length - t.2.length:Nat):Int):=by omega
    rw [e]
  ·rfl
end Go.Proofs.SL
namespace Go.Proofs.SL
open Go
def catSetD (c:D_Catalog) (a:Nat) (s:D_CSet) (m:D_Cmd):D_Catalog×ByteArray :=
 if m.1=2 then (c.eraseIdx a,tOk)
 else if m.1=3 then (if s.2.any (fun p=>decide (p.1=m.2.2.2.2.1)) then (c,tExists) else if 5≤s.2.length then (c,tFull) else (c.set a (s.1,s.2++[(m.2.2.2.2.1,ByteArray.empty,m.2.2.2.2.2.2.2)]),tOk))
 else if m.1=4 then (match s.2.findIdx? (fun p=>decide (p.1=m.2.2.2.2.1)) with
  | none=>(c,tNone)
  | some k=>match s.2[k]? with
   | none=>(c,tNone)
   | some p=>(c.set a (s.1,s.2.set k (p.1,m.2.2.2.2.2.1,p.2.2)),tOk))
 else if m.1=5 then (c.set a (s.1,pruneD s.2 m.2.2.2.2.2.2.1),digit (s.2.length - (pruneD s.2 m.2.2.2.2.2.2.1).length))
 else (c,readD s)
theorem slcP_pos {α:Type} {l:List α} {a b:Int} (h:0≤a∧a≤b∧b≤l.length):slcP l a b=some ((l.drop a.toNat).take (b.toNat - a.toNat)):=if_pos h
theorem s_l15Set_eq {c:D_Catalog} {a:Nat} {s:D_CSet} {m:D_Cmd} (hc:c.length≤1000) (ha:c[a]?=some s) (hs:s.2.length≤5) (hp:∀ p,p∈s.2→p.1.size≤8∧p.2.1.size≤8) (hm:m.2.2.2.2.2.2.2.length≤1000):s_l15Set c (a:Int) m=some (catSetD c a s m):=by
 have hal:=(List.getElem?_eq_some_iff.1 ha).1
 unfold s_l15Set catSetD
 simp only [idx_nat,ha,Option.bind_some,Prod.eta]
 rw [s_l15Find_eq (by omega),Option.bind_some]
 by_cases h2:m.1=2
 ·rw [if_pos h2,decide_eq_true h2,cond_true,slcP_pos (by omega),Option.bind_some]
  have e1:chkP (decide (0≤((0:Int)).toNat))=some ():=rfl
  have e2:chkP (decide ((a:Int).toNat≤(IntKind.wrap .i64 ((a:Int)+1)).toNat))=some ():=by
   rw [wrap_succ (by omega)];unfold chkP;rw [if_pos (by simp)]
  rw [e1,Option.bind_some,appP_ok (by simp;omega),Option.bind_some,e2,wrap_succ (by omega),slcP_pos (by omega),Option.bind_some,Option.bind_some,appP_ok (by simp;omega),Option.bind_some,List.eraseIdx_eq_take_drop_succ]
  congr 2
  simp only [Int.toNat_zero,List.drop_zero,Int.toNat_natCast,Nat.sub_zero,List.nil_append]
  rw [List.take_of_length_le (l:=c.drop (a+1)) (by simp)]
 rw [if_neg h2,decide_eq_false h2,cond_false]
 by_cases h3:m.1=3
 ·rw [if_pos h3,decide_eq_true h3,cond_true,firstI_any]
  cases s.2.any (fun p=>decide (p.1=m.2.2.2.2.1)) with
  | true=>rfl
  | false =>
   rw [cond_false,if_neg (by simp)]
   by_cases h5:5≤s.2.length
   ·rw [decide_eq_true (show (5:Int)≤(s.2.length:Int) by omega),if_pos h5];rfl
   rw [decide_eq_false (show ¬ (5:Int)≤(s.2.length:Int) by omega),if_neg h5,cond_false]
   rw [appP_ok (by simp;omega),Option.bind_some,appP_ok (by simp;omega),Option.bind_some,List.nil_append,appP_ok (by simp;omega),Option.bind_some]
   rfl
 rw [if_neg h3,decide_eq_false h3,cond_false]
 by_cases h4:m.1=4
 ·rw [if_pos h4,decide_eq_true h4,cond_true]
  rcases firstI_get (fun p:D_CSnap=>decide (p.1=m.2.2.2.2.1)) s.2 with ⟨e1,e2⟩ | ⟨k,p,e1,e2,e3,_⟩
  ·rw [e1,e2];rfl
  ·rw [e1,e2,decide_eq_false (show ¬ ((k:Int) < 0) by omega),cond_false]
   simp only [idx_nat,e3,Option.bind_some,Int.toNat_natCast]
   rfl
 rw [if_neg h4,decide_eq_false h4,cond_false]
 by_cases h5:m.1=5
 ·rw [if_pos h5,decide_eq_true h5,cond_true,s_l15Prune_eq (by omega),Option.bind_some]
  dsimp only
  rw [s_Dec_small _ (by omega)]
  rfl
 rw [if_neg h5,decide_eq_false h5,cond_false,s_l15Read_eq (by omega) hp]
 rfl
noncomputable def catDoD (c:D_Catalog) (m:D_Cmd):D_Catalog×ByteArray :=
 if catOkB c then (if !cmdOkB m||decide (m.1=0) then (c,ByteArray.empty) else if m.1=1 then createD c m.2.2.2.1 else if m.1=7 then (c,listD c) else
  match c.findIdx? (fun s=>decide (s.1=m.2.2.2.1)) with
  | none=>(c,tNone)
  | some a=>match c[a]? with
   | none=>(c,tNone)
   | some s=>catSetD c a s m) else ([],ByteArray.empty)
theorem cmdOk_bnd {m:D_Cmd} (h:cmdOkB m=true):m.2.2.2.1.size≤8∧m.2.2.2.2.1.size≤8∧m.2.2.2.2.2.1.size≤8∧m.2.2.2.2.2.2.2.length≤4∧∀ x,x∈m.2.2.2.2.2.2.2→x.size≤8:=by
 have hw:∀ {s:ByteArray} {b:Bool},wordIfB s b=true→s.size≤8:=by
  intro s b hb
  unfold wordIfB at hb
  split at hb
  ·exact word_size hb
  ·rw [of_decide_eq_true hb];decide
 unfold cmdOkB at h
 split at h
 ·rw [pB_iff] at h
  subst h
  exact ⟨by decide,by decide,by decide,by decide,fun x hx=>by cases hx⟩
 ·simp only [Bool.and_eq_true] at h
  obtain ⟨⟨⟨⟨⟨_,h4⟩,h5⟩,h6⟩,_⟩,h8⟩:=h
  refine ⟨hw h4,hw h5,hw h6,?_⟩
  split at h8
  ·unfold areChunksB at h8
   simp only [Bool.and_eq_true,decide_eq_true_eq,List.all_eq_true] at h8
   exact ⟨by omega,fun x hx=>by have:=h8.2 x hx;omega⟩
  ·simp only [decide_eq_true_eq] at h8
   have:m.2.2.2.2.2.2.2=[]:=by apply List.eq_nil_of_length_eq_zero;omega
   rw [this];exact ⟨by decide,fun x hx=>by cases hx⟩
theorem s_CatDo_eq {c:D_Catalog} {m:D_Cmd} (hc:Ok.ok c) (hm:Ok.ok m):s_CatDo c m=some (catDoD c m):=by
 unfold s_CatDo catDoD
 simp only [Prod.eta]
 rw [s_CatOk_eq hc,Option.bind_some]
 cases hk:catOkB c with
 | false=>rfl
 | true =>
  obtain ⟨hb,h5,h6⟩:=catOk_bnd hk
  rw [Bool.not_true,cond_false,s_l15Copy_eq hb,Option.bind_some,s_CmdOk_eq hm,Option.bind_some,if_pos rfl]
  cases hq:(!cmdOkB m||decide (m.1=0)) with
  | true=>rfl
  | false =>
   have hmk:cmdOkB m=true:=by
    cases h:cmdOkB m with
    | true=>rfl
    | false=>rw [h] at hq;simp at hq
   obtain ⟨_,_,_,m4,_⟩:=cmdOk_bnd hmk
   rw [cond_false,if_neg (by simp)]
   by_cases h1:m.1=1
   ·rw [decide_eq_true h1,cond_true,if_pos h1,s_l15Create_eq (by omega)];rfl
   rw [decide_eq_false h1,cond_false,if_neg h1]
   by_cases h7:m.1=7
   ·rw [decide_eq_true h7,cond_true,if_pos h7]
    rw [loop_pass (l:=c) (fun k (t:Bool×ByteArray)=>(t.2,(k:Int))) listStep (fun t=>some (c,t.2)) (fun k t=>t.1=decide (0 < k)∧t.2.size≤9*k) (false,ByteArray.empty) (s0:=(ByteArray.empty,0)) rfl ⟨rfl,Nat.le_refl _⟩]
    ·rfl
    ·intro k t p hx ht
     have hkl:=(List.getElem?_eq_some_iff.1 hx).1
     obtain ⟨b,a⟩:=t
     obtain ⟨rfl,ha⟩:=ht
     dsimp only at ha ⊢
     have h2:=hb.name p (List.mem_of_getElem? hx)
     simp only [lt_dec hkl,cond_true,idx_nat,hx,Option.bind_some]
     rcases Nat.eq_zero_or_pos k with h0 | h0
     ·subst h0
      rw [decide_eq_false (show ¬ (0:Int) < ((0:Nat):Int) by omega),cond_false,catP_ok (by omega),Option.bind_some,wrap_succ (by omega)]
      exact ⟨rfl,by simp [listStep],by simp [listStep,ByteArray.size_append];omega⟩
     ·rw [decide_eq_true (show (0:Int) < (k:Int) by omega),cond_true,show (ByteArray.mk #[32])=tSp from rfl,catP_ok (by rw [sz_sp];omega),Option.bind_some,catP_ok (by simp [ByteArray.size_append,sz_sp];omega),Option.bind_some,wrap_succ (by omega)]
      refine ⟨?_,by simp [listStep],?_⟩
      ·simp [listStep,decide_eq_true h0]
      ·simp [listStep,decide_eq_true h0,ByteArray.size_append,sz_sp];omega
    ·intro t ht
     simp only [ge_dec,cond_false]
   rw [decide_eq_false h7,cond_false,if_neg h7,s_l15At_eq' (by omega),Option.bind_some]
   rcases firstI_get (fun p:D_CSet=>decide (p.1=m.2.2.2.1)) c with ⟨e1,e2⟩ | ⟨k,p,e1,e2,e3,_⟩
   ·rw [e1,e2];rfl
   ·have hp:=List.mem_of_getElem? e3
    rw [e1,e2,decide_eq_false (show ¬ ((k:Int) < 0) by omega),cond_false,s_l15Set_eq (by omega) e3 (h6 p hp) (fun q hq=>⟨(hb.snap p hp q hq).1,(hb.snap p hp q hq).2.1⟩) (by omega),Option.bind_some]
    dsimp only
    rw [e3]
theorem insSet_mem (n:ByteArray):∀ (c:D_Catalog) (s:D_CSet),s∈insSet n c→s=(n,[])∨s∈c
 | [],s,h=>.inl (List.mem_singleton.1 h)
 | x::c,s,h=>by
  unfold insSet at h
  split at h
  ·rcases List.mem_cons.1 h with rfl | h
   ·exact .inl rfl
   ·exact .inr h
  ·rcases List.mem_cons.1 h with rfl | h
   ·exact .inr (List.mem_cons_self ..)
   ·rcases insSet_mem n c s h with h | h
    ·exact .inl h
    ·exact .inr (List.mem_cons_of_mem _ h)
theorem insSet_len (n:ByteArray):∀ c:D_Catalog,(insSet n c).length=c.length+1
 | []=>rfl
 | x::c=>by unfold insSet;split<;>simp [insSet_len n c]
theorem mem_set' {α:Type} {l:List α} {k:Nat} {x y:α} (h:y∈l.set k x):y=x∨y∈l:=by
 rcases List.mem_or_eq_of_mem_set h with h | h
 ·exact .inr h
 ·exact .inl h
theorem bnd_set {c:D_Catalog} (h:CBnd c) {k:Nat} {s:D_CSet} (h1:s.1.size≤8) (h2:s.2.length≤6) (h3:∀ p,p∈s.2→p.1.size≤8∧p.2.1.size≤8∧p.2.2.length≤4∧∀ x,x∈p.2.2→x.size≤8):CBnd (c.set k s) :=
 ⟨by rw [List.length_set];exact h.len,fun z hz=>by
  rcases mem_set' hz with rfl | hz
  ·exact h1
  ·exact h.name z hz,fun z hz=>by
  rcases mem_set' hz with rfl | hz
  ·exact h2
  ·exact h.snaps z hz,fun z hz=>by
  rcases mem_set' hz with rfl | hz
  ·exact h3
  ·exact h.snap z hz⟩
theorem bnd_nil:CBnd []:=⟨by decide,fun s h=>(by cases h),fun s h=>(by cases h),fun s h=>by cases h⟩
theorem catDo_bnd (c:D_Catalog) (m:D_Cmd):CBnd (catDoD c m).1:=by
 unfold catDoD
 split
 ·rename_i hk
  obtain ⟨hb,h5,h6⟩:=catOk_bnd hk
  split
  ·exact hb
  ·rename_i hq
   have hmk:cmdOkB m=true:=by
    cases h:cmdOkB m with
    | true=>rfl
    | false=>rw [h] at hq;simp at hq
   obtain ⟨m1,m2,m3,m4,m5⟩:=cmdOk_bnd hmk
   split
   ·unfold createD
    split
    ·exact hb
    ·split
     ·exact hb
     ·refine ⟨by rw [insSet_len];omega,fun s hs=>?_,fun s hs=>?_,fun s hs=>?_⟩
      all_goals rcases insSet_mem _ _ _ hs with rfl | hs
      ·exact m1
      ·exact hb.name s hs
      ·exact Nat.zero_le _
      ·exact hb.snaps s hs
      ·exact fun p hp=>by cases hp
      ·exact hb.snap s hs
   ·split
    ·exact hb
    ·split
     ·exact hb
     ·split
      ·exact hb
      ·rename_i s hs
       have hmem:=List.mem_of_getElem? hs
       have n1:=hb.name s hmem
       have n2:=h6 s hmem
       have n3:=hb.snap s hmem
       unfold catSetD
       split
       ·refine ⟨Nat.le_trans (List.length_eraseIdx_le _ _) hb.len,fun z hz=>hb.name z (List.mem_of_mem_eraseIdx hz),fun z hz=>hb.snaps z (List.mem_of_mem_eraseIdx hz),fun z hz=>hb.snap z (List.mem_of_mem_eraseIdx hz)⟩
       ·split
        ·split
         ·exact hb
         ·split
          ·exact hb
          ·refine bnd_set hb n1 (by simp;omega) fun p hp=>?_
           rcases List.mem_append.1 hp with hp | hp
           ·exact n3 p hp
           ·rw [List.mem_singleton.1 hp];exact ⟨m2,Nat.zero_le _,m4,m5⟩
        ·split
         ·split
          ·exact hb
          ·split
           ·exact hb
           ·rename_i p hpk
            obtain ⟨q1,q2,q3,q4⟩:=n3 p (List.mem_of_getElem? hpk)
            refine bnd_set hb n1 (by rw [List.length_set];omega) fun p' hp'=>?_
            rcases mem_set' hp' with rfl | hp'
            ·exact ⟨q1,m3,q3,q4⟩
            ·exact n3 p' hp'
         ·split
          ·refine bnd_set hb n1 ?_ fun p hp=>?_
           ·have:=(prune_len m.2.2.2.2.2.2.1 s.2 ((bareN s.2:Int),[])).1
            show (pruneD s.2 _).length≤6
            unfold pruneD;simp at this;omega
           ·rcases (prune_len m.2.2.2.2.2.2.1 s.2 ((bareN s.2:Int),[])).2 p hp with h | h
            ·cases h
            ·exact n3 p h
          ·exact hb
 ·exact bnd_nil
end Go.Proofs.SL
namespace Go.Proofs.SL
open Go
structure MB (m:D_Cmd):Prop where
 k:inR m.1
 cl:inR m.2.1
 no:inR m.2.2.1
 s1:m.2.2.2.1.size≤9
 s2:m.2.2.2.2.1.size≤9
 s3:m.2.2.2.2.2.1.size≤9
 n:inR m.2.2.2.2.2.2.1
 len:m.2.2.2.2.2.2.2.length≤5
 ch:∀ x,x∈m.2.2.2.2.2.2.2→x.size≤9
theorem MB.ok {m:D_Cmd} (h:MB m):Ok.ok m :=
 ⟨h.k,h.cl,h.no,by have:=h.s1;show _≤_;omega,by have:=h.s2;show _≤_;omega,by have:=h.s3;show _≤_;omega,h.n,by have:=h.len;omega,fun x hx=>by have:=h.ch x hx;show x.size≤_;omega⟩
end Go.Proofs.SL
namespace Go.Proofs.SL
open Go
theorem whileP_inl {σ σ' α:Type} {f:σ→Option (σ ⊕ (σ' ⊕ α))} (I:σ→Prop) (μ:σ→Nat) (P:σ'→Prop)
  (h:∀ s,I s→(∃ s',f s=some (.inl s')∧I s'∧μ s' < μ s)∨∃ s',f s=some (.inr (.inl s'))∧P s') (s:σ) (hs:I s):∃ s',whileP f s=some (.inl s')∧P s':=by
 obtain ⟨r,h1,s',h2,h3⟩:=whileP_rule I μ (fun r:σ' ⊕ α=>∃ s',r=.inl s'∧P s') (fun s hi=>by
  rcases h s hi with h | ⟨s',h1,h2⟩
  ·exact .inl h
  ·exact .inr ⟨_,h1,_,rfl,h2⟩) s hs
 exact ⟨s',by rw [h1,h2],h3⟩
end Go.Proofs.SL
namespace Go.Proofs.SL
open Go
end Go.Proofs.SL
namespace Go.Proofs.SL
open Go
theorem i_Catalog_set_eq {c:D_Catalog} {n:ByteArray} (h:c.length≤9223372036854775807):i_Catalog_set c n=some (firstI (fun s:D_CSet=>decide (s.1=n)) c):=by
 unfold i_Catalog_set sl_IndexFunc_implCSetimplCSet i_Catalog_set_c1
 rw [whileP_find (fun s:D_CSet=>decide (s.1=n)) some h]
 ·rfl
 ·intro k x hx
  simp only [lt_dec (List.getElem?_eq_some_iff.1 hx).1,cond_true,idx_nat,hx,Option.bind_some]
  cases decide (x.1=n)<;>rfl
 ·simp only [ge_dec];rfl
end Go.Proofs.SL
namespace Go.Proofs.SL
open Go
section
variable {α β:Type}
end
section
variable {σ τ α:Type}
end
end Go.Proofs.SL
namespace Go.Proofs.SL
open Go
end Go.Proofs.SL
namespace Go.Proofs.SL
open Go
section
variable {σ α:Type} {f:σ→Option (σ ⊕ α)}
end
end Go.Proofs.SL
namespace Go.Proofs.SL
open Go
section
variable {β:Type}
end
end Go.Proofs.SL
namespace Go.Proofs.SL
open Go
end Go.Proofs.SL
namespace Go.Proofs.SL
open Go
namespace Gr
variable {ι:Type}
inductive Rch (dp:ι→List ι):ι→ι→Prop
 | one {x y:ι}:y∈dp x→Rch dp x y
 | cons {x y z:ι}:y∈dp x→Rch dp y z→Rch dp x z
theorem Rch.trans {dp:ι→List ι} {x y z:ι} (h:Rch dp x y) (k:Rch dp y z):Rch dp x z:=by
 induction h with
 | one h=>exact .cons h k
 | cons h _ ih=>exact .cons h (ih k)
theorem Rch.snoc {dp:ι→List ι} {x y z:ι} (h:Rch dp x y) (k:z∈dp y):Rch dp x z:=h.trans (.one k)
theorem Rch.closed {dp:ι→List ι} {out:List ι} (hc:∀ z,z∈out→∀ y,y∈dp z→y∈out) {x y:ι} (h:Rch dp x y) (hx:∀ y,y∈dp x→y∈out):y∈out:=by
 induction h with
 | one h=>exact hx _ h
 | cons h _ ih=>exact ih (hc _ (hx _ h))
section
variable [DecidableEq ι]
def comps (rdy:ι→Bool) (part:ι→List ι):List (List ι)→List ι→List (List ι)
 | _,[]=>[]
 | S,x::xs=>if rdy x&&!(S.any fun p=>decide (x∈p)) then part x::comps rdy part (part x::S) xs else comps rdy part S xs
structure PartOk (rdy:ι→Bool) (part:ι→List ι) (ids:List ι):Prop where
 self:∀ x,x∈ids→rdy x=true→x∈part x
 mem:∀ x,x∈ids→rdy x=true→∀ y,y∈part x→y∈ids∧rdy y=true∧part y=part x
theorem comps_mem {rdy:ι→Bool} {part:ι→List ι}:∀ (xs:List ι) (S:List (List ι)) (p:List ι),p∈comps rdy part S xs→∃ x,x∈xs∧rdy x=true∧p=part x∧∀ q,q∈S→¬ x∈q
 | [],_,p,h=>by cases h
 | x::xs,S,p,h=>by
  unfold comps at h
  split at h
  ·rename_i hc
   rw [Bool.and_eq_true,Bool.not_eq_true'] at hc
   rcases List.mem_cons.1 h with rfl | h
   ·refine ⟨x,List.mem_cons_self ..,hc.1,rfl,fun q hq hx=>?_⟩
    have:=hc.2
    rw [List.any_eq_false] at this
    exact this q hq (decide_eq_true hx)
   ·obtain ⟨y,h1,h2,h3,h4⟩:=comps_mem xs _ p h
    exact ⟨y,List.mem_cons_of_mem _ h1,h2,h3,fun q hq=>h4 q (List.mem_cons_of_mem _ hq)⟩
  ·obtain ⟨y,h1,h2,h3,h4⟩:=comps_mem xs S p h
   exact ⟨y,List.mem_cons_of_mem _ h1,h2,h3,h4⟩
theorem comps_nodup {rdy:ι→Bool} {part:ι→List ι} {ids:List ι} (hk:PartOk rdy part ids):∀ (xs:List ι) (S:List (List ι)),(∀ x,x∈xs→x∈ids)→(comps rdy part S xs).Nodup
 | [],_,_=>List.nodup_nil
 | x::xs,S,hs=>by
  unfold comps
  split
  ·rename_i hc
   rw [Bool.and_eq_true] at hc
   refine List.nodup_cons.2 ⟨fun hm=>?_,comps_nodup hk xs _ fun y hy=>hs y (List.mem_cons_of_mem _ hy)⟩
   obtain ⟨y,h1,h2,h3,h4⟩:=comps_mem xs _ _ hm
   have hy:=hk.self y (hs y (List.mem_cons_of_mem _ h1)) h2
   rw [← h3] at hy
   exact h4 _ (List.mem_cons_self ..) hy
  ·exact comps_nodup hk xs S fun y hy=>hs y (List.mem_cons_of_mem _ hy)
theorem find_first {rdy:ι→Bool} {part:ι→List ι} {ids:List ι} (hk:PartOk rdy part ids) {out:List (List ι)} (hout:∀ p,p∈out→∃ z,z∈ids∧rdy z=true∧p=part z) (free:List ι→Bool) :
  ∀ (xs:List ι) (S:List (List ι)),(∀ x,x∈xs→x∈ids)→(∀ p,p∈S→(∃ z,z∈ids∧rdy z=true∧p=part z)∧(p∈out∨free p=false)) →
   (xs.find? fun x=>!decide (x∈out.flatten)&&rdy x&&free (part x)).map part=((comps rdy part S xs).filter fun p=>!decide (p∈out)).find? free
 | [],_,_,_=>rfl
 | x::xs,S,hs,hS=>by
  have hxi:=hs x (List.mem_cons_self ..)
  have hs':∀ y,y∈xs→y∈ids:=fun y hy=>hs y (List.mem_cons_of_mem _ hy)
  have told:rdy x=true→(x∈out.flatten↔part x∈out):=fun hr=>by
   rw [List.mem_flatten]
   constructor
   ·rintro ⟨p,hp,hx⟩
    obtain ⟨z,z1,z2,rfl⟩:=hout p hp
    rw [(hk.mem z z1 z2 x hx).2.2];exact hp
   ·intro hp
    exact ⟨_,hp,hk.self x hxi hr⟩
  unfold comps
  cases hr:rdy x with
  | false =>
   rw [if_neg (by simp),List.find?_cons_of_neg (by simp [hr])]
   exact find_first hk hout free xs S hs' hS
  | true =>
   have ht:=told hr
   by_cases hkn:(S.any fun p=>decide (x∈p))=true
   ·rw [if_neg (by simp [hkn])]
    obtain ⟨p,hp,hx⟩:=List.any_eq_true.1 hkn
    have hx:x∈p:=of_decide_eq_true hx
    obtain ⟨⟨z,z1,z2,rfl⟩,hz⟩:=hS p hp
    have e:=(hk.mem z z1 z2 x hx).2.2
    rw [List.find?_cons_of_neg]
    ·exact find_first hk hout free xs S hs' hS
    ·rcases hz with hz | hz
     ·rw [← e] at hz;simp [ht.2 hz]
     ·rw [← e] at hz;simp [hz]
   ·have hkn:(S.any fun p=>decide (x∈p))=false:=by simpa using hkn
    rw [if_pos (by simp [hkn])]
    have hS':(part x∈out∨free (part x)=false)→∀ p,p∈part x::S→(∃ z,z∈ids∧rdy z=true∧p=part z)∧(p∈out∨free p=false):=fun h p hp=>by
     rcases List.mem_cons.1 hp with rfl | hp
     ·exact ⟨⟨x,hxi,hr,rfl⟩,h⟩
     ·exact hS p hp
    by_cases ho:part x∈out
    ·rw [List.filter_cons_of_neg (by simp [ho]),List.find?_cons_of_neg (by simp [ht.2 ho])]
     exact find_first hk hout free xs _ hs' (hS' (.inl ho))
    ·rw [List.filter_cons_of_pos (by simp [ho])]
     have hno:¬ x∈out.flatten:=fun h=>ho (ht.1 h)
     cases hf:free (part x) with
     | true=>rw [List.find?_cons_of_pos (by simp [hno,hr,hf]),List.find?_cons_of_pos hf];rfl
     | false =>
      rw [List.find?_cons_of_neg (by simp [hf]),List.find?_cons_of_neg (by simp [hf])]
      exact find_first hk hout free xs _ hs' (hS' (.inr hf))
theorem erase_filter {L out:List (List ι)} (hn:L.Nodup) {k:Nat} {p:List ι} (hk:(L.filter fun p=>!decide (p∈out))[k]?=some p) :
  (L.filter fun p=>!decide (p∈out)).eraseIdx k=L.filter fun q=>!decide (q∈out++[p]):=by
 have hn2:(L.filter fun p=>!decide (p∈out)).Nodup:=hn.filter _
 have e:(L.filter fun q=>!decide (q∈out++[p]))=(L.filter fun p=>!decide (p∈out)).filter fun q=>!decide (q=p):=by
  rw [List.filter_filter]
  refine List.filter_congr fun q _=>?_
  rw [Bool.eq_iff_iff]
  simp only [List.mem_append,List.mem_singleton,Bool.not_eq_true',decide_eq_false_iff_not,Bool.and_eq_true,not_or]
  exact And.comm
 rw [e]
 generalize (L.filter fun p=>!decide (p∈out))=M at hn2 hk
 clear e
 induction M generalizing k with
 | nil=>simp at hk
 | cons a M ih =>
  obtain ⟨n1,n2⟩:=List.nodup_cons.1 hn2
  cases k with
  | zero =>
   simp only [List.getElem?_cons_zero,Option.some.injEq] at hk
   subst hk
   rw [List.eraseIdx_cons_zero,List.filter_cons_of_neg (by simp),List.filter_eq_self.2 fun q hq=>?_]
   simp only [Bool.not_eq_true',decide_eq_false_iff_not]
   intro e;rw [e] at hq;exact n1 hq
  | succ k =>
   rw [List.getElem?_cons_succ] at hk
   rw [List.eraseIdx_cons_succ,ih n2 hk,List.filter_cons_of_pos]
   simp only [Bool.not_eq_true',decide_eq_false_iff_not]
   intro e;rw [e] at n1;exact n1 (List.mem_of_getElem? hk)
end
end Gr
end Go.Proofs.SL
namespace Go.Proofs.SL
open Go
namespace Gr
variable {ι:Type}
structure STO (lt:ι→ι→Bool):Prop where
 irr:∀ a,lt a a=false
 tr:∀ a b c,lt a b=true→lt b c=true→lt a c=true
 tot:∀ a b,lt a b=true∨lt b a=true∨a=b
theorem STO.asy {lt:ι→ι→Bool} (h:STO lt) {a b:ι} (h1:lt a b=true):lt b a=false:=by
 cases h2:lt b a with
 | false=>rfl
 | true=>have:=h.tr _ _ _ h1 h2;rw [h.irr] at this;cases this
theorem STO.ne {lt:ι→ι→Bool} (h:STO lt) {a b:ι} (h1:lt a b=true):a≠b:=fun e=>by rw [e,h.irr] at h1;cases h1
abbrev Up (lt:ι→ι→Bool) (l:List ι):Prop:=l.Pairwise fun a b=>lt a b=true
theorem up_ext {lt:ι→ι→Bool} (h:STO lt):∀ {l m:List ι},Up lt l→Up lt m→(∀ x,x∈l↔x∈m)→l=m
 | [],[],_,_,_=>rfl
 | [],b::m,_,_,e=>by have:=(e b).2 (List.mem_cons_self ..);cases this
 | a::l,[],_,_,e=>by have:=(e a).1 (List.mem_cons_self ..);cases this
 | a::l,b::m,hl,hm,e=>by
  obtain ⟨l1,l2⟩:=List.pairwise_cons.1 hl
  obtain ⟨m1,m2⟩:=List.pairwise_cons.1 hm
  have eab:a=b:=by
   rcases List.mem_cons.1 ((e a).1 (List.mem_cons_self ..)) with q | q
   ·exact q
   ·rcases List.mem_cons.1 ((e b).2 (List.mem_cons_self ..)) with r | r
    ·exact r.symm
    ·have:=h.asy (m1 a q);rw [l1 b r] at this;cases this
  subst eab
  congr 1
  refine up_ext h l2 m2 fun x=>⟨fun hx=>?_,fun hx=>?_⟩
  ·rcases List.mem_cons.1 ((e x).1 (List.mem_cons_of_mem _ hx)) with q | q
   ·have:=h.ne (l1 x hx);exact (this q.symm).elim
   ·exact q
  ·rcases List.mem_cons.1 ((e x).2 (List.mem_cons_of_mem _ hx)) with q | q
   ·have:=h.ne (m1 x hx);exact (this q.symm).elim
   ·exact q
theorem up_nodup {lt:ι→ι→Bool} (h:STO lt) {l:List ι} (hl:Up lt l):l.Nodup:=hl.imp fun {_ _} hab=>h.ne hab
theorem takeWhile_lt {lt:ι→ι→Bool} {y:ι}:∀ {a:List ι} {x:ι},x∈a.takeWhile (fun x=>lt x y)→lt x y=true
 | z::a,x,hx=>by
  rw [List.takeWhile_cons] at hx
  split at hx
  ·rename_i hz
   rcases List.mem_cons.1 hx with rfl | hx
   ·exact hz
   ·exact takeWhile_lt hx
  ·cases hx
structure BI (dp:ι→List ι) (ok:ι→Prop) (id:ι) (out q:List ι):Prop where
 nd:out.Nodup
 val:∀ x,x∈out→ok x
 rch:∀ x,x∈out→Rch dp id x
 que:∀ x,x∈q→x=id∨x∈out
 clo:∀ x,x=id∨x∈out→¬ x∈q→∀ y,y∈dp x→y∈out
theorem BI.start (dp:ι→List ι) (ok:ι→Prop) (id:ι):BI dp ok id [] [id] where
 nd:=List.nodup_nil
 val x hx:=by cases hx
 rch x hx:=by cases hx
 que x hx:=.inl (List.mem_singleton.1 hx)
 clo x hx hn:=by
  rcases hx with rfl | hx
  ·exact (hn (List.mem_singleton.2 rfl)).elim
  ·cases hx
theorem BI.done {dp:ι→List ι} {ok:ι→Prop} {id:ι} {out:List ι} (h:BI dp ok id out []):∀ y,y∈out↔Rch dp id y:=fun y =>
 ⟨h.rch y,fun hy=>hy.closed (fun z hz w hw=>h.clo z (.inr hz) (by simp) w hw) (fun w hw=>h.clo id (.inl rfl) (by simp) w hw)⟩
section
variable [DecidableEq ι]
def join (lt:ι→ι→Bool):List ι→List ι→List ι
 | a,[]=>a
 | a,y::ys=>a.takeWhile (fun x=>lt x y)++y::join lt (match a.dropWhile (fun x=>lt x y) with | []=>[] | z::zs=>if z=y then zs else z::zs) ys
def past (lt:ι→ι→Bool) (a:List ι) (y:ι):List ι:=match a.dropWhile (fun x=>lt x y) with | []=>[] | z::zs=>if z=y then zs else z::zs
theorem past_facts {lt:ι→ι→Bool} (h:STO lt) {y:ι}:∀ {a:List ι},Up lt a→Up lt (past lt a y)∧(∀ x,x∈past lt a y→lt y x=true∧x∈a)∧∀ x,x∈a→x∈a.takeWhile (fun x=>lt x y)∨x=y∨x∈past lt a y
 | [],_=>⟨List.Pairwise.nil,fun x hx=>(by cases hx),fun x hx=>by cases hx⟩
 | z::a,ha=>by
  obtain ⟨a1,a2⟩:=List.pairwise_cons.1 ha
  cases hz:lt z y with
  | true =>
   obtain ⟨i1,i2,i3⟩:=past_facts h (y:=y) a2
   have e:past lt (z::a) y=past lt a y:=by unfold past;rw [List.dropWhile_cons,if_pos hz]
   rw [e,List.takeWhile_cons,if_pos hz]
   refine ⟨i1,fun x hx=>⟨(i2 x hx).1,List.mem_cons_of_mem _ (i2 x hx).2⟩,fun x hx=>?_⟩
   rcases List.mem_cons.1 hx with rfl | hx
   ·exact .inl (List.mem_cons_self ..)
   ·rcases i3 x hx with q | q
    ·exact .inl (List.mem_cons_of_mem _ q)
    ·exact .inr q
  | false =>
   have e:past lt (z::a) y=if z=y then a else z::a:=by unfold past;rw [List.dropWhile_cons,if_neg (by simp [hz])]
   rw [List.takeWhile_cons,if_neg (by simp [hz]),e]
   by_cases hzy:z=y
   ·subst hzy
    rw [if_pos rfl]
    refine ⟨a2,fun x hx=>⟨a1 x hx,List.mem_cons_of_mem _ hx⟩,fun x hx=>?_⟩
    rcases List.mem_cons.1 hx with rfl | hx
    ·exact .inr (.inl rfl)
    ·exact .inr (.inr hx)
   ·rw [if_neg hzy]
    have hyz:lt y z=true:=by
     rcases h.tot y z with q | q | q
     ·exact q
     ·rw [hz] at q;cases q
     ·exact (hzy q.symm).elim
    refine ⟨ha,fun x hx=>⟨?_,hx⟩,fun x hx=>.inr (.inr hx)⟩
    rcases List.mem_cons.1 hx with rfl | hx
    ·exact hyz
    ·exact h.tr _ _ _ hyz (a1 x hx)
theorem join_cons (lt:ι→ι→Bool) (a:List ι) (y:ι) (ys:List ι):join lt a (y::ys)=a.takeWhile (fun x=>lt x y)++y::join lt (past lt a y) ys:=rfl
theorem join_facts {lt:ι→ι→Bool} (h:STO lt):∀ {b a:List ι},Up lt a→Up lt b→Up lt (join lt a b)∧∀ x,x∈join lt a b↔x∈a∨x∈b
 | [],a,ha,_=>⟨ha,fun x=>by unfold join;simp⟩
 | y::ys,a,ha,hb=>by
  obtain ⟨b1,b2⟩:=List.pairwise_cons.1 hb
  obtain ⟨p1,p2,p3⟩:=past_facts h (y:=y) ha
  obtain ⟨j1,j2⟩:=join_facts h p1 b2
  have hgt:∀ x,x∈join lt (past lt a y) ys→lt y x=true:=fun x hx=>by
   rcases (j2 x).1 hx with q | q
   ·exact (p2 x q).1
   ·exact b1 x q
  rw [join_cons]
  refine ⟨List.pairwise_append.2 ⟨ha.sublist (List.takeWhile_sublist _),List.pairwise_cons.2 ⟨hgt,j1⟩,fun x hx z hz=>?_⟩,fun x=>?_⟩
  ·have hxy:=takeWhile_lt hx
   rcases List.mem_cons.1 hz with rfl | hz
   ·exact hxy
   ·exact h.tr _ _ _ hxy (hgt z hz)
  ·rw [List.mem_append,List.mem_cons,List.mem_cons,j2]
   constructor
   ·rintro (q | q | q | q)
    ·exact .inl ((List.takeWhile_sublist _).subset q)
    ·exact .inr (.inl q)
    ·exact .inl (p2 x q).2
    ·exact .inr (.inr q)
   ·rintro (q | q | q)
    ·rcases p3 x q with r | r | r
     ·exact .inl r
     ·exact .inr (.inl r)
     ·exact .inr (.inr (.inl r))
    ·exact .inr (.inl q)
    ·exact .inr (.inr (.inr q))
def nextL (lt:ι→ι→Bool) (dp:ι→List ι) (out:List ι):List ι:=out.foldl (fun n x=>join lt n (dp x)) out
def rounds (lt:ι→ι→Bool) (dp:ι→List ι):Nat→List ι→List ι
 | 0,out=>out
 | n+1,out=>if (nextL lt dp out).length=out.length then out else rounds lt dp n (nextL lt dp out)
theorem foldJoin {lt:ι→ι→Bool} (h:STO lt) {dp:ι→List ι} (hd:∀ x,Up lt (dp x)):∀ (xs n:List ι),Up lt n→Up lt (xs.foldl (fun n x=>join lt n (dp x)) n)∧∀ y,y∈xs.foldl (fun n x=>join lt n (dp x)) n↔y∈n∨∃ x,x∈xs∧y∈dp x
 | [],n,hn=>⟨hn,fun y=>by simp⟩
 | x::xs,n,hn=>by
  obtain ⟨j1,j2⟩:=join_facts h hn (hd x)
  obtain ⟨f1,f2⟩:=foldJoin h hd xs _ j1
  refine ⟨f1,fun y=>?_⟩
  rw [List.foldl_cons,f2,j2]
  constructor
  ·rintro ((q | q) | ⟨z,hz,q⟩)
   ·exact .inl q
   ·exact .inr ⟨x,List.mem_cons_self ..,q⟩
   ·exact .inr ⟨z,List.mem_cons_of_mem _ hz,q⟩
  ·rintro (q | ⟨z,hz,q⟩)
   ·exact .inl (.inl q)
   ·rcases List.mem_cons.1 hz with rfl | hz
    ·exact .inl (.inr q)
    ·exact .inr ⟨z,hz,q⟩
theorem up_sub_len {lt:ι→ι→Bool} (h:STO lt) {l m:List ι} (hl:Up lt l) (hs:∀ x,x∈l→x∈m):l.length≤m.length:=by
 have hn:=up_nodup h hl
 clear hl
 induction l generalizing m with
 | nil=>simp
 | cons a l ih =>
  obtain ⟨n1,n2⟩:=List.nodup_cons.1 hn
  have ha:a∈m:=hs a (List.mem_cons_self ..)
  have:=ih (m:=m.erase a) (fun x hx=>(List.mem_erase_of_ne (fun e=>n1 (by rw [← e];exact hx))).2 (hs x (List.mem_cons_of_mem _ hx))) n2
  rw [List.length_erase_of_mem ha] at this
  have hp:=List.length_pos_of_mem ha
  simp only [List.length_cons];omega
theorem up_same {lt:ι→ι→Bool} (h:STO lt) {l m:List ι} (hl:Up lt l) (hm:Up lt m) (hs:∀ x,x∈l→x∈m) (hlen:m.length≤l.length):∀ x,x∈m→x∈l:=by
 intro x hx
 refine Classical.byContradiction fun hn=>?_
 have:=up_sub_len h hl (m:=m.erase x) fun y hy=>(List.mem_erase_of_ne (fun e=>hn (by rw [← e];exact hy))).2 (hs y hy)
 rw [List.length_erase_of_mem hx] at this
 have hp:=List.length_pos_of_mem hx
 omega
structure ROk (lt:ι→ι→Bool) (dp:ι→List ι) (ok:ι→Prop) (N:Nat):Prop where
 sto:STO lt
 up:∀ x,Up lt (dp x)
 val:∀ x y,y∈dp x→ok y
 len:∀ l:List ι,l.Nodup→(∀ x,x∈l→ok x)→l.length≤N
theorem rounds_closed {lt:ι→ι→Bool} {dp:ι→List ι} {ok:ι→Prop} {N:Nat} (H:ROk lt dp ok N):∀ (n:Nat) (out:List ι),Up lt out→(∀ x,x∈out→ok x)→(out=[]∨N < out.length+n) →
  (Up lt (rounds lt dp n out)∧(∀ x,x∈out→x∈rounds lt dp n out)∧(∀ x,x∈rounds lt dp n out→∀ y,y∈dp x→y∈rounds lt dp n out)∧∀ x,x∈rounds lt dp n out→x∈out∨∃ z,z∈out∧Rch dp z x)
 | 0,out,hu,hk,hn=>by
  rcases hn with rfl | hn
  ·exact ⟨hu,fun x hx=>hx,fun x hx=>(by cases hx),fun x hx=>.inl hx⟩
  ·have:=H.len out (up_nodup H.sto hu) hk;omega
 | n+1,out,hu,hk,hn=>by
  obtain ⟨f1,f2⟩:=foldJoin H.sto H.up out out hu
  have hsub:∀ x,x∈out→x∈nextL lt dp out:=fun x hx=>(f2 x).2 (.inl hx)
  unfold rounds
  by_cases hl:(nextL lt dp out).length=out.length
  ·rw [if_pos hl]
   refine ⟨hu,fun x hx=>hx,fun x hx y hy=>?_,fun x hx=>.inl hx⟩
   exact up_same H.sto hu f1 hsub (by show (nextL lt dp out).length≤_;omega) y ((f2 y).2 (.inr ⟨x,hx,hy⟩))
  ·rw [if_neg hl]
   have hge:out.length≤(nextL lt dp out).length:=up_sub_len H.sto hu hsub
   have hk':∀ x,x∈nextL lt dp out→ok x:=fun x hx=>by
    rcases (f2 x).1 hx with q | ⟨z,_,q⟩
    ·exact hk x q
    ·exact H.val z x q
   have hn':nextL lt dp out=[]∨N < (nextL lt dp out).length+n:=by
    rcases hn with rfl | hn
    ·exact .inl rfl
    ·exact .inr (by omega)
   obtain ⟨r1,r2,r3,r4⟩:=rounds_closed H n (nextL lt dp out) f1 hk' hn'
   refine ⟨r1,fun x hx=>r2 x (hsub x hx),r3,fun x hx=>?_⟩
   rcases r4 x hx with q | ⟨z,hz,q⟩
   ·rcases (f2 x).1 q with r | ⟨z,hz,r⟩
    ·exact .inl r
    ·exact .inr ⟨z,hz,.one r⟩
   ·rcases (f2 z).1 hz with r | ⟨u,hu',r⟩
    ·exact .inr ⟨z,r,q⟩
    ·exact .inr ⟨u,hu',.cons r q⟩
theorem rounds_reach {lt:ι→ι→Bool} {dp:ι→List ι} {ok:ι→Prop} {N:Nat} (H:ROk lt dp ok N) (id:ι):Up lt (rounds lt dp N (dp id))∧∀ y,y∈rounds lt dp N (dp id)↔Rch dp id y:=by
 have hn:dp id=[]∨N < (dp id).length+N:=by
  cases dp id with
  | nil=>exact .inl rfl
  | cons=>right;simp only [List.length_cons];omega
 obtain ⟨r1,r2,r3,r4⟩:=rounds_closed H N (dp id) (H.up id) (H.val id) hn
 refine ⟨r1,fun y=>⟨fun hy=>?_,fun hy=>hy.closed r3 r2⟩⟩
 rcases r4 y hy with q | ⟨z,hz,q⟩
 ·exact .one q
 ·exact .cons hz q
def push (t:List ι×List ι) (d:ι):List ι×List ι:=if d∈t.1 then t else (t.1++[d],t.2++[d])
theorem push_facts:∀ (ds:List ι) (o q:List ι),o.Nodup→∃ nw,(ds.foldl push (o,q))=(o++nw,q++nw)∧(o++nw).Nodup∧(∀ d,d∈ds→d∈o++nw)∧∀ d,d∈nw→d∈ds
 | [],o,q,h=>⟨[],by simp,by simpa using h,fun d hd=>(by cases hd),fun d hd=>by cases hd⟩
 | d::ds,o,q,h=>by
  rw [List.foldl_cons]
  by_cases hd:d∈o
  ·have e:push (o,q) d=(o,q):=if_pos hd
   rw [e]
   obtain ⟨nw,h1,h2,h3,h4⟩:=push_facts ds o q h
   refine ⟨nw,h1,h2,fun z hz=>?_,fun z hz=>List.mem_cons_of_mem _ (h4 z hz)⟩
   rcases List.mem_cons.1 hz with rfl | hz
   ·exact List.mem_append_left _ hd
   ·exact h3 z hz
  ·have e:push (o,q) d=(o++[d],q++[d]):=if_neg hd
   rw [e]
   have hnd:(o++[d]).Nodup:=List.nodup_append.2 ⟨h,by simp,fun a ha b hb=>by rw [List.mem_singleton.1 hb];intro e2;rw [e2] at ha;exact hd ha⟩
   obtain ⟨nw,h1,h2,h3,h4⟩:=push_facts ds (o++[d]) (q++[d]) hnd
   refine ⟨d::nw,by rw [h1];simp,by simpa using h2,fun z hz=>?_,fun z hz=>?_⟩
   ·rcases List.mem_cons.1 hz with rfl | hz
    ·simp
    ·have:=h3 z hz;simpa using this
   ·rcases List.mem_cons.1 hz with rfl | hz
    ·exact List.mem_cons_self ..
    ·exact List.mem_cons_of_mem _ (h4 z hz)
theorem BI.step {dp:ι→List ι} {ok:ι→Prop} (hv:∀ x y,y∈dp x→ok y) {id x:ι} {out q:List ι} (h:BI dp ok id out (x::q)) :
  BI dp ok id ((dp x).foldl push (out,q)).1 ((dp x).foldl push (out,q)).2∧out.length+((dp x).foldl push (out,q)).2.length=((dp x).foldl push (out,q)).1.length+q.length:=by
 obtain ⟨nw,e,h2,h3,h4⟩:=push_facts (dp x) out q h.nd
 rw [e]
 have hx:x=id∨x∈out:=h.que x (List.mem_cons_self ..)
 refine ⟨⟨h2,fun z hz=>?_,fun z hz=>?_,fun z hz=>?_,fun z hz hn y hy=>?_⟩,by simp only [List.length_append];omega⟩
 ·rcases List.mem_append.1 hz with hz | hz
  ·exact h.val z hz
  ·exact hv x z (h4 z hz)
 ·rcases List.mem_append.1 hz with hz | hz
  ·exact h.rch z hz
  ·rcases hx with rfl | hx
   ·exact .one (h4 z hz)
   ·exact (h.rch x hx).snoc (h4 z hz)
 ·rcases List.mem_append.1 hz with hz | hz
  ·rcases h.que z (List.mem_cons_of_mem _ hz) with r | r
   ·exact .inl r
   ·exact .inr (List.mem_append_left _ r)
  ·exact .inr (List.mem_append_right _ hz)
 ·have hn1:¬ z∈q:=fun hq=>hn (List.mem_append_left _ hq)
  have hn2:¬ z∈nw:=fun hq=>hn (List.mem_append_right _ hq)
  by_cases hzx:z=x
  ·subst hzx;exact h3 y hy
  ·have hz':z=id∨z∈out:=by
    rcases hz with r | r
    ·exact .inl r
    ·rcases List.mem_append.1 r with r | r
     ·exact .inr r
     ·exact (hn2 r).elim
   exact List.mem_append_left _ (h.clo z hz' (fun hm=>by rcases List.mem_cons.1 hm with r | r;exact hzx r;exact hn1 r) y hy)
end
end Gr
end Go.Proofs.SL
namespace Go.Proofs.SL
open Go
namespace Gr
variable {ι:Type}
def OutOk (rdy:ι→Bool) (part:ι→List ι) (ids:List ι) (out:List (List ι)):Prop:=∀ p,p∈out→∃ z,z∈ids∧rdy z=true∧p=part z
theorem OutOk.nil (rdy:ι→Bool) (part:ι→List ι) (ids:List ι):OutOk rdy part ids []:=fun p hp=>by cases hp
section
variable [DecidableEq ι]
def nextX (free:List ι→List ι→Bool) (rdy:ι→Bool) (part:ι→List ι) (ids:List ι) (out:List (List ι)):Option ι:=ids.find? fun x=>!decide (x∈out.flatten)&&rdy x&&free (part x) out.flatten
def orderS (free:List ι→List ι→Bool) (rdy:ι→Bool) (part:ι→List ι) (ids:List ι):Nat→List (List ι)→List (List ι)
 | 0,out=>out
 | n+1,out=>match nextX free rdy part ids out with
  | none=>out
  | some x=>orderS free rdy part ids n (out++[part x])
def leftL (rdy:ι→Bool) (part:ι→List ι) (ids:List ι) (out:List (List ι)):List (List ι):=(comps rdy part [] ids).filter fun p=>!decide (p∈out)
theorem next_eq {free:List ι→List ι→Bool} {rdy:ι→Bool} {part:ι→List ι} {ids:List ι} (hk:PartOk rdy part ids) {out:List (List ι)} (ho:OutOk rdy part ids out) :
  (nextX free rdy part ids out).map part=(leftL rdy part ids out).find? fun p=>free p out.flatten :=
 find_first hk ho (fun p=>free p out.flatten) ids [] (fun _ h=>h) (fun p hp=>by cases hp)
theorem next_some {free:List ι→List ι→Bool} {rdy:ι→Bool} {part:ι→List ι} {ids:List ι} {out:List (List ι)} (ho:OutOk rdy part ids out) {x:ι} (h:nextX free rdy part ids out=some x):x∈ids∧rdy x=true∧OutOk rdy part ids (out++[part x]):=by
 have h1:=List.mem_of_find?_eq_some h
 have h2:=List.find?_some h
 simp only [Bool.and_eq_true] at h2
 refine ⟨h1,h2.1.2,fun p hp=>?_⟩
 rcases List.mem_append.1 hp with hp | hp
 ·exact ho p hp
 ·exact ⟨x,h1,h2.1.2,List.mem_singleton.1 hp⟩
theorem left_step {rdy:ι→Bool} {part:ι→List ι} {ids:List ι} (hk:PartOk rdy part ids) {out:List (List ι)} {k:Nat} {p:List ι} (h:(leftL rdy part ids out)[k]?=some p):(leftL rdy part ids out).eraseIdx k=leftL rdy part ids (out++[p]) :=
 erase_filter (comps_nodup hk ids [] fun _ h=>h) h
theorem findIdx_find {α:Type} (f:α→Bool) (l:List α):(l.findIdx? f=none∧l.find? f=none)∨∃ k p,l.findIdx? f=some k∧l[k]?=some p∧l.find? f=some p:=by
 cases h:l.findIdx? f with
 | none =>
  refine .inl ⟨rfl,List.find?_eq_none.2 fun x hx=>?_⟩
  have:=List.findIdx?_eq_none_iff.1 h x hx
  simp [this]
 | some k =>
  right
  obtain ⟨h1,h2,h3⟩:=List.findIdx?_eq_some_iff_getElem.1 h
  refine ⟨k,l[k],rfl,List.getElem?_eq_getElem h1,?_⟩
  rw [List.find?_eq_some_iff_getElem]
  exact ⟨h2,k,h1,rfl,fun j hj=>by have:=h3 j hj;simpa using this⟩
theorem step_both {free:List ι→List ι→Bool} {rdy:ι→Bool} {part:ι→List ι} {ids:List ι} (hk:PartOk rdy part ids) {out:List (List ι)} (ho:OutOk rdy part ids out) :
  (nextX free rdy part ids out=none∧(leftL rdy part ids out).findIdx? (fun p=>free p out.flatten)=none) ∨
  ∃ x k,nextX free rdy part ids out=some x∧(leftL rdy part ids out).findIdx? (fun p=>free p out.flatten)=some k∧(leftL rdy part ids out)[k]?=some (part x)∧(leftL rdy part ids out).eraseIdx k=leftL rdy part ids (out++[part x])∧OutOk rdy part ids (out++[part x])∧x∈ids∧rdy x=true:=by
 have e:=next_eq (free:=free) hk ho
 rcases findIdx_find (fun p=>free p out.flatten) (leftL rdy part ids out) with ⟨h1,h2⟩ | ⟨k,p,h1,h2,h3⟩
 ·left
  rw [h2] at e
  exact ⟨by simpa using e,h1⟩
 ·right
  rw [h3] at e
  obtain ⟨x,hx,hp⟩:=Option.map_eq_some_iff.1 e
  subst hp
  obtain ⟨x1,x2,x3⟩:=next_some ho hx
  exact ⟨x,k,hx,h1,h2,left_step hk h2,x3,x1,x2⟩
theorem left_len {rdy:ι→Bool} {part:ι→List ι} {ids:List ι} {out:List (List ι)} {k:Nat} {p:List ι} (h:(leftL rdy part ids out)[k]?=some p) (he:(leftL rdy part ids out).eraseIdx k=leftL rdy part ids (out++[p])):(leftL rdy part ids (out++[p])).length+1=(leftL rdy part ids out).length:=by
 have hlt:=(List.getElem?_eq_some_iff.1 h).1
 rw [← he,List.length_eraseIdx,if_pos hlt];omega
theorem order_none {free:List ι→List ι→Bool} {rdy:ι→Bool} {part:ι→List ι} {ids:List ι} {out:List (List ι)} (h:nextX free rdy part ids out=none):∀ n,orderS free rdy part ids n out=out
 | 0=>rfl
 | n+1=>by unfold orderS;rw [h]
def parts (free:List ι→List ι→Bool) (rdy:ι→Bool) (part:ι→List ι) (ids:List ι):List (List ι):=orderS free rdy part ids ((comps rdy part [] ids).length+1) []
def OI (free:List ι→List ι→Bool) (rdy:ι→Bool) (part:ι→List ι) (ids:List ι) (out:List (List ι)):Prop:=OutOk rdy part ids out∧∃ n,(leftL rdy part ids out).length < n∧orderS free rdy part ids n out=parts free rdy part ids
theorem OI.start (free:List ι→List ι→Bool) (rdy:ι→Bool) (part:ι→List ι) (ids:List ι):OI free rdy part ids [] :=
 ⟨OutOk.nil rdy part ids,_,Nat.lt_succ_of_le (List.length_filter_le _ _),rfl⟩
theorem OI.stop {free:List ι→List ι→Bool} {rdy:ι→Bool} {part:ι→List ι} {ids:List ι} {out:List (List ι)} (h:OI free rdy part ids out) (hn:nextX free rdy part ids out=none):out=parts free rdy part ids:=by
 obtain ⟨_,n,_,e⟩:=h
 rw [← e,order_none hn]
theorem OI.step {free:List ι→List ι→Bool} {rdy:ι→Bool} {part:ι→List ι} {ids:List ι} (hk:PartOk rdy part ids) {out:List (List ι)} (h:OI free rdy part ids out) {x:ι} (hx:nextX free rdy part ids out=some x) :
  OI free rdy part ids (out++[part x])∧(leftL rdy part ids (out++[part x])).length+1=(leftL rdy part ids out).length:=by
 obtain ⟨ho,n,hn,e⟩:=h
 rcases step_both (free:=free) hk ho with ⟨h1,_⟩ | ⟨x',k,h1,h2,h3,h4,h5,_,_⟩
 ·rw [h1] at hx;cases hx
 ·rw [h1] at hx
  cases hx
  have hl:=left_len h3 h4
  refine ⟨⟨h5,n - 1,by omega,?_⟩,hl⟩
  rw [← e]
  obtain ⟨m,rfl⟩:∃ m,n=m+1:=⟨n - 1,by omega⟩
  rw [Nat.add_sub_cancel]
  conv=>rhs;unfold orderS
  rw [h1]
end
end Gr
end Go.Proofs.SL
namespace Go.Proofs.SL
open Go
namespace Gr
variable {ι:Type}
def lt2 (sq:ι→Int) (lt:ι→ι→Bool) (a b:ι):Bool:=decide (sq a < sq b)||(decide (sq a=sq b)&&lt a b)
theorem lt2_iff {sq:ι→Int} {lt:ι→ι→Bool} {a b:ι}:lt2 sq lt a b=true↔sq a < sq b∨(sq a=sq b∧lt a b=true):=by unfold lt2;simp
theorem lt2_sto {sq:ι→Int} {lt:ι→ι→Bool} (h:STO lt):STO (lt2 sq lt) where
 irr a:=by
  cases e:lt2 sq lt a a with
  | false=>rfl
  | true =>
   rcases lt2_iff.1 e with q | ⟨_,q⟩
   ·omega
   ·rw [h.irr] at q;cases q
 tr a b c h1 h2:=by
  rcases lt2_iff.1 h1 with q | ⟨q,q2⟩<;>rcases lt2_iff.1 h2 with r | ⟨r,r2⟩
  ·exact lt2_iff.2 (.inl (by omega))
  ·exact lt2_iff.2 (.inl (by omega))
  ·exact lt2_iff.2 (.inl (by omega))
  ·exact lt2_iff.2 (.inr ⟨by omega,h.tr _ _ _ q2 r2⟩)
 tot a b:=by
  rcases Int.lt_trichotomy (sq a) (sq b) with q | q | q
  ·exact .inl (lt2_iff.2 (.inl q))
  ·rcases h.tot a b with r | r | r
   ·exact .inl (lt2_iff.2 (.inr ⟨q,r⟩))
   ·exact .inr (.inl (lt2_iff.2 (.inr ⟨q.symm,r⟩)))
   ·exact .inr (.inr r)
  ·exact .inr (.inl (lt2_iff.2 (.inl q)))
theorem ins_up {sq:ι→Int} {lt:ι→ι→Bool} {out:List ι} {x:ι} {k:Nat} (hu:Up (lt2 sq lt) out) (hx:∀ a,a∈out→lt a x=true) (hd:∀ b,b∈out.drop k→sq x < sq b) (ht:k=0∨∃ a,out[k - 1]?=some a∧sq a≤sq x) :
  Up (lt2 sq lt) (out.take k++x::out.drop k):=by
 have hta:∀ a,a∈out.take k→sq a≤sq x:=fun a ha=>by
  rcases ht with rfl | ⟨z,hz,hzx⟩
  ·simp at ha
  ·obtain ⟨i,hi⟩:=List.getElem?_of_mem ha
   rw [List.getElem?_take] at hi
   split at hi
   ·rename_i hik
    obtain ⟨h1,h2⟩:=List.getElem?_eq_some_iff.1 hi
    obtain ⟨h3,h4⟩:=List.getElem?_eq_some_iff.1 hz
    rcases Nat.lt_or_ge i (k - 1) with hl | hl
    ·have:=List.pairwise_iff_getElem.1 hu i (k - 1) h1 h3 hl
     rw [h2,h4] at this
     rcases lt2_iff.1 this with q | ⟨q,_⟩<;>omega
    ·have:i=k - 1:=by omega
     subst this
     rw [h2] at h4;rw [h4];exact hzx
   ·cases hi
 rw [show out.take k++x::out.drop k=out.take k++(x::out.drop k) from rfl]
 refine List.pairwise_append.2 ⟨hu.sublist (List.take_sublist _ _),List.pairwise_cons.2 ⟨fun b hb=>lt2_iff.2 (.inl (hd b hb)),hu.sublist (List.drop_sublist _ _)⟩,fun a ha b hb=>?_⟩
 rcases List.mem_cons.1 hb with rfl | hb
 ·have h1:=hta a ha
  have h2:=hx a (List.mem_of_mem_take ha)
  rcases Int.lt_or_eq_of_le h1 with q | q
  ·exact lt2_iff.2 (.inl q)
  ·exact lt2_iff.2 (.inr ⟨q,h2⟩)
 ·have h1:=hta a ha
  have h2:=hd b hb
  exact lt2_iff.2 (.inl (by omega))
theorem mem_ins {out:List ι} {x y:ι} (k:Nat):y∈out.take k++x::out.drop k↔y=x∨y∈out:=by
 rw [List.mem_append,List.mem_cons]
 have:y∈out↔y∈out.take k∨y∈out.drop k:=by rw [← List.mem_append,List.take_append_drop]
 rw [this]
 constructor
 ·rintro (h | h | h)
  ·exact .inr (.inl h)
  ·exact .inl h
  ·exact .inr (.inr h)
 ·rintro (h | h | h)
  ·exact .inr (.inl h)
  ·exact .inl h
  ·exact .inr (.inr h)
def InPart (dp:ι→List ι) (x y:ι):Prop:=y=x∨(Rch dp x y∧Rch dp y x)
theorem InPart.symm {dp:ι→List ι} {x y:ι} (h:InPart dp x y):InPart dp y x:=by
 rcases h with rfl | ⟨h1,h2⟩
 ·exact .inl rfl
 ·exact .inr ⟨h2,h1⟩
theorem InPart.trans {dp:ι→List ι} {x y z:ι} (h:InPart dp x y) (k:InPart dp y z):InPart dp x z:=by
 rcases h with rfl | ⟨h1,h2⟩
 ·exact k
 ·rcases k with rfl | ⟨k1,k2⟩
  ·exact .inr ⟨h1,h2⟩
  ·exact .inr ⟨h1.trans k1,k2.trans h2⟩
theorem partOk_of {dp:ι→List ι} {cm:ι→Bool} {lt':ι→ι→Bool} (hs:STO lt') {rdy:ι→Bool} {part:ι→List ι} {ids:List ι}
  (hr:∀ x,rdy x=true↔cm x=true∧∀ y,Rch dp x y→cm y=true) (hc:∀ x,cm x=true→x∈ids) (hu:∀ x,x∈ids→rdy x=true→Up lt' (part x)) (hp:∀ x,x∈ids→rdy x=true→∀ y,y∈part x↔InPart dp x y):PartOk rdy part ids where
 self x hx hrx:=(hp x hx hrx x).2 (.inl rfl)
 mem x hx hrx y hy:=by
  have hq:=(hp x hx hrx y).1 hy
  obtain ⟨c1,c2⟩:=(hr x).1 hrx
  have hcy:cm y=true:=by
   rcases hq with rfl | ⟨q,_⟩
   ·exact c1
   ·exact c2 y q
  have hry:rdy y=true:=(hr y).2 ⟨hcy,fun z hz=>by
   rcases hq with rfl | ⟨q,_⟩
   ·exact c2 z hz
   ·exact c2 z (q.trans hz)⟩
  have hyi:=hc y hcy
  refine ⟨hyi,hry,up_ext hs (hu y hyi hry) (hu x hx hrx) fun z=>?_⟩
  rw [hp y hyi hry,hp x hx hrx]
  exact ⟨fun h=>hq.trans h,fun h=>hq.symm.trans h⟩
end Gr
end Go.Proofs.SL
namespace Go.Proofs.SL
open Go
theorem idEq_dec (a b:D_Id):idEq a b=decide (a=b):=by
 unfold idEq
 rw [Bool.eq_iff_iff]
 simp only [Bool.and_eq_true,decide_eq_true_eq,and_true]
 constructor
 ·rintro ⟨h1,h2⟩;exact Prod.ext h1 h2
 ·rintro rfl;exact ⟨rfl,rfl⟩
theorem idLt_iff {a b:D_Id}:idLt a b=true↔a.1 < b.1∨(a.1=b.1∧a.2 < b.2):=by unfold idLt;simp
theorem idLt_sto:Gr.STO idLt where
 irr a:=by
  cases h:idLt a a with
  | false=>rfl
  | true=>have:=idLt_iff.1 h;omega
 tr a b c h1 h2:=by
  have:=idLt_iff.1 h1;have:=idLt_iff.1 h2
  exact idLt_iff.2 (by omega)
 tot a b:=by
  by_cases h1:a.1 < b.1
  ·exact .inl (idLt_iff.2 (.inl h1))
  by_cases h2:b.1 < a.1
  ·exact .inr (.inl (idLt_iff.2 (.inl h2)))
  have h3:a.1=b.1:=by omega
  by_cases h4:a.2 < b.2
  ·exact .inl (idLt_iff.2 (.inr ⟨h3,h4⟩))
  by_cases h5:b.2 < a.2
  ·exact .inr (.inl (idLt_iff.2 (.inr ⟨h3.symm,h5⟩)))
  ·exact .inr (.inr (Prod.ext h3 (by omega)))
theorem idsOk_facts {l:List D_Id} (h:idsOkB l=true):(∀ x,x∈l→idOkB x=true)∧Gr.Up idLt l:=by
 unfold idsOkB at h
 simp only [List.all_eq_true,List.mem_range] at h
 refine ⟨fun x hx=>?_,pairwise_of_step (R:=fun a b:D_Id=>idLt a b=true) (fun a b c=>idLt_sto.tr a b c) l fun k hk=>?_⟩
 ·obtain ⟨k,hk⟩:=List.getElem?_of_mem hx
  have:=h k (List.getElem?_eq_some_iff.1 hk).1
  unfold idAt at this
  rw [hk] at this
  simp only [Bool.and_eq_true] at this
  exact this.1
 ·have:=h (k+1) hk
  unfold idAt at this
  rw [List.getElem?_eq_getElem hk] at this
  simp only [Bool.and_eq_true,decide_eq_true_eq,Bool.or_eq_true,Nat.add_sub_cancel,List.getElem?_eq_getElem (show k < l.length by omega),Option.all_some] at this
  rcases this.2 with h2 | h2
  ·omega
  ·exact h2
theorem instsOk_facts {l:List D_Inst} (h:instsOkB l=true):(∀ x,x∈l→instOkB x=true)∧l.Pairwise (fun a b=>idLt a.1 b.1=true):=by
 unfold instsOkB at h
 simp only [List.all_eq_true,List.mem_range] at h
 refine ⟨fun x hx=>?_,pairwise_of_step (R:=fun a b:D_Inst=>idLt a.1 b.1=true) (fun a b c=>idLt_sto.tr a.1 b.1 c.1) l fun k hk=>?_⟩
 ·obtain ⟨k,hk⟩:=List.getElem?_of_mem hx
  have:=h k (List.getElem?_eq_some_iff.1 hk).1
  unfold instAt at this
  rw [hk] at this
  simp only [Bool.and_eq_true] at this
  exact this.1
 ·have:=h (k+1) hk
  unfold instAt at this
  rw [List.getElem?_eq_getElem hk] at this
  simp only [Bool.and_eq_true,decide_eq_true_eq,Bool.or_eq_true,Nat.add_sub_cancel,List.getElem?_eq_getElem (show k < l.length by omega),Option.all_some] at this
  rcases this.2 with h2 | h2
  ·omega
  ·exact h2
theorem instOk_facts {x:D_Inst} (h:instOkB x=true):idOkB x.1=true∧cmdOkB x.2.2.2.2.1=true∧(0≤x.2.2.2.2.2.1∧x.2.2.2.2.2.1≤60)∧idsOkB x.2.2.2.2.2.2.1=true:=by
 unfold instOkB at h
 simp only [Bool.and_eq_true,decide_eq_true_eq] at h
 exact ⟨h.1.1.1.1.1.1.1.1,h.1.1.1.1.2,h.1.1.1.2,h.1.1.2⟩
def idN (x:D_Id):Int:=6*x.1+x.2
theorem idOk_iff {x:D_Id} (h:idOkB x=true):(0≤x.1∧x.1≤2)∧(1≤x.2∧x.2≤6):=by
 unfold idOkB at h;simpa using h
theorem nodup_len {l:List D_Id} (h:l.Nodup) (hk:∀ x,x∈l→idOkB x=true):l.length≤18:=by
 have h1:(l.map fun x=>(idN x).toNat).Nodup:=by
  rw [List.nodup_iff_pairwise_ne,List.pairwise_map]
  refine List.Pairwise.imp_of_mem ?_ h
  intro a b ha hb hab e
  have:=idOk_iff (hk a ha);have:=idOk_iff (hk b hb)
  unfold idN at e
  exact hab (Prod.ext (by omega) (by omega))
 have h2:∀ n,n∈(l.map fun x=>(idN x).toNat)→n∈List.range 19:=fun n hn=>by
  obtain ⟨x,hx,rfl⟩:=List.mem_map.1 hn
  have:=idOk_iff (hk x hx)
  unfold idN
  rw [List.mem_range];omega
 have h3:∀ n,n∈(l.map fun x=>(idN x).toNat)→n≠0:=fun n hn=>by
  obtain ⟨x,hx,rfl⟩:=List.mem_map.1 hn
  have:=idOk_iff (hk x hx)
  unfold idN
  omega
 have h4:=List.Nodup.length_le_of_subset (l₂:=(List.range 19).erase 0) h1 (fun n hn=>(List.mem_erase_of_ne (h3 n hn)).2 (h2 n hn))
 rw [List.length_map] at h4
 simpa using h4
theorem insts_len {l:List D_Inst} (h:instsOkB l=true):l.length≤18:=by
 obtain ⟨h1,h2⟩:=instsOk_facts h
 have:=nodup_len (l:=l.map (·.1)) (Gr.up_nodup idLt_sto (List.pairwise_map.2 h2)) fun x hx=>by
  obtain ⟨y,hy,rfl⟩:=List.mem_map.1 hx
  exact (instOk_facts (h1 y hy)).1
 simpa using this
theorem deps_len {l:List D_Id} (h:idsOkB l=true):l.length≤18:=by
 obtain ⟨h1,h2⟩:=idsOk_facts h
 exact nodup_len (Gr.up_nodup idLt_sto h2) h1
def getI (l:List D_Inst) (id:D_Id):Option D_Inst:=l.find? fun x=>idEq x.1 id
def comI (l:List D_Inst) (id:D_Id):Bool:=match getI l id with | some x=>decide (x.2.2.2.1=3) | none=>false
def dpI (l:List D_Inst) (id:D_Id):List D_Id:=match getI l id with | some x=>if x.2.2.2.1=3 then x.2.2.2.2.2.2.1 else [] | none=>[]
def seqI (l:List D_Inst) (id:D_Id):Int:=match getI l id with | some x=>x.2.2.2.2.2.1 | none=>0
noncomputable def atI (l:List D_Inst) (id:D_Id):D_Inst:=match getI l id with | some x=>x | none=>((id.1,id.2),(-1),(-1),0,(0,0,0,ByteArray.empty,ByteArray.empty,ByteArray.empty,0,([]:List ByteArray)),0,([]:List D_Id),false)
theorem getI_some {l:List D_Inst} {id:D_Id} {x:D_Inst} (h:getI l id=some x):x∈l∧x.1=id:=by
 have h1:=List.mem_of_find?_eq_some h
 have h2:=List.find?_some h
 rw [idEq_dec] at h2
 exact ⟨h1,of_decide_eq_true h2⟩
theorem getI_mem {l:List D_Inst} (h:instsOkB l=true) {x:D_Inst} (hx:x∈l):getI l x.1=some x:=by
 obtain ⟨_,h2⟩:=instsOk_facts h
 cases hf:getI l x.1 with
 | none=>have:=List.find?_eq_none.1 hf x hx;rw [idEq_dec] at this;simp at this
 | some y =>
  obtain ⟨m,e⟩:=getI_some hf
  obtain ⟨i,hi⟩:=List.getElem?_of_mem m
  obtain ⟨j,hj⟩:=List.getElem?_of_mem hx
  obtain ⟨i1,i2⟩:=List.getElem?_eq_some_iff.1 hi
  obtain ⟨j1,j2⟩:=List.getElem?_eq_some_iff.1 hj
  have hij:i=j:=by
   rcases Nat.lt_trichotomy i j with q | q | q
   ·have:=List.pairwise_iff_getElem.1 h2 i j i1 j1 q
    rw [i2,j2,e,idLt_sto.irr] at this;cases this
   ·exact q
   ·have:=List.pairwise_iff_getElem.1 h2 j i j1 i1 q
    rw [i2,j2,e,idLt_sto.irr] at this;cases this
  subst hij
  rw [← i2,← j2]
theorem firstI_opt {α:Type} (p:α→Bool) (l:List α):(firstI p l=-1∧l.find? p=none)∨∃ (k:Nat) (x:α),firstI p l=(k:Int)∧l[k]?=some x∧l.find? p=some x:=by
 rcases Gr.findIdx_find p l with ⟨h1,h2⟩ | ⟨k,x,h1,h2,h3⟩
 ·exact .inl ⟨firstI_none h1,h2⟩
 ·exact .inr ⟨k,x,firstI_some h1,h2,h3⟩
def comP (id:D_Id) (x:D_Inst):Bool:=idEq x.1 id&&decide (x.2.2.2.1=3)
theorem s_l12Find_eq {l:List D_Inst} {id:D_Id} (h:l.length≤9223372036854775807):s_l12Find l id=some (firstI (comP id) l):=by
 unfold s_l12Find
 rw [whileP_find (comP id) some h]
 ·intro k x hx
  simp only [lt_dec (List.getElem?_eq_some_iff.1 hx).1,cond_true,idx_nat,hx,Option.bind_some,gbs]
  unfold comP idEq
  cases decide (x.1.1=id.1)&&(decide (x.1.2=id.2)&&true) with
  | false=>rfl
  | true=>cases h3:decide (x.2.2.2.1=3)<;>simp [h3]
 ·simp only [ge_dec];rfl
theorem find_com {l:List D_Inst} (h:instsOkB l=true) (id:D_Id):l.find? (comP id)=(if comI l id then getI l id else none):=by
 unfold comI
 cases hg:getI l id with
 | none =>
  simp only [Bool.false_eq_true,if_false]
  refine List.find?_eq_none.2 fun x hx=>?_
  have:=List.find?_eq_none.1 hg x hx
  unfold comP;simp at this;simp [this]
 | some x =>
  obtain ⟨m,e⟩:=getI_some hg
  dsimp only
  by_cases hs:x.2.2.2.1=3
  ·rw [if_pos (decide_eq_true hs)]
   cases hf:l.find? (comP id) with
   | none=>have:=List.find?_eq_none.1 hf x m;unfold comP at this;rw [idEq_dec,decide_eq_true e,decide_eq_true hs] at this;simp at this
   | some y =>
    have h1:=List.mem_of_find?_eq_some hf
    have h2:=List.find?_some hf
    unfold comP at h2
    rw [idEq_dec,Bool.and_eq_true,decide_eq_true_eq] at h2
    have:=getI_mem h h1
    rw [h2.1,hg] at this
    exact this.symm
  ·rw [if_neg (by simp [hs])]
   refine List.find?_eq_none.2 fun y hy=>?_
   unfold comP
   rw [idEq_dec]
   by_cases hy1:y.1=id
   ·have:=getI_mem h hy
    rw [hy1,hg] at this
    cases this
    simp [hs]
   ·simp [hy1]
theorem find_neg {l:List D_Inst} (h:instsOkB l=true) (id:D_Id):decide (firstI (comP id) l < 0)=!comI l id:=by
 have e:=find_com h id
 rcases firstI_opt (comP id) l with ⟨h1,h2⟩ | ⟨k,x,h1,h2,h3⟩
 ·rw [h1]
  rw [h2] at e
  cases hc:comI l id with
  | false=>rfl
  | true =>
   rw [hc] at e;simp only [if_true] at e
   unfold comI at hc;rw [← e] at hc;cases hc
 ·rw [h1]
  rw [h3] at e
  cases hc:comI l id with
  | false=>rw [hc] at e;simp at e
  | true=>simp
theorem s_l12Deps_eq {l:List D_Inst} (h:instsOkB l=true) (id:D_Id):s_l12Deps l id=some (dpI l id):=by
 have hl:=insts_len h
 unfold s_l12Deps
 rw [show s_l12Find l (id.1,id.2)=_ from s_l12Find_eq (id:=id) (by omega),Option.bind_some,find_neg h]
 have e:=find_com h id
 cases hc:comI l id with
 | false =>
  simp only [Bool.not_false,cond_true,Option.bind_some]
  unfold dpI
  unfold comI at hc
  cases hg:getI l id with
  | none=>rfl
  | some x=>rw [hg] at hc;dsimp only at hc ⊢;rw [if_neg (of_decide_eq_false hc)]
 | true =>
  simp only [Bool.not_true,cond_false]
  rw [hc] at e
  simp only [if_true] at e
  rcases firstI_opt (comP id) l with ⟨h1,h2⟩ | ⟨k,x,h1,h2,h3⟩
  ·rw [h2] at e;unfold comI at hc;rw [← e] at hc;cases hc
  ·rw [h1,idx_nat,h2,Option.bind_some]
   rw [h3] at e
   unfold dpI
   unfold comI at hc
   rw [← e] at hc ⊢
   dsimp only at hc ⊢
   rw [if_pos (of_decide_eq_true hc)]
theorem dpI_facts {l:List D_Inst} (h:instsOkB l=true) (id:D_Id):idsOkB (dpI l id)=true:=by
 unfold dpI
 cases hg:getI l id with
 | none=>rfl
 | some x =>
  dsimp only
  split
  ·exact (instOk_facts ((instsOk_facts h).1 x (getI_some hg).1)).2.2.2
  ·rfl
theorem rok {l:List D_Inst} (h:instsOkB l=true):Gr.ROk idLt (dpI l) (fun x=>idOkB x=true) 18 where
 sto:=idLt_sto
 up x:=(idsOk_facts (dpI_facts h x)).2
 val x y hy:=(idsOk_facts (dpI_facts h x)).1 y hy
 len l hn hk:=nodup_len hn hk
def reachI (l:List D_Inst) (id:D_Id):List D_Id:=Gr.rounds idLt (dpI l) 18 (dpI l id)
theorem reach_iff {l:List D_Inst} (h:instsOkB l=true) (id:D_Id):Gr.Up idLt (reachI l id)∧∀ y,y∈reachI l id↔Gr.Rch (dpI l) id y:=Gr.rounds_reach (rok h) id
theorem rch_ok {l:List D_Inst} (h:instsOkB l=true) {x y:D_Id} (hr:Gr.Rch (dpI l) x y):idOkB y=true:=by
 induction hr with
 | one hy=>exact (rok h).val _ _ hy
 | cons _ _ ih=>exact ih
theorem reach_len {l:List D_Inst} (h:instsOkB l=true) (id:D_Id):(reachI l id).length≤18:=by
 obtain ⟨h1,h2⟩:=reach_iff h id
 exact nodup_len (Gr.up_nodup idLt_sto h1) fun x hx=>rch_ok h ((h2 x).1 hx)
def rdyI (l:List D_Inst) (id:D_Id):Bool:=comI l id&&(reachI l id).all (comI l)
theorem rdy_iff {l:List D_Inst} (h:instsOkB l=true) (x:D_Id):rdyI l x=true↔comI l x=true∧∀ y,Gr.Rch (dpI l) x y→comI l y=true:=by
 unfold rdyI
 rw [Bool.and_eq_true,List.all_eq_true]
 exact and_congr_right fun _=>forall_congr' fun y=>by rw [(reach_iff h x).2]
theorem com_mem {l:List D_Inst} {x:D_Id} (h:comI l x=true):x∈l.map (·.1):=by
 unfold comI at h
 cases hg:getI l x with
 | none=>rw [hg] at h;cases h
 | some y=>obtain ⟨m,e⟩:=getI_some hg;exact List.mem_map.2 ⟨y,m,e⟩
end Go.Proofs.SL
namespace Go.Proofs.SL
open Go
theorem step_in {σ σ' α:Type} {f:σ→Option (σ ⊕ (σ' ⊕ α))} {s:σ} {C:σ'→Prop} (I:σ→Prop) (μ:σ→Nat) (P:σ'→Prop) (hg:∀ s',P s'→C s') (hs:I s)
  (h:∀ s,I s→(∃ s',f s=some (.inl s')∧I s'∧μ s' < μ s)∨∃ s',f s=some (.inr (.inl s'))∧P s'):∃ s',whileP f s=some (.inl s')∧C s':=by
 obtain ⟨s',h1,h2⟩:=whileP_inl I μ P h s hs
 exact ⟨s',h1,hg _ h2⟩
theorem slcP_at {α:Type} {l:List α} {a b:Int} (h:0≤a∧a≤b∧b≤l.length):slcP l a b=some ((l.drop a.toNat).take (b.toNat - a.toNat)):=if_pos h
theorem drop_cons {α:Type} {l:List α} {k:Nat} {x:α} (h:l[k]?=some x):l.drop k=x::l.drop (k+1):=by
 obtain ⟨h1,h2⟩:=List.getElem?_eq_some_iff.1 h
 rw [List.drop_eq_getElem_cons h1,h2]
theorem s_l8Join_eq {a b:List D_Id} (ha:a.length≤1000) (hb:b.length≤1000):s_l8Join a b=some (Gr.join idLt a b):=by
 unfold s_l8Join
 rw [Option.bind_some]
 refine whileP_is (s:=(([]:List D_Id),(0:Int),(0:Int))) (fun s:List D_Id×Int×Int=>∃ i k:Nat,s.2.1=(i:Int)∧s.2.2=(k:Int)∧i≤a.length∧k≤b.length∧s.1.length≤i+k∧s.1++Gr.join idLt (a.drop i) (b.drop k)=Gr.join idLt a b) (fun s=>(b.length - s.2.2).toNat) ?_ ⟨0,0,rfl,rfl,Nat.zero_le _,Nat.zero_le _,Nat.le_refl _,by simp⟩
 rintro ⟨o,i',k'⟩ ⟨i,k,h1,h2,hi,hk,hl,he⟩
 dsimp only at h1 h2 hl he ⊢
 subst h1;subst h2
 by_cases hkb:k < b.length
 ·left
  have hy:b[k]?=some b[k]:=List.getElem?_eq_getElem hkb
  generalize b[k]=y at hy
  have hd:=drop_cons hy
  rw [show decide ((k:Int) < (b.length:Int))=true from decide_eq_true (by omega),cond_true]
  rw [hd,Gr.join_cons] at he
  refine step_in (fun s:List D_Id×Int=>∃ j:Nat,s.2=(j:Int)∧i≤j∧j≤a.length∧s.1.length≤j+k∧s.1++(a.drop j).takeWhile (fun x=>idLt x y)=o++(a.drop i).takeWhile (fun x=>idLt x y)∧(a.drop j).dropWhile (fun x=>idLt x y)=(a.drop i).dropWhile (fun x=>idLt x y))
   (fun s=>(a.length - s.2).toNat)
   (fun s:List D_Id×Int×Int=>∃ j:Nat,s.2.1=(j:Int)∧s.2.2=((k+1:Nat):Int)∧j≤a.length∧s.1.length≤j+(k+1)∧s.1=(o++(a.drop i).takeWhile (fun x=>idLt x y))++[y]∧a.drop j=Gr.past idLt (a.drop i) y)
   ?_ ⟨i,rfl,Nat.le_refl _,hi,hl,rfl,rfl⟩ ?_
  ·rintro s' ⟨j,e2,e3,e4,e5,e6,e7⟩
   refine ⟨⟨j,k+1,e2,e3,e4,hkb,e5,?_⟩,?_⟩
   ·rw [e6,e7,← he];simp
   ·rw [e3];omega
  ·rintro ⟨t,j'⟩ ⟨j,h1,hij,hj,htl,ht1,ht2⟩
   dsimp only at h1 htl ht1 ht2 ⊢
   subst h1
   have w1:IntKind.wrap .i64 ((k:Int)+1)=((k+1:Nat):Int):=wrap_succ (by omega)
   by_cases hja:j < a.length
   ·have hx:a[j]?=some a[j]:=List.getElem?_eq_getElem hja
    generalize a[j]=x at hx
    have hdj:=drop_cons hx
    rw [show decide ((j:Int) < (a.length:Int))=true from decide_eq_true (by omega),gb_true,idx_nat,hx,Option.bind_some,gb_true,idx_nat,hy,Option.bind_some,gb_true,show s_l8Less (x.1,x.2) (y.1,y.2)=some (idLt x y) from rfl,Option.bind_some]
    rw [hdj] at ht1 ht2
    cases hc:idLt x y with
    | true =>
     left
     rw [List.takeWhile_cons,if_pos hc] at ht1
     rw [List.dropWhile_cons,if_pos hc] at ht2
     simp only [Bool.and_self,cond_true,Option.bind_some]
     rw [appP_ok (by simp;omega),Option.bind_some,wrap_succ (show j < 9223372036854775807 by omega)]
     refine ⟨_,rfl,⟨j+1,rfl,by omega,by omega,by simp;omega,?_,ht2⟩,by dsimp only;omega⟩
     rw [← ht1];simp
    | false =>
     right
     rw [List.takeWhile_cons,if_neg (by simp [hc]),List.append_nil] at ht1
     rw [List.dropWhile_cons,if_neg (by simp [hc])] at ht2
     simp only [Bool.and_false,cond_false,Bool.true_and,gb_true,Option.bind_some]
     have hq:(decide (x.1=y.1)&&(decide (x.2=y.2)&&true))=decide (x=y):=idEq_dec x y
     rw [hq,appP_ok (by simp;omega),Option.bind_some,Option.bind_some,w1,wrap_succ (show j < 9223372036854775807 by omega)]
     by_cases hxy:x=y
     ·rw [decide_eq_true hxy,cond_true]
      refine ⟨_,rfl,j+1,rfl,rfl,by omega,by simp;omega,by rw [← ht1],?_⟩
      unfold Gr.past
      rw [← ht2]
      dsimp only
      rw [if_pos hxy]
     ·rw [decide_eq_false hxy,cond_false]
      refine ⟨_,rfl,j,rfl,rfl,by omega,by simp;omega,by rw [← ht1],?_⟩
      unfold Gr.past
      rw [← ht2]
      dsimp only
      rw [if_neg hxy,hdj]
   ·right
    have hdn:a.drop j=[]:=List.drop_of_length_le (by omega)
    rw [hdn] at ht1 ht2
    simp only [List.takeWhile_nil,List.dropWhile_nil,List.append_nil] at ht1 ht2
    rw [show decide ((j:Int) < (a.length:Int))=false from decide_eq_false (by omega)]
    simp only [gb_false,Bool.false_and,cond_false]
    rw [idx_nat,hy,Option.bind_some,appP_ok (by simp;omega),Option.bind_some,w1]
    refine ⟨_,rfl,j,rfl,rfl,by omega,by simp;omega,by rw [← ht1],?_⟩
    unfold Gr.past
    rw [← ht2,hdn]
 ·right
  have hkk:k=b.length:=by omega
  subst hkk
  rw [show decide ((b.length:Int) < (b.length:Int))=false from decide_eq_false (by omega),cond_false]
  rw [List.drop_of_length_le (Nat.le_refl _)] at he
  rw [slcP_at (by omega),Option.bind_some]
  have h3:((a.drop ((i:Int).toNat)).take ((a.length:Int).toNat - (i:Int).toNat))=a.drop i:=by
   rw [Int.toNat_natCast,Int.toNat_natCast,List.take_of_length_le (by simp)]
  rw [h3,appP_ok (by simp;omega),Option.bind_some,Option.map_some]
  have he':o++a.drop i=Gr.join idLt a b:=he
  rw [he']
end Go.Proofs.SL
namespace Go.Proofs.SL
open Go
def smallL (l:List D_Inst):Prop:=∀ x,x∈l→smallI x
theorem s_InstAt_eq {l:List D_Inst} (hl:l.length≤1048576) (hs:smallL l) (id:D_Id):s_InstAt l id=some (atI l id):=by
 unfold s_InstAt
 refine whileP_is (fun s:Int=>∃ k:Nat,s=(k:Int)∧k≤l.length∧(l.drop k).find? (fun x=>idEq x.1 id)=getI l id) (fun s=>(l.length - s).toNat) ?_ ⟨0,rfl,Nat.zero_le _,rfl⟩
 rintro _ ⟨k,rfl,hk,he⟩
 by_cases hkl:k < l.length
 ·have hx:l[k]?=some l[k]:=List.getElem?_eq_getElem hkl
  have hm:l[k]∈l:=List.getElem_mem _
  generalize l[k]=x at hx hm
  rw [drop_cons hx] at he
  rw [show decide ((k:Int) < (l.length:Int))=true from decide_eq_true (by omega),cond_true,idx_nat,hx,Option.bind_some]
  have hq:(decide (x.1.1=id.1)&&(decide (x.1.2=id.2)&&true))=idEq x.1 id:=rfl
  rw [hq]
  cases hc:idEq x.1 id with
  | true =>
   right
   rw [List.find?_cons_of_pos (by simp [hc])] at he
   rw [cond_true,Option.bind_some,show s_l8Copy _=some x from s_l8Copy_eq (x:=x) (hs x hm),Option.bind_some]
   unfold atI
   rw [← he];rfl
  | false =>
   left
   rw [List.find?_cons_of_neg (by simp [hc])] at he
   rw [cond_false,wrap_succ (by omega)]
   exact ⟨_,rfl,⟨k+1,rfl,hkl,he⟩,by omega⟩
 ·right
  rw [show decide ((k:Int) < (l.length:Int))=false from decide_eq_false (by omega),cond_false]
  rw [List.drop_of_length_le (by omega)] at he
  unfold atI
  rw [← he];rfl
theorem i_instAt_eq {l:List D_Inst} (hl:l.length≤1048576) (id:D_Id):i_instAt l id=some (firstI (fun x:D_Inst=>idEq x.1 id) l):=by
 unfold i_instAt sl_IndexFunc_implInstimplInst i_instAt_c1
 rw [whileP_find (l:=l) (fun x:D_Inst=>idEq x.1 id) some (by omega)]
 ·rfl
 ·intro k x hx
  simp only [lt_dec (List.getElem?_eq_some_iff.1 hx).1,cond_true,idx_nat,hx,Option.bind_some]
  show cond (idEq x.1 id) _ _=_
  cases idEq x.1 id<;>rfl
 ·simp only [ge_dec];rfl
theorem i_InstAt_eq {l:List D_Inst} (hl:l.length≤1048576) (hs:smallL l) (id:D_Id):i_InstAt l id=some (atI l id):=by
 unfold i_InstAt
 rw [show i_instAt l (id.1,id.2)=_ from i_instAt_eq hl id,Option.bind_some]
 unfold atI getI
 rcases firstI_opt (fun x:D_Inst=>idEq x.1 id) l with ⟨h1,h2⟩ | ⟨k,x,h1,h2,h3⟩
 ·rw [h1,h2];rfl
 ·rw [h1,h3,show decide (0≤(k:Int))=true from decide_eq_true (by omega),cond_true,idx_nat,h2,Option.bind_some,show i_copyInst _=some x from i_copyInst_eq (x:=x) (hs x (List.mem_of_getElem? h2))]
  rfl
theorem at_com {l:List D_Inst} (id:D_Id):decide ((atI l id).2.2.2.1=3)=comI l id:=by
 unfold atI comI
 cases getI l id<;>rfl
theorem at_deps {l:List D_Inst} {id:D_Id} (h:comI l id=true):(atI l id).2.2.2.2.2.2.1=dpI l id:=by
 unfold atI dpI
 unfold comI at h
 cases hg:getI l id with
 | none=>simp [hg] at h
 | some x=>rw [hg] at h;dsimp only at h ⊢;rw [if_pos (of_decide_eq_true h)]
theorem dp_nil {l:List D_Inst} {id:D_Id} (h:comI l id=false):dpI l id=[]:=by
 unfold dpI
 unfold comI at h
 cases hg:getI l id with
 | none=>rfl
 | some x=>rw [hg] at h;dsimp only at h ⊢;rw [if_neg (of_decide_eq_false h)]
theorem at_seq {l:List D_Inst} (id:D_Id):(atI l id).2.2.2.2.2.1=seqI l id:=by
 unfold atI seqI
 cases getI l id<;>rfl
theorem join_nil (b:List D_Id):Gr.join idLt [] b=b:=by
 induction b with
 | nil=>rfl
 | cons y ys ih =>
  rw [Gr.join_cons]
  show []++y::Gr.join idLt [] ys=_
  rw [ih];rfl
theorem up18 {l:List D_Inst} (h:instsOkB l=true) {o:List D_Id} (hu:Gr.Up idLt o) (hk:∀ x,x∈o→idOkB x=true):o.length≤18:=nodup_len (Gr.up_nodup idLt_sto hu) hk
theorem s_l12Reach_eq {l:List D_Inst} (h:instsOkB l=true) (id:D_Id):s_l12Reach l id=some (reachI l id):=by
 have hdl:∀ x,(dpI l x).length≤18:=fun x=>deps_len (dpI_facts h x)
 have H:=rok h
 unfold s_l12Reach
 rw [Option.bind_some,show s_l12Deps l (id.1,id.2)=some (dpI l id) from s_l12Deps_eq h id,Option.bind_some,s_l8Join_eq (by simp) (by have:=hdl id;omega),Option.bind_some,join_nil]
 refine whileP_is (s:=(dpI l id,(0:Int))) (fun s:List D_Id×Int=>∃ r:Nat,s.2=(r:Int)∧r≤18∧Gr.Up idLt s.1∧(∀ x,x∈s.1→idOkB x=true)∧Gr.rounds idLt (dpI l) (18 - r) s.1=reachI l id) (fun s=>(18 - s.2).toNat) ?_ ⟨0,rfl,by omega,H.up id,fun x hx=>H.val id x hx,rfl⟩
 rintro ⟨o,r'⟩ ⟨r,h1,hr,hu,hk,he⟩
 dsimp only at h1 hu hk he ⊢
 subst h1
 have hol:=up18 h hu hk
 by_cases hr18:r < 18
 ·rw [show decide ((r:Int) < 18)=true from decide_eq_true (by omega),cond_true]
  obtain ⟨n,hn⟩:∃ n,18 - r=n+1:=⟨17 - r,by omega⟩
  rw [hn] at he
  cases o with
  | nil =>
   right
   have:Gr.rounds idLt (dpI l) (n+1) []=[]:=by unfold Gr.rounds;rw [if_pos (by rfl)]
   rw [this] at he
   rw [← he];rfl
  | cons x xs =>
   have f0:=Gr.foldJoin idLt_sto H.up
   rw [show decide ((0:Int) < (((x::xs).length:Nat):Int))=true from decide_eq_true (by simp),cond_true,show idx (x::xs) 0=some x from rfl,Option.bind_some,show s_l12Deps l (x.1,x.2)=some (dpI l x) from s_l12Deps_eq h x,Option.bind_some,s_l8Join_eq (by omega) (by have:=hdl x;omega),Option.bind_some]
   generalize ho:x::xs=o at *
   have hox:o[0]?=some x:=by rw [← ho];rfl
   have hpos:0 < o.length:=by rw [← ho];simp
   have inner:whileP (fun s11:(List D_Id)×Int=>cond (decide (s11.2 < (o.length:Int))) (Option.bind (idx o s11.2) (fun y13=>Option.bind (s_l12Deps l (y13.1,y13.2)) (fun y14=>Option.bind (s_l8Join s11.1 y14) (fun y15=>some (.inl ((y15,IntKind.wrap .i64 (s11.2+1)))))))) (Option.map .inr (cond (decide ((s11.1.length:Int)=(o.length:Int))) (Option.map .inr (some o)) (some (.inl ((s11.1,IntKind.wrap .i64 ((r:Int)+1))))))))
     (Gr.join idLt o (dpI l x),IntKind.wrap .i64 (0+1))=some (if (Gr.nextL idLt (dpI l) o).length=o.length then (.inr o:(List D_Id×Int) ⊕ List D_Id) else .inl (Gr.nextL idLt (dpI l) o,((r+1:Nat):Int))):=by
    refine whileP_is (s:=(Gr.join idLt o (dpI l x),IntKind.wrap .i64 (0+1))) (fun s:List D_Id×Int=>∃ i:Nat,s.2=(i:Int)∧i≤o.length∧s.1=(o.take i).foldl (fun n z=>Gr.join idLt n (dpI l z)) o) (fun s=>(o.length - s.2).toNat) ?_ ⟨1,rfl,hpos,by rw [← ho];rfl⟩
    rintro ⟨nx,i'⟩ ⟨i,g1,gi,gn⟩
    dsimp only at g1 gn ⊢
    subst g1
    by_cases hio:i < o.length
    ·left
     have hz:o[i]?=some o[i]:=List.getElem?_eq_getElem hio
     generalize o[i]=z at hz
     obtain ⟨u1,u2⟩:=f0 (o.take i) o hu
     rw [← gn] at u1 u2
     have hnl:nx.length≤18:=up18 h u1 fun y hy=>by
      rcases (u2 y).1 hy with q | ⟨w,_,q⟩
      ·exact hk y q
      ·exact H.val w y q
     rw [show decide ((i:Int) < (o.length:Int))=true from decide_eq_true (by omega),cond_true,idx_nat,hz,Option.bind_some,show s_l12Deps l (z.1,z.2)=some (dpI l z) from s_l12Deps_eq h z,Option.bind_some,s_l8Join_eq (by omega) (by have:=hdl z;omega),Option.bind_some,wrap_succ (by omega)]
     refine ⟨_,rfl,⟨i+1,rfl,hio,?_⟩,by dsimp only;omega⟩
     dsimp only
     rw [List.take_add_one,hz,List.foldl_append,gn];rfl
    ·right
     rw [show decide ((i:Int) < (o.length:Int))=false from decide_eq_false (by omega),cond_false]
     have:nx=Gr.nextL idLt (dpI l) o:=by rw [gn,List.take_of_length_le (by omega)];rfl
     rw [this]
     by_cases hq:(Gr.nextL idLt (dpI l) o).length=o.length
     ·rw [if_pos hq,decide_eq_true (by rw [hq]),cond_true];rfl
     ·rw [if_neg hq,decide_eq_false (by omega),cond_false,wrap_succ (by omega)];rfl
   rw [inner]
   unfold Gr.rounds at he
   by_cases hq:(Gr.nextL idLt (dpI l) o).length=o.length
   ·right
    rw [if_pos hq] at he ⊢
    rw [he]
   ·left
    rw [if_neg hq] at he ⊢
    obtain ⟨u1,u2⟩:=f0 o o hu
    refine ⟨_,rfl,⟨r+1,rfl,by omega,u1,fun y hy=>?_,?_⟩,by dsimp only;omega⟩
    ·rcases (u2 y).1 hy with q | ⟨w,_,q⟩
     ·exact hk y q
     ·exact H.val w y q
    ·rw [show 18 - (r+1)=n by omega];exact he
 ·right
  have:r=18:=by omega
  subst this
  rw [show decide (((18:Nat):Int) < 18)=false from rfl,cond_false]
  have he':o=reachI l id:=he
  rw [he'];rfl
theorem s_l12Ready_eq {l:List D_Inst} (h:instsOkB l=true) (id:D_Id):s_l12Ready l id=some (rdyI l id):=by
 have hl:=insts_len h
 have hr:=reach_len h id
 unfold s_l12Ready rdyI
 rw [show s_l12Find l (id.1,id.2)=_ from s_l12Find_eq (id:=id) (by omega),Option.bind_some,find_neg h]
 cases hc:comI l id with
 | false=>rfl
 | true =>
  rw [Bool.not_true,cond_false,show s_l12Reach l (id.1,id.2)=some (reachI l id) from s_l12Reach_eq h id,Option.bind_some,Bool.true_and]
  rw [each_loop (p:=comI l) (no:=some false) (yes:=some true) (l:=reachI l id) (by omega)]
  ·cases (reachI l id).all (comI l)<;>rfl
  ·intro k x hx
   simp only [lt_dec (List.getElem?_eq_some_iff.1 hx).1,cond_true,idx_nat,hx,Option.bind_some]
   rw [show s_l12Find l (x.1,x.2)=_ from s_l12Find_eq (id:=x) (by omega),Option.bind_some,find_neg h]
   cases comI l x<;>rfl
  ·simp only [ge_dec];rfl
end Go.Proofs.SL
namespace Go.Proofs.SL
open Go
theorem sw0_of {lt:D_Id→D_Id→Bool} (h:Gr.STO lt):SW0 lt where
 irrefl:=h.irr
 trans:=h.tr
 ntrans x y z h1 h2:=by
  cases h3:lt x z with
  | false=>rfl
  | true =>
   rcases h.tot y z with q | q | q
   ·rw [h2] at q;cases q
   ·have:=h.tr _ _ _ h3 q;rw [h1] at this;cases this
   ·rw [q,h3] at h1;cases h1
theorem isort_up {lt:D_Id→D_Id→Bool} (h:Gr.STO lt) {l:List D_Id} (hn:l.Nodup):Gr.Up lt (isort lt l)∧∀ x,x∈isort lt l↔x∈l:=by
 have hp:=isort_perm lt l
 refine ⟨?_,fun x=>hp.mem_iff⟩
 have h1:=isort_sorted (sw0_of h) l
 have h2:(isort lt l).Nodup:=hp.nodup_iff.2 hn
 refine (h1.and h2).imp fun {a b} hab=>?_
 rcases h.tot a b with q | q | q
 ·exact q
 ·rw [hab.1] at q;cases q
 ·exact (hab.2 q).elim
theorem sortFn_eq {lt:D_Id→D_Id→Bool} (h:Gr.STO lt) {f:D_Id→D_Id→Option Int} (hf:∀ x y,∃ v,f x y=some v∧decide (v < 0)=lt x y) {l:List D_Id} (hl:l.length≤1000):sortFn l f=some (isort lt l):=by
 have e:(fun x y=>decide ((f x y).getD 0 < 0))=lt:=by
  funext x y
  obtain ⟨v,h1,h2⟩:=hf x y
  rw [h1];exact h2
 unfold sortFn
 rw [e,if_pos ⟨fun x y=>(hf x y).imp fun v hv=>hv.1,sw0_of h⟩]
 exact sortD_eq (by omega) fun a b _ _=>h.tot a b
theorem compareIds_lt (a b:D_Id):∃ c,i_compareIds a b=some c∧decide (c < 0)=idLt a b:=by
 obtain ⟨c,h1,h2⟩:=compareIds_eq a b
 refine ⟨c,h1,?_⟩
 by_cases h:c < 0
 ·rw [decide_eq_false (show ¬ 0≤c by omega)] at h2
  rw [decide_eq_true h]
  cases hh:idLt a b with
  | true=>rfl
  | false=>rw [hh] at h2;cases h2
 ·rw [decide_eq_true (show 0≤c by omega)] at h2
  rw [decide_eq_false h]
  cases hh:idLt a b with
  | false=>rfl
  | true=>rw [hh] at h2;cases h2
theorem any_idEq (l:List D_Id) (x:D_Id):(l.any fun y=>idEq y x)=decide (x∈l):=by
 rw [Bool.eq_iff_iff,List.any_eq_true,decide_eq_true_eq]
 constructor
 ·rintro ⟨y,hy,h⟩;rw [idEq_dec] at h;have:=of_decide_eq_true h;rw [← this];exact hy
 ·intro h;exact ⟨x,h,by rw [idEq_dec];exact decide_eq_true rfl⟩
theorem contains_dec {l:List D_Id} {x:D_Id} (h:l.length≤1000):sl_Contains_implIdimplId l (x.1,x.2)=some (decide (x∈l)):=by
 rw [show sl_Contains_implIdimplId l (x.1,x.2)=_ from containsId_eq (l:=l) (x:=x) (by omega),any_idEq]
theorem has_dec {l:List D_Id} {x:D_Id} (h:l.length≤1000):s_l8Has l (x.1,x.2)=some (decide (x∈l)):=by
 rw [show s_l8Has l (x.1,x.2)=_ from s_l8Has_eq (l:=l) (x:=x) (by omega),any_idEq]
theorem fold_push_len (ds:List D_Id):∀ (o q:List D_Id),(ds.foldl Gr.push (o,q)).1.length≤o.length+ds.length∧(ds.foldl Gr.push (o,q)).2.length≤q.length+ds.length:=by
 induction ds with
 | nil=>intro o q;simp
 | cons d ds ih =>
  intro o q
  rw [List.foldl_cons]
  by_cases h:d∈o
  ·rw [show Gr.push (o,q) d=(o,q) from if_pos h]
   have:=ih o q
   simp only [List.length_cons];omega
  ·rw [show Gr.push (o,q) d=(o++[d],q++[d]) from if_neg h]
   have:=ih (o++[d]) (q++[d])
   simp only [List.length_append,List.length_cons,List.length_nil] at this ⊢;omega
theorem i_Reach_eq {l:List D_Inst} (ho:Ok.ok l) (h:instsOkB l=true) (hs:smallL l) (id:D_Id):i_Reach l id=some (reachI l id):=by
 have H:=rok h
 have hl:=insts_len h
 have hdl:∀ x,(dpI l x).length≤18:=fun x=>deps_len (dpI_facts h x)
 unfold i_Reach
 rw [i_InstsOk_eq ho,h,Option.bind_some,Bool.not_true,cond_false,Option.bind_some,Option.bind_some]
 refine whileP_is (s:=(([]:List D_Id),[(id.1,id.2)])) (fun s:List D_Id×List D_Id=>Gr.BI (dpI l) (fun x=>idOkB x=true) id s.1 s.2∧s.2.length≤1+s.1.length) (fun s=>2*(18 - s.1.length)+s.2.length) ?_ ⟨Gr.BI.start _ _ id,by simp⟩
 rintro ⟨o,q⟩ ⟨hI,hql⟩
 dsimp only at hI hql ⊢
 have hol:o.length≤18:=nodup_len hI.nd hI.val
 cases q with
 | nil =>
  right
  rw [show decide ((0:Int) < ((([]:List D_Id).length:Nat):Int))=false from rfl,cond_false]
  rw [show sortFn o (fun z0 z1=>i_compareIds z0 z1)=some (isort idLt o) from sortFn_eq idLt_sto compareIds_lt (by omega),Option.bind_some]
  have:isort idLt o=reachI l id:=by
   obtain ⟨u1,u2⟩:=isort_up idLt_sto hI.nd
   obtain ⟨r1,r2⟩:=reach_iff h id
   exact Gr.up_ext idLt_sto u1 r1 fun x=>by rw [u2,hI.done,r2]
  rw [this];rfl
 | cons x q =>
  left
  obtain ⟨s1,s2⟩:=hI.step H.val
  have hl2:=fold_push_len (dpI l x) o q
  have hn:((dpI l x).foldl Gr.push (o,q)).1.length≤18:=nodup_len s1.nd s1.val
  have hdx:=hdl x
  simp only [List.length_cons] at hql
  rw [show decide ((0:Int) < (((x::q).length:Nat):Int))=true from decide_eq_true (by simp),cond_true,show idx (x::q) 0=some x from rfl,Option.bind_some,show i_InstAt l (x.1,x.2)=some (atI l x) from i_InstAt_eq (by omega) hs x,Option.bind_some,slcP_at (by simp only [List.length_cons];omega),Option.bind_some]
  have hd:((x::q).drop ((1:Int).toNat)).take ((((x::q).length:Nat):Int).toNat - (1:Int).toNat)=q:=by
   show (q.take _)=q
   exact List.take_of_length_le (by simp)
  rw [hd]
  have hge:o.length≤((dpI l x).foldl Gr.push (o,q)).1.length:=by
   obtain ⟨nw,e,_⟩:=Gr.push_facts (dpI l x) o q hI.nd
   rw [e];simp
  rw [at_com]
  cases hc:comI l x with
  | false =>
   rw [dp_nil hc] at s1
   refine ⟨(o,q),rfl,⟨s1,by simp;omega⟩,by dsimp only;simp only [List.length_cons];omega⟩
  | true =>
   rw [Bool.not_true,cond_false,at_deps hc]
   refine step_in (fun s:List D_Id×List D_Id×Int=>∃ i:Nat,s.2.2=(i:Int)∧i≤(dpI l x).length∧(s.1,s.2.1)=((dpI l x).take i).foldl Gr.push (o,q)) (fun s=>((dpI l x).length - s.2.2).toNat) (fun s:List D_Id×List D_Id=>s=(dpI l x).foldl Gr.push (o,q)) ?_ ⟨0,rfl,Nat.zero_le _,rfl⟩ ?_
   ·rintro s' rfl
    exact ⟨⟨s1,by omega⟩,by simp only [List.length_cons];omega⟩
   ·rintro ⟨o',q',i'⟩ ⟨i,g1,gi,gn⟩
    dsimp only at g1 gn ⊢
    subst g1
    have hl3:=fold_push_len ((dpI l x).take i) o q
    rw [← gn] at hl3
    dsimp only at hl3
    rw [List.length_take] at hl3
    by_cases hid:i < (dpI l x).length
    ·left
     have hz:(dpI l x)[i]?=some (dpI l x)[i]:=List.getElem?_eq_getElem hid
     generalize (dpI l x)[i]=z at hz
     rw [show decide ((i:Int) < ((dpI l x).length:Int))=true from decide_eq_true (by omega),cond_true,idx_nat,hz,Option.bind_some,contains_dec (by omega),Option.bind_some,wrap_succ (by omega)]
     have hst:((dpI l x).take (i+1)).foldl Gr.push (o,q)=Gr.push (o',q') z:=by rw [List.take_add_one,hz,List.foldl_append,← gn];rfl
     by_cases hzo:z∈o'
     ·rw [decide_eq_true hzo,Bool.not_true,cond_false]
      refine ⟨_,rfl,⟨i+1,rfl,hid,?_⟩,by dsimp only;omega⟩
      rw [hst];exact (if_pos hzo).symm
     ·rw [decide_eq_false hzo,Bool.not_false,cond_true,appP_ok (by simp;omega),Option.bind_some,appP_ok (by simp;omega),Option.bind_some]
      refine ⟨_,rfl,⟨i+1,rfl,hid,?_⟩,by dsimp only;omega⟩
      rw [hst];exact (if_neg hzo).symm
    ·right
     rw [show decide ((i:Int) < ((dpI l x).length:Int))=false from decide_eq_false (by omega),cond_false]
     refine ⟨(o',q'),rfl,?_⟩
     rw [gn,List.take_of_length_le (by omega)]
theorem i_Ready_eq {l:List D_Inst} (ho:Ok.ok l) (h:instsOkB l=true) (hs:smallL l) (id:D_Id):i_Ready l id=some (rdyI l id):=by
 have hl:=insts_len h
 have hr:=reach_len h id
 unfold i_Ready
 rw [i_InstsOk_eq ho,h,Option.bind_some,Bool.not_true,cond_false,show i_Reach l (id.1,id.2)=some (reachI l id) from i_Reach_eq ho h hs id,Option.bind_some,appP_ok (by simp;omega),Option.bind_some]
 rw [each_loop (p:=comI l) (no:=some false) (yes:=some true) (l:=reachI l id++[(id.1,id.2)]) (by simp;omega)]
 ·unfold rdyI
  rw [List.all_append,show ([(id.1,id.2)]:List D_Id).all (comI l)=(comI l id&&true) from rfl,Bool.and_true]
  cases comI l id<;>cases (reachI l id).all (comI l)<;>rfl
 ·intro k x hx
  simp only [lt_dec (List.getElem?_eq_some_iff.1 hx).1,cond_true,idx_nat,hx,Option.bind_some]
  rw [show i_InstAt l (x.1,x.2)=some (atI l x) from i_InstAt_eq (by omega) hs x,Option.bind_some,at_com]
  cases comI l x<;>rfl
 ·simp only [ge_dec];rfl
end Go.Proofs.SL
