/- The texts of the proof, part 17: the base, walks of functions, plain Lean. -/
import Derived.Test.YthlbpedehajlgaaGreatT16
import Derived.Test.YthlbpedehajlgaaGreatT4
import Derived.Test.YthlbpedehajlgaaGreatT5
namespace Go.Proofs.SL
open Go
theorem l1In_eq (x a b:Int):s_l1In x a b=some (decide (a≤x∧x≤b)):=by
 unfold s_l1In;rw [Bool.decide_and]
theorem within_eq (x a b:Int):i_within x a b=some (decide (a≤x∧x≤b)):=by
 unfold i_within;rw [Bool.decide_and]
theorem firstI_some {α:Type} {p:α→Bool} {xs:List α} {k:Nat} (h:xs.findIdx? p=some k):firstI p xs=(k:Int):=by unfold firstI;rw [h]
theorem firstI_none {α:Type} {p:α→Bool} {xs:List α} (h:xs.findIdx? p=none):firstI p xs=-1:=by unfold firstI;rw [h]
theorem gbs {α β:Type} [Inhabited α] (g:Bool) (a:α) (k:α→Option β):gb g (some a) k=if g then k a else k default:=by cases g<;>rfl
theorem prev_idx' {δ:Type} {l:List δ} {k:Nat} (hk:k < l.length) (hl:l.length≤9223372036854775807) (h0:0 < k):∃ r,l[k - 1]?=some r∧idx l (IntKind.wrap .i64 ((k:Int) - 1))=some r:=by
 refine ⟨l[k - 1],List.getElem?_eq_getElem (by omega),?_⟩
 rw [wrap64_in (by unfold inR;omega),show ((k:Int) - 1)=((k - 1:Nat):Int) by omega,idx_nat]
 exact List.getElem?_eq_getElem (by omega)
theorem gb_none {α β:Type} [Inhabited α] (g:Bool) (o:Option α) (k:α→Option β) (h:g=false):gb g o k=k default:=by subst h;rfl
theorem sidx_lt {s:ByteArray} {k:Nat} (h:k < s.size):∃ n,sidx s (k:Int)=some n∧0≤n∧n < 256:=by
 refine ⟨((s[k]'h).toNat:Int),?_,by omega,by have:=(s[k]'h).toNat_lt;omega⟩
 unfold sidx
 rw [dif_pos ⟨by omega,by simpa using h⟩]
 simp
theorem each_loop {β γ:Type} {l:List γ} {p:γ→Bool} {no yes:Option β} {f:Int→Option (Int ⊕ β)} (hl:l.length≤9223372036854775807)
  (hf:∀ (k:Nat) (x:γ),l[k]?=some x→f (k:Int)=if p x then some (.inl (IntKind.wrap .i64 ((k:Int)+1))) else no.map .inr) (hn:f (l.length:Int)=yes.map .inr) :
  whileP f 0=if l.all p then yes else no:=by
 rw [whileP_all (n:=l.length) (fun k=>(l[k]?).all p) no yes ?_ hn,all_range_get]
 intro k hk
 rw [hf k l[k] (List.getElem?_eq_getElem hk),List.getElem?_eq_getElem hk,wrap_succ (by omega)]
 rfl
end Go.Proofs.SL
namespace Go.Proofs.SL
open Go
theorem pairwise_of_step {α:Type} {R:α→α→Prop} (tr:∀ a b c,R a b→R b c→R a c):∀ (l:List α),(∀ k (h:k+1 < l.length),R l[k] l[k+1])→l.Pairwise R
 | [],_=>List.Pairwise.nil
 | [a],_=>List.pairwise_singleton _ _
 | a::b::l,h=>by
  have ih:=pairwise_of_step tr (b::l) (fun k hk=>h (k+1) (by simp at hk ⊢;omega))
  refine List.pairwise_cons.2 ⟨fun x hx=>?_,ih⟩
  have h0:R a b:=h 0 (by simp)
  rcases List.mem_cons.1 hx with rfl | hx
  ·exact h0
  ·exact tr _ _ _ h0 (List.rel_of_pairwise_cons ih hx)
end Go.Proofs.SL
namespace Go.Proofs.SL
open Go
theorem isRep_eq (x:Int):i_isRep x=some (decide (0≤x∧x < 3)):=by
 unfold i_isRep
 rw [within_eq,show decide (0≤x∧x≤2)=decide (0≤x∧x < 3) by rw [Bool.eq_iff_iff];simp;omega];rfl
theorem l9Node_eq (x:Int):s_l9Node x=some (decide (0≤x∧x < 3)):=by unfold s_l9Node;rw [Bool.decide_and]
def nodeOk (ns:List Int) (k:Nat):Bool:=match ns[k]? with
 | none=>false
 | some n=>decide (0≤n∧n < 3)&&(decide (k=0)||(ns[k - 1]?).all fun r=>decide (r < n))
def nodesOk (ns:List Int):Bool:=(List.range ns.length).all (nodeOk ns)
theorem firstI_any {α:Type} (p:α→Bool) (l:List α):decide (0≤firstI p l)=l.any p:=by
 rcases firstI_find p l with ⟨h1,h2⟩ | ⟨k,x,h1,h2,h3,_⟩
 ·rw [h1]
  cases h:l.any p with
  | false=>rfl
  | true =>
   obtain ⟨x,hx,hp⟩:=List.any_eq_true.1 h
   exact absurd hp (List.find?_eq_none.1 h2 x hx)
 ·rw [h1,show decide (0≤(k:Int))=true by simp]
  symm
  exact List.any_eq_true.2 ⟨x,List.mem_of_getElem? h2,List.find?_some h3⟩
theorem nodesOk_facts {ns:List Int} (h:nodesOk ns=true):(∀ n,n∈ns→0≤n∧n < 3)∧ns.Pairwise (· < ·):=by
 unfold nodesOk at h
 simp only [List.all_eq_true,List.mem_range] at h
 have h1:∀ n,n∈ns→0≤n∧n < 3:=fun n hn=>by
  obtain ⟨k,hk⟩:=List.getElem?_of_mem hn
  have:=h k (List.getElem?_eq_some_iff.1 hk).1
  unfold nodeOk at this
  rw [hk] at this
  simp only [Bool.and_eq_true,decide_eq_true_eq] at this
  exact this.1
 refine ⟨h1,pairwise_of_step (R:=(· < ·)) (fun a b c=>Int.lt_trans) ns fun k hk=>?_⟩
 have:=h (k+1) hk
 unfold nodeOk at this
 rw [List.getElem?_eq_getElem hk] at this
 simp only [Bool.and_eq_true,decide_eq_true_eq,Bool.or_eq_true,Nat.add_sub_cancel,List.getElem?_eq_getElem (show k < ns.length by omega),Option.all_some] at this
 rcases this.2 with h2 | h2
 ·omega
 ·exact h2
theorem sorted_le:∀ {l:List Int} {a b:Int},l.Pairwise (· < ·)→(∀ n,n∈l→a≤n∧n < b)→(l.length:Int)≤max 0 (b - a)
 | [],a,b,_,_=>by simp;omega
 | x::l,a,b,h1,h2=>by
  obtain ⟨h3,h4⟩:=List.pairwise_cons.1 h1
  have hx:=h2 x (List.mem_cons_self ..)
  have:=sorted_le (a:=x+1) (b:=b) h4 (fun n hn=>⟨by have:=h3 n hn;omega,(h2 n (List.mem_cons_of_mem _ hn)).2⟩)
  simp only [List.length_cons]
  omega
theorem nodes_le {l:List Int} (h1:∀ n,n∈l→0≤n∧n < 3) (h2:l.Pairwise (· < ·)):l.length≤3:=by
 have:=sorted_le h2 h1
 omega
end Go.Proofs.SL
namespace Go.Proofs.SL
open Go
def letter (s:ByteArray) (k:Nat):Bool:=match sidx s (k:Int) with
 | some n=>!(decide (n < 97)||decide (122 < n))
 | none=>false
def isWordB (s:ByteArray):Bool:=decide (1≤(s.size:Int)∧(s.size:Int)≤8)&&(List.range s.size).all (letter s)
theorem word_loop {β:Type} {s:ByteArray} {no yes:Option β} {f:Int→Option (Int ⊕ β)} (hl:s.size≤9223372036854775807)
  (hf:∀ (k:Nat) (n:Int),k < s.size→sidx s (k:Int)=some n→f (k:Int)=if !(decide (n < 97)||decide (122 < n)) then some (.inl (IntKind.wrap .i64 ((k:Int)+1))) else no.map .inr) (hn:f (s.size:Int)=yes.map .inr) :
  whileP f 0=if (List.range s.size).all (letter s) then yes else no:=by
 refine whileP_all (letter s) no yes (fun k hk=>?_) hn
 obtain ⟨n,hs,_,_⟩:=sidx_lt hk
 rw [hf k n hk hs,wrap_succ (by omega)]
 unfold letter
 rw [hs]
theorem s_l4Word_eq {s:ByteArray} (hl:s.size≤9223372036854775807):s_l4Word s=some (isWordB s):=by
 unfold s_l4Word isWordB
 rw [l1In_eq]
 cases h:decide (1≤(s.size:Int)∧(s.size:Int)≤8) with
 | false=>rfl
 | true =>
  simp only [Option.bind_some,Bool.not_true,cond_false,Bool.true_and]
  rw [word_loop (no:=some false) (yes:=some true) hl]
  ·cases (List.range s.size).all (letter s)<;>rfl
  ·intro k n hk hs
   simp only [lt_dec hk,cond_true,hs,Option.bind_some]
   rw [show ∀ (g:Bool) (q:Int→Option (Int ⊕ Bool)),gb g (some n) q=if g then q n else q default from fun g q=>by cases g<;>rfl]
   cases decide (n < 97)<;>cases decide (122 < n)<;>rfl
  ·simp only [ge_dec];rfl
theorem i_isWord_eq {s:ByteArray} (hl:s.size≤9223372036854775807):i_isWord s=some (isWordB s):=by
 unfold i_isWord isWordB
 simp only [within_eq,Option.bind_some]
 rw [word_loop (no:=some false) (yes:=some (decide (1≤(s.size:Int)∧(s.size:Int)≤8))) hl]
 ·cases (List.range s.size).all (letter s)<;>simp
 ·intro k n hk hs
  simp only [lt_dec hk,cond_true,hs,Option.bind_some]
  rw [show ∀ (g:Bool) (q:Int→Option (Int ⊕ Bool)),gb g (some n) q=if g then q n else q default from fun g q=>by cases g<;>rfl]
  cases decide (n < 97)<;>cases decide (122 < n)<;>rfl
 ·simp only [ge_dec];rfl
def wordIfB (s:ByteArray) (is:Bool):Bool:=if is then isWordB s else decide (s=ByteArray.empty)
theorem s_l4May_eq {s:ByteArray} {b:Bool} (hl:s.size≤9223372036854775807):s_l4May s b=some (wordIfB s b):=by
 unfold s_l4May wordIfB
 rw [s_l4Word_eq hl]
 cases b<;>rfl
theorem i_wordIf_eq {s:ByteArray} {b:Bool} (hl:s.size≤9223372036854775807):i_wordIf s b=some (wordIfB s b):=by
 unfold i_wordIf wordIfB
 rw [i_isWord_eq hl]
 cases b<;>rfl
def areChunksB (l:List ByteArray):Bool:=l.all fun c=>decide ((c.size:Int)=8)
theorem i_areChunks_eq {l:List ByteArray} (hl:l.length≤9223372036854775807):i_areChunks l=some (areChunksB l):=by
 unfold i_areChunks areChunksB
 rw [each_loop (p:=fun c=>decide ((c.size:Int)=8)) (no:=some false) (yes:=some true) hl]
 ·cases l.all _<;>rfl
 ·intro k x hx
  simp only [lt_dec (List.getElem?_eq_some_iff.1 hx).1,cond_true,idx_nat,hx,Option.bind_some]
  cases decide ((x.size:Int)=8)<;>rfl
 ·simp only [ge_dec];rfl
theorem s_l4Texts_eq {a b:List ByteArray} (hl:a.length≤9223372036854775807):s_l4Texts a b=some (decide (a=b)):=by
 unfold s_l4Texts
 by_cases h:a.length=b.length
 ·rw [show decide ((a.length:Int)=(b.length:Int))=true by simp;omega]
  simp only [Bool.not_true,cond_false]
  rw [whileP_all (n:=a.length) (fun k=>decide (a[k]?=b[k]?)) (some false) (some true)]
  ·by_cases e:a=b
   ·subst e;simp
   ·rw [decide_eq_false e]
    have:(List.range a.length).all (fun k=>decide (a[k]?=b[k]?))=false:=by
     rw [Bool.eq_false_iff]
     intro hh
     refine e (List.ext_getElem? fun i=>?_)
     by_cases hi:i < a.length
     ·simpa using List.all_eq_true.1 hh i (List.mem_range.2 hi)
     ·rw [List.getElem?_eq_none (by omega),List.getElem?_eq_none (by omega)]
    rw [this];rfl
  ·intro k hk
   have h1:a[k]?=some a[k]:=List.getElem?_eq_getElem hk
   have h2:b[k]?=some (b[k]'(by omega)):=List.getElem?_eq_getElem (by omega)
   simp only [lt_dec hk,cond_true,idx_nat,h1,h2,Option.bind_some,wrap_succ (show k < 9223372036854775807 by omega),Option.some.injEq]
   cases decide (a[k]=b[k]'(by omega))<;>rfl
  ·simp only [ge_dec];rfl
 ·rw [show decide ((a.length:Int)=(b.length:Int))=false by simp;omega,decide_eq_false (fun e=>h (by rw [e]))];rfl
theorem s_SameCmd_eq {a b:D_Cmd} (ho:Ok.ok a):s_SameCmd a b=some (pB (a=b)):=by
 obtain ⟨a1,a2,a3,a4,a5,a6,a7,a8⟩:=a
 obtain ⟨b1,b2,b3,b4,b5,b6,b7,b8⟩:=b
 have hl:a8.length≤9223372036854775807:=ho.2.2.2.2.2.2.2.1
 unfold s_SameCmd
 rw [s_l4Texts_eq hl,gb_some (fun h=>by rw [h];simp)]
 congr 1
 rw [Bool.eq_iff_iff,pB_iff]
 simp [and_assoc]
theorem i_SameCmd_eq {a b:D_Cmd} (ho:Ok.ok a):i_SameCmd a b=some (pB (a=b)):=s_SameCmd_eq ho
def noCmd:D_Cmd:=(0,0,0,ByteArray.empty,ByteArray.empty,ByteArray.empty,0,[])
instance dqC6:DecidableEq (Int×List ByteArray):=fun a b=>instDecidableEqProd a b
instance dqC5:DecidableEq (ByteArray×Int×List ByteArray):=fun a b=>instDecidableEqProd a b
instance dqC4:DecidableEq (ByteArray×ByteArray×Int×List ByteArray):=fun a b=>instDecidableEqProd a b
instance dqC3:DecidableEq (ByteArray×ByteArray×ByteArray×Int×List ByteArray):=fun a b=>instDecidableEqProd a b
instance dqC2:DecidableEq (Int×ByteArray×ByteArray×ByteArray×Int×List ByteArray):=fun a b=>instDecidableEqProd a b
instance dqC1:DecidableEq (Int×Int×ByteArray×ByteArray×ByteArray×Int×List ByteArray):=fun a b=>instDecidableEqProd a b
instance dqC0:DecidableEq (Int×Int×Int×ByteArray×ByteArray×ByteArray×Int×List ByteArray):=fun a b=>instDecidableEqProd a b
theorem pB_dec (p:Prop) [Decidable p]:pB p=decide p:=by
 rw [Bool.eq_iff_iff,pB_iff,decide_eq_true_iff]
def cmdOkB (c:D_Cmd):Bool :=
 if c.1=0 then decide (c=noCmd) else
  decide (1≤c.1∧c.1≤7)&&decide (1≤c.2.1∧c.2.1≤9)&&decide (1≤c.2.2.1∧c.2.2.1≤1000)&&wordIfB c.2.2.2.1 (!decide (c.1=7))&&wordIfB c.2.2.2.2.1 (decide (c.1=3)||decide (c.1=4))&&wordIfB c.2.2.2.2.2.1 (decide (c.1=4)) &&
  (decide (c.2.2.2.2.2.2.1=0)||(decide (c.1=5)&&decide (0≤c.2.2.2.2.2.2.1∧c.2.2.2.2.2.2.1≤9)))&&(if c.1=3 then decide (1≤(c.2.2.2.2.2.2.2.length:Int)∧(c.2.2.2.2.2.2.2.length:Int)≤4)&&areChunksB c.2.2.2.2.2.2.2 else decide ((c.2.2.2.2.2.2.2.length:Int)=0))
set_option maxHeartbeats 1000000 in
theorem i_CmdOk_eq {c:D_Cmd} (ho:Ok.ok c):i_CmdOk c=some (cmdOkB c):=by
 have hl:c.2.2.2.2.2.2.2.length≤9223372036854775807:=ho.2.2.2.2.2.2.2.1
 have h4:c.2.2.2.1.size≤9223372036854775807:=ho.2.2.2.1
 have h5:c.2.2.2.2.1.size≤9223372036854775807:=ho.2.2.2.2.1
 have h6:c.2.2.2.2.2.1.size≤9223372036854775807:=ho.2.2.2.2.2.1
 unfold i_CmdOk cmdOkB
 simp only [i_SameCmd_eq ho,within_eq,i_wordIf_eq h4,i_wordIf_eq h5,i_wordIf_eq h6,i_areChunks_eq hl,Option.bind_some,gbs]
 by_cases h0:c.1=0
 ·rw [if_pos h0,show decide (c=noCmd)=pB (c=noCmd) from (pB_dec _).symm,decide_eq_true h0];rfl
 ·rw [if_neg h0,decide_eq_false h0]
  generalize wordIfB c.2.2.2.1 _=W1
  generalize wordIfB c.2.2.2.2.1 _=W2
  generalize wordIfB c.2.2.2.2.2.1 _=W3
  generalize areChunksB c.2.2.2.2.2.2.2=W4
  by_cases h5:c.1=5
  ·simp only [h5]
   cases decide (1≤c.2.1∧c.2.1≤9)<;>cases decide (1≤c.2.2.1∧c.2.2.1≤1000)<;>cases W1<;>cases W2<;>cases W3<;>cases decide (c.2.2.2.2.2.2.1=0)<;>cases decide (0≤c.2.2.2.2.2.2.1∧c.2.2.2.2.2.2.1≤9)<;>simp
  ·by_cases h3:c.1=3
   ·simp only [h3]
    cases decide (1≤c.2.1∧c.2.1≤9)<;>cases decide (1≤c.2.2.1∧c.2.2.1≤1000)<;>cases W1<;>cases W2<;>cases W3<;>cases decide (c.2.2.2.2.2.2.1=0)<;>cases decide (1≤(c.2.2.2.2.2.2.2.length:Int)∧(c.2.2.2.2.2.2.2.length:Int)≤4)<;>simp
   ·rw [decide_eq_false h5,decide_eq_false h3,if_neg h3]
    cases decide (1≤c.1∧c.1≤7)<;>cases decide (1≤c.2.1∧c.2.1≤9)<;>cases decide (1≤c.2.2.1∧c.2.2.1≤1000)<;>cases W1<;>cases W2<;>cases W3<;>cases decide (c.2.2.2.2.2.2.1=0)<;>simp
set_option maxHeartbeats 1000000 in
theorem s_CmdOk_eq {c:D_Cmd} (ho:Ok.ok c):s_CmdOk c=some (cmdOkB c):=by
 have hl:c.2.2.2.2.2.2.2.length≤9223372036854775807:=ho.2.2.2.2.2.2.2.1
 have h4:c.2.2.2.1.size≤9223372036854775807:=ho.2.2.2.1
 have h5:c.2.2.2.2.1.size≤9223372036854775807:=ho.2.2.2.2.1
 have h6:c.2.2.2.2.2.1.size≤9223372036854775807:=ho.2.2.2.2.2.1
 unfold s_CmdOk cmdOkB
 simp only [s_SameCmd_eq ho,l1In_eq,s_l4May_eq h4,s_l4May_eq h5,s_l4May_eq h6,Option.bind_some,gbs]
 rw [each_loop (p:=fun c=>decide ((c.size:Int)=8)) (no:=some false) (yes:=some true) hl]
 rotate_left
 ·intro k x hx
  simp only [lt_dec (List.getElem?_eq_some_iff.1 hx).1,cond_true,idx_nat,hx,Option.bind_some]
  cases decide ((x.size:Int)=8)<;>rfl
 ·simp only [ge_dec];rfl
 by_cases h0:c.1=0
 ·rw [if_pos h0,show decide (c=noCmd)=pB (c=noCmd) from (pB_dec _).symm,decide_eq_true h0,decide_eq_true (show 0≤c.1∧c.1≤7 by omega)];rfl
 ·rw [if_neg h0,decide_eq_false h0]
  have e7:decide (0≤c.1∧c.1≤7)=decide (1≤c.1∧c.1≤7):=by rw [Bool.eq_iff_iff];simp;omega
  rw [e7]
  show _=some (_&&(if c.1=3 then _&&c.2.2.2.2.2.2.2.all (fun c=>decide ((c.size:Int)=8)) else _))
  generalize wordIfB c.2.2.2.1 _=W1
  generalize wordIfB c.2.2.2.2.1 _=W2
  generalize wordIfB c.2.2.2.2.2.1 _=W3
  generalize c.2.2.2.2.2.2.2.all _=W4
  by_cases h5:c.1=5
  ·simp only [h5]
   cases decide (1≤c.2.1∧c.2.1≤9)<;>cases decide (1≤c.2.2.1∧c.2.2.1≤1000)<;>cases W1<;>cases W2<;>cases W3<;>cases decide (c.2.2.2.2.2.2.1=0)<;>cases decide (0≤c.2.2.2.2.2.2.1∧c.2.2.2.2.2.2.1≤9)<;>simp
  ·by_cases h3:c.1=3
   ·simp only [h3]
    cases decide (1≤c.2.1∧c.2.1≤9)<;>cases decide (1≤c.2.2.1∧c.2.2.1≤1000)<;>cases W1<;>cases W2<;>cases W3<;>cases decide (c.2.2.2.2.2.2.1=0)<;>cases decide (1≤(c.2.2.2.2.2.2.2.length:Int)∧(c.2.2.2.2.2.2.2.length:Int)≤4)<;>cases W4<;>simp
   ·rw [decide_eq_false h5,decide_eq_false h3,if_neg h3]
    cases decide (1≤c.1∧c.1≤7)<;>cases decide (1≤c.2.1∧c.2.1≤9)<;>cases decide (1≤c.2.2.1∧c.2.2.1≤1000)<;>cases W1<;>cases W2<;>cases W3<;>cases decide (c.2.2.2.2.2.2.1=0)<;>simp
end Go.Proofs.SL
namespace Go.Proofs.SL
open Go
def idOkB (x:D_Id):Bool:=decide (0≤x.1∧x.1≤2)&&decide (1≤x.2∧x.2≤6)
theorem s_l8Id_eq (x:D_Id):s_l8Id x=some (idOkB x):=by
 unfold s_l8Id idOkB
 simp only [l1In_eq,Option.bind_some,gbs]
 cases decide (0≤x.1∧x.1≤2)<;>cases decide (1≤x.2∧x.2≤6)<;>rfl
theorem i_idOk_eq (x:D_Id):i_idOk x=some (idOkB x):=by
 unfold i_idOk idOkB
 simp only [within_eq,Option.bind_some,gbs]
 cases decide (0≤x.1∧x.1≤2)<;>cases decide (1≤x.2∧x.2≤6)<;>rfl
def idLt (a b:D_Id):Bool:=decide (a.1 < b.1)||(decide (a.1=b.1)&&decide (a.2 < b.2))
theorem s_l8Less_eq (a b:D_Id):s_l8Less a b=some (idLt a b):=rfl
theorem compareIds_eq (a b:D_Id):∃ c,i_compareIds a b=some c∧decide (0≤c)=!idLt a b:=by
 unfold i_compareIds idLt
 cases h:decide (a.1 < b.1)||(decide (a.1=b.1)&&decide (a.2 < b.2)) with
 | true=>exact ⟨-1,rfl,rfl⟩
 | false =>
  cases h2:decide (a.1=b.1)&&(decide (a.2=b.2)&&true) with
  | true=>exact ⟨0,rfl,rfl⟩
  | false=>exact ⟨1,rfl,rfl⟩
def idEq (a b:D_Id):Bool:=decide (a.1=b.1)&&(decide (a.2=b.2)&&true)
theorem idEq_comm (a b:D_Id):idEq a b=idEq b a:=by unfold idEq;rw [Bool.eq_iff_iff];simp only [Bool.and_eq_true,decide_eq_true_eq,and_true];constructor<;>(rintro ⟨h1,h2⟩;exact ⟨h1.symm,h2.symm⟩)
def idAt (l:List D_Id) (k:Nat):Bool:=match l[k]? with
 | none=>false
 | some x=>idOkB x&&(decide (k=0)||(l[k - 1]?).all fun r=>idLt r x)
def idsOkB (l:List D_Id):Bool:=(List.range l.length).all (idAt l)
theorem s_IdsOk_eq {l:List D_Id} (hl:l.length≤9223372036854775807):s_IdsOk l=some (idsOkB l):=by
 unfold s_IdsOk idsOkB
 rw [whileP_all (n:=l.length) (idAt l) (some false) (some true)]
 ·cases (List.range l.length).all (idAt l)<;>rfl
 ·intro k hk
  have hx:l[k]?=some l[k]:=List.getElem?_eq_getElem hk
  generalize l[k]=x at hx
  simp only [lt_dec hk,cond_true,idx_nat,hx,Option.bind_some,Prod.eta,s_l8Id_eq,s_l8Less_eq,wrap_succ (show k < 9223372036854775807 by omega)]
  unfold idAt
  simp only [hx]
  rcases Nat.eq_zero_or_pos k with h0 | h0
  ·subst h0
   rw [gb_none _ _ _ (by simp)]
   cases idOkB x<;>simp [gb]
  ·obtain ⟨r,hr1,hr2⟩:=prev_idx' hk hl h0
   have h5:decide (0 < (k:Int))=true:=by simp;omega
   have h6:decide (k=0)=false:=by simp;omega
   rw [hr1,hr2,h5,h6,gbs]
   simp only [Option.all_some]
   by_cases h7:idLt r x=true<;>cases idOkB x<;>simp [gb,h7]
 ·simp only [ge_dec];rfl
theorem i_IdsOk_eq {l:List D_Id} (hl:l.length≤9223372036854775807):i_IdsOk l=some (idsOkB l):=by
 unfold i_IdsOk idsOkB
 rw [whileP_all (n:=l.length) (idAt l) (some false) (some true)]
 ·cases (List.range l.length).all (idAt l)<;>rfl
 ·intro k hk
  have hx:l[k]?=some l[k]:=List.getElem?_eq_getElem hk
  generalize l[k]=x at hx
  simp only [lt_dec hk,cond_true,idx_nat,hx,Option.bind_some,Prod.eta,i_idOk_eq,wrap_succ (show k < 9223372036854775807 by omega)]
  unfold idAt
  simp only [hx]
  rcases Nat.eq_zero_or_pos k with h0 | h0
  ·subst h0
   rw [gb_none _ _ _ (by simp),gb_none _ _ _ (by simp)]
   cases idOkB x<;>simp
  ·obtain ⟨r,hr1,hr2⟩:=prev_idx' hk hl h0
   have h5:decide (0 < (k:Int))=true:=by simp;omega
   have h6:decide (k=0)=false:=by simp;omega
   obtain ⟨c,q1,q2⟩:=compareIds_eq r x
   rw [hr1,hr2,h5,h6,gbs]
   simp only [Option.all_some,q1]
   by_cases h7:idLt r x=true<;>cases idOkB x<;>simp [gb,h7,q2]
 ·simp only [ge_dec];rfl
theorem s_l8Has_eq {l:List D_Id} {x:D_Id} (h:l.length≤9223372036854775807):s_l8Has l x=some (l.any fun y=>idEq y x):=by
 unfold s_l8Has
 rw [whileP_find (fun y=>idEq y x) (fun i=>some (decide (0≤i))) h,firstI_any]
 ·intro k y hy
  simp only [lt_dec (List.getElem?_eq_some_iff.1 hy).1,cond_true,idx_nat,hy,Option.bind_some]
  show cond (idEq y x) _ _=_
  cases idEq y x<;>simp
 ·simp only [ge_dec];rfl
theorem containsId_eq {l:List D_Id} {x:D_Id} (h:l.length≤9223372036854775807):sl_Contains_implIdimplId l x=some (l.any fun y=>idEq y x):=by
 unfold sl_Contains_implIdimplId sl_Index_implIdimplId
 rw [whileP_find (fun y=>idEq y x) some h]
 ·rw [Option.bind_some,firstI_any]
 ·intro k y hy
  simp only [lt_dec (List.getElem?_eq_some_iff.1 hy).1,cond_true,idx_nat,hy,Option.bind_some]
  show cond (idEq x y) _ _=_
  rw [idEq_comm]
  cases idEq y x<;>rfl
 ·simp only [ge_dec];rfl
noncomputable def instOkB (x:D_Inst):Bool:=idOkB x.1&&decide (-1≤x.2.1∧x.2.1≤600)&&decide (-1≤x.2.2.1∧x.2.2.1≤x.2.1)&&decide (0≤x.2.2.2.1∧x.2.2.2.1≤3)&&cmdOkB x.2.2.2.2.1&&decide (0≤x.2.2.2.2.2.1∧x.2.2.2.2.2.1≤60)&&idsOkB x.2.2.2.2.2.2.1&&!(x.2.2.2.2.2.2.1.any fun y=>idEq y x.1) &&
 ((!decide (x.2.2.2.1=0))||(((((decide (x.2.2.1=(-1)))&&(decide (x.2.2.2.2.1.1=0)))&&(decide (x.2.2.2.2.2.1=0)))&&(decide ((x.2.2.2.2.2.2.1.length:Int)=0)))&&(!x.2.2.2.2.2.2.2)))
theorem s_l8Inst_eq {x:D_Inst} (ho:Ok.ok x):s_l8Inst x=some (instOkB x):=by
 have hc:Ok.ok x.2.2.2.2.1:=ho.2.2.2.2.1
 have hd:x.2.2.2.2.2.2.1.length≤9223372036854775807:=ho.2.2.2.2.2.2.1.1
 unfold s_l8Inst instOkB
 simp only [Prod.eta,s_l8Id_eq,l1In_eq,s_CmdOk_eq hc,s_IdsOk_eq hd,s_l8Has_eq hd,Option.bind_some]
 generalize ((!decide (x.2.2.2.1=0))||(((((decide (x.2.2.1=(-1)))&&(decide (x.2.2.2.2.1.1=0)))&&(decide (x.2.2.2.2.2.1=0)))&&(decide ((x.2.2.2.2.2.2.1.length:Int)=0)))&&(!x.2.2.2.2.2.2.2)))=b9
 generalize (x.2.2.2.2.2.2.1.any fun y=>idEq y x.1)=b8
 generalize idsOkB x.2.2.2.2.2.2.1=b7
 generalize decide (0≤x.2.2.2.2.2.1∧x.2.2.2.2.2.1≤60)=b6
 generalize cmdOkB x.2.2.2.2.1=b5
 generalize decide (0≤x.2.2.2.1∧x.2.2.2.1≤3)=b4
 generalize decide (-1≤x.2.2.1∧x.2.2.1≤x.2.1)=b3
 generalize decide (-1≤x.2.1∧x.2.1≤600)=b2
 generalize idOkB x.1=b1
 cases b1
 ·rfl
 cases b2
 ·rfl
 cases b3
 ·rfl
 cases b4
 ·rfl
 cases b5
 ·rfl
 cases b6
 ·rfl
 cases b7
 ·rfl
 cases b8<;>rfl
theorem i_instOk_eq {x:D_Inst} (ho:Ok.ok x):i_instOk x=some (instOkB x):=by
 have hc:Ok.ok x.2.2.2.2.1:=ho.2.2.2.2.1
 have hd:x.2.2.2.2.2.2.1.length≤9223372036854775807:=ho.2.2.2.2.2.2.1.1
 unfold i_instOk instOkB
 simp only [Prod.eta,i_idOk_eq,within_eq,i_CmdOk_eq hc,i_IdsOk_eq hd,containsId_eq hd,Option.bind_some]
 generalize ((!decide (x.2.2.2.1=0))||(((((decide (x.2.2.1=(-1)))&&(decide (x.2.2.2.2.1.1=0)))&&(decide (x.2.2.2.2.2.1=0)))&&(decide ((x.2.2.2.2.2.2.1.length:Int)=0)))&&(!x.2.2.2.2.2.2.2)))=b9
 generalize (x.2.2.2.2.2.2.1.any fun y=>idEq y x.1)=b8
 generalize idsOkB x.2.2.2.2.2.2.1=b7
 generalize decide (0≤x.2.2.2.2.2.1∧x.2.2.2.2.2.1≤60)=b6
 generalize cmdOkB x.2.2.2.2.1=b5
 generalize decide (0≤x.2.2.2.1∧x.2.2.2.1≤3)=b4
 generalize decide (-1≤x.2.2.1∧x.2.2.1≤x.2.1)=b3
 generalize decide (-1≤x.2.1∧x.2.1≤600)=b2
 generalize idOkB x.1=b1
 cases b1
 ·rfl
 cases b2
 ·rfl
 cases b3
 ·rfl
 cases b4
 ·rfl
 cases b5
 ·rfl
 cases b6
 ·rfl
 cases b7
 ·rfl
 cases b8<;>rfl
noncomputable def instAt (l:List D_Inst) (k:Nat):Bool:=match l[k]? with
 | none=>false
 | some x=>instOkB x&&(decide (k=0)||(l[k - 1]?).all fun r=>idLt r.1 x.1)
noncomputable def instsOkB (l:List D_Inst):Bool:=(List.range l.length).all (instAt l)
theorem s_InstsOk_eq {l:List D_Inst} (ho:Ok.ok l):s_InstsOk l=some (instsOkB l):=by
 have hl:l.length≤9223372036854775807:=ho.1
 unfold s_InstsOk instsOkB
 rw [whileP_all (n:=l.length) (instAt l) (some false) (some true)]
 ·cases (List.range l.length).all (instAt l)<;>rfl
 ·intro k hk
  have hx:l[k]?=some l[k]:=List.getElem?_eq_getElem hk
  generalize l[k]=x at hx
  have hox:Ok.ok x:=ho.2 x (List.mem_of_getElem? hx)
  simp only [lt_dec hk,cond_true,idx_nat,hx,Option.bind_some,Prod.eta,s_l8Inst_eq hox,s_l8Less_eq,wrap_succ (show k < 9223372036854775807 by omega)]
  unfold instAt
  simp only [hx]
  rcases Nat.eq_zero_or_pos k with h0 | h0
  ·subst h0
   rw [gb_none _ _ _ (by simp)]
   cases instOkB x<;>simp [gb]
  ·obtain ⟨r,hr1,hr2⟩:=prev_idx' hk hl h0
   have h5:decide (0 < (k:Int))=true:=by simp;omega
   have h6:decide (k=0)=false:=by simp;omega
   rw [hr1,hr2,h5,h6,gbs]
   simp only [Option.all_some]
   by_cases h7:idLt r.1 x.1=true<;>cases instOkB x<;>simp [gb,h7]
 ·simp only [ge_dec];rfl
theorem i_InstsOk_eq {l:List D_Inst} (ho:Ok.ok l):i_InstsOk l=some (instsOkB l):=by
 have hl:l.length≤9223372036854775807:=ho.1
 unfold i_InstsOk instsOkB
 rw [whileP_all (n:=l.length) (instAt l) (some false) (some true)]
 ·cases (List.range l.length).all (instAt l)<;>rfl
 ·intro k hk
  have hx:l[k]?=some l[k]:=List.getElem?_eq_getElem hk
  generalize l[k]=x at hx
  have hox:Ok.ok x:=ho.2 x (List.mem_of_getElem? hx)
  simp only [lt_dec hk,cond_true,idx_nat,hx,Option.bind_some,Prod.eta,i_instOk_eq hox,wrap_succ (show k < 9223372036854775807 by omega)]
  unfold instAt
  simp only [hx]
  rcases Nat.eq_zero_or_pos k with h0 | h0
  ·subst h0
   rw [gb_none _ _ _ (by simp),gb_none _ _ _ (by simp)]
   cases instOkB x<;>simp
  ·obtain ⟨r,hr1,hr2⟩:=prev_idx' hk hl h0
   have h5:decide (0 < (k:Int))=true:=by simp;omega
   have h6:decide (k=0)=false:=by simp;omega
   obtain ⟨c,q1,q2⟩:=compareIds_eq r.1 x.1
   rw [hr1,hr2,h5,h6,gbs]
   simp only [Option.all_some,q1]
   by_cases h7:idLt r.1 x.1=true<;>cases instOkB x<;>simp [gb,h7,q2]
 ·simp only [ge_dec];rfl
end Go.Proofs.SL
namespace Go.Proofs.SL
open Go
noncomputable def leadOkB (x:D_Lead):Bool:=idOkB x.1&&decide (0≤x.2.1∧x.2.1≤600)&&decide (1≤x.2.2.1∧x.2.2.1≤3)&&decide (0≤x.2.2.2.1∧x.2.2.2.1≤60)&&idsOkB x.2.2.2.2.1&&!(x.2.2.2.2.1.any fun y=>idEq y x.1)&&nodesOk x.2.2.2.2.2.1
theorem nodes_loop {α:Type} {l:List Int} {f:Int→Option (Int ⊕ α)} (no yes:Option α) (hl:l.length≤9223372036854775807)
  (hf:∀ (k:Nat) (y:Int),l[k]?=some y→f (k:Int)=gb ((!(!decide (0≤y∧y < 3)))&&(decide (0 < (k:Int)))) (idx l (IntKind.wrap .i64 ((k:Int) - 1))) (fun r=>cond ((!decide (0≤y∧y < 3))||((decide (0 < (k:Int)))&&(decide (y≤r)))) (no.map .inr) (some (.inl (IntKind.wrap .i64 ((k:Int)+1))))))
  (he:f (l.length:Int)=yes.map .inr):whileP f 0=if nodesOk l then yes else no:=by
 refine whileP_all (n:=l.length) (nodeOk l) no yes (fun k hk=>?_) he
 have hy:l[k]?=some l[k]:=List.getElem?_eq_getElem hk
 generalize l[k]=y at hy
 rw [hf k y hy]
 simp only [wrap_succ (show k < 9223372036854775807 by omega)]
 unfold nodeOk
 simp only [hy]
 rcases Nat.eq_zero_or_pos k with h0 | h0
 ·subst h0
  rw [gb_none _ _ _ (by simp)]
  cases decide (0≤y∧y < 3)<;>simp
 ·obtain ⟨r,hr1,hr2⟩:=prev_idx' hk hl h0
  have h5:decide (0 < (k:Int))=true:=by simp;omega
  have h6:decide (k=0)=false:=by simp;omega
  rw [hr1,hr2,h5,h6,gbs]
  simp only [Option.all_some]
  by_cases h7:r < y
  ·have h8:decide (y≤r)=false:=by simp;omega
   cases decide (0≤y∧y < 3)<;>simp [h7,h8]
  ·have h8:decide (y≤r)=true:=by simp;omega
   cases decide (0≤y∧y < 3)<;>simp [h7,h8]
theorem s_l9Lead_eq {x:D_Lead} (ho:Ok.ok x):s_l9Lead x=some (leadOkB x):=by
 have hd:x.2.2.2.2.1.length≤9223372036854775807:=ho.2.2.2.2.1.1
 have hf:x.2.2.2.2.2.1.length≤9223372036854775807:=ho.2.2.2.2.2.1.1
 unfold s_l9Lead leadOkB
 rw [nodes_loop (l:=x.2.2.2.2.2.1) (some false) (some true) hf]
 ·simp only [Prod.eta,s_l8Id_eq,l1In_eq,s_IdsOk_eq hd,s_l8Has_eq hd,Option.bind_some]
  have h3:nodesOk x.2.2.2.2.2.1=true→decide (3 < (x.2.2.2.2.2.1.length:Int))=false:=fun h=>by
   obtain ⟨h1,h2⟩:=nodesOk_facts h
   have:=nodes_le h1 h2
   simp;omega
  generalize decide (3 < (x.2.2.2.2.2.1.length:Int))=b8 at *
  generalize nodesOk x.2.2.2.2.2.1=b7 at *
  generalize (x.2.2.2.2.1.any fun y=>idEq y x.1)=b6
  generalize idsOkB x.2.2.2.2.1=b5
  generalize decide (0≤x.2.2.2.1∧x.2.2.2.1≤60)=b4
  generalize decide (1≤x.2.2.1∧x.2.2.1≤3)=b3
  generalize decide (0≤x.2.1∧x.2.1≤600)=b2
  generalize idOkB x.1=b1
  cases b1
  ·rfl
  cases b2
  ·rfl
  cases b3
  ·rfl
  cases b4
  ·rfl
  cases b5
  ·rfl
  cases b6
  ·cases b7
   ·cases b8<;>rfl
   ·rw [h3 rfl];rfl
  ·rfl
 ·intro k y hy
  simp only [lt_dec (List.getElem?_eq_some_iff.1 hy).1,cond_true,idx_nat,hy,Option.bind_some,l9Node_eq]
  congr 1
  funext r
  cases h:((!(!decide (0≤y∧y < 3)))&&decide (0 < (k:Int))) with
  | true=>rfl
  | false =>
   simp only [gb]
   simp only [Bool.and_eq_false_imp,Bool.not_not] at h
   cases h1:decide (0≤y∧y < 3) with
   | false=>rfl
   | true=>rw [h h1];rfl
 ·simp only [ge_dec];rfl
theorem i_areDeps_eq {l:List D_Id} {x:D_Id} (h:l.length≤9223372036854775807):i_areDeps l x=some (idsOkB l&&!(l.any fun y=>idEq y x)):=by
 unfold i_areDeps
 simp only [Prod.eta,i_IdsOk_eq h,containsId_eq h,Option.bind_some,gbs]
 cases idsOkB l<;>rfl
theorem i_leadOk_eq {x:D_Lead} (ho:Ok.ok x):i_leadOk x=some (leadOkB x):=by
 have hd:x.2.2.2.2.1.length≤9223372036854775807:=ho.2.2.2.2.1.1
 have hf:x.2.2.2.2.2.1.length≤9223372036854775807:=ho.2.2.2.2.2.1.1
 unfold i_leadOk leadOkB
 rw [nodes_loop (l:=x.2.2.2.2.2.1) (some false) (some (idOkB x.1&&decide (0≤x.2.1∧x.2.1≤600)&&decide (1≤x.2.2.1∧x.2.2.1≤3)&&decide (0≤x.2.2.2.1∧x.2.2.2.1≤60)&&(idsOkB x.2.2.2.2.1&&!(x.2.2.2.2.1.any fun y=>idEq y x.1)))) hf]
 ·cases nodesOk x.2.2.2.2.2.1 with
  | true=>simp only [if_true,Bool.and_true,Bool.and_assoc]
  | false=>simp
 ·intro k y hy
  simp only [lt_dec (List.getElem?_eq_some_iff.1 hy).1,cond_true,idx_nat,hy,Option.bind_some,isRep_eq]
 ·simp only [ge_dec,cond_false,Prod.eta,i_idOk_eq,within_eq,i_areDeps_eq hd,Option.bind_some,gbs]
  generalize (idsOkB x.2.2.2.2.1&&!(x.2.2.2.2.1.any fun y=>idEq y x.1))=b5
  generalize decide (0≤x.2.2.2.1∧x.2.2.2.1≤60)=b4
  generalize decide (1≤x.2.2.1∧x.2.2.1≤3)=b3
  generalize decide (0≤x.2.1∧x.2.1≤600)=b2
  generalize idOkB x.1=b1
  cases b1<;>cases b2<;>cases b3<;>cases b4<;>cases b5<;>rfl
theorem s_l9At_eq {d:D_ENode} {x:D_Id} (h:d.2.2.2.length≤9223372036854775807):s_l9At d x=some (firstI (fun y:D_Lead=>idEq y.1 x) d.2.2.2):=by
 unfold s_l9At
 rw [whileP_find (fun y:D_Lead=>idEq y.1 x) some h]
 ·intro k y hy
  simp only [lt_dec (List.getElem?_eq_some_iff.1 hy).1,cond_true,idx_nat,hy,Option.bind_some]
  show cond (idEq y.1 x) _ _=_
  cases idEq y.1 x<;>rfl
 ·simp only [ge_dec];rfl
theorem i_lead_eq {d:D_ENode} {x:D_Id} (h:d.2.2.2.length≤9223372036854775807):i_ENode_lead d x=some (firstI (fun y:D_Lead=>idEq y.1 x) d.2.2.2):=by
 unfold i_ENode_lead sl_IndexFunc_implLeadimplLead i_ENode_lead_c1
 rw [whileP_find (fun y:D_Lead=>idEq y.1 x) some h]
 ·rfl
 ·intro k y hy
  simp only [lt_dec (List.getElem?_eq_some_iff.1 hy).1,cond_true,idx_nat,hy,Option.bind_some]
  show cond (idEq y.1 x) _ _=_
  cases idEq y.1 x<;>rfl
 ·simp only [ge_dec];rfl
noncomputable def leadAt (l:List D_Lead) (k:Nat):Bool:=match l[k]? with
 | none=>false
 | some x=>leadOkB x&&decide (firstI (fun y:D_Lead=>idEq y.1 x.1) l=(k:Int))
noncomputable def nodeOkB (d:D_ENode):Bool:=decide (0≤d.1∧d.1 < 3)&&decide (1≤d.2.1∧d.2.1≤7)&&instsOkB d.2.2.1&&decide (d.2.2.2.length≤8)&&(d.2.2.1.all fun x=>!(decide (x.1.1=d.1)&&decide (d.2.1≤x.1.2)))&&(List.range d.2.2.2.length).all (leadAt d.2.2.2)
theorem s_ENodeOk_eq {d:D_ENode} (ho:Ok.ok d):s_ENodeOk d=some (nodeOkB d):=by
 have hi:Ok.ok d.2.2.1:=ho.2.2.1
 have hil:d.2.2.1.length≤9223372036854775807:=ho.2.2.1.1
 have hll:d.2.2.2.length≤9223372036854775807:=ho.2.2.2.1
 have hin:(whileP (fun s12:Int=>cond (decide (s12 < (d.2.2.2.length:Int))) (Option.bind (idx d.2.2.2 s12) (fun y14=>Option.bind (s_l9Lead y14) (fun y15=>gb (!(!y15)) (idx d.2.2.2 s12) (fun y16=>gb (!(!y15)) (s_l9At d y16.1) (fun y17=>cond ((!y15)||(!decide (y17=s12))) (Option.map .inr (some false)) (some (.inl (IntKind.wrap .i64 (s12+1))))))))) (Option.map .inr (some true))) 0:Option Bool)=if (List.range d.2.2.2.length).all (leadAt d.2.2.2) then some true else some false:=by
  refine whileP_all (n:=d.2.2.2.length) (leadAt d.2.2.2) (some false) (some true) ?_ ?_
  ·intro k hk
   have hx:d.2.2.2[k]?=some d.2.2.2[k]:=List.getElem?_eq_getElem hk
   generalize d.2.2.2[k]=x at hx
   have hox:Ok.ok x:=ho.2.2.2.2 x (List.mem_of_getElem? hx)
   simp only [lt_dec hk,cond_true,idx_nat,hx,Option.bind_some,s_l9Lead_eq hox,s_l9At_eq hll,wrap_succ (show k < 9223372036854775807 by omega)]
   unfold leadAt
   simp only [hx]
   cases leadOkB x with
   | false=>rfl
   | true =>
    simp only [Bool.not_true,Bool.not_false,gb,Option.bind_some,Bool.true_and,Bool.false_or]
    cases decide (firstI (fun y:D_Lead=>idEq y.1 x.1) d.2.2.2=(k:Int))<;>rfl
  ·simp only [ge_dec];rfl
 unfold s_ENodeOk nodeOkB
 simp only [Prod.eta]
 rw [hin,each_loop (l:=d.2.2.1) (p:=fun x=>!(decide (x.1.1=d.1)&&decide (d.2.1≤x.1.2))) (no:=some false) (yes:=if (List.range d.2.2.2.length).all (leadAt d.2.2.2) then some true else some false) hil]
 ·have h8:decide (8 < (d.2.2.2.length:Int))=!decide (d.2.2.2.length≤8):=by rw [Bool.eq_iff_iff];simp;omega
  simp only [l9Node_eq,l1In_eq,s_InstsOk_eq hi,Option.bind_some,h8]
  generalize (List.range d.2.2.2.length).all (leadAt d.2.2.2)=b6
  generalize (d.2.2.1.all fun x=>!(decide (x.1.1=d.1)&&decide (d.2.1≤x.1.2)))=b5
  generalize decide (d.2.2.2.length≤8)=b4
  generalize instsOkB d.2.2.1=b3
  generalize decide (1≤d.2.1∧d.2.1≤7)=b2
  generalize decide (0≤d.1∧d.1 < 3)=b1
  cases b1
  ·rfl
  cases b2
  ·rfl
  cases b3
  ·rfl
  cases b4
  ·rfl
  cases b5
  ·rfl
  cases b6<;>rfl
 ·intro k x hx
  simp only [lt_dec (List.getElem?_eq_some_iff.1 hx).1,cond_true,idx_nat,hx,Option.bind_some]
  cases h1:decide (x.1.1=d.1)<;>cases h2:decide (d.2.1≤x.1.2)<;>simp [gb,h2]
 ·simp only [ge_dec];rfl
theorem i_ENodeOk_eq {d:D_ENode} (ho:Ok.ok d):i_ENodeOk d=some (nodeOkB d):=by
 have hi:Ok.ok d.2.2.1:=ho.2.2.1
 have hil:d.2.2.1.length≤9223372036854775807:=ho.2.2.1.1
 have hll:d.2.2.2.length≤9223372036854775807:=ho.2.2.2.1
 have hin:(whileP (fun s12:Int=>cond (decide (s12 < (d.2.2.2.length:Int))) (Option.bind (idx d.2.2.2 s12) (fun y14=>Option.bind (i_leadOk y14) (fun y15=>gb (!(!y15)) (i_ENode_lead d y14.1) (fun y16=>cond ((!y15)||(!decide (y16=s12))) (Option.map .inr (some false)) (some (.inl (IntKind.wrap .i64 (s12+1)))))))) (Option.map .inr (some true))) 0:Option Bool)=if (List.range d.2.2.2.length).all (leadAt d.2.2.2) then some true else some false:=by
  refine whileP_all (n:=d.2.2.2.length) (leadAt d.2.2.2) (some false) (some true) ?_ ?_
  ·intro k hk
   have hx:d.2.2.2[k]?=some d.2.2.2[k]:=List.getElem?_eq_getElem hk
   generalize d.2.2.2[k]=x at hx
   have hox:Ok.ok x:=ho.2.2.2.2 x (List.mem_of_getElem? hx)
   simp only [lt_dec hk,cond_true,idx_nat,hx,Option.bind_some,i_leadOk_eq hox,i_lead_eq hll,wrap_succ (show k < 9223372036854775807 by omega)]
   unfold leadAt
   simp only [hx]
   cases leadOkB x with
   | false=>rfl
   | true =>
    simp only [Bool.not_true,Bool.not_false,gb,Option.bind_some,Bool.true_and,Bool.false_or]
    cases decide (firstI (fun y:D_Lead=>idEq y.1 x.1) d.2.2.2=(k:Int))<;>rfl
  ·simp only [ge_dec];rfl
 unfold i_ENodeOk nodeOkB
 simp only [Prod.eta]
 rw [hin,each_loop (l:=d.2.2.1) (p:=fun x=>!(decide (x.1.1=d.1)&&decide (d.2.1≤x.1.2))) (no:=some false) (yes:=if (List.range d.2.2.2.length).all (leadAt d.2.2.2) then some true else some false) hil]
 ·have h8:decide (8 < (d.2.2.2.length:Int))=!decide (d.2.2.2.length≤8):=by rw [Bool.eq_iff_iff];simp;omega
  simp only [isRep_eq,within_eq,i_InstsOk_eq hi,Option.bind_some,h8]
  generalize (List.range d.2.2.2.length).all (leadAt d.2.2.2)=b6
  generalize (d.2.2.1.all fun x=>!(decide (x.1.1=d.1)&&decide (d.2.1≤x.1.2)))=b5
  generalize decide (d.2.2.2.length≤8)=b4
  generalize instsOkB d.2.2.1=b3
  generalize decide (1≤d.2.1∧d.2.1≤7)=b2
  generalize decide (0≤d.1∧d.1 < 3)=b1
  cases b1
  ·rfl
  cases b2
  ·rfl
  cases b3
  ·rfl
  cases b4
  ·rfl
  cases b5
  ·rfl
  cases b6<;>rfl
 ·intro k x hx
  simp only [lt_dec (List.getElem?_eq_some_iff.1 hx).1,cond_true,idx_nat,hx,Option.bind_some,i_ENode_unknown]
  cases h1:decide (x.1.1=d.1)<;>cases h2:decide (d.2.1≤x.1.2)<;>simp
 ·simp only [ge_dec];rfl
def smallI (x:D_Inst):Prop:=x.2.2.2.2.1.2.2.2.2.2.2.2.length≤1048576∧x.2.2.2.2.2.2.1.length≤1048576
def smallLd (x:D_Lead):Prop:=x.2.2.2.2.1.length≤1048576∧x.2.2.2.2.2.1.length≤1048576
def smallN (d:D_ENode):Prop:=d.2.2.1.length≤1048576∧(∀ x,x∈d.2.2.1→smallI x)∧d.2.2.2.length≤1048576∧∀ x,x∈d.2.2.2→smallLd x
theorem s_l4Copy_eq {c:D_Cmd} (h:c.2.2.2.2.2.2.2.length≤1048576):s_l4Copy c=some c:=by
 unfold s_l4Copy
 simp only [Option.bind_some]
 rw [appP_ok (by simp;omega)];rfl
theorem s_l8Copy_eq {x:D_Inst} (h:smallI x):s_l8Copy x=some x:=by
 unfold s_l8Copy
 simp only [Prod.eta,s_l4Copy_eq h.1,Option.bind_some]
 have:=h.2
 rw [appP_ok (by simp;omega)];rfl
theorem copyTexts_eq {l:List ByteArray} (h:l.length≤4294967296):i_copyTexts l=some l:=by
 unfold i_copyTexts
 rw [appP_ok (by simpa using h)];rfl
theorem i_copyCmd_eq {c:D_Cmd} (h:c.2.2.2.2.2.2.2.length≤1048576):i_copyCmd c=some c:=by
 unfold i_copyCmd
 rw [copyTexts_eq (by omega)];rfl
theorem i_copyIds_eq {l:List D_Id} (h:l.length≤4294967296):i_copyIds l=some l:=by
 unfold i_copyIds
 rw [appP_ok (by simpa using h)];rfl
theorem i_copyInst_eq {x:D_Inst} (h:smallI x):i_copyInst x=some x:=by
 unfold i_copyInst
 have:=h.2
 simp only [Prod.eta,i_copyCmd_eq h.1,Option.bind_some,i_copyIds_eq (show x.2.2.2.2.2.2.1.length≤4294967296 by omega)]
theorem i_copyInsts_eq {l:List D_Inst} (h1:l.length≤1048576) (h2:∀ x,x∈l→smallI x):i_copyInsts l=some l:=by
 unfold i_copyInsts
 rw [whileP_for (l:=l) (fun k (t:List D_Inst)=>(t,(k:Int))) (fun t x=>.inl (t++[x])) (fun t=>some t) (fun k t=>t.length=k) [] (s0:=([],0)) rfl rfl,goE_app]
 ·rfl
 ·intro k t x hx ht
  have hlt:=(List.getElem?_eq_some_iff.1 hx).1
  refine .inl ⟨t++[x],rfl,?_,by simp [ht]⟩
  simp only [lt_dec hlt,cond_true,idx_nat,hx,Option.bind_some,Prod.eta,i_copyInst_eq (h2 x (List.mem_of_getElem? hx)),wrap_succ (show k < 9223372036854775807 by omega)]
  rw [appP_ok (by simp;omega)];rfl
 ·intro t ht
  simp only [ge_dec];rfl
theorem i_copyENode_eq {d:D_ENode} (h:smallN d):i_copyENode d=some d:=by
 obtain ⟨me,nx,is,ls⟩:=d
 obtain ⟨h1,h2,h3,h4⟩:=h
 dsimp only at h1 h2 h3 h4
 unfold i_copyENode
 simp only [i_copyInsts_eq h1 h2,Option.bind_some]
 rw [whileP_for (l:=ls) (fun k (t:List D_Lead)=>((k:Int),t)) (fun t x=>.inl (t++[x])) (fun t=>some (me,nx,is,t)) (fun k t=>t.length=k) [] (s0:=(0,[])) rfl rfl,goE_app]
 ·rfl
 ·intro k t x hx ht
  have hlt:=(List.getElem?_eq_some_iff.1 hx).1
  obtain ⟨h5,h6⟩:=h4 x (List.mem_of_getElem? hx)
  refine .inl ⟨t++[x],rfl,?_,by simp [ht]⟩
  simp only [lt_dec hlt,cond_true,idx_nat,hx,Option.bind_some,Prod.eta,wrap_succ (show k < 9223372036854775807 by omega),i_copyIds_eq (show x.2.2.2.2.1.length≤4294967296 by omega),appP_ok (a:=([]:List Int)) (b:=x.2.2.2.2.2.1) (by simp;omega),List.nil_append]
  rw [appP_ok (by simp;omega)];rfl
 ·intro t ht
  simp only [ge_dec];rfl
end Go.Proofs.SL
namespace Go.Proofs.SL
open Go
theorem whileP_is {σ α:Type} {f:σ→Option (σ ⊕ α)} {r:α} {s:σ} (I:σ→Prop) (μ:σ→Nat) (h:∀ s,I s→(∃ s',f s=some (.inl s')∧I s'∧μ s' < μ s)∨f s=some (.inr r)) (hs:I s):whileP f s=some r:=by
 obtain ⟨a,ha,rfl⟩:=whileP_rule I μ (·=r) (fun s hs=>(h s hs).imp id fun h=>⟨r,h,rfl⟩) s hs
 exact ha
end Go.Proofs.SL
namespace Go.Proofs.SL
open Go
end Go.Proofs.SL
namespace Go.Proofs.SL
open Go
structure MB (m:D_Cmd):Prop where
 k:inR m.1
 cl:inR m.2.1
 no:inR m.2.2.1
 s1:m.2.2.2.1.size≤9
 s2:m.2.2.2.2.1.size≤9
 s3:m.2.2.2.2.2.1.size≤9
 n:inR m.2.2.2.2.2.2.1
 len:m.2.2.2.2.2.2.2.length≤5
 ch:∀ x,x∈m.2.2.2.2.2.2.2→x.size≤9
theorem MB.ok {m:D_Cmd} (h:MB m):Ok.ok m :=
 ⟨h.k,h.cl,h.no,by have:=h.s1;show _≤_;omega,by have:=h.s2;show _≤_;omega,by have:=h.s3;show _≤_;omega,h.n,by have:=h.len;omega,fun x hx=>by have:=h.ch x hx;show x.size≤_;omega⟩
end Go.Proofs.SL
namespace Go.Proofs.SL
open Go
end Go.Proofs.SL
namespace Go.Proofs.SL
open Go
namespace Gr
variable {ι:Type}
inductive Rch (dp:ι→List ι):ι→ι→Prop
 | one {x y:ι}:y∈dp x→Rch dp x y
 | cons {x y z:ι}:y∈dp x→Rch dp y z→Rch dp x z
theorem Rch.trans {dp:ι→List ι} {x y z:ι} (h:Rch dp x y) (k:Rch dp y z):Rch dp x z:=by
 induction h with
 | one h=>exact .cons h k
 | cons h _ ih=>exact .cons h (ih k)
section
variable [DecidableEq ι]
structure PartOk (rdy:ι→Bool) (part:ι→List ι) (ids:List ι):Prop where
 self:∀ x,x∈ids→rdy x=true→x∈part x
 mem:∀ x,x∈ids→rdy x=true→∀ y,y∈part x→y∈ids∧rdy y=true∧part y=part x
end
end Gr
end Go.Proofs.SL
namespace Go.Proofs.SL
open Go
namespace Gr
variable {ι:Type}
structure STO (lt:ι→ι→Bool):Prop where
 irr:∀ a,lt a a=false
 tr:∀ a b c,lt a b=true→lt b c=true→lt a c=true
 tot:∀ a b,lt a b=true∨lt b a=true∨a=b
theorem STO.asy {lt:ι→ι→Bool} (h:STO lt) {a b:ι} (h1:lt a b=true):lt b a=false:=by
 cases h2:lt b a with
 | false=>rfl
 | true=>have:=h.tr _ _ _ h1 h2;rw [h.irr] at this;cases this
theorem STO.ne {lt:ι→ι→Bool} (h:STO lt) {a b:ι} (h1:lt a b=true):a≠b:=fun e=>by rw [e,h.irr] at h1;cases h1
abbrev Up (lt:ι→ι→Bool) (l:List ι):Prop:=l.Pairwise fun a b=>lt a b=true
theorem up_ext {lt:ι→ι→Bool} (h:STO lt):∀ {l m:List ι},Up lt l→Up lt m→(∀ x,x∈l↔x∈m)→l=m
 | [],[],_,_,_=>rfl
 | [],b::m,_,_,e=>by have:=(e b).2 (List.mem_cons_self ..);cases this
 | a::l,[],_,_,e=>by have:=(e a).1 (List.mem_cons_self ..);cases this
 | a::l,b::m,hl,hm,e=>by
  obtain ⟨l1,l2⟩:=List.pairwise_cons.1 hl
  obtain ⟨m1,m2⟩:=List.pairwise_cons.1 hm
  have eab:a=b:=by
   rcases List.mem_cons.1 ((e a).1 (List.mem_cons_self ..)) with q | q
   ·exact q
   ·rcases List.mem_cons.1 ((e b).2 (List.mem_cons_self ..)) with r | r
    ·exact r.symm
    ·have:=h.asy (m1 a q);rw [l1 b r] at this;cases this
  subst eab
  congr 1
  refine up_ext h l2 m2 fun x=>⟨fun hx=>?_,fun hx=>?_⟩
  ·rcases List.mem_cons.1 ((e x).1 (List.mem_cons_of_mem _ hx)) with q | q
   ·have:=h.ne (l1 x hx);exact (this q.symm).elim
   ·exact q
  ·rcases List.mem_cons.1 ((e x).2 (List.mem_cons_of_mem _ hx)) with q | q
   ·have:=h.ne (m1 x hx);exact (this q.symm).elim
   ·exact q
theorem up_nodup {lt:ι→ι→Bool} (h:STO lt) {l:List ι} (hl:Up lt l):l.Nodup:=hl.imp fun {_ _} hab=>h.ne hab
theorem takeWhile_lt {lt:ι→ι→Bool} {y:ι}:∀ {a:List ι} {x:ι},x∈a.takeWhile (fun x=>lt x y)→lt x y=true
 | z::a,x,hx=>by
  rw [List.takeWhile_cons] at hx
  split at hx
  ·rename_i hz
   rcases List.mem_cons.1 hx with rfl | hx
   ·exact hz
   ·exact takeWhile_lt hx
  ·cases hx
structure BI (dp:ι→List ι) (ok:ι→Prop) (id:ι) (out q:List ι):Prop where
 nd:out.Nodup
 val:∀ x,x∈out→ok x
 rch:∀ x,x∈out→Rch dp id x
 que:∀ x,x∈q→x=id∨x∈out
 clo:∀ x,x=id∨x∈out→¬ x∈q→∀ y,y∈dp x→y∈out
section
variable [DecidableEq ι]
def join (lt:ι→ι→Bool):List ι→List ι→List ι
 | a,[]=>a
 | a,y::ys=>a.takeWhile (fun x=>lt x y)++y::join lt (match a.dropWhile (fun x=>lt x y) with | []=>[] | z::zs=>if z=y then zs else z::zs) ys
def past (lt:ι→ι→Bool) (a:List ι) (y:ι):List ι:=match a.dropWhile (fun x=>lt x y) with | []=>[] | z::zs=>if z=y then zs else z::zs
theorem past_facts {lt:ι→ι→Bool} (h:STO lt) {y:ι}:∀ {a:List ι},Up lt a→Up lt (past lt a y)∧(∀ x,x∈past lt a y→lt y x=true∧x∈a)∧∀ x,x∈a→x∈a.takeWhile (fun x=>lt x y)∨x=y∨x∈past lt a y
 | [],_=>⟨List.Pairwise.nil,fun x hx=>(by cases hx),fun x hx=>by cases hx⟩
 | z::a,ha=>by
  obtain ⟨a1,a2⟩:=List.pairwise_cons.1 ha
  cases hz:lt z y with
  | true =>
   obtain ⟨i1,i2,i3⟩:=past_facts h (y:=y) a2
   have e:past lt (z::a) y=past lt a y:=by unfold past;rw [List.dropWhile_cons,if_pos hz]
   rw [e,List.takeWhile_cons,if_pos hz]
   refine ⟨i1,fun x hx=>⟨(i2 x hx).1,List.mem_cons_of_mem _ (i2 x hx).2⟩,fun x hx=>?_⟩
   rcases List.mem_cons.1 hx with rfl | hx
   ·exact .inl (List.mem_cons_self ..)
   ·rcases i3 x hx with q | q
    ·exact .inl (List.mem_cons_of_mem _ q)
    ·exact .inr q
  | false =>
   have e:past lt (z::a) y=if z=y then a else z::a:=by unfold past;rw [List.dropWhile_cons,if_neg (by simp [hz])]
   rw [List.takeWhile_cons,if_neg (by simp [hz]),e]
   by_cases hzy:z=y
   ·subst hzy
    rw [if_pos rfl]
    refine ⟨a2,fun x hx=>⟨a1 x hx,List.mem_cons_of_mem _ hx⟩,fun x hx=>?_⟩
    rcases List.mem_cons.1 hx with rfl | hx
    ·exact .inr (.inl rfl)
    ·exact .inr (.inr hx)
   ·rw [if_neg hzy]
    have hyz:lt y z=true:=by
     rcases h.tot y z with q | q | q
     ·exact q
     ·rw [hz] at q;cases q
     ·exact (hzy q.symm).elim
    refine ⟨ha,fun x hx=>⟨?_,hx⟩,fun x hx=>.inr (.inr hx)⟩
    rcases List.mem_cons.1 hx with rfl | hx
    ·exact hyz
    ·exact h.tr _ _ _ hyz (a1 x hx)
theorem join_cons (lt:ι→ι→Bool) (a:List ι) (y:ι) (ys:List ι):join lt a (y::ys)=a.takeWhile (fun x=>lt x y)++y::join lt (past lt a y) ys:=rfl
theorem join_facts {lt:ι→ι→Bool} (h:STO lt):∀ {b a:List ι},Up lt a→Up lt b→Up lt (join lt a b)∧∀ x,x∈join lt a b↔x∈a∨x∈b
 | [],a,ha,_=>⟨ha,fun x=>by unfold join;simp⟩
 | y::ys,a,ha,hb=>by
  obtain ⟨b1,b2⟩:=List.pairwise_cons.1 hb
  obtain ⟨p1,p2,p3⟩:=past_facts h (y:=y) ha
  obtain ⟨j1,j2⟩:=join_facts h p1 b2
  have hgt:∀ x,x∈join lt (past lt a y) ys→lt y x=true:=fun x hx=>by
   rcases (j2 x).1 hx with q | q
   ·exact (p2 x q).1
   ·exact b1 x q
  rw [join_cons]
  refine ⟨List.pairwise_append.2 ⟨ha.sublist (List.takeWhile_sublist _),List.pairwise_cons.2 ⟨hgt,j1⟩,fun x hx z hz=>?_⟩,fun x=>?_⟩
  ·have hxy:=takeWhile_lt hx
   rcases List.mem_cons.1 hz with rfl | hz
   ·exact hxy
   ·exact h.tr _ _ _ hxy (hgt z hz)
  ·rw [List.mem_append,List.mem_cons,List.mem_cons,j2]
   constructor
   ·rintro (q | q | q | q)
    ·exact .inl ((List.takeWhile_sublist _).subset q)
    ·exact .inr (.inl q)
    ·exact .inl (p2 x q).2
    ·exact .inr (.inr q)
   ·rintro (q | q | q)
    ·rcases p3 x q with r | r | r
     ·exact .inl r
     ·exact .inr (.inl r)
     ·exact .inr (.inr (.inl r))
    ·exact .inr (.inl q)
    ·exact .inr (.inr (.inr q))
structure ROk (lt:ι→ι→Bool) (dp:ι→List ι) (ok:ι→Prop) (N:Nat):Prop where
 sto:STO lt
 up:∀ x,Up lt (dp x)
 val:∀ x y,y∈dp x→ok y
 len:∀ l:List ι,l.Nodup→(∀ x,x∈l→ok x)→l.length≤N
end
end Gr
end Go.Proofs.SL
namespace Go.Proofs.SL
open Go
namespace Gr
variable {ι:Type}
def OutOk (rdy:ι→Bool) (part:ι→List ι) (ids:List ι) (out:List (List ι)):Prop:=∀ p,p∈out→∃ z,z∈ids∧rdy z=true∧p=part z
theorem OutOk.nil (rdy:ι→Bool) (part:ι→List ι) (ids:List ι):OutOk rdy part ids []:=fun p hp=>by cases hp
section
variable [DecidableEq ι]
theorem findIdx_find {α:Type} (f:α→Bool) (l:List α):(l.findIdx? f=none∧l.find? f=none)∨∃ k p,l.findIdx? f=some k∧l[k]?=some p∧l.find? f=some p:=by
 cases h:l.findIdx? f with
 | none =>
  refine .inl ⟨rfl,List.find?_eq_none.2 fun x hx=>?_⟩
  have:=List.findIdx?_eq_none_iff.1 h x hx
  simp [this]
 | some k =>
  right
  obtain ⟨h1,h2,h3⟩:=List.findIdx?_eq_some_iff_getElem.1 h
  refine ⟨k,l[k],rfl,List.getElem?_eq_getElem h1,?_⟩
  rw [List.find?_eq_some_iff_getElem]
  exact ⟨h2,k,h1,rfl,fun j hj=>by have:=h3 j hj;simpa using this⟩
end
end Gr
end Go.Proofs.SL
namespace Go.Proofs.SL
open Go
theorem idEq_dec (a b:D_Id):idEq a b=decide (a=b):=by
 unfold idEq
 rw [Bool.eq_iff_iff]
 simp only [Bool.and_eq_true,decide_eq_true_eq,and_true]
 constructor
 ·rintro ⟨h1,h2⟩;exact Prod.ext h1 h2
 ·rintro rfl;exact ⟨rfl,rfl⟩
theorem idLt_iff {a b:D_Id}:idLt a b=true↔a.1 < b.1∨(a.1=b.1∧a.2 < b.2):=by unfold idLt;simp
theorem idLt_sto:Gr.STO idLt where
 irr a:=by
  cases h:idLt a a with
  | false=>rfl
  | true=>have:=idLt_iff.1 h;omega
 tr a b c h1 h2:=by
  have:=idLt_iff.1 h1;have:=idLt_iff.1 h2
  exact idLt_iff.2 (by omega)
 tot a b:=by
  by_cases h1:a.1 < b.1
  ·exact .inl (idLt_iff.2 (.inl h1))
  by_cases h2:b.1 < a.1
  ·exact .inr (.inl (idLt_iff.2 (.inl h2)))
  have h3:a.1=b.1:=by omega
  by_cases h4:a.2 < b.2
  ·exact .inl (idLt_iff.2 (.inr ⟨h3,h4⟩))
  by_cases h5:b.2 < a.2
  ·exact .inr (.inl (idLt_iff.2 (.inr ⟨h3.symm,h5⟩)))
  ·exact .inr (.inr (Prod.ext h3 (by omega)))
theorem idsOk_facts {l:List D_Id} (h:idsOkB l=true):(∀ x,x∈l→idOkB x=true)∧Gr.Up idLt l:=by
 unfold idsOkB at h
 simp only [List.all_eq_true,List.mem_range] at h
 refine ⟨fun x hx=>?_,pairwise_of_step (R:=fun a b:D_Id=>idLt a b=true) (fun a b c=>idLt_sto.tr a b c) l fun k hk=>?_⟩
 ·obtain ⟨k,hk⟩:=List.getElem?_of_mem hx
  have:=h k (List.getElem?_eq_some_iff.1 hk).1
  unfold idAt at this
  rw [hk] at this
  simp only [Bool.and_eq_true] at this
  exact this.1
 ·have:=h (k+1) hk
  unfold idAt at this
  rw [List.getElem?_eq_getElem hk] at this
  simp only [Bool.and_eq_true,decide_eq_true_eq,Bool.or_eq_true,Nat.add_sub_cancel,List.getElem?_eq_getElem (show k < l.length by omega),Option.all_some] at this
  rcases this.2 with h2 | h2
  ·omega
  ·exact h2
theorem instsOk_facts {l:List D_Inst} (h:instsOkB l=true):(∀ x,x∈l→instOkB x=true)∧l.Pairwise (fun a b=>idLt a.1 b.1=true):=by
 unfold instsOkB at h
 simp only [List.all_eq_true,List.mem_range] at h
 refine ⟨fun x hx=>?_,pairwise_of_step (R:=fun a b:D_Inst=>idLt a.1 b.1=true) (fun a b c=>idLt_sto.tr a.1 b.1 c.1) l fun k hk=>?_⟩
 ·obtain ⟨k,hk⟩:=List.getElem?_of_mem hx
  have:=h k (List.getElem?_eq_some_iff.1 hk).1
  unfold instAt at this
  rw [hk] at this
  simp only [Bool.and_eq_true] at this
  exact this.1
 ·have:=h (k+1) hk
  unfold instAt at this
  rw [List.getElem?_eq_getElem hk] at this
  simp only [Bool.and_eq_true,decide_eq_true_eq,Bool.or_eq_true,Nat.add_sub_cancel,List.getElem?_eq_getElem (show k < l.length by omega),Option.all_some] at this
  rcases this.2 with h2 | h2
  ·omega
  ·exact h2
theorem instOk_facts {x:D_Inst} (h:instOkB x=true):idOkB x.1=true∧cmdOkB x.2.2.2.2.1=true∧(0≤x.2.2.2.2.2.1∧x.2.2.2.2.2.1≤60)∧idsOkB x.2.2.2.2.2.2.1=true:=by
 unfold instOkB at h
 simp only [Bool.and_eq_true,decide_eq_true_eq] at h
 exact ⟨h.1.1.1.1.1.1.1.1,h.1.1.1.1.2,h.1.1.1.2,h.1.1.2⟩
def idN (x:D_Id):Int:=6*x.1+x.2
theorem idOk_iff {x:D_Id} (h:idOkB x=true):(0≤x.1∧x.1≤2)∧(1≤x.2∧x.2≤6):=by
 unfold idOkB at h;simpa using h
theorem nodup_len {l:List D_Id} (h:l.Nodup) (hk:∀ x,x∈l→idOkB x=true):l.length≤18:=by
 have h1:(l.map fun x=>(idN x).toNat).Nodup:=by
  rw [List.nodup_iff_pairwise_ne,List.pairwise_map]
  refine List.Pairwise.imp_of_mem ?_ h
  intro a b ha hb hab e
  have:=idOk_iff (hk a ha);have:=idOk_iff (hk b hb)
  unfold idN at e
  exact hab (Prod.ext (by omega) (by omega))
 have h2:∀ n,n∈(l.map fun x=>(idN x).toNat)→n∈List.range 19:=fun n hn=>by
  obtain ⟨x,hx,rfl⟩:=List.mem_map.1 hn
  have:=idOk_iff (hk x hx)
  unfold idN
  rw [List.mem_range];omega
 have h3:∀ n,n∈(l.map fun x=>(idN x).toNat)→n≠0:=fun n hn=>by
  obtain ⟨x,hx,rfl⟩:=List.mem_map.1 hn
  have:=idOk_iff (hk x hx)
  unfold idN
  omega
 have h4:=List.Nodup.length_le_of_subset (l₂:=(List.range 19).erase 0) h1 (fun n hn=>(List.mem_erase_of_ne (h3 n hn)).2 (h2 n hn))
 rw [List.length_map] at h4
 simpa using h4
theorem insts_len {l:List D_Inst} (h:instsOkB l=true):l.length≤18:=by
 obtain ⟨h1,h2⟩:=instsOk_facts h
 have:=nodup_len (l:=l.map (·.1)) (Gr.up_nodup idLt_sto (List.pairwise_map.2 h2)) fun x hx=>by
  obtain ⟨y,hy,rfl⟩:=List.mem_map.1 hx
  exact (instOk_facts (h1 y hy)).1
 simpa using this
theorem deps_len {l:List D_Id} (h:idsOkB l=true):l.length≤18:=by
 obtain ⟨h1,h2⟩:=idsOk_facts h
 exact nodup_len (Gr.up_nodup idLt_sto h2) h1
def getI (l:List D_Inst) (id:D_Id):Option D_Inst:=l.find? fun x=>idEq x.1 id
noncomputable def atI (l:List D_Inst) (id:D_Id):D_Inst:=match getI l id with | some x=>x | none=>((id.1,id.2),(-1),(-1),0,(0,0,0,ByteArray.empty,ByteArray.empty,ByteArray.empty,0,([]:List ByteArray)),0,([]:List D_Id),false)
theorem getI_some {l:List D_Inst} {id:D_Id} {x:D_Inst} (h:getI l id=some x):x∈l∧x.1=id:=by
 have h1:=List.mem_of_find?_eq_some h
 have h2:=List.find?_some h
 rw [idEq_dec] at h2
 exact ⟨h1,of_decide_eq_true h2⟩
theorem firstI_opt {α:Type} (p:α→Bool) (l:List α):(firstI p l=-1∧l.find? p=none)∨∃ (k:Nat) (x:α),firstI p l=(k:Int)∧l[k]?=some x∧l.find? p=some x:=by
 rcases Gr.findIdx_find p l with ⟨h1,h2⟩ | ⟨k,x,h1,h2,h3⟩
 ·exact .inl ⟨firstI_none h1,h2⟩
 ·exact .inr ⟨k,x,firstI_some h1,h2,h3⟩
end Go.Proofs.SL
namespace Go.Proofs.SL
open Go
theorem slcP_pos {α:Type} {l:List α} {a b:Int} (h:0≤a∧a≤b∧b≤l.length):slcP l a b=some ((l.drop a.toNat).take (b.toNat - a.toNat)):=if_pos h
theorem drop_cons {α:Type} {l:List α} {k:Nat} {x:α} (h:l[k]?=some x):l.drop k=x::l.drop (k+1):=by
 obtain ⟨h1,h2⟩:=List.getElem?_eq_some_iff.1 h
 rw [List.drop_eq_getElem_cons h1,h2]
end Go.Proofs.SL
namespace Go.Proofs.SL
open Go
def smallL (l:List D_Inst):Prop:=∀ x,x∈l→smallI x
theorem s_InstAt_eq {l:List D_Inst} (hl:l.length≤1048576) (hs:smallL l) (id:D_Id):s_InstAt l id=some (atI l id):=by
 unfold s_InstAt
 refine whileP_is (fun s:Int=>∃ k:Nat,s=(k:Int)∧k≤l.length∧(l.drop k).find? (fun x=>idEq x.1 id)=getI l id) (fun s=>(l.length - s).toNat) ?_ ⟨0,rfl,Nat.zero_le _,rfl⟩
 rintro _ ⟨k,rfl,hk,he⟩
 by_cases hkl:k < l.length
 ·have hx:l[k]?=some l[k]:=List.getElem?_eq_getElem hkl
  have hm:l[k]∈l:=List.getElem_mem _
  generalize l[k]=x at hx hm
  rw [drop_cons hx] at he
  rw [show decide ((k:Int) < (l.length:Int))=true from decide_eq_true (by omega),cond_true,idx_nat,hx,Option.bind_some]
  have hq:(decide (x.1.1=id.1)&&(decide (x.1.2=id.2)&&true))=idEq x.1 id:=rfl
  rw [hq]
  cases hc:idEq x.1 id with
  | true =>
   right
   rw [List.find?_cons_of_pos (by simp [hc])] at he
   rw [cond_true,Option.bind_some,show s_l8Copy _=some x from s_l8Copy_eq (x:=x) (hs x hm),Option.bind_some]
   unfold atI
   rw [← he];rfl
  | false =>
   left
   rw [List.find?_cons_of_neg (by simp [hc])] at he
   rw [cond_false,wrap_succ (by omega)]
   exact ⟨_,rfl,⟨k+1,rfl,hkl,he⟩,by omega⟩
 ·right
  rw [show decide ((k:Int) < (l.length:Int))=false from decide_eq_false (by omega),cond_false]
  rw [List.drop_of_length_le (by omega)] at he
  unfold atI
  rw [← he];rfl
theorem i_instAt_eq {l:List D_Inst} (hl:l.length≤1048576) (id:D_Id):i_instAt l id=some (firstI (fun x:D_Inst=>idEq x.1 id) l):=by
 unfold i_instAt sl_IndexFunc_implInstimplInst i_instAt_c1
 rw [whileP_find (l:=l) (fun x:D_Inst=>idEq x.1 id) some (by omega)]
 ·rfl
 ·intro k x hx
  simp only [lt_dec (List.getElem?_eq_some_iff.1 hx).1,cond_true,idx_nat,hx,Option.bind_some]
  show cond (idEq x.1 id) _ _=_
  cases idEq x.1 id<;>rfl
 ·simp only [ge_dec];rfl
theorem i_InstAt_eq {l:List D_Inst} (hl:l.length≤1048576) (hs:smallL l) (id:D_Id):i_InstAt l id=some (atI l id):=by
 unfold i_InstAt
 rw [show i_instAt l (id.1,id.2)=_ from i_instAt_eq hl id,Option.bind_some]
 unfold atI getI
 rcases firstI_opt (fun x:D_Inst=>idEq x.1 id) l with ⟨h1,h2⟩ | ⟨k,x,h1,h2,h3⟩
 ·rw [h1,h2];rfl
 ·rw [h1,h3,show decide (0≤(k:Int))=true from decide_eq_true (by omega),cond_true,idx_nat,h2,Option.bind_some,show i_copyInst _=some x from i_copyInst_eq (x:=x) (hs x (List.mem_of_getElem? h2))]
  rfl
end Go.Proofs.SL
namespace Go.Proofs.SL
open Go
theorem sw0_of {lt:D_Id→D_Id→Bool} (h:Gr.STO lt):SW0 lt where
 irrefl:=h.irr
 trans:=h.tr
 ntrans x y z h1 h2:=by
  cases h3:lt x z with
  | false=>rfl
  | true =>
   rcases h.tot y z with q | q | q
   ·rw [h2] at q;cases q
   ·have:=h.tr _ _ _ h3 q;rw [h1] at this;cases this
   ·rw [q,h3] at h1;cases h1
theorem sortFn_eq {lt:D_Id→D_Id→Bool} (h:Gr.STO lt) {f:D_Id→D_Id→Option Int} (hf:∀ x y,∃ v,f x y=some v∧decide (v < 0)=lt x y) {l:List D_Id} (hl:l.length≤1000):sortFn l f=some (isort lt l):=by
 have e:(fun x y=>decide ((f x y).getD 0 < 0))=lt:=by
  funext x y
  obtain ⟨v,h1,h2⟩:=hf x y
  rw [h1];exact h2
 unfold sortFn
 rw [e,if_pos ⟨fun x y=>(hf x y).imp fun v hv=>hv.1,sw0_of h⟩]
 exact sortD_eq (by omega) fun a b _ _=>h.tot a b
theorem compareIds_lt (a b:D_Id):∃ c,i_compareIds a b=some c∧decide (c < 0)=idLt a b:=by
 obtain ⟨c,h1,h2⟩:=compareIds_eq a b
 refine ⟨c,h1,?_⟩
 by_cases h:c < 0
 ·rw [decide_eq_false (show ¬ 0≤c by omega)] at h2
  rw [decide_eq_true h]
  cases hh:idLt a b with
  | true=>rfl
  | false=>rw [hh] at h2;cases h2
 ·rw [decide_eq_true (show 0≤c by omega)] at h2
  rw [decide_eq_false h]
  cases hh:idLt a b with
  | false=>rfl
  | true=>rw [hh] at h2;cases h2
end Go.Proofs.SL
namespace Go.Proofs.SL
open Go
noncomputable def clashB (c d:D_Cmd):Bool:=bif (((!cmdOkB c)||(!cmdOkB d))||decide (c.1=0))||decide (d.1=0) then false else (decide (c.1=7)||decide (d.1=7))||decide (c.2.2.2.1=d.2.2.2.1)
theorem clash_comm (c d:D_Cmd):clashB c d=clashB d c:=by
 unfold clashB
 rw [show decide (d.2.2.2.1=c.2.2.2.1)=decide (c.2.2.2.1=d.2.2.2.1) by rw [Bool.eq_iff_iff];simp only [decide_eq_true_eq];exact eq_comm]
 cases cmdOkB c<;>cases cmdOkB d<;>cases decide (c.1=0)<;>cases decide (d.1=0)<;>cases decide (c.1=7)<;>cases decide (d.1=7)<;>rfl
theorem i_Clash_eq {c d:D_Cmd} (hc:Ok.ok c) (hd:Ok.ok d):i_Clash c d=some (clashB c d):=by
 unfold i_Clash clashB
 rw [show i_CmdOk _=_ from i_CmdOk_eq (c:=c) hc,show i_CmdOk _=_ from i_CmdOk_eq (c:=d) hd,Option.bind_some,gbs]
 cases cmdOkB c<;>cases cmdOkB d<;>cases decide (c.1=0)<;>cases decide (d.1=0)<;>rfl
end Go.Proofs.SL
namespace Go.Proofs.SL
open Go
abbrev UpI (l:List D_Inst):Prop:=l.Pairwise fun a b=>idLt a.1 b.1=true
theorem instsOk_of {l:List D_Inst} (h1:∀ x,x∈l→instOkB x=true) (h2:UpI l):instsOkB l=true:=by
 unfold instsOkB
 rw [List.all_eq_true]
 intro k hk
 rw [List.mem_range] at hk
 have hx:l[k]?=some l[k]:=List.getElem?_eq_getElem hk
 unfold instAt
 rw [hx]
 simp only [Bool.and_eq_true,Bool.or_eq_true,decide_eq_true_eq]
 refine ⟨h1 _ (List.getElem_mem hk),?_⟩
 rcases Nat.eq_zero_or_pos k with h0 | h0
 ·exact .inl h0
 ·right
  rw [List.getElem?_eq_getElem (show k - 1 < l.length by omega)]
  exact List.pairwise_iff_getElem.1 h2 (k - 1) k (by omega) hk (by omega)
theorem idLt_irr (a:D_Id):idLt a a=false:=idLt_sto.irr a
theorem idLt_asym {a b:D_Id} (h:idLt a b=true):idLt b a=false:=by
 cases hh:idLt b a with
 | false=>rfl
 | true=>have:=idLt_sto.tr _ _ _ h hh;rw [idLt_irr] at this;cases this
def putI (l:List D_Inst) (x:D_Inst):List D_Inst:=l.filter (fun y=>idLt y.1 x.1)++x::l.filter fun y=>idLt x.1 y.1
theorem putI_mem {l:List D_Inst} {x y:D_Inst}:y∈putI l x↔y=x∨(y∈l∧y.1≠x.1):=by
 unfold putI
 simp only [List.mem_append,List.mem_filter,List.mem_cons]
 constructor
 ·rintro (⟨h1,h2⟩ | h | ⟨h1,h2⟩)
  ·exact .inr ⟨h1,fun e=>by rw [e,idLt_irr] at h2;cases h2⟩
  ·exact .inl h
  ·exact .inr ⟨h1,fun e=>by rw [e,idLt_irr] at h2;cases h2⟩
 ·rintro (h | ⟨h1,h2⟩)
  ·exact .inr (.inl h)
  ·rcases idLt_sto.tot y.1 x.1 with q | q | q
   ·exact .inl ⟨h1,q⟩
   ·exact .inr (.inr ⟨h1,q⟩)
   ·exact absurd q h2
theorem putI_up {l:List D_Inst} (h:UpI l) (x:D_Inst):UpI (putI l x):=by
 unfold putI
 refine List.pairwise_append.2 ⟨h.filter _,List.pairwise_cons.2 ⟨fun z hz=>(List.mem_filter.1 hz).2,h.filter _⟩,fun a ha b hb=>?_⟩
 have h1:=(List.mem_filter.1 ha).2
 rcases List.mem_cons.1 hb with rfl | hb
 ·exact h1
 ·exact idLt_sto.tr _ _ _ h1 (List.mem_filter.1 hb).2
theorem putI_ok {l:List D_Inst} (h:instsOkB l=true) {x:D_Inst} (hx:instOkB x=true):instsOkB (putI l x)=true:=by
 obtain ⟨h1,h2⟩:=instsOk_facts h
 refine instsOk_of (fun y hy=>?_) (putI_up h2 x)
 rcases putI_mem.1 hy with rfl | ⟨hy,_⟩
 ·exact hx
 ·exact h1 y hy
theorem UpI.nodup {l:List D_Inst} (h:UpI l):l.Nodup:=by
 rw [List.nodup_iff_pairwise_ne]
 exact h.imp fun {a b} hab e=>by rw [e,idLt_irr] at hab;cases hab
theorem UpI.sorted {l:List D_Inst} (h:UpI l):l.Pairwise fun a b=>idLt b.1 a.1=false:=h.imp fun {a b} hab=>idLt_asym hab
theorem UpI.tot {l:List D_Inst} (h:UpI l) {a b:D_Inst} (ha:a∈l) (hb:b∈l):idLt a.1 b.1=true∨idLt b.1 a.1=true∨a=b:=by
 obtain ⟨i,hi,rfl⟩:=List.mem_iff_getElem.1 ha
 obtain ⟨j,hj,rfl⟩:=List.mem_iff_getElem.1 hb
 rcases Nat.lt_trichotomy i j with q | q | q
 ·exact .inl (List.pairwise_iff_getElem.1 h i j hi hj q)
 ·subst q;exact .inr (.inr rfl)
 ·exact .inr (.inl (List.pairwise_iff_getElem.1 h j i hj hi q))
theorem sw0I:SW0 fun a b:D_Inst=>idLt a.1 b.1 where
 irrefl x:=idLt_irr _
 trans x y z:=idLt_sto.tr _ _ _
 ntrans x y z:=(sw0_of idLt_sto).ntrans _ _ _
theorem sortI_eq {m r:List D_Inst} (hr:UpI r) (hp:m.Perm r) (hl:m.length≤1000):sortFn m (fun z0 z1=>i_InstPut_c1 z0 z1)=some r:=by
 have hf:∀ x y:D_Inst,∃ v,i_InstPut_c1 x y=some v∧decide (v < 0)=idLt x.1 y.1:=fun x y=>by
  obtain ⟨c,h1,h2⟩:=compareIds_lt x.1 y.1
  refine ⟨c,?_,h2⟩
  unfold i_InstPut_c1
  rw [show i_compareIds (x.1.1,x.1.2) (y.1.1,y.1.2)=some c from h1];rfl
 have e:(fun x y:D_Inst=>decide ((i_InstPut_c1 x y).getD 0 < 0))=fun x y=>idLt x.1 y.1:=by
  funext x y
  obtain ⟨v,h1,h2⟩:=hf x y
  rw [h1];exact h2
 unfold sortFn
 rw [e,if_pos ⟨fun x y=>(hf x y).imp fun v hv=>hv.1,sw0I⟩]
 have ht:∀ a b,a∈m→b∈m→idLt a.1 b.1=true∨idLt b.1 a.1=true∨a=b:=fun a b ha hb=>hr.tot (hp.mem_iff.1 ha) (hp.mem_iff.1 hb)
 rw [sortD_eq (by omega) ht]
 refine congrArg some (sorted_one ((isort_perm _ m).trans hp) (isort_sorted sw0I m) hr.sorted fun a b ha hb=>?_)
 exact ht a b ((isort_perm _ m).mem_iff.1 ha) ((isort_perm _ m).mem_iff.1 hb)
theorem set_put {l:List D_Inst} (h:UpI l) {k:Nat} {y x:D_Inst} (hk:l[k]?=some y) (he:y.1=x.1):l.set k x=putI l x:=by
 obtain ⟨h1,h2⟩:=List.getElem?_eq_some_iff.1 hk
 have hs:l=l.take k++y::l.drop (k+1):=by
  rw [← h2,← List.drop_eq_getElem_cons h1,List.take_append_drop]
 rw [List.set_eq_take_append_cons_drop,if_pos h1]
 rw [hs] at h
 obtain ⟨p1,p2,p3⟩:=List.pairwise_append.1 h
 obtain ⟨p4,p5⟩:=List.pairwise_cons.1 p2
 unfold putI
 conv=>rhs;rw [hs]
 have f1:∀ a,a∈l.take k→idLt a.1 x.1=true:=fun a ha=>by rw [← he];exact p3 a ha y (List.mem_cons_self ..)
 have f2:∀ a,a∈l.drop (k+1)→idLt x.1 a.1=true:=fun a ha=>by rw [← he];exact p4 a ha
 have f3:idLt y.1 x.1=false:=by rw [he,idLt_irr]
 have f4:idLt x.1 y.1=false:=by rw [he,idLt_irr]
 rw [List.filter_append,List.filter_append,List.filter_cons,List.filter_cons,if_neg (by simp [f3]),if_neg (by simp [f4]),List.filter_eq_self.2 f1,List.filter_eq_self.2 f2,
  List.filter_eq_nil_iff.2 (fun a ha=>by simp [idLt_asym (f2 a ha)]),List.filter_eq_nil_iff.2 (fun a ha=>by simp [idLt_asym (f1 a ha)])]
 simp
theorem add_perm {l:List D_Inst} (h:UpI l) {x:D_Inst} (hn:∀ y,y∈l→y.1≠x.1):(l++[x]).Perm (putI l x):=by
 have h1:(l++[x]).Nodup:=List.nodup_append.2 ⟨h.nodup,by simp,fun a ha b hb=>by
  rw [List.mem_singleton] at hb;subst hb
  exact fun e=>hn a ha (by rw [e])⟩
 refine (List.perm_ext_iff_of_nodup h1 (putI_up h x).nodup).2 fun a=>?_
 rw [putI_mem,List.mem_append,List.mem_singleton]
 constructor
 ·rintro (q | q)
  ·exact .inr ⟨q,hn a q⟩
  ·exact .inl q
 ·rintro (q | ⟨q,_⟩)
  ·exact .inr q
  ·exact .inl q
end Go.Proofs.SL
namespace Go.Proofs.SL
open Go
theorem Ok_put {l:List D_Inst} {x:D_Inst} (h:Ok.ok l) (hx:Ok.ok x) (hl:l.length≤1000):Ok.ok (putI l x):=by
 refine ⟨?_,fun y hy=>?_⟩
 ·unfold putI
  have h1:=List.length_filter_le (fun y:D_Inst=>idLt y.1 x.1) l
  have h2:=List.length_filter_le (fun y:D_Inst=>idLt x.1 y.1) l
  simp only [List.length_append,List.length_cons]
  omega
 ·rcases putI_mem.1 hy with rfl | ⟨hy,_⟩
  ·exact hx
  ·exact h.2 y hy
theorem i_InstPut_eq {l:List D_Inst} {x:D_Inst} (ho:Ok.ok l) (hx:Ok.ok x) (h:instsOkB l=true) (hxo:instOkB x=true) (hs:smallL l) (hsx:smallI x):i_InstPut l x=some (putI l x):=by
 have hl:=insts_len h
 have hr:UpI (putI l x):=putI_up (instsOk_facts h).2 x
 have hk:i_InstsOk (putI l x)=some true:=by rw [i_InstsOk_eq (Ok_put ho hx (by omega)),putI_ok h hxo]
 unfold i_InstPut
 rw [i_InstsOk_eq ho,h,Option.bind_some,Bool.not_true,cond_false,i_copyInsts_eq (by omega) hs,Option.bind_some,show i_instAt l (x.1.1,x.1.2)=_ from i_instAt_eq (by omega) x.1,Option.bind_some,show i_copyInst _=some x from i_copyInst_eq hsx]
 rcases firstI_opt (fun y:D_Inst=>idEq y.1 x.1) l with ⟨h1,h2⟩ | ⟨k,y,h1,h2,h3⟩
 ·rw [h1,show decide ((0:Int)≤-1)=false from rfl,cond_false,Option.bind_some]
  have hn:∀ y,y∈l→y.1≠x.1:=fun y hy e=>by
   have:=List.find?_eq_none.1 h2 y hy
   rw [idEq_dec,e] at this
   simp at this
  rw [appP_ok (by simp;omega),Option.bind_some]
  have:=sortI_eq hr (add_perm (instsOk_facts h).2 hn) (by simp;omega)
  rw [show sortFn (l++[x]) (fun z0 z1=>i_InstPut_c1 z0 z1)=some (putI l x) from this,Option.bind_some,hk,Option.bind_some,Bool.not_true,cond_false]
 ·rw [h1,show decide ((0:Int)≤(k:Int))=true from decide_eq_true (by omega),cond_true,Option.bind_some,idx_nat,h2,Option.bind_some,Option.bind_some]
  have he:y.1=x.1:=by
   have:=List.find?_some h3
   rw [idEq_dec] at this
   exact of_decide_eq_true this
  have hset:=set_put (instsOk_facts h).2 h2 he
  have:=sortI_eq (m:=l.set k x) hr (by rw [hset]) (by simp;omega)
  rw [Int.toNat_natCast,show sortFn (l.set k x) (fun z0 z1=>i_InstPut_c1 z0 z1)=some (putI l x) from this,Option.bind_some,hk,Option.bind_some,Bool.not_true,cond_false]
theorem i_put_eq {d:D_ENode} {x:D_Inst} (ho:Ok.ok d.2.2.1) (hx:Ok.ok x) (h:instsOkB d.2.2.1=true) (hs:smallL d.2.2.1) (hsx:smallI x) :
  i_ENode_put d x=some (if instOkB x then (true,(d.1,d.2.1,putI d.2.2.1 x,d.2.2.2)) else (false,d)):=by
 unfold i_ENode_put
 rw [show i_instOk _=_ from i_instOk_eq (x:=x) hx,Option.bind_some]
 cases hxo:instOkB x with
 | true=>rw [Bool.not_true,cond_false,if_pos rfl,show i_InstPut d.2.2.1 _=_ from i_InstPut_eq (x:=x) ho hx h hxo hs hsx];rfl
 | false=>rw [Bool.not_false,cond_true,if_neg Bool.false_ne_true]
def toMsg (me to:Int) (m:D_EMsg):D_EMsg:=(m.1,me,to,m.2.2.2.1,m.2.2.2.2.1,m.2.2.2.2.2.1,m.2.2.2.2.2.2.1,m.2.2.2.2.2.2.2.1,m.2.2.2.2.2.2.2.2.1,(-1),m.2.2.2.2.2.2.2.2.2.2)
def bothN (me:Int) (m:D_EMsg) (k:Nat):List D_EMsg:=((List.range k).filter fun t:Nat=>!decide ((t:Int)=me)).map fun t:Nat=>toMsg me (t:Int) m
def bothD (me:Int) (m:D_EMsg):List D_EMsg:=bothN me m 3
theorem bothN_succ (me:Int) (m:D_EMsg) (k:Nat):bothN me m (k+1)=if (k:Int)=me then bothN me m k else bothN me m k++[toMsg me (k:Int) m]:=by
 unfold bothN
 rw [List.range_succ,List.filter_append,List.map_append]
 by_cases h:(k:Int)=me
 ·rw [if_pos h,List.filter_cons,if_neg (by simp [h])];simp
 ·rw [if_neg h,List.filter_cons,if_pos (by simp [h])];rfl
theorem bothN_len (me:Int) (m:D_EMsg) (k:Nat):(bothN me m k).length≤k:=by
 unfold bothN
 rw [List.length_map]
 exact Nat.le_trans (List.length_filter_le _ _) (by simp)
def smallM (m:D_EMsg):Prop:=m.2.2.2.2.2.1.2.2.2.2.2.2.2.length≤1048576∧m.2.2.2.2.2.2.2.1.length≤1048576
theorem i_copyEMsg_eq {m:D_EMsg} (h:smallM m):i_copyEMsg m=some m:=by
 unfold i_copyEMsg
 have:=h.2
 rw [show i_copyCmd _=some m.2.2.2.2.2.1 from i_copyCmd_eq h.1,Option.bind_some,i_copyIds_eq (by omega)];rfl
theorem i_sent_eq (d:D_ENode) {m:D_EMsg} (h:smallM m) (hv:m.2.2.2.2.2.2.2.2.2.1=-1):i_ENode_sent d m=some (bothD d.1 m):=by
 unfold i_ENode_sent
 rw [Option.bind_some]
 refine whileP_is (fun s:List D_EMsg×Int=>∃ k:Nat,k≤3∧s=(bothN d.1 m k,(k:Int))) (fun s=>(3 - s.2).toNat) ?_ ⟨0,by omega,rfl⟩
 rintro _ ⟨k,hk,rfl⟩
 dsimp only
 by_cases h3:k < 3
 ·left
  rw [show decide ((k:Int) < 3)=true from decide_eq_true (by omega),cond_true,wrap_succ (by omega)]
  have hb:=bothN_len d.1 m k
  by_cases hm:(k:Int)=d.1
  ·rw [decide_eq_true hm,Bool.not_true,cond_false]
   exact ⟨_,rfl,⟨k+1,h3,by rw [bothN_succ,if_pos hm]⟩,by omega⟩
  ·rw [decide_eq_false hm,Bool.not_false,cond_true,show i_copyEMsg _=some m from i_copyEMsg_eq h,Option.bind_some,appP_ok (by simp;omega),Option.bind_some]
   refine ⟨_,rfl,⟨k+1,h3,?_⟩,by dsimp only;omega⟩
   rw [bothN_succ,if_neg hm]
   unfold toMsg
   rw [hv]
 ·right
  have:k=3:=by omega
  subst this
  rfl
def dropL (ls:List D_Lead) (id:D_Id):List D_Lead:=ls.filter fun y=>!idEq y.1 id
theorem i_drop_eq {d:D_ENode} (h:d.2.2.2.length≤1048576) (id:D_Id):i_ENode_drop d id=some (d.1,d.2.1,d.2.2.1,dropL d.2.2.2 id):=by
 unfold i_ENode_drop
 rw [show chkP (decide (d.2.2.2.length≤4294967296))=some () by rw [decide_eq_true (by omega)];rfl]
 rfl
def putLd (ls:List D_Lead) (l:D_Lead):List D_Lead:=match ls.findIdx? fun y=>idEq y.1 l.1 with | some k=>ls.set k l | none=>ls++[l]
end Go.Proofs.SL
