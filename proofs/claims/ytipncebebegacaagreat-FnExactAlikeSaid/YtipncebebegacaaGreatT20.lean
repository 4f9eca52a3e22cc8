/- The texts of the proof, part 20: the base, walks of functions, plain Lean. -/
import Derived.Test.YtipncebebegacaaGreatT5
import Derived.Test.YtipncebebegacaaGreatT19
namespace Go.Proofs.SL
open Go
namespace Gr
variable {ι:Type}
inductive Rch (dp:ι→List ι):ι→ι→Prop
 | one {x y:ι}:y∈dp x→Rch dp x y
 | cons {x y z:ι}:y∈dp x→Rch dp y z→Rch dp x z
theorem Rch.trans {dp:ι→List ι} {x y z:ι} (h:Rch dp x y) (k:Rch dp y z):Rch dp x z:=by
 induction h with
 | one h=>exact .cons h k
 | cons h _ ih=>exact .cons h (ih k)
theorem Rch.snoc {dp:ι→List ι} {x y z:ι} (h:Rch dp x y) (k:z∈dp y):Rch dp x z:=h.trans (.one k)
theorem Rch.closed {dp:ι→List ι} {out:List ι} (hc:∀ z,z∈out→∀ y,y∈dp z→y∈out) {x y:ι} (h:Rch dp x y) (hx:∀ y,y∈dp x→y∈out):y∈out:=by
 induction h with
 | one h=>exact hx _ h
 | cons h _ ih=>exact ih (hc _ (hx _ h))
section
variable [DecidableEq ι]
def comps (rdy:ι→Bool) (part:ι→List ι):List (List ι)→List ι→List (List ι)
 | _,[]=>[]
 | S,x::xs=>if rdy x&&!(S.any fun p=>decide (x∈p)) then part x::comps rdy part (part x::S) xs else comps rdy part S xs
structure PartOk (rdy:ι→Bool) (part:ι→List ι) (ids:List ι):Prop where
 self:∀ x,x∈ids→rdy x=true→x∈part x
 mem:∀ x,x∈ids→rdy x=true→∀ y,y∈part x→y∈ids∧rdy y=true∧part y=part x
theorem comps_mem {rdy:ι→Bool} {part:ι→List ι}:∀ (xs:List ι) (S:List (List ι)) (p:List ι),p∈comps rdy part S xs→∃ x,x∈xs∧rdy x=true∧p=part x∧∀ q,q∈S→¬ x∈q
 | [],_,p,h=>by cases h
 | x::xs,S,p,h=>by
  unfold comps at h
  split at h
  ·rename_i hc
   rw [Bool.and_eq_true,Bool.not_eq_true'] at hc
   rcases List.mem_cons.1 h with rfl | h
   ·refine ⟨x,List.mem_cons_self ..,hc.1,rfl,fun q hq hx=>?_⟩
    have:=hc.2
    rw [List.any_eq_false] at this
    exact this q hq (decide_eq_true hx)
   ·obtain ⟨y,h1,h2,h3,h4⟩:=comps_mem xs _ p h
    exact ⟨y,List.mem_cons_of_mem _ h1,h2,h3,fun q hq=>h4 q (List.mem_cons_of_mem _ hq)⟩
  ·obtain ⟨y,h1,h2,h3,h4⟩:=comps_mem xs S p h
   exact ⟨y,List.mem_cons_of_mem _ h1,h2,h3,h4⟩
theorem comps_nodup {rdy:ι→Bool} {part:ι→List ι} {ids:List ι} (hk:PartOk rdy part ids):∀ (xs:List ι) (S:List (List ι)),(∀ x,x∈xs→x∈ids)→(comps rdy part S xs).Nodup
 | [],_,_=>List.nodup_nil
 | x::xs,S,hs=>by
  unfold comps
  split
  ·rename_i hc
   rw [Bool.and_eq_true] at hc
   refine List.nodup_cons.2 ⟨fun hm=>?_,comps_nodup hk xs _ fun y hy=>hs y (List.mem_cons_of_mem _ hy)⟩
   obtain ⟨y,h1,h2,h3,h4⟩:=comps_mem xs _ _ hm
   have hy:=hk.self y (hs y (List.mem_cons_of_mem _ h1)) h2
   rw [← h3] at hy
   exact h4 _ (List.mem_cons_self ..) hy
  ·exact comps_nodup hk xs S fun y hy=>hs y (List.mem_cons_of_mem _ hy)
theorem find_first {rdy:ι→Bool} {part:ι→List ι} {ids:List ι} (hk:PartOk rdy part ids) {out:List (List ι)} (hout:∀ p,p∈out→∃ z,z∈ids∧rdy z=true∧p=part z) (free:List ι→Bool) :
  ∀ (xs:List ι) (S:List (List ι)),(∀ x,x∈xs→x∈ids)→(∀ p,p∈S→(∃ z,z∈ids∧rdy z=true∧p=part z)∧(p∈out∨free p=false)) →
   (xs.find? fun x=>!decide (x∈out.flatten)&&rdy x&&free (part x)).map part=((comps rdy part S xs).filter fun p=>!decide (p∈out)).find? free
 | [],_,_,_=>rfl
 | x::xs,S,hs,hS=>by
  have hxi:=hs x (List.mem_cons_self ..)
  have hs':∀ y,y∈xs→y∈ids:=fun y hy=>hs y (List.mem_cons_of_mem _ hy)
  have told:rdy x=true→(x∈out.flatten↔part x∈out):=fun hr=>by
   rw [List.mem_flatten]
   constructor
   ·rintro ⟨p,hp,hx⟩
    obtain ⟨z,z1,z2,rfl⟩:=hout p hp
    rw [(hk.mem z z1 z2 x hx).2.2];exact hp
   ·intro hp
    exact ⟨_,hp,hk.self x hxi hr⟩
  unfold comps
  cases hr:rdy x with
  | false =>
   rw [if_neg (by simp),List.find?_cons_of_neg (by simp [hr])]
   exact find_first hk hout free xs S hs' hS
  | true =>
   have ht:=told hr
   by_cases hkn:(S.any fun p=>decide (x∈p))=true
   ·rw [if_neg (by simp [hkn])]
    obtain ⟨p,hp,hx⟩:=List.any_eq_true.1 hkn
    have hx:x∈p:=of_decide_eq_true hx
    obtain ⟨⟨z,z1,z2,rfl⟩,hz⟩:=hS p hp
    have e:=(hk.mem z z1 z2 x hx).2.2
    rw [List.find?_cons_of_neg]
    ·exact find_first hk hout free xs S hs' hS
    ·rcases hz with hz | hz
     ·rw [← e] at hz;simp [ht.2 hz]
     ·rw [← e] at hz;simp [hz]
   ·have hkn:(S.any fun p=>decide (x∈p))=false:=by simpa using hkn
    rw [if_pos (by simp [hkn])]
    have hS':(part x∈out∨free (part x)=false)→∀ p,p∈part x::S→(∃ z,z∈ids∧rdy z=true∧p=part z)∧(p∈out∨free p=false):=fun h p hp=>by
     rcases List.mem_cons.1 hp with rfl | hp
     ·exact ⟨⟨x,hxi,hr,rfl⟩,h⟩
     ·exact hS p hp
    by_cases ho:part x∈out
    ·rw [List.filter_cons_of_neg (by simp [ho]),List.find?_cons_of_neg (by simp [ht.2 ho])]
     exact find_first hk hout free xs _ hs' (hS' (.inl ho))
    ·rw [List.filter_cons_of_pos (by simp [ho])]
     have hno:¬ x∈out.flatten:=fun h=>ho (ht.1 h)
     cases hf:free (part x) with
     | true=>rw [List.find?_cons_of_pos (by simp [hno,hr,hf]),List.find?_cons_of_pos hf];rfl
     | false =>
      rw [List.find?_cons_of_neg (by simp [hf]),List.find?_cons_of_neg (by simp [hf])]
      exact find_first hk hout free xs _ hs' (hS' (.inr hf))
theorem erase_filter {L out:List (List ι)} (hn:L.Nodup) {k:Nat} {p:List ι} (hk:(L.filter fun p=>!decide (p∈out))[k]?=some p) :
  (L.filter fun p=>!decide (p∈out)).eraseIdx k=L.filter fun q=>!decide (q∈out++[p]):=by
 have hn2:(L.filter fun p=>!decide (p∈out)).Nodup:=hn.filter _
 have e:(L.filter fun q=>!decide (q∈out++[p]))=(L.filter fun p=>!decide (p∈out)).filter fun q=>!decide (q=p):=by
  rw [List.filter_filter]
  refine List.filter_congr fun q _=>?_
  rw [Bool.eq_iff_iff]
  simp only [List.mem_append,List.mem_singleton,Bool.not_eq_true',decide_eq_false_iff_not,Bool.and_eq_true,not_or]
  exact And.comm
 rw [e]
 generalize (L.filter fun p=>!decide (p∈out))=M at hn2 hk
 clear e
 induction M generalizing k with
 | nil=>simp at hk
 | cons a M ih =>
  obtain ⟨n1,n2⟩:=List.nodup_cons.1 hn2
  cases k with
  | zero =>
   simp only [List.getElem?_cons_zero,Option.some.injEq] at hk
   subst hk
   rw [List.eraseIdx_cons_zero,List.filter_cons_of_neg (by simp),List.filter_eq_self.2 fun q hq=>?_]
   simp only [Bool.not_eq_true',decide_eq_false_iff_not]
   intro e;rw [e] at hq;exact n1 hq
  | succ k =>
   rw [List.getElem?_cons_succ] at hk
   rw [List.eraseIdx_cons_succ,ih n2 hk,List.filter_cons_of_pos]
   simp only [Bool.not_eq_true',decide_eq_false_iff_not]
   intro e;rw [e] at n1;exact n1 (List.mem_of_getElem? hk)
end
end Gr
end Go.Proofs.SL
namespace Go.Proofs.SL
open Go
namespace Gr
variable {ι:Type}
structure STO (lt:ι→ι→Bool):Prop where
 irr:∀ a,lt a a=false
 tr:∀ a b c,lt a b=true→lt b c=true→lt a c=true
 tot:∀ a b,lt a b=true∨lt b a=true∨a=b
theorem STO.asy {lt:ι→ι→Bool} (h:STO lt) {a b:ι} (h1:lt a b=true):lt b a=false:=by
 cases h2:lt b a with
 | false=>rfl
 | true=>have:=h.tr _ _ _ h1 h2;rw [h.irr] at this;cases this
theorem STO.ne {lt:ι→ι→Bool} (h:STO lt) {a b:ι} (h1:lt a b=true):a≠b:=fun e=>by rw [e,h.irr] at h1;cases h1
abbrev Up (lt:ι→ι→Bool) (l:List ι):Prop:=l.Pairwise fun a b=>lt a b=true
theorem up_ext {lt:ι→ι→Bool} (h:STO lt):∀ {l m:List ι},Up lt l→Up lt m→(∀ x,x∈l↔x∈m)→l=m
 | [],[],_,_,_=>rfl
 | [],b::m,_,_,e=>by have:=(e b).2 (List.mem_cons_self ..);cases this
 | a::l,[],_,_,e=>by have:=(e a).1 (List.mem_cons_self ..);cases this
 | a::l,b::m,hl,hm,e=>by
  obtain ⟨l1,l2⟩:=List.pairwise_cons.1 hl
  obtain ⟨m1,m2⟩:=List.pairwise_cons.1 hm
  have eab:a=b:=by
   rcases List.mem_cons.1 ((e a).1 (List.mem_cons_self ..)) with q | q
   ·exact q
   ·rcases List.mem_cons.1 ((e b).2 (List.mem_cons_self ..)) with r | r
    ·exact r.symm
    ·have:=h.asy (m1 a q);rw [l1 b r] at this;cases this
  subst eab
  congr 1
  refine up_ext h l2 m2 fun x=>⟨fun hx=>?_,fun hx=>?_⟩
  ·rcases List.mem_cons.1 ((e x).1 (List.mem_cons_of_mem _ hx)) with q | q
   ·have:=h.ne (l1 x hx);exact (this q.symm).elim
   ·exact q
  ·rcases List.mem_cons.1 ((e x).2 (List.mem_cons_of_mem _ hx)) with q | q
   ·have:=h.ne (m1 x hx);exact (this q.symm).elim
   ·exact q
theorem up_nodup {lt:ι→ι→Bool} (h:STO lt) {l:List ι} (hl:Up lt l):l.Nodup:=hl.imp fun {_ _} hab=>h.ne hab
theorem takeWhile_lt {lt:ι→ι→Bool} {y:ι}:∀ {a:List ι} {x:ι},x∈a.takeWhile (fun x=>lt x y)→lt x y=true
 | z::a,x,hx=>by
  rw [List.takeWhile_cons] at hx
  split at hx
  ·rename_i hz
   rcases List.mem_cons.1 hx with rfl | hx
   ·exact hz
   ·exact takeWhile_lt hx
  ·cases hx
structure BI (dp:ι→List ι) (ok:ι→Prop) (id:ι) (out q:List ι):Prop where
 nd:out.Nodup
 val:∀ x,x∈out→ok x
 rch:∀ x,x∈out→Rch dp id x
 que:∀ x,x∈q→x=id∨x∈out
 clo:∀ x,x=id∨x∈out→¬ x∈q→∀ y,y∈dp x→y∈out
theorem BI.start (dp:ι→List ι) (ok:ι→Prop) (id:ι):BI dp ok id [] [id] where
 nd:=List.nodup_nil
 val x hx:=by cases hx
 rch x hx:=by cases hx
 que x hx:=.inl (List.mem_singleton.1 hx)
 clo x hx hn:=by
  rcases hx with rfl | hx
  ·exact (hn (List.mem_singleton.2 rfl)).elim
  ·cases hx
theorem BI.done {dp:ι→List ι} {ok:ι→Prop} {id:ι} {out:List ι} (h:BI dp ok id out []):∀ y,y∈out↔Rch dp id y:=fun y =>
 ⟨h.rch y,fun hy=>hy.closed (fun z hz w hw=>h.clo z (.inr hz) (by simp) w hw) (fun w hw=>h.clo id (.inl rfl) (by simp) w hw)⟩
section
variable [DecidableEq ι]
def join (lt:ι→ι→Bool):List ι→List ι→List ι
 | a,[]=>a
 | a,y::ys=>a.takeWhile (fun x=>lt x y)++y::join lt (match a.dropWhile (fun x=>lt x y) with | []=>[] | z::zs=>if z=y then zs else z::zs) ys
def past (lt:ι→ι→Bool) (a:List ι) (y:ι):List ι:=match a.dropWhile (fun x=>lt x y) with | []=>[] | z::zs=>if z=y then zs else z::zs
theorem past_facts {lt:ι→ι→Bool} (h:STO lt) {y:ι}:∀ {a:List ι},Up lt a→Up lt (past lt a y)∧(∀ x,x∈past lt a y→lt y x=true∧x∈a)∧∀ x,x∈a→x∈a.takeWhile (fun x=>lt x y)∨x=y∨x∈past lt a y
 | [],_=>⟨List.Pairwise.nil,fun x hx=>(by cases hx),fun x hx=>by cases hx⟩
 | z::a,ha=>by
  obtain ⟨a1,a2⟩:=List.pairwise_cons.1 ha
  cases hz:lt z y with
  | true =>
   obtain ⟨i1,i2,i3⟩:=past_facts h (y:=y) a2
   have e:past lt (z::a) y=past lt a y:=by unfold past;rw [List.dropWhile_cons,if_pos hz]
   rw [e,List.takeWhile_cons,if_pos hz]
   refine ⟨i1,fun x hx=>⟨(i2 x hx).1,List.mem_cons_of_mem _ (i2 x hx).2⟩,fun x hx=>?_⟩
   rcases List.mem_cons.1 hx with rfl | hx
   ·exact .inl (List.mem_cons_self ..)
   ·rcases i3 x hx with q | q
    ·exact .inl (List.mem_cons_of_mem _ q)
    ·exact .inr q
  | false =>
   have e:past lt (z::a) y=if z=y then a else z::a:=by unfold past;rw [List.dropWhile_cons,if_neg (by simp [hz])]
   rw [List.takeWhile_cons,if_neg (by simp [hz]),e]
   by_cases hzy:z=y
   ·subst hzy
    rw [if_pos rfl]
    refine ⟨a2,fun x hx=>⟨a1 x hx,List.mem_cons_of_mem _ hx⟩,fun x hx=>?_⟩
    rcases List.mem_cons.1 hx with rfl | hx
    ·exact .inr (.inl rfl)
    ·exact .inr (.inr hx)
   ·rw [if_neg hzy]
    have hyz:lt y z=true:=by
     rcases h.tot y z with q | q | q
     ·exact q
     ·rw [hz] at q;cases q
     ·exact (hzy q.symm).elim
    refine ⟨ha,fun x hx=>⟨?_,hx⟩,fun x hx=>.inr (.inr hx)⟩
    rcases List.mem_cons.1 hx with rfl | hx
    ·exact hyz
    ·exact h.tr _ _ _ hyz (a1 x hx)
theorem join_cons (lt:ι→ι→Bool) (a:List ι) (y:ι) (ys:List ι):join lt a (y::ys)=a.takeWhile (fun x=>lt x y)++y::join lt (past lt a y) ys:=rfl
theorem join_facts {lt:ι→ι→Bool} (h:STO lt):∀ {b a:List ι},Up lt a→Up lt b→Up lt (join lt a b)∧∀ x,x∈join lt a b↔x∈a∨x∈b
 | [],a,ha,_=>⟨ha,fun x=>by unfold join;simp⟩
 | y::ys,a,ha,hb=>by
  obtain ⟨b1,b2⟩:=List.pairwise_cons.1 hb
  obtain ⟨p1,p2,p3⟩:=past_facts h (y:=y) ha
  obtain ⟨j1,j2⟩:=join_facts h p1 b2
  have hgt:∀ x,x∈join lt (past lt a y) ys→lt y x=true:=fun x hx=>by
   rcases (j2 x).1 hx with q | q
   ·exact (p2 x q).1
   ·exact b1 x q
  rw [join_cons]
  refine ⟨List.pairwise_append.2 ⟨ha.sublist (List.takeWhile_sublist _),List.pairwise_cons.2 ⟨hgt,j1⟩,fun x hx z hz=>?_⟩,fun x=>?_⟩
  ·have hxy:=takeWhile_lt hx
   rcases List.mem_cons.1 hz with rfl | hz
   ·exact hxy
   ·exact h.tr _ _ _ hxy (hgt z hz)
  ·rw [List.mem_append,List.mem_cons,List.mem_cons,j2]
   constructor
   ·rintro (q | q | q | q)
    ·exact .inl ((List.takeWhile_sublist _).subset q)
    ·exact .inr (.inl q)
    ·exact .inl (p2 x q).2
    ·exact .inr (.inr q)
   ·rintro (q | q | q)
    ·rcases p3 x q with r | r | r
     ·exact .inl r
     ·exact .inr (.inl r)
     ·exact .inr (.inr (.inl r))
    ·exact .inr (.inl q)
    ·exact .inr (.inr (.inr q))
def nextL (lt:ι→ι→Bool) (dp:ι→List ι) (out:List ι):List ι:=out.foldl (fun n x=>join lt n (dp x)) out
def rounds (lt:ι→ι→Bool) (dp:ι→List ι):Nat→List ι→List ι
 | 0,out=>out
 | n+1,out=>if (nextL lt dp out).length=out.length then out else rounds lt dp n (nextL lt dp out)
theorem foldJoin {lt:ι→ι→Bool} (h:STO lt) {dp:ι→List ι} (hd:∀ x,Up lt (dp x)):∀ (xs n:List ι),Up lt n→Up lt (xs.foldl (fun n x=>join lt n (dp x)) n)∧∀ y,y∈xs.foldl (fun n x=>join lt n (dp x)) n↔y∈n∨∃ x,x∈xs∧y∈dp x
 | [],n,hn=>⟨hn,fun y=>by simp⟩
 | x::xs,n,hn=>by
  obtain ⟨j1,j2⟩:=join_facts h hn (hd x)
  obtain ⟨f1,f2⟩:=foldJoin h hd xs _ j1
  refine ⟨f1,fun y=>?_⟩
  rw [List.foldl_cons,f2,j2]
  constructor
  ·rintro ((q | q) | ⟨z,hz,q⟩)
   ·exact .inl q
   ·exact .inr ⟨x,List.mem_cons_self ..,q⟩
   ·exact .inr ⟨z,List.mem_cons_of_mem _ hz,q⟩
  ·rintro (q | ⟨z,hz,q⟩)
   ·exact .inl (.inl q)
   ·rcases List.mem_cons.1 hz with rfl | hz
    ·exact .inl (.inr q)
    ·exact .inr ⟨z,hz,q⟩
theorem up_sub_len {lt:ι→ι→Bool} (h:STO lt) {l m:List ι} (hl:Up lt l) (hs:∀ x,x∈l→x∈m):l.length≤m.length:=by
 have hn:=up_nodup h hl
 clear hl
 induction l generalizing m with
 | nil=>simp
 | cons a l ih =>
  obtain ⟨n1,n2⟩:=List.nodup_cons.1 hn
  have ha:a∈m:=hs a (List.mem_cons_self ..)
  have:=ih (m:=m.erase a) (fun x hx=>(List.mem_erase_of_ne (fun e=>n1 (by rw [← e];exact hx))).2 (hs x (List.mem_cons_of_mem _ hx))) n2
  rw [List.length_erase_of_mem ha] at this
  have hp:=List.length_pos_of_mem ha
  simp only [List.length_cons];omega
theorem up_same {lt:ι→ι→Bool} (h:STO lt) {l m:List ι} (hl:Up lt l) (hm:Up lt m) (hs:∀ x,x∈l→x∈m) (hlen:m.length≤l.length):∀ x,x∈m→x∈l:=by
 intro x hx
 refine Classical.byContradiction fun hn=>?_
 have:=up_sub_len h hl (m:=m.erase x) fun y hy=>(List.mem_erase_of_ne (fun e=>hn (by rw [← e];exact hy))).2 (hs y hy)
 rw [List.length_erase_of_mem hx] at this
 have hp:=List.length_pos_of_mem hx
 omega
structure ROk (lt:ι→ι→Bool) (dp:ι→List ι) (ok:ι→Prop) (N:Nat):Prop where
 sto:STO lt
 up:∀ x,Up lt (dp x)
 val:∀ x y,y∈dp x→ok y
 len:∀ l:List ι,l.Nodup→(∀ x,x∈l→ok x)→l.length≤N
theorem rounds_closed {lt:ι→ι→Bool} {dp:ι→List ι} {ok:ι→Prop} {N:Nat} (H:ROk lt dp ok N):∀ (n:Nat) (out:List ι),Up lt out→(∀ x,x∈out→ok x)→(out=[]∨N < out.length+n) →
  (Up lt (rounds lt dp n out)∧(∀ x,x∈out→x∈rounds lt dp n out)∧(∀ x,x∈rounds lt dp n out→∀ y,y∈dp x→y∈rounds lt dp n out)∧∀ x,x∈rounds lt dp n out→x∈out∨∃ z,z∈out∧Rch dp z x)
 | 0,out,hu,hk,hn=>by
  rcases hn with rfl | hn
  ·exact ⟨hu,fun x hx=>hx,fun x hx=>(by cases hx),fun x hx=>.inl hx⟩
  ·have:=H.len out (up_nodup H.sto hu) hk;omega
 | n+1,out,hu,hk,hn=>by
  obtain ⟨f1,f2⟩:=foldJoin H.sto H.up out out hu
  have hsub:∀ x,x∈out→x∈nextL lt dp out:=fun x hx=>(f2 x).2 (.inl hx)
  unfold rounds
  by_cases hl:(nextL lt dp out).length=out.length
  ·rw [if_pos hl]
   refine ⟨hu,fun x hx=>hx,fun x hx y hy=>?_,fun x hx=>.inl hx⟩
   exact up_same H.sto hu f1 hsub (by show (nextL lt dp out).length≤_;omega) y ((f2 y).2 (.inr ⟨x,hx,hy⟩))
  ·rw [if_neg hl]
   have hge:out.length≤(nextL lt dp out).length:=up_sub_len H.sto hu hsub
   have hk':∀ x,x∈nextL lt dp out→ok x:=fun x hx=>by
    rcases (f2 x).1 hx with q | ⟨z,_,q⟩
    ·exact hk x q
    ·exact H.val z x q
   have hn':nextL lt dp out=[]∨N < (nextL lt dp out).length+n:=by
    rcases hn with rfl | hn
    ·exact .inl rfl
    ·exact .inr (by omega)
   obtain ⟨r1,r2,r3,r4⟩:=rounds_closed H n (nextL lt dp out) f1 hk' hn'
   refine ⟨r1,fun x hx=>r2 x (hsub x hx),r3,fun x hx=>?_⟩
   rcases r4 x hx with q | ⟨z,hz,q⟩
   ·rcases (f2 x).1 q with r | ⟨z,hz,r⟩
    ·exact .inl r
    ·exact .inr ⟨z,hz,.one r⟩
   ·rcases (f2 z).1 hz with r | ⟨u,hu',r⟩
    ·exact .inr ⟨z,r,q⟩
    ·exact .inr ⟨u,hu',.cons r q⟩
theorem rounds_reach {lt:ι→ι→Bool} {dp:ι→List ι} {ok:ι→Prop} {N:Nat} (H:ROk lt dp ok N) (id:ι):Up lt (rounds lt dp N (dp id))∧∀ y,y∈rounds lt dp N (dp id)↔Rch dp id y:=by
 have hn:dp id=[]∨N < (dp id).length+N:=by
  cases dp id with
  | nil=>exact .inl rfl
  | cons=>right;simp only [List.length_cons];omega
 obtain ⟨r1,r2,r3,r4⟩:=rounds_closed H N (dp id) (H.up id) (H.val id) hn
 refine ⟨r1,fun y=>⟨fun hy=>?_,fun hy=>hy.closed r3 r2⟩⟩
 rcases r4 y hy with q | ⟨z,hz,q⟩
 ·exact .one q
 ·exact .cons hz q
def push (t:List ι×List ι) (d:ι):List ι×List ι:=if d∈t.1 then t else (t.1++[d],t.2++[d])
theorem push_facts:∀ (ds:List ι) (o q:List ι),o.Nodup→∃ nw,(ds.foldl push (o,q))=(o++nw,q++nw)∧(o++nw).Nodup∧(∀ d,d∈ds→d∈o++nw)∧∀ d,d∈nw→d∈ds
 | [],o,q,h=>⟨[],by simp,by simpa using h,fun d hd=>(by cases hd),fun d hd=>by cases hd⟩
 | d::ds,o,q,h=>by
  rw [List.foldl_cons]
  by_cases hd:d∈o
  ·have e:push (o,q) d=(o,q):=if_pos hd
   rw [e]
   obtain ⟨nw,h1,h2,h3,h4⟩:=push_facts ds o q h
   refine ⟨nw,h1,h2,fun z hz=>?_,fun z hz=>List.mem_cons_of_mem _ (h4 z hz)⟩
   rcases List.mem_cons.1 hz with rfl | hz
   ·exact List.mem_append_left _ hd
   ·exact h3 z hz
  ·have e:push (o,q) d=(o++[d],q++[d]):=if_neg hd
   rw [e]
   have hnd:(o++[d]).Nodup:=List.nodup_append.2 ⟨h,by simp,fun a ha b hb=>by rw [List.mem_singleton.1 hb];intro e2;rw [e2] at ha;exact hd ha⟩
   obtain ⟨nw,h1,h2,h3,h4⟩:=push_facts ds (o++[d]) (q++[d]) hnd
   refine ⟨d::nw,by rw [h1];simp,by simpa using h2,fun z hz=>?_,fun z hz=>?_⟩
   ·rcases List.mem_cons.1 hz with rfl | hz
    ·simp
    ·have:=h3 z hz;simpa using this
   ·rcases List.mem_cons.1 hz with rfl | hz
    ·exact List.mem_cons_self ..
    ·exact List.mem_cons_of_mem _ (h4 z hz)
theorem BI.step {dp:ι→List ι} {ok:ι→Prop} (hv:∀ x y,y∈dp x→ok y) {id x:ι} {out q:List ι} (h:BI dp ok id out (x::q)) :
  BI dp ok id ((dp x).foldl push (out,q)).1 ((dp x).foldl push (out,q)).2∧out.length+((dp x).foldl push (out,q)).2.length=((dp x).foldl push (out,q)).1.length+q.length:=by
 obtain ⟨nw,e,h2,h3,h4⟩:=push_facts (dp x) out q h.nd
 rw [e]
 have hx:x=id∨x∈out:=h.que x (List.mem_cons_self ..)
 refine ⟨⟨h2,fun z hz=>?_,fun z hz=>?_,fun z hz=>?_,fun z hz hn y hy=>?_⟩,by simp only [List.length_append];omega⟩
 ·rcases List.mem_append.1 hz with hz | hz
  ·exact h.val z hz
  ·exact hv x z (h4 z hz)
 ·rcases List.mem_append.1 hz with hz | hz
  ·exact h.rch z hz
  ·rcases hx with rfl | hx
   ·exact .one (h4 z hz)
   ·exact (h.rch x hx).snoc (h4 z hz)
 ·rcases List.mem_append.1 hz with hz | hz
  ·rcases h.que z (List.mem_cons_of_mem _ hz) with r | r
   ·exact .inl r
   ·exact .inr (List.mem_append_left _ r)
  ·exact .inr (List.mem_append_right _ hz)
 ·have hn1:¬ z∈q:=fun hq=>hn (List.mem_append_left _ hq)
  have hn2:¬ z∈nw:=fun hq=>hn (List.mem_append_right _ hq)
  by_cases hzx:z=x
  ·subst hzx;exact h3 y hy
  ·have hz':z=id∨z∈out:=by
    rcases hz with r | r
    ·exact .inl r
    ·rcases List.mem_append.1 r with r | r
     ·exact .inr r
     ·exact (hn2 r).elim
   exact List.mem_append_left _ (h.clo z hz' (fun hm=>by rcases List.mem_cons.1 hm with r | r;exact hzx r;exact hn1 r) y hy)
end
end Gr
end Go.Proofs.SL
namespace Go.Proofs.SL
open Go
namespace Gr
variable {ι:Type}
def OutOk (rdy:ι→Bool) (part:ι→List ι) (ids:List ι) (out:List (List ι)):Prop:=∀ p,p∈out→∃ z,z∈ids∧rdy z=true∧p=part z
theorem OutOk.nil (rdy:ι→Bool) (part:ι→List ι) (ids:List ι):OutOk rdy part ids []:=fun p hp=>by cases hp
section
variable [DecidableEq ι]
def nextX (free:List ι→List ι→Bool) (rdy:ι→Bool) (part:ι→List ι) (ids:List ι) (out:List (List ι)):Option ι:=ids.find? fun x=>!decide (x∈out.flatten)&&rdy x&&free (part x) out.flatten
def orderS (free:List ι→List ι→Bool) (rdy:ι→Bool) (part:ι→List ι) (ids:List ι):Nat→List (List ι)→List (List ι)
 | 0,out=>out
 | n+1,out=>match nextX free rdy part ids out with
  | none=>out
  | some x=>orderS free rdy part ids n (out++[part x])
def leftL (rdy:ι→Bool) (part:ι→List ι) (ids:List ι) (out:List (List ι)):List (List ι):=(comps rdy part [] ids).filter fun p=>!decide (p∈out)
theorem next_eq {free:List ι→List ι→Bool} {rdy:ι→Bool} {part:ι→List ι} {ids:List ι} (hk:PartOk rdy part ids) {out:List (List ι)} (ho:OutOk rdy part ids out) :
  (nextX free rdy part ids out).map part=(leftL rdy part ids out).find? fun p=>free p out.flatten :=
 find_first hk ho (fun p=>free p out.flatten) ids [] (fun _ h=>h) (fun p hp=>by cases hp)
theorem next_some {free:List ι→List ι→Bool} {rdy:ι→Bool} {part:ι→List ι} {ids:List ι} {out:List (List ι)} (ho:OutOk rdy part ids out) {x:ι} (h:nextX free rdy part ids out=some x):x∈ids∧rdy x=true∧OutOk rdy part ids (out++[part x]):=by
 have h1:=List.mem_of_find?_eq_some h
 have h2:=List.find?_some h
 simp only [Bool.and_eq_true] at h2
 refine ⟨h1,h2.1.2,fun p hp=>?_⟩
 rcases List.mem_append.1 hp with hp | hp
 ·exact ho p hp
 ·exact ⟨x,h1,h2.1.2,List.mem_singleton.1 hp⟩
theorem left_step {rdy:ι→Bool} {part:ι→List ι} {ids:List ι} (hk:PartOk rdy part ids) {out:List (List ι)} {k:Nat} {p:List ι} (h:(leftL rdy part ids out)[k]?=some p):(leftL rdy part ids out).eraseIdx k=leftL rdy part ids (out++[p]) :=
 erase_filter (comps_nodup hk ids [] fun _ h=>h) h
theorem findIdx_find {α:Type} (f:α→Bool) (l:List α):(l.findIdx? f=none∧l.find? f=none)∨∃ k p,l.findIdx? f=some k∧l[k]?=some p∧l.find? f=some p:=by
 cases h:l.findIdx? f with
 | none =>
  refine .inl ⟨rfl,List.find?_eq_none.2 fun x hx=>?_⟩
  have:=List.findIdx?_eq_none_iff.1 h x hx
  simp [this]
 | some k =>
  right
  obtain ⟨h1,h2,h3⟩:=List.findIdx?_eq_some_iff_getElem.1 h
  refine ⟨k,l[k],rfl,List.getElem?_eq_getElem h1,?_⟩
  rw [List.find?_eq_some_iff_getElem]
  exact ⟨h2,k,h1,rfl,fun j hj=>by have:=h3 j hj;simpa using this⟩
theorem step_both {free:List ι→List ι→Bool} {rdy:ι→Bool} {part:ι→List ι} {ids:List ι} (hk:PartOk rdy part ids) {out:List (List ι)} (ho:OutOk rdy part ids out) :
  (nextX free rdy part ids out=none∧(leftL rdy part ids out).findIdx? (fun p=>free p out.flatten)=none) ∨
  ∃ x k,nextX free rdy part ids out=some x∧(leftL rdy part ids out).findIdx? (fun p=>free p out.flatten)=some k∧(leftL rdy part ids out)[k]?=some (part x)∧(leftL rdy part ids out).eraseIdx k=leftL rdy part ids (out++[part x])∧OutOk rdy part ids (out++[part x])∧x∈ids∧rdy x=true:=by
 have e:=next_eq (free:=free) hk ho
 rcases findIdx_find (fun p=>free p out.flatten) (leftL rdy part ids out) with ⟨h1,h2⟩ | ⟨k,p,h1,h2,h3⟩
 ·left
  rw [h2] at e
  exact ⟨by simpa using e,h1⟩
 ·right
  rw [h3] at e
  obtain ⟨x,hx,hp⟩:=Option.map_eq_some_iff.1 e
  subst hp
  obtain ⟨x1,x2,x3⟩:=next_some ho hx
  exact ⟨x,k,hx,h1,h2,left_step hk h2,x3,x1,x2⟩
theorem left_len {rdy:ι→Bool} {part:ι→List ι} {ids:List ι} {out:List (List ι)} {k:Nat} {p:List ι} (h:(leftL rdy part ids out)[k]?=some p) (he:(leftL rdy part ids out).eraseIdx k=leftL rdy part ids (out++[p])):(leftL rdy part ids (out++[p])).length+1=(leftL rdy part ids out).length:=by
 have hlt:=(List.getElem?_eq_some_iff.1 h).1
 rw [← he,List.length_eraseIdx,if_pos hlt];omega
theorem order_none {free:List ι→List ι→Bool} {rdy:ι→Bool} {part:ι→List ι} {ids:List ι} {out:List (List ι)} (h:nextX free rdy part ids out=none):∀ n,orderS free rdy part ids n out=out
 | 0=>rfl
 | n+1=>by unfold orderS;rw [h]
def parts (free:List ι→List ι→Bool) (rdy:ι→Bool) (part:ι→List ι) (ids:List ι):List (List ι):=orderS free rdy part ids ((comps rdy part [] ids).length+1) []
def OI (free:List ι→List ι→Bool) (rdy:ι→Bool) (part:ι→List ι) (ids:List ι) (out:List (List ι)):Prop:=OutOk rdy part ids out∧∃ n,(leftL rdy part ids out).length < n∧orderS free rdy part ids n out=parts free rdy part ids
theorem OI.start (free:List ι→List ι→Bool) (rdy:ι→Bool) (part:ι→List ι) (ids:List ι):OI free rdy part ids [] :=
 ⟨OutOk.nil rdy part ids,_,Nat.lt_succ_of_le (List.length_filter_le _ _),rfl⟩
theorem OI.stop {free:List ι→List ι→Bool} {rdy:ι→Bool} {part:ι→List ι} {ids:List ι} {out:List (List ι)} (h:OI free rdy part ids out) (hn:nextX free rdy part ids out=none):out=parts free rdy part ids:=by
 obtain ⟨_,n,_,e⟩:=h
 rw [← e,order_none hn]
theorem OI.step {free:List ι→List ι→Bool} {rdy:ι→Bool} {part:ι→List ι} {ids:List ι} (hk:PartOk rdy part ids) {out:List (List ι)} (h:OI free rdy part ids out) {x:ι} (hx:nextX free rdy part ids out=some x) :
  OI free rdy part ids (out++[part x])∧(leftL rdy part ids (out++[part x])).length+1=(leftL rdy part ids out).length:=by
 obtain ⟨ho,n,hn,e⟩:=h
 rcases step_both (free:=free) hk ho with ⟨h1,_⟩ | ⟨x',k,h1,h2,h3,h4,h5,_,_⟩
 ·rw [h1] at hx;cases hx
 ·rw [h1] at hx
  cases hx
  have hl:=left_len h3 h4
  refine ⟨⟨h5,n - 1,by omega,?_⟩,hl⟩
  rw [← e]
  obtain ⟨m,rfl⟩:∃ m,n=m+1:=⟨n - 1,by omega⟩
  rw [Nat.add_sub_cancel]
  conv=>rhs;unfold orderS
  rw [h1]
end
end Gr
end Go.Proofs.SL
namespace Go.Proofs.SL
open Go
namespace Gr
variable {ι:Type}
def lt2 (sq:ι→Int) (lt:ι→ι→Bool) (a b:ι):Bool:=decide (sq a < sq b)||(decide (sq a=sq b)&&lt a b)
theorem lt2_iff {sq:ι→Int} {lt:ι→ι→Bool} {a b:ι}:lt2 sq lt a b=true↔sq a < sq b∨(sq a=sq b∧lt a b=true):=by unfold lt2;simp
theorem lt2_sto {sq:ι→Int} {lt:ι→ι→Bool} (h:STO lt):STO (lt2 sq lt) where
 irr a:=by
  cases e:lt2 sq lt a a with
  | false=>rfl
  | true =>
   rcases lt2_iff.1 e with q | ⟨_,q⟩
   ·omega
   ·rw [h.irr] at q;cases q
 tr a b c h1 h2:=by
  rcases lt2_iff.1 h1 with q | ⟨q,q2⟩<;>rcases lt2_iff.1 h2 with r | ⟨r,r2⟩
  ·exact lt2_iff.2 (.inl (by omega))
  ·exact lt2_iff.2 (.inl (by omega))
  ·exact lt2_iff.2 (.inl (by omega))
  ·exact lt2_iff.2 (.inr ⟨by omega,h.tr _ _ _ q2 r2⟩)
 tot a b:=by
  rcases Int.lt_trichotomy (sq a) (sq b) with q | q | q
  ·exact .inl (lt2_iff.2 (.inl q))
  ·rcases h.tot a b with r | r | r
   ·exact .inl (lt2_iff.2 (.inr ⟨q,r⟩))
   ·exact .inr (.inl (lt2_iff.2 (.inr ⟨q.symm,r⟩)))
   ·exact .inr (.inr r)
  ·exact .inr (.inl (lt2_iff.2 (.inl q)))
theorem ins_up {sq:ι→Int} {lt:ι→ι→Bool} {out:List ι} {x:ι} {k:Nat} (hu:Up (lt2 sq lt) out) (hx:∀ a,a∈out→lt a x=true) (hd:∀ b,b∈out.drop k→sq x < sq b) (ht:k=0∨∃ a,out[k - 1]?=some a∧sq a≤sq x) :
  Up (lt2 sq lt) (out.take k++x::out.drop k):=by
 have hta:∀ a,a∈out.take k→sq a≤sq x:=fun a ha=>by
  rcases ht with rfl | ⟨z,hz,hzx⟩
  ·simp at ha
  ·obtain ⟨i,hi⟩:=List.getElem?_of_mem ha
   rw [List.getElem?_take] at hi
   split at hi
   ·rename_i hik
    obtain ⟨h1,h2⟩:=List.getElem?_eq_some_iff.1 hi
    obtain ⟨h3,h4⟩:=List.getElem?_eq_some_iff.1 hz
    rcases Nat.lt_or_ge i (k - 1) with hl | hl
    ·have:=List.pairwise_iff_getElem.1 hu i (k - 1) h1 h3 hl
     rw [h2,h4] at this
     rcases lt2_iff.1 this with q | ⟨q,_⟩<;>omega
    ·have:i=k - 1:=by omega
     subst this
     rw [h2] at h4;rw [h4];exact hzx
   ·cases hi
 rw [show out.take k++x::out.drop k=out.take k++(x::out.drop k) from rfl]
 refine List.pairwise_append.2 ⟨hu.sublist (List.take_sublist _ _),List.pairwise_cons.2 ⟨fun b hb=>lt2_iff.2 (.inl (hd b hb)),hu.sublist (List.drop_sublist _ _)⟩,fun a ha b hb=>?_⟩
 rcases List.mem_cons.1 hb with rfl | hb
 ·have h1:=hta a ha
  have h2:=hx a (List.mem_of_mem_take ha)
  rcases Int.lt_or_eq_of_le h1 with q | q
  ·exact lt2_iff.2 (.inl q)
  ·exact lt2_iff.2 (.inr ⟨q,h2⟩)
 ·have h1:=hta a ha
  have h2:=hd b hb
  exact lt2_iff.2 (.inl (by omega))
theorem mem_ins {out:List ι} {x y:ι} (k:Nat):y∈out.take k++x::out.drop k↔y=x∨y∈out:=by
 rw [List.mem_append,List.mem_cons]
 have:y∈out↔y∈out.take k∨y∈out.drop k:=by rw [← List.mem_append,List.take_append_drop]
 rw [this]
 constructor
 ·rintro (h | h | h)
  ·exact .inr (.inl h)
  ·exact .inl h
  ·exact .inr (.inr h)
 ·rintro (h | h | h)
  ·exact .inr (.inl h)
  ·exact .inl h
  ·exact .inr (.inr h)
def InPart (dp:ι→List ι) (x y:ι):Prop:=y=x∨(Rch dp x y∧Rch dp y x)
theorem InPart.symm {dp:ι→List ι} {x y:ι} (h:InPart dp x y):InPart dp y x:=by
 rcases h with rfl | ⟨h1,h2⟩
 ·exact .inl rfl
 ·exact .inr ⟨h2,h1⟩
theorem InPart.trans {dp:ι→List ι} {x y z:ι} (h:InPart dp x y) (k:InPart dp y z):InPart dp x z:=by
 rcases h with rfl | ⟨h1,h2⟩
 ·exact k
 ·rcases k with rfl | ⟨k1,k2⟩
  ·exact .inr ⟨h1,h2⟩
  ·exact .inr ⟨h1.trans k1,k2.trans h2⟩
theorem partOk_of {dp:ι→List ι} {cm:ι→Bool} {lt':ι→ι→Bool} (hs:STO lt') {rdy:ι→Bool} {part:ι→List ι} {ids:List ι}
  (hr:∀ x,rdy x=true↔cm x=true∧∀ y,Rch dp x y→cm y=true) (hc:∀ x,cm x=true→x∈ids) (hu:∀ x,x∈ids→rdy x=true→Up lt' (part x)) (hp:∀ x,x∈ids→rdy x=true→∀ y,y∈part x↔InPart dp x y):PartOk rdy part ids where
 self x hx hrx:=(hp x hx hrx x).2 (.inl rfl)
 mem x hx hrx y hy:=by
  have hq:=(hp x hx hrx y).1 hy
  obtain ⟨c1,c2⟩:=(hr x).1 hrx
  have hcy:cm y=true:=by
   rcases hq with rfl | ⟨q,_⟩
   ·exact c1
   ·exact c2 y q
  have hry:rdy y=true:=(hr y).2 ⟨hcy,fun z hz=>by
   rcases hq with rfl | ⟨q,_⟩
   ·exact c2 z hz
   ·exact c2 z (q.trans hz)⟩
  have hyi:=hc y hcy
  refine ⟨hyi,hry,up_ext hs (hu y hyi hry) (hu x hx hrx) fun z=>?_⟩
  rw [hp y hyi hry,hp x hx hrx]
  exact ⟨fun h=>hq.trans h,fun h=>hq.symm.trans h⟩
end Gr
end Go.Proofs.SL
namespace Go.Proofs.SL
open Go
theorem idEq_dec (a b:D_Id):idEq a b=decide (a=b):=by
 unfold idEq
 rw [Bool.eq_iff_iff]
 simp only [Bool.and_eq_true,decide_eq_true_eq,and_true]
 constructor
 ·rintro ⟨h1,h2⟩;exact Prod.ext h1 h2
 ·rintro rfl;exact ⟨rfl,rfl⟩
theorem idLt_iff {a b:D_Id}:idLt a b=true↔a.1 < b.1∨(a.1=b.1∧a.2 < b.2):=by unfold idLt;simp
theorem idLt_sto:Gr.STO idLt where
 irr a:=by
  cases h:idLt a a with
  | false=>rfl
  | true=>have:=idLt_iff.1 h;omega
 tr a b c h1 h2:=by
  have:=idLt_iff.1 h1;have:=idLt_iff.1 h2
  exact idLt_iff.2 (by omega)
 tot a b:=by
  by_cases h1:a.1 < b.1
  ·exact .inl (idLt_iff.2 (.inl h1))
  by_cases h2:b.1 < a.1
  ·exact .inr (.inl (idLt_iff.2 (.inl h2)))
  have h3:a.1=b.1:=by omega
  by_cases h4:a.2 < b.2
  ·exact .inl (idLt_iff.2 (.inr ⟨h3,h4⟩))
  by_cases h5:b.2 < a.2
  ·exact .inr (.inl (idLt_iff.2 (.inr ⟨h3.symm,h5⟩)))
  ·exact .inr (.inr (Prod.ext h3 (by omega)))
theorem idsOk_facts {l:List D_Id} (h:idsOkB l=true):(∀ x,x∈l→idOkB x=true)∧Gr.Up idLt l:=by
 unfold idsOkB at h
 simp only [List.all_eq_true,List.mem_range] at h
 refine ⟨fun x hx=>?_,pairwise_of_step (R:=fun a b:D_Id=>idLt a b=true) (fun a b c=>idLt_sto.tr a b c) l fun k hk=>?_⟩
 ·obtain ⟨k,hk⟩:=List.getElem?_of_mem hx
  have:=h k (List.getElem?_eq_some_iff.1 hk).1
  unfold idAt at this
  rw [hk] at this
  simp only [Bool.and_eq_true] at this
  exact this.1
 ·have:=h (k+1) hk
  unfold idAt at this
  rw [List.getElem?_eq_getElem hk] at this
  simp only [Bool.and_eq_true,decide_eq_true_eq,Bool.or_eq_true,Nat.add_sub_cancel,List.getElem?_eq_getElem (show k < l.length by omega),Option.all_some] at this
  rcases this.2 with h2 | h2
  ·omega
  ·exact h2
theorem instsOk_facts {l:List D_Inst} (h:instsOkB l=true):(∀ x,x∈l→instOkB x=true)∧l.Pairwise (fun a b=>idLt a.1 b.1=true):=by
 unfold instsOkB at h
 simp only [List.all_eq_true,List.mem_range] at h
 refine ⟨fun x hx=>?_,pairwise_of_step (R:=fun a b:D_Inst=>idLt a.1 b.1=true) (fun a b c=>idLt_sto.tr a.1 b.1 c.1) l fun k hk=>?_⟩
 ·obtain ⟨k,hk⟩:=List.getElem?_of_mem hx
  have:=h k (List.getElem?_eq_some_iff.1 hk).1
  unfold instAt at this
  rw [hk] at this
  simp only [Bool.and_eq_true] at this
  exact this.1
 ·have:=h (k+1) hk
  unfold instAt at this
  rw [List.getElem?_eq_getElem hk] at this
  simp only [Bool.and_eq_true,decide_eq_true_eq,Bool.or_eq_true,Nat.add_sub_cancel,List.getElem?_eq_getElem (show k < l.length by omega),Option.all_some] at this
  rcases this.2 with h2 | h2
  ·omega
  ·exact h2
theorem instOk_facts {x:D_Inst} (h:instOkB x=true):idOkB x.1=true∧cmdOkB x.2.2.2.2.1=true∧(0≤x.2.2.2.2.2.1∧x.2.2.2.2.2.1≤60)∧idsOkB x.2.2.2.2.2.2.1=true:=by
 unfold instOkB at h
 simp only [Bool.and_eq_true,decide_eq_true_eq] at h
 exact ⟨h.1.1.1.1.1.1.1.1,h.1.1.1.1.2,h.1.1.1.2,h.1.1.2⟩
def idN (x:D_Id):Int:=6*x.1+x.2
theorem idOk_iff {x:D_Id} (h:idOkB x=true):(0≤x.1∧x.1≤2)∧(1≤x.2∧x.2≤6):=by
 unfold idOkB at h;simpa using h
theorem nodup_len {l:List D_Id} (h:l.Nodup) (hk:∀ x,x∈l→idOkB x=true):l.length≤18:=by
 have h1:(l.map fun x=>(idN x).toNat).Nodup:=by
  rw [List.nodup_iff_pairwise_ne,List.pairwise_map]
  refine List.Pairwise.imp_of_mem ?_ h
  intro a b ha hb hab e
  have:=idOk_iff (hk a ha);have:=idOk_iff (hk b hb)
  unfold idN at e
  exact hab (Prod.ext (by omega) (by omega))
 have h2:∀ n,n∈(l.map fun x=>(idN x).toNat)→n∈List.range 19:=fun n hn=>by
  obtain ⟨x,hx,rfl⟩:=List.mem_map.1 hn
  have:=idOk_iff (hk x hx)
  unfold idN
  rw [List.mem_range];omega
 have h3:∀ n,n∈(l.map fun x=>(idN x).toNat)→n≠0:=fun n hn=>by
  obtain ⟨x,hx,rfl⟩:=List.mem_map.1 hn
  have:=idOk_iff (hk x hx)
  unfold idN
  omega
 have h4:=List.Nodup.length_le_of_subset (l₂:=(List.range 19).erase 0) h1 (fun n hn=>(List.mem_erase_of_ne (h3 n hn)).2 (h2 n hn))
 rw [List.length_map] at h4
 simpa using h4
theorem insts_len {l:List D_Inst} (h:instsOkB l=true):l.length≤18:=by
 obtain ⟨h1,h2⟩:=instsOk_facts h
 have:=nodup_len (l:=l.map (·.1)) (Gr.up_nodup idLt_sto (List.pairwise_map.2 h2)) fun x hx=>by
  obtain ⟨y,hy,rfl⟩:=List.mem_map.1 hx
  exact (instOk_facts (h1 y hy)).1
 simpa using this
theorem deps_len {l:List D_Id} (h:idsOkB l=true):l.length≤18:=by
 obtain ⟨h1,h2⟩:=idsOk_facts h
 exact nodup_len (Gr.up_nodup idLt_sto h2) h1
def getI (l:List D_Inst) (id:D_Id):Option D_Inst:=l.find? fun x=>idEq x.1 id
def comI (l:List D_Inst) (id:D_Id):Bool:=match getI l id with | some x=>decide (x.2.2.2.1=3) | none=>false
def dpI (l:List D_Inst) (id:D_Id):List D_Id:=match getI l id with | some x=>if x.2.2.2.1=3 then x.2.2.2.2.2.2.1 else [] | none=>[]
def seqI (l:List D_Inst) (id:D_Id):Int:=match getI l id with | some x=>x.2.2.2.2.2.1 | none=>0
noncomputable def atI (l:List D_Inst) (id:D_Id):D_Inst:=match getI l id with | some x=>x | none=>((id.1,id.2),(-1),(-1),0,(0,0,0,ByteArray.empty,ByteArray.empty,ByteArray.empty,0,([]:List ByteArray)),0,([]:List D_Id),false)
theorem getI_some {l:List D_Inst} {id:D_Id} {x:D_Inst} (h:getI l id=some x):x∈l∧x.1=id:=by
 have h1:=List.mem_of_find?_eq_some h
 have h2:=List.find?_some h
 rw [idEq_dec] at h2
 exact ⟨h1,of_decide_eq_true h2⟩
theorem getI_mem {l:List D_Inst} (h:instsOkB l=true) {x:D_Inst} (hx:x∈l):getI l x.1=some x:=by
 obtain ⟨_,h2⟩:=instsOk_facts h
 cases hf:getI l x.1 with
 | none=>have:=List.find?_eq_none.1 hf x hx;rw [idEq_dec] at this;simp at this
 | some y =>
  obtain ⟨m,e⟩:=getI_some hf
  obtain ⟨i,hi⟩:=List.getElem?_of_mem m
  obtain ⟨j,hj⟩:=List.getElem?_of_mem hx
  obtain ⟨i1,i2⟩:=List.getElem?_eq_some_iff.1 hi
  obtain ⟨j1,j2⟩:=List.getElem?_eq_some_iff.1 hj
  have hij:i=j:=by
   rcases Nat.lt_trichotomy i j with q | q | q
   ·have:=List.pairwise_iff_getElem.1 h2 i j i1 j1 q
    rw [i2,j2,e,idLt_sto.irr] at this;cases this
   ·exact q
   ·have:=List.pairwise_iff_getElem.1 h2 j i j1 i1 q
    rw [i2,j2,e,idLt_sto.irr] at this;cases this
  subst hij
  rw [← i2,← j2]
theorem firstI_opt {α:Type} (p:α→Bool) (l:List α):(firstI p l=-1∧l.find? p=none)∨∃ (k:Nat) (x:α),firstI p l=(k:Int)∧l[k]?=some x∧l.find? p=some x:=by
 rcases Gr.findIdx_find p l with ⟨h1,h2⟩ | ⟨k,x,h1,h2,h3⟩
 ·exact .inl ⟨firstI_none h1,h2⟩
 ·exact .inr ⟨k,x,firstI_some h1,h2,h3⟩
def comP (id:D_Id) (x:D_Inst):Bool:=idEq x.1 id&&decide (x.2.2.2.1=3)
theorem s_l12Find_eq {l:List D_Inst} {id:D_Id} (h:l.length≤9223372036854775807):s_l12Find l id=some (firstI (comP id) l):=by
 unfold s_l12Find
 rw [whileP_find (comP id) some h]
 ·intro k x hx
  simp only [lt_dec (List.getElem?_eq_some_iff.1 hx).1,cond_true,idx_nat,hx,Option.bind_some,gbs]
  unfold comP idEq
  cases decide (x.1.1=id.1)&&(decide (x.1.2=id.2)&&true) with
  | false=>rfl
  | true=>cases h3:decide (x.2.2.2.1=3)<;>simp [h3]
 ·simp only [ge_dec];rfl
theorem find_com {l:List D_Inst} (h:instsOkB l=true) (id:D_Id):l.find? (comP id)=(if comI l id then getI l id else none):=by
 unfold comI
 cases hg:getI l id with
 | none =>
  simp only [Bool.false_eq_true,if_false]
  refine List.find?_eq_none.2 fun x hx=>?_
  have:=List.find?_eq_none.1 hg x hx
  unfold comP;simp at this;simp [this]
 | some x =>
  obtain ⟨m,e⟩:=getI_some hg
  dsimp only
  by_cases hs:x.2.2.2.1=3
  ·rw [if_pos (decide_eq_true hs)]
   cases hf:l.find? (comP id) with
   | none=>have:=List.find?_eq_none.1 hf x m;unfold comP at this;rw [idEq_dec,decide_eq_true e,decide_eq_true hs] at this;simp at this
   | some y =>
    have h1:=List.mem_of_find?_eq_some hf
    have h2:=List.find?_some hf
    unfold comP at h2
    rw [idEq_dec,Bool.and_eq_true,decide_eq_true_eq] at h2
    have:=getI_mem h h1
    rw [h2.1,hg] at this
    exact this.symm
  ·rw [if_neg (by simp [hs])]
   refine List.find?_eq_none.2 fun y hy=>?_
   unfold comP
   rw [idEq_dec]
   by_cases hy1:y.1=id
   ·have:=getI_mem h hy
    rw [hy1,hg] at this
    cases this
    simp [hs]
   ·simp [hy1]
theorem find_neg {l:List D_Inst} (h:instsOkB l=true) (id:D_Id):decide (firstI (comP id) l < 0)=!comI l id:=by
 have e:=find_com h id
 rcases firstI_opt (comP id) l with ⟨h1,h2⟩ | ⟨k,x,h1,h2,h3⟩
 ·rw [h1]
  rw [h2] at e
  cases hc:comI l id with
  | false=>rfl
  | true =>
   rw [hc] at e;simp only [if_true] at e
   unfold comI at hc;rw [← e] at hc;cases hc
 ·rw [h1]
  rw [h3] at e
  cases hc:comI l id with
  | false=>rw [hc] at e;simp at e
  | true=>simp
theorem s_l12Deps_eq {l:List D_Inst} (h:instsOkB l=true) (id:D_Id):s_l12Deps l id=some (dpI l id):=by
 have hl:=insts_len h
 unfold s_l12Deps
 rw [show s_l12Find l (id.1,id.2)=_ from s_l12Find_eq (id:=id) (by omega),Option.bind_some,find_neg h]
 have e:=find_com h id
 cases hc:comI l id with
 | false =>
  simp only [Bool.not_false,cond_true,Option.bind_some]
  unfold dpI
  unfold comI at hc
  cases hg:getI l id with
  | none=>rfl
  | some x=>rw [hg] at hc;dsimp only at hc ⊢;rw [if_neg (of_decide_eq_false hc)]
 | true =>
  simp only [Bool.not_true,cond_false]
  rw [hc] at e
  simp only [if_true] at e
  rcases firstI_opt (comP id) l with ⟨h1,h2⟩ | ⟨k,x,h1,h2,h3⟩
  ·rw [h2] at e;unfold comI at hc;rw [← e] at hc;cases hc
  ·rw [h1,idx_nat,h2,Option.bind_some]
   rw [h3] at e
   unfold dpI
   unfold comI at hc
   rw [← e] at hc ⊢
   dsimp only at hc ⊢
   rw [if_pos (of_decide_eq_true hc)]
theorem dpI_facts {l:List D_Inst} (h:instsOkB l=true) (id:D_Id):idsOkB (dpI l id)=true:=by
 unfold dpI
 cases hg:getI l id with
 | none=>rfl
 | some x =>
  dsimp only
  split
  ·exact (instOk_facts ((instsOk_facts h).1 x (getI_some hg).1)).2.2.2
  ·rfl
theorem rok {l:List D_Inst} (h:instsOkB l=true):Gr.ROk idLt (dpI l) (fun x=>idOkB x=true) 18 where
 sto:=idLt_sto
 up x:=(idsOk_facts (dpI_facts h x)).2
 val x y hy:=(idsOk_facts (dpI_facts h x)).1 y hy
 len l hn hk:=nodup_len hn hk
def reachI (l:List D_Inst) (id:D_Id):List D_Id:=Gr.rounds idLt (dpI l) 18 (dpI l id)
theorem reach_iff {l:List D_Inst} (h:instsOkB l=true) (id:D_Id):Gr.Up idLt (reachI l id)∧∀ y,y∈reachI l id↔Gr.Rch (dpI l) id y:=Gr.rounds_reach (rok h) id
theorem rch_ok {l:List D_Inst} (h:instsOkB l=true) {x y:D_Id} (hr:Gr.Rch (dpI l) x y):idOkB y=true:=by
 induction hr with
 | one hy=>exact (rok h).val _ _ hy
 | cons _ _ ih=>exact ih
theorem reach_len {l:List D_Inst} (h:instsOkB l=true) (id:D_Id):(reachI l id).length≤18:=by
 obtain ⟨h1,h2⟩:=reach_iff h id
 exact nodup_len (Gr.up_nodup idLt_sto h1) fun x hx=>rch_ok h ((h2 x).1 hx)
def rdyI (l:List D_Inst) (id:D_Id):Bool:=comI l id&&(reachI l id).all (comI l)
theorem rdy_iff {l:List D_Inst} (h:instsOkB l=true) (x:D_Id):rdyI l x=true↔comI l x=true∧∀ y,Gr.Rch (dpI l) x y→comI l y=true:=by
 unfold rdyI
 rw [Bool.and_eq_true,List.all_eq_true]
 exact and_congr_right fun _=>forall_congr' fun y=>by rw [(reach_iff h x).2]
theorem com_mem {l:List D_Inst} {x:D_Id} (h:comI l x=true):x∈l.map (·.1):=by
 unfold comI at h
 cases hg:getI l x with
 | none=>rw [hg] at h;cases h
 | some y=>obtain ⟨m,e⟩:=getI_some hg;exact List.mem_map.2 ⟨y,m,e⟩
end Go.Proofs.SL
namespace Go.Proofs.SL
open Go
theorem step_in {σ σ' α:Type} {f:σ→Option (σ ⊕ (σ' ⊕ α))} {s:σ} {C:σ'→Prop} (I:σ→Prop) (μ:σ→Nat) (P:σ'→Prop) (hg:∀ s',P s'→C s') (hs:I s)
  (h:∀ s,I s→(∃ s',f s=some (.inl s')∧I s'∧μ s' < μ s)∨∃ s',f s=some (.inr (.inl s'))∧P s'):∃ s',whileP f s=some (.inl s')∧C s':=by
 obtain ⟨s',h1,h2⟩:=whileP_inl I μ P h s hs
 exact ⟨s',h1,hg _ h2⟩
theorem slcP_at {α:Type} {l:List α} {a b:Int} (h:0≤a∧a≤b∧b≤l.length):slcP l a b=some ((l.drop a.toNat).take (b.toNat - a.toNat)):=if_pos h
theorem drop_cons {α:Type} {l:List α} {k:Nat} {x:α} (h:l[k]?=some x):l.drop k=x::l.drop (k+1):=by
 obtain ⟨h1,h2⟩:=List.getElem?_eq_some_iff.1 h
 rw [List.drop_eq_getElem_cons h1,h2]
theorem s_l8Join_eq {a b:List D_Id} (ha:a.length≤1000) (hb:b.length≤1000):s_l8Join a b=some (Gr.join idLt a b):=by
 unfold s_l8Join
 rw [Option.bind_some]
 refine whileP_is (s:=(([]:List D_Id),(0:Int),(0:Int))) (fun s:List D_Id×Int×Int=>∃ i k:Nat,s.2.1=(i:Int)∧s.2.2=(k:Int)∧i≤a.length∧k≤b.length∧s.1.length≤i+k∧s.1++Gr.join idLt (a.drop i) (b.drop k)=Gr.join idLt a b) (fun s=>(b.length - s.2.2).toNat) ?_ ⟨0,0,rfl,rfl,Nat.zero_le _,Nat.zero_le _,Nat.le_refl _,by simp⟩
 rintro ⟨o,i',k'⟩ ⟨i,k,h1,h2,hi,hk,hl,he⟩
 dsimp only at h1 h2 hl he ⊢
 subst h1;subst h2
 by_cases hkb:k < b.length
 ·left
  have hy:b[k]?=some b[k]:=List.getElem?_eq_getElem hkb
  generalize b[k]=y at hy
  have hd:=drop_cons hy
  rw [show decide ((k:Int) < (b.length:Int))=true from decide_eq_true (by omega),cond_true]
  rw [hd,Gr.join_cons] at he
  refine step_in (fun s:List D_Id×Int=>∃ j:Nat,s.2=(j:Int)∧i≤j∧j≤a.length∧s.1.length≤j+k∧s.1++(a.drop j).takeWhile (fun x=>idLt x y)=o++(a.drop i).takeWhile (fun x=>idLt x y)∧(a.drop j).dropWhile (fun x=>idLt x y)=(a.drop i).dropWhile (fun x=>idLt x y))
   (fun s=>(a.length - s.2).toNat)
   (fun s:List D_Id×Int×Int=>∃ j:Nat,s.2.1=(j:Int)∧s.2.2=((k+1:Nat):Int)∧j≤a.length∧s.1.length≤j+(k+1)∧s.1=(o++(a.drop i).takeWhile (fun x=>idLt x y))++[y]∧a.drop j=Gr.past idLt (a.drop i) y)
   ?_ ⟨i,rfl,Nat.le_refl _,hi,hl,rfl,rfl⟩ ?_
  ·rintro s' ⟨j,e2,e3,e4,e5,e6,e7⟩
   refine ⟨⟨j,k+1,e2,e3,e4,hkb,e5,?_⟩,?_⟩
   ·rw [e6,e7,← he];simp
   ·rw [e3];omega
  ·rintro ⟨t,j'⟩ ⟨j,h1,hij,hj,htl,ht1,ht2⟩
   dsimp only at h1 htl ht1 ht2 ⊢
   subst h1
   have w1:IntKind.wrap .i64 ((k:Int)+1)=((k+1:Nat):Int):=wrap_succ (by omega)
   by_cases hja:j < a.length
   ·have hx:a[j]?=some a[j]:=List.getElem?_eq_getElem hja
    generalize a[j]=x at hx
    have hdj:=drop_cons hx
    rw [show decide ((j:Int) < (a.length:Int))=true from decide_eq_true (by omega),gb_true,idx_nat,hx,Option.bind_some,gb_true,idx_nat,hy,Option.bind_some,gb_true,show s_l8Less (x.1,x.2) (y.1,y.2)=some (idLt x y) from rfl,Option.bind_some]
    rw [hdj] at ht1 ht2
    cases hc:idLt x y with
    | true =>
     left
     rw [List.takeWhile_cons,if_pos hc] at ht1
     rw [List.dropWhile_cons,if_pos hc] at ht2
     simp only [Bool.and_self,cond_true,Option.bind_some]
     rw [appP_ok (by simp;omega),Option.bind_some,wrap_succ (show j < 9223372036854775807 by omega)]
     refine ⟨_,rfl,⟨j+1,rfl,by omega,by omega,by simp;omega,?_,ht2⟩,by dsimp only;omega⟩
     rw [← ht1];simp
    | false =>
     right
     rw [List.takeWhile_cons,if_neg (by simp [hc]),List.append_nil] at ht1
     rw [List.dropWhile_cons,if_neg (by simp [hc])] at ht2
     simp only [Bool.and_false,cond_false,Bool.true_and,gb_true,Option.bind_some]
     have hq:(decide (x.1=y.1)&&(decide (x.2=y.2)&&true))=decide (x=y):=idEq_dec x y
     rw [hq,appP_ok (by simp;omega),Option.bind_some,Option.bind_some,w1,wrap_succ (show j < 9223372036854775807 by omega)]
     by_cases hxy:x=y
     ·rw [decide_eq_true hxy,cond_true]
      refine ⟨_,rfl,j+1,rfl,rfl,by omega,by simp;omega,by rw [← ht1],?_⟩
      unfold Gr.past
      rw [← ht2]
      dsimp only
      rw [if_pos hxy]
     ·rw [decide_eq_false hxy,cond_false]
      refine ⟨_,rfl,j,rfl,rfl,by omega,by simp;omega,by rw [← ht1],?_⟩
      unfold Gr.past
      rw [← ht2]
      dsimp only
      rw [if_neg hxy,hdj]
   ·right
    have hdn:a.drop j=[]:=List.drop_of_length_le (by omega)
    rw [hdn] at ht1 ht2
    simp only [List.takeWhile_nil,List.dropWhile_nil,List.append_nil] at ht1 ht2
    rw [show decide ((j:Int) < (a.length:Int))=false from decide_eq_false (by omega)]
    simp only [gb_false,Bool.false_and,cond_false]
    rw [idx_nat,hy,Option.bind_some,appP_ok (by simp;omega),Option.bind_some,w1]
    refine ⟨_,rfl,j,rfl,rfl,by omega,by simp;omega,by rw [← ht1],?_⟩
    unfold Gr.past
    rw [← ht2,hdn]
 ·right
  have hkk:k=b.length:=by omega
  subst hkk
  rw [show decide ((b.length:Int) < (b.length:Int))=false from decide_eq_false (by omega),cond_false]
  rw [List.drop_of_length_le (Nat.le_refl _)] at he
  rw [slcP_at (by omega),Option.bind_some]
  have h3:((a.drop ((i:Int).toNat)).take ((a.length:Int).toNat - (i:Int).toNat))=a.drop i:=by
   rw [Int.toNat_natCast,Int.toNat_natCast,List.take_of_length_le (by simp)]
  rw [h3,appP_ok (by simp;omega),Option.bind_some,Option.map_some]
  have he':o++a.drop i=Gr.join idLt a b:=he
  rw [he']
end Go.Proofs.SL
namespace Go.Proofs.SL
open Go
def smallL (l:List D_Inst):Prop:=∀ x,x∈l→smallI x
theorem s_InstAt_eq {l:List D_Inst} (hl:l.length≤1048576) (hs:smallL l) (id:D_Id):s_InstAt l id=some (atI l id):=by
 unfold s_InstAt
 refine whileP_is (fun s:Int=>∃ k:Nat,s=(k:Int)∧k≤l.length∧(l.drop k).find? (fun x=>idEq x.1 id)=getI l id) (fun s=>(l.length - s).toNat) ?_ ⟨0,rfl,Nat.zero_le _,rfl⟩
 rintro _ ⟨k,rfl,hk,he⟩
 by_cases hkl:k < l.length
 ·have hx:l[k]?=some l[k]:=List.getElem?_eq_getElem hkl
  have hm:l[k]∈l:=List.getElem_mem _
  generalize l[k]=x at hx hm
  rw [drop_cons hx] at he
  rw [show decide ((k:Int) < (l.length:Int))=true from decide_eq_true (by omega),cond_true,idx_nat,hx,Option.bind_some]
  have hq:(decide (x.1.1=id.1)&&(decide (x.1.2=id.2)&&true))=idEq x.1 id:=rfl
  rw [hq]
  cases hc:idEq x.1 id with
  | true =>
   right
   rw [List.find?_cons_of_pos (by simp [hc])] at he
   rw [cond_true,Option.bind_some,show s_l8Copy _=some x from s_l8Copy_eq (x:=x) (hs x hm),Option.bind_some]
   unfold atI
   rw [← he];rfl
  | false =>
   left
   rw [List.find?_cons_of_neg (by simp [hc])] at he
   rw [cond_false,wrap_succ (by omega)]
   exact ⟨_,rfl,⟨k+1,rfl,hkl,he⟩,by omega⟩
 ·right
  rw [show decide ((k:Int) < (l.length:Int))=false from decide_eq_false (by omega),cond_false]
  rw [List.drop_of_length_le (by omega)] at he
  unfold atI
  rw [← he];rfl
theorem i_instAt_eq {l:List D_Inst} (hl:l.length≤1048576) (id:D_Id):i_instAt l id=some (firstI (fun x:D_Inst=>idEq x.1 id) l):=by
 unfold i_instAt sl_IndexFunc_implInstimplInst i_instAt_c1
 rw [whileP_find (l:=l) (fun x:D_Inst=>idEq x.1 id) some (by omega)]
 ·rfl
 ·intro k x hx
  simp only [lt_dec (List.getElem?_eq_some_iff.1 hx).1,cond_true,idx_nat,hx,Option.bind_some]
  show cond (idEq x.1 id) _ _=_
  cases idEq x.1 id<;>rfl
 ·simp only [ge_dec];rfl
theorem i_InstAt_eq {l:List D_Inst} (hl:l.length≤1048576) (hs:smallL l) (id:D_Id):i_InstAt l id=some (atI l id):=by
 unfold i_InstAt
 rw [show i_instAt l (id.1,id.2)=_ from i_instAt_eq hl id,Option.bind_some]
 unfold atI getI
 rcases firstI_opt (fun x:D_Inst=>idEq x.1 id) l with ⟨h1,h2⟩ | ⟨k,x,h1,h2,h3⟩
 ·rw [h1,h2];rfl
 ·rw [h1,h3,show decide (0≤(k:Int))=true from decide_eq_true (by omega),cond_true,idx_nat,h2,Option.bind_some,show i_copyInst _=some x from i_copyInst_eq (x:=x) (hs x (List.mem_of_getElem? h2))]
  rfl
theorem at_com {l:List D_Inst} (id:D_Id):decide ((atI l id).2.2.2.1=3)=comI l id:=by
 unfold atI comI
 cases getI l id<;>rfl
theorem at_deps {l:List D_Inst} {id:D_Id} (h:comI l id=true):(atI l id).2.2.2.2.2.2.1=dpI l id:=by
 unfold atI dpI
 unfold comI at h
 cases hg:getI l id with
 | none=>simp [hg] at h
 | some x=>rw [hg] at h;dsimp only at h ⊢;rw [if_pos (of_decide_eq_true h)]
theorem dp_nil {l:List D_Inst} {id:D_Id} (h:comI l id=false):dpI l id=[]:=by
 unfold dpI
 unfold comI at h
 cases hg:getI l id with
 | none=>rfl
 | some x=>rw [hg] at h;dsimp only at h ⊢;rw [if_neg (of_decide_eq_false h)]
theorem at_seq {l:List D_Inst} (id:D_Id):(atI l id).2.2.2.2.2.1=seqI l id:=by
 unfold atI seqI
 cases getI l id<;>rfl
theorem join_nil (b:List D_Id):Gr.join idLt [] b=b:=by
 induction b with
 | nil=>rfl
 | cons y ys ih =>
  rw [Gr.join_cons]
  show []++y::Gr.join idLt [] ys=_
  rw [ih];rfl
theorem up18 {l:List D_Inst} (h:instsOkB l=true) {o:List D_Id} (hu:Gr.Up idLt o) (hk:∀ x,x∈o→idOkB x=true):o.length≤18:=nodup_len (Gr.up_nodup idLt_sto hu) hk
theorem s_l12Reach_eq {l:List D_Inst} (h:instsOkB l=true) (id:D_Id):s_l12Reach l id=some (reachI l id):=by
 have hdl:∀ x,(dpI l x).length≤18:=fun x=>deps_len (dpI_facts h x)
 have H:=rok h
 unfold s_l12Reach
 rw [Option.bind_some,show s_l12Deps l (id.1,id.2)=some (dpI l id) from s_l12Deps_eq h id,Option.bind_some,s_l8Join_eq (by simp) (by have:=hdl id;omega),Option.bind_some,join_nil]
 refine whileP_is (s:=(dpI l id,(0:Int))) (fun s:List D_Id×Int=>∃ r:Nat,s.2=(r:Int)∧r≤18∧Gr.Up idLt s.1∧(∀ x,x∈s.1→idOkB x=true)∧Gr.rounds idLt (dpI l) (18 - r) s.1=reachI l id) (fun s=>(18 - s.2).toNat) ?_ ⟨0,rfl,by omega,H.up id,fun x hx=>H.val id x hx,rfl⟩
 rintro ⟨o,r'⟩ ⟨r,h1,hr,hu,hk,he⟩
 dsimp only at h1 hu hk he ⊢
 subst h1
 have hol:=up18 h hu hk
 by_cases hr18:r < 18
 ·rw [show decide ((r:Int) < 18)=true from decide_eq_true (by omega),cond_true]
  obtain ⟨n,hn⟩:∃ n,18 - r=n+1:=⟨17 - r,by omega⟩
  rw [hn] at he
  cases o with
  | nil =>
   right
   have:Gr.rounds idLt (dpI l) (n+1) []=[]:=by unfold Gr.rounds;rw [if_pos (by rfl)]
   rw [this] at he
   rw [← he];rfl
  | cons x xs =>
   have f0:=Gr.foldJoin idLt_sto H.up
   rw [show decide ((0:Int) < (((x::xs).length:Nat):Int))=true from decide_eq_true (by simp),cond_true,show idx (x::xs) 0=some x from rfl,Option.bind_some,show s_l12Deps l (x.1,x.2)=some (dpI l x) from s_l12Deps_eq h x,Option.bind_some,s_l8Join_eq (by omega) (by have:=hdl x;omega),Option.bind_some]
   generalize ho:x::xs=o at *
   have hox:o[0]?=some x:=by rw [← ho];rfl
   have hpos:0 < o.length:=by rw [← ho];simp
   have inner:whileP (fun s11:(List D_Id)×Int=>cond (decide (s11.2 < (o.length:Int))) (Option.bind (idx o s11.2) (fun y13=>Option.bind (s_l12Deps l (y13.1,y13.2)) (fun y14=>Option.bind (s_l8Join s11.1 y14) (fun y15=>some (.inl ((y15,IntKind.wrap .i64 (s11.2+1)))))))) (Option.map .inr (cond (decide ((s11.1.length:Int)=(o.length:Int))) (Option.map .inr (some o)) (some (.inl ((s11.1,IntKind.wrap .i64 ((r:Int)+1))))))))
     (Gr.join idLt o (dpI l x),IntKind.wrap .i64 (0+1))=some (if (Gr.nextL idLt (dpI l) o).length=o.length then (.inr o:(List D_Id×Int) ⊕ List D_Id) else .inl (Gr.nextL idLt (dpI l) o,((r+1:Nat):Int))):=by
    refine whileP_is (s:=(Gr.join idLt o (dpI l x),IntKind.wrap .i64 (0+1))) (fun s:List D_Id×Int=>∃ i:Nat,s.2=(i:Int)∧i≤o.length∧s.1=(o.take i).foldl (fun n z=>Gr.join idLt n (dpI l z)) o) (fun s=>(o.length - s.2).toNat) ?_ ⟨1,rfl,hpos,by rw [← ho];rfl⟩
    rintro ⟨nx,i'⟩ ⟨i,g1,gi,gn⟩
    dsimp only at g1 gn ⊢
    subst g1
    by_cases hio:i < o.length
    ·left
     have hz:o[i]?=some o[i]:=List.getElem?_eq_getElem hio
     generalize o[i]=z at hz
     obtain ⟨u1,u2⟩:=f0 (o.take i) o hu
     rw [← gn] at u1 u2
     have hnl:nx.length≤18:=up18 h u1 fun y hy=>by
      rcases (u2 y).1 hy with q | ⟨w,_,q⟩
      ·exact hk y q
      ·exact H.val w y q
     rw [show decide ((i:Int) < (o.length:Int))=true from decide_eq_true (by omega),cond_true,idx_nat,hz,Option.bind_some,show s_l12Deps l (z.1,z.2)=some (dpI l z) from s_l12Deps_eq h z,Option.bind_some,s_l8Join_eq (by omega) (by have:=hdl z;omega),Option.bind_some,wrap_succ (by omega)]
     refine ⟨_,rfl,⟨i+1,rfl,hio,?_⟩,by dsimp only;omega⟩
     dsimp only
     rw [List.take_add_one,hz,List.foldl_append,gn];rfl
    ·right
     rw [show decide ((i:Int) < (o.length:Int))=false from decide_eq_false (by omega),cond_false]
     have:nx=Gr.nextL idLt (dpI l) o:=by rw [gn,List.take_of_length_le (by omega)];rfl
     rw [this]
     by_cases hq:(Gr.nextL idLt (dpI l) o).length=o.length
     ·rw [if_pos hq,decide_eq_true (by rw [hq]),cond_true];rfl
     ·rw [if_neg hq,decide_eq_false (by omega),cond_false,wrap_succ (by omega)];rfl
   rw [inner]
   unfold Gr.rounds at he
   by_cases hq:(Gr.nextL idLt (dpI l) o).length=o.length
   ·right
    rw [if_pos hq] at he ⊢
    rw [he]
   ·left
    rw [if_neg hq] at he ⊢
    obtain ⟨u1,u2⟩:=f0 o o hu
    refine ⟨_,rfl,⟨r+1,rfl,by omega,u1,fun y hy=>?_,?_⟩,by dsimp only;omega⟩
    ·rcases (u2 y).1 hy with q | ⟨w,_,q⟩
     ·exact hk y q
     ·exact H.val w y q
    ·rw [show 18 - (r+1)=n by omega];exact he
 ·right
  have:r=18:=by omega
  subst this
  rw [show decide (((18:Nat):Int) < 18)=false from rfl,cond_false]
  have he':o=reachI l id:=he
  rw [he'];rfl
theorem s_l12Ready_eq {l:List D_Inst} (h:instsOkB l=true) (id:D_Id):s_l12Ready l id=some (rdyI l id):=by
 have hl:=insts_len h
 have hr:=reach_len h id
 unfold s_l12Ready rdyI
 rw [show s_l12Find l (id.1,id.2)=_ from s_l12Find_eq (id:=id) (by omega),Option.bind_some,find_neg h]
 cases hc:comI l id with
 | false=>rfl
 | true =>
  rw [Bool.not_true,cond_false,show s_l12Reach l (id.1,id.2)=some (reachI l id) from s_l12Reach_eq h id,Option.bind_some,Bool.true_and]
  rw [each_loop (p:=comI l) (no:=some false) (yes:=some true) (l:=reachI l id) (by omega)]
  ·cases (reachI l id).all (comI l)<;>rfl
  ·intro k x hx
   simp only [lt_dec (List.getElem?_eq_some_iff.1 hx).1,cond_true,idx_nat,hx,Option.bind_some]
   rw [show s_l12Find l (x.1,x.2)=_ from s_l12Find_eq (id:=x) (by omega),Option.bind_some,find_neg h]
   cases comI l x<;>rfl
  ·simp only [ge_dec];rfl
end Go.Proofs.SL
namespace Go.Proofs.SL
open Go
theorem sw0_of {lt:D_Id→D_Id→Bool} (h:Gr.STO lt):SW0 lt where
 irrefl:=h.irr
 trans:=h.tr
 ntrans x y z h1 h2:=by
  cases h3:lt x z with
  | false=>rfl
  | true =>
   rcases h.tot y z with q | q | q
   ·rw [h2] at q;cases q
   ·have:=h.tr _ _ _ h3 q;rw [h1] at this;cases this
   ·rw [q,h3] at h1;cases h1
theorem isort_up {lt:D_Id→D_Id→Bool} (h:Gr.STO lt) {l:List D_Id} (hn:l.Nodup):Gr.Up lt (isort lt l)∧∀ x,x∈isort lt l↔x∈l:=by
 have hp:=isort_perm lt l
 refine ⟨?_,fun x=>hp.mem_iff⟩
 have h1:=isort_sorted (sw0_of h) l
 have h2:(isort lt l).Nodup:=hp.nodup_iff.2 hn
 refine (h1.and h2).imp fun {a b} hab=>?_
 rcases h.tot a b with q | q | q
 ·exact q
 ·rw [hab.1] at q;cases q
 ·exact (hab.2 q).elim
theorem sortFn_eq {lt:D_Id→D_Id→Bool} (h:Gr.STO lt) {f:D_Id→D_Id→Option Int} (hf:∀ x y,∃ v,f x y=some v∧decide (v < 0)=lt x y) {l:List D_Id} (hl:l.length≤1000):sortFn l f=some (isort lt l):=by
 have e:(fun x y=>decide ((f x y).getD 0 < 0))=lt:=by
  funext x y
  obtain ⟨v,h1,h2⟩:=hf x y
  rw [h1];exact h2
 unfold sortFn
 rw [e,if_pos ⟨fun x y=>(hf x y).imp fun v hv=>hv.1,sw0_of h⟩]
 exact sortD_eq (by omega) fun a b _ _=>h.tot a b
theorem compareIds_lt (a b:D_Id):∃ c,i_compareIds a b=some c∧decide (c < 0)=idLt a b:=by
 obtain ⟨c,h1,h2⟩:=compareIds_eq a b
 refine ⟨c,h1,?_⟩
 by_cases h:c < 0
 ·rw [decide_eq_false (show ¬ 0≤c by omega)] at h2
  rw [decide_eq_true h]
  cases hh:idLt a b with
  | true=>rfl
  | false=>rw [hh] at h2;cases h2
 ·rw [decide_eq_true (show 0≤c by omega)] at h2
  rw [decide_eq_false h]
  cases hh:idLt a b with
  | false=>rfl
  | true=>rw [hh] at h2;cases h2
theorem any_idEq (l:List D_Id) (x:D_Id):(l.any fun y=>idEq y x)=decide (x∈l):=by
 rw [Bool.eq_iff_iff,List.any_eq_true,decide_eq_true_eq]
 constructor
 ·rintro ⟨y,hy,h⟩;rw [idEq_dec] at h;have:=of_decide_eq_true h;rw [← this];exact hy
 ·intro h;exact ⟨x,h,by rw [idEq_dec];exact decide_eq_true rfl⟩
theorem contains_dec {l:List D_Id} {x:D_Id} (h:l.length≤1000):sl_Contains_implIdimplId l (x.1,x.2)=some (decide (x∈l)):=by
 rw [show sl_Contains_implIdimplId l (x.1,x.2)=_ from containsId_eq (l:=l) (x:=x) (by omega),any_idEq]
theorem has_dec {l:List D_Id} {x:D_Id} (h:l.length≤1000):s_l8Has l (x.1,x.2)=some (decide (x∈l)):=by
 rw [show s_l8Has l (x.1,x.2)=_ from s_l8Has_eq (l:=l) (x:=x) (by omega),any_idEq]
theorem fold_push_len (ds:List D_Id):∀ (o q:List D_Id),(ds.foldl Gr.push (o,q)).1.length≤o.length+ds.length∧(ds.foldl Gr.push (o,q)).2.length≤q.length+ds.length:=by
 induction ds with
 | nil=>intro o q;simp
 | cons d ds ih =>
  intro o q
  rw [List.foldl_cons]
  by_cases h:d∈o
  ·rw [show Gr.push (o,q) d=(o,q) from if_pos h]
   have:=ih o q
   simp only [List.length_cons];omega
  ·rw [show Gr.push (o,q) d=(o++[d],q++[d]) from if_neg h]
   have:=ih (o++[d]) (q++[d])
   simp only [List.length_append,List.length_cons,List.length_nil] at this ⊢;omega
theorem i_Reach_eq {l:List D_Inst} (ho:Ok.ok l) (h:instsOkB l=true) (hs:smallL l) (id:D_Id):i_Reach l id=some (reachI l id):=by
 have H:=rok h
 have hl:=insts_len h
 have hdl:∀ x,(dpI l x).length≤18:=fun x=>deps_len (dpI_facts h x)
 unfold i_Reach
 rw [i_InstsOk_eq ho,h,Option.bind_some,Bool.not_true,cond_false,Option.bind_some,Option.bind_some]
 refine whileP_is (s:=(([]:List D_Id),[(id.1,id.2)])) (fun s:List D_Id×List D_Id=>Gr.BI (dpI l) (fun x=>idOkB x=true) id s.1 s.2∧s.2.length≤1+s.1.length) (fun s=>2*(18 - s.1.length)+s.2.length) ?_ ⟨Gr.BI.start _ _ id,by simp⟩
 rintro ⟨o,q⟩ ⟨hI,hql⟩
 dsimp only at hI hql ⊢
 have hol:o.length≤18:=nodup_len hI.nd hI.val
 cases q with
 | nil =>
  right
  rw [show decide ((0:Int) < ((([]:List D_Id).length:Nat):Int))=false from rfl,cond_false]
  rw [show sortFn o (fun z0 z1=>i_compareIds z0 z1)=some (isort idLt o) from sortFn_eq idLt_sto compareIds_lt (by omega),Option.bind_some]
  have:isort idLt o=reachI l id:=by
   obtain ⟨u1,u2⟩:=isort_up idLt_sto hI.nd
   obtain ⟨r1,r2⟩:=reach_iff h id
   exact Gr.up_ext idLt_sto u1 r1 fun x=>by rw [u2,hI.done,r2]
  rw [this];rfl
 | cons x q =>
  left
  obtain ⟨s1,s2⟩:=hI.step H.val
  have hl2:=fold_push_len (dpI l x) o q
  have hn:((dpI l x).foldl Gr.push (o,q)).1.length≤18:=nodup_len s1.nd s1.val
  have hdx:=hdl x
  simp only [List.length_cons] at hql
  rw [show decide ((0:Int) < (((x::q).length:Nat):Int))=true from decide_eq_true (by simp),cond_true,show idx (x::q) 0=some x from rfl,Option.bind_some,show i_InstAt l (x.1,x.2)=some (atI l x) from i_InstAt_eq (by omega) hs x,Option.bind_some,slcP_at (by simp only [List.length_cons];omega),Option.bind_some]
  have hd:((x::q).drop ((1:Int).toNat)).take ((((x::q).length:Nat):Int).toNat - (1:Int).toNat)=q:=by
   show (q.take _)=q
   exact List.take_of_length_le (by simp)
  rw [hd]
  have hge:o.length≤((dpI l x).foldl Gr.push (o,q)).1.length:=by
   obtain ⟨nw,e,_⟩:=Gr.push_facts (dpI l x) o q hI.nd
   rw [e];simp
  rw [at_com]
  cases hc:comI l x with
  | false =>
   rw [dp_nil hc] at s1
   refine ⟨(o,q),rfl,⟨s1,by simp;omega⟩,by dsimp only;simp only [List.length_cons];omega⟩
  | true =>
   rw [Bool.not_true,cond_false,at_deps hc]
   refine step_in (fun s:List D_Id×List D_Id×Int=>∃ i:Nat,s.2.2=(i:Int)∧i≤(dpI l x).length∧(s.1,s.2.1)=((dpI l x).take i).foldl Gr.push (o,q)) (fun s=>((dpI l x).length - s.2.2).toNat) (fun s:List D_Id×List D_Id=>s=(dpI l x).foldl Gr.push (o,q)) ?_ ⟨0,rfl,Nat.zero_le _,rfl⟩ ?_
   ·rintro s' rfl
    exact ⟨⟨s1,by omega⟩,by simp only [List.length_cons];omega⟩
   ·rintro ⟨o',q',i'⟩ ⟨i,g1,gi,gn⟩
    dsimp only at g1 gn ⊢
    subst g1
    have hl3:=fold_push_len ((dpI l x).take i) o q
    rw [← gn] at hl3
    dsimp only at hl3
    rw [List.length_take] at hl3
    by_cases hid:i < (dpI l x).length
    ·left
     have hz:(dpI l x)[i]?=some (dpI l x)[i]:=List.getElem?_eq_getElem hid
     generalize (dpI l x)[i]=z at hz
     rw [show decide ((i:Int) < ((dpI l x).length:Int))=true from decide_eq_true (by omega),cond_true,idx_nat,hz,Option.bind_some,contains_dec (by omega),Option.bind_some,wrap_succ (by omega)]
     have hst:((dpI l x).take (i+1)).foldl Gr.push (o,q)=Gr.push (o',q') z:=by rw [List.take_add_one,hz,List.foldl_append,← gn];rfl
     by_cases hzo:z∈o'
     ·rw [decide_eq_true hzo,Bool.not_true,cond_false]
      refine ⟨_,rfl,⟨i+1,rfl,hid,?_⟩,by dsimp only;omega⟩
      rw [hst];exact (if_pos hzo).symm
     ·rw [decide_eq_false hzo,Bool.not_false,cond_true,appP_ok (by simp;omega),Option.bind_some,appP_ok (by simp;omega),Option.bind_some]
      refine ⟨_,rfl,⟨i+1,rfl,hid,?_⟩,by dsimp only;omega⟩
      rw [hst];exact (if_neg hzo).symm
    ·right
     rw [show decide ((i:Int) < ((dpI l x).length:Int))=false from decide_eq_false (by omega),cond_false]
     refine ⟨(o',q'),rfl,?_⟩
     rw [gn,List.take_of_length_le (by omega)]
theorem i_Ready_eq {l:List D_Inst} (ho:Ok.ok l) (h:instsOkB l=true) (hs:smallL l) (id:D_Id):i_Ready l id=some (rdyI l id):=by
 have hl:=insts_len h
 have hr:=reach_len h id
 unfold i_Ready
 rw [i_InstsOk_eq ho,h,Option.bind_some,Bool.not_true,cond_false,show i_Reach l (id.1,id.2)=some (reachI l id) from i_Reach_eq ho h hs id,Option.bind_some,appP_ok (by simp;omega),Option.bind_some]
 rw [each_loop (p:=comI l) (no:=some false) (yes:=some true) (l:=reachI l id++[(id.1,id.2)]) (by simp;omega)]
 ·unfold rdyI
  rw [List.all_append,show ([(id.1,id.2)]:List D_Id).all (comI l)=(comI l id&&true) from rfl,Bool.and_true]
  cases comI l id<;>cases (reachI l id).all (comI l)<;>rfl
 ·intro k x hx
  simp only [lt_dec (List.getElem?_eq_some_iff.1 hx).1,cond_true,idx_nat,hx,Option.bind_some]
  rw [show i_InstAt l (x.1,x.2)=some (atI l x) from i_InstAt_eq (by omega) hs x,Option.bind_some,at_com]
  cases comI l x<;>rfl
 ·simp only [ge_dec];rfl
end Go.Proofs.SL
