/- The texts of the proof, part 7: the base, walks of functions, plain Lean. -/
import Derived.Shelf.SlSortCmp.NoneTotal
import Derived.Test.YtipncebebegacaaGreatT5
import Derived.Test.YtipncebebegacaaGreatT6
import Derived.Lib.Overlaps
import Derived.Lib.AppendZerosOnto
import Derived.Laws.Externs
import Derived.OrdersHeld
namespace Go.Proofs.SL
open Go
section
variable {δ:Type}
def insO (lt:δ→δ→Bool) (x:δ):List δ→List δ
 | []=>[x]
 | y::ys=>if lt y x then y::insO lt x ys else x::y::ys
def isort (lt:δ→δ→Bool) (l:List δ):List δ:=l.foldr (insO lt) []
theorem insO_perm (lt:δ→δ→Bool) (x:δ):∀ l:List δ,(insO lt x l).Perm (x::l)
 | []=>List.Perm.refl _
 | y::ys=>by
  unfold insO
  split
  ·exact ((insO_perm lt x ys).cons y).trans (List.Perm.swap x y ys)
  ·exact List.Perm.refl _
theorem isort_perm (lt:δ→δ→Bool):∀ l:List δ,(isort lt l).Perm l
 | []=>List.Perm.refl _
 | x::l=>(insO_perm lt x _).trans ((isort_perm lt l).cons x)
structure SW0 (lt:δ→δ→Bool):Prop where
 irrefl:∀ x,lt x x=false
 trans:∀ x y z,lt x y=true→lt y z=true→lt x z=true
 ntrans:∀ x y z,lt x y=false→lt y z=false→lt x z=false
theorem insO_sorted {lt:δ→δ→Bool} (h:SW0 lt) {x:δ}:∀ {l:List δ},l.Pairwise (fun a b=>lt b a=false)→(insO lt x l).Pairwise (fun a b=>lt b a=false)
 | [],_=>by unfold insO;simp
 | y::ys,hl=>by
  obtain ⟨h1,h2⟩:=List.pairwise_cons.1 hl
  unfold insO
  split
  ·rename_i hc
   refine List.pairwise_cons.2 ⟨fun z hz=>?_,insO_sorted h h2⟩
   rcases List.mem_cons.1 ((insO_perm lt x ys).mem_iff.1 hz) with rfl | hz
   ·cases hh:lt z y with
    | false=>rfl
    | true=>have:=h.trans _ _ _ hh hc;rw [h.irrefl] at this;cases this
   ·exact h1 z hz
  ·rename_i hc
   have hc:lt y x=false:=by simpa using hc
   refine List.pairwise_cons.2 ⟨fun z hz=>?_,hl⟩
   rcases List.mem_cons.1 hz with rfl | hz
   ·exact hc
   ·exact h.ntrans _ _ _ (h1 z hz) hc
theorem isort_sorted {lt:δ→δ→Bool} (h:SW0 lt):∀ l:List δ,(isort lt l).Pairwise (fun a b=>lt b a=false)
 | []=>List.Pairwise.nil
 | x::l=>insO_sorted h (isort_sorted h l)
theorem sorted_one {lt:δ→δ→Bool}:∀ {l m:List δ},l.Perm m→l.Pairwise (fun a b=>lt b a=false)→m.Pairwise (fun a b=>lt b a=false)→(∀ a b,a∈l→b∈l→lt a b=true∨lt b a=true∨a=b)→l=m
 | [],m,hp,_,_,_=>(List.nil_perm.1 hp).symm
 | a::l,m,hp,hl,hm,ht=>by
  match m,hp,hm with
  | [],hp,_=>exact absurd hp.length_eq (by simp)
  | b::m,hp,hm =>
   obtain ⟨l1,l2⟩:=List.pairwise_cons.1 hl
   obtain ⟨m1,m2⟩:=List.pairwise_cons.1 hm
   have e:a=b:=by
    rcases List.mem_cons.1 (hp.mem_iff.1 (List.mem_cons_self ..)) with e | ha
    ·exact e
    ·rcases List.mem_cons.1 (hp.mem_iff.2 (List.mem_cons_self ..)) with e | hb
     ·exact e.symm
     ·rcases ht a b (List.mem_cons_self ..) (List.mem_cons_of_mem _ hb) with h | h | h
      ·rw [m1 a ha] at h;cases h
      ·rw [l1 b hb] at h;cases h
      ·exact h
   subst e
   rw [sorted_one ((List.perm_cons a).1 hp) l2 m2 fun x y hx hy=>ht x y (List.mem_cons_of_mem _ hx) (List.mem_cons_of_mem _ hy)]
open Classical in
noncomputable def sortD (lt:δ→δ→Bool) (l:List δ):Option (List δ):=if l.length≤4294967296∧∀ a b,a∈l→b∈l→lt a b=true∨lt b a=true∨a=b then some (isort lt l) else none
theorem sortD_some {lt:δ→δ→Bool} {l r:List δ} (h:sortD lt l=some r):l.length≤4294967296∧(∀ a b,a∈l→b∈l→lt a b=true∨lt b a=true∨a=b)∧r=isort lt l:=by
 unfold sortD at h
 split at h
 ·rename_i hc;cases h;exact ⟨hc.1,hc.2,rfl⟩
 ·cases h
theorem sortD_eq {lt:δ→δ→Bool} {l:List δ} (h1:l.length≤4294967296) (h2:∀ a b,a∈l→b∈l→lt a b=true∨lt b a=true∨a=b):sortD lt l=some (isort lt l):=by
 unfold sortD;rw [if_pos ⟨h1,h2⟩]
end
section
variable {τ δ:Type} [GT τ δ]
theorem fp_perm {els ys:List τ} (h:ys.Perm els):(ys.flatMap GT.fp:List Nat).Perm (els.flatMap GT.fp):=h.flatMap_right _
theorem swO {lt:τ→τ→Bool} {ltD:δ→δ→Bool} (hlt:∀ x y,lt x y=ltD (GT.dat x) (GT.dat y)) (hD:SW0 ltD):Sort.SWO lt where
 irrefl x:=by rw [hlt];exact hD.irrefl _
 trans x y z h1 h2:=by rw [hlt] at *;exact hD.trans _ _ _ h1 h2
 ntrans x y z h1 h2:=by rw [hlt] at *;exact hD.ntrans _ _ _ h1 h2
end
theorem extract_all {α:Type} (X:Array α) (n:Nat) (h:X.size=n):X.extract 0 n=X:=by subst h;simp
section
variable {τ δ:Type} [Inhabited τ] [GT τ δ]
theorem rowCells_getO:∀ (ys:List τ) (t:Nat),t < ys.length*GT.sz τ→(rowCells ys)[t]?=(GT.cells (ys.toArray[t / GT.sz τ]!))[t % GT.sz τ]?
 | [],t,h=>by simp at h
 | y::ys,t,h=>by
  have hp:0 < GT.sz τ:=GT.pos
  have hl:(GT.cells y).length=GT.sz τ:=GT.len y
  rw [rowCells_cons]
  rcases Nat.lt_or_ge t (GT.sz τ) with ht | ht
  ·rw [List.getElem?_append_left (by omega),Nat.div_eq_of_lt ht,Nat.mod_eq_of_lt ht];rfl
  ·have h2:t - GT.sz τ < ys.length*GT.sz τ:=by rw [List.length_cons,Nat.add_mul] at h;omega
   rw [List.getElem?_append_right (by omega),hl,rowCells_getO ys _ h2,Nat.mod_eq_sub_mod ht,Nat.div_eq_sub_div hp ht]
   congr 2
   simp
theorem rowCells_flatO (ys:List τ):Sort.flatK (fun x:τ=>GT.cells x) (GT.sz τ) ys.toArray=(rowCells ys).toArray:=by
 have hs:(Sort.flatK (fun x:τ=>GT.cells x) (GT.sz τ) ys.toArray).size=(rowCells ys).toArray.size:=by rw [Sort.size_flatK];simp [length_rowCells]
 refine Sort.ext_get! hs fun t ht=>?_
 have ht':t < ys.toArray.size*GT.sz τ:=by simpa using ht
 have ht2:t < ys.length*GT.sz τ:=by simpa using ht'
 rw [Sort.get_flatK _ _ _ _ ht']
 have h1:=rowCells_getO ys t ht2
 simp only [Array.getElem!_eq_getD,Array.getD_eq_getD_getElem?,List.getElem?_toArray,List.getElem!_eq_getElem?_getD] at h1 ⊢
 rw [h1]
theorem sort_holdsO {w:World} {b:Nat} {e:TypeId} {els:List τ} {tail:List Value} (hb:w.heap[b]?=some (.cells (rowCells els++tail).toArray e (0,0))):Sort.HoldsK (fun x:τ=>GT.cells x) (GT.sz τ) w b 0 els.toArray:=by
 unfold Sort.HoldsK
 rw [rowCells_flatO]
 intro j hj
 have hj':j < (rowCells els).length:=by simpa using hj
 refine ⟨?_,by simp [World.frozen?,hb]⟩
 simp only [World.cell?,hb,Nat.zero_add]
 simp only [Option.isSome_none,Bool.false_eq_true,if_false]
 rw [List.getElem?_toArray,List.getElem?_append_left hj',List.getElem?_eq_getElem hj']
 rw [show (rowCells els).toArray[j]! = (rowCells els)[j] by simp [List.getElem?_eq_getElem hj']];rfl
theorem put_holdsO {w w':World} {b cap n:Nat} {e:TypeId} {els ys:List τ} {tail:List Value} {os:Array Obj}
  (hh:Holds w (fps [treeH (⟨some ⟨b,0,none⟩,cap,e,els,tail⟩:TL τ)]) [treeH (⟨some ⟨b,0,none⟩,cap,e,els,tail⟩:TL τ)] w) (hpm:ys.Perm els)
  (hw:w'=Go.Proofs.sortWorldK (fun x:τ=>GT.cells x) (GT.sz τ) w b 0 n ys.toArray os) :
  Holds w (fps [treeH (⟨some ⟨b,0,none⟩,cap,e,els,tail⟩:TL τ)]) [treeH (⟨some ⟨b,0,none⟩,cap,e,ys,tail⟩:TL τ)] w':=by
 have hlen:ys.length=els.length:=hpm.length_eq
 have ht:GT.ow w (⟨some ⟨b,0,none⟩,cap,e,els,tail⟩:TL τ):=hh.prs _ (List.mem_cons_self ..)
 obtain ⟨h1,h2,h3,h4,h5⟩:=ht
 dsimp only at h1 h2 h3 h4
 obtain ⟨_,_,hb,hl⟩:=h5 _ rfl
 dsimp only at hb hl
 unfold Go.Proofs.sortWorldK Sort.putRowK at hw
 rw [rowCells_flatO] at hw
 have hbl:b < w.heap.size:=(Array.getElem?_eq_some_iff.1 hb).1
 have hw':w'.heap[b]?=some (.cells (rowCells ys++tail).toArray e (0,0)):=by
  subst hw
  rw [Sort.heap_grow_old _ _ (by simpa [Sort.putRow,Sort.mapBlock,Sort.ahead] using hbl)]
  have hp:=put_cells id (rowCells ys) (rowCells els) tail (by rw [length_rowCells,length_rowCells,hlen])
  simp only [Sort.putRow,Sort.mapBlock,Sort.ahead,Array.getElem?_modify,hb,Sort.onCells,if_true,Option.map_some]
  rw [hp,List.map_id]
 have hoth:∀ k,k < w.heap.size→b≠k→w'.heap[k]?=w.heap[k]?:=fun k hk hkb=>by
  subst hw
  rw [Sort.heap_grow_old _ _ (by simpa [Sort.putRow,Sort.mapBlock,Sort.ahead] using hk)]
  simp [Sort.putRow,Sort.mapBlock,Sort.ahead,Array.getElem?_modify,hkb]
 have hsz:w.heap.size≤w'.heap.size:=by subst hw;simp [Sort.putRow,Sort.mapBlock,Sort.ahead]
 have e1:fps [treeH (⟨some ⟨b,0,none⟩,cap,e,els,tail⟩:TL τ)]=b::els.flatMap GT.fp:=by simp only [fps_cons];show ([b]++els.flatMap GT.fp)++fps []=_;simp [fps]
 have e2:fps [treeH (⟨some ⟨b,0,none⟩,cap,e,ys,tail⟩:TL τ)]=b::ys.flatMap GT.fp:=by simp only [fps_cons];show ([b]++ys.flatMap GT.fp)++fps []=_;simp [fps]
 have efp:(fps [treeH (⟨some ⟨b,0,none⟩,cap,e,ys,tail⟩:TL τ)]).Perm (fps [treeH (⟨some ⟨b,0,none⟩,cap,e,els,tail⟩:TL τ)]):=by rw [e1,e2];exact (fp_perm hpm).cons b
 have hnd:=hh.nodup
 rw [e1] at hnd
 refine ⟨by subst hw;rfl,⟨by subst hw;rfl,by subst hw;exact Nat.le_add_right _ _⟩,by subst hw;rfl,hsz,fun k hk hn=>hoth k hk fun e2=>?_,fun x hx=>?_,efp.nodup_iff.2 hh.nodup,fun k hk=>?_⟩
 ·subst e2;exact hn (by rw [e1];exact List.mem_cons_self ..)
 ·obtain rfl:=List.mem_singleton.1 hx
  refine ⟨by dsimp only;omega,h2,fun x hx=>?_,fun h=>(by cases h),fun a ha=>by cases ha;exact ⟨rfl,rfl,hw',by dsimp only;rw [hlen];exact hl⟩⟩
  have hxe:x∈els:=hpm.mem_iff.1 hx
  refine GT.ow_st (fun k hk=>?_) (h3 x hxe)
  have hm:k∈els.flatMap GT.fp:=List.mem_flatMap.2 ⟨x,hxe,hk⟩
  exact hoth k (hh.rng k (by rw [e1];exact List.mem_cons_of_mem _ hm)).2 fun e2=>(List.nodup_cons.1 hnd).1 (by rw [e2];exact hm)
 ·have hk2:=efp.mem_iff.1 hk
  exact ⟨(hh.rng k hk2).1,Nat.lt_of_lt_of_le (hh.rng k hk2).2 hsz⟩
theorem Spec.sortO {P:Program} {f:FuncId} {fv:Value} (w:World) (a0:TL τ) (lt:τ→τ→Bool) (ltD:δ→δ→Bool) (hlt:∀ x y,lt x y=ltD (GT.dat x) (GT.dat y)) (hD:SW0 ltD) (r:List δ) (hp:sortD ltD (GT.dat a0)=some r)
  (h:∀ (b off cap:Nat) (d:Array τ),Sort.HoldsK (fun x:τ=>GT.cells x) (GT.sz τ) w b off d→b < w.heap.size→b∈GT.fp a0→d.size < 4611686018427387904→Calls P f #[.slice (some ⟨b,off,none⟩) d.size cap,fv] w fun e w'=>e=.returned (.tuple #[])∧∃ n os,w'=Go.Proofs.sortWorldK (fun x:τ=>GT.cells x) (GT.sz τ) w b off n (Sort.pdq lt d 0 d.size (Lib.bitLen d.size) true true) os)
  (h0:∀ (p:Option Addr) (cap:Nat),Calls P f #[.slice p 0 cap,fv] w fun e w'=>e=.returned (.tuple #[])∧w'=w) :
  Spec P f #[a0.hdr,fv] w [treeH a0] (fun v M=>∃ y0:TL τ,v=.tuple #[]∧GT.dat y0=r∧M=[treeH y0]∧y0.hdr=a0.hdr):=by
 intro hh
 obtain ⟨hsz,htot,rfl⟩:=sortD_some hp
 have hd:GT.dat a0=a0.els.map GT.dat:=rfl
 rw [hd,List.length_map] at hsz
 have hO:=swO hlt hD
 have hps:=Sort.pdq_sorts lt hO a0.els.toArray 0 a0.els.toArray.size (Lib.bitLen a0.els.length) true true (Nat.zero_le _) (Nat.le_refl _) (Or.inl rfl)
 have hperm:(Sort.pdq lt a0.els.toArray 0 a0.els.length (Lib.bitLen a0.els.length) true true).toList.Perm a0.els:=by
  have h1:=hps.1.2.2
  have h2:=hps.1.1
  simp only [List.size_toArray] at h1 h2
  rw [extract_all _ _ h2,extract_all _ _ (by simp)] at h1
  simpa using h1
 have hsorted:((Sort.pdq lt a0.els.toArray 0 a0.els.length (Lib.bitLen a0.els.length) true true).toList.map GT.dat).Pairwise (fun a b=>ltD b a=false):=by
  rw [List.pairwise_map,List.pairwise_iff_getElem]
  intro i j hi hj hij
  have h2:=hps.2 i j (Nat.zero_le _) hij (by have:=hperm.length_eq;rw [List.size_toArray];omega)
  rw [List.size_toArray] at h2
  rw [hlt] at h2
  have hi':i < (Sort.pdq lt a0.els.toArray 0 a0.els.length (Lib.bitLen a0.els.length) true true).size:=by simpa using hi
  have hj':j < (Sort.pdq lt a0.els.toArray 0 a0.els.length (Lib.bitLen a0.els.length) true true).size:=by simpa using hj
  rw [getElem!_pos _ i hi',getElem!_pos _ j hj'] at h2
  simpa using h2
 have hres:(Sort.pdq lt a0.els.toArray 0 a0.els.length (Lib.bitLen a0.els.length) true true).toList.map GT.dat=isort ltD (GT.dat a0) :=
  sorted_one ((hperm.map GT.dat).trans (isort_perm ltD _).symm) hsorted (isort_sorted hD _) fun a b ha hb=>htot a b ((hperm.map GT.dat).mem_iff.1 ha) ((hperm.map GT.dat).mem_iff.1 hb)
 rcases own_cases hh with ⟨e,tail,rfl⟩ | ⟨b,cap,e,els,tail,rfl,h1,hl,hb,hbl⟩
 ·refine (h0 none 0).mono fun e' w' ⟨he,hw⟩=>?_
  subst hw
  refine ⟨_,_,he,⟨⟨none,0,e,[],tail⟩,rfl,rfl,rfl,rfl⟩,hh⟩
 ·dsimp only at hsz hperm hsorted hres
  have:=h b 0 cap els.toArray (sort_holdsO hb) hbl (by show b∈[b]++_;simp) (by simp;omega)
  rw [List.size_toArray] at this
  generalize Sort.pdq lt els.toArray 0 els.length (Lib.bitLen els.length) true true=ys at this hperm hres
  refine this.mono fun e' w' ⟨he,n,os,hw⟩=>⟨_,_,he,⟨⟨some ⟨b,0,none⟩,cap,e,ys.toList,tail⟩,rfl,hres,rfl,?_⟩,put_holdsO (n:=n) (os:=os) hh hperm hw⟩
  show Value.slice _ ys.toList.length _=Value.slice _ els.length _
  rw [hperm.length_eq]
end
end Go.Proofs.SL
namespace Go.Proofs.SL
open Go
theorem grown_of {W w':World} {M:List HP} (h:Holds W [] M w'):∃ q os',w'=Sort.grow (W.drewN q) os':=by
 refine ⟨w'.drawn - W.drawn,w'.heap.extract W.heap.size w'.heap.size,?_⟩
 have hh:w'.heap=W.heap++w'.heap.extract W.heap.size w'.heap.size:=by
  apply Array.ext_getElem?
  intro i
  rcases Nat.lt_or_ge i W.heap.size with hi | hi
  ·rw [Array.getElem?_append_left hi];exact h.old i hi (by simp)
  ·rw [Array.getElem?_append_right hi]
   rcases Nat.lt_or_ge i w'.heap.size with h2 | h2
   ·rw [Array.getElem?_extract,if_pos (by rw [Nat.min_self];omega),show W.heap.size+(i - W.heap.size)=i by omega]
   ·rw [Array.getElem?_eq_none h2,Array.getElem?_eq_none (by simp;omega)]
 have hd:=h.tape.2
 cases w' with
 | mk heap tape drawn os output =>
  have h1:=h.os
  have h2:=h.tape.1
  have h3:=h.output
  dsimp only at h1 h2 h3 hd hh ⊢
  unfold Sort.grow World.drewN
  dsimp only
  rw [← hh,h1,h2,h3,show W.drawn+(drawn - W.drawn)=drawn by omega]
section
variable {τ δ:Type} [Inhabited τ] [GT τ δ]
theorem Spec.sortC {P:Program} {f g:FuncId} (w:World) (a0:TL τ) (cs:List Value) (cfD:δ→δ→Int) (hD:SW0 (fun x y=>decide (cfD x y < 0))) (r:List δ) (hp:sortD (fun x y=>decide (cfD x y < 0)) (GT.dat a0)=some r)
  (hk:∀ (w':World) (F:List HP) (x y:τ),Holds w (fps [treeH a0]) F w'→Spec P g ([Value.agg (GT.cells x).toArray,Value.agg (GT.cells y).toArray]++cs).toArray w' [] (IsV (.int .i64 (cfD (GT.dat x) (GT.dat y)))))
  (hs:∀ (b off cap:Nat) (d:Array τ),Sort.SWO (Go.Proofs.ltOf fun x y:τ=>cfD (GT.dat x) (GT.dat y))→Go.Proofs.CmpLays P g cs.toArray (fun x:τ=>GT.cells x) (GT.sz τ) (fun x y=>cfD (GT.dat x) (GT.dat y)) b off d.size w→Sort.HoldsK (fun x:τ=>GT.cells x) (GT.sz τ) w b off d→b < w.heap.size→d.size < 4611686018427387904 →
   Calls P f #[.slice (some ⟨b,off,none⟩) d.size cap,.func (.func g) #[] cs.toArray] w fun e w'=>e=.returned (.tuple #[])∧∃ n os,w'=Go.Proofs.sortWorldK (fun x:τ=>GT.cells x) (GT.sz τ) w b off n (Sort.pdq (Go.Proofs.ltOf fun x y:τ=>cfD (GT.dat x) (GT.dat y)) d 0 d.size (Lib.bitLen d.size) true true) os)
  (h0:∀ (p:Option Addr) (cap:Nat),Calls P f #[.slice p 0 cap,.func (.func g) #[] cs.toArray] w fun e w'=>e=.returned (.tuple #[])∧w'=w) :
  Spec P f #[a0.hdr,.func (.func g) #[] cs.toArray] w [treeH a0] (fun v M=>∃ y0:TL τ,v=.tuple #[]∧GT.dat y0=r∧M=[treeH y0]∧y0.hdr=a0.hdr):=by
 intro hh
 refine Spec.sortO w a0 (Go.Proofs.ltOf fun x y:τ=>cfD (GT.dat x) (GT.dat y)) (fun x y=>decide (cfD x y < 0)) (fun x y=>rfl) hD r hp (fun b off cap d hH hb hba hsz=>?_) h0 hh
 have hO:Sort.SWO (Go.Proofs.ltOf fun x y:τ=>cfD (GT.dat x) (GT.dat y)):=swO (fun x y=>rfl) hD
 refine hs b off cap d hO (fun m os dk hdk x y=>?_) hH hb hsz
 obtain ⟨bh,hbh⟩:∃ o,w.heap[b]?=some o:=⟨_,Array.getElem?_eq_getElem hb⟩
 have hW:Holds w (fps [treeH a0]) [] (Go.Proofs.sortWorldK (fun x:τ=>GT.cells x) (GT.sz τ) w b off m dk os):=by
  rcases own_cases hh with ⟨e,tail,rfl⟩ | ⟨b',cap',e,els,tail,rfl,_,_,hb',_⟩
  ·exact absurd hba (by show ¬ b∈([]++[]);simp)
  ·unfold Go.Proofs.sortWorldK Sort.putRowK
   refine ⟨rfl,⟨rfl,Nat.le_add_right _ _⟩,rfl,by simp [Sort.putRow,Sort.mapBlock,Sort.ahead],fun k hk' hn=>?_,fun x hx=>(by cases hx),by simp [fps],fun k hk'=>by simp [fps] at hk'⟩
   have hkb:b≠k:=fun e2=>hn (by rw [← e2];simp only [fps_cons];exact List.mem_append_left _ hba)
   rw [Sort.heap_grow_old _ _ (by simpa [Sort.putRow,Sort.mapBlock,Sort.ahead] using hk')]
   simp [Sort.putRow,Sort.mapBlock,Sort.ahead,Array.getElem?_modify,hkb]
 have hc:=hk _ [] x y hW
 have h0':Holds (Go.Proofs.sortWorldK (fun x:τ=>GT.cells x) (GT.sz τ) w b off m dk os) (fps []) [] (Go.Proofs.sortWorldK (fun x:τ=>GT.cells x) (GT.sz τ) w b off m dk os):=⟨rfl,⟨rfl,Nat.le_refl _⟩,rfl,Nat.le_refl _,fun _ _ _=>rfl,fun x hx=>(by cases hx),by simp [fps],fun k hk=>by simp [fps] at hk⟩
 have hargs:(([Value.agg (GT.cells x).toArray,Value.agg (GT.cells y).toArray]++cs:List Value)).toArray=#[Value.agg (GT.cells x).toArray,Value.agg (GT.cells y).toArray]++cs.toArray:=by simp
 rw [← hargs]
 refine (hc h0').mono fun e w' ⟨v,M',h1,h2,h3⟩=>?_
 obtain ⟨h4,_⟩:=h2
 subst h4
 exact ⟨h1,grown_of h3⟩
open Classical in
noncomputable def sortFn {δ:Type} (l:List δ) (f:δ→δ→Option Int):Option (List δ):=if (∀ x y,∃ v,f x y=some v)∧SW0 (fun x y=>decide ((f x y).getD 0 < 0)) then sortD (fun x y=>decide ((f x y).getD 0 < 0)) l else none
theorem Spec.sortN {P:Program} {f g:FuncId} (w:World) (a0:TL τ) (cs:List Value) (a1:δ→δ→Option Int) (r:List δ) (hp:sortFn (GT.dat a0) a1=some r)
  (hk:∀ (w':World) (F:List HP) (x y:τ) (v:Int),Holds w (fps [treeH a0]) F w'→a1 (GT.dat x) (GT.dat y)=some v→Spec P g ([Value.agg (GT.cells x).toArray,Value.agg (GT.cells y).toArray]++cs).toArray w' [] (IsV (.int .i64 v)))
  (hs:∀ (b off cap:Nat) (d:Array τ),Sort.SWO (Go.Proofs.ltOf fun x y:τ=>(a1 (GT.dat x) (GT.dat y)).getD 0)→Go.Proofs.CmpLays P g cs.toArray (fun x:τ=>GT.cells x) (GT.sz τ) (fun x y=>(a1 (GT.dat x) (GT.dat y)).getD 0) b off d.size w→Sort.HoldsK (fun x:τ=>GT.cells x) (GT.sz τ) w b off d→b < w.heap.size→d.size < 4611686018427387904 →
   Calls P f #[.slice (some ⟨b,off,none⟩) d.size cap,.func (.func g) #[] cs.toArray] w fun e w'=>e=.returned (.tuple #[])∧∃ n os,w'=Go.Proofs.sortWorldK (fun x:τ=>GT.cells x) (GT.sz τ) w b off n (Sort.pdq (Go.Proofs.ltOf fun x y:τ=>(a1 (GT.dat x) (GT.dat y)).getD 0) d 0 d.size (Lib.bitLen d.size) true true) os)
  (h0:∀ (p:Option Addr) (cap:Nat),Calls P f #[.slice p 0 cap,.func (.func g) #[] cs.toArray] w fun e w'=>e=.returned (.tuple #[])∧w'=w) :
  Spec P f #[a0.hdr,.func (.func g) #[] cs.toArray] w [treeH a0] (fun v M=>∃ y0:TL τ,v=.tuple #[]∧GT.dat y0=r∧M=[treeH y0]∧y0.hdr=a0.hdr):=by
 unfold sortFn at hp
 split at hp
 ·rename_i hc
  refine Spec.sortC w a0 cs (fun x y=>(a1 x y).getD 0) hc.2 r hp (fun w' F x y hF=>?_) hs h0
  obtain ⟨v,hv⟩:=hc.1 (GT.dat x) (GT.dat y)
  rw [hv]
  exact hk w' F x y v hF hv
 ·cases hp
end
end Go.Proofs.SL
namespace Go.Proofs.SL
open Go
variable {Γ:Cx} {l:Envl} {M M' M1 M2 F:List HP} {Q:Post} {K:Kont} {w0 w:World} {S0:List Nat} {P:Program}
variable {rest:List Oper} {d:Nat} {ty:TypeId} {pos:String} {af:Array Edge}
def insP {δ:Type} (l:List δ) (i:Int) (x:δ):Option (List δ):=if 0≤i∧i≤l.length∧l.length+1≤1048576 then some (l.take i.toNat++[x]++l.drop i.toNat) else none
theorem insP_some {δ:Type} {l r:List δ} {i:Int} {x:δ} (h:insP l i x=some r):0≤i∧i≤l.length∧l.length+1≤1048576∧r=l.take i.toNat++[x]++l.drop i.toNat:=by
 unfold insP at h
 split at h
 ·rename_i hb;cases h;exact ⟨hb.1,hb.2.1,hb.2.2,rfl⟩
 ·cases h
theorem L_capS {x:Operand} {T:TypeId} {e:TypeId×Nat×Nat×List Value} {a:Option Addr} {n c:Nat} (hn:Nat.blt d Γ.n=true) (hx:ev l x=some (.slice a n c)) (ht:elOf Γ.P T=some e)
  (hk:L Γ rest ((d,.int .i64 c)::l) M K) :
  L Γ ({ dst:=some d,op:=.call { callee:=.builtin .cap,args:=#[x],argTypes:=#[T] },type:=ty,pos:=pos,after:=af,guard:=none }::rest) l M K :=
 L_pure hn (fun a' w ha _=>by
  have:(Builtin.cap_ #[T] ty #[.slice a n c]).run Γ.P w=.ok (.int .i64 c) w:=by
   unfold elOf at ht
   split at ht<;>(try cases ht)
   rename_i e' he
   simp [Builtin.cap_,underlying,he,goInt]
  simp [execOp,resolve,invoke,builtin,ha.eval hx,this]) hk
theorem elOf_parts {T e sz by_:Nat} {z:List Value} (ht:elOf P T=some (e,sz,by_,z)):P.underlying T=some (.slice e)∧∃ i z',P.info? e=some i∧i.size=sz∧i.bytes=by_∧i.zero=some z'∧z'.cells.toList=z:=by
 unfold elOf at ht
 split at ht<;>(try cases ht)
 rename_i e' het
 split at ht<;>(try cases ht)
 rename_i i' hi'
 split at ht<;>cases ht
 rename_i z' hz'
 exact ⟨het,i',z',hi',rfl,rfl,hz',rfl⟩
theorem L_cpRaw {x y:Operand} {T e sz by_ g o n c m c2 q:Nat} {ad:Addr} {z cs vs:List Value} {e2:TypeId} (hx:ev l x=some (.slice (some ⟨g,o,none⟩) n c)) (hy:ev l y=some (.slice (some ad) m c2))
  (hn:Nat.blt d Γ.n=true) (ht:elOf Γ.P T=some (e,sz,by_,z)) (hp:Pick (blk g cs e2) M M1) (hq:q=min m n) (hl:vs.length=q*sz)
  (hsrc:∀ w,Sees Γ.w0 Γ.S0 M w→∀ j v,vs[j]?=some v→w.cell? (ad.add j)=some v) (h1:o+vs.length≤cs.length) (hone:∀ u,u∈vs→u.oneCell'=true)
  (hk:L Γ rest ((d,goInt q)::l) (blk g (cs.take o++vs++cs.drop (o+vs.length)) e2::M1) K) :
  L Γ ({ dst:=some d,op:=.call { callee:=.builtin .copy,args:=#[x,y],argTypes:=#[T,T] },type:=ty,pos:=pos,after:=af,guard:=none }::rest) l M K:=by
 refine L_step rfl rfl (Nat.le_of_ble_eq_true hn) (fun a w ha hw=>?_) hk
 obtain ⟨het,i',z',hi',rfl,rfl,hz',rfl⟩:=elOf_parts ht
 have hs:=hsrc w hw.sees
 have hw1:=hw.perm hp.perm
 have hh:w.heap[g]?=some (.cells cs.toArray e2 (0,0)):=hw1.prs (blk g cs e2) (List.mem_cons_self ..)
 have hld:=run_loadCells_list (P:=Γ.P) (w:=w) ad vs hs
 have hst:=run_store_blk (P:=Γ.P) (fo:=o) (vs:=vs) (ty:=0) hh h1 hone
 subst hq
 rw [hl] at hld
 refine ⟨_,?_,setRow_blk hw1⟩
 have hr:(Builtin.copy_ #[T,T] ty #[.slice (some ⟨g,o,none⟩) n c,.slice (some ad) m c2]).run Γ.P w=.ok (goInt (min m n)) (w.setRow g (cs.take o++vs++cs.drop (o+vs.length)).toArray):=by
  simp [Builtin.copy_,run_underlying het,Builtin.lenOf,Builtin.firstCells,sizeOf,typeInfo,hi',hld,hst]
  show goInt ((min m n:Nat):Int)=_
  congr 1;omega
 simp [execOp,resolve,invoke,builtin,ha.eval hx,ha.eval hy,hr]
 first | done | rfl | (congr 1;rw [Nat.min_def];omega) | (congr 1;omega) | skip
theorem L_appMk {s x:Operand} {T TI e sz by_ g n c k:Nat} {z cs:List Value} {e2:TypeId} (hn:Nat.blt d Γ.n=true) (hs:ev l s=some (.slice (some ⟨g,0,none⟩) n c)) (hx:ev l x=some (.int .i64 k))
  (ht:elOf Γ.P T=some (e,sz,by_,z)) (hti:Γ.P.underlying TI=some (.int .i64)) (hm:blk g cs e2∈M) (hzl:z.length=sz) (hsz:0 < sz) (hb:by_≤32768) (hk0:0 < k) (hroom:c < n+k) (hbd:n+k≤4294967296) (hc:n*sz≤cs.length)
  (hk:∀ b cp,n+k≤cp→cp≤maxLen→L Γ rest ((d,.slice (some ⟨b,0,none⟩) (n+k) cp)::l) (blk b (cs.take (n*sz)++(List.replicate (cp - n) z).flatten) e::M) K) :
  L Γ ({ dst:=some d,op:=.call { callee:=.builtin .append,args:=#[s,x],argTypes:=#[T,TI] },type:=ty,pos:=pos,after:=af,guard:=none }::rest) l M K:=by
 refine L_stepR (fun v M'=>∃ b cp,n+k≤cp∧cp≤maxLen∧v=.slice (some ⟨b,0,none⟩) (n+k) cp∧M'=blk b (cs.take (n*sz)++(List.replicate (cp - n) z).flatten) e::M) rfl rfl (Nat.le_of_ble_eq_true hn)
  (fun a w ha hw=>?_) (fun v M' ⟨b,cp,h0,h1,h2,h3⟩=>by subst h2;subst h3;exact hk b cp h0 h1)
 obtain ⟨het,i',z',hi',rfl,rfl,hz',rfl⟩:=elOf_parts ht
 have hh:w.heap[g]?=some (.cells cs.toArray e2 (0,0)):=hw.prs _ hm
 have hl:(cs.take (n*i'.size)).length=n*i'.size:=by rw [List.length_take];omega
 have hold:(Builtin.firstCells i'.size n (.slice (some ⟨g,0,none⟩) n c)).run Γ.P w.drew=.ok (cs.take (n*i'.size)).toArray w.drew:=by
  have:=run_loadCells_list (P:=Γ.P) (w:=w.drew) ⟨g,0,none⟩ (cs.take (n*i'.size)) (fun j v hj=>by
   rw [addr_add]
   exact cells_at (w:=w.drew) hh 0 (n*i'.size) j v (by simpa using hj))
  rw [hl] at this
  exact this
 have hby:(n+k)*i'.bytes≤140737488355328:=by
  have:=Nat.mul_le_mul hbd hb
  omega
 have hby2:k*i'.bytes≤140737488355328:=Nat.le_trans (Nat.mul_le_mul_right _ (by omega)) hby
 have hrun:=Lib.run_append_grow_zeros (P:=Γ.P) w T TI ty e i' z' .i64 .i64 het hti hi' hz' (some ⟨g,0,none⟩) n c _ hold k hk0 hsz hroom (by omega) (by omega) (growslice_fits hroom hby)
 have hge:=grownCap_ge w (n+k) c e
 have hcm:grownCap w (n+k) c e≤maxLen:=grownCap_le_maxLen w (n+k) c e (by simp only [maxLen];omega)
 have hzc:∀ q,(Builtin.zeroCells z'.cells q).toList=(List.replicate q z'.cells.toList).flatten:=fun q=>flatten_rep z'.cells.toList q
 have ecs:((cs.take (n*i'.size)).toArray++Builtin.zeroCells z'.cells k++Builtin.zeroCells z'.cells (grownCap w (n+k) c e - (n+k)))=(cs.take (n*i'.size)++(List.replicate (grownCap w (n+k) c e - n) z'.cells.toList).flatten).toArray:=by
  apply Array.ext'
  simp only [Array.toList_append,hzc]
  rw [List.append_assoc,← List.flatten_append,List.replicate_append_replicate]
  congr 4;omega
 refine ⟨_,_,w.drew.alloc (.cells (cs.take (n*i'.size)++(List.replicate (grownCap w (n+k) c e - n) z'.cells.toList).flatten).toArray e (0,0)),⟨w.heap.size,grownCap w (n+k) c e,hge,hcm,rfl,rfl⟩,?_,?_⟩
 ·rw [ecs] at hrun
  simp [execOp,resolve,invoke,builtin,ha.eval hs,ha.eval hx,hrun]
 ·exact hw.drew.new rfl
theorem L_ovl {f:Nat} {fn:Func} {x y:Operand} {ats:Array TypeId} {T TB e sz by_ b g o m c lb cb:Nat} {z cs ds:List Value} {e1 e2:TypeId} (hn:Nat.blt d Γ.n=true)
  (hx:ev l x=some (.slice (some ⟨b,0,none⟩) m c)) (hy:ev l y=some (.slice (some ⟨g,o,none⟩) lb cb))
  (hf:Γ.P.funcs[f]?=some fn) (hname:(fn.name == "runtime.NumGoroutine")=false) (hb:fn.body.isNone=true) (hnx:Extern.findNext fn=none) (he:Extern.find fn=some (Extern.SlicesOverlaps.overlaps #[T,T] #[TB]))
  (ht:elOf Γ.P T=some (e,sz,by_,z)) (h1:blk b cs e1∈M) (h2:blk g ds e2∈M) (hne:b≠g) (hd:ds.length≠0) (hk:L Γ rest ((d,.bool false)::l) M K) :
  L Γ ({ dst:=some d,op:=.call { callee:=.value (.func f),args:=#[x,y],argTypes:=ats },type:=ty,pos:=pos,after:=af,guard:=none }::rest) l M K:=by
 refine L_step rfl rfl (Nat.le_of_ble_eq_true hn) (fun a w ha hw=>⟨w,?_,hw⟩) hk
 obtain ⟨het,i',z',hi',rfl,rfl,hz',rfl⟩:=elOf_parts ht
 have hh1:w.heap[b]?=some (.cells cs.toArray e1 (0,0)):=hw.prs _ h1
 have hh2:w.heap[g]?=some (.cells ds.toArray e2 (0,0)):=hw.prs _ h2
 have hs1:w.shape? b=some (e1,cs.length):=by unfold World.shape?;rw [hh1];rfl
 have hs2:w.shape? g=some (e2,ds.length):=by unfold World.shape?;rw [hh2];rfl
 have hfz:∀ j,w.frozen? ⟨b,j,none⟩=false:=fun j=>by unfold World.frozen?;rw [hh1];simp
 have ho:=Lib.run_overlaps_apart (P:=Γ.P) w T TB e het i'.size (fun w=>by simp [sizeOf,typeInfo,hi']) ⟨b,0,none⟩ ⟨g,o,none⟩ m c lb cb hne e1 e2 cs.length ds.length hs1 hs2 hd (hfz 0) (hfz _)
 have hc:=run_callFunc_extern hf hname hb hnx he #[.slice (some ⟨b,0,none⟩) m c,.slice (some ⟨g,o,none⟩) lb cb] w
 rw [ho] at hc
 have h3:execOp a.eval { dst:=some d,op:=.call { callee:=.value (.func f),args:=#[x,y],argTypes:=ats },type:=ty,pos:=pos,after:=af,guard:=none }=callFunc f (#[]++#[x,y].map a.eval++#[]):=by unfold execOp;rfl
 have h4:(#[]++#[x,y].map a.eval++#[]:Array Value)=#[.slice (some ⟨b,0,none⟩) m c,.slice (some ⟨g,o,none⟩) lb cb]:=by simp [ha.eval hx,ha.eval hy]
 rw [h3,h4,hc]
 rfl
theorem els_ins {τ δ:Type} [GT τ δ] {xs:List τ} {x:τ} (i:Nat) (p:Pick (elsT xs) M M1) (q:Pick (treeH x) M1 M2) (h:Holds w0 S0 M w):Holds w0 S0 (elsT (xs.take i++[x]++xs.drop i)::M2) w:=by
 have h1:=h.perm (p.perm.trans (q.perm.cons _))
 have h2:=elsT_app ((elsT_one (h1.perm (List.Perm.swap _ _ _))).perm (List.Perm.swap _ _ _))
 refine h2.reFp ?_ fun y hy=>?_
 ·simp only [fps_cons]
  refine List.Perm.append_right _ ?_
  show List.Perm ((xs++[x]).flatMap GT.fp) ((xs.take i++[x]++xs.drop i).flatMap GT.fp)
  refine List.Perm.flatMap_right _ ?_
  conv=>lhs;rw [← List.take_append_drop i xs]
  rw [List.append_assoc,List.append_assoc]
  exact List.perm_append_comm.append_left _
 ·rcases List.mem_cons.1 hy with rfl | hy
  ·intro z hz
   refine h2.prs (elsT (xs++[x])) (List.mem_cons_self ..) z ?_
   rcases List.mem_append.1 hz with hz | hz
   ·rcases List.mem_append.1 hz with hz | hz
    ·exact List.mem_append_left _ (List.mem_of_mem_take hz)
    ·exact List.mem_append_right _ hz
   ·exact List.mem_append_left _ (List.mem_of_mem_drop hz)
  ·exact h2.prs _ (List.mem_cons_of_mem _ hy)
theorem ins_cells {τ δ:Type} [GT τ δ] (xs:List τ) (x:τ) {i:Nat} (hi:i≤xs.length) (t:List Value) :
  rowCells (xs.take i++[x]++xs.drop i)++t=rowCells (xs.take i)++GT.cells x++rowCells (xs.drop i)++t:=by
 rw [rowCells_append,rowCells_append]
 simp [rowCells]
theorem ins_take {τ δ:Type} [GT τ δ] (xs:List τ) {i:Nat} (hi:i≤xs.length) (t:List Value):(rowCells xs++t).take (i*GT.sz τ)=rowCells (xs.take i):=by
 have h1:rowCells xs=rowCells (xs.take i)++rowCells (xs.drop i):=by rw [← rowCells_append,List.take_append_drop]
 have h2:(rowCells (xs.take i)).length=i*GT.sz τ:=by rw [length_rowCells,List.length_take,Nat.min_eq_left hi]
 rw [h1,List.append_assoc,← h2,List.take_left]
theorem ins_drop {τ δ:Type} [GT τ δ] (xs:List τ) {i:Nat} (hi:i≤xs.length) (t:List Value):(rowCells xs++t).drop (i*GT.sz τ)=rowCells (xs.drop i)++t:=by
 have h1:rowCells xs=rowCells (xs.take i)++rowCells (xs.drop i):=by rw [← rowCells_append,List.take_append_drop]
 have h2:(rowCells (xs.take i)).length=i*GT.sz τ:=by rw [length_rowCells,List.length_take,Nat.min_eq_left hi]
 rw [h1,List.append_assoc,← h2,List.drop_left]
theorem take_len {α:Type} {A B:List α} {k:Nat} (h:A.length=k):(A++B).take k=A:=by subst h;exact List.take_left
theorem drop_len {α:Type} {A B:List α} {k:Nat} (h:A.length=k):(A++B).drop k=B:=by subst h;exact List.drop_left
theorem splice {α:Type} {A B V:List α} {k:Nat} (h:A.length=k):(A++B).take k++V++(A++B).drop (k+V.length)=A++V++B.drop V.length:=by
 rw [take_len h,← List.drop_drop,drop_len h]
theorem len_take {τ δ:Type} [GT τ δ] (xs:List τ) {i:Nat} (hi:i≤xs.length):(rowCells (xs.take i)).length=i*GT.sz τ:=by rw [length_rowCells,List.length_take,Nat.min_eq_left hi]
theorem ins_new {τ δ:Type} [GT τ δ] (xs:List τ) (x:τ) {i:Nat} (hi:i≤xs.length) (t Z cs1 cs2:List Value) (h1:cs1=(rowCells xs++t).take (i*GT.sz τ)++Z) (h2:cs2=cs1.take (i*GT.sz τ)++GT.cells x++cs1.drop (i*GT.sz τ+(GT.cells x).length)) :
  cs2.take ((i+1)*GT.sz τ)++rowCells (xs.drop i)++cs2.drop ((i+1)*GT.sz τ+(rowCells (xs.drop i)).length)=rowCells (xs.take i++[x]++xs.drop i)++(Z.drop (GT.sz τ)).drop (rowCells (xs.drop i)).length:=by
 rw [ins_take xs hi] at h1
 rw [h1,splice (len_take xs hi)] at h2
 rw [h2,splice (A:=rowCells (xs.take i)++GT.cells x) (by rw [List.length_append,len_take xs hi,GT.len,Nat.add_mul,Nat.one_mul]),GT.len,ins_cells xs x hi]
theorem ins_shift {τ δ:Type} [GT τ δ] (xs:List τ) (x:τ) {i:Nat} (hi:i < xs.length) (t cs1:List Value) (ht:GT.sz τ≤t.length)
  (h1:cs1=(rowCells xs++t).take ((i+1)*GT.sz τ)++rowCells (xs.drop i)++(rowCells xs++t).drop ((i+1)*GT.sz τ+(rowCells (xs.drop i)).length)) :
  cs1.take (i*GT.sz τ)++GT.cells x++cs1.drop (i*GT.sz τ+(GT.cells x).length)=rowCells (xs.take i++[x]++xs.drop i)++t.drop (GT.sz τ):=by
 have hl:(rowCells (xs.drop i)).length=(xs.length - i)*GT.sz τ:=by rw [length_rowCells,List.length_drop]
 have e1:(i+1)*GT.sz τ+(rowCells (xs.drop i)).length=xs.length*GT.sz τ+GT.sz τ:=by
  rw [hl,Nat.add_mul,Nat.one_mul,Nat.add_right_comm,← Nat.add_mul];congr 2;omega
 have e2:(rowCells xs++t).drop (xs.length*GT.sz τ+GT.sz τ)=t.drop (GT.sz τ):=by
  rw [← List.drop_drop,drop_len (length_rowCells xs)]
 have e3:(rowCells xs++t).take ((i+1)*GT.sz τ)=rowCells (xs.take (i+1)):=ins_take xs (by omega) t
 have e4:xs.take (i+1)=xs.take i++[xs[i]]:=by rw [List.take_append_getElem]
 rw [e1,e2,e3,e4,rowCells_append] at h1
 have e5:rowCells [xs[i]]=GT.cells xs[i]:=by simp [rowCells]
 rw [e5] at h1
 have h1':cs1=rowCells (xs.take i)++(GT.cells xs[i]++(rowCells (xs.drop i)++t.drop (GT.sz τ))):=by rw [h1];simp only [List.append_assoc]
 rw [h1',splice (len_take xs (by omega)),GT.len,drop_len (GT.len xs[i]),ins_cells xs x (by omega)]
 simp only [List.append_assoc]
theorem row_seg {τ δ:Type} [GT τ δ] (xs:List τ) {i:Nat} (hi:i≤xs.length) (t:List Value):((rowCells xs++t).drop (i*GT.sz τ)).take ((xs.length - i)*GT.sz τ)=rowCells (xs.drop i):=by
 rw [ins_drop xs hi,take_len]
 rw [length_rowCells,List.length_drop]
theorem cells_blk {b o n:Nat} {cs vs:List Value} {T:TypeId} (hm:blk b cs T∈M) (hv:(cs.drop o).take n=vs) (w:World) (hw:Sees w0 S0 M w) (j:Nat) (v:Value) (h:vs[j]?=some v):w.cell? ((⟨b,o,none⟩:Addr).add j)=some v:=by
 subst hv
 rw [addr_add]
 exact cells_at (hw.prs _ hm) o n j v h
theorem blk_ne {b g:Nat} {cs ds:List Value} {T U:TypeId} (p:Pick (blk b cs T) M M1) (q:Pick (blk g ds U) M1 M2) (h:Holds w0 S0 M w):b≠g:=by
 have h1:=(h.perm (p.perm.trans (q.perm.cons _))).nodup
 intro e;subst e
 rw [fps_cons,fps_cons] at h1
 simp [blk] at h1
section
variable {ops:Array Oper} {Msh pool pool':List HP} {E:Fl} {rs:List (Option Nat×Rel)} {cs0:List Nat} {KD:RKont}
end
end Go.Proofs.SL
namespace Go.Proofs.SL
open Go
variable {Γ:Cx} {l l':Envl} {M M' M1 M2 F A:List HP} {Qp:Post} {K:Kont} {w0 w:World} {S0:List Nat}
variable {ops:Array Oper} {fuel:Nat} {listed:Array Bool} {i d:Nat} {o:Oper}
theorem wp_put {P:Program} {a:Act} {next:Act→World→Prop} {Q1 Q2:Exit→Act→World→Prop} (h1:∀ e a w,e≠.normal→¬ Q1 e a w) (hd:∀ a w,next a w→a.defers=[])
  (h:o.wp P a w next Q1):o.wp P a w (fun a' w'=>(∃ u,a'=a.put o.dst u)∧next a' w') Q2:=by
 unfold Oper.wp at h ⊢
 generalize (execOp a.eval o).run P w=r at h ⊢
 cases r with
 | ok n w' =>
  cases n<;>simp only [Oper.upon] at h ⊢
  case value u=>exact ⟨⟨u,rfl⟩,h⟩
  case skip=>exact ⟨⟨_,rfl⟩,h⟩
  case defer df =>
   have:=hd _ _ h
   cases hh:o.dst<;>simp [Act.put,hh] at this
  case enter f args =>
   refine Calls.mono h fun e w'' he=>?_
   cases e with
   | returned u=>exact ⟨⟨u,rfl⟩,he⟩
   | panicked c=>exact (h1 _ _ _ (by simp) he).elim
   | outgrown =>
    obtain ⟨a,w,hq⟩:=he
    exact (h1 _ _ _ (by simp) hq).elim
  case row row args=>exact Rows.mono h fun u w'' he=>⟨⟨u,rfl⟩,he⟩
 | halt x w' =>
  cases x<;>simp only [Oper.upon] at h ⊢
  case panic v=>exact (h1 _ _ _ (by simp) h).elim
theorem L_one (h:L Γ [o] l M K) (hg:o.guard=none) {a:Act} (ha:Env a Γ.n l) (hw:Holds Γ.w0 Γ.S0 M w) {Q2:Exit→Act→World→Prop} :
  o.wp Γ.P a w (fun a' w'=>(∃ u,a'=a.put o.dst u)∧∃ l' M',Env a' Γ.n l'∧Holds Γ.w0 Γ.S0 M' w'∧K l' M') Q2:=by
 have h1:=h #[] a w (fun e a' w'=>e=.normal∧∃ l' M',Env a' Γ.n l'∧Holds Γ.w0 Γ.S0 M' w'∧K l' M') ha hw (fun a' w' l' M' q1 q2 q3=>⟨rfl,l',M',q1,q2,q3⟩)
 unfold wpList at h1
 simp only [Region.wanted,hg,if_true] at h1
 rcases h1 with h1 | ⟨_,a,w,h1⟩
 ·refine Oper.wp_mono (fun a' w' h2=>⟨h2.1,h2.2.2⟩) (wp_put (fun e a w he hq=>he hq.1) (fun a w hq=>?_) h1)
  obtain ⟨_,l',M',h3,_⟩:=hq
  exact h3.defers
 ·cases h1.1
def AllIn:List HP→List HP→Prop
 | [],_=>True
 | h::hs,M=>h∈M∧AllIn hs M
theorem AllIn.mem:∀ {A M:List HP},AllIn A M→∀ x,x∈A→x∈M
 | _::_,_,h,x,hx=>by
  rcases List.mem_cons.1 hx with rfl | hx
  ·exact h.1
  ·exact AllIn.mem h.2 x hx
structure Pu (Γ:Cx) (A:List HP) (l:Envl) (o:Oper) (d:Nat) (v:Value):Prop where
 dst:o.dst=some d
 lt:d < Γ.n
 gd:o.guard=none
 pu:∀ a w,Env a Γ.n l→Sees Γ.w0 Γ.S0 A w→(execOp a.eval o).run Γ.P w=.ok (.value v) w
def AH (Γ:Cx) (ops:Array Oper) (A:List HP) (Qp:Post) (fuel:Nat) (listed:Array Bool) (l:Envl) (M:List HP):Prop :=
 ∀ a w,Env a Γ.n l→Holds Γ.w0 Γ.S0 M w→wpAnyH Γ.P .any ops (liftQ Γ Qp) (Sees Γ.w0 Γ.S0 A) fuel listed a w
theorem W_AH (A:List HP) {id:Nat} (hm:Γ.P.follows .mixedOrders=true) (h:AH Γ ops A Qp ops.size (Array.replicate ops.size false) l M):W Γ (.region id ops true) l M Qp:=fun a w ha hw =>
 wp_region_held hm (h a w.drew ha hw.drew)
theorem AH_done (hr:Region.ready .any ops listed=[]) (h:Qp .normal l M):AH Γ ops A Qp fuel listed l M:=fun _ _ ha hw=>wpAnyH_done hr ⟨l,M,ha,hw,h⟩ fuel
theorem AH_take {v:Value} (i:Nat) (hi:ops[i]?=some o) (hp:Pu Γ A l o d v) (hs:Region.noSelect ops=true) (hf:Region.free .any ops listed i=true) (hr:(Region.ready .any ops listed).contains i=true)
  (hA:AllIn A M) (hk:AH Γ ops A Qp fuel (listed.setIfInBounds i true) ((d,v)::l) M):AH Γ ops A Qp (fuel+1) listed l M:=fun a w ha hw =>
 wpAnyH_take hi hs hf hr (fun _ _ _ h=>h) (.inl ⟨by simp [Region.wanted,hp.gd],fun w hw=>hp.pu a w ha hw⟩) (hw.seesSub hA.mem) (hk _ w (by rw [hp.dst];exact ha.put hp.lt) hw)
theorem drop_get {α:Type} {xs:Array α} {i:Nat} {o:α} {rest:List α} (h:xs.toList.drop i=o::rest):xs[i]?=some o:=by
 rw [← Array.getElem?_toList]
 have:=congrArg (fun l=>l[0]?) h
 simpa [List.getElem?_drop] using this
theorem AH_one (i:Nat) {rest':List Oper} (hi:ops.toList.drop i=o::rest') (hg:o.guard=none) (hr:Region.ready .any ops listed=[i])
  (h:L Γ [o] l M (fun l' M'=>AllIn A M'∧AH Γ ops A Qp fuel (listed.setIfInBounds i true) l' M')):AH Γ ops A Qp (fuel+1) listed l M:=fun a w ha hw =>
 wpAnyH_all hr (by simp) fun j hj=>by
  rw [List.mem_singleton.1 hj]
  unfold wpOp
  rw [drop_get hi]
  simp only [Region.wanted,hg,if_true]
  refine .inl (Oper.wp_mono (fun a' w' h1=>?_) (L_one h hg ha hw))
  obtain ⟨_,l',M',h1,h2,h3,h4⟩:=h1
  exact ⟨h2.seesSub h3.mem,h4 a' w' h1 h2⟩
variable {al da:Nat} {z:List Value} {T:TypeId}
section
variable {ty:TypeId} {pos:String} {af:Array Edge} {P:Program}
theorem PU_pure {op:Op} {v:Value} (hn:Nat.blt d Γ.n=true) (he:∀ a w,Env a Γ.n l→Sees Γ.w0 Γ.S0 A w→(execOp a.eval { dst:=some d,op,type:=ty,pos,after:=af,guard:=none }).run Γ.P w=.ok (.value v) w) :
  Pu Γ A l { dst:=some d,op,type:=ty,pos,after:=af,guard:=none } d v:=⟨rfl,Nat.le_of_ble_eq_true hn,rfl,he⟩
theorem PU_move {x:Operand} {v:Value} (hn:Nat.blt d Γ.n=true) (hx:ev l x=some v):Pu Γ A l { dst:=some d,op:=.move x,type:=ty,pos,after:=af,guard:=none } d v :=
 PU_pure hn fun a w ha _=>by simp [execOp,ha.eval hx]
theorem PU_load0 {x:Operand} {T g off:Nat} {cs:List Value} {v:Value} (hn:Nat.blt d Γ.n=true) (hx:ev l x=some (.pointer (some ⟨g,off,none⟩))) (hc:RdC Γ A g off cs) (ht:oneOf Γ.P T=true)
  (hv:cs[0]?=some v):Pu Γ A l { dst:=some d,op:=.load T x,type:=ty,pos:=pos,after:=af,guard:=none } d v :=
 PU_pure hn fun a' w ha hw=>by
  have:=hc w hw 0 v hv
  simp only [Nat.add_zero] at this
  simp [execOp,ha.eval hx,Instr.loadAt,Instr.sureAddr,loadVar,run_isAgg_one ht,this]
theorem PU_loadW {x:Operand} {T g off:Nat} {cs:List Value} (hn:Nat.blt d Γ.n=true) (hx:ev l x=some (.pointer (some ⟨g,off,none⟩))) (hc:RdC Γ A g off cs) (ht:aggOf Γ.P T=some cs.length) :
  Pu Γ A l { dst:=some d,op:=.load T x,type:=ty,pos:=pos,after:=af,guard:=none } d (.agg cs.toArray) :=
 PU_pure hn fun a' w ha hw=>by
  have hl:=run_loadCells_at (P:=Γ.P) (hc w hw)
  simp [execOp,ha.eval hx,Instr.loadAt,Instr.sureAddr,loadVar,run_isAgg_agg ht,hl]
section
variable {τ δ:Type} [GT τ δ]
theorem slc_ex {X:TL τ} {a b:Int} {r:List δ} (hr:slcP (GT.dat X) a b=some r):∃ X':TL τ,X'=slc X a.toNat b.toNat∧GT.dat X'=r:=by
 obtain ⟨s0,s1,s2,s3⟩:=slcP_some hr
 exact ⟨_,rfl,by rw [s3,dat_els,dat_els];simp [slc,List.map_take,List.map_drop]⟩
end
end
theorem wpAnyH_S {P:Program} {Q:Exit→Act→World→Prop} {S S':World→Prop} (hs:∀ w,S' w→S w):∀ (fuel:Nat) (listed:Array Bool) (a:Act) (w:World),wpAnyH P .any ops Q S' fuel listed a w→wpAnyH P .any ops Q S fuel listed a w
 | 0,_,_,_,h=>h
 | fuel+1,_,_,_,h=>⟨h.1,fun i hi=>wpOp_mono (fun a' w' h'=>⟨hs _ h'.1,wpAnyH_S hs fuel _ a' w' h'.2⟩) (h.2 i hi)⟩
theorem AH_A (A':List HP) (hs:AllIn A A') (h:AH Γ ops A' Qp fuel listed l M):AH Γ ops A Qp fuel listed l M:=fun a w ha hw =>
 wpAnyH_S (fun w h=>⟨h.old,fun x hx=>h.prs x (hs.mem x hx)⟩) _ _ _ _ (h a w ha hw)
end Go.Proofs.SL
namespace Go.Proofs.SL
open Go
variable {Γ:Cx} {l:Envl} {M M' M1 M2 F Mr:List HP} {Q:Post} {K:Kont} {w0 w:World} {S0 S:List Nat} {P:Program}
variable {rest:List Oper} {d:Nat} {ty:TypeId} {pos:String} {af:Array Edge}
structure EL (τ:Type) where
 els:List τ
instance {τ δ:Type} [GT τ δ]:GT (EL τ) Unit where
 sz:=1
 pos:=by decide
 cells _:=[.bool false]
 len _:=rfl
 one _ v hv:=by simp at hv;subst hv;rfl
 rd w S t:=∀ x,x∈t.els→GT.rd w S x
 fp _:=[]
 ow _ _:=False
 dat _:=()
 rd_mono h hm:=fun x hx=>GT.rd_mono (h x hx) hm
 ow_st _ h:=h
 ow_rd h _:=h.elim
section
variable {τ δ:Type} [GT τ δ] {t:τ}
theorem no_fp (hw:Holds w0 S0 (M1++M2) w) {h:HP} (hm:h∈M2):∀ k,k∈h.fp→k ∉ fps M1:=fun k hk hk1=>by
 have hnd:=hw.nodup
 rw [fps_append] at hnd
 exact (List.nodup_append.1 hnd).2.2 k hk1 k (List.mem_flatMap.2 ⟨_,hm,hk⟩) rfl
theorem RdT.els {xs:List τ} (h:elsT xs∈M):RdT Γ M (EL.mk xs):=fun w hw x hx=>GT.ow_rd (hw.prs _ h x hx) fun _ _ h=>by cases h
theorem RdX.els {xs:List τ} (h:elsT xs∈M2):RdX Γ M1 M2 (EL.mk xs):=fun w hw x hx=>GT.ow_rd (hw.prs _ (List.mem_append_right _ h) x hx) fun k hk=>no_fp hw h k (List.mem_flatMap.2 ⟨x,hx,hk⟩)
end
structure PC (Mr:List HP) (w:World) (S:List Nat):Prop where
 prs:∀ h,h∈Mr→h.pr w
 ds:∀ k,k∈fps Mr→k ∉ S
theorem PC.fp (h:PC Mr w S) {x:HP} (hm:x∈Mr):∀ k,k∈x.fp→k ∉ S:=fun k hk=>h.ds k (List.mem_flatMap.2 ⟨x,hm,hk⟩)
def RdP {τ δ:Type} [GT τ δ] (Mr:List HP) (w:World) (S:List Nat) (t:τ):Prop:=PC Mr w S→GT.rd w S t
section
variable {τ δ:Type} [GT τ δ] {t:τ}
theorem RdP.old (h:GT.rd w S t):RdP Mr w S t:=fun _=>h
theorem RdP.tree (h:treeH t∈Mr):RdP Mr w S t:=fun hp=>GT.ow_rd (hp.prs _ h) (hp.fp h)
theorem RdP.fst {α β δ ε:Type} [GT α δ] [GT β ε] {t:α×β} (h:RdP Mr w S t):RdP Mr w S t.1:=fun hp=>(h hp).1
theorem RdP.snd {α β δ ε:Type} [GT α δ] [GT β ε] {t:α×β} (h:RdP Mr w S t):RdP Mr w S t.2:=fun hp=>(h hp).2
theorem RdP.of {X:TL τ} {j:Nat} {x:τ} (h:RdP Mr w S X) (hi:X.els[j]?=some x):RdP Mr w S x:=fun hp=>(h hp).2.2.1 x (List.mem_of_getElem? hi)
theorem RdP.pair {α β δ ε:Type} [GT α δ] [GT β ε] {a:α} {b:β} (h1:RdP Mr w S a) (h2:RdP Mr w S b):RdP Mr w S (a,b):=fun hp=>⟨h1 hp,h2 hp⟩
theorem RdP.int {n:Int}:RdP Mr w S n:=fun _=>trivial
theorem RdP.bool {n:Bool}:RdP Mr w S n:=fun _=>trivial
theorem RdP.str {n:ByteArray}:RdP Mr w S n:=fun _=>trivial
theorem RdP.u8 {n:UInt8}:RdP Mr w S n:=fun _=>trivial
theorem RdP.nil (e:TypeId):RdP Mr w S (TL.nil τ e):=fun _=>nil_rd e
theorem RdP.map {α δ':Type} [GT α δ'] {a:α} (f:∀ w S,GT.rd w S a→GT.rd w S t) (h:RdP Mr w S a):RdP Mr w S t:=fun hp=>f w _ (h hp)
theorem RdP.map2 {α β δ' ε:Type} [GT α δ'] [GT β ε] {a:α} {b:β} (f:∀ w S,GT.rd w S a→GT.rd w S b→GT.rd w S t) (h:RdP Mr w S a) (h2:RdP Mr w S b):RdP Mr w S t:=fun hp=>f w _ (h hp) (h2 hp)
theorem RdP.els {xs:List τ} (h:elsT xs∈Mr):RdP Mr w S (EL.mk xs):=fun hp x hx=>GT.ow_rd (hp.prs _ h x hx) fun k hk=>hp.fp h k (List.mem_flatMap.2 ⟨x,hx,hk⟩)
end
section
variable {τ δ:Type} [GT τ δ] [FlatT τ]
theorem flat_rd (x:τ) (w:World) (S:List Nat):GT.rd w S x:=GT.ow_rd ((FlatT.flat x).ow w) fun k hk=>by rw [(FlatT.flat x).fp] at hk;cases hk
def slB (Y:TL τ):List Nat:=match Y.a with | none=>[] | some a=>[a.block]
theorem rd_block {Y:TL τ} {w w':World} {S S':List Nat} (h:GT.rd w S Y) (hb:∀ k,k∈slB Y→w'.heap[k]?=w.heap[k]?) (hs:∀ k,k∈slB Y→k ∉ S'):GT.rd w' S' Y :=
 ⟨h.1,h.2.1,fun x _=>flat_rd x _ _,h.2.2.2.1,fun a ha=>⟨(h.2.2.2.2 a ha).1,fun j v hv=>by
  have h1:=(h.2.2.2.2 a ha).2 j v hv
  have h2:a.block∈slB Y:=by unfold slB;rw [ha];simp
  exact ⟨by rw [World.cell?_of_block (w:=w) (a:=⟨a.block,a.off+j,none⟩) (hb _ h2)];exact h1.1,hs _ h2⟩⟩⟩
end
section
variable {τ δ:Type} [GT τ δ]
def vwP (w:World) (Y:TL τ):Prop:=(Y.a=none→Y.cap=0)∧∀ a,Y.a=some a→a.spot=none∧∃ cur e2,w.heap[a.block]?=some (.cells cur e2 (0,0))∧a.off+Y.cap*GT.sz τ≤cur.size
theorem vw_st {Y:TL τ} {w w':World} (hb:∀ k,k∈slB Y→w'.heap[k]?=w.heap[k]?) (h:vwP w Y):vwP w' Y :=
 ⟨h.1,fun a ha=>by
  obtain ⟨h1,cur,e2,h2,h3⟩:=h.2 a ha
  exact ⟨h1,cur,e2,by rw [hb a.block (by unfold slB;rw [ha];simp)];exact h2,h3⟩⟩
theorem vw_tree {X:TL τ} {w:World} (h:GT.ow w X):vwP w X :=
 ⟨fun ha=>(h.2.2.2.1 ha).2,fun a ha=>by
  obtain ⟨h1,h2,h3,h4⟩:=h.2.2.2.2 a ha
  exact ⟨h1,_,_,h3,by rw [h2];simp [length_rowCells];omega⟩⟩
end
section
variable {τ δ:Type} [GT τ δ] [FlatT τ]
def flH (Y:TL τ):HP:=⟨slB Y,fun w=>GT.rd w [] Y∧vwP w Y,fun _ _ hb h=>⟨rd_block h.1 hb fun _ _ h=>(by cases h),vw_st hb h.2⟩⟩
theorem RdT.fl {Y:TL τ} (h:flH Y∈M):RdT Γ M Y:=fun _ hw=>(hw.prs _ h).1
theorem RdX.fl {Y:TL τ} (h:flH Y∈M2):RdX Γ M1 M2 Y:=fun _ hw=>rd_block (hw.prs (flH Y) (List.mem_append_right _ h)).1 (fun _ _=>rfl) (no_fp hw h)
theorem RdP.fl {Y:TL τ} (h:flH Y∈Mr):RdP Mr w S Y:=fun hp=>rd_block (hp.prs (flH Y) h).1 (fun _ _=>rfl) (hp.fp h)
theorem fps_flat' (xs:List τ):xs.flatMap GT.fp=[]:=List.flatMap_eq_nil_iff.2 fun x _=>(FlatT.flat x).fp
end
section
variable {τ δ:Type} [GT τ δ]
theorem slB_slc (X:TL τ) (lo hi:Nat):slB (slc X lo hi)=slB X:=by
 unfold slB slc
 dsimp only
 cases ha:X.a with
 | none=>simp
 | some a =>
  split
  ·rename_i h;split at h<;>simp at h
  ·rename_i b h
   split at h
   ·cases h;rfl
   ·simp only [Option.map_some,Option.some.injEq] at h
    subst h
    unfold Addr.add;split<;>rfl
end
section
variable {τ δ:Type} [GT τ δ]
theorem vw_slc {X Y:TL τ} {w:World} {a b:Int} {r:List δ} (he:Y=slc X a.toNat b.toNat) (hs:slcP (GT.dat X) a b=some r) (hr:GT.rd w [] X) (h:vwP w X):vwP w Y:=by
 obtain ⟨s0,s1,s2,-⟩:=slcP_some hs
 rw [dat_els,List.length_map] at s2
 have hc:a.toNat≤X.cap:=by have:=hr.1;omega
 subst he
 constructor
 ·intro ha
  have ha':(if X.cap=a.toNat then X.a else X.a.map (·.add (a.toNat*GT.sz τ)))=none:=ha
  have:X.a=none:=by split at ha'<;>simpa using ha'
  show X.cap - a.toNat=0
  rw [h.1 this];omega
 ·intro ad ha
  have ha':(if X.cap=a.toNat then X.a else X.a.map (·.add (a.toNat*GT.sz τ)))=some ad:=ha
  show ad.spot=none∧∃ cur e2,w.heap[ad.block]?=some (.cells cur e2 (0,0))∧ad.off+(X.cap - a.toNat)*GT.sz τ≤cur.size
  by_cases hcl:X.cap=a.toNat
  ·rw [if_pos hcl] at ha'
   obtain ⟨h1,cur,e2,h2,h3⟩:=h.2 ad ha'
   exact ⟨h1,cur,e2,h2,by rw [hcl,Nat.sub_self,Nat.zero_mul];omega⟩
  ·rw [if_neg hcl] at ha'
   obtain ⟨x,hx,rfl⟩:=Option.map_eq_some_iff.1 ha'
   obtain ⟨h1,cur,e2,h2,h3⟩:=h.2 x hx
   obtain ⟨g,o,sp⟩:=x
   dsimp only at h1 h2 h3
   subst h1
   rw [addr_add]
   refine ⟨rfl,cur,e2,h2,?_⟩
   dsimp only
   have:(X.cap - a.toNat)*GT.sz τ+a.toNat*GT.sz τ=X.cap*GT.sz τ:=by rw [← Nat.add_mul];congr 1;omega
   omega
end
section
variable {τ δ:Type} [GT τ δ] [FlatT τ]
theorem fl_of_tree {X:TL τ} (p:Pick (treeH X) M M1) (h:Holds w0 S0 M w):Holds w0 S0 (flH X::M1) w:=by
 have h1:=h.perm p.perm
 refine h1.reFp (List.Perm.of_eq ?_) fun y hy=>?_
 ·rw [fps_cons,fps_cons]
  show (slB X++X.els.flatMap GT.fp)++fps M1=slB X++fps M1
  rw [fps_flat',List.append_nil]
 ·rcases List.mem_cons.1 hy with rfl | hy
  ·have ho:GT.ow w X:=h1.prs (treeH X) (List.mem_cons_self ..)
   exact ⟨GT.ow_rd ho fun _ _ h=>(by cases h),vw_tree ho⟩
  ·exact h1.prs _ (List.mem_cons_of_mem _ hy)
theorem fl_slc {X Y:TL τ} {a b:Int} {r:List δ} (he:Y=slc X a.toNat b.toNat) (hs:slcP (GT.dat X) a b=some r) (p:Pick (flH X) M M1) (h:Holds w0 S0 M w):Holds w0 S0 (flH Y::M1) w:=by
 have h1:=h.perm p.perm
 refine h1.reFp (List.Perm.of_eq ?_) fun y hy=>?_
 ·rw [fps_cons,fps_cons]
  show slB X++fps M1=slB Y++fps M1
  rw [he,slB_slc]
 ·rcases List.mem_cons.1 hy with rfl | hy
  ·have hf:=h1.prs (flH X) (List.mem_cons_self ..)
   exact ⟨slcE_rd he hs _ _ hf.1,vw_slc he hs hf.1 hf.2⟩
  ·exact h1.prs _ (List.mem_cons_of_mem _ hy)
end
section
variable {τ δ:Type} [GT τ δ]
end
theorem dat_u8 (x:UInt8):(GT.dat x:UInt8)=x:=rfl
end Go.Proofs.SL
namespace Go.Proofs.SL
open Go
variable {Γ:Cx} {l l':Envl} {M M' M1 M2 F A:List HP} {Qp:Post} {K:Kont} {w0 w:World} {S0:List Nat}
variable {ops:Array Oper} {fuel:Nat} {listed:Array Bool} {i d:Nat} {o:Oper}
theorem g_of_hdr {τ:Type} {X Y:TL τ} (h:Y.hdr=X.hdr):Y.g=X.g:=by
 unfold TL.hdr at h;injection h with h1 h2 h3
 unfold TL.g;rw [h1]
theorem o_of_hdr {τ:Type} {X Y:TL τ} (h:Y.hdr=X.hdr):Y.o=X.o:=by
 unfold TL.hdr at h;injection h with h1 h2 h3
 unfold TL.o;rw [h1]
def Closed (ops:Array Oper) (listed:Array Bool):Prop:=∀ k o,ops[k]?=some o→listed.getD k false=true→∀ e,e∈o.after→Region.binds .any e=true→listed.getD e.on false=true
theorem Closed.set (hc:Closed ops listed) {j:Nat} (hj:j∈Region.ready .any ops listed):Closed ops (listed.setIfInBounds j true):=fun k o hk hl e he hb=>by
 by_cases h:j=k
 ·subst h
  obtain ⟨_,o',ho',hall⟩:=mem_ready.1 hj
  rw [hk] at ho';cases ho'
  exact getD_set_true (hall e he hb)
 ·rw [getD_set_ne false h] at hl
  exact getD_set_true (hc k o hk hl e he hb)
variable {last:Nat}
section
variable {ty:TypeId} {pos:String} {af:Array Edge}
end
end Go.Proofs.SL
namespace Go.Proofs.SL
open Go
variable {Γ:Cx} {rest:List Oper} {d:Nat} {ty:TypeId} {pos:String} {af:Array Edge} {gd:Option (Nat×Bool)}
variable {ops:Array Oper} {Msh pool:List HP} {E:Fl} {rs:List (Option Nat×Rel)} {cs0:List Nat} {KD:RKont}
end Go.Proofs.SL
namespace Go.Proofs.SL
open Go
variable {Γ:Cx} {l:Envl} {M A:List HP} {K:Kont} {rest:List Oper} {d:Nat} {ty:TypeId} {pos:String} {af:Array Edge}
def fld1 (P:Program) (T:TypeId) (f:Nat):Option Nat:=match P.underlying T with
 | some (.struct fs)=>match fs[f]? with
  | some x=>if oneOf P x.type then some x.offset else none
  | none=>none
 | _=>none
theorem run_fieldV {P:Program} {T f fo:Nat} {cs:List Value} {v:Value} (ht:fld1 P T f=some fo) (hv:cs[fo]?=some v) (w:World):(Instr.field T (.agg cs.toArray) f).run P w=.ok v w:=by
 unfold fld1 at ht
 split at ht<;>(try cases ht)
 rename_i fs hfs
 split at ht<;>(try cases ht)
 rename_i x hx
 split at ht<;>cases ht
 rename_i h1
 simp [Instr.field,underlying,hfs,hx,asAgg,part,run_isAgg_one h1,hv]
theorem L_field {x:Operand} {T f fo:Nat} {cs:List Value} {v:Value} (hn:Nat.blt d Γ.n=true) (hx:ev l x=some (.agg cs.toArray)) (ht:fld1 Γ.P T f=some fo) (hv:cs[fo]?=some v) (hk:L Γ rest ((d,v)::l) M K) :
  L Γ ({ dst:=some d,op:=.field T x f,type:=ty,pos:=pos,after:=af,guard:=none }::rest) l M K :=
 L_pure hn (fun a w ha _=>by simp [execOp,ha.eval hx,run_fieldV ht hv w]) hk
theorem PU_field {x:Operand} {T f fo:Nat} {cs:List Value} {v:Value} (hn:Nat.blt d Γ.n=true) (hx:ev l x=some (.agg cs.toArray)) (ht:fld1 Γ.P T f=some fo) (hv:cs[fo]?=some v) :
  Pu Γ A l { dst:=some d,op:=.field T x f,type:=ty,pos:=pos,after:=af,guard:=none } d v :=
 PU_pure hn fun a w ha _=>by simp [execOp,ha.eval hx,run_fieldV ht hv w]
end Go.Proofs.SL
namespace Go.Proofs.SL
open Go
variable {Γ:Cx} {l:Envl} {M M' M1 M2 F:List HP} {Q:Post} {K:Kont} {w0 w:World} {S0:List Nat}
variable {rest:List Oper} {d:Nat} {ty:TypeId} {pos:String} {af:Array Edge}
def WL (Γ:Cx) (c:Code) (l:Envl) (M:List HP) (Q:Post):Prop:=∀ a w,Env a Γ.n l→Holds Γ.w0 Γ.S0 M w→∀ (b:Frame) (k:List Item) (cs:List Frame),
 ∃ e a' w',liftQ Γ Q e a' w'∧Arrives Γ.P (lone (b.at a (.code c::.inLoop c::k)) cs w) b k cs e a' w'
theorem W_peel {c:Code} (h:W Γ c l M (thenQ (fun l' M'=>WL Γ c l' M' Q) Q)):W Γ (.loop c) l M Q:=by
 intro a w ha hw b k cs
 obtain ⟨e,a₁,w₁,hq,harr⟩:=h a w ha hw b (.inLoop c::k) cs
 have key:∃ e a' w',liftQ Γ Q e a' w'∧Arrives Γ.P (lone (b.at a (.code c::.inLoop c::k)) cs w) b k cs e a' w':=by
  cases e with
  | normal =>
   obtain ⟨l',M',h1,h2,h3⟩:=hq
   obtain ⟨e₂,a₂,w₂,hq₂,harr₂⟩:=h3 a₁ w₁ h1 h2 b k cs
   exact ⟨e₂,a₂,w₂,hq₂,.of_steps (Steps.trans harr (.one step_inLoop)) harr₂⟩
  | exit id=>exact ⟨.exit id,a₁,w₁,hq,.pass (x:=.inLoop c) rfl (fun _ _=>.inl (by simp)) harr⟩
  | goto l=>exact ⟨.goto l,a₁,w₁,hq,.pass (x:=.inLoop c) rfl (fun _ _=>.inl (by simp)) harr⟩
  | ret=>exact ⟨.ret,a₁,w₁,hq,.pass (x:=.inLoop c) rfl (fun _ _=>.inl (by simp)) harr⟩
  | panic ch=>exact hq.elim
  | outgrown=>exact hq.elim
 obtain ⟨e,a',w',hq,harr⟩:=key
 exact ⟨e,a',w',hq,.of_steps (.one step_loop) harr⟩
theorem WL_loop {σ:Type} {c:Code} (E:σ→Envl) (Mf:σ→List HP) (I:σ→Prop) (μ:σ→Nat) (s0:σ) (h0:I s0) (hl:Sub (E s0) l) (hm:MSub (Mf s0) M)
  (round:∀ s,I s→W Γ c (E s) (Mf s) (thenQ (fun l' M'=>∃ s',Sub (E s') l'∧MSub (Mf s') M'∧I s'∧μ s' < μ s) Q)):WL Γ c l M Q:=by
 intro a0 w0 ha0 hw0 b k cs
 have key:∀ n s a w,μ s=n→I s→Env a Γ.n (E s)→Holds Γ.w0 Γ.S0 (Mf s) w →
   ∃ e a' w',liftQ Γ Q e a' w'∧Arrives Γ.P (lone (b.at a (.code c::.inLoop c::k)) cs w) b k cs e a' w':=by
  intro n
  induction n using Nat.strongRecOn with
  | _ n ih =>
   intro s a w hn hI ha hw
   obtain ⟨e,a₁,w₁,hq,harr⟩:=round s hI a w ha hw b (.inLoop c::k) cs
   cases e with
   | normal =>
    obtain ⟨l',M',h1,h2,s',h3,h4,h5,h6⟩:=hq
    obtain ⟨e₂,a₂,w₂,hq₂,harr₂⟩:=ih (μ s') (hn ▸ h6) s' a₁ w₁ rfl h5 (h1.sub h3) (h2.sub h4)
    exact ⟨e₂,a₂,w₂,hq₂,.of_steps (Steps.trans harr (.one step_inLoop)) harr₂⟩
   | exit id=>exact ⟨.exit id,a₁,w₁,hq,.pass (x:=.inLoop c) rfl (fun _ _=>.inl (by simp)) harr⟩
   | goto l=>exact ⟨.goto l,a₁,w₁,hq,.pass (x:=.inLoop c) rfl (fun _ _=>.inl (by simp)) harr⟩
   | ret=>exact ⟨.ret,a₁,w₁,hq,.pass (x:=.inLoop c) rfl (fun _ _=>.inl (by simp)) harr⟩
   | panic ch=>exact hq.elim
   | outgrown=>exact hq.elim
 exact key _ s0 a0 w0 rfl h0 (ha0.sub hl) (hw0.sub hm)
theorem WL_while {σ δ A:Type} {c:Code} {f:δ→Option (δ ⊕ A)} {r:A} (dat:σ→δ) (Ev:σ→Envl) (Mv:σ→List HP) (Ec:Envl) (Mc:List HP) (s0:σ) (h0:whileP f (dat s0)=some r)
    (hl:Sub (Ev s0++Ec) l) (hm:MSub (Mv s0++Mc) M)
    (round:∀ s x,f (dat s)=some x→(∀ a,x=.inr a→a=r)→W Γ c (Ev s++Ec) (Mv s++Mc) (thenQ (fun l' M'=>∃ s',Sub (Ev s'++Ec) l'∧Arr Γ M' (Mv s'++Mc)∧x=.inl (dat s')) Q)) :
    WL Γ c l M Q:=by
  obtain ⟨n,hn⟩:=whileP_iff.1 h0
  refine WL_loop (σ:=σ×Nat) (fun s=>Ev s.1++Ec) (fun s=>Mv s.1++Mc) (fun s=>iterW f s.2 (dat s.1)=some r) (fun s=>s.2) (s0,n) hn hl hm ?_
  rintro ⟨s,n⟩ hI
  dsimp only at hI ⊢
  cases n with
  | zero=>cases hI
  | succ n =>
    simp only [iterW] at hI
    split at hI
    · cases hI
    · rename_i s' hs
      refine W_post (round s _ hs (fun a ha=>by cases ha)) fun e l' M' hq=>?_
      cases e<;>first
        | exact ⟨M',fun _ h=>h,hq⟩
        | (obtain ⟨s2,h1,⟨M2,h2,h2'⟩,h3⟩:=hq
           have e:s'=dat s2:=by simpa using h3
           subst e
           exact ⟨M2,h2,(s2,n),h1,h2',hI,Nat.lt_succ_self n⟩)
    · rename_i a ha
      cases hI
      refine W_mono (round s _ ha (fun a ha=>by cases ha;rfl)) fun e l' M' hq=>?_
      cases e<;>first
        | exact hq
        | (obtain ⟨s2,h1,h2,h3⟩:=hq;cases h3)
section
variable {τ δ:Type} [GT τ δ]
theorem L_app1m {s x:Operand} {T e sz by_ c b:Nat} {z:List Value} {X:TL τ} {T':TypeId} (y:τ) {r:List δ} (hn:Nat.blt d Γ.n=true)
  (hs:ev l s=some X.hdr) (hx:ev l x=some (.slice (some ⟨b,0,none⟩) 1 c)) (ht:elOf Γ.P T=some (e,sz,by_,z)) (hsz:GT.sz τ=sz) (hz:z.length=sz)
  (hp:Pick (treeH X) M M1) (hsrc:blk b (GT.cells y) T'∈M) (hy:Pick (treeH y) M1 M2)
  (hr:appP (GT.dat X) [GT.dat y]=some r) (hb:by_≤32768)
  (hk:∀ X':TL τ,GT.dat X'=r→y∈X'.els→L Γ rest ((d,X'.hdr)::l) (treeH X'::M2) K) :
  L Γ ({ dst:=some d,op:=.call { callee:=.builtin .append,args:=#[s,x],argTypes:=#[T,T] },type:=ty,pos,after:=af,guard:=none }::rest) l M K:=by
 obtain ⟨h1,rfl⟩:=appP_some hr
 refine L_appA (ys:=[y]) hn hs hx ht hsz hz hp rfl (fun w hw j v hv=>?_) (fun w R h=>elsT_one (h.perm (hy.perm.append_right R))) (by simpa [dat_els] using h1) hb
  (fun X' h=>hk X' (by rw [dat_els,h,List.map_append,dat_els];rfl) (by rw [h];simp))
 rw [addr_add]
 exact RdC.blk (Γ:=Γ) hsrc w hw j v (by simpa [rowCells] using hv)
theorem run_append_roomO {P:Program} (w:World) (t ty e e2:TypeId) (i:TypeInfo) (ht:P.underlying t=some (.slice e)) (hi:P.info? e=some i)
  (g o sLen sCap:Nat) (cur:Array Value) (hg:w.heap[g]?=some (.cells cur e2 (0,0)))
  (a:Addr) (m c:Nat) (news:List Value) (hl:news.length=m*i.size) (hnews:∀ j u,news[j]?=some u→w.cell? (a.add j)=some u) (h1:∀ u∈news,u.oneCell'=true)
  (hroom:sLen+m≤sCap) (hfit:o+sLen*i.size+news.length≤cur.size) :
  (Builtin.append_ #[t,t] ty #[.slice (some ⟨g,o,none⟩) sLen sCap,.slice (some a) m c]).run P w =
   .ok (.slice (some ⟨g,o,none⟩) (sLen+m) sCap) (w.setRow g (cur.toList.take (o+sLen*i.size)++news++cur.toList.drop (o+sLen*i.size+news.length)).toArray):=by
 have hf:=run_firstCells_some (P:=P) w i.size m a m c news hl hnews
 have hst:=run_storeCells_at P g (o+sLen*i.size) e2 news 0 cur w hg (by simpa using hfit) h1
 simp only [Nat.add_zero] at hst
 simp [Builtin.append_,run_underlying ht,sizeOf,typeInfo,hi,Builtin.lenOf,hroom,hf,Addr.add_lit,hst]
end
section
variable {τ δ:Type} [GT τ δ] [FlatT τ]
theorem append_fl {P:Program} {T e sz by_:Nat} {z:List Value} {X:TL τ} {ys:List τ} (ht:elOf P T=some (e,sz,by_,z)) (hsz:GT.sz τ=sz) (hz:z.length=sz) (hw:Holds w0 S0 (flH X::F) w)
  {a:Addr} {c:Nat} (hsrc:∀ j v,(rowCells ys)[j]?=some v→w.cell? (a.add j)=some v) (hm:X.els.length+ys.length≤4294967296) (hy0:ys≠[]) (hb:by_≤32768) (ty:TypeId) :
  ∃ (X':TL τ) (w':World),X'.els=X.els++ys∧(Builtin.append_ #[T,T] ty #[X.hdr,.slice (some a) ys.length c]).run P w=.ok X'.hdr w'∧Holds w0 S0 (flH X'::F) w':=by
 unfold elOf at ht
 split at ht<;>(try cases ht)
 rename_i e' het
 split at ht<;>(try cases ht)
 rename_i i' hi'
 split at ht<;>cases ht
 rename_i z' hz'
 have hzs:z'.cells.size=i'.size:=by rw [← Array.length_toList];exact hz
 have hpos:0 < i'.size:=hsz ▸ GT.pos (τ:=τ)
 obtain ⟨La,Lc,Le,Lx,Lt⟩:=X
 obtain ⟨hr,hv1,hv2⟩:=hw.prs (flH _) (List.mem_cons_self ..)
 obtain ⟨hr1,hr2,_,hr4,hr5⟩:=hr
 dsimp only at hr1 hr2 hr4 hr5 hv1 hv2 hm ⊢
 have hlx:(rowCells Lx).length=Lx.length*i'.size:=by rw [length_rowCells,hsz]
 have hly:(rowCells ys).length=ys.length*i'.size:=by rw [length_rowCells,hsz]
 have hyl:0 < ys.length:=List.length_pos_iff.2 hy0
 have hby:(Lx.length+ys.length)*i'.bytes≤140737488355328:=by
  have:=Nat.mul_le_mul hm hb
  omega
 have hone:∀ u,u∈rowCells ys→u.oneCell'=true:=fun u hu=>rowCells_one ys u hu
 have hgrow:∀ (old:Nat) (h:HP),h=flH (⟨La,Lc,Le,Lx,Lt⟩:TL τ)→Holds w0 S0 (flH (⟨some ⟨w.heap.size,0,none⟩,grownCap w (Lx.length+ys.length) old e,e,Lx++ys,(Builtin.zeroCells z'.cells (grownCap w (Lx.length+ys.length) old e - (Lx.length+ys.length))).toList⟩:TL τ)::F)
   (w.drew.alloc (.cells ((rowCells Lx).toArray++(rowCells ys).toArray++Builtin.zeroCells z'.cells (grownCap w (Lx.length+ys.length) old e - (Lx.length+ys.length))) e)):=by
  intro old h hh
  have hge:=grownCap_ge w (Lx.length+ys.length) old e
  have hcm:grownCap w (Lx.length+ys.length) old e≤maxLen:=grownCap_le_maxLen w (Lx.length+ys.length) old e (by simp only [maxLen];omega)
  have hnew:=heap_alloc_new w.drew (.cells ((rowCells Lx).toArray++(rowCells ys).toArray++Builtin.zeroCells z'.cells (grownCap w (Lx.length+ys.length) old e - (Lx.length+ys.length))) e)
  simp only [World.size_drew] at hnew
  refine Holds.swap (w':=w.drew.alloc _) (hh ▸ hw:Holds w0 S0 (h::F) w) rfl ⟨rfl,Nat.le_succ _⟩ rfl (by simp) (fun k hk _=>?_) (fun k hk=>?_) (by simp [flH,slB]) ?_
  ·rw [heap_alloc_old _ _ (by simpa using hk)];rfl
  ·simp [flH,slB] at hk;subst hk;exact ⟨.inr (Nat.le_refl _),by simp⟩
  ·refine ⟨⟨by simpa using hge,hcm,fun x _=>flat_rd x _ _,fun h=>(by cases h),fun a ha=>?_⟩,fun h=>(by cases h),fun a ha=>?_⟩
   ·cases ha
    refine ⟨fun _=>rfl,fun j v hv=>⟨?_,by simp⟩⟩
    dsimp only at hv
    simp only [World.cell?,hnew,Nat.zero_add,Option.isSome_none,Bool.false_eq_true,if_false]
    have hlt:=(List.getElem?_eq_some_iff.1 hv).1
    rw [rowCells_append] at hv hlt
    rw [Array.getElem?_append_left (by simpa using hlt),← Array.getElem?_toList]
    simpa using hv
   ·cases ha
    refine ⟨rfl,_,_,hnew,?_⟩
    simp only [Array.size_append,List.size_toArray,size_zc,hzs,hlx,hly,hsz,Nat.zero_add]
    rw [← Nat.add_mul,← Nat.add_mul]
    exact Nat.mul_le_mul_right _ (by omega)
 cases La with
 | none =>
  have hx0:=hr4 rfl
  have hc0:=hv1 rfl
  subst hx0;subst hc0
  have hrun:=run_append_nil (P:=P) w T ty e i' z' het hi' hz' a ys.length c (rowCells ys) hly hsrc hyl (by omega) (by simp at hby;omega)
  have:=hgrow 0 _ rfl
  simp only [List.length_nil,Nat.zero_add,List.nil_append] at this ⊢
  have e0:(rowCells ([]:List τ)).toArray=#[]:=rfl
  rw [e0,Array.empty_append] at this
  exact ⟨⟨some ⟨w.heap.size,0,none⟩,grownCap w ys.length 0 e,e,ys,(Builtin.zeroCells z'.cells (grownCap w ys.length 0 e - ys.length)).toList⟩,_,rfl,hrun,this⟩
 | some La =>
  obtain ⟨h1,cur,e2,h3,h4⟩:=hv2 La rfl
  obtain ⟨_,h5⟩:=hr5 La rfl
  obtain ⟨g,o,s⟩:=La
  dsimp only at h1 h3 h4 h5
  subst h1
  have hhd:TL.hdr (⟨some ⟨g,o,none⟩,Lc,Le,Lx,Lt⟩:TL τ)=.slice (some ⟨g,o,none⟩) Lx.length Lc:=rfl
  rw [hhd]
  rw [hsz] at h4
  by_cases hroom:Lx.length+ys.length≤Lc
  ·have hfit:o+Lx.length*i'.size+(rowCells ys).length≤cur.size:=by
    have:=Nat.mul_le_mul_right i'.size hroom
    rw [Nat.add_mul] at this
    rw [hly];omega
   have hrun:=run_append_roomO (P:=P) w T ty e e2 i' het hi' g o Lx.length Lc _ h3 a ys.length c (rowCells ys) hly hsrc hone hroom hfit
   refine ⟨⟨some ⟨g,o,none⟩,Lc,Le,Lx++ys,Lt⟩,_,rfl,(show _=Result.ok (Value.slice (some ⟨g,o,none⟩) (Lx++ys).length Lc) _ from by rw [List.length_append];exact hrun),?_⟩
   have hnew:=setRow_heap w g cur (cur.toList.take (o+Lx.length*i'.size)++rowCells ys++cur.toList.drop (o+Lx.length*i'.size+(rowCells ys).length)).toArray e2 (0,0) h3
   refine Holds.swap hw rfl ⟨rfl,Nat.le_refl _⟩ rfl (by simp) (fun k hk hn=>?_) (fun k hk=>?_) (by simp [flH,slB]) ?_
   ·exact setRow_other _ _ _ _ (fun e=>hn (by simp [flH,slB,e]))
   ·simp [flH,slB] at hk;subst hk;exact ⟨.inl (by simp [flH,slB]),by simp;exact (Array.getElem?_eq_some_iff.1 h3).1⟩
   ·refine ⟨⟨by simpa using hroom,hr2,fun x _=>flat_rd x _ _,fun h=>(by cases h),fun a ha=>?_⟩,fun h=>(by cases h),fun a ha=>?_⟩
    ·cases ha
     refine ⟨fun _=>rfl,fun j v hv=>⟨?_,by simp⟩⟩
     dsimp only at hv
     simp only [World.cell?,hnew,Option.isSome_none,Bool.false_eq_true,if_false]
     rw [List.getElem?_toArray,List.append_assoc]
     have hsz1:o+Lx.length*i'.size≤cur.size:=by omega
     rw [rowCells_append] at hv
     rcases Nat.lt_or_ge j (rowCells Lx).length with hj | hj
     ·rw [List.getElem?_append_left hj] at hv
      have hc:=(h5 j v hv).1
      simp only [World.cell?,h3,Option.isSome_none,Bool.false_eq_true,if_false] at hc
      rw [List.getElem?_append_left (by simp;omega),List.getElem?_take_of_lt (by omega)]
      simpa using hc
     ·rw [List.getElem?_append_right hj] at hv
      have hj2:=(List.getElem?_eq_some_iff.1 hv).1
      have hl1:(cur.toList.take (o+Lx.length*i'.size)).length=o+Lx.length*i'.size:=by simp;omega
      rw [List.getElem?_append_right (by rw [hl1];omega),hl1,List.getElem?_append_left (by omega)]
      rw [← hv];congr 1;omega
    ·cases ha
     refine ⟨rfl,_,_,hnew,?_⟩
     rw [hsz]
     simp only [List.size_toArray,List.length_append,List.length_take,List.length_drop,Array.length_toList]
     omega
  ·have holds:∀ j v,(rowCells Lx)[j]?=some v→w.cell? ((⟨g,o,none⟩:Addr).add j)=some v:=fun j v hv=>by
    rw [addr_add];exact (h5 j v hv).1
   have hrun:=run_append_grow (P:=P) w T ty e i' z' het hi' hz' ⟨g,o,none⟩ Lx.length Lc (rowCells Lx) hlx holds a ys.length c (rowCells ys) hly hsrc (by omega) (by omega) (growslice_fits (by omega) hby)
   exact ⟨⟨some ⟨w.heap.size,0,none⟩,grownCap w (Lx.length+ys.length) Lc e,e,Lx++ys,(Builtin.zeroCells z'.cells (grownCap w (Lx.length+ys.length) Lc e - (Lx.length+ys.length))).toList⟩,_,rfl,(show _=Result.ok (Value.slice (some ⟨w.heap.size,0,none⟩) (Lx++ys).length (grownCap w (Lx.length+ys.length) Lc e)) _ from by rw [List.length_append];exact hrun),hgrow Lc _ rfl⟩
theorem L_appV1 {s x:Operand} {T e sz by_ c b:Nat} {z:List Value} {X:TL τ} {T':TypeId} (y:τ) {r:List δ} (hn:Nat.blt d Γ.n=true)
  (hs:ev l s=some X.hdr) (hx:ev l x=some (.slice (some ⟨b,0,none⟩) 1 c)) (ht:elOf Γ.P T=some (e,sz,by_,z)) (hsz:GT.sz τ=sz) (hz:z.length=sz)
  (hp:Pick (flH X) M M1) (hsrc:blk b (GT.cells y) T'∈M)
  (hr:appP (GT.dat X) [GT.dat y]=some r) (hb:by_≤32768)
  (hk:∀ X':TL τ,GT.dat X'=r→L Γ rest ((d,X'.hdr)::l) (flH X'::M1) K) :
  L Γ ({ dst:=some d,op:=.call { callee:=.builtin .append,args:=#[s,x],argTypes:=#[T,T] },type:=ty,pos,after:=af,guard:=none }::rest) l M K:=by
 obtain ⟨h1,rfl⟩:=appP_some hr
 simp only [dat_els,List.length_map,List.length_cons,List.length_nil] at h1
 refine L_stepR (fun v M'=>∃ X':TL τ,X'.els=X.els++[y]∧v=X'.hdr∧M'=flH X'::M1) rfl rfl (Nat.le_of_ble_eq_true hn)
  (fun a w ha hw=>?_) (fun v M' ⟨X',h0,h1,h2⟩=>by subst h1;subst h2;exact hk X' (by rw [dat_els,h0,List.map_append,dat_els];rfl))
 have hsr:∀ j v,(rowCells [y])[j]?=some v→w.cell? ((⟨b,0,none⟩:Addr).add j)=some v:=fun j v hv=>by
  rw [addr_add]
  exact RdC.blk (Γ:=Γ) hsrc w hw.sees j v (by simpa [rowCells] using hv)
 obtain ⟨X',w',h2,h3,h4⟩:=append_fl (P:=Γ.P) (c:=c) ht hsz hz (hw.perm hp.perm) hsr (by simpa using h1) (by simp) hb ty
 refine ⟨_,_,w',⟨X',h2,rfl,rfl⟩,?_,h4⟩
 have h3':(Builtin.append_ #[T,T] ty #[X.hdr,.slice (some ⟨b,0,none⟩) 1 c]).run Γ.P w=.ok X'.hdr w':=h3
 generalize TL.hdr X'=vv at *
 generalize X.hdr=uu at *
 simp [execOp,resolve,invoke,builtin,ha.eval hs,ha.eval hx,h3']
end
section
variable {τ δ:Type} [GT τ δ] {t:τ}
theorem RdT.any (h:∀ w S,GT.rd w S t):RdT Γ M t:=fun w _=>h w []
theorem RdO.any (h:∀ w S,GT.rd w S t) {w:World} {S:List Nat}:RdO w S t:=h w S
theorem RdX.any (h:∀ w S,GT.rd w S t):RdX Γ M1 M2 t:=fun w _=>h w _
end
theorem L_mk0r (τ:Type) {δ:Type} [GT τ δ] {T e sz by_:Nat} {z:List Value} (hn:Nat.blt d Γ.n=true) (ht:elOf Γ.P T=some (e,sz,by_,z))
  (hk:∀ X:TL τ,GT.dat X=[]→(∀ w S,GT.rd w S X)→L Γ rest ((d,X.hdr)::l) M K) :
  L Γ ({ dst:=some d,op:=.buildSlice T 0 #[],type:=ty,pos,after:=af,guard:=none }::rest) l M K :=
 L_buildSlice0 τ hn ht (fun b=>L_conv (fun _ h=>h.sub ⟨[_],List.perm_append_comm (l₁:=[_]) (l₂:=M)⟩) (hk ⟨some ⟨b,0,none⟩,0,e,[],[]⟩ rfl fun w S =>
  ⟨Nat.le_refl _,Nat.zero_le _,fun x hx=>(by cases hx),fun h=>(by cases h),fun a ha=>⟨fun h=>(h rfl).elim,fun j v hv=>by simp [rowCells] at hv⟩⟩))
end Go.Proofs.SL
