/- The texts of the proof, part 6: the base, walks of functions, plain Lean. -/
import Derived.Test.YtkfgjljahhgooaaGreatT5
namespace Go.Proofs.SL
open Go
theorem grown_of {W w':World} {M:List HP} (h:Holds W [] M w'):∃ q os',w'=Sort.grow (W.drewN q) os':=by
 refine ⟨w'.drawn - W.drawn,w'.heap.extract W.heap.size w'.heap.size,?_⟩
 have hh:w'.heap=W.heap++w'.heap.extract W.heap.size w'.heap.size:=by
  apply Array.ext_getElem?
  intro i
  rcases Nat.lt_or_ge i W.heap.size with hi | hi
  ·rw [Array.getElem?_append_left hi];exact h.old i hi (by simp)
  ·rw [Array.getElem?_append_right hi]
   rcases Nat.lt_or_ge i w'.heap.size with h2 | h2
   ·rw [Array.getElem?_extract,if_pos (by rw [Nat.min_self];omega),show W.heap.size+(i - W.heap.size)=i by omega]
   ·rw [Array.getElem?_eq_none h2,Array.getElem?_eq_none (by simp;omega)]
 have hd:=h.tape.2
 cases w' with
 | mk heap tape drawn os output =>
  have h1:=h.os
  have h2:=h.tape.1
  have h3:=h.output
  dsimp only at h1 h2 h3 hd hh ⊢
  unfold Sort.grow World.drewN
  dsimp only
  rw [← hh,h1,h2,h3,show W.drawn+(drawn - W.drawn)=drawn by omega]
section
variable {τ δ:Type} [Inhabited τ] [GT τ δ]
theorem Spec.sortC {P:Program} {f g:FuncId} (w:World) (a0:TL τ) (cs:List Value) (cfD:δ→δ→Int) (hD:SW0 (fun x y=>decide (cfD x y < 0))) (r:List δ) (hp:sortD (fun x y=>decide (cfD x y < 0)) (GT.dat a0)=some r)
  (hk:∀ (w':World) (F:List HP) (x y:τ),Holds w (fps [treeH a0]) F w'→Spec P g ([Value.agg (GT.cells x).toArray,Value.agg (GT.cells y).toArray]++cs).toArray w' [] (IsV (.int .i64 (cfD (GT.dat x) (GT.dat y)))))
  (hs:∀ (b off cap:Nat) (d:Array τ),Sort.SWO (Go.Proofs.ltOf fun x y:τ=>cfD (GT.dat x) (GT.dat y))→Go.Proofs.CmpLays P g cs.toArray (fun x:τ=>GT.cells x) (GT.sz τ) (fun x y=>cfD (GT.dat x) (GT.dat y)) b off d.size w→Sort.HoldsK (fun x:τ=>GT.cells x) (GT.sz τ) w b off d→b < w.heap.size→d.size < 4611686018427387904 →
   Calls P f #[.slice (some ⟨b,off,none⟩) d.size cap,.func (.func g) #[] cs.toArray] w fun e w'=>e=.returned (.tuple #[])∧∃ n os,w'=Go.Proofs.sortWorldK (fun x:τ=>GT.cells x) (GT.sz τ) w b off n (Sort.pdq (Go.Proofs.ltOf fun x y:τ=>cfD (GT.dat x) (GT.dat y)) d 0 d.size (Lib.bitLen d.size) true true) os)
  (h0:∀ (p:Option Addr) (cap:Nat),Calls P f #[.slice p 0 cap,.func (.func g) #[] cs.toArray] w fun e w'=>e=.returned (.tuple #[])∧w'=w) :
  Spec P f #[a0.hdr,.func (.func g) #[] cs.toArray] w [treeH a0] (fun v M=>∃ y0:TL τ,v=.tuple #[]∧GT.dat y0=r∧M=[treeH y0]∧y0.hdr=a0.hdr):=by
 intro hh
 refine Spec.sortO w a0 (Go.Proofs.ltOf fun x y:τ=>cfD (GT.dat x) (GT.dat y)) (fun x y=>decide (cfD x y < 0)) (fun x y=>rfl) hD r hp (fun b off cap d hH hb hba hsz=>?_) h0 hh
 have hO:Sort.SWO (Go.Proofs.ltOf fun x y:τ=>cfD (GT.dat x) (GT.dat y)):=swO (fun x y=>rfl) hD
 refine hs b off cap d hO (fun m os dk hdk x y=>?_) hH hb hsz
 obtain ⟨bh,hbh⟩:∃ o,w.heap[b]?=some o:=⟨_,Array.getElem?_eq_getElem hb⟩
 have hW:Holds w (fps [treeH a0]) [] (Go.Proofs.sortWorldK (fun x:τ=>GT.cells x) (GT.sz τ) w b off m dk os):=by
  rcases own_cases hh with ⟨e,tail,rfl⟩ | ⟨b',cap',e,els,tail,rfl,_,_,hb',_⟩
  ·exact absurd hba (by show ¬ b∈([]++[]);simp)
  ·unfold Go.Proofs.sortWorldK Sort.putRowK
   refine ⟨rfl,⟨rfl,Nat.le_add_right _ _⟩,rfl,by simp [Sort.putRow,Sort.mapBlock,Sort.ahead],fun k hk' hn=>?_,fun x hx=>(by cases hx),by simp [fps],fun k hk'=>by simp [fps] at hk'⟩
   have hkb:b≠k:=fun e2=>hn (by rw [← e2];simp only [fps_cons];exact List.mem_append_left _ hba)
   rw [Sort.heap_grow_old _ _ (by simpa [Sort.putRow,Sort.mapBlock,Sort.ahead] using hk')]
   simp [Sort.putRow,Sort.mapBlock,Sort.ahead,Array.getElem?_modify,hkb]
 have hc:=hk _ [] x y hW
 have h0':Holds (Go.Proofs.sortWorldK (fun x:τ=>GT.cells x) (GT.sz τ) w b off m dk os) (fps []) [] (Go.Proofs.sortWorldK (fun x:τ=>GT.cells x) (GT.sz τ) w b off m dk os):=⟨rfl,⟨rfl,Nat.le_refl _⟩,rfl,Nat.le_refl _,fun _ _ _=>rfl,fun x hx=>(by cases hx),by simp [fps],fun k hk=>by simp [fps] at hk⟩
 have hargs:(([Value.agg (GT.cells x).toArray,Value.agg (GT.cells y).toArray]++cs:List Value)).toArray=#[Value.agg (GT.cells x).toArray,Value.agg (GT.cells y).toArray]++cs.toArray:=by simp
 rw [← hargs]
 refine (hc h0').mono fun e w' ⟨v,M',h1,h2,h3⟩=>?_
 obtain ⟨h4,_⟩:=h2
 subst h4
 exact ⟨h1,grown_of h3⟩
open Classical in
noncomputable def sortFn {δ:Type} (l:List δ) (f:δ→δ→Option Int):Option (List δ):=if (∀ x y,∃ v,f x y=some v)∧SW0 (fun x y=>decide ((f x y).getD 0 < 0)) then sortD (fun x y=>decide ((f x y).getD 0 < 0)) l else none
theorem Spec.sortN {P:Program} {f g:FuncId} (w:World) (a0:TL τ) (cs:List Value) (a1:δ→δ→Option Int) (r:List δ) (hp:sortFn (GT.dat a0) a1=some r)
  (hk:∀ (w':World) (F:List HP) (x y:τ) (v:Int),Holds w (fps [treeH a0]) F w'→a1 (GT.dat x) (GT.dat y)=some v→Spec P g ([Value.agg (GT.cells x).toArray,Value.agg (GT.cells y).toArray]++cs).toArray w' [] (IsV (.int .i64 v)))
  (hs:∀ (b off cap:Nat) (d:Array τ),Sort.SWO (Go.Proofs.ltOf fun x y:τ=>(a1 (GT.dat x) (GT.dat y)).getD 0)→Go.Proofs.CmpLays P g cs.toArray (fun x:τ=>GT.cells x) (GT.sz τ) (fun x y=>(a1 (GT.dat x) (GT.dat y)).getD 0) b off d.size w→Sort.HoldsK (fun x:τ=>GT.cells x) (GT.sz τ) w b off d→b < w.heap.size→d.size < 4611686018427387904 →
   Calls P f #[.slice (some ⟨b,off,none⟩) d.size cap,.func (.func g) #[] cs.toArray] w fun e w'=>e=.returned (.tuple #[])∧∃ n os,w'=Go.Proofs.sortWorldK (fun x:τ=>GT.cells x) (GT.sz τ) w b off n (Sort.pdq (Go.Proofs.ltOf fun x y:τ=>(a1 (GT.dat x) (GT.dat y)).getD 0) d 0 d.size (Lib.bitLen d.size) true true) os)
  (h0:∀ (p:Option Addr) (cap:Nat),Calls P f #[.slice p 0 cap,.func (.func g) #[] cs.toArray] w fun e w'=>e=.returned (.tuple #[])∧w'=w) :
  Spec P f #[a0.hdr,.func (.func g) #[] cs.toArray] w [treeH a0] (fun v M=>∃ y0:TL τ,v=.tuple #[]∧GT.dat y0=r∧M=[treeH y0]∧y0.hdr=a0.hdr):=by
 unfold sortFn at hp
 split at hp
 ·rename_i hc
  refine Spec.sortC w a0 cs (fun x y=>(a1 x y).getD 0) hc.2 r hp (fun w' F x y hF=>?_) hs h0
  obtain ⟨v,hv⟩:=hc.1 (GT.dat x) (GT.dat y)
  rw [hv]
  exact hk w' F x y v hF hv
 ·cases hp
end
end Go.Proofs.SL
namespace Go.Proofs.SL
open Go
set_option maxHeartbeats 2000000
abbrev D_Cmd:=Int×Int×Int×ByteArray×ByteArray×ByteArray×Int×(List ByteArray)
instance el30:ElF Tryz.prog 30 9 1 16 [.string ByteArray.empty]:=⟨by kernel_rfl⟩
instance one9:OneF Tryz.prog 9:=⟨by kernel_rfl⟩
instance fld32_0:FldF Tryz.prog 32 0 0:=⟨by kernel_rfl⟩
instance one3:OneF Tryz.prog 3:=⟨by kernel_rfl⟩
instance fld32_1:FldF Tryz.prog 32 1 1:=⟨by kernel_rfl⟩
instance fld32_2:FldF Tryz.prog 32 2 2:=⟨by kernel_rfl⟩
instance fld32_3:FldF Tryz.prog 32 3 3:=⟨by kernel_rfl⟩
instance fld32_4:FldF Tryz.prog 32 4 4:=⟨by kernel_rfl⟩
instance fld32_5:FldF Tryz.prog 32 5 5:=⟨by kernel_rfl⟩
instance fld32_6:FldF Tryz.prog 32 6 6:=⟨by kernel_rfl⟩
instance fld32_7:FldF Tryz.prog 32 7 7:=⟨by kernel_rfl⟩
instance one30:OneF Tryz.prog 30:=⟨by kernel_rfl⟩
instance fn173:FnF Tryz.prog 173:=⟨_,Tryz.func173,by kernel_rfl,rfl⟩
instance str9:StrF Tryz.prog 9:=⟨by kernel_rfl⟩
instance fn51:FnF Tryz.prog 51:=⟨_,Tryz.func51,by kernel_rfl,rfl⟩
instance fn174:FnF Tryz.prog 174:=⟨_,Tryz.func174,by kernel_rfl,rfl⟩
instance agg32:AggF Tryz.prog 32 8:=⟨by kernel_rfl⟩
instance bld32:BldF Tryz.prog 32 [(0,1),(1,1),(2,1),(3,1),(4,1),(5,1),(6,1),(7,1)] [.int .i64 0,.int .i64 0,.int .i64 0,.string ByteArray.empty,.string ByteArray.empty,.string ByteArray.empty,.int .i64 0,.slice none 0 0]:=⟨by kernel_rfl⟩
instance fn125:FnF Tryz.prog 125:=⟨_,Tryz.func125,by kernel_rfl,rfl⟩
instance fn130:FnF Tryz.prog 130:=⟨_,Tryz.func130,by kernel_rfl,rfl⟩
instance fn184:FnF Tryz.prog 184:=⟨_,Tryz.func184,by kernel_rfl,rfl⟩
instance fn185:FnF Tryz.prog 185:=⟨_,Tryz.func185,by kernel_rfl,rfl⟩
instance fn150:FnF Tryz.prog 150:=⟨_,Tryz.func150,by kernel_rfl,rfl⟩
instance fn151:FnF Tryz.prog 151:=⟨_,Tryz.func151,by kernel_rfl,rfl⟩
instance fn152:FnF Tryz.prog 152:=⟨_,Tryz.func152,by kernel_rfl,rfl⟩
noncomputable def s_l4Texts (a0:List ByteArray) (a1:List ByteArray):Option Bool :=
 cond (!decide ((a0.length:Int)=(a1.length:Int))) (some false) (whileP (fun s2:Int=>cond (decide (s2 < (a0.length:Int))) (Option.bind (idx a0 s2) (fun y4=>Option.bind (idx a1 s2) (fun y5=>cond (!decide (y4=y5)) (Option.map .inr (some false)) (some (.inl (IntKind.wrap .i64 (s2+1))))))) (Option.map .inr (some true))) 0)
theorem s_l4Texts_walk (w:World) (a0:TL ByteArray) (a1:TL ByteArray) (h0:GT.rd w [] a0) (h1:GT.rd w [] a1) (r:Bool) (hp:s_l4Texts (GT.dat a0) (GT.dat a1)=some r):Spec Tryz.prog 173 [(TL.hdr a0),(TL.hdr a1)].toArray w [] (IsV (.bool r)):=by
 refine Spec.intro Tryz.func173 rfl Tryz.ntmps173 rfl ?_
 unfold s_l4Texts at hp
 replace hp:=dd hp
 refine s13 ?_
 refine kp [0,1,10] ?_
 refine W_cond rfl (fun q1=>?_) (fun q1=>?_)
 ·replace hp:=cond_t q1 hp
  refine s4 ?_
  obtain rfl:=sj hp
  refine s1 ?_
  refine res1 rfl (ResOK.tmp rfl) ⟨rfl,rfl⟩ ms
 ·replace hp:=cond_f q1 hp
  refine s7 ?_
  refine W_while (σ:=Int) GT.dat (fun (v2_0:Int)=>[(5,.int .i64 v2_0)]) (fun (v2_0:Int)=>[]) [(0,_),(1,_)] [] 0 hp sb ms ?_
  clear hp
  rintro v2_0 x2 hp hx2
  replace hp:=dd hp
  refine kq [0,1,5] ?_
  refine s8 ?_
  refine kp [0,1,5,14] ?_
  refine W_cond rfl (fun q3=>?_) (fun q3=>?_)
  ·replace hp:=cond_t q3 hp
   refine s4 ?_
   replace hp:=idx_bind hp;obtain ⟨u4,hy4,hp⟩:=hp
   replace hp:=idx_bind hp;obtain ⟨u5,hy5,hp⟩:=hp
   refine W_D0 [25] mix (by kernel_rfl) rfl ?_
   refine s2 ?_
   refine D_idxA (X:=a0) GC.none (OpV.t rfl) (OpV.t rfl) el30.h (RdT.old h0) (fun _=>hy4) ?_
   refine D_load0 GC.none (OpV.t rfl) (fun hg=>RdT.at (RdT.old h0) (hy4).2) one9.h rfl ?_
   refine s2 ?_
   refine D_idxA (X:=a1) GC.none (OpV.t rfl) (OpV.t rfl) el30.h (RdT.old h1) (fun _=>hy5) ?_
   refine D_load0 GC.none (OpV.t rfl) (fun hg=>RdT.at (RdT.old h1) (hy5).2) one9.h rfl ?_
   refine s12 ?_
   refine kp [0,1,5,25] ?_
   refine W_cond rfl (fun q6=>?_) (fun q6=>?_)
   ·replace hp:=cond_t q6 hp
    refine s4 ?_
    replace hp:=map_any hp;obtain ⟨a7,hp,z_7⟩:=hp
    obtain rfl:=hx2 _ z_7
    obtain rfl:=sj hp
    refine s1 ?_
    refine res1 rfl (ResOK.tmp rfl) ⟨rfl,rfl⟩ ms
   ·replace hp:=cond_f q6 hp
    refine s6 ?_
    exact ⟨IntKind.wrap .i64 (v2_0+1),sb,(.sub ms),some_eq hp⟩
  ·replace hp:=cond_f q3 hp
   refine W_exit ?_
   replace hp:=map_any hp;obtain ⟨a8,hp,z_8⟩:=hp
   obtain rfl:=hx2 _ z_8
   refine s4 ?_
   obtain rfl:=sj hp
   refine s1 ?_
   refine res1 rfl (ResOK.tmp rfl) ⟨rfl,rfl⟩ ms
noncomputable def s_SameCmd (a0:D_Cmd) (a1:D_Cmd):Option Bool :=
 gb (((((((decide (a0.1=a1.1))&&(decide (a0.2.1=a1.2.1)))&&(decide (a0.2.2.1=a1.2.2.1)))&&(decide (a0.2.2.2.1=a1.2.2.2.1)))&&(decide (a0.2.2.2.2.1=a1.2.2.2.2.1)))&&(decide (a0.2.2.2.2.2.1=a1.2.2.2.2.2.1)))&&(decide (a0.2.2.2.2.2.2.1=a1.2.2.2.2.2.2.1))) (s_l4Texts a0.2.2.2.2.2.2.2 a1.2.2.2.2.2.2.2) (fun y1=>some ((((((((decide (a0.1=a1.1))&&(decide (a0.2.1=a1.2.1)))&&(decide (a0.2.2.1=a1.2.2.1)))&&(decide (a0.2.2.2.1=a1.2.2.2.1)))&&(decide (a0.2.2.2.2.1=a1.2.2.2.2.1)))&&(decide (a0.2.2.2.2.2.1=a1.2.2.2.2.2.1)))&&(decide (a0.2.2.2.2.2.2.1=a1.2.2.2.2.2.2.1)))&&y1))
theorem s_SameCmd_walk (w:World) (a0:T_Cmd) (a1:T_Cmd) (h0:GT.rd w [] a0) (h1:GT.rd w [] a1) (r:Bool) (hp:s_SameCmd (GT.dat a0) (GT.dat a1)=some r):Spec Tryz.prog 125 [.agg (GT.cells a0).toArray,.agg (GT.cells a1).toArray].toArray w [] (IsV (.bool r)):=by
 obtain ⟨a0_1,a0_2,a0_3,a0_4,a0_5,a0_6,a0_7,a0_8⟩:=a0
 obtain ⟨a1_1,a1_2,a1_3,a1_4,a1_5,a1_6,a1_7,a1_8⟩:=a1
 change Spec _ _ ([Value.agg #[.int .i64 a0_1,.int .i64 a0_2,.int .i64 a0_3,.string a0_4,.string a0_5,.string a0_6,.int .i64 a0_7,(TL.hdr a0_8)],Value.agg #[.int .i64 a1_1,.int .i64 a1_2,.int .i64 a1_3,.string a1_4,.string a1_5,.string a1_6,.int .i64 a1_7,(TL.hdr a1_8)]]:List Value).toArray w [] _
 refine Spec.intro Tryz.func125 rfl Tryz.ntmps125 rfl ?_
 unfold s_SameCmd at hp
 replace hp:=dd hp
 refine s2 ?_
 refine bx fun bk2=>?_
 refine bx fun bk3=>?_
 refine s3 ?_
 replace hp:=gb_any hp;obtain ⟨y1,hy1,hp⟩:=hp
 refine W_D0 [4] mix (by kernel_rfl) rfl ?_
 refine s20 ?_
 refine s20 ?_
 refine s12 ?_
 refine D_callX (GC.some rfl rfl) fn173.h (OpVs.cons (OpV.s rfl) (OpVs.cons (OpV.s rfl) (OpVs.nil))) (by exact fun hg w F hF hM=>s_l4Texts_walk w a0_8 a1_8 (RdT.nowS (RdT.old h0.2.2.2.2.2.2.2) hF hM) (RdT.nowS (RdT.old h1.2.2.2.2.2.2.2) hF hM) _ (hy1 hg.2)) ?_
 refine s20 ?_
 refine s20 ?_
 refine s19 ?_
 obtain rfl:=sj hp
 refine s1 ?_
 refine res1 rfl (ResOK.tmp rfl) ⟨rfl,rfl⟩ ms
noncomputable def s_l4Word (a0:ByteArray):Option Bool :=
 Option.bind (s_l1In (a0.size:Int) 1 8) (fun y1=>cond (!y1) (some false) (whileP (fun s3:Int=>cond (decide (s3 < (a0.size:Int))) (Option.bind (sidx a0 s3) (fun y5=>gb (!(decide (y5 < 97))) (sidx a0 s3) (fun y6=>cond ((decide (y5 < 97))||(decide (122 < y6))) (Option.map .inr (some false)) (some (.inl (IntKind.wrap .i64 (s3+1))))))) (Option.map .inr (some true))) 0))
theorem s_l4Word_walk (w:World) (a0:ByteArray)  (r:Bool) (hp:s_l4Word a0=some r):Spec Tryz.prog 174 [.string a0].toArray w [] (IsV (.bool r)):=by
 refine Spec.intro Tryz.func174 rfl Tryz.ntmps174 rfl ?_
 unfold s_l4Word at hp
 replace hp:=dd hp
 refine s9 ?_
 replace hp:=ba hp;obtain ⟨y1,hy1,hp⟩:=hp
 refine L_callX rfl fn51.h rfl (by exact fun w hw=>s_l1In_walk w (a0.size:Int) 1 8  _ hy1) ?_
 refine s2 ?_
 refine kp [0,7] ?_
 refine W_cond rfl (fun q2=>?_) (fun q2=>?_)
 ·replace hp:=cond_t q2 hp
  refine s4 ?_
  obtain rfl:=sj hp
  refine s1 ?_
  refine res1 rfl (ResOK.tmp rfl) ⟨rfl,rfl⟩ ms
 ·replace hp:=cond_f q2 hp
  refine s7 ?_
  refine W_while (σ:=Int) GT.dat (fun (v3_0:Int)=>[(3,.int .i64 v3_0)]) (fun (v3_0:Int)=>[]) [(0,_)] [] 0 hp sb ms ?_
  clear hp
  rintro v3_0 x3 hp hx3
  replace hp:=dd hp
  refine kq [0,3] ?_
  refine s8 ?_
  refine kp [0,3,11] ?_
  refine W_cond rfl (fun q4=>?_) (fun q4=>?_)
  ·replace hp:=cond_t q4 hp
   refine s4 ?_
   replace hp:=ba hp;obtain ⟨y5,hy5,hp⟩:=hp
   replace hp:=gb_any hp;obtain ⟨y6,hy6,hp⟩:=hp
   refine W_D0 [23] mix (by kernel_rfl) rfl ?_
   refine s2 ?_
   refine D_idxS GC.none (OpV.t rfl) (OpV.t rfl) str9.h (fun hg=>hy5) ?_
   refine s4 ?_
   refine D_idxS (GC.some rfl rfl) (OpV.s rfl) (OpV.s rfl) str9.h (fun hg=>(hy6 (gnot hg.2))) ?_
   refine s14 ?_
   refine kp [0,3,23] ?_
   refine W_cond rfl (fun q7=>?_) (fun q7=>?_)
   ·replace hp:=cond_t q7 hp
    refine s4 ?_
    replace hp:=map_any hp;obtain ⟨a8,hp,z_8⟩:=hp
    obtain rfl:=hx3 _ z_8
    obtain rfl:=sj hp
    refine s1 ?_
    refine res1 rfl (ResOK.tmp rfl) ⟨rfl,rfl⟩ ms
   ·replace hp:=cond_f q7 hp
    refine s6 ?_
    exact ⟨IntKind.wrap .i64 (v3_0+1),sb,(.sub ms),some_eq hp⟩
  ·replace hp:=cond_f q4 hp
   refine W_exit ?_
   replace hp:=map_any hp;obtain ⟨a9,hp,z_9⟩:=hp
   obtain rfl:=hx3 _ z_9
   refine s4 ?_
   obtain rfl:=sj hp
   refine s1 ?_
   refine res1 rfl (ResOK.tmp rfl) ⟨rfl,rfl⟩ ms
noncomputable def s_l4May (a0:ByteArray) (a1:Bool):Option Bool :=
 cond a1 (Option.bind (s_l4Word a0) (fun y2=>some y2)) (some (decide (a0=ByteArray.empty)))
theorem s_l4May_walk (w:World) (a0:ByteArray) (a1:Bool)  (r:Bool) (hp:s_l4May a0 a1=some r):Spec Tryz.prog 130 [.string a0,.bool a1].toArray w [] (IsV (.bool r)):=by
 refine Spec.intro Tryz.func130 rfl Tryz.ntmps130 rfl ?_
 unfold s_l4May at hp
 replace hp:=dd hp
 refine s9 ?_
 refine kp [0,5] ?_
 refine W_cond rfl (fun q1=>?_) (fun q1=>?_)
 ·replace hp:=cond_t q1 hp
  refine s3 ?_
  replace hp:=ba hp;obtain ⟨y2,hy2,hp⟩:=hp
  refine L_callX rfl fn174.h rfl (by exact fun w hw=>s_l4Word_walk w a0  _ hy2) ?_
  refine s2 ?_
  obtain rfl:=sj hp
  refine s1 ?_
  refine res1 rfl (ResOK.tmp rfl) ⟨rfl,rfl⟩ ms
 ·replace hp:=cond_f q1 hp
  refine s7 ?_
  obtain rfl:=sj hp
  refine s1 ?_
  refine res1 rfl (ResOK.tmp rfl) ⟨rfl,rfl⟩ ms
noncomputable def s_CmdOk (a0:D_Cmd):Option Bool :=
 Option.bind (s_l1In a0.1 0 7) (fun y1=>cond (!y1) (some false) (cond (decide (a0.1=0)) (Option.bind (s_SameCmd (a0.1,a0.2.1,a0.2.2.1,a0.2.2.2.1,a0.2.2.2.2.1,a0.2.2.2.2.2.1,a0.2.2.2.2.2.2.1,a0.2.2.2.2.2.2.2) (0,0,0,ByteArray.empty,ByteArray.empty,ByteArray.empty,0,([]:List ByteArray))) (fun y4=>some y4)) (Option.bind (s_l1In a0.2.1 1 9) (fun y5=>gb (!(!y5)) (s_l1In a0.2.2.1 1 1000) (fun y6=>gb (!((!y5)||(!y6))) (s_l4May a0.2.2.2.1 (!decide (a0.1=7))) (fun y7=>gb (!(((!y5)||(!y6))||(!y7))) (s_l4May a0.2.2.2.2.1 ((decide (a0.1=3))||(decide (a0.1=4)))) (fun y8=>gb (!((((!y5)||(!y6))||(!y7))||(!y8))) (s_l4May a0.2.2.2.2.2.1 (decide (a0.1=4))) (fun y9=>gb (((!(((((!y5)||(!y6))||(!y7))||(!y8))||(!y9)))&&(!decide (a0.2.2.2.2.2.2.1=0)))&&(!(!decide (a0.1=5)))) (s_l1In a0.2.2.2.2.2.2.1 0 9) (fun y10=>cond ((((((!y5)||(!y6))||(!y7))||(!y8))||(!y9))||((!decide (a0.2.2.2.2.2.2.1=0))&&((!decide (a0.1=5))||(!y10)))) (some false) (cond (!decide (a0.1=3)) (some (decide ((a0.2.2.2.2.2.2.2.length:Int)=0))) (Option.bind (s_l1In (a0.2.2.2.2.2.2.2.length:Int) 1 4) (fun y13=>cond (!y13) (some false) (whileP (fun s15:Int=>cond (decide (s15 < (a0.2.2.2.2.2.2.2.length:Int))) (Option.bind (idx a0.2.2.2.2.2.2.2 s15) (fun y17=>cond (!decide ((y17.size:Int)=8)) (Option.map .inr (some false)) (some (.inl (IntKind.wrap .i64 (s15+1)))))) (Option.map .inr (some true))) 0)))))))))))))
theorem s_CmdOk_walk (w:World) (a0:T_Cmd) (h0:GT.rd w [] a0) (r:Bool) (hp:s_CmdOk (GT.dat a0)=some r):Spec Tryz.prog 57 [.agg (GT.cells a0).toArray].toArray w [] (IsV (.bool r)):=by
 obtain ⟨a0_1,a0_2,a0_3,a0_4,a0_5,a0_6,a0_7,a0_8⟩:=a0
 change Spec _ _ ([Value.agg #[.int .i64 a0_1,.int .i64 a0_2,.int .i64 a0_3,.string a0_4,.string a0_5,.string a0_6,.int .i64 a0_7,(TL.hdr a0_8)]]:List Value).toArray w [] _
 refine Spec.intro Tryz.func57 rfl Tryz.ntmps57 rfl ?_
 unfold s_CmdOk at hp
 replace hp:=dd hp
 refine s2 ?_
 refine bx fun bk1=>?_
 refine s7 ?_
 replace hp:=ba hp;obtain ⟨y1,hy1,hp⟩:=hp
 refine L_callX rfl fn51.h rfl (by exact fun w hw=>s_l1In_walk w a0_1 0 7  _ hy1) ?_
 refine s2 ?_
 refine kp [1,8] ?_
 refine W_cond rfl (fun q2=>?_) (fun q2=>?_)
 ·replace hp:=cond_t q2 hp
  refine s4 ?_
  obtain rfl:=sj hp
  refine s1 ?_
  refine res1 rfl (ResOK.tmp rfl) ⟨rfl,rfl⟩ ms
 ·replace hp:=cond_f q2 hp
  refine s8 ?_
  refine kp [1,11] ?_
  refine W_cond rfl (fun q3=>?_) (fun q3=>?_)
  ·replace hp:=cond_t q3 hp
   refine s3 ?_
   refine L_build (xs:=[]) (cs:=[.int .i64 0,.int .i64 0,.int .i64 0,.string ByteArray.empty,.string ByteArray.empty,.string ByteArray.empty,.int .i64 0,(TL.hdr (TL.nil ByteArray 0))]) rfl rfl bld32.h rfl ?_
   replace hp:=ba hp;obtain ⟨y4,hy4,hp⟩:=hp
   refine L_callX rfl fn125.h rfl (by exact fun w hw=>s_SameCmd_walk w (a0_1,a0_2,a0_3,a0_4,a0_5,a0_6,a0_7,a0_8) (0,0,0,ByteArray.empty,ByteArray.empty,ByteArray.empty,0,(TL.nil ByteArray 0)) (RdT.now (RdT.pair RdT.int (RdT.pair RdT.int (RdT.pair RdT.int (RdT.pair RdT.str (RdT.pair RdT.str (RdT.pair RdT.str (RdT.pair RdT.int (RdT.old h0.2.2.2.2.2.2.2)))))))) hw) (RdT.now (RdT.pair RdT.int (RdT.pair RdT.int (RdT.pair RdT.int (RdT.pair RdT.str (RdT.pair RdT.str (RdT.pair RdT.str (RdT.pair RdT.int (RdT.nil 0)))))))) hw) _ hy4) ?_
   refine s2 ?_
   obtain rfl:=sj hp
   refine s1 ?_
   refine res1 rfl (ResOK.tmp rfl) ⟨rfl,rfl⟩ ms
  ·replace hp:=cond_f q3 hp
   refine s9 ?_
   replace hp:=ba hp;obtain ⟨y5,hy5,hp⟩:=hp
   replace hp:=gb_any hp;obtain ⟨y6,hy6,hp⟩:=hp
   replace hp:=gb_any hp;obtain ⟨y7,hy7,hp⟩:=hp
   replace hp:=gb_any hp;obtain ⟨y8,hy8,hp⟩:=hp
   replace hp:=gb_any hp;obtain ⟨y9,hy9,hp⟩:=hp
   replace hp:=gb_any hp;obtain ⟨y10,hy10,hp⟩:=hp
   refine W_D0 [69] mix (by kernel_rfl) rfl ?_
   refine s2 ?_
   refine D_callX GC.none fn51.h (OpVs.cons (OpV.t rfl) (OpVs.cons OpV.c (OpVs.cons OpV.c (OpVs.nil)))) (by exact fun hg w F hF hM=>s_l1In_walk w a0_2 1 9  _ hy5) ?_
   refine s4 ?_
   refine D_callX (GC.some rfl rfl) fn51.h (OpVs.cons (OpV.s rfl) (OpVs.cons OpV.c (OpVs.cons OpV.c (OpVs.nil)))) (by exact fun hg w F hF hM=>s_l1In_walk w a0_3 1 1000  _ (hy6 (gnot hg.2))) ?_
   refine s7 ?_
   refine D_callX (GC.some rfl rfl) fn130.h (OpVs.cons (OpV.s rfl) (OpVs.cons (OpV.s rfl) (OpVs.nil))) (by exact fun hg w F hF hM=>s_l4May_walk w a0_4 (!decide (a0_1=7))  _ (hy7 (gnot hg.2))) ?_
   refine s11 ?_
   refine D_callX (GC.some rfl rfl) fn130.h (OpVs.cons (OpV.s rfl) (OpVs.cons (OpV.s rfl) (OpVs.nil))) (by exact fun hg w F hF hM=>s_l4May_walk w a0_5 ((decide (a0_1=3))||(decide (a0_1=4)))  _ (hy8 (gnot hg.2))) ?_
   refine s7 ?_
   refine D_callX (GC.some rfl rfl) fn130.h (OpVs.cons (OpV.s rfl) (OpVs.cons (OpV.s rfl) (OpVs.nil))) (by exact fun hg w F hF hM=>s_l4May_walk w a0_6 (decide (a0_1=4))  _ (hy9 (gnot hg.2))) ?_
   refine s12 ?_
   refine D_callX (GC.some rfl rfl) fn51.h (OpVs.cons (OpV.s rfl) (OpVs.cons OpV.c (OpVs.cons OpV.c (OpVs.nil)))) (by exact fun hg w F hF hM=>s_l1In_walk w a0_7 0 9  _ (hy10 (gand (gand (gnot hg.1.1.2) hg.1.2) (gnot hg.2)))) ?_
   refine s20 ?_
   refine s20 ?_
   refine s19 ?_
   refine kp [1,3,69] ?_
   refine W_cond rfl (fun q11=>?_) (fun q11=>?_)
   ·replace hp:=cond_t q11 hp
    refine s4 ?_
    obtain rfl:=sj hp
    refine s1 ?_
    refine res1 rfl (ResOK.tmp rfl) ⟨rfl,rfl⟩ ms
   ·replace hp:=cond_f q11 hp
    refine s7 ?_
    refine kp [1,71] ?_
    refine W_cond rfl (fun q12=>?_) (fun q12=>?_)
    ·replace hp:=cond_t q12 hp
     refine s8 ?_
     obtain rfl:=sj hp
     refine s1 ?_
     refine res1 rfl (ResOK.tmp rfl) ⟨rfl,rfl⟩ ms
    ·replace hp:=cond_f q12 hp
     refine s7 ?_
     replace hp:=ba hp;obtain ⟨y13,hy13,hp⟩:=hp
     refine L_callX rfl fn51.h rfl (by exact fun w hw=>s_l1In_walk w ((GT.dat a0_8).length:Int) 1 4  _ hy13) ?_
     refine s2 ?_
     refine kp [1,80] ?_
     refine W_cond rfl (fun q14=>?_) (fun q14=>?_)
     ·replace hp:=cond_t q14 hp
      refine s4 ?_
      obtain rfl:=sj hp
      refine s1 ?_
      refine res1 rfl (ResOK.tmp rfl) ⟨rfl,rfl⟩ ms
     ·replace hp:=cond_f q14 hp
      refine s7 ?_
      refine W_while (σ:=Int) GT.dat (fun (v15_0:Int)=>[(4,.int .i64 v15_0)]) (fun (v15_0:Int)=>[]) [(1,_)] [blk bk1 _ _] 0 hp sb ms ?_
      clear hp
      rintro v15_0 x15 hp hx15
      replace hp:=dd hp
      refine kq [1,4] ?_
      refine s9 ?_
      refine kp [1,4,85] ?_
      refine W_cond rfl (fun q16=>?_) (fun q16=>?_)
      ·replace hp:=cond_t q16 hp
       refine s8 ?_
       replace hp:=idx_bind hp;obtain ⟨u17,hy17,hp⟩:=hp
       refine L_idxA (X:=a0_8) rfl rfl rfl el30.h (RdT.old h0.2.2.2.2.2.2.2) hy17 ?_
       refine L_load0 rfl rfl (RdT.at (RdT.old h0.2.2.2.2.2.2.2) (hy17).2) one9.h rfl ?_
       refine s3 ?_
       refine kp [1,4,94] ?_
       refine W_cond rfl (fun q18=>?_) (fun q18=>?_)
       ·replace hp:=cond_t q18 hp
        refine s4 ?_
        replace hp:=map_any hp;obtain ⟨a19,hp,z_19⟩:=hp
        obtain rfl:=hx15 _ z_19
        obtain rfl:=sj hp
        refine s1 ?_
        refine res1 rfl (ResOK.tmp rfl) ⟨rfl,rfl⟩ ms
       ·replace hp:=cond_f q18 hp
        refine s6 ?_
        exact ⟨IntKind.wrap .i64 (v15_0+1),sb,(.sub ms),some_eq hp⟩
      ·replace hp:=cond_f q16 hp
       refine W_exit ?_
       replace hp:=map_any hp;obtain ⟨a20,hp,z_20⟩:=hp
       obtain rfl:=hx15 _ z_20
       refine s4 ?_
       obtain rfl:=sj hp
       refine s1 ?_
       refine res1 rfl (ResOK.tmp rfl) ⟨rfl,rfl⟩ ms
noncomputable def sl_Equal_stringstring (a0:List ByteArray) (a1:List ByteArray):Option Bool :=
 cond (!decide ((a0.length:Int)=(a1.length:Int))) (some false) (whileP (fun s2:Int=>cond (decide (s2 < (a0.length:Int))) (Option.bind (idx a0 s2) (fun y4=>Option.bind (idx a1 s2) (fun y5=>cond (!decide (y4=y5)) (Option.map .inr (some false)) (some (.inl (IntKind.wrap .i64 (s2+1))))))) (Option.map .inr (some true))) 0)
theorem sl_Equal_stringstring_walk (w:World) (a0:TL ByteArray) (a1:TL ByteArray) (h0:GT.rd w [] a0) (h1:GT.rd w [] a1) (r:Bool) (hp:sl_Equal_stringstring (GT.dat a0) (GT.dat a1)=some r):Spec Tryz.prog 184 [(TL.hdr a0),(TL.hdr a1)].toArray w [] (IsV (.bool r)):=by
 refine Spec.intro Tryz.func184 rfl Tryz.ntmps184 rfl ?_
 unfold sl_Equal_stringstring at hp
 replace hp:=dd hp
 refine s13 ?_
 refine kp [0,1,10] ?_
 refine W_cond rfl (fun q1=>?_) (fun q1=>?_)
 ·replace hp:=cond_t q1 hp
  refine s4 ?_
  obtain rfl:=sj hp
  refine s1 ?_
  refine res1 rfl (ResOK.tmp rfl) ⟨rfl,rfl⟩ ms
 ·replace hp:=cond_f q1 hp
  refine s9 ?_
  refine W_while (σ:=Int) GT.dat (fun (v2_0:Int)=>[(13,.int .i64 v2_0)]) (fun (v2_0:Int)=>[]) [(0,_),(1,_),(12,_)] [] 0 hp sb ms ?_
  clear hp
  rintro v2_0 x2 hp hx2
  replace hp:=dd hp
  refine kq [0,1,12,13] ?_
  refine s5 ?_
  refine kp [0,1,12,13,14] ?_
  refine W_cond rfl (fun q3=>?_) (fun q3=>?_)
  ·replace hp:=cond_t q3 hp
   refine s9 ?_
   replace hp:=idx_bind hp;obtain ⟨u4,hy4,hp⟩:=hp
   replace hp:=idx_bind hp;obtain ⟨u5,hy5,hp⟩:=hp
   refine W_D0 [24] mix (by kernel_rfl) rfl ?_
   refine s2 ?_
   refine D_idxA (X:=a0) GC.none (OpV.t rfl) (OpV.t rfl) el30.h (RdT.old h0) (fun _=>hy4) ?_
   refine D_load0 GC.none (OpV.t rfl) (fun hg=>RdT.at (RdT.old h0) (hy4).2) one9.h rfl ?_
   refine s2 ?_
   refine D_idxA (X:=a1) GC.none (OpV.t rfl) (OpV.t rfl) el30.h (RdT.old h1) (fun _=>hy5) ?_
   refine D_load0 GC.none (OpV.t rfl) (fun hg=>RdT.at (RdT.old h1) (hy5).2) one9.h rfl ?_
   refine s12 ?_
   refine kp [0,1,12,13,24] ?_
   refine W_cond rfl (fun q6=>?_) (fun q6=>?_)
   ·replace hp:=cond_t q6 hp
    refine s4 ?_
    replace hp:=map_any hp;obtain ⟨a7,hp,z_7⟩:=hp
    obtain rfl:=hx2 _ z_7
    obtain rfl:=sj hp
    refine s1 ?_
    refine res1 rfl (ResOK.tmp rfl) ⟨rfl,rfl⟩ ms
   ·replace hp:=cond_f q6 hp
    refine s5 ?_
    exact ⟨IntKind.wrap .i64 (v2_0+1),sb,(.sub ms),some_eq hp⟩
  ·replace hp:=cond_f q3 hp
   refine W_exit ?_
   replace hp:=map_any hp;obtain ⟨a8,hp,z_8⟩:=hp
   obtain rfl:=hx2 _ z_8
   refine s4 ?_
   obtain rfl:=sj hp
   refine s1 ?_
   refine res1 rfl (ResOK.tmp rfl) ⟨rfl,rfl⟩ ms
noncomputable def i_SameCmd (a0:D_Cmd) (a1:D_Cmd):Option Bool :=
 gb (((((((decide (a0.1=a1.1))&&(decide (a0.2.1=a1.2.1)))&&(decide (a0.2.2.1=a1.2.2.1)))&&(decide (a0.2.2.2.1=a1.2.2.2.1)))&&(decide (a0.2.2.2.2.1=a1.2.2.2.2.1)))&&(decide (a0.2.2.2.2.2.1=a1.2.2.2.2.2.1)))&&(decide (a0.2.2.2.2.2.2.1=a1.2.2.2.2.2.2.1))) (sl_Equal_stringstring a0.2.2.2.2.2.2.2 a1.2.2.2.2.2.2.2) (fun y1=>some ((((((((decide (a0.1=a1.1))&&(decide (a0.2.1=a1.2.1)))&&(decide (a0.2.2.1=a1.2.2.1)))&&(decide (a0.2.2.2.1=a1.2.2.2.1)))&&(decide (a0.2.2.2.2.1=a1.2.2.2.2.1)))&&(decide (a0.2.2.2.2.2.1=a1.2.2.2.2.2.1)))&&(decide (a0.2.2.2.2.2.2.1=a1.2.2.2.2.2.2.1)))&&y1))
theorem i_SameCmd_walk (w:World) (a0:T_Cmd) (a1:T_Cmd) (h0:GT.rd w [] a0) (h1:GT.rd w [] a1) (r:Bool) (hp:i_SameCmd (GT.dat a0) (GT.dat a1)=some r):Spec Tryz.prog 150 [.agg (GT.cells a0).toArray,.agg (GT.cells a1).toArray].toArray w [] (IsV (.bool r)):=by
 obtain ⟨a0_1,a0_2,a0_3,a0_4,a0_5,a0_6,a0_7,a0_8⟩:=a0
 obtain ⟨a1_1,a1_2,a1_3,a1_4,a1_5,a1_6,a1_7,a1_8⟩:=a1
 change Spec _ _ ([Value.agg #[.int .i64 a0_1,.int .i64 a0_2,.int .i64 a0_3,.string a0_4,.string a0_5,.string a0_6,.int .i64 a0_7,(TL.hdr a0_8)],Value.agg #[.int .i64 a1_1,.int .i64 a1_2,.int .i64 a1_3,.string a1_4,.string a1_5,.string a1_6,.int .i64 a1_7,(TL.hdr a1_8)]]:List Value).toArray w [] _
 refine Spec.intro Tryz.func150 rfl Tryz.ntmps150 rfl ?_
 unfold i_SameCmd at hp
 replace hp:=dd hp
 refine s2 ?_
 refine bx fun bk2=>?_
 refine bx fun bk3=>?_
 refine s3 ?_
 replace hp:=gb_any hp;obtain ⟨y1,hy1,hp⟩:=hp
 refine W_D0 [4] mix (by kernel_rfl) rfl ?_
 refine s20 ?_
 refine s20 ?_
 refine s12 ?_
 refine D_callX (GC.some rfl rfl) fn184.h (OpVs.cons (OpV.s rfl) (OpVs.cons (OpV.s rfl) (OpVs.nil))) (by exact fun hg w F hF hM=>sl_Equal_stringstring_walk w a0_8 a1_8 (RdT.nowS (RdT.old h0.2.2.2.2.2.2.2) hF hM) (RdT.nowS (RdT.old h1.2.2.2.2.2.2.2) hF hM) _ (hy1 hg.2)) ?_
 refine s20 ?_
 refine s20 ?_
 refine s19 ?_
 obtain rfl:=sj hp
 refine s1 ?_
 refine res1 rfl (ResOK.tmp rfl) ⟨rfl,rfl⟩ ms
noncomputable def i_isWord (a0:ByteArray):Option Bool :=
 whileP (fun s1:Int=>cond (decide (s1 < (a0.size:Int))) (Option.bind (sidx a0 s1) (fun y3=>gb (!(decide (y3 < 97))) (sidx a0 s1) (fun y4=>cond ((decide (y3 < 97))||(decide (122 < y4))) (Option.map .inr (some false)) (some (.inl (IntKind.wrap .i64 (s1+1))))))) (Option.map .inr (Option.bind (i_within (a0.size:Int) 1 8) (fun y8=>some y8)))) 0
theorem i_isWord_walk (w:World) (a0:ByteArray)  (r:Bool) (hp:i_isWord a0=some r):Spec Tryz.prog 185 [.string a0].toArray w [] (IsV (.bool r)):=by
 refine Spec.intro Tryz.func185 rfl Tryz.ntmps185 rfl ?_
 unfold i_isWord at hp
 replace hp:=dd hp
 refine s10 ?_
 refine W_while (σ:=Int) GT.dat (fun (v1_0:Int)=>[(3,.int .i64 v1_0)]) (fun (v1_0:Int)=>[]) [(0,_)] [] 0 hp sb ms ?_
 clear hp
 rintro v1_0 x1 hp hx1
 replace hp:=dd hp
 refine kq [0,3] ?_
 refine s8 ?_
 refine kp [0,3,7] ?_
 refine W_cond rfl (fun q2=>?_) (fun q2=>?_)
 ·replace hp:=cond_t q2 hp
  refine s4 ?_
  replace hp:=ba hp;obtain ⟨y3,hy3,hp⟩:=hp
  replace hp:=gb_any hp;obtain ⟨y4,hy4,hp⟩:=hp
  refine W_D0 [19] mix (by kernel_rfl) rfl ?_
  refine s2 ?_
  refine D_idxS GC.none (OpV.t rfl) (OpV.t rfl) str9.h (fun hg=>hy3) ?_
  refine s4 ?_
  refine D_idxS (GC.some rfl rfl) (OpV.s rfl) (OpV.s rfl) str9.h (fun hg=>(hy4 (gnot hg.2))) ?_
  refine s14 ?_
  refine kp [0,3,19] ?_
  refine W_cond rfl (fun q5=>?_) (fun q5=>?_)
  ·replace hp:=cond_t q5 hp
   refine s4 ?_
   replace hp:=map_any hp;obtain ⟨a6,hp,z_6⟩:=hp
   obtain rfl:=hx1 _ z_6
   obtain rfl:=sj hp
   refine s1 ?_
   refine res1 rfl (ResOK.tmp rfl) ⟨rfl,rfl⟩ ms
  ·replace hp:=cond_f q5 hp
   refine s6 ?_
   exact ⟨IntKind.wrap .i64 (v1_0+1),sb,(.sub ms),some_eq hp⟩
 ·replace hp:=cond_f q2 hp
  refine W_exit ?_
  replace hp:=map_any hp;obtain ⟨a7,hp,z_7⟩:=hp
  obtain rfl:=hx1 _ z_7
  refine s4 ?_
  replace hp:=ba hp;obtain ⟨y8,hy8,hp⟩:=hp
  refine L_callX rfl fn106.h rfl (by exact fun w hw=>i_within_walk w (a0.size:Int) 1 8  _ hy8) ?_
  refine s2 ?_
  obtain rfl:=sj hp
  refine s1 ?_
  refine res1 rfl (ResOK.tmp rfl) ⟨rfl,rfl⟩ ms
noncomputable def i_wordIf (a0:ByteArray) (a1:Bool):Option Bool :=
 cond a1 (Option.bind (i_isWord a0) (fun y2=>some y2)) (some (decide (a0=ByteArray.empty)))
theorem i_wordIf_walk (w:World) (a0:ByteArray) (a1:Bool)  (r:Bool) (hp:i_wordIf a0 a1=some r):Spec Tryz.prog 151 [.string a0,.bool a1].toArray w [] (IsV (.bool r)):=by
 refine Spec.intro Tryz.func151 rfl Tryz.ntmps151 rfl ?_
 unfold i_wordIf at hp
 replace hp:=dd hp
 refine s9 ?_
 refine kp [0,5] ?_
 refine W_cond rfl (fun q1=>?_) (fun q1=>?_)
 ·replace hp:=cond_t q1 hp
  refine s3 ?_
  replace hp:=ba hp;obtain ⟨y2,hy2,hp⟩:=hp
  refine L_callX rfl fn185.h rfl (by exact fun w hw=>i_isWord_walk w a0  _ hy2) ?_
  refine s2 ?_
  obtain rfl:=sj hp
  refine s1 ?_
  refine res1 rfl (ResOK.tmp rfl) ⟨rfl,rfl⟩ ms
 ·replace hp:=cond_f q1 hp
  refine s7 ?_
  obtain rfl:=sj hp
  refine s1 ?_
  refine res1 rfl (ResOK.tmp rfl) ⟨rfl,rfl⟩ ms
noncomputable def i_areChunks (a0:List ByteArray):Option Bool :=
 whileP (fun s1:Int=>cond (decide (s1 < (a0.length:Int))) (Option.bind (idx a0 s1) (fun y3=>cond (!decide ((y3.size:Int)=8)) (Option.map .inr (some false)) (some (.inl (IntKind.wrap .i64 (s1+1)))))) (Option.map .inr (some true))) 0
theorem i_areChunks_walk (w:World) (a0:TL ByteArray) (h0:GT.rd w [] a0) (r:Bool) (hp:i_areChunks (GT.dat a0)=some r):Spec Tryz.prog 152 [(TL.hdr a0)].toArray w [] (IsV (.bool r)):=by
 refine Spec.intro Tryz.func152 rfl Tryz.ntmps152 rfl ?_
 unfold i_areChunks at hp
 replace hp:=dd hp
 refine s12 ?_
 refine W_while (σ:=Int) GT.dat (fun (v1_0:Int)=>[(7,.int .i64 v1_0)]) (fun (v1_0:Int)=>[]) [(5,_),(6,_)] [] 0 hp sb ms ?_
 clear hp
 rintro v1_0 x1 hp hx1
 replace hp:=dd hp
 refine kq [5,6,7] ?_
 refine s5 ?_
 refine kp [5,6,7,8] ?_
 refine W_cond rfl (fun q2=>?_) (fun q2=>?_)
 ·replace hp:=cond_t q2 hp
  refine s5 ?_
  replace hp:=idx_bind hp;obtain ⟨u3,hy3,hp⟩:=hp
  refine L_idxA (X:=a0) rfl rfl rfl el30.h (RdT.old h0) hy3 ?_
  refine L_load0 rfl rfl (RdT.at (RdT.old h0) (hy3).2) one9.h rfl ?_
  refine s8 ?_
  refine kp [5,6,7,13] ?_
  refine W_cond rfl (fun q4=>?_) (fun q4=>?_)
  ·replace hp:=cond_t q4 hp
   refine s4 ?_
   replace hp:=map_any hp;obtain ⟨a5,hp,z_5⟩:=hp
   obtain rfl:=hx1 _ z_5
   obtain rfl:=sj hp
   refine s1 ?_
   refine res1 rfl (ResOK.tmp rfl) ⟨rfl,rfl⟩ ms
  ·replace hp:=cond_f q4 hp
   refine s5 ?_
   exact ⟨IntKind.wrap .i64 (v1_0+1),sb,(.sub ms),some_eq hp⟩
 ·replace hp:=cond_f q2 hp
  refine W_exit ?_
  replace hp:=map_any hp;obtain ⟨a6,hp,z_6⟩:=hp
  obtain rfl:=hx1 _ z_6
  refine s4 ?_
  obtain rfl:=sj hp
  refine s1 ?_
  refine res1 rfl (ResOK.tmp rfl) ⟨rfl,rfl⟩ ms
noncomputable def i_CmdOk (a0:D_Cmd):Option Bool :=
 cond (decide (a0.1=0)) (Option.bind (i_SameCmd (a0.1,a0.2.1,a0.2.2.1,a0.2.2.2.1,a0.2.2.2.2.1,a0.2.2.2.2.2.1,a0.2.2.2.2.2.2.1,a0.2.2.2.2.2.2.2) (0,0,0,ByteArray.empty,ByteArray.empty,ByteArray.empty,0,([]:List ByteArray))) (fun y2=>some y2)) (Option.bind (i_within a0.1 1 7) (fun y3=>gb (!(!y3)) (i_within a0.2.1 1 9) (fun y4=>gb (!((!y3)||(!y4))) (i_within a0.2.2.1 1 1000) (fun y5=>cond (((!y3)||(!y4))||(!y5)) (some false) (Option.bind (i_wordIf a0.2.2.2.1 (!decide (a0.1=7))) (fun y7=>gb (!(!y7)) (i_wordIf a0.2.2.2.2.1 ((decide (a0.1=3))||(decide (a0.1=4)))) (fun y8=>gb (!((!y7)||(!y8))) (i_wordIf a0.2.2.2.2.2.1 (decide (a0.1=4))) (fun y9=>cond (((!y7)||(!y8))||(!y9)) (some false) (gb ((!decide (a0.2.2.2.2.2.2.1=0))&&(!(!decide (a0.1=5)))) (i_within a0.2.2.2.2.2.2.1 0 9) (fun y11=>cond ((!decide (a0.2.2.2.2.2.2.1=0))&&((!decide (a0.1=5))||(!y11))) (some false) (cond (decide (a0.1=3)) (Option.bind (i_within (a0.2.2.2.2.2.2.2.length:Int) 1 4) (fun y14=>gb y14 (i_areChunks a0.2.2.2.2.2.2.2) (fun y15=>some (y14&&y15)))) (some (decide ((a0.2.2.2.2.2.2.2.length:Int)=0))))))))))))))
theorem i_CmdOk_walk (w:World) (a0:T_Cmd) (h0:GT.rd w [] a0) (r:Bool) (hp:i_CmdOk (GT.dat a0)=some r):Spec Tryz.prog 91 [.agg (GT.cells a0).toArray].toArray w [] (IsV (.bool r)):=by
 obtain ⟨a0_1,a0_2,a0_3,a0_4,a0_5,a0_6,a0_7,a0_8⟩:=a0
 change Spec _ _ ([Value.agg #[.int .i64 a0_1,.int .i64 a0_2,.int .i64 a0_3,.string a0_4,.string a0_5,.string a0_6,.int .i64 a0_7,(TL.hdr a0_8)]]:List Value).toArray w [] _
 refine Spec.intro Tryz.func91 rfl Tryz.ntmps91 rfl ?_
 unfold i_CmdOk at hp
 replace hp:=dd hp
 refine s2 ?_
 refine bx fun bk1=>?_
 refine s9 ?_
 refine kp [1,5] ?_
 refine W_cond rfl (fun q1=>?_) (fun q1=>?_)
 ·replace hp:=cond_t q1 hp
  refine s3 ?_
  refine L_build (xs:=[]) (cs:=[.int .i64 0,.int .i64 0,.int .i64 0,.string ByteArray.empty,.string ByteArray.empty,.string ByteArray.empty,.int .i64 0,(TL.hdr (TL.nil ByteArray 0))]) rfl rfl bld32.h rfl ?_
  replace hp:=ba hp;obtain ⟨y2,hy2,hp⟩:=hp
  refine L_callX rfl fn150.h rfl (by exact fun w hw=>i_SameCmd_walk w (a0_1,a0_2,a0_3,a0_4,a0_5,a0_6,a0_7,a0_8) (0,0,0,ByteArray.empty,ByteArray.empty,ByteArray.empty,0,(TL.nil ByteArray 0)) (RdT.now (RdT.pair RdT.int (RdT.pair RdT.int (RdT.pair RdT.int (RdT.pair RdT.str (RdT.pair RdT.str (RdT.pair RdT.str (RdT.pair RdT.int (RdT.old h0.2.2.2.2.2.2.2)))))))) hw) (RdT.now (RdT.pair RdT.int (RdT.pair RdT.int (RdT.pair RdT.int (RdT.pair RdT.str (RdT.pair RdT.str (RdT.pair RdT.str (RdT.pair RdT.int (RdT.nil 0)))))))) hw) _ hy2) ?_
  refine s2 ?_
  obtain rfl:=sj hp
  refine s1 ?_
  refine res1 rfl (ResOK.tmp rfl) ⟨rfl,rfl⟩ ms
 ·replace hp:=cond_f q1 hp
  refine s3 ?_
  replace hp:=ba hp;obtain ⟨y3,hy3,hp⟩:=hp
  replace hp:=gb_any hp;obtain ⟨y4,hy4,hp⟩:=hp
  replace hp:=gb_any hp;obtain ⟨y5,hy5,hp⟩:=hp
  refine W_D0 [24] mix (by kernel_rfl) rfl ?_
  refine s2 ?_
  refine D_callX GC.none fn106.h (OpVs.cons (OpV.t rfl) (OpVs.cons OpV.c (OpVs.cons OpV.c (OpVs.nil)))) (by exact fun hg w F hF hM=>i_within_walk w a0_1 1 7  _ hy3) ?_
  refine s4 ?_
  refine D_callX (GC.some rfl rfl) fn106.h (OpVs.cons (OpV.s rfl) (OpVs.cons OpV.c (OpVs.cons OpV.c (OpVs.nil)))) (by exact fun hg w F hF hM=>i_within_walk w a0_2 1 9  _ (hy4 (gnot hg.2))) ?_
  refine s5 ?_
  refine D_callX (GC.some rfl rfl) fn106.h (OpVs.cons (OpV.s rfl) (OpVs.cons OpV.c (OpVs.cons OpV.c (OpVs.nil)))) (by exact fun hg w F hF hM=>i_within_walk w a0_3 1 1000  _ (hy5 (gnot hg.2))) ?_
  refine s20 ?_
  refine kp [1,24] ?_
  refine W_cond rfl (fun q6=>?_) (fun q6=>?_)
  ·replace hp:=cond_t q6 hp
   refine s4 ?_
   obtain rfl:=sj hp
   refine s1 ?_
   refine res1 rfl (ResOK.tmp rfl) ⟨rfl,rfl⟩ ms
  ·replace hp:=cond_f q6 hp
   refine s3 ?_
   replace hp:=ba hp;obtain ⟨y7,hy7,hp⟩:=hp
   replace hp:=gb_any hp;obtain ⟨y8,hy8,hp⟩:=hp
   replace hp:=gb_any hp;obtain ⟨y9,hy9,hp⟩:=hp
   refine W_D0 [54] mix (by kernel_rfl) rfl ?_
   refine s5 ?_
   refine D_callX GC.none fn151.h (OpVs.cons (OpV.t rfl) (OpVs.cons (OpV.t rfl) (OpVs.nil))) (by exact fun hg w F hF hM=>i_wordIf_walk w a0_4 (!decide (a0_1=7))  _ hy7) ?_
   refine s12 ?_
   refine D_callX (GC.some rfl rfl) fn151.h (OpVs.cons (OpV.s rfl) (OpVs.cons (OpV.s rfl) (OpVs.nil))) (by exact fun hg w F hF hM=>i_wordIf_walk w a0_5 ((decide (a0_1=3))||(decide (a0_1=4)))  _ (hy8 (gnot hg.2))) ?_
   refine s8 ?_
   refine D_callX (GC.some rfl rfl) fn151.h (OpVs.cons (OpV.s rfl) (OpVs.cons (OpV.s rfl) (OpVs.nil))) (by exact fun hg w F hF hM=>i_wordIf_walk w a0_6 (decide (a0_1=4))  _ (hy9 (gnot hg.2))) ?_
   refine s20 ?_
   refine s14 ?_
   refine kp [1,54] ?_
   refine W_cond rfl (fun q10=>?_) (fun q10=>?_)
   ·replace hp:=cond_t q10 hp
    refine s4 ?_
    obtain rfl:=sj hp
    refine s1 ?_
    refine res1 rfl (ResOK.tmp rfl) ⟨rfl,rfl⟩ ms
   ·replace hp:=cond_f q10 hp
    refine s3 ?_
    replace hp:=gb_any hp;obtain ⟨y11,hy11,hp⟩:=hp
    refine W_D0 [68] mix (by kernel_rfl) rfl ?_
    refine s10 ?_
    refine D_callX (GC.some rfl rfl) fn106.h (OpVs.cons (OpV.s rfl) (OpVs.cons OpV.c (OpVs.cons OpV.c (OpVs.nil)))) (by exact fun hg w F hF hM=>i_within_walk w a0_7 0 9  _ (hy11 (gand hg.1.2 (gnot hg.2)))) ?_
    refine s19 ?_
    refine kp [1,68] ?_
    refine W_cond rfl (fun q12=>?_) (fun q12=>?_)
    ·replace hp:=cond_t q12 hp
     refine s4 ?_
     obtain rfl:=sj hp
     refine s1 ?_
     refine res1 rfl (ResOK.tmp rfl) ⟨rfl,rfl⟩ ms
    ·replace hp:=cond_f q12 hp
     refine s8 ?_
     refine kp [1,71] ?_
     refine W_cond rfl (fun q13=>?_) (fun q13=>?_)
     ·replace hp:=cond_t q13 hp
      refine s1 ?_
      replace hp:=ba hp;obtain ⟨y14,hy14,hp⟩:=hp
      replace hp:=gb_any hp;obtain ⟨y15,hy15,hp⟩:=hp
      refine W_D0 [2] mix (by kernel_rfl) rfl ?_
      refine s2 ?_
      refine D_lenP (X:=a0_8) GC.none (OpV.t rfl) el30.h ?_
      refine D_callX GC.none fn106.h (OpVs.cons (OpV.t rfl) (OpVs.cons OpV.c (OpVs.cons OpV.c (OpVs.nil)))) (by exact fun hg w F hF hM=>i_within_walk w ((GT.dat a0_8).length:Int) 1 4  _ hy14) ?_
      refine s3 ?_
      refine D_callX (GC.some rfl rfl) fn152.h (OpVs.cons (OpV.s rfl) (OpVs.nil)) (by exact fun hg w F hF hM=>i_areChunks_walk w a0_8 (RdT.nowS (RdT.old h0.2.2.2.2.2.2.2) hF hM) _ (hy15 hg.2)) ?_
      refine s14 ?_
      obtain rfl:=sj hp
      refine s1 ?_
      refine res1 rfl (ResOK.tmp rfl) ⟨rfl,rfl⟩ ms
     ·replace hp:=cond_f q13 hp
      refine s9 ?_
      obtain rfl:=sj hp
      refine s1 ?_
      refine res1 rfl (ResOK.tmp rfl) ⟨rfl,rfl⟩ ms
end Go.Proofs.SL
