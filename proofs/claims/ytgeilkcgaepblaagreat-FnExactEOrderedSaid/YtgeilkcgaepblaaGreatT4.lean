/- The texts of the proof, part 4: the base, walks of functions, plain Lean. -/
import Derived.Test.YtgeilkcgaepblaaGreatT3
import Derived.Sort.Grow
import Derived.Sort.EncStr
import Derived.Lib.SlicesCompact
import Derived.Laws.StructEq
import Derived.Test.YtgeilkcgaepblaaGreatRows
import Derived.Shelf.SlSortCmp.NoneTotal
import Derived.Ground.SlsfProg
import Derived.Lib.Overlaps
import Derived.Lib.AppendZerosOnto
import Derived.Laws.Externs
import Derived.OrdersHeld
namespace Go.Proofs.SL
open Go
variable {Γ : Cx} {l : Envl} {M M' M1 M2 F : List HP} {Q : Post} {K : Kont} {w0 w : World} {S0 : List Nat} {P : Program}
variable {rest : List Oper} {d : Nat} {ty : TypeId} {pos : String} {af : Array Edge}
section
variable {τ δ : Type} [GT τ δ]
theorem L_slcE {x : Operand} {lo hi : Option Operand} {T e sz by_ : Nat} {z : List Value} {X : TL τ} {a b : Int} {r : List δ} (hn : Nat.blt d Γ.n = true) (hx : ev l x = some X.hdr) (hlo : optI l lo 0 = some a) (hhi : optI l hi ((GT.dat X).length : Int) = some b)
    (ht : elOf Γ.P T = some (e, sz, by_, z)) (hsz : GT.sz τ = sz) (hR : RdT Γ M X) (hr : slcP (GT.dat X) a b = some r)
    (hk : ∀ X' : TL τ, GT.dat X' = r → X' = slc X a.toNat b.toNat → L Γ rest ((d, X'.hdr) :: l) M K) :
    L Γ ({ dst := some d, op := .slice T x lo hi none, type := ty, pos := pos, after := af, guard := none } :: rest) l M K := by
  unfold slcP at hr
  split at hr
  · rename_i hb
    cases hr
    rw [dat_els, List.length_map] at hb hhi
    obtain ⟨h0, h1, h2⟩ := hb
    have h1' : a.toNat ≤ b.toNat := by omega
    have h2' : b.toNat ≤ X.els.length := by omega
    refine L_pure hn (v := (slc X a.toNat b.toNat).hdr) (fun a' w ha hw => ?_) (hk (slc X a.toNat b.toNat) (by rw [dat_els, dat_els]; simp [slc, List.map_take, List.map_drop]) rfl)
    have hcap : X.els.length ≤ X.cap := (hR w hw.sees).1
    unfold elOf at ht
    split at ht <;> (try cases ht)
    rename_i e' het
    split at ht <;> (try cases ht)
    rename_i i' hi'
    split at ht <;> cases ht
    have hlen : ((X.els.drop a.toNat).take (b.toNat - a.toNat)).length = b.toNat - a.toNat := by simp; omega
    have hv : (slc X a.toNat b.toNat).hdr = .slice (if X.cap = a.toNat then X.a else X.a.map (·.add (a.toNat * i'.size))) (b.toNat - a.toNat) (X.cap - a.toNat) := by
      show Value.slice _ ((X.els.drop a.toNat).take (b.toNat - a.toNat)).length _ = _
      rw [hlen]; simp only [slc, hsz]
    rw [hv]
    have e1 : a'.eval x = .slice X.a X.els.length X.cap := ha.eval hx
    cases lo with
    | none =>
      cases hlo
      cases hi with
      | none =>
        cases hhi
        simp only [execOp, Option.map_none, e1, Instr.sliceAt, Instr.slice, underlying, Sem.run_bind, run_program, Result.andThen_ok, het, Instr.sliceBounds, Sem.run_pure, sizeOf, typeInfo, hi']
        simp
      | some o =>
        obtain ⟨k, h5⟩ := optI_some hhi
        have e2 := ha.eval h5
        have e4 := fun w => run_sliceBound (P := Γ.P) (k := k) (code := .sliceAcap) (show 0 ≤ b by omega) (show b ≤ ((X.cap : Nat) : Int) by omega) w
        simp [execOp, e1, e2, Instr.sliceAt, Instr.slice, underlying, het, Instr.sliceBounds, sizeOf, typeInfo, hi', e4]
    | some o1 =>
      obtain ⟨k1, h6⟩ := optI_some hlo
      have e3 := ha.eval h6
      cases hi with
      | none =>
        cases hhi
        have e4 := fun w => run_sliceBound (P := Γ.P) (k := k1) (code := .sliceB) h0 (show a ≤ ((X.els.length : Nat) : Int) by omega) w
        simp [execOp, e1, e3, Instr.sliceAt, Instr.slice, underlying, het, Instr.sliceBounds, sizeOf, typeInfo, hi', e4]
      | some o =>
        obtain ⟨k, h5⟩ := optI_some hhi
        have e2 := ha.eval h5
        have e4 := fun w => run_sliceBound (P := Γ.P) (k := k) (code := .sliceAcap) (show 0 ≤ b by omega) (show b ≤ ((X.cap : Nat) : Int) by omega) w
        have e5 := fun w => run_sliceBound (P := Γ.P) (k := k1) (code := .sliceB) h0 (show a ≤ ((b.toNat : Nat) : Int) by omega) w
        simp [execOp, e1, e2, e3, Instr.sliceAt, Instr.slice, underlying, het, Instr.sliceBounds, sizeOf, typeInfo, hi', e4, e5]
  · cases hr
theorem slcE_rd {X Y : TL τ} {a b : Int} {r : List δ} (he : Y = slc X a.toNat b.toNat) (hs : slcP (GT.dat X) a b = some r) : ∀ w S, GT.rd w S X → GT.rd w S Y := by
  intro w S h
  obtain ⟨s0, s1, s2, -⟩ := slcP_some hs
  rw [dat_els, List.length_map] at s2
  subst he
  exact slc_rd h (by omega) (by omega)
def trunc (X : TL τ) (b : Nat) : TL τ := ⟨X.a, X.cap, X.e, X.els.take b, rowCells (X.els.drop b) ++ X.tail⟩
theorem trunc_own {X : TL τ} {b : Nat} (hb : b ≤ X.els.length) (p : Pick (treeH X) M M1) (h : Holds w0 S0 M w) : Holds w0 S0 (treeH (trunc X b) :: M1) w := by
  have h1 := tree_row (h.perm p.perm)
  have h2 : Holds w0 S0 (elsT (X.els.take b) :: rowH X :: M1) w := els_sub (zs := X.els.drop b) (List.Perm.of_eq (List.take_append_drop b X.els).symm) (by apply Pick.there; exact Pick.here _) h1
  have h3 := h2.perm (List.Perm.swap _ _ _)
  refine row_tree ?_
  show Holds w0 S0 (rowH (trunc X b) :: elsT (X.els.take b) :: M1) w
  refine h3.reFp (List.Perm.of_eq rfl) fun x hx => ?_
  rcases List.mem_cons.1 hx with rfl | hx
  · obtain ⟨r1, r2, r3, r4⟩ := h3.prs (rowH X) (List.mem_cons_self ..)
    have hl : (X.els.take b).length = b := by rw [List.length_take, Nat.min_eq_left hb]
    refine ⟨by show (X.els.take b).length ≤ X.cap; omega, r2, fun ha => ⟨by show X.els.take b = []; rw [(r3 ha).1]; simp, (r3 ha).2⟩, fun a ha => ?_⟩
    obtain ⟨g1, g2, g3, g4⟩ := r4 a ha
    refine ⟨g1, g2, ?_, ?_⟩
    · show w.heap[a.block]? = some (.cells (rowCells (X.els.take b) ++ (rowCells (X.els.drop b) ++ X.tail)).toArray X.e (0, 0))
      rw [← List.append_assoc, ← rowCells_append, List.take_append_drop]; exact g3
    · show (X.els.take b).length * GT.sz τ + (rowCells (X.els.drop b) ++ X.tail).length = X.cap * GT.sz τ
      rw [List.length_append, length_rowCells, List.length_drop, hl, ← g4, ← Nat.add_assoc, ← Nat.add_mul]
      congr 2; omega
  · exact h3.prs _ (List.mem_cons_of_mem _ hx)
theorem trunc_hdr {X Y : TL τ} {a b : Nat} (he : Y = slc X a b) (ha : a = 0) (hb : b ≤ X.els.length) : (trunc X b).hdr = Y.hdr := by
  subst ha; subst he
  show Value.slice X.a (X.els.take b).length X.cap = Value.slice (if X.cap = 0 then X.a else X.a.map (·.add (0 * GT.sz τ))) ((X.els.drop 0).take (b - 0)).length (X.cap - 0)
  have h2 : X.a.map (fun q : Addr => q.add (0 * GT.sz τ)) = X.a := by
    cases X.a with
    | none => rfl
    | some q => simp [Addr.add]
  rw [h2]; simp
theorem L_trunc {X Y : TL τ} {a b : Int} {r' : List δ} {u : Unit} (he : Y = slc X a.toNat b.toNat) (hsl : slcP (GT.dat X) a b = some r') (h0 : chkP (decide (a = 0)) = some u) (p : Pick (treeH X) M M1)
    (hk : ∀ Z : TL τ, GT.dat Z = GT.dat Y → Z.hdr = Y.hdr → L Γ rest l (treeH Z :: M1) K) : L Γ rest l M K := by
  obtain ⟨s0, s1, s2, -⟩ := slcP_some hsl
  rw [dat_els, List.length_map] at s2
  have h0 : a = 0 := of_decide_eq_true (chkP_some h0)
  refine L_conv (fun w h => trunc_own (b := b.toNat) (by omega) p h) (hk _ ?_ (trunc_hdr he (by omega) (by omega)))
  rw [he, h0, dat_els, dat_els]
  simp [trunc, slc]
end
end Go.Proofs.SL
namespace Go.Proofs.SL
open Go
variable {Γ : Cx} {ops : Array Oper} {Msh pool pool' : List HP} {E : Fl} {rs : List (Option Nat × Rel)} {rest : List Oper} {KD : RKont} {cs0 : List Nat}
variable {d : Nat} {ty : TypeId} {pos : String} {af : Array Edge}
variable {gd : Option (Nat × Bool)}
end Go.Proofs.SL
namespace Go.Proofs.SL
open Go
section
variable {τ δ κ : Type} [GT τ δ]
variable [Inhabited κ]
theorem put_cells (enc : κ → Value) (ds : List κ) (a b : List Value) (h : a.length = ds.length) : Sort.putCells enc 0 ds.toArray (a ++ b).toArray = (ds.map enc ++ b).toArray := by
  apply Array.ext_getElem?
  intro j
  simp only [Sort.putCells, Array.getElem?_mapIdx, List.getElem?_toArray, List.size_toArray, Nat.zero_add, Nat.zero_le, true_and, Nat.sub_zero]
  rcases Nat.lt_or_ge j ds.length with hj | hj
  · rw [List.getElem?_append_left (by omega), List.getElem?_append_left (by simpa using hj), List.getElem?_eq_getElem (show j < a.length by omega)]
    simp [hj, List.getElem?_map]
  · rw [List.getElem?_append_right (by omega), List.getElem?_append_right (by simpa using hj), List.length_map, h]
    cases b[j - ds.length]? with
    | none => rfl
    | some v => simp [Nat.not_lt.2 hj]
/-- A slice that one owns is nil, or a row from its block's beginning. -/
theorem own_cases {w : World} {a0 : TL τ} (hh : Holds w (fps [treeH a0]) [treeH a0] w) : (∃ e tail, a0 = ⟨none, 0, e, [], tail⟩) ∨ ∃ b cap e els tail, a0 = ⟨some ⟨b, 0, none⟩, cap, e, els, tail⟩ ∧ els.length ≤ cap ∧ els.length * GT.sz τ + tail.length = cap * GT.sz τ ∧ w.heap[b]? = some (.cells (rowCells els ++ tail).toArray e (0, 0)) ∧ b < w.heap.size := by
  have ht : GT.ow w a0 := hh.prs _ (List.mem_cons_self ..)
  obtain ⟨h1, h2, h3, h4, h5⟩ := ht
  obtain ⟨a, cap, e, els, tail⟩ := a0
  dsimp only at h1 h2 h3 h4 h5
  cases a with
  | none =>
    obtain ⟨rfl, rfl⟩ := h4 rfl
    exact .inl ⟨e, tail, rfl⟩
  | some ad =>
    obtain ⟨hs, ho, hb, hl⟩ := h5 ad rfl
    obtain ⟨b, o, sp⟩ := ad
    dsimp only at hs ho hb
    subst hs; subst ho
    exact .inr ⟨b, cap, e, els, tail, rfl, h1, hl, hb, (Array.getElem?_eq_some_iff.1 hb).1⟩
end
end Go.Proofs.SL
namespace Go.Proofs.SL
open Go
def eqShape (P : Program) (T : TypeId) : Option (List (TypeId × Nat)) := match P.underlying T with
  | some (.struct fs) => if P.stoodInHeld T || P.eqGuardType P.depth T then none else some ((fs.toList.filter fun f => decide (f.name ≠ "_")).map fun f => (f.type, f.offset))
  | _ => none
inductive EqS (P : Program) (d : Nat) (xs ys : Array Value) : List (TypeId × Nat) → Bool → Prop
  | nil : EqS P d xs ys [] true
  | cons {t : TypeId} {o : Nat} {a b : Value} {r r' : Bool} {fs : List (TypeId × Nat)} (ht : oneOf P t = true) (ha : xs[o]? = some a) (hb : ys[o]? = some b) (he : ∀ w, (Op.equalIn d t a b).run P w = .ok r w) (hs : EqS P d xs ys fs r') : EqS P d xs ys ((t, o) :: fs) (r && r')
theorem run_part_one {P : Program} {T : TypeId} (h : oneOf P T = true) {xs : Array Value} {o : Nat} {v : Value} (hx : xs[o]? = some v) (w : World) : (part T xs o).run P w = .ok v w := by
  simp [part, run_isAgg_one h, hx]
theorem run_eqS {P : Program} {d : Nat} {xs ys : Array Value} : ∀ {fs : List Field} {r : Bool}, EqS P d xs ys ((fs.filter fun f => decide (f.name ≠ "_")).map fun f => (f.type, f.offset)) r → ∀ w, (Op.eqFields d xs ys fs).run P w = .ok r w
  | [], r, h, w => by cases h; simp [Op.eqFields]
  | f :: fs, r, h, w => by
    unfold Op.eqFields
    by_cases hn : f.name ≠ "_"
    · rw [List.filter_cons, if_pos (by simp [hn])] at h
      rw [if_pos hn]
      cases h with
      | cons ht ha hb he hs =>
        rename_i a b r r'
        simp only [Sem.run_bind, run_part_one ht ha, run_part_one ht hb, Result.andThen_ok, he]
        cases r
        · simp
        · simp only [Bool.not_true, Bool.false_eq_true, if_false, Bool.true_and]
          exact run_eqS hs w
    · rw [List.filter_cons, if_neg (by simpa using hn)] at h
      rw [if_neg hn]
      exact run_eqS h w
theorem eqShape_some {P : Program} {T : TypeId} {sh : List (TypeId × Nat)} (h : eqShape P T = some sh) : P.underlying T = some (.struct (P.fieldsOf T)) ∧ P.stoodInHeld T = false ∧ P.eqGuardType P.depth T = false ∧ sh = ((P.fieldsOf T).toList.filter fun f => decide (f.name ≠ "_")).map fun f => (f.type, f.offset) := by
  unfold eqShape at h
  split at h
  · rename_i fs hu
    have hf : P.fieldsOf T = fs := by unfold Program.fieldsOf; rw [hu]
    split at h
    · cases h
    · rename_i hn
      simp only [Bool.or_eq_true, not_or, Bool.not_eq_true] at hn
      exact ⟨by rw [hf]; exact hu, hn.1, hn.2, by rw [hf]; exact (Option.some.inj h).symm⟩
  · cases h
theorem bv_aeql {P : Program} {T : TypeId} {x y : Operand} {xs ys : Array Value} {sh : List (TypeId × Nat)} {r : Bool} (h : eqShape P T = some sh) (he : EqS P 9999 xs ys sh r) : BinV P .eql T x y (.agg xs) (.agg ys) (.bool r) := fun w => by
  obtain ⟨h1, h2, h3, rfl⟩ := eqShape_some h
  simp only [Sem.run_bind, run_eqGuard_agg w _ _ _ _ _ _ h3, Result.andThen_ok, run_eql_struct]
  rw [show (10000 : Nat) = 9999 + 1 from rfl, run_equalIn_struct w 9999 T xs ys h1 h2, run_eqS he w]; rfl
theorem bv_aneq {P : Program} {T : TypeId} {x y : Operand} {xs ys : Array Value} {sh : List (TypeId × Nat)} {r : Bool} (h : eqShape P T = some sh) (he : EqS P 9999 xs ys sh r) : BinV P .neq T x y (.agg xs) (.agg ys) (.bool (!r)) := fun w => by
  obtain ⟨h1, h2, h3, rfl⟩ := eqShape_some h
  simp only [Sem.run_bind, run_eqGuard_agg w _ _ _ _ _ _ h3, Result.andThen_ok, run_neq_struct]
  rw [show (10000 : Nat) = 9999 + 1 from rfl, run_equalIn_struct w 9999 T xs ys h1 h2, run_eqS he w]; rfl
theorem EqS.consI {P : Program} {d : Nat} {xs ys : Array Value} {t : TypeId} {o : Nat} {k : IntKind} {a b : Int} {r' : Bool} {fs : List (TypeId × Nat)} {k' : IntKind} (ht : oneOf P t = true) (hu : P.underlying t = some (.int k')) (ha : xs[o]? = some (.int k a)) (hb : ys[o]? = some (.int k b)) (hs : EqS P (d + 1) xs ys fs r') : EqS P (d + 1) xs ys ((t, o) :: fs) (decide (a = b) && r') :=
  EqS.cons ht ha hb (fun w => run_equalIn_int w d t k k' a b hu) hs
end Go.Proofs.SL
namespace Go.Proofs.SL
open Go
section
variable {Γ : Cx} {l : Envl} {M : List HP} {K : Kont} {w0 w : World} {S0 : List Nat}
variable {rest : List Oper} {d : Nat} {ty : TypeId} {pos : String} {af : Array Edge}
theorem L_storeA {x y : Operand} {T b fo : Nat} {T' : TypeId} {cs cs' r : List Value} {M' : List HP} (hx : ev l x = some (.pointer (some ⟨b, fo, none⟩))) (hy : ev l y = some (.agg cs'.toArray)) (hp : Pick (blk b cs T') M M')
    (ht : aggOf Γ.P T = some cs'.length) (hl : fo + cs'.length ≤ cs.length) (h1 : ∀ v, v ∈ cs' → v.oneCell' = true) (hr : cs.take fo ++ cs' ++ cs.drop (fo + cs'.length) = r) (hk : L Γ rest l (blk b r T' :: M') K) :
    L Γ ({ dst := none, op := .store T x y, type := ty, pos, after := af, guard := none } :: rest) l M K :=
  L_skip rfl rfl (fun a w ha hw => by
    subst hr
    have hw' := hw.perm hp.perm
    have hh : w.heap[b]? = some (.cells cs.toArray T' (0, 0)) := hw'.prs (blk b cs T') (by simp)
    have hs := run_store_blk (P := Γ.P) (fo := fo) (vs := cs') (ty := T) hh hl h1
    refine ⟨_, ?_, setRow_blk (cs' := cs.take fo ++ cs' ++ cs.drop (fo + cs'.length)) hw'⟩
    simp [execOp, ha.eval hx, ha.eval hy, Instr.storeAt, Instr.sureAddr, storeVar, run_isAgg_agg ht, Value.cells, hs]) hk
end
section
variable {Γ : Cx} {rest : List Oper} {d : Nat} {ty : TypeId} {pos : String} {af : Array Edge}
variable {ops : Array Oper} {Msh pool : List HP} {E : Fl} {rs : List (Option Nat × Rel)} {cs0 : List Nat} {KD : List (Option Nat × Rel) → List Nat → List HP → Prop}
end
theorem eqB_nf {α : Type} {a b : α} : ((!eqB a b) = false) ↔ a = b := by
  cases h : eqB a b with
  | true => simp [eqB_true.1 h]
  | false => simp [eqB_false.1 h]
theorem eqB_nt {α : Type} {a b : α} : ((!eqB a b) = true) ↔ ¬ a = b := by
  cases h : eqB a b with
  | true => simp [eqB_true.1 h]
  | false => simp [eqB_false.1 h]
end Go.Proofs.SL
namespace Go.Proofs.SL
open Go
instance : Mk Bool := ⟨fun _ => 1, fun k _ => decide (((k : Int)).tmod 3 = 0)⟩
instance : Bm Bool := ⟨1, fun x => by show 1 ≤ 1 * (1 + 0); omega⟩
end Go.Proofs.SL
namespace Go.Proofs.SL
open Go
variable {Γ : Cx} {l : Envl} {M M1 : List HP} {K : Kont} {w0 w : World} {S0 : List Nat}
variable {rest : List Oper} {d : Nat} {ty : TypeId} {pos : String} {af : Array Edge}
section
variable {τ δ : Type} [GT τ δ]
theorem blk_own [FlatT τ] {b cap : Nat} {e : TypeId} {ts : List τ} {tail : List Value} (h1 : ts.length ≤ cap) (h2 : cap ≤ maxLen) (h3 : ts.length * GT.sz τ + tail.length = cap * GT.sz τ)
    (h : Holds w0 S0 (blk b (rowCells ts ++ tail) e :: M) w) : Holds w0 S0 (treeH (⟨some ⟨b, 0, none⟩, cap, e, ts, tail⟩ : TL τ) :: M) w := by
  have hb : w.heap[b]? = some (.cells (rowCells ts ++ tail).toArray e (0, 0)) := h.prs _ (List.mem_cons_self ..)
  have ef : fps (treeH (⟨some ⟨b, 0, none⟩, cap, e, ts, tail⟩ : TL τ) :: M) = fps (blk b (rowCells ts ++ tail) e :: M) := by
    simp only [fps_cons]
    show ([b] ++ ts.flatMap GT.fp) ++ fps M = [b] ++ fps M
    rw [fps_flat ts fun x _ => FlatT.flat x, List.append_nil]
  refine ⟨h.os, h.tape, h.output, h.size, h.old, fun x hx => ?_, by rw [ef]; exact h.nodup, fun k hk => h.rng k (by rw [← ef]; exact hk)⟩
  rcases List.mem_cons.1 hx with rfl | hx
  · exact ⟨h1, h2, fun x _ => (FlatT.flat x).ow w, fun hn => (by cases hn), fun a ha => by cases ha; exact ⟨rfl, rfl, hb, h3⟩⟩
  · exact h.prs x (List.mem_cons_of_mem _ hx)
/-- A slice of several parts of one kind. -/
theorem L_bsN [FlatT τ] (ts : List τ) {T e sz by_ n : Nat} {z : List Value} {xs : List (Nat × Operand)} {ps : List (Nat × Value)} {r : List δ} (hn : Nat.blt d Γ.n = true) (hx : evp l xs = some ps) (ht : elOf Γ.P T = some (e, sz, by_, z)) (hz : z.length = sz)
    (hsz : GT.sz τ = sz) (h0 : Nat.blt 0 sz = true) (hns : Nat.ble (n * sz) 65536 = true) (hn0 : Nat.blt 0 n = true) (hlen : ts.length = n) (hf : fillL (fun i => some (i * sz, sz)) ((List.range (n * sz)).map fun i => z.getD (i % sz) undef) ps = some (rowCells ts))
    (hr : some (ts.map GT.dat) = some r) (hk : ∀ X : TL τ, GT.dat X = r → L Γ rest ((d, X.hdr) :: l) (treeH X :: M) K) :
    L Γ ({ dst := some d, op := .buildSlice T n xs.toArray, type := ty, pos, after := af, guard := none } :: rest) l M K := by
  have h0' : 0 < sz := Nat.le_of_ble_eq_true h0
  have hns' : n * sz ≤ 65536 := Nat.le_of_ble_eq_true hns
  refine L_buildSlice hn hx ht hz h0' hns' (Nat.le_of_ble_eq_true hn0) hf fun b => ?_
  have hnl : n ≤ 65536 := Nat.le_trans (Nat.le_mul_of_pos_right n h0') hns'
  refine L_conv (M' := treeH (⟨some ⟨b, 0, none⟩, n, e, ts, []⟩ : TL τ) :: M) (fun w h => blk_own (by omega) (by simp only [maxLen]; omega) (by rw [hlen]; simp) (by rw [List.append_nil]; exact h)) ?_
  have := hk ⟨some ⟨b, 0, none⟩, n, e, ts, []⟩ (Option.some.inj hr)
  have eh : (⟨some ⟨b, 0, none⟩, n, e, ts, []⟩ : TL τ).hdr = .slice (some ⟨b, 0, none⟩) n n := by show Value.slice _ ts.length _ = _; rw [hlen]
  rw [eh] at this
  exact this
end
end Go.Proofs.SL
namespace Go.Proofs.SL
open Go
section
variable {Γ : Cx} {rest : List Oper} {d : Nat} {ty : TypeId} {pos : String} {af : Array Edge} {gd : Option (Nat × Bool)}
variable {ops : Array Oper} {Msh pool : List HP} {E : Fl} {rs : List (Option Nat × Rel)} {cs0 : List Nat} {KD : List (Option Nat × Rel) → List Nat → List HP → Prop}
end
end Go.Proofs.SL
namespace Go.Proofs.SL
open Go
/-- An array of ints, as loops and contracts hand it on. -/
structure AR where
  l : List Int
instance : GT AR (List Int) where
  sz := 1
  pos := by decide
  cells _ := [.int .i64 0]
  len _ := rfl
  one _ v hv := by simp at hv; subst hv; rfl
  rd _ _ _ := True
  fp _ := []
  ow _ _ := True
  dat t := t.l
  rd_mono h _ := h
  ow_st _ h := h
  ow_rd _ _ := trivial
theorem dat_ar (x : AR) : GT.dat x = x.l := rfl
def aC (k : IntKind) (l : List Int) : List Value := l.map (Value.int k)
variable {Γ : Cx} {l : Envl} {M : List HP} {K : Kont} {w0 w : World} {S0 : List Nat} {rest : List Oper} {d : Nat} {ty : TypeId} {pos : String} {af : Array Edge}
section
variable {k : IntKind} {A A' : List Int}
end
/-! A variable of the package that is only read: block g, ints. -/
structure GA (g : Nat) (k : IntKind) (A : List Int) where mk ::
instance (g : Nat) (k : IntKind) (A : List Int) : GT (GA g k A) Unit where
  sz := 1
  pos := by decide
  cells _ := [.int .i64 0]
  len _ := rfl
  one _ v hv := by simp at hv; subst hv; rfl
  rd w S _ := ∀ j v, (aC k A)[j]? = some v → Old w S ⟨g, j, none⟩ v
  fp _ := []
  ow _ _ := False
  dat _ := ()
  rd_mono h hm := fun j v hv => hm _ _ (h j v hv)
  ow_st _ h := h
  ow_rd h _ := h.elim
/-! In a drawn region -/
variable {ops : Array Oper} {Msh pool : List HP} {E : Fl} {rs : List (Option Nat × Rel)} {cs0 : List Nat} {KD : List (Option Nat × Rel) → List Nat → List HP → Prop} {gd : Option (Nat × Bool)}
section
variable {k : IntKind} {A A' : List Int} {c : Prop}
end
end Go.Proofs.SL
namespace Go.Proofs.SL
open Go
variable {Γ : Cx} {rest : List Oper} {d : Nat} {ty : TypeId} {pos : String} {af : Array Edge}
variable {ops : Array Oper} {Msh pool : List HP} {E : Fl} {rs : List (Option Nat × Rel)} {cs0 : List Nat} {KD : List (Option Nat × Rel) → List Nat → List HP → Prop}
end Go.Proofs.SL
namespace Go.Proofs.SL
open Go
variable {Γ : Cx} {rest : List Oper} {d : Nat} {ty : TypeId} {pos : String} {af : Array Edge}
variable {ops : Array Oper} {Msh pool pool' : List HP} {E : Fl} {rs : List (Option Nat × Rel)} {cs0 : List Nat} {KD : List (Option Nat × Rel) → List Nat → List HP → Prop}
variable {τ δ : Type} [GT τ δ]
theorem OpV.g0 {g : Nat} {c : Prop} : OpV E (.global g) c (.pointer (some ⟨g, 0, none⟩)) := rfl
end Go.Proofs.SL
namespace Go.Proofs.SL
open Go
variable {Γ : Cx} {rest : List Oper} {d : Nat} {ty : TypeId} {pos : String} {af : Array Edge} {l : Envl} {M : List HP} {K : Kont}
end Go.Proofs.SL
namespace Go.Proofs.SL
open Go
variable {Γ : Cx} {rest : List Oper} {d : Nat} {ty : TypeId} {pos : String} {af : Array Edge} {gd : Option (Nat × Bool)}
variable {ops : Array Oper} {Msh pool : List HP} {E : Fl} {rs : List (Option Nat × Rel)} {cs0 : List Nat} {KD : RKont}
/-- What is handed back where the guard lets the call run. -/
def GR (c : Prop) (R : Rel) : Rel := fun v M => (c → R v M) ∧ (¬ c → v = undef ∧ M = [])
theorem D_callGV {f : Nat} {xs : List Operand} {ats : Array TypeId} {vs : List Value} {c : Prop} (R : Rel)
    (hg : GC ops E { dst := some d, op := .call { callee := .value (.func f), args := xs.toArray, argTypes := ats }, type := ty, pos := pos, after := af, guard := gd } c)
    (hf : IsFn Γ.P f) (hx : OpVs E c xs vs) (hc : c → ∀ w F, Holds Γ.w0 Γ.S0 F w → (∀ h, h ∈ Msh → h ∈ F) → Spec Γ.P f vs.toArray w [] R)
    (hk : DV Γ ops Msh pool ((d, GR c R) :: E) ((some d, GR c R) :: rs) cs0 rest KD) :
    DV Γ ops Msh pool E rs cs0 ({ dst := some d, op := .call { callee := .value (.func f), args := xs.toArray, argTypes := ats }, type := ty, pos := pos, after := af, guard := gd } :: rest) KD := by
  refine DV.mk (GR c R) [] pool [] (by simp) rfl ?_ (by rw [dropE_nil]; exact hk)
  intro a w F Mk _ _ hw hm hfa hcf
  have hMk : Mk = [] := hcf
  subst hMk
  rw [dropE_nil] at hfa
  simp only [List.nil_append] at hw ⊢
  have hgc := hg a F hfa
  split
  · rename_i hwt
    have hcc := hgc.1 hwt
    have hw' : Holds Γ.w0 Γ.S0 F w := by simpa using hw
    have h2 : (#[] ++ xs.toArray.map a.eval ++ #[] : Array Value) = vs.toArray := by
      simp [OpVs.evals (o := { dst := some d, op := .call { callee := .value (.func f), args := xs.toArray, argTypes := ats }, type := ty, pos := pos, after := af, guard := gd }) hcc hfa xs vs hx (fun x hx => by simp [Op.operands, Call.operands, hx])]
    rw [execOp_call_go, h2, hf.run]
    exact (hc hcc w F hw' hm (Holds.split (M1 := []) (M2 := F) hw)).mono fun e w'' ⟨v, M', h1, h3, h4⟩ => ⟨v, M', h1, ⟨fun _ => h3, fun hn => (hn hcc).elim⟩, Holds.frame (M1 := []) (M2 := F) hw h4⟩
  · rename_i hwt
    exact ⟨fun hc => (hwt (hgc.2 hc)).elim, fun _ => ⟨rfl, rfl⟩⟩
theorem D_callGR {f : Nat} {xs : List Operand} {ats : Array TypeId} (Rs : List Rel) {c : Prop} {x : Value}
    (hg : GC ops E { dst := some d, op := .call { callee := .value (.func f), args := xs.toArray, argTypes := ats }, type := ty, pos := pos, after := af, guard := gd } c)
    (hf : IsFn Γ.P f) (hx : OpRs E xs Rs) (hc : c → ∀ w F vs, Holds Γ.w0 Γ.S0 F w → (∀ h, h ∈ Msh → h ∈ F) → AllR F Rs vs → Spec Γ.P f vs.toArray w [] (IsV x))
    (hk : DV Γ ops Msh pool ((d, FC c x) :: E) ((some d, FC c x) :: rs) cs0 rest KD) :
    DV Γ ops Msh pool E rs cs0 ({ dst := some d, op := .call { callee := .value (.func f), args := xs.toArray, argTypes := ats }, type := ty, pos := pos, after := af, guard := gd } :: rest) KD := by
  refine DV.mk (FC c x) [] pool [] (by simp) rfl ?_ (by rw [dropE_nil]; exact hk)
  intro a w F Mk _ _ hw hm hfa hcf
  have hMk : Mk = [] := hcf
  subst hMk
  rw [dropE_nil] at hfa
  simp only [List.nil_append] at hw ⊢
  have hgc := hg a F hfa
  split
  · rename_i hwt
    have hcc := hgc.1 hwt
    have hw' : Holds Γ.w0 Γ.S0 F w := by simpa using hw
    have h1 := OpRs.evals (o := { dst := some d, op := .call { callee := .value (.func f), args := xs.toArray, argTypes := ats }, type := ty, pos := pos, after := af, guard := gd }) hfa xs Rs hx (fun x hx => by simp [Op.operands, Call.operands, hx])
    have h2 : (#[] ++ xs.toArray.map a.eval ++ #[] : Array Value) = (xs.map a.eval).toArray := by simp
    rw [execOp_call_go, h2, hf.run]
    exact (hc hcc w F _ hw' hm h1 (Holds.split (M1 := []) (M2 := F) hw)).mono fun e w'' ⟨v, M', h1, h3, h4⟩ => ⟨v, M', h1, ⟨h3.2, fun _ => h3.1, fun hn => (hn hcc).elim⟩, Holds.frame (M1 := []) (M2 := F) hw h4⟩
  · rename_i hwt
    exact ⟨rfl, fun hc => (hwt (hgc.2 hc)).elim, fun _ => rfl⟩
end Go.Proofs.SL
namespace Go.Proofs.SL
open Go
section
variable {Γ : Cx} {rest : List Oper} {d : Nat} {ty : TypeId} {pos : String} {af : Array Edge}
variable {ops : Array Oper} {Msh pool : List HP} {E : Fl} {rs : List (Option Nat × Rel)} {cs0 : List Nat} {KD : RKont}
end
theorem gb_anyD {α β : Type} [Inhabited α] {g : Bool} {o : Option α} {k : α → Option β} {r : β} (h : gb g o k = some r) : ∃ y, (g = true → o = some y) ∧ (g = false → y = default) ∧ k y = some r := by
  cases g with
  | true => obtain ⟨y, h1, h2⟩ := Option.bind_eq_some_iff.1 h; exact ⟨y, fun _ => h1, (fun hh => (by cases hh)), h2⟩
  | false => exact ⟨default, (fun hh => (by cases hh)), fun _ => rfl, h⟩
section
variable {Γ : Cx} {rest : List Oper} {d : Nat} {ty : TypeId} {pos : String} {af : Array Edge} {gd : Option (Nat × Bool)}
variable {ops : Array Oper} {Msh pool : List HP} {E : Fl} {rs : List (Option Nat × Rel)} {cs0 : List Nat} {KD : RKont}
/-- A part of a slice, under a guard. -/
theorem D_slcG {τ δ : Type} [Inhabited τ] [GT τ δ] {x : Operand} {lo hi : Option Operand} {T e sz by_ : Nat} {z : List Value} {X : TL τ} {a b : Int} {r : List δ} {cc : Prop} (hg : GC ops E { dst := some d, op := .slice T x lo hi none, type := ty, pos := pos, after := af, guard := gd } cc)
    (hx : OpV E x cc X.hdr) (hlo : optD E lo cc 0 a) (hhi : optD E hi cc ((GT.dat X).length : Int) b)
    (ht : elOf Γ.P T = some (e, sz, by_, z)) (hsz : GT.sz τ = sz) (hR : RdT Γ Msh X) (hr : cc → slcP (GT.dat X) a b = some r) (hn : ¬ cc → r = [])
    (hk : ∀ X' : TL τ, GT.dat X' = r → (∀ w S, GT.rd w S X → GT.rd w S X') → DV Γ ops Msh pool ((d, FC cc X'.hdr) :: E) ((some d, FC cc X'.hdr) :: rs) cs0 rest KD) :
    DV Γ ops Msh pool E rs cs0 ({ dst := some d, op := .slice T x lo hi none, type := ty, pos := pos, after := af, guard := gd } :: rest) KD := by
  by_cases hcc : cc
  · have hr := hr hcc
    unfold slcP at hr
    split at hr
    · rename_i hb
      cases hr
      rw [dat_els, List.length_map] at hb
      rw [dat_els, List.length_map] at hhi
      obtain ⟨h0, h1, h2⟩ := hb
      have h1' : a.toNat ≤ b.toNat := by omega
      have h2' : b.toNat ≤ X.els.length := by omega
      refine DV_pure cc (slc X a.toNat b.toNat).hdr hg (fun a' w F hc hf hs => ?_) (hk (slc X a.toNat b.toNat) (by rw [dat_els, dat_els]; simp [slc, List.map_take, List.map_drop]) (fun w S h => slc_rd h h1' h2'))
      have hcap : X.els.length ≤ X.cap := (hR w hs).1
      unfold elOf at ht
      split at ht <;> (try cases ht)
      rename_i e' het
      split at ht <;> (try cases ht)
      rename_i i' hi'
      split at ht <;> cases ht
      have hlen : ((X.els.drop a.toNat).take (b.toNat - a.toNat)).length = b.toNat - a.toNat := by simp; omega
      have hv : (slc X a.toNat b.toNat).hdr = .slice (if X.cap = a.toNat then X.a else X.a.map (·.add (a.toNat * i'.size))) (b.toNat - a.toNat) (X.cap - a.toNat) := by
        show Value.slice _ ((X.els.drop a.toNat).take (b.toNat - a.toNat)).length _ = _
        rw [hlen]; simp only [slc, hsz]
      rw [hv]
      have e1 : a'.eval x = .slice X.a X.els.length X.cap := hx.eval hf (by simp [Op.operands]) hc
      cases lo with
      | none =>
        cases hlo
        cases hi with
        | none =>
          cases hhi
          simp only [execOp, Option.map_none, e1, Instr.sliceAt, Instr.slice, underlying, Sem.run_bind, run_program, Result.andThen_ok, het, Instr.sliceBounds, Sem.run_pure, sizeOf, typeInfo, hi']
          simp
        | some o =>
          obtain ⟨k, h5⟩ := hhi
          have e2 := h5.eval hf (by simp [Op.operands]) hc
          have e4 := fun w => run_sliceBound (P := Γ.P) (k := k) (code := .sliceAcap) (show 0 ≤ b by omega) (show b ≤ ((X.cap : Nat) : Int) by omega) w
          simp [execOp, e1, e2, Instr.sliceAt, Instr.slice, underlying, het, Instr.sliceBounds, sizeOf, typeInfo, hi', e4]
      | some o1 =>
        obtain ⟨k1, h6⟩ := hlo
        have e3 := h6.eval hf (by simp [Op.operands]) hc
        cases hi with
        | none =>
          cases hhi
          have e5 := fun w => run_sliceBound (P := Γ.P) (k := k1) (code := .sliceB) (show 0 ≤ a by omega) (show a ≤ ((X.els.length : Nat) : Int) by omega) w
          simp [execOp, e1, e3, Instr.sliceAt, Instr.slice, underlying, het, Instr.sliceBounds, sizeOf, typeInfo, hi', e5]
        | some o =>
          obtain ⟨k, h5⟩ := hhi
          have e2 := h5.eval hf (by simp [Op.operands]) hc
          have e4 := fun w => run_sliceBound (P := Γ.P) (k := k) (code := .sliceAcap) (show 0 ≤ b by omega) (show b ≤ ((X.cap : Nat) : Int) by omega) w
          have e5 := fun w => run_sliceBound (P := Γ.P) (k := k1) (code := .sliceB) (show 0 ≤ a by omega) (show a ≤ ((b.toNat : Nat) : Int) by omega) w
          simp [execOp, e1, e2, e3, Instr.sliceAt, Instr.slice, underlying, het, Instr.sliceBounds, sizeOf, typeInfo, hi', e4, e5]
    · cases hr
  · refine DV_pure cc (slc X 0 0).hdr hg (fun a' w F hc hf hs => (hcc hc).elim) (hk (slc X 0 0) ?_ (fun w S h => slc_rd h (Nat.le_refl _) (Nat.zero_le _)))
    rw [hn hcc, dat_els]; simp [slc]
end
end Go.Proofs.SL
namespace Go.Proofs.SL
open Go
section
variable {Γ : Cx} {l : Envl} {M M1 M2 F : List HP} {Q : Post} {K : Kont} {w0 w : World} {S0 : List Nat}
variable {rest : List Oper} {d : Nat} {ty : TypeId} {pos : String} {af : Array Edge}
variable {τ δ : Type} [GT τ δ]
end
section
variable {Γ : Cx} {rest : List Oper} {d : Nat} {ty : TypeId} {pos : String} {af : Array Edge}
variable {ops : Array Oper} {Msh pool pool' : List HP} {E : Fl} {rs : List (Option Nat × Rel)} {cs0 : List Nat} {KD : RKont}
variable {τ τ' δ δ' : Type} [GT τ δ] [GT τ' δ']
end
section
variable {Γ : Cx} {rest : List Oper} {d : Nat} {ty : TypeId} {pos : String} {af : Array Edge}
variable {ops : Array Oper} {Msh pool pool' : List HP} {E : Fl} {rs : List (Option Nat × Rel)} {cs0 : List Nat} {KD : RKont}
variable {τ δ : Type} [GT τ δ]
end
section
variable {Γ : Cx} {rest : List Oper} {d : Nat} {ty : TypeId} {pos : String} {af : Array Edge} {gd : Option (Nat × Bool)}
variable {ops : Array Oper} {Msh pool pool' : List HP} {E : Fl} {rs : List (Option Nat × Rel)} {cs0 : List Nat} {KD : RKont}
/-- A part that runs where the guard lets it; else a given answer. -/
def gm {α : Type} (g : Bool) (d : α) (o : Option α) : Option α := cond g o (some d)
@[simp] theorem gm_true {α : Type} {d : α} {o : Option α} : gm true d o = o := rfl
@[simp] theorem gm_false {α : Type} {d : α} {o : Option α} : gm false d o = some d := rfl
end
section
variable {Γ : Cx} {rest : List Oper} {d : Nat} {ty : TypeId} {pos : String} {af : Array Edge}
variable {ops : Array Oper} {Msh pool pool' : List HP} {E : Fl} {rs : List (Option Nat × Rel)} {cs0 : List Nat} {KD : RKont}
variable {τ δ : Type} [GT τ δ]
end
section
variable {Γ : Cx} {rest : List Oper} {d : Nat} {ty : TypeId} {pos : String} {af : Array Edge} {gd : Option (Nat × Bool)}
variable {ops : Array Oper} {Msh pool pool' : List HP} {E : Fl} {rs : List (Option Nat × Rel)} {cs0 : List Nat} {KD : RKont}
variable {τ δ : Type} [GT τ δ]
end
end Go.Proofs.SL
namespace Go.Proofs.SL
open Go
/-! Facts of a program's tables, found by their places -/
class FldF (P : Program) (T f : Nat) (o : outParam Nat) : Prop where h : fldOf P T f = some o
class OneF (P : Program) (T : Nat) : Prop where h : oneOf P T = true
class AggF (P : Program) (T : Nat) (n : outParam Nat) : Prop where h : aggOf P T = some n
class ElF (P : Program) (T : Nat) (e sz by_ : outParam Nat) (z : outParam (List Value)) : Prop where h : elOf P T = some (e, sz, by_, z)
class ZerF (P : Program) (T : Nat) (z : outParam (List Value)) : Prop where h : zeroOf P T = some z
class StrF (P : Program) (T : Nat) : Prop where h : isStr P T = true
class FnF (P : Program) (f : Nat) : Prop where h : IsFn P f
class BldF (P : Program) (T : Nat) (pl : outParam (List (Nat × Nat))) (z : outParam (List Value)) : Prop where h : bldOf P T = some (pl, z)
class UndF (P : Program) (T : Nat) (d : outParam TypeDesc) : Prop where h : P.underlying T = some d
/-! Parts and slots -/
theorem ba {α β : Type} {o : Option α} {k : α → Option β} {r : β} (h : Option.bind o k = some r) : ∃ y, o = some y ∧ k y = some r := bind_any h
theorem pk {h : HP} {M M' : List HP} (p : Pick h M M' := by first | (with_reducible repeat (first | exact Pick.here _ | apply Pick.there)); done | (repeat (first | exact Pick.here _ | apply Pick.there))) : Pick h M M' := p
theorem mm {h : HP} {M : List HP} (p : h ∈ M := by first | (with_reducible repeat (first | exact List.Mem.head _ | apply List.Mem.tail)); done | (repeat (first | exact List.Mem.head _ | apply List.Mem.tail))) : h ∈ M := p
theorem sb {l' l : Envl} (h : Sub l' l := by repeat (first | exact Sub.nil _ | (apply Sub.cons; (· exact rfl)))) : Sub l' l := h
theorem ms {M' M : List HP} (h : MSub M' M := by repeat (first | exact MSub.nil _ | (apply MSub.cons; (· exact pk)))) : MSub M' M := h
theorem pc {M Ms R : List HP} (h : List.Perm M (Ms ++ R) := by repeat (first | exact perm_nil_left _ | (apply perm_cons; (· exact pk)))) : List.Perm M (Ms ++ R) := h
theorem bv {P : Program} {op : BinOp} {T : TypeId} {x y : Operand} {u v r : Value} (h : BinV P op T x y u v r := by
  first
    | (with_reducible first | exact bv_add | exact bv_eql | exact bv_lss | exact bv_sub | exact bv_neq | exact bv_geq | exact bv_gtr | exact bv_leq | exact bv_seql | exact bv_sneq | exact bv_slss | exact bv_sgeq | exact bv_sgtr | exact bv_sleq | exact bv_mul | exact bv_and | exact bv_or | exact bv_xor)
    | ((with_reducible refine bv_beql ?_); exact UndF.h) | ((with_reducible refine bv_bneq ?_); exact UndF.h) | ((with_reducible refine bv_quo ?_); decide) | ((with_reducible refine bv_rem ?_); decide)
    | ((with_reducible refine bv_shl ?_ ?_) <;> decide) | ((with_reducible refine bv_shr ?_ ?_) <;> decide)) : BinV P op T x y u v r := h
theorem ocs {cs : List Value} (h : ∀ v, v ∈ cs → v.oneCell' = true := by first | exact allOne rfl | exact fun v hv => GT.one _ v hv | (simp [Value.oneCell', TL.hdr, Value.cells]; done)) : ∀ v, v ∈ cs → v.oneCell' = true := h
section
variable {Γ : Cx} {l : Envl} {M M' : List HP} {Q : Post} {K : Kont} {rest : List Oper} {d : Nat} {ty : TypeId} {pos : String} {af : Array Edge}
inductive Kp : List Nat → Envl → Envl → Prop
  | nil (l : Envl) : Kp [] l []
  | cons {t : Nat} {v : Value} {ts : List Nat} {l l' : Envl} (h : l.lookup t = some v) (hk : Kp ts l l') : Kp (t :: ts) l ((t, v) :: l')
theorem Kp.sub {ts : List Nat} {l l' : Envl} (h : Kp ts l l') : Sub l' l := by
  induction h with
  | nil l => exact Sub.nil _
  | cons h _ ih => exact Sub.cons h ih
/-- Some slots are kept. -/
theorem kp (ts : List Nat) {c : Code} {l' : Envl} (k : W Γ c l' M Q) (h : Kp ts l l' := by repeat (first | exact Kp.nil _ | (apply Kp.cons; (· exact rfl)))) : W Γ c l M Q := W_weaken h.sub (MSub.refl _) k
theorem kq (ts : List Nat) {c : Code} {l' : Envl} (k : W Γ c l' M' Q) (h : Kp ts l l' := by repeat (first | exact Kp.nil _ | (apply Kp.cons; (· exact rfl)))) (hm : M = M' := by (try simp only [List.cons_append, List.nil_append]); exact rfl) : W Γ c l M Q := W_weaken h.sub (hm ▸ MSub.refl _) k
theorem al {T : TypeId} {z : List Value} [hz : ZerF Γ.P T z] (hk : ∀ b, L Γ rest ((d, .pointer (some ⟨b, 0, none⟩)) :: l) (blk b z T :: M) K) (hn : Nat.blt d Γ.n = true := by exact rfl) :
    L Γ ({ dst := some d, op := .alloc T, type := ty, pos, after := af, guard := none } :: rest) l M K := L_alloc hn hz.h hk
theorem bx {x : Operand} {T : TypeId} {v : Value} (hk : ∀ b, L Γ rest ((d, .pointer (some ⟨b, 0, none⟩)) :: l) (blk b v.cells.toList T :: M) K) (hn : Nat.blt d Γ.n = true := by exact rfl) (hx : ev l x = some v := by exact rfl) :
    L Γ ({ dst := some d, op := .box T x, type := ty, pos, after := af, guard := none } :: rest) l M K := L_box hn hx hk
end
section
variable {w0 w : World} {S0 : List Nat} {M M' M1 M2 : List HP}
/-- A tree made of parts that are there; what is left. -/
def Own {τ δ : Type} [GT τ δ] (M : List HP) (t : τ) (M' : List HP) : Prop := ∀ (w0 : World) (S0 : List Nat) (w : World) (F : List HP), Holds w0 S0 (M ++ F) w → Holds w0 S0 (treeH t :: (M' ++ F)) w
theorem own_pick {τ δ : Type} [GT τ δ] {t : τ} (p : Pick (treeH t) M M') : Own M t M' := fun _ _ _ F h => h.perm (p.perm.append_right F)
theorem own_flat {τ δ : Type} [GT τ δ] {t : τ} (p : Flat t) : Own M t M := fun _ _ _ _ h => h.addFlat p
theorem own_int {n : Int} : Own M n M := own_flat (flat_int trivial)
theorem own_bool {n : Bool} : Own M n M := own_flat (flat_bool _)
theorem own_str {n : ByteArray} : Own M n M := own_flat (flat_str trivial)
theorem own_nil {τ δ : Type} [GT τ δ] {e : TypeId} : Own M (TL.nil τ e) M := own_flat (flat_nil e)
theorem own_pair {α β δ ε : Type} [GT α δ] [GT β ε] {a : α} {b : β} (ha : Own M a M1) (hb : Own M1 b M2) : Own M (a, b) M2 := fun w0 S0 w F h => by
  have h1 := ha w0 S0 w F h
  have h2 : Holds w0 S0 (M1 ++ (treeH a :: F)) w := h1.perm List.perm_middle.symm
  have h3 := hb w0 S0 w _ h2
  have h4 : Holds w0 S0 (treeH a :: treeH b :: (M2 ++ F)) w := h3.perm ((List.perm_middle.cons _).trans (List.Perm.swap _ _ _))
  exact pair_tree h4
theorem ow {τ δ : Type} [GT τ δ] {t : τ} (o : Own M t M' := by repeat (first | (with_reducible exact own_int) | (with_reducible exact own_bool) | (with_reducible exact own_str) | (with_reducible exact own_nil) | (with_reducible apply own_pair) | ((with_reducible apply own_pick); exact pk))) : Own M t M' := o
theorem Own.h {τ δ : Type} [GT τ δ] {t : τ} (o : Own M t M') (h : Holds w0 S0 M w) : Holds w0 S0 (treeH t :: M') w := by
  have := o w0 S0 w [] (by simpa using h)
  simpa using this
/-- A tree taken apart. -/
def Exp {τ δ : Type} [GT τ δ] (t : τ) (M M' : List HP) : Prop := ∀ (w0 : World) (S0 : List Nat) (w : World) (F : List HP), Holds w0 S0 (treeH t :: (M ++ F)) w → Holds w0 S0 (M' ++ F) w
theorem exp_flat {τ δ : Type} [GT τ δ] {t : τ} : Exp t M M := fun _ _ _ F h => h.sub ⟨[treeH t], List.perm_append_comm (l₁ := [treeH t]) (l₂ := M ++ F)⟩
theorem exp_int {n : Int} : Exp n M M := exp_flat
theorem exp_bool {n : Bool} : Exp n M M := exp_flat
theorem exp_str {n : ByteArray} : Exp n M M := exp_flat
theorem exp_leaf {τ δ : Type} [GT τ δ] {t : TL τ} : Exp t M (treeH t :: M) := fun _ _ _ _ h => h
theorem exp_pair {α β δ ε : Type} [GT α δ] [GT β ε] {a : α} {b : β} (hb : Exp b M M1) (ha : Exp a M1 M2) : Exp (a, b) M M2 := fun w0 S0 w F h => by
  have h1 := tree_pair h
  have h2 : Holds w0 S0 (treeH b :: (M ++ (treeH a :: F))) w := h1.perm ((List.Perm.swap _ _ _).trans (List.perm_middle.symm.cons _))
  have h3 := hb w0 S0 w _ h2
  exact ha w0 S0 w F (h3.perm List.perm_middle)
theorem ex {τ δ : Type} [GT τ δ] {t : τ} (o : Exp t M M' := by repeat (first | (with_reducible exact exp_int) | (with_reducible exact exp_bool) | (with_reducible exact exp_str) | (with_reducible apply exp_pair) | (with_reducible exact exp_leaf))) : Exp t M M' := o
theorem Exp.h {τ δ : Type} [GT τ δ] {t : τ} (o : Exp t M1 M') (p : Pick (treeH t) M M1) (h : Holds w0 S0 M w) : Holds w0 S0 M' w := by
  have := o w0 S0 w [] (by simpa using h.perm p.perm)
  simpa using this
variable {Γ : Cx} {l : Envl} {Q : Post} {K : Kont} {c : Code} {r : List Oper}
theorem jW {τ δ : Type} [GT τ δ] (t : τ) (k : W Γ c l (treeH t :: M') Q) (o : Own M t M' := by exact ow) : W Γ c l M Q := W_conv (fun _ h => o.h h) k
theorem xL {τ δ : Type} [GT τ δ] (t : τ) (k : L Γ r l M' K) (p : Pick (treeH t) M M1 := by exact pk) (o : Exp t M1 M' := by exact ex) : L Γ r l M K := L_conv (fun _ h => o.h p h) k
end
theorem dd {a b : Prop} (h : a) (e : a → b := by (intro h; (try dsimp only [dat_pair, dat_int, dat_bool, dat_str, dat_ar] at h); exact h)) : b := e h
theorem sc {p q : Prop} (k : q) (e : q → p := by (intro k; (simp only [cells_pair, cells_int, cells_bool, cells_str, cells_TL, List.cons_append, List.nil_append]); exact k)) : p := e k
section
variable {ops : Array Oper} {E : Fl}
theorem gc {o : Oper} {c : Prop} (h : GC ops E o c := by first | exact GC.none | exact GC.some rfl rfl) : GC ops E o c := h
theorem ov {x : Operand} {c : Prop} {v : Value} (h : OpV E x c v := by first | exact OpV.c | exact OpV.t rfl | exact OpV.s rfl) : OpV E x c v := h
end
theorem L_extractL {Γ : Cx} {l : Envl} {M : List HP} {K : Kont} {rest : List Oper} {d : Nat} {ty : TypeId} {pos : String} {af : Array Edge} {x : Operand} {i : Nat} {vs : List Value} {v : Value} (hn : Nat.blt d Γ.n = true) (hx : ev l x = some (.tuple vs.toArray)) (hv : vs[i]? = some v) (hk : L Γ rest ((d, v) :: l) M K) :
    L Γ ({ dst := some d, op := .extract x i, type := ty, pos, after := af, guard := none } :: rest) l M K := L_extract hn hx (by simpa using hv) hk
theorem isLen {Γ : Cx} {l : Envl} {M : List HP} {K : Kont} {rest : List Oper} {d : Option Nat} {ty : TypeId} {pos : String} {af : Array Edge} {g : Option (Nat × Bool)} {x : Array Operand} {T : Array TypeId} (h : L Γ ({ dst := d, op := .call { callee := .builtin .len, args := x, argTypes := T }, type := ty, pos := pos, after := af, guard := g } :: rest) l M K) :
    L Γ ({ dst := d, op := .call { callee := .builtin .len, args := x, argTypes := T }, type := ty, pos := pos, after := af, guard := g } :: rest) l M K := h
section
variable {Γ : Cx} {l : Envl} {M : List HP} {K : Kont} {Q : Post} {c : Code} {r : List Oper} {ops : Array Oper} {Msh pool : List HP} {E : Fl} {rs : List (Option Nat × Rel)} {cs0 : List Nat} {KD : RKont}
theorem isL (h : L Γ r l M K) : L Γ r l M K := h
theorem isW (h : W Γ c l M Q) : W Γ c l M Q := h
theorem isD (h : DV Γ ops Msh pool E rs cs0 r KD) : DV Γ ops Msh pool E rs cs0 r KD := h
end
/-- One step that needs no word. -/
theorem s1 {p q : Prop} (k : q) (h : q → p := by
  intro k
  (first
    | (with_reducible refine isL ?_); (first
      | (with_reducible apply L_move); (· exact rfl); (· exact rfl)
      | (with_reducible apply L_assign); (· exact rfl); (· exact rfl)
      | (with_reducible refine L_nil ?_)
      | (with_reducible apply L_binV); (· exact rfl); (· exact rfl); (· exact rfl); (· exact bv)
      | (with_reducible apply L_fieldAddr); (· exact rfl); (· exact rfl); (· exact FldF.h)
      | (with_reducible apply L_load); (· exact rfl); (· exact rfl); (· exact RdC.blk mm); (· exact OneF.h); (· exact rfl)
      | (with_reducible apply L_loadW); (· exact rfl); (· exact rfl); (· exact RdC.blk mm); (· exact AggF.h)
      | (with_reducible apply L_extractL); (· exact rfl); (· exact rfl); (· exact rfl)
      | (with_reducible apply L_store); (· exact rfl); (· exact rfl); (· exact pk); (· exact OneF.h); (· exact rfl); (· exact rfl)
      | (with_reducible apply L_storeW); (· exact rfl); (· exact rfl); (· exact pk); (· exact AggF.h); (· exact rfl); (· exact ocs)
      | (with_reducible refine isLen ?_); (first | refine L_lenT rfl rfl StrF.h ?_ | refine L_lenP rfl rfl ElF.h ?_)
      | (with_reducible apply L_not); (· exact rfl); (· exact rfl)
      | (with_reducible apply L_nilCheck); (· exact rfl); (· exact rfl))
    | (with_reducible refine isW ?_); (first
      | (with_reducible refine W_seq ?_)
      | (with_reducible refine W_region ?_)
      | (with_reducible refine W_skip ?_)
      | (with_reducible refine W_block ?_)
      | (with_reducible refine W_ret ?_))
    | (with_reducible refine isD ?_); (first
      | (with_reducible apply D_move); (· exact gc); (· exact ov)
      | (with_reducible apply D_fieldAddr); (· exact gc); (· exact ov); (· exact FldF.h)
      | (with_reducible apply D_load); (· exact gc); (· exact ov); (· exact fun _ => RdC.blk mm); (· exact OneF.h); (· exact rfl)
      | (with_reducible apply D_bin); (· exact gc); (· exact ov); (· exact ov); (· exact fun _ => bv)
      | (with_reducible apply D_and); (· exact gc); (· exact ov); (· exact ov); (· exact fun h hb => ⟨h, hb⟩)
      | (with_reducible apply D_or); (· exact gc); (· exact ov); (· exact ov); (· exact fun h hb => ⟨h, hb⟩)
      | (with_reducible apply D_loadW); (· exact gc); (· exact ov); (· exact fun _ => RdC.blk mm); (· exact AggF.h)
      | (with_reducible apply D_assign); (· exact gc); (· exact ov)
      | (with_reducible apply D_not); (· exact gc); (· exact ov)
      | (with_reducible apply D_nilCheck); (· exact gc); (· exact ov)
      | (with_reducible refine DV_nil ?_))
    | (with_reducible refine Give_nil ?_)
    | (with_reducible apply Give_drop); (· exact rfl)
    | (with_reducible apply Give_is); (· exact rfl); (· exact rfl)
    | (with_reducible apply Give_cons); (· exact rfl)
    | (with_reducible apply Give_drop')
    | (with_reducible apply Give_st))
  exact k) : p := h k
theorem s2 {p q : Prop} (k : q) (h : q → p := by (intro k; (iterate 2 (refine s1 ?_)); exact k)) : p := h k
theorem s3 {p q : Prop} (k : q) (h : q → p := by (intro k; (iterate 3 (refine s1 ?_)); exact k)) : p := h k
theorem s4 {p q : Prop} (k : q) (h : q → p := by (intro k; (iterate 4 (refine s1 ?_)); exact k)) : p := h k
theorem s5 {p q : Prop} (k : q) (h : q → p := by (intro k; (iterate 5 (refine s1 ?_)); exact k)) : p := h k
theorem s6 {p q : Prop} (k : q) (h : q → p := by (intro k; (iterate 6 (refine s1 ?_)); exact k)) : p := h k
theorem s7 {p q : Prop} (k : q) (h : q → p := by (intro k; (iterate 7 (refine s1 ?_)); exact k)) : p := h k
theorem s8 {p q : Prop} (k : q) (h : q → p := by (intro k; (iterate 8 (refine s1 ?_)); exact k)) : p := h k
theorem s9 {p q : Prop} (k : q) (h : q → p := by (intro k; (iterate 9 (refine s1 ?_)); exact k)) : p := h k
theorem s10 {p q : Prop} (k : q) (h : q → p := by (intro k; (iterate 10 (refine s1 ?_)); exact k)) : p := h k
theorem s11 {p q : Prop} (k : q) (h : q → p := by (intro k; (iterate 11 (refine s1 ?_)); exact k)) : p := h k
theorem s12 {p q : Prop} (k : q) (h : q → p := by (intro k; (iterate 12 (refine s1 ?_)); exact k)) : p := h k
theorem s13 {p q : Prop} (k : q) (h : q → p := by (intro k; (iterate 13 (refine s1 ?_)); exact k)) : p := h k
theorem s14 {p q : Prop} (k : q) (h : q → p := by (intro k; (iterate 14 (refine s1 ?_)); exact k)) : p := h k
theorem s15 {p q : Prop} (k : q) (h : q → p := by (intro k; (iterate 15 (refine s1 ?_)); exact k)) : p := h k
theorem s16 {p q : Prop} (k : q) (h : q → p := by (intro k; (iterate 16 (refine s1 ?_)); exact k)) : p := h k
theorem s18 {p q : Prop} (k : q) (h : q → p := by (intro k; (iterate 18 (refine s1 ?_)); exact k)) : p := h k
theorem s19 {p q : Prop} (k : q) (h : q → p := by (intro k; (iterate 19 (refine s1 ?_)); exact k)) : p := h k
theorem s20 {p q : Prop} (k : q) (h : q → p := by (intro k; (iterate 20 (refine s1 ?_)); exact k)) : p := h k
end Go.Proofs.SL
namespace Go.Proofs.SL
open Go
abbrev T_Id := Int × Int
abbrev T_Cmd := Int × Int × Int × ByteArray × ByteArray × ByteArray × Int × (TL ByteArray)
abbrev T_Inst := T_Id × Int × Int × Int × T_Cmd × Int × (TL T_Id) × Bool
abbrev T_Lead := T_Id × Int × Int × Int × (TL T_Id) × (TL Int) × Bool
abbrev T_ENode := Int × Int × (TL T_Inst) × (TL T_Lead)
abbrev T_EMsg := Int × Int × Int × T_Id × Int × T_Cmd × Int × (TL T_Id) × Int × Int × Bool
abbrev T_ENet := (TL T_ENode) × (TL T_EMsg)
end Go.Proofs.SL
namespace Go.Proofs.SL
open Go
set_option maxHeartbeats 2000000
theorem mix : Tryz.prog.follows .mixedOrders = true := by kernel_rfl
instance fn76 : FnF Tryz.prog 76 := ⟨⟨_, Tryz.func76, by kernel_rfl, rfl⟩⟩
noncomputable def s_l1In (a0 : Int) (a1 : Int) (a2 : Int) : Option Bool :=
  some ((decide (a1 ≤ a0)) && (decide (a0 ≤ a2)))
theorem s_l1In_walk (w : World) (a0 : Int) (a1 : Int) (a2 : Int)  (r : Bool) (hp : s_l1In a0 a1 a2 = some r) : Spec Tryz.prog 60 [.int .i64 a0, .int .i64 a1, .int .i64 a2].toArray w [] (IsV (.bool r)) := by
  refine Spec.intro Tryz.func60 rfl Tryz.ntmps60 rfl ?_
  unfold s_l1In at hp
  replace hp := dd hp
  refine s5 ?_
  refine W_D0 [6] mix (by kernel_rfl) rfl ?_
  refine s20 ?_
  obtain rfl := Option.some.inj hp
  refine s1 ?_
  refine res1 rfl (ResOK.tmp rfl) ⟨rfl, rfl⟩ ms
noncomputable def i_within (a0 : Int) (a1 : Int) (a2 : Int) : Option Bool :=
  some ((decide (a1 ≤ a0)) && (decide (a0 ≤ a2)))
theorem i_within_walk (w : World) (a0 : Int) (a1 : Int) (a2 : Int)  (r : Bool) (hp : i_within a0 a1 a2 = some r) : Spec Tryz.prog 76 [.int .i64 a0, .int .i64 a1, .int .i64 a2].toArray w [] (IsV (.bool r)) := by
  refine Spec.intro Tryz.func76 rfl Tryz.ntmps76 rfl ?_
  unfold i_within at hp
  replace hp := dd hp
  refine s5 ?_
  refine W_D0 [6] mix (by kernel_rfl) rfl ?_
  refine s20 ?_
  obtain rfl := Option.some.inj hp
  refine s1 ?_
  refine res1 rfl (ResOK.tmp rfl) ⟨rfl, rfl⟩ ms
noncomputable def s_l9Node (a0 : Int) : Option Bool :=
  some ((decide (0 ≤ a0)) && (decide (a0 < 3)))
theorem s_l9Node_walk (w : World) (a0 : Int)  (r : Bool) (hp : s_l9Node a0 = some r) : Spec Tryz.prog 59 [.int .i64 a0].toArray w [] (IsV (.bool r)) := by
  refine Spec.intro Tryz.func59 rfl Tryz.ntmps59 rfl ?_
  unfold s_l9Node at hp
  replace hp := dd hp
  refine s5 ?_
  refine W_D0 [2] mix (by kernel_rfl) rfl ?_
  refine s16 ?_
  obtain rfl := Option.some.inj hp
  refine s1 ?_
  refine res1 rfl (ResOK.tmp rfl) ⟨rfl, rfl⟩ ms
noncomputable def i_isRep (a0 : Int) : Option Bool :=
  Option.bind (i_within a0 0 2) (fun y1 => some y1)
theorem i_isRep_walk (w : World) (a0 : Int)  (r : Bool) (hp : i_isRep a0 = some r) : Spec Tryz.prog 75 [.int .i64 a0].toArray w [] (IsV (.bool r)) := by
  refine Spec.intro Tryz.func75 rfl Tryz.ntmps75 rfl ?_
  unfold i_isRep at hp
  replace hp := dd hp
  refine s7 ?_
  replace hp := ba hp; obtain ⟨y1, hy1, hp⟩ := hp
  refine L_callX rfl fn76.h rfl (by exact fun w hw => i_within_walk w a0 0 2  _ hy1) ?_
  refine s2 ?_
  obtain rfl := Option.some.inj hp
  refine s1 ?_
  refine res1 rfl (ResOK.tmp rfl) ⟨rfl, rfl⟩ ms
end Go.Proofs.SL
namespace Go.Proofs
open Go.Shelf
def Tryz.laysSF139_ren : Go.Shelf.Ren := ⟨fun | 6 => 139 | 15 => 150 | 14 => 149 | 28 => 159 | 29 => 160 | 20 => 151 | 21 => 152 | 22 => 153 | 23 => 154 | 24 => 155 | 25 => 156 | 26 => 157 | 27 => 158 | 46 => 161 | 47 => 162 | 48 => 163 | 49 => 164 | 50 => 165 | 57 => 166 | n => n, fun | 22 => 51 | 24 => 71 | 25 => 138 | 3 => 3 | 39 => 154 | 0 => 0 | 53 => 164 | 55 => 166 | 4 => 4 | 46 => 157 | 45 => 156 | 50 => 161 | 5 => 5 | 9 => 9 | 66 => 167 | 70 => 171 | 76 => 173 | 77 => 174 | n => n, fun | n => n⟩
theorem Tryz.laysSF139 : Go.Proofs.SlLaysF0.n6 Tryz.prog Tryz.laysSF139_ren := {
  mixed := by kernel_rfl
  f6 := ⟨Tryz.f139.name, by decide, Tryz.func139.trans (congrArg some (by kernel_rfl))⟩
  f14 := ⟨Tryz.f149.name, by decide, Tryz.func149.trans (congrArg some (by kernel_rfl))⟩
  f15 := Tryz.func150.trans (congrArg some (by kernel_rfl))
  f20 := ⟨Tryz.f151.name, by decide, Tryz.func151.trans (congrArg some (by kernel_rfl))⟩
  f21 := ⟨Tryz.f152.name, by decide, Tryz.func152.trans (congrArg some (by kernel_rfl))⟩
  f22 := ⟨Tryz.f153.name, by decide, Tryz.func153.trans (congrArg some (by kernel_rfl))⟩
  f23 := ⟨Tryz.f154.name, by decide, Tryz.func154.trans (congrArg some (by kernel_rfl))⟩
  f24 := ⟨Tryz.f155.name, by decide, Tryz.func155.trans (congrArg some (by kernel_rfl))⟩
  f25 := ⟨Tryz.f156.name, by decide, Tryz.func156.trans (congrArg some (by kernel_rfl))⟩
  f26 := ⟨Tryz.f157.name, by decide, Tryz.func157.trans (congrArg some (by kernel_rfl))⟩
  f27 := ⟨Tryz.f158.name, by decide, Tryz.func158.trans (congrArg some (by kernel_rfl))⟩
  f28 := Tryz.func159.trans (congrArg some (by kernel_rfl))
  f29 := Tryz.func160.trans (congrArg some (by kernel_rfl))
  f46 := ⟨Tryz.f161.name, by decide, Tryz.func161.trans (congrArg some (by kernel_rfl))⟩
  f47 := Tryz.func162.trans (congrArg some (by kernel_rfl))
  f48 := Tryz.func163.trans (congrArg some (by kernel_rfl))
  f49 := ⟨Tryz.f164.name, by decide, Tryz.func164.trans (congrArg some (by kernel_rfl))⟩
  f50 := ⟨Tryz.f165.name, by decide, Tryz.func165.trans (congrArg some (by kernel_rfl))⟩
  f57 := ⟨Tryz.f166.name, by decide, Tryz.func166.trans (congrArg some (by kernel_rfl))⟩
  t0 := Tryz.underlying0
  a0 := Tryz.isAgg0
  z0 := Tryz.sizeOf0
  v0 := Tryz.zeroValue0
  t3 := Tryz.underlying3
  a3 := Tryz.isAgg3
  z3 := Tryz.sizeOf3
  v3 := Tryz.zeroValue3
  t4 := Tryz.underlying4
  a4 := Tryz.isAgg4
  z4 := Tryz.sizeOf4
  v4 := Tryz.zeroValue4
  t5 := Tryz.underlying5
  a5 := Tryz.isAgg5
  z5 := Tryz.sizeOf5
  v5 := Tryz.zeroValue5
  t9 := Tryz.underlying9
  a9 := Tryz.isAgg9
  z9 := Tryz.sizeOf9
  v9 := Tryz.zeroValue9
  t22 := Tryz.underlying51
  a22 := Tryz.isAgg51
  z22 := Tryz.sizeOf51
  v22 := Tryz.zeroValue51
  t25 := Tryz.underlying138
  a25 := Tryz.isAgg138
  z25 := Tryz.sizeOf138
  v25 := Tryz.zeroValue138
  t39 := Tryz.underlying154
  a39 := Tryz.isAgg154
  z39 := Tryz.sizeOf154
  v39 := Tryz.zeroValue154
  t45 := Tryz.underlying156
  a45 := Tryz.isAgg156
  z45 := Tryz.sizeOf156
  v45 := Tryz.zeroValue156
  t46 := Tryz.underlying157
  a46 := Tryz.isAgg157
  z46 := Tryz.sizeOf157
  v46 := Tryz.zeroValue157
  t50 := Tryz.underlying161
  a50 := Tryz.isAgg161
  z50 := Tryz.sizeOf161
  v50 := Tryz.zeroValue161
  t53 := Tryz.underlying164
  a53 := Tryz.isAgg164
  z53 := Tryz.sizeOf164
  v53 := Tryz.zeroValue164
  t55 := Tryz.underlying166
  a55 := Tryz.isAgg166
  z55 := Tryz.sizeOf166
  v55 := Tryz.zeroValue166
  t66 := Tryz.underlying167
  a66 := Tryz.isAgg167
  z66 := Tryz.sizeOf167
  v66 := Tryz.zeroValue167
  t70 := Tryz.underlying171
  a70 := Tryz.isAgg171
  z70 := Tryz.sizeOf171
  v70 := Tryz.zeroValue171
  t76 := Tryz.underlying173
  a76 := Tryz.isAgg173
  z76 := Tryz.sizeOf173
  v76 := Tryz.zeroValue173
  t77 := Tryz.underlying174
  a77 := Tryz.isAgg174
  z77 := Tryz.sizeOf174
  v77 := Tryz.zeroValue174 }
end Go.Proofs
namespace Go.Proofs.SL
open Go
/-! Sorting on data -/
section
variable {δ : Type}
def insO (lt : δ → δ → Bool) (x : δ) : List δ → List δ
  | [] => [x]
  | y :: ys => if lt y x then y :: insO lt x ys else x :: y :: ys
def isort (lt : δ → δ → Bool) (l : List δ) : List δ := l.foldr (insO lt) []
theorem insO_perm (lt : δ → δ → Bool) (x : δ) : ∀ l : List δ, (insO lt x l).Perm (x :: l)
  | [] => List.Perm.refl _
  | y :: ys => by
    unfold insO
    split
    · exact ((insO_perm lt x ys).cons y).trans (List.Perm.swap x y ys)
    · exact List.Perm.refl _
theorem isort_perm (lt : δ → δ → Bool) : ∀ l : List δ, (isort lt l).Perm l
  | [] => List.Perm.refl _
  | x :: l => (insO_perm lt x _).trans ((isort_perm lt l).cons x)
structure SW0 (lt : δ → δ → Bool) : Prop where
  irrefl : ∀ x, lt x x = false
  trans : ∀ x y z, lt x y = true → lt y z = true → lt x z = true
  ntrans : ∀ x y z, lt x y = false → lt y z = false → lt x z = false
theorem insO_sorted {lt : δ → δ → Bool} (h : SW0 lt) {x : δ} : ∀ {l : List δ}, l.Pairwise (fun a b => lt b a = false) → (insO lt x l).Pairwise (fun a b => lt b a = false)
  | [], _ => by unfold insO; simp
  | y :: ys, hl => by
    obtain ⟨h1, h2⟩ := List.pairwise_cons.1 hl
    unfold insO
    split
    · rename_i hc
      refine List.pairwise_cons.2 ⟨fun z hz => ?_, insO_sorted h h2⟩
      rcases List.mem_cons.1 ((insO_perm lt x ys).mem_iff.1 hz) with rfl | hz
      · cases hh : lt z y with
        | false => rfl
        | true => have := h.trans _ _ _ hh hc; rw [h.irrefl] at this; cases this
      · exact h1 z hz
    · rename_i hc
      have hc : lt y x = false := by simpa using hc
      refine List.pairwise_cons.2 ⟨fun z hz => ?_, hl⟩
      rcases List.mem_cons.1 hz with rfl | hz
      · exact hc
      · exact h.ntrans _ _ _ (h1 z hz) hc
theorem isort_sorted {lt : δ → δ → Bool} (h : SW0 lt) : ∀ l : List δ, (isort lt l).Pairwise (fun a b => lt b a = false)
  | [] => List.Pairwise.nil
  | x :: l => insO_sorted h (isort_sorted h l)
theorem sorted_one {lt : δ → δ → Bool} : ∀ {l m : List δ}, l.Perm m → l.Pairwise (fun a b => lt b a = false) → m.Pairwise (fun a b => lt b a = false) → (∀ a b, a ∈ l → b ∈ l → lt a b = true ∨ lt b a = true ∨ a = b) → l = m
  | [], m, hp, _, _, _ => (List.nil_perm.1 hp).symm
  | a :: l, m, hp, hl, hm, ht => by
    match m, hp, hm with
    | [], hp, _ => exact absurd hp.length_eq (by simp)
    | b :: m, hp, hm =>
      obtain ⟨l1, l2⟩ := List.pairwise_cons.1 hl
      obtain ⟨m1, m2⟩ := List.pairwise_cons.1 hm
      have e : a = b := by
        rcases List.mem_cons.1 (hp.mem_iff.1 (List.mem_cons_self ..)) with e | ha
        · exact e
        · rcases List.mem_cons.1 (hp.mem_iff.2 (List.mem_cons_self ..)) with e | hb
          · exact e.symm
          · rcases ht a b (List.mem_cons_self ..) (List.mem_cons_of_mem _ hb) with h | h | h
            · rw [m1 a ha] at h; cases h
            · rw [l1 b hb] at h; cases h
            · exact h
      subst e
      rw [sorted_one ((List.perm_cons a).1 hp) l2 m2 fun x y hx hy => ht x y (List.mem_cons_of_mem _ hx) (List.mem_cons_of_mem _ hy)]
open Classical in
/-- The sort, where at most equal ones are level. -/
noncomputable def sortD (lt : δ → δ → Bool) (l : List δ) : Option (List δ) := if l.length ≤ 4294967296 ∧ ∀ a b, a ∈ l → b ∈ l → lt a b = true ∨ lt b a = true ∨ a = b then some (isort lt l) else none
theorem sortD_some {lt : δ → δ → Bool} {l r : List δ} (h : sortD lt l = some r) : l.length ≤ 4294967296 ∧ (∀ a b, a ∈ l → b ∈ l → lt a b = true ∨ lt b a = true ∨ a = b) ∧ r = isort lt l := by
  unfold sortD at h
  split at h
  · rename_i hc; cases h; exact ⟨hc.1, hc.2, rfl⟩
  · cases h
theorem sortD_eq {lt : δ → δ → Bool} {l : List δ} (h1 : l.length ≤ 4294967296) (h2 : ∀ a b, a ∈ l → b ∈ l → lt a b = true ∨ lt b a = true ∨ a = b) : sortD lt l = some (isort lt l) := by
  unfold sortD; rw [if_pos ⟨h1, h2⟩]
end
section
variable {τ δ : Type} [GT τ δ]
theorem fp_perm {els ys : List τ} (h : ys.Perm els) : (ys.flatMap GT.fp : List Nat).Perm (els.flatMap GT.fp) := h.flatMap_right _
theorem swO {lt : τ → τ → Bool} {ltD : δ → δ → Bool} (hlt : ∀ x y, lt x y = ltD (GT.dat x) (GT.dat y)) (hD : SW0 ltD) : Sort.SWO lt where
  irrefl x := by rw [hlt]; exact hD.irrefl _
  trans x y z h1 h2 := by rw [hlt] at *; exact hD.trans _ _ _ h1 h2
  ntrans x y z h1 h2 := by rw [hlt] at *; exact hD.ntrans _ _ _ h1 h2
end
theorem extract_all {α : Type} (X : Array α) (n : Nat) (h : X.size = n) : X.extract 0 n = X := by subst h; simp
section
variable {τ δ : Type} [Inhabited τ] [GT τ δ]
theorem rowCells_getO : ∀ (ys : List τ) (t : Nat), t < ys.length * GT.sz τ → (rowCells ys)[t]? = (GT.cells (ys.toArray[t / GT.sz τ]!))[t % GT.sz τ]?
  | [], t, h => by simp at h
  | y :: ys, t, h => by
    have hp : 0 < GT.sz τ := GT.pos
    have hl : (GT.cells y).length = GT.sz τ := GT.len y
    rw [rowCells_cons]
    rcases Nat.lt_or_ge t (GT.sz τ) with ht | ht
    · rw [List.getElem?_append_left (by omega), Nat.div_eq_of_lt ht, Nat.mod_eq_of_lt ht]; rfl
    · have h2 : t - GT.sz τ < ys.length * GT.sz τ := by rw [List.length_cons, Nat.add_mul] at h; omega
      rw [List.getElem?_append_right (by omega), hl, rowCells_getO ys _ h2, Nat.mod_eq_sub_mod ht, Nat.div_eq_sub_div hp ht]
      congr 2
      simp
theorem rowCells_flatO (ys : List τ) : Sort.flatK (fun x : τ => GT.cells x) (GT.sz τ) ys.toArray = (rowCells ys).toArray := by
  have hs : (Sort.flatK (fun x : τ => GT.cells x) (GT.sz τ) ys.toArray).size = (rowCells ys).toArray.size := by rw [Sort.size_flatK]; simp [length_rowCells]
  refine Sort.ext_get! hs fun t ht => ?_
  have ht' : t < ys.toArray.size * GT.sz τ := by simpa using ht
  have ht2 : t < ys.length * GT.sz τ := by simpa using ht'
  rw [Sort.get_flatK _ _ _ _ ht']
  have h1 := rowCells_getO ys t ht2
  simp only [Array.getElem!_eq_getD, Array.getD_eq_getD_getElem?, List.getElem?_toArray, List.getElem!_eq_getElem?_getD] at h1 ⊢
  rw [h1]
theorem sort_holdsO {w : World} {b : Nat} {e : TypeId} {els : List τ} {tail : List Value} (hb : w.heap[b]? = some (.cells (rowCells els ++ tail).toArray e (0, 0))) : Sort.HoldsK (fun x : τ => GT.cells x) (GT.sz τ) w b 0 els.toArray := by
  unfold Sort.HoldsK
  rw [rowCells_flatO]
  intro j hj
  have hj' : j < (rowCells els).length := by simpa using hj
  refine ⟨?_, by simp [World.frozen?, hb]⟩
  simp only [World.cell?, hb, Nat.zero_add]
  simp only [Option.isSome_none, Bool.false_eq_true, if_false]
  rw [List.getElem?_toArray, List.getElem?_append_left hj', List.getElem?_eq_getElem hj']
  rw [show (rowCells els).toArray[j]! = (rowCells els)[j] by simp [List.getElem?_eq_getElem hj']]; rfl
theorem put_holdsO {w w' : World} {b cap n : Nat} {e : TypeId} {els ys : List τ} {tail : List Value} {os : Array Obj}
    (hh : Holds w (fps [treeH (⟨some ⟨b, 0, none⟩, cap, e, els, tail⟩ : TL τ)]) [treeH (⟨some ⟨b, 0, none⟩, cap, e, els, tail⟩ : TL τ)] w) (hpm : ys.Perm els)
    (hw : w' = Go.Proofs.sortWorldK (fun x : τ => GT.cells x) (GT.sz τ) w b 0 n ys.toArray os) :
    Holds w (fps [treeH (⟨some ⟨b, 0, none⟩, cap, e, els, tail⟩ : TL τ)]) [treeH (⟨some ⟨b, 0, none⟩, cap, e, ys, tail⟩ : TL τ)] w' := by
  have hlen : ys.length = els.length := hpm.length_eq
  have ht : GT.ow w (⟨some ⟨b, 0, none⟩, cap, e, els, tail⟩ : TL τ) := hh.prs _ (List.mem_cons_self ..)
  obtain ⟨h1, h2, h3, h4, h5⟩ := ht
  dsimp only at h1 h2 h3 h4
  obtain ⟨_, _, hb, hl⟩ := h5 _ rfl
  dsimp only at hb hl
  unfold Go.Proofs.sortWorldK Sort.putRowK at hw
  rw [rowCells_flatO] at hw
  have hbl : b < w.heap.size := (Array.getElem?_eq_some_iff.1 hb).1
  have hw' : w'.heap[b]? = some (.cells (rowCells ys ++ tail).toArray e (0, 0)) := by
    subst hw
    rw [Sort.heap_grow_old _ _ (by simpa [Sort.putRow, Sort.mapBlock, Sort.ahead] using hbl)]
    have hp := put_cells id (rowCells ys) (rowCells els) tail (by rw [length_rowCells, length_rowCells, hlen])
    simp only [Sort.putRow, Sort.mapBlock, Sort.ahead, Array.getElem?_modify, hb, Sort.onCells, if_true, Option.map_some]
    rw [hp, List.map_id]
  have hoth : ∀ k, k < w.heap.size → b ≠ k → w'.heap[k]? = w.heap[k]? := fun k hk hkb => by
    subst hw
    rw [Sort.heap_grow_old _ _ (by simpa [Sort.putRow, Sort.mapBlock, Sort.ahead] using hk)]
    simp [Sort.putRow, Sort.mapBlock, Sort.ahead, Array.getElem?_modify, hkb]
  have hsz : w.heap.size ≤ w'.heap.size := by subst hw; simp [Sort.putRow, Sort.mapBlock, Sort.ahead]
  have e1 : fps [treeH (⟨some ⟨b, 0, none⟩, cap, e, els, tail⟩ : TL τ)] = b :: els.flatMap GT.fp := by simp only [fps_cons]; show ([b] ++ els.flatMap GT.fp) ++ fps [] = _; simp [fps]
  have e2 : fps [treeH (⟨some ⟨b, 0, none⟩, cap, e, ys, tail⟩ : TL τ)] = b :: ys.flatMap GT.fp := by simp only [fps_cons]; show ([b] ++ ys.flatMap GT.fp) ++ fps [] = _; simp [fps]
  have efp : (fps [treeH (⟨some ⟨b, 0, none⟩, cap, e, ys, tail⟩ : TL τ)]).Perm (fps [treeH (⟨some ⟨b, 0, none⟩, cap, e, els, tail⟩ : TL τ)]) := by rw [e1, e2]; exact (fp_perm hpm).cons b
  have hnd := hh.nodup
  rw [e1] at hnd
  refine ⟨by subst hw; rfl, ⟨by subst hw; rfl, by subst hw; exact Nat.le_add_right _ _⟩, by subst hw; rfl, hsz, fun k hk hn => hoth k hk fun e2 => ?_, fun x hx => ?_, efp.nodup_iff.2 hh.nodup, fun k hk => ?_⟩
  · subst e2; exact hn (by rw [e1]; exact List.mem_cons_self ..)
  · obtain rfl := List.mem_singleton.1 hx
    refine ⟨by dsimp only; omega, h2, fun x hx => ?_, fun h => (by cases h), fun a ha => by cases ha; exact ⟨rfl, rfl, hw', by dsimp only; rw [hlen]; exact hl⟩⟩
    have hxe : x ∈ els := hpm.mem_iff.1 hx
    refine GT.ow_st (fun k hk => ?_) (h3 x hxe)
    have hm : k ∈ els.flatMap GT.fp := List.mem_flatMap.2 ⟨x, hxe, hk⟩
    exact hoth k (hh.rng k (by rw [e1]; exact List.mem_cons_of_mem _ hm)).2 fun e2 => (List.nodup_cons.1 hnd).1 (by rw [e2]; exact hm)
  · have hk2 := efp.mem_iff.1 hk
    exact ⟨(hh.rng k hk2).1, Nat.lt_of_lt_of_le (hh.rng k hk2).2 hsz⟩
theorem Spec.sortO {P : Program} {f : FuncId} {fv : Value} (w : World) (a0 : TL τ) (lt : τ → τ → Bool) (ltD : δ → δ → Bool) (hlt : ∀ x y, lt x y = ltD (GT.dat x) (GT.dat y)) (hD : SW0 ltD) (r : List δ) (hp : sortD ltD (GT.dat a0) = some r)
    (h : ∀ (b off cap : Nat) (d : Array τ), Sort.HoldsK (fun x : τ => GT.cells x) (GT.sz τ) w b off d → b < w.heap.size → b ∈ GT.fp a0 → d.size < 4611686018427387904 → Calls P f #[.slice (some ⟨b, off, none⟩) d.size cap, fv] w fun e w' => e = .returned (.tuple #[]) ∧ ∃ n os, w' = Go.Proofs.sortWorldK (fun x : τ => GT.cells x) (GT.sz τ) w b off n (Sort.pdq lt d 0 d.size (Lib.bitLen d.size) true true) os)
    (h0 : ∀ (p : Option Addr) (cap : Nat), Calls P f #[.slice p 0 cap, fv] w fun e w' => e = .returned (.tuple #[]) ∧ w' = w) :
    Spec P f #[a0.hdr, fv] w [treeH a0] (fun v M => ∃ y0 : TL τ, v = .tuple #[] ∧ GT.dat y0 = r ∧ M = [treeH y0] ∧ y0.hdr = a0.hdr) := by
  intro hh
  obtain ⟨hsz, htot, rfl⟩ := sortD_some hp
  have hd : GT.dat a0 = a0.els.map GT.dat := rfl
  rw [hd, List.length_map] at hsz
  have hO := swO hlt hD
  have hps := Sort.pdq_sorts lt hO a0.els.toArray 0 a0.els.toArray.size (Lib.bitLen a0.els.length) true true (Nat.zero_le _) (Nat.le_refl _) (Or.inl rfl)
  have hperm : (Sort.pdq lt a0.els.toArray 0 a0.els.length (Lib.bitLen a0.els.length) true true).toList.Perm a0.els := by
    have h1 := hps.1.2.2
    have h2 := hps.1.1
    simp only [List.size_toArray] at h1 h2
    rw [extract_all _ _ h2, extract_all _ _ (by simp)] at h1
    simpa using h1
  have hsorted : ((Sort.pdq lt a0.els.toArray 0 a0.els.length (Lib.bitLen a0.els.length) true true).toList.map GT.dat).Pairwise (fun a b => ltD b a = false) := by
    rw [List.pairwise_map, List.pairwise_iff_getElem]
    intro i j hi hj hij
    have h2 := hps.2 i j (Nat.zero_le _) hij (by have := hperm.length_eq; rw [List.size_toArray]; omega)
    rw [List.size_toArray] at h2
    rw [hlt] at h2
    have hi' : i < (Sort.pdq lt a0.els.toArray 0 a0.els.length (Lib.bitLen a0.els.length) true true).size := by simpa using hi
    have hj' : j < (Sort.pdq lt a0.els.toArray 0 a0.els.length (Lib.bitLen a0.els.length) true true).size := by simpa using hj
    rw [getElem!_pos _ i hi', getElem!_pos _ j hj'] at h2
    simpa using h2
  have hres : (Sort.pdq lt a0.els.toArray 0 a0.els.length (Lib.bitLen a0.els.length) true true).toList.map GT.dat = isort ltD (GT.dat a0) :=
    sorted_one ((hperm.map GT.dat).trans (isort_perm ltD _).symm) hsorted (isort_sorted hD _) fun a b ha hb => htot a b ((hperm.map GT.dat).mem_iff.1 ha) ((hperm.map GT.dat).mem_iff.1 hb)
  rcases own_cases hh with ⟨e, tail, rfl⟩ | ⟨b, cap, e, els, tail, rfl, h1, hl, hb, hbl⟩
  · refine (h0 none 0).mono fun e' w' ⟨he, hw⟩ => ?_
    subst hw
    refine ⟨_, _, he, ⟨⟨none, 0, e, [], tail⟩, rfl, rfl, rfl, rfl⟩, hh⟩
  · dsimp only at hsz hperm hsorted hres
    have := h b 0 cap els.toArray (sort_holdsO hb) hbl (by show b ∈ [b] ++ _; simp) (by simp; omega)
    rw [List.size_toArray] at this
    generalize Sort.pdq lt els.toArray 0 els.length (Lib.bitLen els.length) true true = ys at this hperm hres
    refine this.mono fun e' w' ⟨he, n, os, hw⟩ => ⟨_, _, he, ⟨⟨some ⟨b, 0, none⟩, cap, e, ys.toList, tail⟩, rfl, hres, rfl, ?_⟩, put_holdsO (n := n) (os := os) hh hperm hw⟩
    show Value.slice _ ys.toList.length _ = Value.slice _ els.length _
    rw [hperm.length_eq]
end
end Go.Proofs.SL
namespace Go.Proofs.SL
open Go
/-- A world that only grew. -/
theorem grown_of {W w' : World} {M : List HP} (h : Holds W [] M w') : ∃ q os', w' = Sort.grow (W.drewN q) os' := by
  refine ⟨w'.drawn - W.drawn, w'.heap.extract W.heap.size w'.heap.size, ?_⟩
  have hh : w'.heap = W.heap ++ w'.heap.extract W.heap.size w'.heap.size := by
    apply Array.ext_getElem?
    intro i
    rcases Nat.lt_or_ge i W.heap.size with hi | hi
    · rw [Array.getElem?_append_left hi]; exact h.old i hi (by simp)
    · rw [Array.getElem?_append_right hi]
      rcases Nat.lt_or_ge i w'.heap.size with h2 | h2
      · rw [Array.getElem?_extract, if_pos (by rw [Nat.min_self]; omega), show W.heap.size + (i - W.heap.size) = i by omega]
      · rw [Array.getElem?_eq_none h2, Array.getElem?_eq_none (by simp; omega)]
  have hd := h.tape.2
  cases w' with
  | mk heap tape drawn os output =>
    have h1 := h.os
    have h2 := h.tape.1
    have h3 := h.output
    dsimp only at h1 h2 h3 hd hh ⊢
    unfold Sort.grow World.drewN
    dsimp only
    rw [← hh, h1, h2, h3, show W.drawn + (drawn - W.drawn) = drawn by omega]
section
variable {τ δ : Type} [Inhabited τ] [GT τ δ]
theorem Spec.sortC {P : Program} {f g : FuncId} (w : World) (a0 : TL τ) (cs : List Value) (cfD : δ → δ → Int) (hD : SW0 (fun x y => decide (cfD x y < 0))) (r : List δ) (hp : sortD (fun x y => decide (cfD x y < 0)) (GT.dat a0) = some r)
    (hk : ∀ (w' : World) (F : List HP) (x y : τ), Holds w (fps [treeH a0]) F w' → Spec P g ([Value.agg (GT.cells x).toArray, Value.agg (GT.cells y).toArray] ++ cs).toArray w' [] (IsV (.int .i64 (cfD (GT.dat x) (GT.dat y)))))
    (hs : ∀ (b off cap : Nat) (d : Array τ), Sort.SWO (Go.Proofs.ltOf fun x y : τ => cfD (GT.dat x) (GT.dat y)) → Go.Proofs.CmpLays P g cs.toArray (fun x : τ => GT.cells x) (GT.sz τ) (fun x y => cfD (GT.dat x) (GT.dat y)) b off d.size w → Sort.HoldsK (fun x : τ => GT.cells x) (GT.sz τ) w b off d → b < w.heap.size → d.size < 4611686018427387904 →
      Calls P f #[.slice (some ⟨b, off, none⟩) d.size cap, .func (.func g) #[] cs.toArray] w fun e w' => e = .returned (.tuple #[]) ∧ ∃ n os, w' = Go.Proofs.sortWorldK (fun x : τ => GT.cells x) (GT.sz τ) w b off n (Sort.pdq (Go.Proofs.ltOf fun x y : τ => cfD (GT.dat x) (GT.dat y)) d 0 d.size (Lib.bitLen d.size) true true) os)
    (h0 : ∀ (p : Option Addr) (cap : Nat), Calls P f #[.slice p 0 cap, .func (.func g) #[] cs.toArray] w fun e w' => e = .returned (.tuple #[]) ∧ w' = w) :
    Spec P f #[a0.hdr, .func (.func g) #[] cs.toArray] w [treeH a0] (fun v M => ∃ y0 : TL τ, v = .tuple #[] ∧ GT.dat y0 = r ∧ M = [treeH y0] ∧ y0.hdr = a0.hdr) := by
  intro hh
  refine Spec.sortO w a0 (Go.Proofs.ltOf fun x y : τ => cfD (GT.dat x) (GT.dat y)) (fun x y => decide (cfD x y < 0)) (fun x y => rfl) hD r hp (fun b off cap d hH hb hba hsz => ?_) h0 hh
  have hO : Sort.SWO (Go.Proofs.ltOf fun x y : τ => cfD (GT.dat x) (GT.dat y)) := swO (fun x y => rfl) hD
  refine hs b off cap d hO (fun m os dk hdk x y => ?_) hH hb hsz
  obtain ⟨bh, hbh⟩ : ∃ o, w.heap[b]? = some o := ⟨_, Array.getElem?_eq_getElem hb⟩
  have hW : Holds w (fps [treeH a0]) [] (Go.Proofs.sortWorldK (fun x : τ => GT.cells x) (GT.sz τ) w b off m dk os) := by
    rcases own_cases hh with ⟨e, tail, rfl⟩ | ⟨b', cap', e, els, tail, rfl, _, _, hb', _⟩
    · exact absurd hba (by show ¬ b ∈ ([] ++ []); simp)
    · unfold Go.Proofs.sortWorldK Sort.putRowK
      refine ⟨rfl, ⟨rfl, Nat.le_add_right _ _⟩, rfl, by simp [Sort.putRow, Sort.mapBlock, Sort.ahead], fun k hk' hn => ?_, fun x hx => (by cases hx), by simp [fps], fun k hk' => by simp [fps] at hk'⟩
      have hkb : b ≠ k := fun e2 => hn (by rw [← e2]; simp only [fps_cons]; exact List.mem_append_left _ hba)
      rw [Sort.heap_grow_old _ _ (by simpa [Sort.putRow, Sort.mapBlock, Sort.ahead] using hk')]
      simp [Sort.putRow, Sort.mapBlock, Sort.ahead, Array.getElem?_modify, hkb]
  have hc := hk _ [] x y hW
  have h0' : Holds (Go.Proofs.sortWorldK (fun x : τ => GT.cells x) (GT.sz τ) w b off m dk os) (fps []) [] (Go.Proofs.sortWorldK (fun x : τ => GT.cells x) (GT.sz τ) w b off m dk os) := ⟨rfl, ⟨rfl, Nat.le_refl _⟩, rfl, Nat.le_refl _, fun _ _ _ => rfl, fun x hx => (by cases hx), by simp [fps], fun k hk => by simp [fps] at hk⟩
  have hargs : (([Value.agg (GT.cells x).toArray, Value.agg (GT.cells y).toArray] ++ cs : List Value)).toArray = #[Value.agg (GT.cells x).toArray, Value.agg (GT.cells y).toArray] ++ cs.toArray := by simp
  rw [← hargs]
  refine (hc h0').mono fun e w' ⟨v, M', h1, h2, h3⟩ => ?_
  obtain ⟨h4, _⟩ := h2
  subst h4
  exact ⟨h1, grown_of h3⟩
open Classical in
/-- The sort by a function on data, where it answers always and is an order. -/
noncomputable def sortFn {δ : Type} (l : List δ) (f : δ → δ → Option Int) : Option (List δ) := if (∀ x y, ∃ v, f x y = some v) ∧ SW0 (fun x y => decide ((f x y).getD 0 < 0)) then sortD (fun x y => decide ((f x y).getD 0 < 0)) l else none
theorem Spec.sortN {P : Program} {f g : FuncId} (w : World) (a0 : TL τ) (cs : List Value) (a1 : δ → δ → Option Int) (r : List δ) (hp : sortFn (GT.dat a0) a1 = some r)
    (hk : ∀ (w' : World) (F : List HP) (x y : τ) (v : Int), Holds w (fps [treeH a0]) F w' → a1 (GT.dat x) (GT.dat y) = some v → Spec P g ([Value.agg (GT.cells x).toArray, Value.agg (GT.cells y).toArray] ++ cs).toArray w' [] (IsV (.int .i64 v)))
    (hs : ∀ (b off cap : Nat) (d : Array τ), Sort.SWO (Go.Proofs.ltOf fun x y : τ => (a1 (GT.dat x) (GT.dat y)).getD 0) → Go.Proofs.CmpLays P g cs.toArray (fun x : τ => GT.cells x) (GT.sz τ) (fun x y => (a1 (GT.dat x) (GT.dat y)).getD 0) b off d.size w → Sort.HoldsK (fun x : τ => GT.cells x) (GT.sz τ) w b off d → b < w.heap.size → d.size < 4611686018427387904 →
      Calls P f #[.slice (some ⟨b, off, none⟩) d.size cap, .func (.func g) #[] cs.toArray] w fun e w' => e = .returned (.tuple #[]) ∧ ∃ n os, w' = Go.Proofs.sortWorldK (fun x : τ => GT.cells x) (GT.sz τ) w b off n (Sort.pdq (Go.Proofs.ltOf fun x y : τ => (a1 (GT.dat x) (GT.dat y)).getD 0) d 0 d.size (Lib.bitLen d.size) true true) os)
    (h0 : ∀ (p : Option Addr) (cap : Nat), Calls P f #[.slice p 0 cap, .func (.func g) #[] cs.toArray] w fun e w' => e = .returned (.tuple #[]) ∧ w' = w) :
    Spec P f #[a0.hdr, .func (.func g) #[] cs.toArray] w [treeH a0] (fun v M => ∃ y0 : TL τ, v = .tuple #[] ∧ GT.dat y0 = r ∧ M = [treeH y0] ∧ y0.hdr = a0.hdr) := by
  unfold sortFn at hp
  split at hp
  · rename_i hc
    refine Spec.sortC w a0 cs (fun x y => (a1 x y).getD 0) hc.2 r hp (fun w' F x y hF => ?_) hs h0
    obtain ⟨v, hv⟩ := hc.1 (GT.dat x) (GT.dat y)
    rw [hv]
    exact hk w' F x y v hF hv
  · cases hp
end
end Go.Proofs.SL
namespace Go.Proofs.SL
open Go
variable {Γ : Cx} {l : Envl} {M M' M1 M2 F : List HP} {Q : Post} {K : Kont} {w0 w : World} {S0 : List Nat} {P : Program}
variable {rest : List Oper} {d : Nat} {ty : TypeId} {pos : String} {af : Array Edge}
theorem Spec.pre {f : FuncId} {args : Array Value} {R : Value → List HP → Prop} (hc : ∀ w1 S, Holds w1 S M w → Holds w1 S M' w) (h : Spec P f args w M' R) : Spec P f args w M R := fun hw => by
  have h2 : Holds w (fps M) (M' ++ []) w := by simpa using hc _ _ hw
  exact (h (Holds.split h2)).mono fun e w'' ⟨v, M'', h3, h4, h5⟩ => ⟨v, M'', h3, h4, by simpa using Holds.frame h2 h5⟩
section
variable {ops : Array Oper} {Msh pool pool' : List HP} {E : Fl} {rs : List (Option Nat × Rel)} {cs0 : List Nat} {KD : RKont}
end
end Go.Proofs.SL
namespace Go.Proofs.SL
open Go
variable {Γ : Cx} {l l' : Envl} {M M' M1 M2 F A : List HP} {Qp : Post} {K : Kont} {w0 w : World} {S0 : List Nat}
variable {ops : Array Oper} {fuel : Nat} {listed : Array Bool} {i d : Nat} {o : Oper}
theorem wp_put {P : Program} {a : Act} {next : Act → World → Prop} {Q1 Q2 : Exit → Act → World → Prop} (h1 : ∀ e a w, e ≠ .normal → ¬ Q1 e a w) (hd : ∀ a w, next a w → a.defers = [])
    (h : o.wp P a w next Q1) : o.wp P a w (fun a' w' => (∃ u, a' = a.put o.dst u) ∧ next a' w') Q2 := by
  unfold Oper.wp at h ⊢
  generalize (execOp a.eval o).run P w = r at h ⊢
  cases r with
  | ok n w' =>
    cases n <;> simp only [Oper.upon] at h ⊢
    case value u => exact ⟨⟨u, rfl⟩, h⟩
    case skip => exact ⟨⟨_, rfl⟩, h⟩
    case defer df =>
      have := hd _ _ h
      cases hh : o.dst <;> simp [Act.put, hh] at this
    case enter f args =>
      refine Calls.mono h fun e w'' he => ?_
      cases e with
      | returned u => exact ⟨⟨u, rfl⟩, he⟩
      | panicked c => exact (h1 _ _ _ (by simp) he).elim
      | outgrown =>
        obtain ⟨a, w, hq⟩ := he
        exact (h1 _ _ _ (by simp) hq).elim
    case row row args => exact Rows.mono h fun u w'' he => ⟨⟨u, rfl⟩, he⟩
  | halt x w' =>
    cases x <;> simp only [Oper.upon] at h ⊢
    case panic v => exact (h1 _ _ _ (by simp) h).elim
theorem L_one (h : L Γ [o] l M K) (hg : o.guard = none) {a : Act} (ha : Env a Γ.n l) (hw : Holds Γ.w0 Γ.S0 M w) {Q2 : Exit → Act → World → Prop} :
    o.wp Γ.P a w (fun a' w' => (∃ u, a' = a.put o.dst u) ∧ ∃ l' M', Env a' Γ.n l' ∧ Holds Γ.w0 Γ.S0 M' w' ∧ K l' M') Q2 := by
  have h1 := h #[] a w (fun e a' w' => e = .normal ∧ ∃ l' M', Env a' Γ.n l' ∧ Holds Γ.w0 Γ.S0 M' w' ∧ K l' M') ha hw (fun a' w' l' M' q1 q2 q3 => ⟨rfl, l', M', q1, q2, q3⟩)
  unfold wpList at h1
  simp only [Region.wanted, hg, if_true] at h1
  rcases h1 with h1 | ⟨_, a, w, h1⟩
  · refine Oper.wp_mono (fun a' w' h2 => ⟨h2.1, h2.2.2⟩) (wp_put (fun e a w he hq => he hq.1) (fun a w hq => ?_) h1)
    obtain ⟨_, l', M', h3, _⟩ := hq
    exact h3.defers
  · cases h1.1
def AllIn : List HP → List HP → Prop
  | [], _ => True
  | h :: hs, M => h ∈ M ∧ AllIn hs M
theorem AllIn.mem : ∀ {A M : List HP}, AllIn A M → ∀ x, x ∈ A → x ∈ M
  | _ :: _, _, h, x, hx => by
    rcases List.mem_cons.1 hx with rfl | hx
    · exact h.1
    · exact AllIn.mem h.2 x hx
/-- An operation that yields a value, in whatever world bears the parts A, and does nothing else. -/
structure Pu (Γ : Cx) (A : List HP) (l : Envl) (o : Oper) (d : Nat) (v : Value) : Prop where
  dst : o.dst = some d
  lt : d < Γ.n
  gd : o.guard = none
  pu : ∀ a w, Env a Γ.n l → Sees Γ.w0 Γ.S0 A w → (execOp a.eval o).run Γ.P w = .ok (.value v) w
def AH (Γ : Cx) (ops : Array Oper) (A : List HP) (Qp : Post) (fuel : Nat) (listed : Array Bool) (l : Envl) (M : List HP) : Prop :=
  ∀ a w, Env a Γ.n l → Holds Γ.w0 Γ.S0 M w → wpAnyH Γ.P .any ops (liftQ Γ Qp) (Sees Γ.w0 Γ.S0 A) fuel listed a w
theorem W_AH (A : List HP) {id : Nat} (hm : Γ.P.follows .mixedOrders = true) (h : AH Γ ops A Qp ops.size (Array.replicate ops.size false) l M) : W Γ (.region id ops true) l M Qp := fun a w ha hw =>
  wp_region_held hm (h a w.drew ha hw.drew)
theorem AH_done (hr : Region.ready .any ops listed = []) (h : Qp .normal l M) : AH Γ ops A Qp fuel listed l M := fun _ _ ha hw => wpAnyH_done hr ⟨l, M, ha, hw, h⟩ fuel
theorem AH_take {v : Value} (i : Nat) (hi : ops[i]? = some o) (hp : Pu Γ A l o d v) (hs : Region.noSelect ops = true) (hf : Region.free .any ops listed i = true) (hr : (Region.ready .any ops listed).contains i = true)
    (hA : AllIn A M) (hk : AH Γ ops A Qp fuel (listed.setIfInBounds i true) ((d, v) :: l) M) : AH Γ ops A Qp (fuel + 1) listed l M := fun a w ha hw =>
  wpAnyH_take hi hs hf hr (fun _ _ _ h => h) (.inl ⟨by simp [Region.wanted, hp.gd], fun w hw => hp.pu a w ha hw⟩) (hw.seesSub hA.mem) (hk _ w (by rw [hp.dst]; exact ha.put hp.lt) hw)
theorem drop_get {α : Type} {xs : Array α} {i : Nat} {o : α} {rest : List α} (h : xs.toList.drop i = o :: rest) : xs[i]? = some o := by
  rw [← Array.getElem?_toList]
  have := congrArg (fun l => l[0]?) h
  simpa [List.getElem?_drop] using this
theorem AH_one (i : Nat) {rest' : List Oper} (hi : ops.toList.drop i = o :: rest') (hg : o.guard = none) (hr : Region.ready .any ops listed = [i])
    (h : L Γ [o] l M (fun l' M' => AllIn A M' ∧ AH Γ ops A Qp fuel (listed.setIfInBounds i true) l' M')) : AH Γ ops A Qp (fuel + 1) listed l M := fun a w ha hw =>
  wpAnyH_all hr (by simp) fun j hj => by
    rw [List.mem_singleton.1 hj]
    unfold wpOp
    rw [drop_get hi]
    simp only [Region.wanted, hg, if_true]
    refine .inl (Oper.wp_mono (fun a' w' h1 => ?_) (L_one h hg ha hw))
    obtain ⟨_, l', M', h1, h2, h3, h4⟩ := h1
    exact ⟨h2.seesSub h3.mem, h4 a' w' h1 h2⟩
variable {al da : Nat} {z : List Value} {T : TypeId}
/-! Small steps that may be taken first -/
section
variable {ty : TypeId} {pos : String} {af : Array Edge} {P : Program}
theorem PU_pure {op : Op} {v : Value} (hn : Nat.blt d Γ.n = true) (he : ∀ a w, Env a Γ.n l → Sees Γ.w0 Γ.S0 A w → (execOp a.eval { dst := some d, op, type := ty, pos, after := af, guard := none }).run Γ.P w = .ok (.value v) w) :
    Pu Γ A l { dst := some d, op, type := ty, pos, after := af, guard := none } d v := ⟨rfl, Nat.le_of_ble_eq_true hn, rfl, he⟩
theorem PU_move {x : Operand} {v : Value} (hn : Nat.blt d Γ.n = true) (hx : ev l x = some v) : Pu Γ A l { dst := some d, op := .move x, type := ty, pos, after := af, guard := none } d v :=
  PU_pure hn fun a w ha _ => by simp [execOp, ha.eval hx]
theorem PU_load0 {x : Operand} {T g off : Nat} {cs : List Value} {v : Value} (hn : Nat.blt d Γ.n = true) (hx : ev l x = some (.pointer (some ⟨g, off, none⟩))) (hc : RdC Γ A g off cs) (ht : oneOf Γ.P T = true)
    (hv : cs[0]? = some v) : Pu Γ A l { dst := some d, op := .load T x, type := ty, pos := pos, after := af, guard := none } d v :=
  PU_pure hn fun a' w ha hw => by
    have := hc w hw 0 v hv
    simp only [Nat.add_zero] at this
    simp [execOp, ha.eval hx, Instr.loadAt, Instr.sureAddr, loadVar, run_isAgg_one ht, this]
theorem PU_loadW {x : Operand} {T g off : Nat} {cs : List Value} (hn : Nat.blt d Γ.n = true) (hx : ev l x = some (.pointer (some ⟨g, off, none⟩))) (hc : RdC Γ A g off cs) (ht : aggOf Γ.P T = some cs.length) :
    Pu Γ A l { dst := some d, op := .load T x, type := ty, pos := pos, after := af, guard := none } d (.agg cs.toArray) :=
  PU_pure hn fun a' w ha hw => by
    have hl := run_loadCells_at (P := Γ.P) (hc w hw)
    simp [execOp, ha.eval hx, Instr.loadAt, Instr.sureAddr, loadVar, run_isAgg_agg ht, hl]
section
variable {τ δ : Type} [GT τ δ]
theorem slc_ex {X : TL τ} {a b : Int} {r : List δ} (hr : slcP (GT.dat X) a b = some r) : ∃ X' : TL τ, X' = slc X a.toNat b.toNat ∧ GT.dat X' = r := by
  obtain ⟨s0, s1, s2, s3⟩ := slcP_some hr
  exact ⟨_, rfl, by rw [s3, dat_els, dat_els]; simp [slc, List.map_take, List.map_drop]⟩
end
end
/-- From here on more is to be kept for the small steps. -/
theorem wpAnyH_S {P : Program} {Q : Exit → Act → World → Prop} {S S' : World → Prop} (hs : ∀ w, S' w → S w) : ∀ (fuel : Nat) (listed : Array Bool) (a : Act) (w : World), wpAnyH P .any ops Q S' fuel listed a w → wpAnyH P .any ops Q S fuel listed a w
  | 0, _, _, _, h => h
  | fuel + 1, _, _, _, h => ⟨h.1, fun i hi => wpOp_mono (fun a' w' h' => ⟨hs _ h'.1, wpAnyH_S hs fuel _ a' w' h'.2⟩) (h.2 i hi)⟩
theorem AH_A (A' : List HP) (hs : AllIn A A') (h : AH Γ ops A' Qp fuel listed l M) : AH Γ ops A Qp fuel listed l M := fun a w ha hw =>
  wpAnyH_S (fun w h => ⟨h.old, fun x hx => h.prs x (hs.mem x hx)⟩) _ _ _ _ (h a w ha hw)
end Go.Proofs.SL
namespace Go.Proofs.SL
open Go
variable {Γ : Cx} {l : Envl} {M M' M1 M2 F Mr : List HP} {Q : Post} {K : Kont} {w0 w : World} {S0 S : List Nat} {P : Program}
variable {rest : List Oper} {d : Nat} {ty : TypeId} {pos : String} {af : Array Edge}
/-- Elements that can be read, without their row. -/
structure EL (τ : Type) where
  els : List τ
instance {τ δ : Type} [GT τ δ] : GT (EL τ) Unit where
  sz := 1
  pos := by decide
  cells _ := [.bool false]
  len _ := rfl
  one _ v hv := by simp at hv; subst hv; rfl
  rd w S t := ∀ x, x ∈ t.els → GT.rd w S x
  fp _ := []
  ow _ _ := False
  dat _ := ()
  rd_mono h hm := fun x hx => GT.rd_mono (h x hx) hm
  ow_st _ h := h
  ow_rd h _ := h.elim
section
variable {τ δ : Type} [GT τ δ] {t : τ}
theorem no_fp (hw : Holds w0 S0 (M1 ++ M2) w) {h : HP} (hm : h ∈ M2) : ∀ k, k ∈ h.fp → k ∉ fps M1 := fun k hk hk1 => by
  have hnd := hw.nodup
  rw [fps_append] at hnd
  exact (List.nodup_append.1 hnd).2.2 k hk1 k (List.mem_flatMap.2 ⟨_, hm, hk⟩) rfl
theorem RdT.els {xs : List τ} (h : elsT xs ∈ M) : RdT Γ M (EL.mk xs) := fun w hw x hx => GT.ow_rd (hw.prs _ h x hx) fun _ _ h => by cases h
theorem RdT.elOf {X : TL τ} {j : Nat} {x : τ} (h : RdT Γ M (EL.mk X.els)) (hi : X.els[j]? = some x) : RdT Γ M x := fun w hw => h w hw x (List.mem_of_getElem? hi)
theorem RdX.els {xs : List τ} (h : elsT xs ∈ M2) : RdX Γ M1 M2 (EL.mk xs) := fun w hw x hx => GT.ow_rd (hw.prs _ (List.mem_append_right _ h) x hx) fun k hk => no_fp hw h k (List.mem_flatMap.2 ⟨x, hx, hk⟩)
theorem RdX.elOf {X : TL τ} {j : Nat} {x : τ} (h : RdX Γ M1 M2 (EL.mk X.els)) (hi : X.els[j]? = some x) : RdX Γ M1 M2 x := fun w hw => h w hw x (List.mem_of_getElem? hi)
end
/-! Evidence of one world, out of parts -/
structure PC (Mr : List HP) (w : World) (S : List Nat) : Prop where
  prs : ∀ h, h ∈ Mr → h.pr w
  ds : ∀ k, k ∈ fps Mr → k ∉ S
theorem PC.fp (h : PC Mr w S) {x : HP} (hm : x ∈ Mr) : ∀ k, k ∈ x.fp → k ∉ S := fun k hk => h.ds k (List.mem_flatMap.2 ⟨x, hm, hk⟩)
def RdP {τ δ : Type} [GT τ δ] (Mr : List HP) (w : World) (S : List Nat) (t : τ) : Prop := PC Mr w S → GT.rd w S t
section
variable {τ δ : Type} [GT τ δ] {t : τ}
theorem RdP.old (h : GT.rd w S t) : RdP Mr w S t := fun _ => h
theorem RdP.tree (h : treeH t ∈ Mr) : RdP Mr w S t := fun hp => GT.ow_rd (hp.prs _ h) (hp.fp h)
theorem RdP.fst {α β δ ε : Type} [GT α δ] [GT β ε] {t : α × β} (h : RdP Mr w S t) : RdP Mr w S t.1 := fun hp => (h hp).1
theorem RdP.snd {α β δ ε : Type} [GT α δ] [GT β ε] {t : α × β} (h : RdP Mr w S t) : RdP Mr w S t.2 := fun hp => (h hp).2
theorem RdP.of {X : TL τ} {j : Nat} {x : τ} (h : RdP Mr w S X) (hi : X.els[j]? = some x) : RdP Mr w S x := fun hp => (h hp).2.2.1 x (List.mem_of_getElem? hi)
theorem RdP.pair {α β δ ε : Type} [GT α δ] [GT β ε] {a : α} {b : β} (h1 : RdP Mr w S a) (h2 : RdP Mr w S b) : RdP Mr w S (a, b) := fun hp => ⟨h1 hp, h2 hp⟩
theorem RdP.int {n : Int} : RdP Mr w S n := fun _ => trivial
theorem RdP.bool {n : Bool} : RdP Mr w S n := fun _ => trivial
theorem RdP.str {n : ByteArray} : RdP Mr w S n := fun _ => trivial
theorem RdP.u8 {n : UInt8} : RdP Mr w S n := fun _ => trivial
theorem RdP.nil (e : TypeId) : RdP Mr w S (TL.nil τ e) := fun _ => nil_rd e
theorem RdP.map {α δ' : Type} [GT α δ'] {a : α} (f : ∀ w S, GT.rd w S a → GT.rd w S t) (h : RdP Mr w S a) : RdP Mr w S t := fun hp => f w _ (h hp)
theorem RdP.map2 {α β δ' ε : Type} [GT α δ'] [GT β ε] {a : α} {b : β} (f : ∀ w S, GT.rd w S a → GT.rd w S b → GT.rd w S t) (h : RdP Mr w S a) (h2 : RdP Mr w S b) : RdP Mr w S t := fun hp => f w _ (h hp) (h2 hp)
theorem RdP.els {xs : List τ} (h : elsT xs ∈ Mr) : RdP Mr w S (EL.mk xs) := fun hp x hx => GT.ow_rd (hp.prs _ h x hx) fun k hk => hp.fp h k (List.mem_flatMap.2 ⟨x, hx, hk⟩)
theorem RdP.elOf {X : TL τ} {j : Nat} {x : τ} (h : RdP Mr w S (EL.mk X.els)) (hi : X.els[j]? = some x) : RdP Mr w S x := fun hp => h hp x (List.mem_of_getElem? hi)
end
/-! A flat slice that is read alone, in a block of one's own -/
section
variable {τ δ : Type} [GT τ δ] [FlatT τ]
theorem flat_rd (x : τ) (w : World) (S : List Nat) : GT.rd w S x := GT.ow_rd ((FlatT.flat x).ow w) fun k hk => by rw [(FlatT.flat x).fp] at hk; cases hk
def slB (Y : TL τ) : List Nat := match Y.a with | none => [] | some a => [a.block]
theorem rd_block {Y : TL τ} {w w' : World} {S S' : List Nat} (h : GT.rd w S Y) (hb : ∀ k, k ∈ slB Y → w'.heap[k]? = w.heap[k]?) (hs : ∀ k, k ∈ slB Y → k ∉ S') : GT.rd w' S' Y :=
  ⟨h.1, h.2.1, fun x _ => flat_rd x _ _, h.2.2.2.1, fun a ha => ⟨(h.2.2.2.2 a ha).1, fun j v hv => by
    have h1 := (h.2.2.2.2 a ha).2 j v hv
    have h2 : a.block ∈ slB Y := by unfold slB; rw [ha]; simp
    exact ⟨by rw [World.cell?_of_block (w := w) (a := ⟨a.block, a.off + j, none⟩) (hb _ h2)]; exact h1.1, hs _ h2⟩⟩⟩
end
section
variable {τ δ : Type} [GT τ δ]
/-- The block of a slice of one's own holds all that its capacity says. -/
def vwP (w : World) (Y : TL τ) : Prop := (Y.a = none → Y.cap = 0) ∧ ∀ a, Y.a = some a → a.spot = none ∧ ∃ cur e2, w.heap[a.block]? = some (.cells cur e2 (0, 0)) ∧ a.off + Y.cap * GT.sz τ ≤ cur.size
theorem vw_st {Y : TL τ} {w w' : World} (hb : ∀ k, k ∈ slB Y → w'.heap[k]? = w.heap[k]?) (h : vwP w Y) : vwP w' Y :=
  ⟨h.1, fun a ha => by
    obtain ⟨h1, cur, e2, h2, h3⟩ := h.2 a ha
    exact ⟨h1, cur, e2, by rw [hb a.block (by unfold slB; rw [ha]; simp)]; exact h2, h3⟩⟩
theorem vw_tree {X : TL τ} {w : World} (h : GT.ow w X) : vwP w X :=
  ⟨fun ha => (h.2.2.2.1 ha).2, fun a ha => by
    obtain ⟨h1, h2, h3, h4⟩ := h.2.2.2.2 a ha
    exact ⟨h1, _, _, h3, by rw [h2]; simp [length_rowCells]; omega⟩⟩
end
section
variable {τ δ : Type} [GT τ δ] [FlatT τ]
def flH (Y : TL τ) : HP := ⟨slB Y, fun w => GT.rd w [] Y ∧ vwP w Y, fun _ _ hb h => ⟨rd_block h.1 hb fun _ _ h => (by cases h), vw_st hb h.2⟩⟩
theorem RdT.fl {Y : TL τ} (h : flH Y ∈ M) : RdT Γ M Y := fun _ hw => (hw.prs _ h).1
theorem RdX.fl {Y : TL τ} (h : flH Y ∈ M2) : RdX Γ M1 M2 Y := fun _ hw => rd_block (hw.prs (flH Y) (List.mem_append_right _ h)).1 (fun _ _ => rfl) (no_fp hw h)
theorem RdP.fl {Y : TL τ} (h : flH Y ∈ Mr) : RdP Mr w S Y := fun hp => rd_block (hp.prs (flH Y) h).1 (fun _ _ => rfl) (hp.fp h)
theorem fps_flat' (xs : List τ) : xs.flatMap GT.fp = [] := List.flatMap_eq_nil_iff.2 fun x _ => (FlatT.flat x).fp
end
section
variable {τ δ : Type} [GT τ δ]
theorem slB_slc (X : TL τ) (lo hi : Nat) : slB (slc X lo hi) = slB X := by
  unfold slB slc
  dsimp only
  cases ha : X.a with
  | none => simp
  | some a =>
    split
    · rename_i h; split at h <;> simp at h
    · rename_i b h
      split at h
      · cases h; rfl
      · simp only [Option.map_some, Option.some.injEq] at h
        subst h
        unfold Addr.add; split <;> rfl
end
section
variable {τ δ : Type} [GT τ δ]
theorem vw_slc {X Y : TL τ} {w : World} {a b : Int} {r : List δ} (he : Y = slc X a.toNat b.toNat) (hs : slcP (GT.dat X) a b = some r) (hr : GT.rd w [] X) (h : vwP w X) : vwP w Y := by
  obtain ⟨s0, s1, s2, -⟩ := slcP_some hs
  rw [dat_els, List.length_map] at s2
  have hc : a.toNat ≤ X.cap := by have := hr.1; omega
  subst he
  constructor
  · intro ha
    have ha' : (if X.cap = a.toNat then X.a else X.a.map (·.add (a.toNat * GT.sz τ))) = none := ha
    have : X.a = none := by split at ha' <;> simpa using ha'
    show X.cap - a.toNat = 0
    rw [h.1 this]; omega
  · intro ad ha
    have ha' : (if X.cap = a.toNat then X.a else X.a.map (·.add (a.toNat * GT.sz τ))) = some ad := ha
    show ad.spot = none ∧ ∃ cur e2, w.heap[ad.block]? = some (.cells cur e2 (0, 0)) ∧ ad.off + (X.cap - a.toNat) * GT.sz τ ≤ cur.size
    by_cases hcl : X.cap = a.toNat
    · rw [if_pos hcl] at ha'
      obtain ⟨h1, cur, e2, h2, h3⟩ := h.2 ad ha'
      exact ⟨h1, cur, e2, h2, by rw [hcl, Nat.sub_self, Nat.zero_mul]; omega⟩
    · rw [if_neg hcl] at ha'
      obtain ⟨x, hx, rfl⟩ := Option.map_eq_some_iff.1 ha'
      obtain ⟨h1, cur, e2, h2, h3⟩ := h.2 x hx
      obtain ⟨g, o, sp⟩ := x
      dsimp only at h1 h2 h3
      subst h1
      rw [addr_add]
      refine ⟨rfl, cur, e2, h2, ?_⟩
      dsimp only
      have : (X.cap - a.toNat) * GT.sz τ + a.toNat * GT.sz τ = X.cap * GT.sz τ := by rw [← Nat.add_mul]; congr 1; omega
      omega
end
section
variable {τ δ : Type} [GT τ δ] [FlatT τ]
theorem fl_of_tree {X : TL τ} (p : Pick (treeH X) M M1) (h : Holds w0 S0 M w) : Holds w0 S0 (flH X :: M1) w := by
  have h1 := h.perm p.perm
  refine h1.reFp (List.Perm.of_eq ?_) fun y hy => ?_
  · rw [fps_cons, fps_cons]
    show (slB X ++ X.els.flatMap GT.fp) ++ fps M1 = slB X ++ fps M1
    rw [fps_flat', List.append_nil]
  · rcases List.mem_cons.1 hy with rfl | hy
    · have ho : GT.ow w X := h1.prs (treeH X) (List.mem_cons_self ..)
      exact ⟨GT.ow_rd ho fun _ _ h => (by cases h), vw_tree ho⟩
    · exact h1.prs _ (List.mem_cons_of_mem _ hy)
theorem fl_slc {X Y : TL τ} {a b : Int} {r : List δ} (he : Y = slc X a.toNat b.toNat) (hs : slcP (GT.dat X) a b = some r) (p : Pick (flH X) M M1) (h : Holds w0 S0 M w) : Holds w0 S0 (flH Y :: M1) w := by
  have h1 := h.perm p.perm
  refine h1.reFp (List.Perm.of_eq ?_) fun y hy => ?_
  · rw [fps_cons, fps_cons]
    show slB X ++ fps M1 = slB Y ++ fps M1
    rw [he, slB_slc]
  · rcases List.mem_cons.1 hy with rfl | hy
    · have hf := h1.prs (flH X) (List.mem_cons_self ..)
      exact ⟨slcE_rd he hs _ _ hf.1, vw_slc he hs hf.1 hf.2⟩
    · exact h1.prs _ (List.mem_cons_of_mem _ hy)
end
section
variable {τ δ : Type} [GT τ δ]
end
end Go.Proofs.SL
namespace Go.Proofs.SL
open Go
variable {Γ : Cx} {l l' : Envl} {M M' M1 M2 F A : List HP} {Qp : Post} {K : Kont} {w0 w : World} {S0 : List Nat}
variable {ops : Array Oper} {fuel : Nat} {listed : Array Bool} {i d : Nat} {o : Oper}
/-- What has come up has had all that it waits for. -/
def Closed (ops : Array Oper) (listed : Array Bool) : Prop := ∀ k o, ops[k]? = some o → listed.getD k false = true → ∀ e, e ∈ o.after → Region.binds .any e = true → listed.getD e.on false = true
theorem Closed.set (hc : Closed ops listed) {j : Nat} (hj : j ∈ Region.ready .any ops listed) : Closed ops (listed.setIfInBounds j true) := fun k o hk hl e he hb => by
  by_cases h : j = k
  · subst h
    obtain ⟨_, o', ho', hall⟩ := mem_ready.1 hj
    rw [hk] at ho'; cases ho'
    exact getD_set_true (hall e he hb)
  · rw [getD_set_ne false h] at hl
    exact getD_set_true (hc k o hk hl e he hb)
variable {last : Nat}
section
variable {ty : TypeId} {pos : String} {af : Array Edge}
end
end Go.Proofs.SL
namespace Go.Proofs.SL
open Go
variable {Γ : Cx} {rest : List Oper} {d : Nat} {ty : TypeId} {pos : String} {af : Array Edge} {gd : Option (Nat × Bool)}
variable {ops : Array Oper} {Msh pool : List HP} {E : Fl} {rs : List (Option Nat × Rel)} {cs0 : List Nat} {KD : RKont}
end Go.Proofs.SL
namespace Go.Proofs.SL
open Go
variable {Γ : Cx} {l : Envl} {M A : List HP} {K : Kont} {rest : List Oper} {d : Nat} {ty : TypeId} {pos : String} {af : Array Edge}
def fld1 (P : Program) (T : TypeId) (f : Nat) : Option Nat := match P.underlying T with
  | some (.struct fs) => match fs[f]? with
    | some x => if oneOf P x.type then some x.offset else none
    | none => none
  | _ => none
theorem run_fieldV {P : Program} {T f fo : Nat} {cs : List Value} {v : Value} (ht : fld1 P T f = some fo) (hv : cs[fo]? = some v) (w : World) : (Instr.field T (.agg cs.toArray) f).run P w = .ok v w := by
  unfold fld1 at ht
  split at ht <;> (try cases ht)
  rename_i fs hfs
  split at ht <;> (try cases ht)
  rename_i x hx
  split at ht <;> cases ht
  rename_i h1
  simp [Instr.field, underlying, hfs, hx, asAgg, part, run_isAgg_one h1, hv]
theorem L_field {x : Operand} {T f fo : Nat} {cs : List Value} {v : Value} (hn : Nat.blt d Γ.n = true) (hx : ev l x = some (.agg cs.toArray)) (ht : fld1 Γ.P T f = some fo) (hv : cs[fo]? = some v) (hk : L Γ rest ((d, v) :: l) M K) :
    L Γ ({ dst := some d, op := .field T x f, type := ty, pos := pos, after := af, guard := none } :: rest) l M K :=
  L_pure hn (fun a w ha _ => by simp [execOp, ha.eval hx, run_fieldV ht hv w]) hk
theorem PU_field {x : Operand} {T f fo : Nat} {cs : List Value} {v : Value} (hn : Nat.blt d Γ.n = true) (hx : ev l x = some (.agg cs.toArray)) (ht : fld1 Γ.P T f = some fo) (hv : cs[fo]? = some v) :
    Pu Γ A l { dst := some d, op := .field T x f, type := ty, pos := pos, after := af, guard := none } d v :=
  PU_pure hn fun a w ha _ => by simp [execOp, ha.eval hx, run_fieldV ht hv w]
end Go.Proofs.SL
namespace Go.Proofs.SL
open Go
variable {Γ : Cx} {l : Envl} {M M' M1 M2 F : List HP} {Q : Post} {K : Kont} {w0 w : World} {S0 : List Nat}
variable {rest : List Oper} {d : Nat} {ty : TypeId} {pos : String} {af : Array Edge}
/-- A loop from its second round on. -/
def WL (Γ : Cx) (c : Code) (l : Envl) (M : List HP) (Q : Post) : Prop := ∀ a w, Env a Γ.n l → Holds Γ.w0 Γ.S0 M w → ∀ (b : Frame) (k : List Item) (cs : List Frame),
  ∃ e a' w', liftQ Γ Q e a' w' ∧ Arrives Γ.P (lone (b.at a (.code c :: .inLoop c :: k)) cs w) b k cs e a' w'
theorem W_peel {c : Code} (h : W Γ c l M (thenQ (fun l' M' => WL Γ c l' M' Q) Q)) : W Γ (.loop c) l M Q := by
  intro a w ha hw b k cs
  obtain ⟨e, a₁, w₁, hq, harr⟩ := h a w ha hw b (.inLoop c :: k) cs
  have key : ∃ e a' w', liftQ Γ Q e a' w' ∧ Arrives Γ.P (lone (b.at a (.code c :: .inLoop c :: k)) cs w) b k cs e a' w' := by
    cases e with
    | normal =>
      obtain ⟨l', M', h1, h2, h3⟩ := hq
      obtain ⟨e₂, a₂, w₂, hq₂, harr₂⟩ := h3 a₁ w₁ h1 h2 b k cs
      exact ⟨e₂, a₂, w₂, hq₂, .of_steps (Steps.trans harr (.one step_inLoop)) harr₂⟩
    | exit id => exact ⟨.exit id, a₁, w₁, hq, .pass (x := .inLoop c) rfl (fun _ _ => .inl (by simp)) harr⟩
    | goto l => exact ⟨.goto l, a₁, w₁, hq, .pass (x := .inLoop c) rfl (fun _ _ => .inl (by simp)) harr⟩
    | ret => exact ⟨.ret, a₁, w₁, hq, .pass (x := .inLoop c) rfl (fun _ _ => .inl (by simp)) harr⟩
    | panic ch => exact hq.elim
    | outgrown => exact hq.elim
  obtain ⟨e, a', w', hq, harr⟩ := key
  exact ⟨e, a', w', hq, .of_steps (.one step_loop) harr⟩
theorem WL_loop {σ : Type} {c : Code} (E : σ → Envl) (Mf : σ → List HP) (I : σ → Prop) (μ : σ → Nat) (s0 : σ) (h0 : I s0) (hl : Sub (E s0) l) (hm : MSub (Mf s0) M)
    (round : ∀ s, I s → W Γ c (E s) (Mf s) (thenQ (fun l' M' => ∃ s', Sub (E s') l' ∧ MSub (Mf s') M' ∧ I s' ∧ μ s' < μ s) Q)) : WL Γ c l M Q := by
  intro a0 w0 ha0 hw0 b k cs
  have key : ∀ n s a w, μ s = n → I s → Env a Γ.n (E s) → Holds Γ.w0 Γ.S0 (Mf s) w →
      ∃ e a' w', liftQ Γ Q e a' w' ∧ Arrives Γ.P (lone (b.at a (.code c :: .inLoop c :: k)) cs w) b k cs e a' w' := by
    intro n
    induction n using Nat.strongRecOn with
    | _ n ih =>
      intro s a w hn hI ha hw
      obtain ⟨e, a₁, w₁, hq, harr⟩ := round s hI a w ha hw b (.inLoop c :: k) cs
      cases e with
      | normal =>
        obtain ⟨l', M', h1, h2, s', h3, h4, h5, h6⟩ := hq
        obtain ⟨e₂, a₂, w₂, hq₂, harr₂⟩ := ih (μ s') (hn ▸ h6) s' a₁ w₁ rfl h5 (h1.sub h3) (h2.sub h4)
        exact ⟨e₂, a₂, w₂, hq₂, .of_steps (Steps.trans harr (.one step_inLoop)) harr₂⟩
      | exit id => exact ⟨.exit id, a₁, w₁, hq, .pass (x := .inLoop c) rfl (fun _ _ => .inl (by simp)) harr⟩
      | goto l => exact ⟨.goto l, a₁, w₁, hq, .pass (x := .inLoop c) rfl (fun _ _ => .inl (by simp)) harr⟩
      | ret => exact ⟨.ret, a₁, w₁, hq, .pass (x := .inLoop c) rfl (fun _ _ => .inl (by simp)) harr⟩
      | panic ch => exact hq.elim
      | outgrown => exact hq.elim
  exact key _ s0 a0 w0 rfl h0 (ha0.sub hl) (hw0.sub hm)
theorem WL_while {σ δ A : Type} {c : Code} {f : δ → Option (δ ⊕ A)} {r : A} (dat : σ → δ) (Ev : σ → Envl) (Mv : σ → List HP) (Ec : Envl) (Mc : List HP) (s0 : σ) (h0 : whileP f (dat s0) = some r)
    (hl : Sub (Ev s0 ++ Ec) l) (hm : MSub (Mv s0 ++ Mc) M)
    (round : ∀ s x, f (dat s) = some x → (∀ a, x = .inr a → a = r) → W Γ c (Ev s ++ Ec) (Mv s ++ Mc) (thenQ (fun l' M' => ∃ s', Sub (Ev s' ++ Ec) l' ∧ Arr Γ M' (Mv s' ++ Mc) ∧ x = .inl (dat s')) Q)) :
    WL Γ c l M Q := by
  obtain ⟨n, hn⟩ := whileP_iff.1 h0
  refine WL_loop (σ := σ × Nat) (fun s => Ev s.1 ++ Ec) (fun s => Mv s.1 ++ Mc) (fun s => iterW f s.2 (dat s.1) = some r) (fun s => s.2) (s0, n) hn hl hm ?_
  rintro ⟨s, n⟩ hI
  dsimp only at hI ⊢
  cases n with
  | zero => cases hI
  | succ n =>
    simp only [iterW] at hI
    split at hI
    · cases hI
    · rename_i s' hs
      refine W_post (round s _ hs (fun a ha => by cases ha)) fun e l' M' hq => ?_
      cases e <;> first
        | exact ⟨M', fun _ h => h, hq⟩
        | (obtain ⟨s2, h1, ⟨M2, h2, h2'⟩, h3⟩ := hq
           have e : s' = dat s2 := by simpa using h3
           subst e
           exact ⟨M2, h2, (s2, n), h1, h2', hI, Nat.lt_succ_self n⟩)
    · rename_i a ha
      cases hI
      refine W_mono (round s _ ha (fun a ha => by cases ha; rfl)) fun e l' M' hq => ?_
      cases e <;> first
        | exact hq
        | (obtain ⟨s2, h1, h2, h3⟩ := hq; cases h3)
section
variable {τ δ : Type} [GT τ δ]
/-- append of one that owns: it can be read in the new row. -/
theorem L_app1m {s x : Operand} {T e sz by_ c b : Nat} {z : List Value} {X : TL τ} {T' : TypeId} (y : τ) {r : List δ} (hn : Nat.blt d Γ.n = true)
    (hs : ev l s = some X.hdr) (hx : ev l x = some (.slice (some ⟨b, 0, none⟩) 1 c)) (ht : elOf Γ.P T = some (e, sz, by_, z)) (hsz : GT.sz τ = sz) (hz : z.length = sz)
    (hp : Pick (treeH X) M M1) (hsrc : blk b (GT.cells y) T' ∈ M) (hy : Pick (treeH y) M1 M2)
    (hr : appP (GT.dat X) [GT.dat y] = some r) (hb : by_ ≤ 32768)
    (hk : ∀ X' : TL τ, GT.dat X' = r → y ∈ X'.els → L Γ rest ((d, X'.hdr) :: l) (treeH X' :: M2) K) :
    L Γ ({ dst := some d, op := .call { callee := .builtin .append, args := #[s, x], argTypes := #[T, T] }, type := ty, pos, after := af, guard := none } :: rest) l M K := by
  obtain ⟨h1, rfl⟩ := appP_some hr
  refine L_appA (ys := [y]) hn hs hx ht hsz hz hp rfl (fun w hw j v hv => ?_) (fun w R h => elsT_one (h.perm (hy.perm.append_right R))) (by simpa [dat_els] using h1) hb
    (fun X' h => hk X' (by rw [dat_els, h, List.map_append, dat_els]; rfl) (by rw [h]; simp))
  rw [addr_add]
  exact RdC.blk (Γ := Γ) hsrc w hw j v (by simpa [rowCells] using hv)
theorem run_append_roomO {P : Program} (w : World) (t ty e e2 : TypeId) (i : TypeInfo) (ht : P.underlying t = some (.slice e)) (hi : P.info? e = some i)
    (g o sLen sCap : Nat) (cur : Array Value) (hg : w.heap[g]? = some (.cells cur e2 (0, 0)))
    (a : Addr) (m c : Nat) (news : List Value) (hl : news.length = m * i.size) (hnews : ∀ j u, news[j]? = some u → w.cell? (a.add j) = some u) (h1 : ∀ u ∈ news, u.oneCell' = true)
    (hroom : sLen + m ≤ sCap) (hfit : o + sLen * i.size + news.length ≤ cur.size) :
    (Builtin.append_ #[t, t] ty #[.slice (some ⟨g, o, none⟩) sLen sCap, .slice (some a) m c]).run P w =
      .ok (.slice (some ⟨g, o, none⟩) (sLen + m) sCap) (w.setRow g (cur.toList.take (o + sLen * i.size) ++ news ++ cur.toList.drop (o + sLen * i.size + news.length)).toArray) := by
  have hf := run_firstCells_some (P := P) w i.size m a m c news hl hnews
  have hst := run_storeCells_at P g (o + sLen * i.size) e2 news 0 cur w hg (by simpa using hfit) h1
  simp only [Nat.add_zero] at hst
  simp [Builtin.append_, run_underlying ht, sizeOf, typeInfo, hi, Builtin.lenOf, hroom, hf, Addr.add_lit, hst]
end
section
variable {τ δ : Type} [GT τ δ] [FlatT τ]
theorem append_fl {P : Program} {T e sz by_ : Nat} {z : List Value} {X : TL τ} {ys : List τ} (ht : elOf P T = some (e, sz, by_, z)) (hsz : GT.sz τ = sz) (hz : z.length = sz) (hw : Holds w0 S0 (flH X :: F) w)
    {a : Addr} {c : Nat} (hsrc : ∀ j v, (rowCells ys)[j]? = some v → w.cell? (a.add j) = some v) (hm : X.els.length + ys.length ≤ 4294967296) (hy0 : ys ≠ []) (hb : by_ ≤ 32768) (ty : TypeId) :
    ∃ (X' : TL τ) (w' : World), X'.els = X.els ++ ys ∧ (Builtin.append_ #[T, T] ty #[X.hdr, .slice (some a) ys.length c]).run P w = .ok X'.hdr w' ∧ Holds w0 S0 (flH X' :: F) w' := by
  unfold elOf at ht
  split at ht <;> (try cases ht)
  rename_i e' het
  split at ht <;> (try cases ht)
  rename_i i' hi'
  split at ht <;> cases ht
  rename_i z' hz'
  have hzs : z'.cells.size = i'.size := by rw [← Array.length_toList]; exact hz
  have hpos : 0 < i'.size := hsz ▸ GT.pos (τ := τ)
  obtain ⟨La, Lc, Le, Lx, Lt⟩ := X
  obtain ⟨hr, hv1, hv2⟩ := hw.prs (flH _) (List.mem_cons_self ..)
  obtain ⟨hr1, hr2, _, hr4, hr5⟩ := hr
  dsimp only at hr1 hr2 hr4 hr5 hv1 hv2 hm ⊢
  have hlx : (rowCells Lx).length = Lx.length * i'.size := by rw [length_rowCells, hsz]
  have hly : (rowCells ys).length = ys.length * i'.size := by rw [length_rowCells, hsz]
  have hyl : 0 < ys.length := List.length_pos_iff.2 hy0
  have hby : (Lx.length + ys.length) * i'.bytes ≤ 140737488355328 := by
    have := Nat.mul_le_mul hm hb
    omega
  have hone : ∀ u, u ∈ rowCells ys → u.oneCell' = true := fun u hu => rowCells_one ys u hu
  have hgrow : ∀ (old : Nat) (h : HP), h = flH (⟨La, Lc, Le, Lx, Lt⟩ : TL τ) → Holds w0 S0 (flH (⟨some ⟨w.heap.size, 0, none⟩, grownCap w (Lx.length + ys.length) old e, e, Lx ++ ys, (Builtin.zeroCells z'.cells (grownCap w (Lx.length + ys.length) old e - (Lx.length + ys.length))).toList⟩ : TL τ) :: F)
      (w.drew.alloc (.cells ((rowCells Lx).toArray ++ (rowCells ys).toArray ++ Builtin.zeroCells z'.cells (grownCap w (Lx.length + ys.length) old e - (Lx.length + ys.length))) e)) := by
    intro old h hh
    have hge := grownCap_ge w (Lx.length + ys.length) old e
    have hcm : grownCap w (Lx.length + ys.length) old e ≤ maxLen := grownCap_le_maxLen w (Lx.length + ys.length) old e (by simp only [maxLen]; omega)
    have hnew := heap_alloc_new w.drew (.cells ((rowCells Lx).toArray ++ (rowCells ys).toArray ++ Builtin.zeroCells z'.cells (grownCap w (Lx.length + ys.length) old e - (Lx.length + ys.length))) e)
    simp only [World.size_drew] at hnew
    refine Holds.swap (w' := w.drew.alloc _) (hh ▸ hw : Holds w0 S0 (h :: F) w) rfl ⟨rfl, Nat.le_succ _⟩ rfl (by simp) (fun k hk _ => ?_) (fun k hk => ?_) (by simp [flH, slB]) ?_
    · rw [heap_alloc_old _ _ (by simpa using hk)]; rfl
    · simp [flH, slB] at hk; subst hk; exact ⟨.inr (Nat.le_refl _), by simp⟩
    · refine ⟨⟨by simpa using hge, hcm, fun x _ => flat_rd x _ _, fun h => (by cases h), fun a ha => ?_⟩, fun h => (by cases h), fun a ha => ?_⟩
      · cases ha
        refine ⟨fun _ => rfl, fun j v hv => ⟨?_, by simp⟩⟩
        dsimp only at hv
        simp only [World.cell?, hnew, Nat.zero_add, Option.isSome_none, Bool.false_eq_true, if_false]
        have hlt := (List.getElem?_eq_some_iff.1 hv).1
        rw [rowCells_append] at hv hlt
        rw [Array.getElem?_append_left (by simpa using hlt), ← Array.getElem?_toList]
        simpa using hv
      · cases ha
        refine ⟨rfl, _, _, hnew, ?_⟩
        simp only [Array.size_append, List.size_toArray, size_zc, hzs, hlx, hly, hsz, Nat.zero_add]
        rw [← Nat.add_mul, ← Nat.add_mul]
        exact Nat.mul_le_mul_right _ (by omega)
  cases La with
  | none =>
    have hx0 := hr4 rfl
    have hc0 := hv1 rfl
    subst hx0; subst hc0
    have hrun := run_append_nil (P := P) w T ty e i' z' het hi' hz' a ys.length c (rowCells ys) hly hsrc hyl (by omega) (by simp at hby; omega)
    have := hgrow 0 _ rfl
    simp only [List.length_nil, Nat.zero_add, List.nil_append] at this ⊢
    have e0 : (rowCells ([] : List τ)).toArray = #[] := rfl
    rw [e0, Array.empty_append] at this
    exact ⟨⟨some ⟨w.heap.size, 0, none⟩, grownCap w ys.length 0 e, e, ys, (Builtin.zeroCells z'.cells (grownCap w ys.length 0 e - ys.length)).toList⟩, _, rfl, hrun, this⟩
  | some La =>
    obtain ⟨h1, cur, e2, h3, h4⟩ := hv2 La rfl
    obtain ⟨_, h5⟩ := hr5 La rfl
    obtain ⟨g, o, s⟩ := La
    dsimp only at h1 h3 h4 h5
    subst h1
    have hhd : TL.hdr (⟨some ⟨g, o, none⟩, Lc, Le, Lx, Lt⟩ : TL τ) = .slice (some ⟨g, o, none⟩) Lx.length Lc := rfl
    rw [hhd]
    rw [hsz] at h4
    by_cases hroom : Lx.length + ys.length ≤ Lc
    · have hfit : o + Lx.length * i'.size + (rowCells ys).length ≤ cur.size := by
        have := Nat.mul_le_mul_right i'.size hroom
        rw [Nat.add_mul] at this
        rw [hly]; omega
      have hrun := run_append_roomO (P := P) w T ty e e2 i' het hi' g o Lx.length Lc _ h3 a ys.length c (rowCells ys) hly hsrc hone hroom hfit
      refine ⟨⟨some ⟨g, o, none⟩, Lc, Le, Lx ++ ys, Lt⟩, _, rfl, (show _ = Result.ok (Value.slice (some ⟨g, o, none⟩) (Lx ++ ys).length Lc) _ from by rw [List.length_append]; exact hrun), ?_⟩
      have hnew := setRow_heap w g cur (cur.toList.take (o + Lx.length * i'.size) ++ rowCells ys ++ cur.toList.drop (o + Lx.length * i'.size + (rowCells ys).length)).toArray e2 (0, 0) h3
      refine Holds.swap hw rfl ⟨rfl, Nat.le_refl _⟩ rfl (by simp) (fun k hk hn => ?_) (fun k hk => ?_) (by simp [flH, slB]) ?_
      · exact setRow_other _ _ _ _ (fun e => hn (by simp [flH, slB, e]))
      · simp [flH, slB] at hk; subst hk; exact ⟨.inl (by simp [flH, slB]), by simp; exact (Array.getElem?_eq_some_iff.1 h3).1⟩
      · refine ⟨⟨by simpa using hroom, hr2, fun x _ => flat_rd x _ _, fun h => (by cases h), fun a ha => ?_⟩, fun h => (by cases h), fun a ha => ?_⟩
        · cases ha
          refine ⟨fun _ => rfl, fun j v hv => ⟨?_, by simp⟩⟩
          dsimp only at hv
          simp only [World.cell?, hnew, Option.isSome_none, Bool.false_eq_true, if_false]
          rw [List.getElem?_toArray, List.append_assoc]
          have hsz1 : o + Lx.length * i'.size ≤ cur.size := by omega
          rw [rowCells_append] at hv
          rcases Nat.lt_or_ge j (rowCells Lx).length with hj | hj
          · rw [List.getElem?_append_left hj] at hv
            have hc := (h5 j v hv).1
            simp only [World.cell?, h3, Option.isSome_none, Bool.false_eq_true, if_false] at hc
            rw [List.getElem?_append_left (by simp; omega), List.getElem?_take_of_lt (by omega)]
            simpa using hc
          · rw [List.getElem?_append_right hj] at hv
            have hj2 := (List.getElem?_eq_some_iff.1 hv).1
            have hl1 : (cur.toList.take (o + Lx.length * i'.size)).length = o + Lx.length * i'.size := by simp; omega
            rw [List.getElem?_append_right (by rw [hl1]; omega), hl1, List.getElem?_append_left (by omega)]
            rw [← hv]; congr 1; omega
        · cases ha
          refine ⟨rfl, _, _, hnew, ?_⟩
          rw [hsz]
          simp only [List.size_toArray, List.length_append, List.length_take, List.length_drop, Array.length_toList]
          omega
    · have holds : ∀ j v, (rowCells Lx)[j]? = some v → w.cell? ((⟨g, o, none⟩ : Addr).add j) = some v := fun j v hv => by
        rw [addr_add]; exact (h5 j v hv).1
      have hrun := run_append_grow (P := P) w T ty e i' z' het hi' hz' ⟨g, o, none⟩ Lx.length Lc (rowCells Lx) hlx holds a ys.length c (rowCells ys) hly hsrc (by omega) (by omega) (growslice_fits (by omega) hby)
      exact ⟨⟨some ⟨w.heap.size, 0, none⟩, grownCap w (Lx.length + ys.length) Lc e, e, Lx ++ ys, (Builtin.zeroCells z'.cells (grownCap w (Lx.length + ys.length) Lc e - (Lx.length + ys.length))).toList⟩, _, rfl, (show _ = Result.ok (Value.slice (some ⟨w.heap.size, 0, none⟩) (Lx ++ ys).length (grownCap w (Lx.length + ys.length) Lc e)) _ from by rw [List.length_append]; exact hrun), hgrow Lc _ rfl⟩
/-- append of one that owns nothing to a view of one's own. -/
theorem L_appV1 {s x : Operand} {T e sz by_ c b : Nat} {z : List Value} {X : TL τ} {T' : TypeId} (y : τ) {r : List δ} (hn : Nat.blt d Γ.n = true)
    (hs : ev l s = some X.hdr) (hx : ev l x = some (.slice (some ⟨b, 0, none⟩) 1 c)) (ht : elOf Γ.P T = some (e, sz, by_, z)) (hsz : GT.sz τ = sz) (hz : z.length = sz)
    (hp : Pick (flH X) M M1) (hsrc : blk b (GT.cells y) T' ∈ M)
    (hr : appP (GT.dat X) [GT.dat y] = some r) (hb : by_ ≤ 32768)
    (hk : ∀ X' : TL τ, GT.dat X' = r → L Γ rest ((d, X'.hdr) :: l) (flH X' :: M1) K) :
    L Γ ({ dst := some d, op := .call { callee := .builtin .append, args := #[s, x], argTypes := #[T, T] }, type := ty, pos, after := af, guard := none } :: rest) l M K := by
  obtain ⟨h1, rfl⟩ := appP_some hr
  simp only [dat_els, List.length_map, List.length_cons, List.length_nil] at h1
  refine L_stepR (fun v M' => ∃ X' : TL τ, X'.els = X.els ++ [y] ∧ v = X'.hdr ∧ M' = flH X' :: M1) rfl rfl (Nat.le_of_ble_eq_true hn)
    (fun a w ha hw => ?_) (fun v M' ⟨X', h0, h1, h2⟩ => by subst h1; subst h2; exact hk X' (by rw [dat_els, h0, List.map_append, dat_els]; rfl))
  have hsr : ∀ j v, (rowCells [y])[j]? = some v → w.cell? ((⟨b, 0, none⟩ : Addr).add j) = some v := fun j v hv => by
    rw [addr_add]
    exact RdC.blk (Γ := Γ) hsrc w hw.sees j v (by simpa [rowCells] using hv)
  obtain ⟨X', w', h2, h3, h4⟩ := append_fl (P := Γ.P) (c := c) ht hsz hz (hw.perm hp.perm) hsr (by simpa using h1) (by simp) hb ty
  refine ⟨_, _, w', ⟨X', h2, rfl, rfl⟩, ?_, h4⟩
  have h3' : (Builtin.append_ #[T, T] ty #[X.hdr, .slice (some ⟨b, 0, none⟩) 1 c]).run Γ.P w = .ok X'.hdr w' := h3
  generalize TL.hdr X' = vv at *
  generalize X.hdr = uu at *
  simp [execOp, resolve, invoke, builtin, ha.eval hs, ha.eval hx, h3']
end
section
variable {τ δ : Type} [GT τ δ] {t : τ}
theorem RdT.any (h : ∀ w S, GT.rd w S t) : RdT Γ M t := fun w _ => h w []
theorem RdO.any (h : ∀ w S, GT.rd w S t) {w : World} {S : List Nat} : RdO w S t := h w S
theorem RdX.any (h : ∀ w S, GT.rd w S t) : RdX Γ M1 M2 t := fun w _ => h w _
end
theorem L_mk0r (τ : Type) {δ : Type} [GT τ δ] {T e sz by_ : Nat} {z : List Value} (hn : Nat.blt d Γ.n = true) (ht : elOf Γ.P T = some (e, sz, by_, z))
    (hk : ∀ X : TL τ, GT.dat X = [] → (∀ w S, GT.rd w S X) → L Γ rest ((d, X.hdr) :: l) M K) :
    L Γ ({ dst := some d, op := .buildSlice T 0 #[], type := ty, pos, after := af, guard := none } :: rest) l M K :=
  L_buildSlice0 τ hn ht (fun b => L_conv (fun _ h => h.sub ⟨[_], List.perm_append_comm (l₁ := [_]) (l₂ := M)⟩) (hk ⟨some ⟨b, 0, none⟩, 0, e, [], []⟩ rfl fun w S =>
    ⟨Nat.le_refl _, Nat.zero_le _, fun x hx => (by cases hx), fun h => (by cases h), fun a ha => ⟨fun h => (h rfl).elim, fun j v hv => by simp [rowCells] at hv⟩⟩))
end Go.Proofs.SL
namespace Go.Proofs.SL
open Go
variable {Γ : Cx} {l : Envl} {A : List HP} {rest : List Oper} {d : Nat} {ty : TypeId} {pos : String} {af : Array Edge} {gd : Option (Nat × Bool)}
variable {ops : Array Oper} {Msh pool : List HP} {E : Fl} {rs : List (Option Nat × Rel)} {cs0 : List Nat} {KD : RKont}
section
variable {τ δ : Type} [GT τ δ] [FlatT τ]
theorem D_app1OO {t1 t2 T e sz by_ : Nat} {z : List Value} {T' : TypeId} (y : τ) {ra r : List δ}
    (hs : E.lookup t1 = some (OwnV (τ := τ) ra)) (hx : E.lookup t2 = some (RowV (GT.cells y) T')) (ht : elOf Γ.P T = some (e, sz, by_, z)) (hsz : GT.sz τ = sz) (hz : z.length = sz)
    (hr : appP ra [GT.dat y] = some r) (hb : by_ ≤ 32768)
    (hlin : linB ops { dst := some d, op := .call { callee := .builtin .append, args := #[.tmp t1, .tmp t2], argTypes := #[T, T] }, type := ty, pos := pos, after := af, guard := none } [t1, t2] = true)
    (hk : DV Γ ops Msh pool ((d, OwnV (τ := τ) r) :: dropE [t1, t2] E) ((some d, OwnV (τ := τ) r) :: rs) ([t1, t2] ++ cs0) rest KD) :
    DV Γ ops Msh pool E rs cs0 ({ dst := some d, op := .call { callee := .builtin .append, args := #[.tmp t1, .tmp t2], argTypes := #[T, T] }, type := ty, pos := pos, after := af, guard := none } :: rest) KD := by
  refine DV.mk (OwnV (τ := τ) r) [] pool [t1, t2] (by simp) hlin ?_ hk
  intro a w F Mk _ _ hw hm hfa hcf
  obtain ⟨M1, Mk1, rfl, hR1, M2, Mk2, rfl, hR2, hnil⟩ := hcf
  have hnil : Mk2 = [] := hnil
  subst hnil
  obtain ⟨X, hv1, hd, rfl⟩ := hR1 _ hs
  subst hd
  obtain ⟨b, hv2, rfl⟩ := hR2 _ hx
  rw [if_pos (by simp [Region.wanted])]
  have e1 : a.eval (.tmp t1) = X.hdr := hv1
  have e2 : a.eval (.tmp t2) = .slice (some ⟨b, 0, none⟩) 1 1 := hv2
  obtain ⟨hl, rfl⟩ := appP_some hr
  simp only [dat_els, List.length_map, List.length_cons, List.length_nil] at hl
  have hw1 : Holds Γ.w0 Γ.S0 (treeH X :: blk b (GT.cells y) T' :: F) w := by simpa using hw
  have hsrc : ∀ j v, (rowCells [y])[j]? = some v → w.cell? ((⟨b, 0, none⟩ : Addr).add j) = some v := fun j v hv => by
    rw [addr_add]
    exact RdC.blk (Γ := Γ) (M := treeH X :: blk b (GT.cells y) T' :: F) (List.mem_cons_of_mem _ (List.mem_cons_self ..)) w hw1.sees j v (by simpa [rowCells] using hv)
  obtain ⟨a', c', e', tl, w', h1, h2⟩ := append_rowE (P := Γ.P) (c := 1) ht hsz hz (tree_row hw1) hsrc (by simpa using hl) hb ty
  have h1' : (Builtin.append_ #[T, T] ty #[X.hdr, .slice (some ⟨b, 0, none⟩) 1 1]).run Γ.P w = .ok (TL.hdr (⟨a', c', e', X.els ++ [y], tl⟩ : TL τ)) w' := h1
  have h3 : (execOp a.eval { dst := some d, op := .call { callee := .builtin .append, args := #[.tmp t1, .tmp t2], argTypes := #[T, T] }, type := ty, pos := pos, after := af, guard := none }).run Γ.P w = .ok (.value (TL.hdr (⟨a', c', e', X.els ++ [y], tl⟩ : TL τ))) w' := by
    generalize TL.hdr (⟨a', c', e', X.els ++ [y], tl⟩ : TL τ) = vv at *
    generalize X.hdr = uu at *
    simp [execOp, resolve, invoke, builtin, e1, e2, h1']
  rw [h3]
  refine ⟨[treeH (⟨a', c', e', X.els ++ [y], tl⟩ : TL τ)], ⟨_, rfl, ?_, rfl⟩, ?_⟩
  · rw [dat_els, List.map_append]; rfl
  · refine row_tree ?_
    have h4 : Holds Γ.w0 Γ.S0 (elsT X.els :: elsT [y] :: rowH (⟨a', c', e', X.els ++ [y], tl⟩ : TL τ) :: F) w' := by
      have h5 := elsT_flat (xs := [y]) h2 (fun x _ => FlatT.flat x)
      have h6 : Holds Γ.w0 Γ.S0 (elsT X.els :: elsT [y] :: rowH (⟨a', c', e', X.els ++ [y], tl⟩ : TL τ) :: blk b (GT.cells y) T' :: F) w' :=
        h5.perm (((List.Perm.swap _ _ _).cons _).trans (List.Perm.swap _ _ _))
      exact h6.sub ⟨[blk b (GT.cells y) T'], by
        show List.Perm _ (([elsT X.els, elsT [y], rowH (⟨a', c', e', X.els ++ [y], tl⟩ : TL τ)] ++ F) ++ [blk b (GT.cells y) T'])
        rw [List.append_assoc]
        exact (List.perm_append_comm (l₁ := [blk b (GT.cells y) T']) (l₂ := F)).append_left [elsT X.els, elsT [y], rowH (⟨a', c', e', X.els ++ [y], tl⟩ : TL τ)]⟩
    exact (elsT_app h4).perm (List.Perm.swap _ _ _)
end
section
variable {τ δ : Type} [GT τ δ]
theorem D_lenO {t : Nat} {T : TypeId} {e : TypeId × Nat × Nat × List Value} {c : Prop} {r : List δ} (hR : E.lookup t = some (OwnV (τ := τ) r))
    (hg : GC ops E { dst := some d, op := .call { callee := .builtin .len, args := #[.tmp t], argTypes := #[T] }, type := ty, pos := pos, after := af, guard := gd } c) (ht : elOf Γ.P T = some e)
    (hk : DV Γ ops Msh pool ((d, FC c (.int .i64 (r.length : Int))) :: E) ((some d, FC c (.int .i64 (r.length : Int))) :: rs) cs0 rest KD) :
    DV Γ ops Msh pool E rs cs0 ({ dst := some d, op := .call { callee := .builtin .len, args := #[.tmp t], argTypes := #[T] }, type := ty, pos := pos, after := af, guard := gd } :: rest) KD :=
  DV_pure c _ hg (fun a' w F hc hf _ => by
    have h1 := OpRs.evals (o := { dst := some d, op := .call { callee := .builtin .len, args := #[.tmp t], argTypes := #[T] }, type := ty, pos := pos, after := af, guard := gd }) hf [.tmp t] [OwnV (τ := τ) r] ⟨⟨_, hR, fun _ _ h => h⟩, trivial⟩ (fun x hx => by simp [Op.operands, Call.operands] at hx ⊢; exact hx)
    obtain ⟨v, us, M, e1, hr, -, -⟩ := h1
    obtain ⟨X, hX, hd, _⟩ := hr
    have e2 : a'.eval (.tmp t) = X.hdr := by
      have := List.head_eq_of_cons_eq e1
      rw [this, hX]
    have e3 : a'.eval (.tmp t) = .slice X.a X.els.length X.cap := e2
    have := run_len_slice (z := e) ht X.a X.els.length X.cap ty w
    have hl : r.length = X.els.length := by rw [← hd, dat_els, List.length_map]
    rw [hl]
    simp [execOp, resolve, invoke, builtin, e3, this]) hk
theorem PU_slcF {x : Operand} {lo hi : Option Operand} {T e sz by_ : Nat} {z : List Value} {X : TL τ} {a b : Int} {r : List δ} (hn : Nat.blt d Γ.n = true) (hx : ev l x = some X.hdr) (hlo : optI l lo 0 = some a) (hhi : optI l hi ((GT.dat X).length : Int) = some b)
    (ht : elOf Γ.P T = some (e, sz, by_, z)) (hsz : GT.sz τ = sz) (hcap : X.els.length ≤ X.cap) (hr : slcP (GT.dat X) a b = some r) :
    Pu Γ A l { dst := some d, op := .slice T x lo hi none, type := ty, pos := pos, after := af, guard := none } d (slc X a.toNat b.toNat).hdr := by
  unfold slcP at hr
  split at hr
  · rename_i hb
    cases hr
    rw [dat_els, List.length_map] at hb hhi
    obtain ⟨h0, h1, h2⟩ := hb
    have h1' : a.toNat ≤ b.toNat := by omega
    have h2' : b.toNat ≤ X.els.length := by omega
    refine PU_pure hn (v := (slc X a.toNat b.toNat).hdr) (fun a' w ha hw => ?_)
    unfold elOf at ht
    split at ht <;> (try cases ht)
    rename_i e' het
    split at ht <;> (try cases ht)
    rename_i i' hi'
    split at ht <;> cases ht
    have hlen : ((X.els.drop a.toNat).take (b.toNat - a.toNat)).length = b.toNat - a.toNat := by simp; omega
    have hv : (slc X a.toNat b.toNat).hdr = .slice (if X.cap = a.toNat then X.a else X.a.map (·.add (a.toNat * i'.size))) (b.toNat - a.toNat) (X.cap - a.toNat) := by
      show Value.slice _ ((X.els.drop a.toNat).take (b.toNat - a.toNat)).length _ = _
      rw [hlen]; simp only [slc, hsz]
    rw [hv]
    have e1 : a'.eval x = .slice X.a X.els.length X.cap := ha.eval hx
    cases lo with
    | none =>
      cases hlo
      cases hi with
      | none =>
        cases hhi
        simp only [execOp, Option.map_none, e1, Instr.sliceAt, Instr.slice, underlying, Sem.run_bind, run_program, Result.andThen_ok, het, Instr.sliceBounds, Sem.run_pure, sizeOf, typeInfo, hi']
        simp
      | some o =>
        obtain ⟨k, h5⟩ := optI_some hhi
        have e2 := ha.eval h5
        have e4 := fun w => run_sliceBound (P := Γ.P) (k := k) (code := .sliceAcap) (show 0 ≤ b by omega) (show b ≤ ((X.cap : Nat) : Int) by omega) w
        simp [execOp, e1, e2, Instr.sliceAt, Instr.slice, underlying, het, Instr.sliceBounds, sizeOf, typeInfo, hi', e4]
    | some o1 =>
      obtain ⟨k1, h6⟩ := optI_some hlo
      have e3 := ha.eval h6
      cases hi with
      | none =>
        cases hhi
        have e4 := fun w => run_sliceBound (P := Γ.P) (k := k1) (code := .sliceB) h0 (show a ≤ ((X.els.length : Nat) : Int) by omega) w
        simp [execOp, e1, e3, Instr.sliceAt, Instr.slice, underlying, het, Instr.sliceBounds, sizeOf, typeInfo, hi', e4]
      | some o =>
        obtain ⟨k, h5⟩ := optI_some hhi
        have e2 := ha.eval h5
        have e4 := fun w => run_sliceBound (P := Γ.P) (k := k) (code := .sliceAcap) (show 0 ≤ b by omega) (show b ≤ ((X.cap : Nat) : Int) by omega) w
        have e5 := fun w => run_sliceBound (P := Γ.P) (k := k1) (code := .sliceB) h0 (show a ≤ ((b.toNat : Nat) : Int) by omega) w
        simp [execOp, e1, e2, e3, Instr.sliceAt, Instr.slice, underlying, het, Instr.sliceBounds, sizeOf, typeInfo, hi', e4, e5]
  · cases hr
theorem cap_of {X : TL τ} {M M1 : List HP} {w0 w : World} {S0 : List Nat} (p : Pick (treeH X) M M1) (h : Holds w0 S0 M w) : X.els.length ≤ X.cap := ((h.perm p.perm).prs (treeH X) (List.mem_cons_self ..)).1
end
end Go.Proofs.SL
namespace Go.Proofs.SL
open Go
variable {Γ : Cx} {l : Envl} {M M1 A : List HP} {K : Kont} {Q : Post} {rest : List Oper} {d : Nat} {ty : TypeId} {pos : String} {af : Array Edge} {gd : Option (Nat × Bool)} {w0 w : World} {S0 : List Nat}
variable {ops : Array Oper} {Msh pool : List HP} {E : Fl} {rs : List (Option Nat × Rel)} {cs0 : List Nat} {KD : RKont}
section
variable {τ δ : Type} [GT τ δ]
theorem els_eq {xs ys : List τ} (e : xs = ys) (p : Pick (elsT xs) M M1) (h : Holds w0 S0 M w) : Holds w0 S0 (elsT ys :: M1) w := by subst e; exact h.perm p.perm
theorem W_rawH {c : Code} {X : TL τ} {i : Nat} {u : τ} (hu : X.els[i]? = some u) (p : Pick (holeH X i (GT.cells u)) M M1)
    (hk : X.a = some ⟨X.g, 0, none⟩ → X.els.length ≤ X.cap → X.cap ≤ maxLen → X.els.length * GT.sz τ + X.tail.length = X.cap * GT.sz τ → W Γ c l (blk X.g (rowCells X.els ++ X.tail) X.e :: elsT (X.els.eraseIdx i) :: M1) Q) : W Γ c l M Q := by
  refine W_fact (φ := X.a = some ⟨X.g, 0, none⟩ ∧ X.els.length ≤ X.cap ∧ X.cap ≤ maxLen ∧ X.els.length * GT.sz τ + X.tail.length = X.cap * GT.sz τ) (fun w h => ?_) (fun ⟨f1, f2, f3, f4⟩ => W_conv (fun w h => ?_) (hk f1 f2 f3 f4))
  · obtain ⟨_, _, h3, h4, h5, _, _, h8⟩ := (h.perm p.perm).prs (holeH X i (GT.cells u)) (List.mem_cons_self ..)
    exact ⟨h5, h3, h4, h8⟩
  · have h1 := h.perm p.perm
    obtain ⟨_, _, _, _, _, h6, h7, _⟩ := h1.prs (holeH X i (GT.cells u)) (List.mem_cons_self ..)
    refine h1.reFp (List.Perm.of_eq ?_) fun x hx => ?_
    · simp only [fps_cons]
      show ([X.g] ++ (X.els.eraseIdx i).flatMap GT.fp) ++ fps M1 = [X.g] ++ ((X.els.eraseIdx i).flatMap GT.fp ++ fps M1)
      rw [List.append_assoc]
    · rcases List.mem_cons.1 hx with rfl | hx
      · show _ = some (Obj.cells (rowCells X.els ++ X.tail).toArray X.e (0, 0))
        rw [h7, row_parts X.els hu, List.append_assoc, List.append_assoc]
      rcases List.mem_cons.1 hx with rfl | hx
      · exact h6
      · exact h1.prs _ (List.mem_cons_of_mem _ hx)
end
/-! Fields of many cells -/
def fldA (P : Program) (T : TypeId) (f : Nat) : Option (Nat × Nat) := match P.underlying T with
  | some (.struct fs) => match fs[f]? with
    | some x => (aggOf P x.type).map fun n => (x.offset, n)
    | none => none
  | _ => none
theorem run_fieldA {P : Program} {T f fo n : Nat} {cs : List Value} (ht : fldA P T f = some (fo, n)) (w : World) : (Instr.field T (.agg cs.toArray) f).run P w = .ok (.agg ((cs.drop fo).take n).toArray) w := by
  unfold fldA at ht
  split at ht <;> (try cases ht)
  rename_i fs hfs
  split at ht <;> (try cases ht)
  rename_i x hx
  obtain ⟨m, hm, e⟩ := Option.map_eq_some_iff.1 ht
  cases e
  obtain ⟨h1, h2⟩ := run_isAgg_agg hm w
  simp [Instr.field, underlying, hfs, hx, asAgg, part, h1, h2, List.take_drop]
theorem D_fieldGC {t : Nat} {T : TypeId} {fi fo n : Nat} {c : Prop} {R : Rel} (R' : Rel) (hR : E.lookup t = some (GR c R))
    (hg : GC ops (dropE [t] E) { dst := some d, op := .field T (.tmp t) fi, type := ty, pos := pos, after := af, guard := gd } c)
    (ht : fldA Γ.P T fi = some (fo, n)) (hh : ∀ v M, R v M → ∃ cs : List Value, v = .agg cs.toArray ∧ R' (.agg ((cs.drop fo).take n).toArray) M)
    (hlin : linB ops { dst := some d, op := .field T (.tmp t) fi, type := ty, pos := pos, after := af, guard := gd } [t] = true)
    (hk : DV Γ ops Msh pool ((d, GR c R') :: dropE [t] E) ((some d, GR c R') :: rs) ([t] ++ cs0) rest KD) :
    DV Γ ops Msh pool E rs cs0 ({ dst := some d, op := .field T (.tmp t) fi, type := ty, pos := pos, after := af, guard := gd } :: rest) KD := by
  refine DV.mk (GR c R') [] pool [t] (by simp) hlin ?_ hk
  intro a w F Mk _ _ hw hm hfa hcf
  obtain ⟨Mx, Mk', rfl, hRR, hnil⟩ := hcf
  have hnil : Mk' = [] := hnil
  subst hnil
  have h1 := hRR _ hR
  have hgc := hg a F hfa
  split
  · rename_i hwt
    have hcc := hgc.1 hwt
    obtain ⟨cs, hv, h2⟩ := hh _ _ (h1.1 hcc)
    have e1 : a.eval (.tmp t) = .agg cs.toArray := hv
    have h3 : (execOp a.eval { dst := some d, op := .field T (.tmp t) fi, type := ty, pos := pos, after := af, guard := gd }).run Γ.P w = .ok (.value (.agg ((cs.drop fo).take n).toArray)) w := by
      simp [execOp, e1, run_fieldA ht w]
    rw [h3]
    exact ⟨Mx, ⟨fun _ => h2, fun hn => (hn hcc).elim⟩, by simpa using hw⟩
  · rename_i hwt
    have hnc : ¬ c := fun hc => hwt (hgc.2 hc)
    have hM := (h1.2 hnc).2
    subst hM
    exact ⟨fun hc => (hnc hc).elim, fun _ => ⟨rfl, rfl⟩⟩
theorem D_fieldC {t : Nat} {T : TypeId} {fi fo n : Nat} {R : Rel} (R' : Rel) (hR : E.lookup t = some R)
    (ht : fldA Γ.P T fi = some (fo, n)) (hh : ∀ v M, R v M → ∃ cs : List Value, v = .agg cs.toArray ∧ R' (.agg ((cs.drop fo).take n).toArray) M)
    (hlin : linB ops { dst := some d, op := .field T (.tmp t) fi, type := ty, pos := pos, after := af, guard := none } [t] = true)
    (hk : DV Γ ops Msh pool ((d, R') :: dropE [t] E) ((some d, R') :: rs) ([t] ++ cs0) rest KD) :
    DV Γ ops Msh pool E rs cs0 ({ dst := some d, op := .field T (.tmp t) fi, type := ty, pos := pos, after := af, guard := none } :: rest) KD := by
  refine DV.mk R' [] pool [t] (by simp) hlin ?_ hk
  intro a w F Mk _ _ hw hm hfa hcf
  obtain ⟨Mx, Mk', rfl, hRR, hnil⟩ := hcf
  have hnil : Mk' = [] := hnil
  subst hnil
  obtain ⟨cs, hv, h2⟩ := hh _ _ (hRR _ hR)
  rw [if_pos (by simp [Region.wanted])]
  have e1 : a.eval (.tmp t) = .agg cs.toArray := hv
  have h3 : (execOp a.eval { dst := some d, op := .field T (.tmp t) fi, type := ty, pos := pos, after := af, guard := none }).run Γ.P w = .ok (.value (.agg ((cs.drop fo).take n).toArray)) w := by
    simp [execOp, e1, run_fieldA ht w]
  rw [h3]
  exact ⟨Mx, h2, by simpa using hw⟩
end Go.Proofs.SL
