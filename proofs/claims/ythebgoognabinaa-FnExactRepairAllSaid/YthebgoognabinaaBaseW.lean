/- The comparison of structs whose fields are of one cell. -/
import Derived.Test.YthebgoognabinaaBaseV
import Derived.Laws.StructEq
namespace Go.Proofs.SL
open Go
def eqShape (P : Program) (T : TypeId) : Option (List (TypeId × Nat)) := match P.underlying T with
  | some (.struct fs) => if P.stoodInHeld T || P.eqGuardType P.depth T then none else some ((fs.toList.filter fun f => decide (f.name ≠ "_")).map fun f => (f.type, f.offset))
  | _ => none
inductive EqS (P : Program) (d : Nat) (xs ys : Array Value) : List (TypeId × Nat) → Bool → Prop
  | nil : EqS P d xs ys [] true
  | cons {t : TypeId} {o : Nat} {a b : Value} {r r' : Bool} {fs : List (TypeId × Nat)} (ht : oneOf P t = true) (ha : xs[o]? = some a) (hb : ys[o]? = some b) (he : ∀ w, (Op.equalIn d t a b).run P w = .ok r w) (hs : EqS P d xs ys fs r') : EqS P d xs ys ((t, o) :: fs) (r && r')
theorem run_part_one {P : Program} {T : TypeId} (h : oneOf P T = true) {xs : Array Value} {o : Nat} {v : Value} (hx : xs[o]? = some v) (w : World) : (part T xs o).run P w = .ok v w := by
  simp [part, run_isAgg_one h, hx]
theorem run_eqS {P : Program} {d : Nat} {xs ys : Array Value} : ∀ {fs : List Field} {r : Bool}, EqS P d xs ys ((fs.filter fun f => decide (f.name ≠ "_")).map fun f => (f.type, f.offset)) r → ∀ w, (Op.eqFields d xs ys fs).run P w = .ok r w
  | [], r, h, w => by cases h; simp [Op.eqFields]
  | f :: fs, r, h, w => by
    unfold Op.eqFields
    by_cases hn : f.name ≠ "_"
    · rw [List.filter_cons, if_pos (by simp [hn])] at h
      rw [if_pos hn]
      cases h with
      | cons ht ha hb he hs =>
        rename_i a b r r'
        simp only [Sem.run_bind, run_part_one ht ha, run_part_one ht hb, Result.andThen_ok, he]
        cases r
        · simp
        · simp only [Bool.not_true, Bool.false_eq_true, if_false, Bool.true_and]
          exact run_eqS hs w
    · rw [List.filter_cons, if_neg (by simpa using hn)] at h
      rw [if_neg hn]
      exact run_eqS h w
theorem eqShape_some {P : Program} {T : TypeId} {sh : List (TypeId × Nat)} (h : eqShape P T = some sh) : P.underlying T = some (.struct (P.fieldsOf T)) ∧ P.stoodInHeld T = false ∧ P.eqGuardType P.depth T = false ∧ sh = ((P.fieldsOf T).toList.filter fun f => decide (f.name ≠ "_")).map fun f => (f.type, f.offset) := by
  unfold eqShape at h
  split at h
  · rename_i fs hu
    have hf : P.fieldsOf T = fs := by unfold Program.fieldsOf; rw [hu]
    split at h
    · cases h
    · rename_i hn
      simp only [Bool.or_eq_true, not_or, Bool.not_eq_true] at hn
      exact ⟨by rw [hf]; exact hu, hn.1, hn.2, by rw [hf]; exact (Option.some.inj h).symm⟩
  · cases h
theorem bv_aeql {P : Program} {T : TypeId} {x y : Operand} {xs ys : Array Value} {sh : List (TypeId × Nat)} {r : Bool} (h : eqShape P T = some sh) (he : EqS P 9999 xs ys sh r) : BinV P .eql T x y (.agg xs) (.agg ys) (.bool r) := fun w => by
  obtain ⟨h1, h2, h3, rfl⟩ := eqShape_some h
  simp only [Sem.run_bind, run_eqGuard_agg w _ _ _ _ _ _ h3, Result.andThen_ok, run_eql_struct]
  rw [show (10000 : Nat) = 9999 + 1 from rfl, run_equalIn_struct w 9999 T xs ys h1 h2, run_eqS he w]; rfl
theorem bv_aneq {P : Program} {T : TypeId} {x y : Operand} {xs ys : Array Value} {sh : List (TypeId × Nat)} {r : Bool} (h : eqShape P T = some sh) (he : EqS P 9999 xs ys sh r) : BinV P .neq T x y (.agg xs) (.agg ys) (.bool (!r)) := fun w => by
  obtain ⟨h1, h2, h3, rfl⟩ := eqShape_some h
  simp only [Sem.run_bind, run_eqGuard_agg w _ _ _ _ _ _ h3, Result.andThen_ok, run_neq_struct]
  rw [show (10000 : Nat) = 9999 + 1 from rfl, run_equalIn_struct w 9999 T xs ys h1 h2, run_eqS he w]; rfl
theorem EqS.consI {P : Program} {d : Nat} {xs ys : Array Value} {t : TypeId} {o : Nat} {k : IntKind} {a b : Int} {r' : Bool} {fs : List (TypeId × Nat)} {k' : IntKind} (ht : oneOf P t = true) (hu : P.underlying t = some (.int k')) (ha : xs[o]? = some (.int k a)) (hb : ys[o]? = some (.int k b)) (hs : EqS P (d + 1) xs ys fs r') : EqS P (d + 1) xs ys ((t, o) :: fs) (decide (a = b) && r') :=
  EqS.cons ht ha hb (fun w => run_equalIn_int w d t k k' a b hu) hs
theorem EqS.consB {P : Program} {d : Nat} {xs ys : Array Value} {t : TypeId} {o : Nat} {a b : Bool} {r' : Bool} {fs : List (TypeId × Nat)} (ht : oneOf P t = true) (hu : P.underlying t = some .bool) (ha : xs[o]? = some (.bool a)) (hb : ys[o]? = some (.bool b)) (hs : EqS P (d + 1) xs ys fs r') : EqS P (d + 1) xs ys ((t, o) :: fs) ((a == b) && r') :=
  EqS.cons ht ha hb (fun w => run_equalIn_bool' w d t a b hu) hs
theorem EqS.consS {P : Program} {d : Nat} {xs ys : Array Value} {t : TypeId} {o : Nat} {a b : ByteArray} {r' : Bool} {fs : List (TypeId × Nat)} (ht : oneOf P t = true) (hu : P.underlying t = some .string) (ha : xs[o]? = some (.string a)) (hb : ys[o]? = some (.string b)) (hs : EqS P (d + 1) xs ys fs r') : EqS P (d + 1) xs ys ((t, o) :: fs) (decide (a = b) && r') :=
  EqS.cons ht ha hb (fun w => by rw [run_equalIn_string w d t a b hu, str_eq]) hs
end Go.Proofs.SL
