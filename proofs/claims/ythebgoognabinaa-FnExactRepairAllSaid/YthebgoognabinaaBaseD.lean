/- The base of the walks: bytes to strings, and what the laws' marks do to trees. -/
import Derived.Test.YthebgoognabinaaBaseC
import Derived.Laws.BytesString
namespace Go.Proofs.SL
open Go

variable {Γ : Cx} {l : Envl} {M M' M1 M2 : List HP} {Q : Post} {K : Kont} {w0 w : World} {S0 : List Nat} {P : Program}
variable {rest : List Oper} {d : Nat} {ty : TypeId} {pos : String} {af : Array Edge}

/-- The string of bytes that stand as numbers. -/
def strOf (ns : List Int) : ByteArray := ns.foldl (fun r n => r.push (UInt8.ofNat n.toNat)) ByteArray.empty
theorem size_push (s : ByteArray) (b : UInt8) : (s.push b).size = s.size + 1 := ByteArray.size_push
theorem strOf_size1 (n : Int) : (strOf [n]).size = 1 := by unfold strOf; simp only [List.foldl_cons, List.foldl_nil, size_push]; rfl
theorem L_bytesToStr {x : Operand} {S T e g off n c : Nat} {ns : List Int} {cs : List Value} (hn : Nat.blt d Γ.n = true) (hx : ev l x = some (.slice (some ⟨g, off, none⟩) n c)) (hS : Γ.P.underlying S = some (.slice e)) (he : Γ.P.underlying e = some (.int .u8)) (hT : Γ.P.underlying T = some .string)
    (hc : RdC Γ M g off cs) (hcs : cs = ns.map (Value.int .u8)) (hln : n = ns.length) (hk : L Γ rest ((d, .string (strOf ns)) :: l) M K) :
    L Γ ({ dst := some d, op := .convert S T x, type := ty, pos := pos, after := af, guard := none } :: rest) l M K :=
  L_pure hn (fun a' w ha hw => by
    subst hcs; subst hln
    have hl := run_loadCells_at (P := Γ.P) (hc w hw.sees)
    rw [List.length_map] at hl
    have h2 := run_bytesToString (P := Γ.P) w ⟨g, off, none⟩ ns.length c ns hl
    simp only [execOp, ha.eval hx, Sem.run_bind, run_convert_bytes_string w S T e _ _ _ hS he hT, h2, Result.andThen_ok, Sem.run_pure]
    rfl) hk

theorem bv_remN {x y : Operand} {T : TypeId} (k n : Nat) (hn : n ≠ 0) : BinV P .rem T x y (.int .i64 (k : Int)) (.int .i64 (n : Int)) (.int .i64 ((k % n : Nat) : Int)) := by
  have := @bv_rem P T x y .i64 (k : Int) (n : Int) (by omega)
  rwa [show ((k : Int).tmod (n : Int)) = ((k % n : Nat) : Int) from rfl] at this
theorem bv_quoN {x y : Operand} {T : TypeId} (k n : Nat) (hn : n ≠ 0) (hk : k ≤ 9223372036854775807) : BinV P .quo T x y (.int .i64 (k : Int)) (.int .i64 (n : Int)) (.int .i64 ((k / n : Nat) : Int)) := by
  have := @bv_quo P T x y .i64 (k : Int) (n : Int) (by omega)
  rw [show ((k : Int).tdiv (n : Int)) = ((k / n : Nat) : Int) from rfl] at this
  have h2 := Nat.div_le_self k n
  generalize k / n = q at *
  rwa [wrap64_in (by unfold inR; omega)] at this

/-! The marks -/
def dg (k : Nat) : ByteArray := strOf [IntKind.u8.wrap (48 + ((k % 10 : Nat) : Int))]
def mtxN (k : Nat) (s : ByteArray) : ByteArray := if h : k = 0 then s else mtxN (k / 10) (dg k ++ s)
  termination_by k
  decreasing_by omega
def mtx (k : Nat) : ByteArray := ByteArray.mk #[109] ++ mtxN k (ByteArray.mk #[])
theorem mtxN_zero (s : ByteArray) : mtxN 0 s = s := by rw [mtxN]; simp
theorem mtxN_step {k : Nat} (s : ByteArray) (h : 0 < k) : mtxN k s = mtxN (k / 10) (dg k ++ s) := by rw [mtxN, dif_neg (by omega)]
theorem dg_size (k : Nat) : (dg k).size = 1 := strOf_size1 _
theorem mtxN_size (k : Nat) : ∀ s, (mtxN k s).size ≤ k + s.size := by
  induction k using Nat.strongRecOn with
  | _ k ih =>
    intro s
    rcases Nat.eq_zero_or_pos k with h | h
    · subst h; rw [mtxN_zero]; omega
    · rw [mtxN_step s h]
      have := ih (k / 10) (by omega) (dg k ++ s)
      rw [ByteArray.size_append, dg_size] at this
      omega
theorem mtx_size (k : Nat) : (mtx k).size ≤ k + 1 := by
  unfold mtx
  rw [ByteArray.size_append]
  have := mtxN_size k (ByteArray.mk #[])
  have e1 : (ByteArray.mk #[109]).size = 1 := rfl
  have e2 : (ByteArray.mk #[]).size = 0 := rfl
  omega

/-- What a mark, from k on, makes of an element. -/
class Mk (τ : Type) where
  cnt : τ → Nat
  mkd : Nat → τ → τ
instance : Mk Int := ⟨fun _ => 1, fun k _ => (k : Int)⟩
instance : Mk ByteArray := ⟨fun _ => 1, fun k _ => mtx k⟩
instance {α β : Type} [Mk α] [Mk β] : Mk (α × β) := ⟨fun p => Mk.cnt p.1 + Mk.cnt p.2, fun k p => (Mk.mkd k p.1, Mk.mkd (k + Mk.cnt p.1) p.2)⟩
section
variable {τ : Type} [Mk τ]
def cnts : List τ → Nat
  | [] => 0
  | x :: xs => Mk.cnt x + cnts xs
def mks (k : Nat) : List τ → List τ
  | [] => []
  | x :: xs => Mk.mkd k x :: mks (k + Mk.cnt x) xs
instance : Mk (TL τ) := ⟨fun L => cnts L.els, fun k L => { L with els := mks k L.els }⟩
theorem mks_length (xs : List τ) : ∀ k, (mks k xs).length = xs.length := by
  induction xs with
  | nil => intro k; rfl
  | cons x xs ih => intro k; simp [mks, ih]
theorem cnts_append (xs ys : List τ) : cnts (xs ++ ys) = cnts xs + cnts ys := by
  induction xs with
  | nil => simp [cnts]
  | cons x xs ih => simp only [List.cons_append, cnts, ih]; omega
theorem cnts_take_succ {xs : List τ} {i : Nat} {x : τ} (h : xs[i]? = some x) : cnts (xs.take (i + 1)) = cnts (xs.take i) + Mk.cnt x := by
  rw [List.take_add_one, h, cnts_append]; simp [cnts]
theorem cnts_take_le (xs : List τ) (i : Nat) : cnts (xs.take i) ≤ cnts xs := by
  conv => rhs; rw [← List.take_append_drop i xs]
  rw [cnts_append]; omega
theorem mks_get {xs : List τ} : ∀ {k i : Nat} {x : τ}, xs[i]? = some x → (mks k xs)[i]? = some (Mk.mkd (k + cnts (xs.take i)) x) := by
  induction xs with
  | nil => intro k i x h; simp at h
  | cons y ys ih =>
    intro k i x h
    cases i with
    | zero => simp at h; subst h; simp [mks, cnts]
    | succ i =>
      simp only [mks, List.getElem?_cons_succ, List.take_succ_cons, cnts] at h ⊢
      rw [ih h, Nat.add_assoc]
/-- Half marked. -/
def half (k i : Nat) (xs : List τ) : List τ := (mks k xs).take i ++ xs.drop i
theorem half_zero (k : Nat) (xs : List τ) : half k 0 xs = xs := by simp [half]
theorem half_all (k : Nat) {i : Nat} {xs : List τ} (h : xs.length ≤ i) : half k i xs = mks k xs := by
  unfold half
  rw [List.take_of_length_le (by rw [mks_length]; exact h), List.drop_of_length_le h, List.append_nil]
theorem half_length (k i : Nat) (xs : List τ) : (half k i xs).length = xs.length := by
  unfold half
  rw [List.length_append, List.length_take, List.length_drop, mks_length]; omega
theorem half_get {k i : Nat} {xs : List τ} {x : τ} (h : xs[i]? = some x) : (half k i xs)[i]? = some x := by
  unfold half
  have hlt := (List.getElem?_eq_some_iff.1 h).1
  rw [List.getElem?_append_right (by rw [List.length_take, mks_length]; omega), List.length_take, mks_length, Nat.min_eq_left (by omega), Nat.sub_self, List.getElem?_drop]
  simpa using h
theorem half_set {k i : Nat} {xs : List τ} {x : τ} (h : xs[i]? = some x) : (half k i xs).set i (Mk.mkd (k + cnts (xs.take i)) x) = half k (i + 1) xs := by
  have hlt := (List.getElem?_eq_some_iff.1 h).1
  apply List.ext_getElem?
  intro j
  rw [List.getElem?_set]
  unfold half
  by_cases hj : i = j
  · subst hj
    rw [if_pos rfl, if_pos (by rw [List.length_append, List.length_take, List.length_drop, mks_length]; omega), List.getElem?_append_left (by rw [List.length_take, mks_length]; omega), List.getElem?_take_of_lt (by omega), mks_get h]
  · rw [if_neg hj]
    rcases Nat.lt_or_ge j i with h1 | h1
    · rw [List.getElem?_append_left (by rw [List.length_take, mks_length]; omega), List.getElem?_append_left (by rw [List.length_take, mks_length]; omega), List.getElem?_take_of_lt h1, List.getElem?_take_of_lt (by omega)]
    · rw [List.getElem?_append_right (by rw [List.length_take, mks_length]; omega), List.getElem?_append_right (by rw [List.length_take, mks_length]; omega), List.length_take, List.length_take, mks_length, Nat.min_eq_left (by omega), Nat.min_eq_left (by omega), List.getElem?_drop, List.getElem?_drop]
      congr 1; omega
end

/-- The marks of a struct that is handed over: its rows alone. -/
class Mv (τ : Type) where
  cnt : τ → Nat
  mkd : Nat → τ → τ
instance : Mv Int := ⟨fun _ => 0, fun _ t => t⟩
instance : Mv Bool := ⟨fun _ => 0, fun _ t => t⟩
instance : Mv ByteArray := ⟨fun _ => 0, fun _ t => t⟩
instance {τ : Type} [Mk τ] : Mv (TL τ) := ⟨Mk.cnt, Mk.mkd⟩
instance {α β : Type} [Mv α] [Mv β] : Mv (α × β) := ⟨fun p => Mv.cnt p.1 + Mv.cnt p.2, fun k p => (Mv.mkd k p.1, Mv.mkd (k + Mv.cnt p.1) p.2)⟩

section
variable {τ δ : Type} [GT τ δ]
/-- One element taken out of its row. -/
theorem el_out {L : TL τ} {i : Nat} {x : τ} (hi : L.els[i]? = some x) (h : Holds w0 S0 (treeH L :: M) w) : Holds w0 S0 (treeH x :: rowH L :: elsT (L.els.eraseIdx i) :: M) w :=
  (elsT_pick hi ((tree_row h).perm (List.Perm.swap _ _ _))).perm (((List.Perm.swap _ _ _).cons _).trans (List.Perm.refl _))
theorem el_in {L : TL τ} {i : Nat} {x x' : τ} (hi : L.els[i]? = some x) (hc : GT.cells x' = GT.cells x) (h : Holds w0 S0 (treeH x' :: rowH L :: elsT (L.els.eraseIdx i) :: M) w) : Holds w0 S0 (treeH ({ L with els := L.els.set i x' } : TL τ) :: M) w := by
  have hlt := (List.getElem?_eq_some_iff.1 hi).1
  have hx := (List.getElem?_eq_some_iff.1 hi).2
  have h2 := h.perm (List.Perm.swap (rowH L) (treeH x') _)
  have h3 : Holds w0 S0 (treeH x' :: elsT (L.els.eraseIdx i) :: (rowH L :: M)) w := h.perm ((List.Perm.swap _ _ _).cons _)
  have h4 := elsT_put hlt h3
  have hrow : rowCells (L.els.set i x') = rowCells L.els := by
    rw [rowCells_set _ _ _ hlt, hc]
    have h5 := rowCells_set L.els i x hlt
    rw [← h5]
    congr 1
    rw [← hx]; exact List.set_getElem_self hlt
  have h6 := h4.perm (List.Perm.swap (rowH L) _ _)
  refine row_tree (h6.reFp (List.Perm.of_eq rfl) fun y hy => ?_)
  rcases List.mem_cons.1 hy with rfl | hy
  · have hp := h6.prs (rowH L) (List.mem_cons_self ..)
    refine ⟨by rw [List.length_set]; exact hp.1, hp.2.1, fun ha => ?_, fun a ha => ?_⟩
    · obtain ⟨h7, h8⟩ := hp.2.2.1 ha
      rw [h7] at hlt; simp at hlt
    · obtain ⟨h7, h8, h9, h10⟩ := hp.2.2.2 a ha
      exact ⟨h7, h8, by rw [hrow]; exact h9, by rw [List.length_set]; exact h10⟩
  · exact h6.prs y (List.mem_cons_of_mem _ hy)
theorem ow_facts {L : TL τ} (h : GT.ow w L) : L.els.length ≤ 9223372036854775807 ∧ (0 < L.els.length → ∃ g, L.a = some ⟨g, 0, none⟩) := by
  have h1 := h.1; have h2 := h.2.1; simp only [maxLen] at h2
  refine ⟨by omega, fun hl => ?_⟩
  cases ha : L.a with
  | none => have := (h.2.2.2.1 ha).1; rw [this] at hl; simp at hl
  | some a =>
    obtain ⟨h3, h4, _⟩ := h.2.2.2.2 _ ha
    obtain ⟨b, o, s⟩ := a
    exact ⟨b, by simp at h3 h4; rw [h3, h4]⟩
end
theorem set_get {α : Type} {xs : List α} {i : Nat} {x y : α} (h : xs[i]? = some y) : (xs.set i x)[i]? = some x := by
  rw [List.getElem?_set_self (List.getElem?_eq_some_iff.1 h).1]
theorem W_fact {c : Code} {φ : Prop} (h : ∀ w, Holds Γ.w0 Γ.S0 M w → φ) (hk : φ → W Γ c l M Q) : W Γ c l M Q := fun a w ha hw => hk (h w hw) a w ha hw
theorem L_fact {φ : Prop} (h : ∀ w, Holds Γ.w0 Γ.S0 M w → φ) (hk : φ → L Γ rest l M K) : L Γ rest l M K := fun ops a w Q ha hw hq => hk (h w hw) ops a w Q ha hw hq
theorem mk_pair {α β : Type} [Mk α] [Mk β] (k : Nat) (a : α) (b : β) : Mk.mkd k (a, b) = (Mk.mkd k a, Mk.mkd (k + Mk.cnt a) b) := rfl
theorem mk_int (k : Nat) (a : Int) : Mk.mkd k a = (k : Int) := rfl
theorem mk_str (k : Nat) (a : ByteArray) : Mk.mkd k a = mtx k := rfl
theorem cnt_int (a : Int) : Mk.cnt a = 1 := rfl
theorem cnt_str (a : ByteArray) : Mk.cnt a = 1 := rfl
theorem cnt_pair {α β : Type} [Mk α] [Mk β] (a : α) (b : β) : Mk.cnt (a, b) = Mk.cnt a + Mk.cnt b := rfl
theorem mk_TL {τ : Type} [Mk τ] (k : Nat) (a : Option Addr) (c e : Nat) (x : List τ) (y : List Value) : Mk.mkd k (⟨a, c, e, x, y⟩ : TL τ) = ⟨a, c, e, mks k x, y⟩ := rfl
theorem cnt_TL {τ : Type} [Mk τ] (a : Option Addr) (c e : Nat) (x : List τ) (y : List Value) : Mk.cnt (⟨a, c, e, x, y⟩ : TL τ) = cnts x := rfl
/-- A call that takes one part and gives it back changed. -/
theorem L_call1 {f : Nat} {xs : List Operand} {ats : Array TypeId} {vs : List Value} {h : HP} {M2 : List HP} {R : Value → List HP → Prop}
    (hn : Nat.blt d Γ.n = true) (hf : IsFn Γ.P f) (hx : evs l xs = some vs) (hp : Pick h M M2) (hc : ∀ w, Holds Γ.w0 Γ.S0 M w → Spec Γ.P f vs.toArray w [h] R)
    (hk : ∀ v M', R v M' → L Γ rest ((d, v) :: l) (M' ++ M2) K) : L Γ ({ dst := some d, op := .call { callee := .value (.func f), args := xs.toArray, argTypes := ats }, type := ty, pos := pos, after := af, guard := none } :: rest) l M K :=
  L_call (M1 := [h]) (M2 := M2) (R := R) rfl rfl rfl (Nat.le_of_ble_eq_true hn) hf hx hp.perm (fun w hw => hc w (hw.perm hp.perm.symm)) hk
theorem cells_pair {α β δ ε : Type} [GT α δ] [GT β ε] (a : α) (b : β) : GT.cells (a, b) = GT.cells a ++ GT.cells b := rfl
theorem cells_mkTL {τ δ : Type} [GT τ δ] [Mk τ] (k : Nat) (L : TL τ) : GT.cells (Mk.mkd k L : TL τ) = GT.cells L := by
  show [Value.slice L.a (mks k L.els).length L.cap] = [Value.slice L.a L.els.length L.cap]
  rw [mks_length]
theorem pairFront {α β δ ε : Type} [GT α δ] [GT β ε] {a : α} {b : β} (p : Pick (treeH b) M M') (h : Holds w0 S0 (treeH a :: M) w) : Holds w0 S0 (treeH (a, b) :: M') w := pair_tree (h.perm (p.perm.cons _))
theorem mv_pair {α β : Type} [Mv α] [Mv β] (k : Nat) (a : α) (b : β) : Mv.mkd k (a, b) = (Mv.mkd k a, Mv.mkd (k + Mv.cnt a) b) := rfl
theorem mv_int (k : Nat) (a : Int) : Mv.mkd k a = a := rfl
theorem mv_bool (k : Nat) (a : Bool) : Mv.mkd k a = a := rfl
theorem mv_str (k : Nat) (a : ByteArray) : Mv.mkd k a = a := rfl
theorem mv_TL {τ : Type} [Mk τ] (k : Nat) (a : TL τ) : Mv.mkd k a = Mk.mkd k a := rfl
theorem mv_cnt_pair {α β : Type} [Mv α] [Mv β] (a : α) (b : β) : Mv.cnt (a, b) = Mv.cnt a + Mv.cnt b := rfl
theorem mv_cnt_int (a : Int) : Mv.cnt a = 0 := rfl
theorem mv_cnt_bool (a : Bool) : Mv.cnt a = 0 := rfl
theorem mv_cnt_str (a : ByteArray) : Mv.cnt a = 0 := rfl
theorem mv_cnt_TL {τ : Type} [Mk τ] (a : TL τ) : Mv.cnt a = Mk.cnt a := rfl
end Go.Proofs.SL
