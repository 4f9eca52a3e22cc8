/- The base of the walks: an empty row; bounds of the marks by the sizes. -/
import Derived.Test.YthebgoognabinaaBaseD
namespace Go.Proofs.SL
open Go

variable {Γ : Cx} {l : Envl} {M M' M1 M2 : List HP} {Q : Post} {K : Kont} {w0 w : World} {S0 : List Nat} {P : Program}
variable {rest : List Oper} {d : Nat} {ty : TypeId} {pos : String} {af : Array Edge}

theorem run_buildSlice0 {T e sz by_ : Nat} {z : List Value} (ht : elOf P T = some (e, sz, by_, z)) (w : World) :
    (Instr.buildSlice T 0 #[]).run P w = .ok (.slice (some ⟨w.heap.size, 0, none⟩) 0 0) (w.alloc (.cells (#[] : Array Value) e (0, 0))) := by
  unfold elOf at ht
  split at ht <;> (try cases ht)
  rename_i e' het
  split at ht <;> (try cases ht)
  rename_i i' hi'
  split at ht <;> cases ht
  simp [Instr.buildSlice, underlying, het, sizeOf, typeInfo, hi', newRow, Instr.fill]
  rw [show (Array.map (fun _ : Nat => (default : Value)) (Array.range 0)) = #[] from Array.eq_empty_of_size_eq_zero (by simp)]
/-- An empty row that is not nil. -/
theorem L_buildSlice0 (τ : Type) {δ : Type} [GT τ δ] {T e sz by_ : Nat} {z : List Value} (hn : Nat.blt d Γ.n = true) (ht : elOf Γ.P T = some (e, sz, by_, z))
    (hk : ∀ b, L Γ rest ((d, .slice (some ⟨b, 0, none⟩) 0 0) :: l) (treeH (⟨some ⟨b, 0, none⟩, 0, e, [], []⟩ : TL τ) :: M) K) :
    L Γ ({ dst := some d, op := .buildSlice T 0 #[], type := ty, pos, after := af, guard := none } :: rest) l M K :=
  L_stepR (fun v M' => ∃ b, v = .slice (some ⟨b, 0, none⟩) 0 0 ∧ M' = treeH (⟨some ⟨b, 0, none⟩, 0, e, [], []⟩ : TL τ) :: M) rfl rfl (Nat.le_of_ble_eq_true hn)
    (fun a w ha hw => by
      refine ⟨_, _, w.alloc (.cells ([] : List Value).toArray e (0, 0)), ⟨w.heap.size, rfl, rfl⟩, ?_, ?_⟩
      · have := run_buildSlice0 ht w
        simp only [execOp]
        simp [this]
      · have h2 := hw.new (cs := []) (T := e) (b := w.heap.size) rfl
        refine h2.reFp (List.Perm.of_eq rfl) fun x hx => ?_
        rcases List.mem_cons.1 hx with rfl | hx
        · have hp := h2.prs (blk w.heap.size [] e) (List.mem_cons_self ..)
          refine ⟨Nat.le_refl _, by simp [maxLen], fun x hx => (by cases hx), fun ha => (by cases ha), fun a ha => ?_⟩
          cases ha
          exact ⟨rfl, rfl, hp, by simp⟩
        · exact h2.prs x (List.mem_cons_of_mem _ hx))
    (fun v M' ⟨b, h1, h2⟩ => by subst h1; subst h2; exact hk b)

/-- The marks' number by the size; and the size is the data's. -/
class Bd (τ : Type) {δ : outParam Type} [GT τ δ] [Bk τ] where
  bd : δ → Nat
  eq : ∀ x : τ, Bk.bulk x = bd (GT.dat x)
class Bm (τ : Type) [Bk τ] [Mk τ] where
  A : Nat
  le : ∀ x : τ, Mk.cnt x ≤ A * (1 + Bk.bulk x)
instance : Bd Int := ⟨fun _ => 0, fun _ => rfl⟩
instance : Bd Bool := ⟨fun _ => 0, fun _ => rfl⟩
instance : Bd ByteArray := ⟨fun s => s.size, fun _ => rfl⟩
instance {α β δ ε : Type} [GT α δ] [GT β ε] [Bk α] [Bk β] [Bd α] [Bd β] : Bd (α × β) := ⟨fun p => Bd.bd (τ := α) p.1 + Bd.bd (τ := β) p.2, fun x => by
  obtain ⟨a, b⟩ := x
  simp only [bulk_pair, dat_pair, Bd.eq]⟩
def bds (τ : Type) {δ : Type} [GT τ δ] [Bk τ] [Bd τ] : List δ → Nat
  | [] => 0
  | x :: xs => Bd.bd (τ := τ) x + bds τ xs
theorem bulks_eq {τ δ : Type} [GT τ δ] [Bk τ] [Bd τ] (xs : List τ) : bulks xs = bds τ (xs.map GT.dat) := by
  induction xs with
  | nil => rfl
  | cons x xs ih => simp only [List.map_cons, bulks, bds, Bd.eq, ih]
instance {τ δ : Type} [GT τ δ] [Bk τ] [Bd τ] : Bd (TL τ) := ⟨fun xs => xs.length + bds τ xs, fun L => by
  obtain ⟨_, _, _, xs, _⟩ := L
  simp only [bulk_TL, dat_TL, bulks_eq, List.length_map]⟩
theorem bulk_dat {τ δ : Type} [GT τ δ] [Bk τ] [Bd τ] {x y : τ} (h : GT.dat x = GT.dat y) : Bk.bulk x = Bk.bulk y := by rw [Bd.eq, Bd.eq, h]
instance : Bm Int := ⟨1, fun x => by show 1 ≤ 1 * (1 + 0); omega⟩
instance : Bm ByteArray := ⟨1, fun x => by show 1 ≤ 1 * (1 + x.size); omega⟩
instance {α β : Type} [Bk α] [Bk β] [Mk α] [Mk β] [Bm α] [Bm β] : Bm (α × β) := ⟨Bm.A α + Bm.A β, fun x => by
  obtain ⟨a, b⟩ := x
  have h1 := Bm.le a; have h2 := Bm.le b
  simp only [cnt_pair, bulk_pair]
  have h3 : Bm.A α * (1 + Bk.bulk a) ≤ Bm.A α * (1 + (Bk.bulk a + Bk.bulk b)) := Nat.mul_le_mul_left _ (by omega)
  have h4 : Bm.A β * (1 + Bk.bulk b) ≤ Bm.A β * (1 + (Bk.bulk a + Bk.bulk b)) := Nat.mul_le_mul_left _ (by omega)
  rw [Nat.add_mul]; omega⟩
theorem cnts_le {τ : Type} [Bk τ] [Mk τ] [Bm τ] (xs : List τ) : cnts xs ≤ Bm.A τ * (xs.length + bulks xs) := by
  induction xs with
  | nil => simp [cnts]
  | cons x xs ih =>
    have h := Bm.le x
    simp only [cnts, List.length_cons, bulks]
    rw [show xs.length + 1 + (Bk.bulk x + bulks xs) = (1 + Bk.bulk x) + (xs.length + bulks xs) by omega, Nat.mul_add]
    omega
theorem cntTL_le {τ : Type} [Bk τ] [Mk τ] [Bm τ] (L : TL τ) : Mk.cnt L ≤ Bm.A τ * Bk.bulk L := cnts_le L.els
instance {τ : Type} [Bk τ] [Mk τ] [Bm τ] : Bm (TL τ) := ⟨Bm.A τ, fun L => Nat.le_trans (cntTL_le L) (Nat.mul_le_mul_left _ (by omega))⟩
/-- The same of what is handed over. -/
class Bv (τ : Type) [Bk τ] [Mv τ] where
  A : Nat
  le : ∀ x : τ, Mv.cnt x ≤ A * Bk.bulk x
instance : Bv Int := ⟨0, fun x => by show 0 ≤ 0 * 0; omega⟩
instance : Bv Bool := ⟨0, fun x => by show 0 ≤ 0 * 0; omega⟩
instance : Bv ByteArray := ⟨0, fun x => by show 0 ≤ 0 * x.size; omega⟩
instance {τ : Type} [Bk τ] [Mk τ] [Bm τ] : Bv (TL τ) := ⟨Bm.A τ, cntTL_le⟩
instance {α β : Type} [Bk α] [Bk β] [Mv α] [Mv β] [Bv α] [Bv β] : Bv (α × β) := ⟨Bv.A α + Bv.A β, fun x => by
  obtain ⟨a, b⟩ := x
  have h1 := Bv.le a; have h2 := Bv.le b
  simp only [mv_cnt_pair, bulk_pair]
  have h3 : Bv.A α * Bk.bulk a ≤ Bv.A α * (Bk.bulk a + Bk.bulk b) := Nat.mul_le_mul_left _ (by omega)
  have h4 : Bv.A β * Bk.bulk b ≤ Bv.A β * (Bk.bulk a + Bk.bulk b) := Nat.mul_le_mul_left _ (by omega)
  rw [Nat.add_mul]; omega⟩
theorem hdr_mk {τ : Type} [Mk τ] (k : Nat) (L : TL τ) : (Mk.mkd k L : TL τ).hdr = L.hdr := by
  show Value.slice L.a (mks k L.els).length L.cap = Value.slice L.a L.els.length L.cap
  rw [mks_length]
class Cv (τ : Type) {δ : outParam Type} [GT τ δ] [Mv τ] : Prop where
  eq : ∀ (k : Nat) (x : τ), GT.cells (Mv.mkd k x) = GT.cells x
instance : Cv Int := ⟨fun _ _ => rfl⟩
instance : Cv Bool := ⟨fun _ _ => rfl⟩
instance : Cv ByteArray := ⟨fun _ _ => rfl⟩
instance {τ δ : Type} [GT τ δ] [Mk τ] : Cv (TL τ) := ⟨fun k L => cells_mkTL k L⟩
instance {α β δ ε : Type} [GT α δ] [GT β ε] [Mv α] [Mv β] [Cv α] [Cv β] : Cv (α × β) := ⟨fun k x => by
  obtain ⟨a, b⟩ := x
  rw [mv_pair, cells_pair, cells_pair, Cv.eq, Cv.eq]⟩
/-- Far within the kinds. -/
theorem cntv_le {τ δ : Type} [GT τ δ] [Bk τ] [Mv τ] [Bv τ] (x : τ) (hA : Nat.ble (Bv.A τ) 1000 = true) (hb : Bk.bulk x ≤ 1000000000) : Mv.cnt x ≤ 1000000000000 :=
  Nat.le_trans (Bv.le x) (Nat.le_trans (Nat.mul_le_mul (Nat.le_of_ble_eq_true hA) hb) (by omega))
theorem cntk_le {τ δ : Type} [GT τ δ] [Bk τ] [Mk τ] [Bm τ] (x : TL τ) (hA : Nat.ble (Bm.A τ) 1000 = true) (hb : Bk.bulk x ≤ 1000000000) : Mk.cnt x ≤ 1000000000000 :=
  Nat.le_trans (cntTL_le x) (Nat.le_trans (Nat.mul_le_mul (Nat.le_of_ble_eq_true hA) hb) (by omega))
theorem pairFlat {α β δ ε : Type} [GT α δ] [GT β ε] {a : α} {b : β} (hf : Flat a) (h : Holds w0 S0 (treeH b :: M) w) : Holds w0 S0 (treeH (a, b) :: M) w := tree_snd hf h
theorem tree_pair2 {α β γ δ ε ζ : Type} [GT α δ] [GT β ε] [GT γ ζ] {a : α} {b : β} {c : γ} (h : Holds w0 S0 (treeH (a, b, c) :: M) w) : Holds w0 S0 (treeH a :: treeH b :: treeH c :: M) w :=
  (tree_pair (h := (tree_pair h).perm (List.Perm.swap _ _ _))).perm ((List.perm_append_comm (l₁ := [treeH b, treeH c]) (l₂ := [treeH a])).append_right M)
theorem map_dat_int (xs : List Int) : xs.map GT.dat = xs := by
  have : (GT.dat : Int → Int) = id := rfl
  rw [this, List.map_id]
end Go.Proofs.SL
