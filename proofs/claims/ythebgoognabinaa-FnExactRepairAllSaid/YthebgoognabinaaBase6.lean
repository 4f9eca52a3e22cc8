/- The base of the walks, sixth part: slices that the walk itself owns. -/
import Derived.Test.YthebgoognabinaaBase5
namespace Go.Proofs.SL
open Go

variable {Γ : Cx} {l : Envl} {M : List HP} {Q : Post} {K : Kont} {w0 w : World} {S0 : List Nat}
variable {rest : List Oper} {d : Nat} {ty : TypeId} {pos : String} {af : Array Edge}
section
variable {τ δ : Type} [GT τ δ]

/-- A tree that owns no block of its own. -/
structure Flat (t : τ) : Prop where
  fp : GT.fp t = []
  ow : ∀ w, GT.ow w t

theorem flat_int {n : Int} (_ : True) : Flat n := ⟨rfl, fun _ => trivial⟩
theorem flat_bool (b : Bool) : Flat b := ⟨rfl, fun _ => trivial⟩
theorem flat_u8 (b : UInt8) : Flat b := ⟨rfl, fun _ => trivial⟩
theorem flat_str {s : ByteArray} (_ : True) : Flat s := ⟨rfl, fun _ => trivial⟩
theorem flat_pair {α β δ ε : Type} [GT α δ] [GT β ε] {a : α} {b : β} (ha : Flat a) (hb : Flat b) : Flat (a, b) := ⟨by show GT.fp a ++ GT.fp b = []; rw [ha.fp, hb.fp]; rfl, fun w => ⟨ha.ow w, hb.ow w⟩⟩
def TL.nil (τ : Type) (e : TypeId) : TL τ := ⟨none, 0, e, [], []⟩
theorem flat_nil (e : TypeId) : Flat (TL.nil τ e) := ⟨rfl, fun _ => ⟨Nat.le_refl _, by simp [TL.nil, maxLen], fun x hx => by simp [TL.nil] at hx, fun _ => ⟨rfl, rfl⟩, fun a ha => by simp [TL.nil] at ha⟩⟩

/-- What the elements own, each by itself. -/
def elsH (xs : List τ) : List HP := xs.map treeH
theorem fps_elsH (xs : List τ) : fps (elsH xs) = xs.flatMap GT.fp := by
  induction xs with
  | nil => rfl
  | cons x xs ih => simp only [elsH, List.map_cons, fps_cons] at ih ⊢; rw [ih]; rfl
theorem fps_flat (xs : List τ) (h : ∀ x, x ∈ xs → Flat x) : xs.flatMap GT.fp = [] := List.flatMap_eq_nil_iff.2 fun x hx => (h x hx).fp

/-- A row that is ours: its block alone, not what its elements own. -/
def rowH (L : TL τ) : HP := ⟨(match L.a with | none => [] | some a => [a.block]), fun w => L.els.length ≤ L.cap ∧ L.cap ≤ maxLen ∧ (L.a = none → L.els = [] ∧ L.cap = 0) ∧
    ∀ a, L.a = some a → a.spot = none ∧ a.off = 0 ∧ w.heap[a.block]? = some (.cells (rowCells L.els ++ L.tail).toArray L.e (0, 0)) ∧ L.els.length * GT.sz τ + L.tail.length = L.cap * GT.sz τ,
  fun w w' hh h => ⟨h.1, h.2.1, h.2.2.1, fun a ha => by
    obtain ⟨h1, h2, h3, h4⟩ := h.2.2.2 a ha
    exact ⟨h1, h2, by rw [hh a.block (by rw [ha]; simp)]; exact h3, h4⟩⟩⟩

theorem tree_split {L : TL τ} (h : Holds w0 S0 (treeH L :: M) w) : Holds w0 S0 (rowH L :: (elsH L.els ++ M)) w := by
  have ht : GT.ow w L := h.prs _ (List.mem_cons_self ..)
  have e : fps (rowH L :: (elsH L.els ++ M)) = fps (treeH L :: M) := by
    simp only [fps_cons, fps_append, fps_elsH]
    show _ = (((match L.a with | none => [] | some a => [a.block]) ++ L.els.flatMap GT.fp) ++ fps M)
    rw [List.append_assoc]; rfl
  refine ⟨h.os, h.tape, h.output, h.size, h.old, fun x hx => ?_, by rw [e]; exact h.nodup, fun k hk => h.rng k (by rw [← e]; exact hk)⟩
  rcases List.mem_cons.1 hx with rfl | hx
  · exact ⟨ht.1, ht.2.1, ht.2.2.2.1, ht.2.2.2.2⟩
  · rcases List.mem_append.1 hx with hx | hx
    · obtain ⟨y, hy, rfl⟩ := List.mem_map.1 hx
      exact ht.2.2.1 y hy
    · exact h.prs _ (List.mem_cons_of_mem _ hx)
theorem tree_join {L : TL τ} (h : Holds w0 S0 (rowH L :: (elsH L.els ++ M)) w) : Holds w0 S0 (treeH L :: M) w := by
  have hr := h.prs (rowH L) (List.mem_cons_self ..)
  have e : fps (treeH L :: M) = fps (rowH L :: (elsH L.els ++ M)) := by
    simp only [fps_cons, fps_append, fps_elsH]
    show (((match L.a with | none => [] | some a => [a.block]) ++ L.els.flatMap GT.fp) ++ fps M) = _
    rw [List.append_assoc]; rfl
  refine ⟨h.os, h.tape, h.output, h.size, h.old, fun x hx => ?_, by rw [e]; exact h.nodup, fun k hk => h.rng k (by rw [← e]; exact hk)⟩
  rcases List.mem_cons.1 hx with rfl | hx
  · exact ⟨hr.1, hr.2.1, fun y hy => h.prs (treeH y) (List.mem_cons_of_mem _ (List.mem_append_left _ (List.mem_map.2 ⟨y, hy, rfl⟩))), hr.2.2.1, hr.2.2.2⟩
  · exact h.prs _ (List.mem_cons_of_mem _ (List.mem_append_right _ hx))

/-- What is flat comes and goes freely. -/
theorem Holds.addFlat {t : τ} (h : Holds w0 S0 M w) (hf : Flat t) : Holds w0 S0 (treeH t :: M) w := by
  have e : fps (treeH t :: M) = fps M := by rw [fps_cons]; show GT.fp t ++ fps M = _; rw [hf.fp]; rfl
  refine ⟨h.os, h.tape, h.output, h.size, h.old, fun x hx => ?_, by rw [e]; exact h.nodup, fun k hk => h.rng k (by rw [← e]; exact hk)⟩
  rcases List.mem_cons.1 hx with rfl | hx
  · exact hf.ow w
  · exact h.prs _ hx
theorem Holds.addFlats {xs : List τ} (h : Holds w0 S0 M w) (hf : ∀ x, x ∈ xs → Flat x) : Holds w0 S0 (elsH xs ++ M) w := by
  induction xs with
  | nil => exact h
  | cons x xs ih => exact (ih fun y hy => hf y (List.mem_cons_of_mem _ hy)).addFlat (hf x (List.mem_cons_self ..))
theorem tree_pair {α β δ ε : Type} [GT α δ] [GT β ε] {a : α} {b : β} (h : Holds w0 S0 (treeH (a, b) :: M) w) : Holds w0 S0 (treeH a :: treeH b :: M) w := by
  have ht : GT.ow w (a, b) := h.prs _ (List.mem_cons_self ..)
  have e : fps (treeH a :: treeH b :: M) = fps (treeH (a, b) :: M) := by
    simp only [fps_cons]; show GT.fp a ++ (GT.fp b ++ fps M) = (GT.fp a ++ GT.fp b) ++ fps M; rw [List.append_assoc]
  refine ⟨h.os, h.tape, h.output, h.size, h.old, fun x hx => ?_, by rw [e]; exact h.nodup, fun k hk => h.rng k (by rw [← e]; exact hk)⟩
  rcases List.mem_cons.1 hx with rfl | hx
  · exact ht.1
  rcases List.mem_cons.1 hx with rfl | hx
  · exact ht.2
  · exact h.prs _ (List.mem_cons_of_mem _ hx)
theorem pair_tree {α β δ ε : Type} [GT α δ] [GT β ε] {a : α} {b : β} (h : Holds w0 S0 (treeH a :: treeH b :: M) w) : Holds w0 S0 (treeH (a, b) :: M) w := by
  have ha : GT.ow w a := h.prs _ (List.mem_cons_self ..)
  have hb : GT.ow w b := h.prs _ (List.mem_cons_of_mem _ (List.mem_cons_self ..))
  have e : fps (treeH (a, b) :: M) = fps (treeH a :: treeH b :: M) := by
    simp only [fps_cons]; show (GT.fp a ++ GT.fp b) ++ fps M = GT.fp a ++ (GT.fp b ++ fps M); rw [List.append_assoc]
  refine ⟨h.os, h.tape, h.output, h.size, h.old, fun x hx => ?_, by rw [e]; exact h.nodup, fun k hk => h.rng k (by rw [← e]; exact hk)⟩
  rcases List.mem_cons.1 hx with rfl | hx
  · exact ⟨ha, hb⟩
  · exact h.prs _ (List.mem_cons_of_mem _ (List.mem_cons_of_mem _ hx))

/-- The parts, said in another way. -/
theorem W_conv {c : Code} {M' : List HP} (h : ∀ w, Holds Γ.w0 Γ.S0 M w → Holds Γ.w0 Γ.S0 M' w) (hk : W Γ c l M' Q) : W Γ c l M Q := fun a w ha hw => hk a w ha (h w hw)
theorem L_conv {M' : List HP} (h : ∀ w, Holds Γ.w0 Γ.S0 M w → Holds Γ.w0 Γ.S0 M' w) (hk : L Γ rest l M' K) : L Γ rest l M K := fun ops a w Q ha hw hq => hk ops a w Q ha (h w hw) hq

/-! make -/
theorem made_row (n sz : Nat) (z : Array Value) (t0 : τ) (hz : z.toList = GT.cells t0) (hsz : GT.sz τ = sz) :
    ((Array.range (n * sz)).map (z[· % z.size]!)).toList = rowCells (List.replicate n t0) := by
  have hzs : z.size = sz := by rw [← Array.length_toList, hz, GT.len, hsz]
  have hpos : 0 < sz := hsz ▸ GT.pos (τ := τ)
  refine List.ext_getElem? fun i => ?_
  by_cases hi : i < n * sz
  · have h1 : i / sz < n := Nat.div_lt_of_lt_mul (by rw [Nat.mul_comm]; exact hi)
    have h2 : i % sz < sz := Nat.mod_lt _ hpos
    have h3 := rowCells_get (List.replicate n t0) (i / sz) (i % sz) t0 (by rw [List.getElem?_replicate, if_pos h1]) (by rw [hsz]; exact h2)
    rw [hsz, Nat.div_add_mod' i sz] at h3
    rw [h3, ← hz]
    simp only [Array.toList_map, Array.toList_range, List.getElem?_map, List.getElem?_range hi, Option.map_some]
    rw [hzs]
    have h4 : i % sz < z.size := by rw [hzs]; exact h2
    rw [getElem!_pos z (i % sz) h4]
    simp [h4]
  · rw [List.getElem?_eq_none (by simpa using hi), List.getElem?_eq_none (by rw [length_rowCells, hsz, List.length_replicate]; omega)]

theorem L_make {x y : Operand} {T e sz by_ : Nat} {z : List Value} {k k' : IntKind} {n : Nat} (t0 : τ) (hn : Nat.blt d Γ.n = true) (hx : ev l x = some (.int k n)) (hy : ev l y = some (.int k' n)) (ht : elOf Γ.P T = some (e, sz, by_, z))
    (hz : GT.cells t0 = z) (hsz : GT.sz τ = sz) (hf : Flat t0) (hb : n * by_ ≤ 281474976710656) (hm : n ≤ maxLen)
    (hk : ∀ g, L Γ rest ((d, .slice (some ⟨g, 0, none⟩) n n) :: l) (treeH (⟨some ⟨g, 0, none⟩, n, e, List.replicate n t0, []⟩ : TL τ) :: M) K) :
    L Γ ({ dst := some d, op := .makeSlice T x y, type := ty, pos, after := af, guard := none } :: rest) l M K := by
  unfold elOf at ht
  split at ht <;> (try cases ht)
  rename_i e' he
  split at ht <;> (try cases ht)
  rename_i i' hi'
  split at ht <;> cases ht
  rename_i z' hz'
  have hrow := made_row n i'.size z'.cells t0 hz.symm hsz
  have hrun : ∀ w, (Instr.makeSlice T (.int k n) (.int k' n)).run Γ.P w = .ok (.slice (some ⟨w.heap.size, 0, none⟩) n n) (w.alloc (.cells (rowCells (List.replicate n t0)).toArray e (0, 0))) := by
    intro w
    have hm' : (n : Int) ≤ 9223372036854775807 := by
      have h := hm
      simp only [maxLen] at h
      omega
    have hb' : (i'.bytes : Int) * (n : Int) ≤ 281474976710656 := by
      have h : ((i'.bytes * n : Nat) : Int) ≤ 281474976710656 := by rw [Nat.mul_comm]; omega
      rwa [Int.natCast_mul] at h
    have hr := run_make (P := Γ.P) w T e i' z' he hi' hz' k k' n n (by omega) (Int.le_refl _) hb' hm'
    simp only [Int.toNat_natCast] at hr
    rw [hr]
    have : madeCells z'.cells (n * i'.size) = (rowCells (List.replicate n t0)).toArray := by
      apply Array.toList_inj.1; unfold madeCells; rw [hrow]
    rw [this]
  refine L_stepR (fun v M' => ∃ g, v = .slice (some ⟨g, 0, none⟩) n n ∧ M' = treeH (⟨some ⟨g, 0, none⟩, n, e, List.replicate n t0, []⟩ : TL τ) :: M) rfl rfl (Nat.le_of_ble_eq_true hn)
    (fun a w ha hw => ⟨_, _, w.alloc (.cells (rowCells (List.replicate n t0)).toArray e (0, 0)), ⟨w.heap.size, rfl, rfl⟩, ?_, ?_⟩) (fun v M' ⟨g, h1, h2⟩ => by subst h1; subst h2; exact hk g)
  · simp [execOp, ha.eval hx, ha.eval hy, hrun]
  · have h1 := hw.new (b := w.heap.size) (cs := rowCells (List.replicate n t0)) (T := e) rfl
    have hp := h1.prs (blk w.heap.size (rowCells (List.replicate n t0)) e) (List.mem_cons_self ..)
    have hff : ∀ x, x ∈ List.replicate n t0 → Flat x := fun x hx => by rw [List.eq_of_mem_replicate hx]; exact hf
    refine ⟨h1.os, h1.tape, h1.output, h1.size, h1.old, fun x hx => ?_, ?_, fun k hk => h1.rng k ?_⟩
    · rcases List.mem_cons.1 hx with rfl | hx
      · refine ⟨by simp, hm, fun y hy => (hff y hy).ow _, fun h => (by cases h), fun a ha => ?_⟩
        cases ha
        exact ⟨rfl, rfl, by rw [List.append_nil]; exact hp, by simp⟩
      · exact h1.prs x (List.mem_cons_of_mem _ hx)
    · have h2 := h1.nodup
      rw [fps_cons] at h2 ⊢
      show (([w.heap.size] ++ (List.replicate n t0).flatMap GT.fp) ++ fps M).Nodup
      rw [fps_flat _ hff]; exact h2
    · rw [fps_cons] at hk ⊢
      have hk' : k ∈ ([w.heap.size] ++ (List.replicate n t0).flatMap GT.fp) ++ fps M := hk
      rw [fps_flat _ hff] at hk'; exact hk'
end
end Go.Proofs.SL
