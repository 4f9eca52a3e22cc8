/- The library's sort, by the kit's contract, over a slice that one owns. -/
import Derived.Test.YthebgoognabinaaBaseU
import Derived.Sort.Grow
import Derived.Sort.EncStr
import Derived.Lib.SlicesCompact
namespace Go.Proofs.SL
open Go
section
variable {τ δ κ : Type} [GT τ δ]
theorem rowCells_key {key : τ → κ} {enc : κ → Value} (hc : ∀ x, GT.cells x = [enc (key x)]) (xs : List τ) : rowCells xs = xs.map fun x => enc (key x) := by
  induction xs with
  | nil => rfl
  | cons x xs ih => rw [rowCells_cons, hc, ih]; rfl
variable [Inhabited κ]
theorem put_cells (enc : κ → Value) (ds : List κ) (a b : List Value) (h : a.length = ds.length) : Sort.putCells enc 0 ds.toArray (a ++ b).toArray = (ds.map enc ++ b).toArray := by
  apply Array.ext_getElem?
  intro j
  simp only [Sort.putCells, Array.getElem?_mapIdx, List.getElem?_toArray, List.size_toArray, Nat.zero_add, Nat.zero_le, true_and, Nat.sub_zero]
  rcases Nat.lt_or_ge j ds.length with hj | hj
  · rw [List.getElem?_append_left (by omega), List.getElem?_append_left (by simpa using hj), List.getElem?_eq_getElem (show j < a.length by omega)]
    simp [hj, List.getElem?_map]
  · rw [List.getElem?_append_right (by omega), List.getElem?_append_right (by simpa using hj), List.length_map, h]
    cases b[j - ds.length]? with
    | none => rfl
    | some v => simp [Nat.not_lt.2 hj]
theorem put_holds {w w' : World} {key : τ → κ} {enc : κ → Value} (hc : ∀ x : τ, GT.cells x = [enc (key x)]) (hfp : ∀ x : τ, GT.fp x = []) (how : ∀ (w : World) (x : τ), GT.ow w x) {b cap n : Nat} {e : TypeId} {els ys : List τ} {tail tail' : List Value} {D : List κ} {os : Array Obj}
    (hh : Holds w (fps [treeH (⟨some ⟨b, 0, none⟩, cap, e, els, tail⟩ : TL τ)]) [treeH (⟨some ⟨b, 0, none⟩, cap, e, els, tail⟩ : TL τ)] w) (hD : D.length = els.length) (hrow : D.map enc ++ tail = rowCells ys ++ tail') (hy : ys.length ≤ cap) (hl : ys.length * GT.sz τ + tail'.length = cap * GT.sz τ)
    (hw : w' = Sort.grow (Sort.putRow enc (Sort.ahead w n) b 0 D.toArray) os) :
    Holds w (fps [treeH (⟨some ⟨b, 0, none⟩, cap, e, els, tail⟩ : TL τ)]) [treeH (⟨some ⟨b, 0, none⟩, cap, e, ys, tail'⟩ : TL τ)] w' := by
  have ht : GT.ow w (⟨some ⟨b, 0, none⟩, cap, e, els, tail⟩ : TL τ) := hh.prs _ (List.mem_cons_self ..)
  obtain ⟨h1, h2, h3, h4, h5⟩ := ht
  dsimp only at h1 h2 h3 h4
  obtain ⟨_, _, hb, _⟩ := h5 _ rfl
  dsimp only at hb
  have hbl : b < w.heap.size := (Array.getElem?_eq_some_iff.1 hb).1
  have hw' : w'.heap[b]? = some (.cells (rowCells ys ++ tail').toArray e (0, 0)) := by
    subst hw
    rw [Sort.heap_grow_old _ _ (by simpa [Sort.putRow, Sort.mapBlock, Sort.ahead] using hbl), ← hrow]
    have hp := put_cells enc D (rowCells els) tail (by rw [rowCells_key hc]; simp [hD])
    simp only [Sort.putRow, Sort.mapBlock, Sort.ahead, Array.getElem?_modify, hb, Sort.onCells, if_true, Option.map_some]
    rw [hp]
  have hfps : ∀ xs : List τ, xs.flatMap GT.fp = [] := fun xs => List.flatMap_eq_nil_iff.2 fun x _ => hfp x
  have efp : fps [treeH (⟨some ⟨b, 0, none⟩, cap, e, ys, tail'⟩ : TL τ)] = fps [treeH (⟨some ⟨b, 0, none⟩, cap, e, els, tail⟩ : TL τ)] := by
    simp only [fps_cons]
    show ([b] ++ ys.flatMap GT.fp) ++ fps [] = ([b] ++ els.flatMap GT.fp) ++ fps []
    rw [hfps, hfps]
  refine ⟨by subst hw; rfl, by subst hw; rfl, by subst hw; rfl, by subst hw; simp [Sort.putRow, Sort.mapBlock, Sort.ahead], fun k hk hn => ?_, fun x hx => ?_, by rw [efp]; exact hh.nodup, fun k hk => ?_⟩
  · have hkb : b ≠ k := by
      intro e2; subst e2
      exact hn (by simp only [fps_cons]; show b ∈ ([b] ++ els.flatMap GT.fp) ++ fps []; simp)
    subst hw
    rw [Sort.heap_grow_old _ _ (by simpa [Sort.putRow, Sort.mapBlock, Sort.ahead] using hk)]
    simp [Sort.putRow, Sort.mapBlock, Sort.ahead, Array.getElem?_modify, hkb]
  · obtain rfl := List.mem_singleton.1 hx
    exact ⟨hy, h2, fun x _ => how _ x, fun h => (by cases h), fun a ha => by cases ha; exact ⟨rfl, rfl, hw', hl⟩⟩
  · rw [efp] at hk
    refine ⟨(hh.rng k hk).1, Nat.lt_of_lt_of_le (hh.rng k hk).2 ?_⟩
    subst hw; simp [Sort.putRow, Sort.mapBlock, Sort.ahead]
/-- A slice that one owns is nil, or a row from its block's beginning. -/
theorem own_cases {w : World} {a0 : TL τ} (hh : Holds w (fps [treeH a0]) [treeH a0] w) : (∃ e tail, a0 = ⟨none, 0, e, [], tail⟩) ∨ ∃ b cap e els tail, a0 = ⟨some ⟨b, 0, none⟩, cap, e, els, tail⟩ ∧ els.length ≤ cap ∧ els.length * GT.sz τ + tail.length = cap * GT.sz τ ∧ w.heap[b]? = some (.cells (rowCells els ++ tail).toArray e (0, 0)) ∧ b < w.heap.size := by
  have ht : GT.ow w a0 := hh.prs _ (List.mem_cons_self ..)
  obtain ⟨h1, h2, h3, h4, h5⟩ := ht
  obtain ⟨a, cap, e, els, tail⟩ := a0
  dsimp only at h1 h2 h3 h4 h5
  cases a with
  | none =>
    obtain ⟨rfl, rfl⟩ := h4 rfl
    exact .inl ⟨e, tail, rfl⟩
  | some ad =>
    obtain ⟨hs, ho, hb, hl⟩ := h5 ad rfl
    obtain ⟨b, o, sp⟩ := ad
    dsimp only at hs ho hb
    subst hs; subst ho
    exact .inr ⟨b, cap, e, els, tail, rfl, h1, hl, hb, (Array.getElem?_eq_some_iff.1 hb).1⟩
theorem sort_holds {w : World} {key : τ → κ} {enc : κ → Value} (hc : ∀ x : τ, GT.cells x = [enc (key x)]) {b : Nat} {e : TypeId} {els : List τ} {tail : List Value} (hb : w.heap[b]? = some (.cells (rowCells els ++ tail).toArray e (0, 0))) : Sort.Holds enc w b 0 (els.map key).toArray := by
  intro j hj
  have hj' : j < els.length := by simpa using hj
  refine ⟨?_, by simp [World.frozen?, hb]⟩
  simp only [World.cell?, hb, Nat.zero_add]
  simp only [Option.isSome_none, Bool.false_eq_true, if_false]
  rw [List.getElem?_toArray, List.getElem?_append_left (by rw [rowCells_key hc]; simpa using hj'), rowCells_key hc]
  simp [hj']
theorem Spec.sort {P : Program} {f : FuncId} {w : World} {a0 : TL τ} {key : τ → κ} {enc : κ → Value} (hc : ∀ x : τ, GT.cells x = [enc (key x)]) (hfp : ∀ x : τ, GT.fp x = []) (how : ∀ (w : World) (x : τ), GT.ow w x) (ys : List τ) (hlen : ys.length = a0.els.length)
    (h : ∀ (b cap : Nat) (w : World), Sort.Holds enc w b 0 (a0.els.map key).toArray → b < w.heap.size → (a0.els.map key).length < 4611686018427387904 → Calls P f #[.slice (some ⟨b, 0, none⟩) (a0.els.map key).length cap] w fun e w' => e = .returned (.tuple #[]) ∧ ∃ n os, w' = Sort.grow (Sort.putRow enc (Sort.ahead w n) b 0 (ys.map key).toArray) os)
    (h0 : ∀ (p : Option Addr) (cap : Nat) (w : World), Calls P f #[.slice p 0 cap] w fun e w' => e = .returned (.tuple #[]) ∧ w' = w) (hsz : a0.els.length ≤ 4294967296) :
    Spec P f #[a0.hdr] w [treeH a0] (fun v M => ∃ y0 : TL τ, v = .tuple #[] ∧ GT.dat y0 = ys.map GT.dat ∧ M = [treeH y0] ∧ y0.hdr = a0.hdr) := by
  intro hh
  rcases own_cases hh with ⟨e, tail, rfl⟩ | ⟨b, cap, e, els, tail, rfl, h1, hl, hb, hbl⟩
  · have hy : ys = [] := List.length_eq_zero_iff.1 hlen
    subst hy
    refine (h0 none 0 w).mono fun e' w' ⟨he, hw⟩ => ?_
    subst hw
    exact ⟨_, _, he, ⟨⟨none, 0, e, [], tail⟩, rfl, rfl, rfl, rfl⟩, hh⟩
  · dsimp only at hlen h hsz
    have hlm : (els.map key).length = els.length := List.length_map ..
    have := h b cap w (sort_holds hc hb) hbl (by omega)
    rw [hlm] at this
    refine this.mono fun e' w' ⟨he, n, os, hw⟩ => ⟨_, _, he, ⟨⟨some ⟨b, 0, none⟩, cap, e, ys, tail⟩, rfl, rfl, rfl, ?_⟩, put_holds hc hfp how hh (by rw [List.length_map, hlen]) (by rw [rowCells_key hc, List.map_map]; rfl) (by rw [hlen]; exact h1) (by rw [hlen]; exact hl) hw⟩
    show Value.slice _ ys.length _ = Value.slice _ els.length _
    rw [hlen]
end
/-- The sort of numbers, on data. -/
def sortIP (l : List Int) : Option (List Int) := if l.length ≤ 4294967296 then some (l.mergeSort fun x y => decide (x ≤ y)) else none
/-- The sort of strings, on data. -/
def sortSP (l : List ByteArray) : Option (List ByteArray) := if l.length ≤ 4294967296 then some (((l.map fun s => s.data.toList).mergeSort fun x y => decide (x ≤ y)).map fun l => ⟨l.toArray⟩) else none
theorem map_id' {α : Type} (l : List α) : l.map (fun x => x) = l := by simp
theorem Spec.sortI {P : Program} {f : FuncId} (w : World) (a0 : TL Int) (r : List Int) (hp : sortIP (GT.dat a0) = some r)
    (h : ∀ (b off cap : Nat) (zs : List Int) (w : World), Sort.Holds (Value.int .i64) w b off zs.toArray → b < w.heap.size → zs.length < 4611686018427387904 → Calls P f #[.slice (some ⟨b, off, none⟩) zs.length cap] w fun e w' => e = .returned (.tuple #[]) ∧ ∃ n os, w' = Sort.grow (Sort.putRow (Value.int .i64) (Sort.ahead w n) b off (zs.mergeSort fun x y => decide (x ≤ y)).toArray) os)
    (h0 : ∀ (p : Option Addr) (cap : Nat) (w : World), Calls P f #[.slice p 0 cap] w fun e w' => e = .returned (.tuple #[]) ∧ w' = w) :
    Spec P f #[a0.hdr] w [treeH a0] (fun v M => ∃ y0 : TL Int, v = .tuple #[] ∧ GT.dat y0 = r ∧ M = [treeH y0] ∧ y0.hdr = a0.hdr) := by
  unfold sortIP at hp
  have hd : GT.dat a0 = a0.els := by show a0.els.map (fun x => x) = _; simp
  rw [hd] at hp
  split at hp
  · rename_i hl
    obtain rfl := Option.some.inj hp
    have := Spec.sort (P := P) (f := f) (w := w) (a0 := a0) (key := fun x : Int => x) (enc := Value.int .i64) (fun _ => rfl) (fun _ => rfl) (fun _ _ => trivial) (a0.els.mergeSort fun x y => decide (x ≤ y)) (by simp) (by
      intro b cap w h1 h2 h3
      rw [map_id'] at h1 h3 ⊢
      rw [map_id']
      exact h b 0 cap a0.els w h1 h2 h3) h0 hl
    refine this.mono fun v M ⟨y0, h1, h2, h3⟩ => ⟨y0, h1, ?_, h3⟩
    rw [h2]
    exact map_id' _
  · cases hp
theorem cells_str' (x : ByteArray) : GT.cells x = [encStr x.data.toList] := by
  show [Value.string x] = [Value.string ⟨x.data.toList.toArray⟩]
  rw [show (⟨x.data.toList.toArray⟩ : ByteArray) = x by cases x; simp]
theorem Spec.sortS {P : Program} {f : FuncId} (w : World) (a0 : TL ByteArray) (r : List ByteArray) (hp : sortSP (GT.dat a0) = some r)
    (h : ∀ (b off cap : Nat) (ss : List (List UInt8)) (w : World), Sort.Holds encStr w b off ss.toArray → b < w.heap.size → ss.length < 4611686018427387904 → Calls P f #[.slice (some ⟨b, off, none⟩) ss.length cap] w fun e w' => e = .returned (.tuple #[]) ∧ ∃ n os, w' = Sort.grow (Sort.putRow encStr (Sort.ahead w n) b off (ss.mergeSort fun x y => decide (x ≤ y)).toArray) os)
    (h0 : ∀ (p : Option Addr) (cap : Nat) (w : World), Calls P f #[.slice p 0 cap] w fun e w' => e = .returned (.tuple #[]) ∧ w' = w) :
    Spec P f #[a0.hdr] w [treeH a0] (fun v M => ∃ y0 : TL ByteArray, v = .tuple #[] ∧ GT.dat y0 = r ∧ M = [treeH y0] ∧ y0.hdr = a0.hdr) := by
  unfold sortSP at hp
  have hd : GT.dat a0 = a0.els := by show a0.els.map (fun x => x) = _; simp
  rw [hd] at hp
  split at hp
  · rename_i hl
    obtain rfl := Option.some.inj hp
    have hs : ∀ (b cap : Nat) (w : World), Sort.Holds encStr w b 0 (a0.els.map fun s => s.data.toList).toArray → b < w.heap.size → (a0.els.map fun s => s.data.toList).length < 4611686018427387904 → Calls P f #[.slice (some ⟨b, 0, none⟩) (a0.els.map fun s => s.data.toList).length cap] w fun e w' => e = .returned (.tuple #[]) ∧ ∃ n os, w' = Sort.grow (Sort.putRow encStr (Sort.ahead w n) b 0 ((a0.els.map fun s => s.data.toList).mergeSort fun x y => decide (x ≤ y)).toArray) os := fun b cap w => h b 0 cap _ w
    have hlm : ((a0.els.map fun s => s.data.toList).mergeSort fun x y => decide (x ≤ y)).length = a0.els.length := by rw [List.length_mergeSort, List.length_map]
    generalize ((a0.els.map fun s => s.data.toList).mergeSort fun x y => decide (x ≤ y)) = ys at hs hlm ⊢
    have := Spec.sort (P := P) (f := f) (w := w) (a0 := a0) (key := fun x : ByteArray => x.data.toList) (enc := encStr) cells_str' (fun _ => rfl) (fun _ _ => trivial) (ys.map fun l => (⟨l.toArray⟩ : ByteArray)) (by rw [List.length_map, hlm]) (by
      rw [List.map_map, show ((fun x : ByteArray => x.data.toList) ∘ fun l : List UInt8 => (⟨l.toArray⟩ : ByteArray)) = id from funext fun l => rfl, List.map_id]
      exact hs) h0 hl
    refine this.mono fun v M ⟨y0, h1, h2, h3⟩ => ⟨y0, h1, ?_, h3⟩
    rw [h2]
    exact map_id' _
  · cases hp
theorem compact_le {α : Type} [Inhabited α] [DecidableEq α] (zs : List α) : (Lib.compact zs).length ≤ zs.length := by
  unfold Lib.compact Lib.compactUpTo
  rw [List.length_map]
  exact Nat.le_trans (List.length_filter_le _ _) (by simp)
/-- Compact at strings, on data. -/
def compactSP (l : List ByteArray) : Option (List ByteArray) := if l.length ≤ 4294967296 then some ((Lib.compact (l.map fun s => s.data.toList)).map fun l => ⟨l.toArray⟩) else none
theorem Spec.compactS {P : Program} {f : FuncId} (w : World) (a0 : TL ByteArray) (r : List ByteArray) (hp : compactSP (GT.dat a0) = some r)
    (h : ∀ (b off cap : Nat) (zs : List (List UInt8)) (w : World), Sort.Holds encStr w b off zs.toArray → zs.length ≤ 9223372036854775807 → zs.length ≤ cap → Calls P f #[.slice (some ⟨b, off, none⟩) zs.length cap] w fun e w' => e = .returned (.slice (some ⟨b, off, none⟩) (Lib.compact zs).length cap) ∧ ∃ q, w' = Sort.putRow encStr (Sort.ahead w q) b off (Lib.compact zs ++ List.replicate (zs.length - (Lib.compact zs).length) []).toArray)
    (h0 : ∀ (p : Option Addr) (cap : Nat) (w : World), Calls P f #[.slice p 0 cap] w fun e w' => e = .returned (.slice p 0 cap) ∧ w' = w) :
    Spec P f #[a0.hdr] w [treeH a0] (fun v M => ∃ x0 : TL ByteArray, v = x0.hdr ∧ GT.dat x0 = r ∧ M = [treeH x0]) := by
  intro hh
  unfold compactSP at hp
  have hd : GT.dat a0 = a0.els := map_id' _
  rw [hd] at hp
  split at hp
  rotate_left
  · cases hp
  rename_i hlen
  obtain rfl := Option.some.inj hp
  rcases own_cases hh with ⟨e, tail, rfl⟩ | ⟨b, cap, e, els, tail, rfl, h1, hl, hb, hbl⟩
  · refine (h0 none 0 w).mono fun e' w' ⟨he, hw⟩ => ?_
    subst hw
    exact ⟨_, _, he, ⟨⟨none, 0, e, [], tail⟩, rfl, rfl, rfl⟩, hh⟩
  · dsimp only at hlen
    have hc : ∀ x : ByteArray, GT.cells x = [encStr x.data.toList] := cells_str'
    have hlm : (els.map fun s => s.data.toList).length = els.length := List.length_map ..
    have hcl := compact_le (els.map fun s => s.data.toList)
    have := h b 0 cap (els.map fun s => s.data.toList) w (sort_holds hc hb) (by omega) (by omega)
    rw [hlm] at this hcl
    refine this.mono fun e' w' ⟨he, q, hw⟩ => ⟨_, _, he, ⟨⟨some ⟨b, 0, none⟩, cap, e, (Lib.compact (els.map fun s => s.data.toList)).map fun l => (⟨l.toArray⟩ : ByteArray), List.replicate (els.length - (Lib.compact (els.map fun s => s.data.toList)).length) (Value.string ByteArray.empty) ++ tail⟩, ?_, map_id' _, rfl⟩,
      put_holds (n := q) (os := #[]) (D := Lib.compact (els.map fun s => s.data.toList) ++ List.replicate (els.length - (Lib.compact (els.map fun s => s.data.toList)).length) []) hc (fun _ => rfl) (fun _ _ => trivial) hh ?_ ?_ ?_ ?_ (by rw [Sort.grow_empty]; exact hw)⟩
    · show Value.slice _ _ _ = Value.slice _ (List.length (List.map _ _)) _
      rw [List.length_map]
    · simp; omega
    · rw [rowCells_key hc, List.map_append, List.map_replicate, List.map_map, List.append_assoc]; rfl
    · simp; omega
    · simp only [List.length_map, List.length_append, List.length_replicate]
      have : GT.sz ByteArray = 1 := rfl
      rw [this] at hl ⊢
      omega
end Go.Proofs.SL
