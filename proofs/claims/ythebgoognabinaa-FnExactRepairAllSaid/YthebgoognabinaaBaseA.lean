/- From what a row says of an argument to a tree that can be read. -/
import Derived.Test.YthebgoognabinaaBase9
import Derived.ProofKit
import Derived.Deep.Slices
import Derived.OpenShut
import Derived.ChangeOld
namespace Go.Proofs.SL
open Go Go.Deep

/-- What holds of all data that a program can be given: numbers within their kind, lengths within what a length can be. -/
class Ok (δ : Type) where
  ok : δ → Prop
instance : Ok Int := ⟨inR⟩
instance : Ok Bool := ⟨fun _ => True⟩
instance : Ok UInt8 := ⟨fun _ => True⟩
instance : Ok ByteArray := ⟨fun s => s.size ≤ 9223372036854775807⟩
instance {δ ε : Type} [Ok δ] [Ok ε] : Ok (δ × ε) := ⟨fun p => Ok.ok p.1 ∧ Ok.ok p.2⟩
instance {δ : Type} [Ok δ] : Ok (List δ) := ⟨fun l => l.length ≤ 9223372036854775807 ∧ ∀ x, x ∈ l → Ok.ok x⟩
/-- What reads as data of type T is a tree. -/
def Opn (P : Program) (T : TypeId) (τ : Type) {δ : Type} [GT τ δ] [Ok δ] : Prop :=
  ∀ {H : Type} (enc : TypeId × Value → H) (w : World) (spare : Nat → Bool) (held : Bool) (fuel : Nat) (cs : List Value) (x : DataW H × List MemPlace), DataW.trod enc P w 0 spare held fuel T cs = some x →
    ∃ t : τ, cs = GT.cells t ∧ GT.rd w [] t ∧ Ok.ok (GT.dat t)

variable {P : Program} {T : TypeId}
theorem inR_of_wf {n : Int} (h : (Lit.int .i64 n).wf = true) : inR n := bounds_i64 h
theorem Opn.int (ht : P.underlying T = some (.int .i64)) : Opn P T Int := fun enc w spare held fuel cs x h => by
  obtain ⟨n, h1, _, h3⟩ := DataW.trod_int ht h
  exact ⟨n, h1, trivial, inR_of_wf h3⟩
theorem Opn.u8 (ht : P.underlying T = some (.int .u8)) : Opn P T UInt8 := fun enc w spare held fuel cs x h => by
  obtain ⟨n, h1, _, h3⟩ := DataW.trod_int ht h
  obtain ⟨h4, h5⟩ := bounds_u8 h3
  obtain ⟨k, rfl⟩ := Int.eq_ofNat_of_zero_le h4
  refine ⟨UInt8.ofNat k, ?_, trivial, trivial⟩
  rw [h1]
  show _ = [Value.int .u8 ((UInt8.ofNat k).toNat : Int)]
  have : (UInt8.ofNat k).toNat = k := by simp; omega
  rw [this]
theorem Opn.bool (ht : P.underlying T = some .bool) : Opn P T Bool := fun enc w spare held fuel cs x h => by
  obtain ⟨b, h1, _⟩ := DataW.trod_bool ht h
  exact ⟨b, h1, trivial, trivial⟩
theorem Opn.str (ht : P.underlying T = some .string) : Opn P T ByteArray := fun enc w spare held fuel cs x h => by
  obtain ⟨s, h1, _, h3⟩ := DataW.trod_string ht h
  refine ⟨s, h1, trivial, ?_⟩
  show s.size ≤ 9223372036854775807
  have : s.size ≤ maxLen := h3
  simp only [maxLen] at this; omega

theorem chooseL {α : Type} {p : Nat → α → Prop} : ∀ (len : Nat), (∀ i, i < len → ∃ t, p i t) → ∃ ts : List α, ts.length = len ∧ ∀ i t, ts[i]? = some t → p i t
  | 0, _ => ⟨[], rfl, fun i t h => by simp at h⟩
  | len + 1, h => by
    obtain ⟨ts, h1, h2⟩ := chooseL len (fun i hi => h i (by omega))
    obtain ⟨t, h3⟩ := h len (by omega)
    refine ⟨ts ++ [t], by simp [h1], fun i t' hi => ?_⟩
    by_cases hlt : i < ts.length
    · rw [List.getElem?_append_left hlt] at hi; exact h2 i t' hi
    · rw [List.getElem?_append_right (by omega)] at hi
      have : i = len := by
        have := (List.getElem?_eq_some_iff.1 hi).1
        simp at this; omega
      subst this
      rw [h1, Nat.sub_self] at hi
      simp at hi; subst hi
      exact h3

section
variable {τ δ : Type} [GT τ δ] [Ok δ]
theorem Opn.slice {e : TypeId} (ht : P.underlying T = some (.slice e)) (hc : P.cellsOf e = GT.sz τ) (he : Opn P e τ) : Opn P T (TL τ) := fun enc w spare held fuel cs x h => by
  rcases DataW.trod_slice ht h with ⟨h1, _⟩ | ⟨a, len, cap, elems, rest, n, _, h1, _, hb, hl, hm, hlen, hel, _, _⟩
  · exact ⟨⟨none, 0, 0, [], []⟩, h1, ⟨Nat.le_refl _, by simp [maxLen], fun x hx => (by cases hx), fun _ => rfl, fun a ha => by cases ha⟩, Nat.zero_le _, fun x hx => by cases hx⟩
  · rw [hc] at hel
    have key : ∀ i, i < len → ∃ t : τ, w.cells? 0 (a.add (i * GT.sz τ)) (GT.sz τ) = some (GT.cells t) ∧ GT.rd w [] t ∧ Ok.ok (GT.dat t) := by
      intro i hi
      have h2 := hel i hi
      have h3 : i < elems.length := by omega
      rw [List.getElem?_eq_getElem h3] at h2
      obtain ⟨cs', h4, h5⟩ := Option.bind_eq_some_iff.1 h2
      obtain ⟨t, h6, h7⟩ := he enc w spare held n cs' _ h5
      subst h6
      exact ⟨t, h4, h7⟩
    have key2 := chooseL (p := fun i (t : τ) => w.cells? 0 (a.add (i * GT.sz τ)) (GT.sz τ) = some (GT.cells t) ∧ GT.rd w [] t ∧ Ok.ok (GT.dat t)) len key
    obtain ⟨ts, hts, hts2⟩ := key2
    have hcell : ∀ i t k v, ts[i]? = some t → (GT.cells t)[k]? = some v → w.cell? ((a.add (i * GT.sz τ)).add k) = some v := by
      intro i t k v hi hk
      have h2 := (hts2 i t hi).1
      unfold World.cells? at h2
      split at h2
      · have hkl : k < GT.sz τ := by rw [← GT.len t]; exact (List.getElem?_eq_some_iff.1 hk).1
        have := mapM_some_get h2 k k (by simp [hkl])
        rw [this, hk]
      · cases h2
    refine ⟨⟨some a, cap, 0, ts, []⟩, ?_, ⟨by show ts.length ≤ cap; omega, hm, fun t ht => ?_, fun h => (by cases h), fun a' ha' => ?_⟩, ?_, fun x hx => ?_⟩
    · rw [h1]; show _ = [Value.slice (some a) ts.length cap]; rw [hts]
    · obtain ⟨i, hi⟩ := List.getElem?_of_mem ht
      exact (hts2 i t hi).2.1
    rotate_left
    · show (ts.map GT.dat).length ≤ 9223372036854775807
      rw [List.length_map]
      have : cap ≤ maxLen := hm
      simp only [maxLen] at this; omega
    · obtain ⟨t, ht, rfl⟩ := List.mem_map.1 hx
      obtain ⟨i, hi⟩ := List.getElem?_of_mem ht
      exact (hts2 i t hi).2.2
    · have ha2 : a = a' := by simpa using ha'
      subst ha2
      -- an element's first cell lies at a plain place
      have hspot : ts ≠ [] → a.spot = none := by
        intro hne
        have h0 : 0 < ts.length := List.length_pos_iff.2 hne
        have hpos := GT.pos (τ := τ)
        have h2 : ts[0]? = some ts[0] := List.getElem?_eq_getElem h0
        have hl0 : 0 < (GT.cells ts[0]).length := by rw [GT.len]; exact hpos
        have h3 : (GT.cells ts[0])[0]? = some ((GT.cells ts[0])[0]'hl0) := List.getElem?_eq_getElem hl0
        have h4 := hcell 0 _ 0 _ h2 h3
        simp only [Nat.zero_mul, Addr.add, if_true] at h4
        unfold World.cell? at h4
        split at h4
        · split at h4
          · cases h4
          · rename_i hs; simpa using hs
        · cases h4
      refine ⟨hspot, fun j v hv => ⟨?_, by simp⟩⟩
      have hpos := GT.pos (τ := τ)
      have hj : j < ts.length * GT.sz τ := by rw [← length_rowCells]; exact (List.getElem?_eq_some_iff.1 hv).1
      have h5 : j / GT.sz τ < ts.length := Nat.div_lt_of_lt_mul (by rw [Nat.mul_comm]; exact hj)
      have h6 : ts[j / GT.sz τ]? = some ts[j / GT.sz τ] := List.getElem?_eq_getElem h5
      have h7 := rowCells_get ts (j / GT.sz τ) (j % GT.sz τ) _ h6 (Nat.mod_lt _ hpos)
      rw [Nat.div_add_mod' j (GT.sz τ)] at h7
      rw [h7] at hv
      have h8 := hcell _ _ _ _ h6 hv
      have hs := hspot (fun e => by subst e; simp at h5)
      obtain ⟨b, o, s⟩ := a
      have hs' : s = none := hs
      subst hs'
      rw [addr_add, addr_add, Nat.add_assoc, Nat.div_add_mod' j (GT.sz τ)] at h8
      exact h8
end

/-- The fields of a struct, one behind the other. -/
def OpnFs (P : Program) (off : Nat) (fs : List Field) (τ : Type) {δ : Type} [GT τ δ] [Ok δ] : Prop :=
  ∀ {H : Type} (enc : TypeId × Value → H) (w : World) (spare : Nat → Bool) (held : Bool) (n : Nat) (cs : List Value),
    (∀ f, f ∈ fs → ∃ x, DataW.trod enc P w 0 spare held n f.type ((cs.drop f.offset).take (P.cellsOf f.type)) = some x) → ∃ t : τ, (cs.drop off).take (GT.sz τ) = GT.cells t ∧ GT.rd w [] t ∧ Ok.ok (GT.dat t)
section
variable {τ τ' δ δ' : Type} [GT τ δ] [GT τ' δ'] [Ok δ] [Ok δ']
theorem OpnFs.one {f : Field} {off : Nat} (ho : f.offset = off) (hc : P.cellsOf f.type = GT.sz τ) (h : Opn P f.type τ) : OpnFs P off [f] τ := fun enc w spare held n cs hh => by
  obtain ⟨x, hx⟩ := hh f (by simp)
  obtain ⟨t, h1, h2⟩ := h enc w spare held n _ _ hx
  rw [ho, hc] at h1
  exact ⟨t, h1, h2⟩
theorem OpnFs.cons {f : Field} {fs : List Field} {off : Nat} (ho : f.offset = off) (hc : P.cellsOf f.type = GT.sz τ) (h : Opn P f.type τ) (hr : OpnFs P (off + GT.sz τ) fs τ') : OpnFs P off (f :: fs) (τ × τ') := fun enc w spare held n cs hh => by
  obtain ⟨x, hx⟩ := hh f (by simp)
  obtain ⟨t, h1, h2, h2'⟩ := h enc w spare held n _ _ hx
  obtain ⟨t', h3, h4, h4'⟩ := hr enc w spare held n cs (fun g hg => hh g (List.mem_cons_of_mem _ hg))
  rw [ho, hc] at h1
  refine ⟨(t, t'), ?_, ⟨h2, h4⟩, h2', h4'⟩
  show (cs.drop off).take (GT.sz τ + GT.sz τ') = GT.cells t ++ GT.cells t'
  rw [List.take_add, h1, List.drop_drop, h3]
theorem Opn.struct {fs : List Field} (ht : P.underlying T = some (.struct fs.toArray)) (hc : P.cellsOf T = GT.sz τ) (h : OpnFs P 0 fs τ) : Opn P T τ := fun enc w spare held fuel cs x hx => by
  obtain ⟨xs, n, _, _, hl, hxl, hf⟩ := DataW.trod_struct ht hx
  obtain ⟨t, h1, h2⟩ := h enc w spare held n cs (fun f hfm => by
    obtain ⟨i, hi⟩ := List.getElem?_of_mem hfm
    have h3 := hf i f (by simpa using hi)
    have h4 : i < xs.length := by rw [hxl]; have := (List.getElem?_eq_some_iff.1 hi).1; simpa using this
    rw [List.getElem?_eq_getElem h4] at h3
    exact ⟨_, h3⟩)
  refine ⟨t, ?_, h2⟩
  rw [← h1, List.drop_zero, List.take_of_length_le (by rw [hl, hc]; exact Nat.le_refl _)]
end

/-- What a contract over an argument's data says, as the row's frame wants it. -/
theorem Holds.below {W W' : World} {M : List HP} (h : Holds W [] M W') : RowKit.Below W.heap.size W W' := ⟨h.os, h.tape, h.output, h.size, fun k hk => h.old k hk (by simp)⟩
theorem Spec.top {f : FuncId} {args : Array Value} {W : World} {R : Value → List HP → Prop} (h : Spec P f args W [] R) : Calls P f args W fun e W' => ∃ v M', e = .returned v ∧ R v M' ∧ RowKit.Below W.heap.size W W' :=
  (h ⟨rfl, rfl, rfl, Nat.le_refl _, fun _ _ _ => rfl, fun x hx => (by cases hx), by simp, fun k hk => by simp at hk⟩).mono fun e W' ⟨v, M', h1, h2, h3⟩ => ⟨v, M', h1, h2, h3.below⟩
end Go.Proofs.SL
