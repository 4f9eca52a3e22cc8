/- Words and chunks. -/
import Derived.Test.YtndhmnoehapdhaaDoorWC
import Derived.Test.YtndhmnoehapdhaaDoorP0
namespace Go.Proofs.SL
open Go
/-- Byte k of a text is a small letter. -/
def letter (s : ByteArray) (k : Nat) : Bool := match sidx s (k : Int) with
  | some n => !(decide (n < 97) || decide (122 < n))
  | none => false
def isWordB (s : ByteArray) : Bool := decide (1 ≤ (s.size : Int) ∧ (s.size : Int) ≤ 8) && (List.range s.size).all (letter s)
theorem word_loop {β : Type} {s : ByteArray} {no yes : Option β} {f : Int → Option (Int ⊕ β)} (hl : s.size ≤ 9223372036854775807)
    (hf : ∀ (k : Nat) (n : Int), k < s.size → sidx s (k : Int) = some n → f (k : Int) = if !(decide (n < 97) || decide (122 < n)) then some (.inl (IntKind.wrap .i64 ((k : Int) + 1))) else no.map .inr) (hn : f (s.size : Int) = yes.map .inr) :
    whileP f 0 = if (List.range s.size).all (letter s) then yes else no := by
  refine whileP_all (letter s) no yes (fun k hk => ?_) hn
  obtain ⟨n, hs, _, _⟩ := sidx_lt hk
  rw [hf k n hk hs, wrap_succ (by omega)]
  unfold letter
  rw [hs]
theorem s_l4Word_eq {s : ByteArray} (hl : s.size ≤ 9223372036854775807) : s_l4Word s = some (isWordB s) := by
  unfold s_l4Word isWordB
  rw [l1In_eq]
  cases h : decide (1 ≤ (s.size : Int) ∧ (s.size : Int) ≤ 8) with
  | false => rfl
  | true =>
    simp only [Option.bind_some, Bool.not_true, cond_false, Bool.true_and]
    rw [word_loop (no := some false) (yes := some true) hl]
    · cases (List.range s.size).all (letter s) <;> rfl
    · intro k n hk hs
      simp only [lt_dec hk, cond_true, hs, Option.bind_some]
      rw [show ∀ (g : Bool) (q : Int → Option (Int ⊕ Bool)), gb g (some n) q = if g then q n else q default from fun g q => by cases g <;> rfl]
      cases decide (n < 97) <;> cases decide (122 < n) <;> rfl
    · simp only [ge_dec]; rfl
theorem i_isWord_eq {s : ByteArray} (hl : s.size ≤ 9223372036854775807) : i_isWord s = some (isWordB s) := by
  unfold i_isWord isWordB
  simp only [within_eq, Option.bind_some]
  rw [word_loop (no := some false) (yes := some (decide (1 ≤ (s.size : Int) ∧ (s.size : Int) ≤ 8))) hl]
  · cases (List.range s.size).all (letter s) <;> simp
  · intro k n hk hs
    simp only [lt_dec hk, cond_true, hs, Option.bind_some]
    rw [show ∀ (g : Bool) (q : Int → Option (Int ⊕ Bool)), gb g (some n) q = if g then q n else q default from fun g q => by cases g <;> rfl]
    cases decide (n < 97) <;> cases decide (122 < n) <;> rfl
  · simp only [ge_dec]; rfl
def areChunksB (l : List ByteArray) : Bool := l.all fun c => decide ((c.size : Int) = 8)
theorem i_areChunks_eq {l : List ByteArray} (hl : l.length ≤ 9223372036854775807) : i_areChunks l = some (areChunksB l) := by
  unfold i_areChunks areChunksB
  rw [each_loop (p := fun c => decide ((c.size : Int) = 8)) (no := some false) (yes := some true) hl]
  · cases l.all _ <;> rfl
  · intro k x hx
    simp only [lt_dec (List.getElem?_eq_some_iff.1 hx).1, cond_true, idx_nat, hx, Option.bind_some]
    cases decide ((x.size : Int) = 8) <;> rfl
  · simp only [ge_dec]; rfl
end Go.Proofs.SL
