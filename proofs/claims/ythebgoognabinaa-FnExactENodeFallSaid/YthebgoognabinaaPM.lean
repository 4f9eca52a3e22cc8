/- Words, chunks, commands. -/
import Derived.Test.YthebgoognabinaaWM
import Derived.Test.YthebgoognabinaaP0
namespace Go.Proofs.SL
open Go
/-- Byte k of a text is a small letter. -/
def letter (s : ByteArray) (k : Nat) : Bool := match sidx s (k : Int) with
  | some n => !(decide (n < 97) || decide (122 < n))
  | none => false
def isWordB (s : ByteArray) : Bool := decide (1 ≤ (s.size : Int) ∧ (s.size : Int) ≤ 8) && (List.range s.size).all (letter s)
theorem word_loop {β : Type} {s : ByteArray} {no yes : Option β} {f : Int → Option (Int ⊕ β)} (hl : s.size ≤ 9223372036854775807)
    (hf : ∀ (k : Nat) (n : Int), k < s.size → sidx s (k : Int) = some n → f (k : Int) = if !(decide (n < 97) || decide (122 < n)) then some (.inl (IntKind.wrap .i64 ((k : Int) + 1))) else no.map .inr) (hn : f (s.size : Int) = yes.map .inr) :
    whileP f 0 = if (List.range s.size).all (letter s) then yes else no := by
  refine whileP_all (letter s) no yes (fun k hk => ?_) hn
  obtain ⟨n, hs, _, _⟩ := sidx_lt hk
  rw [hf k n hk hs, wrap_succ (by omega)]
  unfold letter
  rw [hs]
theorem s_l4Word_eq {s : ByteArray} (hl : s.size ≤ 9223372036854775807) : s_l4Word s = some (isWordB s) := by
  unfold s_l4Word isWordB
  rw [l1In_eq]
  cases h : decide (1 ≤ (s.size : Int) ∧ (s.size : Int) ≤ 8) with
  | false => rfl
  | true =>
    simp only [Option.bind_some, Bool.not_true, cond_false, Bool.true_and]
    rw [word_loop (no := some false) (yes := some true) hl]
    · cases (List.range s.size).all (letter s) <;> rfl
    · intro k n hk hs
      simp only [lt_dec hk, cond_true, hs, Option.bind_some]
      rw [show ∀ (g : Bool) (q : Int → Option (Int ⊕ Bool)), gb g (some n) q = if g then q n else q default from fun g q => by cases g <;> rfl]
      cases decide (n < 97) <;> cases decide (122 < n) <;> rfl
    · simp only [ge_dec]; rfl
theorem i_isWord_eq {s : ByteArray} (hl : s.size ≤ 9223372036854775807) : i_isWord s = some (isWordB s) := by
  unfold i_isWord isWordB
  simp only [within_eq, Option.bind_some]
  rw [word_loop (no := some false) (yes := some (decide (1 ≤ (s.size : Int) ∧ (s.size : Int) ≤ 8))) hl]
  · cases (List.range s.size).all (letter s) <;> simp
  · intro k n hk hs
    simp only [lt_dec hk, cond_true, hs, Option.bind_some]
    rw [show ∀ (g : Bool) (q : Int → Option (Int ⊕ Bool)), gb g (some n) q = if g then q n else q default from fun g q => by cases g <;> rfl]
    cases decide (n < 97) <;> cases decide (122 < n) <;> rfl
  · simp only [ge_dec]; rfl
def wordIfB (s : ByteArray) (is : Bool) : Bool := if is then isWordB s else decide (s = ByteArray.empty)
theorem s_l4May_eq {s : ByteArray} {b : Bool} (hl : s.size ≤ 9223372036854775807) : s_l4May s b = some (wordIfB s b) := by
  unfold s_l4May wordIfB
  rw [s_l4Word_eq hl]
  cases b <;> rfl
theorem i_wordIf_eq {s : ByteArray} {b : Bool} (hl : s.size ≤ 9223372036854775807) : i_wordIf s b = some (wordIfB s b) := by
  unfold i_wordIf wordIfB
  rw [i_isWord_eq hl]
  cases b <;> rfl
def areChunksB (l : List ByteArray) : Bool := l.all fun c => decide ((c.size : Int) = 8)
theorem i_areChunks_eq {l : List ByteArray} (hl : l.length ≤ 9223372036854775807) : i_areChunks l = some (areChunksB l) := by
  unfold i_areChunks areChunksB
  rw [each_loop (p := fun c => decide ((c.size : Int) = 8)) (no := some false) (yes := some true) hl]
  · cases l.all _ <;> rfl
  · intro k x hx
    simp only [lt_dec (List.getElem?_eq_some_iff.1 hx).1, cond_true, idx_nat, hx, Option.bind_some]
    cases decide ((x.size : Int) = 8) <;> rfl
  · simp only [ge_dec]; rfl
theorem s_l4Texts_eq {a b : List ByteArray} (hl : a.length ≤ 9223372036854775807) : s_l4Texts a b = some (decide (a = b)) := by
  unfold s_l4Texts
  by_cases h : a.length = b.length
  · rw [show decide ((a.length : Int) = (b.length : Int)) = true by simp; omega]
    simp only [Bool.not_true, cond_false]
    rw [whileP_all (n := a.length) (fun k => decide (a[k]? = b[k]?)) (some false) (some true)]
    · by_cases e : a = b
      · subst e; simp
      · rw [decide_eq_false e]
        have : (List.range a.length).all (fun k => decide (a[k]? = b[k]?)) = false := by
          rw [Bool.eq_false_iff]
          intro hh
          refine e (List.ext_getElem? fun i => ?_)
          by_cases hi : i < a.length
          · simpa using List.all_eq_true.1 hh i (List.mem_range.2 hi)
          · rw [List.getElem?_eq_none (by omega), List.getElem?_eq_none (by omega)]
        rw [this]; rfl
    · intro k hk
      have h1 : a[k]? = some a[k] := List.getElem?_eq_getElem hk
      have h2 : b[k]? = some (b[k]'(by omega)) := List.getElem?_eq_getElem (by omega)
      simp only [lt_dec hk, cond_true, idx_nat, h1, h2, Option.bind_some, wrap_succ (show k < 9223372036854775807 by omega), Option.some.injEq]
      cases decide (a[k] = b[k]'(by omega)) <;> rfl
    · simp only [ge_dec]; rfl
  · rw [show decide ((a.length : Int) = (b.length : Int)) = false by simp; omega, decide_eq_false (fun e => h (by rw [e]))]; rfl
theorem i_Equal_eq {a b : List ByteArray} (hl : a.length ≤ 9223372036854775807) : sl_Equal_stringstring a b = some (decide (a = b)) := s_l4Texts_eq hl
theorem s_SameCmd_eq {a b : D_Cmd} (ho : Ok.ok a) : s_SameCmd a b = some (pB (a = b)) := by
  obtain ⟨a1, a2, a3, a4, a5, a6, a7, a8⟩ := a
  obtain ⟨b1, b2, b3, b4, b5, b6, b7, b8⟩ := b
  have hl : a8.length ≤ 9223372036854775807 := ho.2.2.2.2.2.2.2.1
  unfold s_SameCmd
  rw [s_l4Texts_eq hl, gb_some (fun h => by rw [h]; simp)]
  congr 1
  rw [Bool.eq_iff_iff, pB_iff]
  simp [and_assoc]
theorem i_SameCmd_eq {a b : D_Cmd} (ho : Ok.ok a) : i_SameCmd a b = some (pB (a = b)) := s_SameCmd_eq ho
def noCmd : D_Cmd := (0, 0, 0, ByteArray.empty, ByteArray.empty, ByteArray.empty, 0, [])
noncomputable def cmdOkB (c : D_Cmd) : Bool :=
  if c.1 = 0 then pB (c = noCmd) else
    decide (1 ≤ c.1 ∧ c.1 ≤ 7) && decide (1 ≤ c.2.1 ∧ c.2.1 ≤ 9) && decide (1 ≤ c.2.2.1 ∧ c.2.2.1 ≤ 1000) && wordIfB c.2.2.2.1 (!decide (c.1 = 7)) && wordIfB c.2.2.2.2.1 (decide (c.1 = 3) || decide (c.1 = 4)) && wordIfB c.2.2.2.2.2.1 (decide (c.1 = 4)) &&
    (decide (c.2.2.2.2.2.2.1 = 0) || (decide (c.1 = 5) && decide (0 ≤ c.2.2.2.2.2.2.1 ∧ c.2.2.2.2.2.2.1 ≤ 9))) && (if c.1 = 3 then decide (1 ≤ (c.2.2.2.2.2.2.2.length : Int) ∧ (c.2.2.2.2.2.2.2.length : Int) ≤ 4) && areChunksB c.2.2.2.2.2.2.2 else decide ((c.2.2.2.2.2.2.2.length : Int) = 0))
set_option maxHeartbeats 1000000 in
theorem i_CmdOk_eq {c : D_Cmd} (ho : Ok.ok c) : i_CmdOk c = some (cmdOkB c) := by
  have hl : c.2.2.2.2.2.2.2.length ≤ 9223372036854775807 := ho.2.2.2.2.2.2.2.1
  have h4 : c.2.2.2.1.size ≤ 9223372036854775807 := ho.2.2.2.1
  have h5 : c.2.2.2.2.1.size ≤ 9223372036854775807 := ho.2.2.2.2.1
  have h6 : c.2.2.2.2.2.1.size ≤ 9223372036854775807 := ho.2.2.2.2.2.1
  unfold i_CmdOk cmdOkB
  simp only [i_SameCmd_eq ho, within_eq, i_wordIf_eq h4, i_wordIf_eq h5, i_wordIf_eq h6, i_areChunks_eq hl, Option.bind_some, gbs]
  by_cases h0 : c.1 = 0
  · rw [if_pos h0, decide_eq_true h0]; rfl
  · rw [if_neg h0, decide_eq_false h0]
    generalize wordIfB c.2.2.2.1 _ = W1
    generalize wordIfB c.2.2.2.2.1 _ = W2
    generalize wordIfB c.2.2.2.2.2.1 _ = W3
    generalize areChunksB c.2.2.2.2.2.2.2 = W4
    by_cases h5 : c.1 = 5
    · simp only [h5]
      cases decide (1 ≤ c.2.1 ∧ c.2.1 ≤ 9) <;> cases decide (1 ≤ c.2.2.1 ∧ c.2.2.1 ≤ 1000) <;> cases W1 <;> cases W2 <;> cases W3 <;> cases decide (c.2.2.2.2.2.2.1 = 0) <;> cases decide (0 ≤ c.2.2.2.2.2.2.1 ∧ c.2.2.2.2.2.2.1 ≤ 9) <;> simp
    · by_cases h3 : c.1 = 3
      · simp only [h3]
        cases decide (1 ≤ c.2.1 ∧ c.2.1 ≤ 9) <;> cases decide (1 ≤ c.2.2.1 ∧ c.2.2.1 ≤ 1000) <;> cases W1 <;> cases W2 <;> cases W3 <;> cases decide (c.2.2.2.2.2.2.1 = 0) <;> cases decide (1 ≤ (c.2.2.2.2.2.2.2.length : Int) ∧ (c.2.2.2.2.2.2.2.length : Int) ≤ 4) <;> simp
      · rw [decide_eq_false h5, decide_eq_false h3, if_neg h3]
        cases decide (1 ≤ c.1 ∧ c.1 ≤ 7) <;> cases decide (1 ≤ c.2.1 ∧ c.2.1 ≤ 9) <;> cases decide (1 ≤ c.2.2.1 ∧ c.2.2.1 ≤ 1000) <;> cases W1 <;> cases W2 <;> cases W3 <;> cases decide (c.2.2.2.2.2.2.1 = 0) <;> simp
set_option maxHeartbeats 1000000 in
theorem s_CmdOk_eq {c : D_Cmd} (ho : Ok.ok c) : s_CmdOk c = some (cmdOkB c) := by
  have hl : c.2.2.2.2.2.2.2.length ≤ 9223372036854775807 := ho.2.2.2.2.2.2.2.1
  have h4 : c.2.2.2.1.size ≤ 9223372036854775807 := ho.2.2.2.1
  have h5 : c.2.2.2.2.1.size ≤ 9223372036854775807 := ho.2.2.2.2.1
  have h6 : c.2.2.2.2.2.1.size ≤ 9223372036854775807 := ho.2.2.2.2.2.1
  unfold s_CmdOk cmdOkB
  simp only [s_SameCmd_eq ho, l1In_eq, s_l4May_eq h4, s_l4May_eq h5, s_l4May_eq h6, Option.bind_some, gbs]
  rw [each_loop (p := fun c => decide ((c.size : Int) = 8)) (no := some false) (yes := some true) hl]
  rotate_left
  · intro k x hx
    simp only [lt_dec (List.getElem?_eq_some_iff.1 hx).1, cond_true, idx_nat, hx, Option.bind_some]
    cases decide ((x.size : Int) = 8) <;> rfl
  · simp only [ge_dec]; rfl
  by_cases h0 : c.1 = 0
  · rw [if_pos h0, decide_eq_true h0, decide_eq_true (show 0 ≤ c.1 ∧ c.1 ≤ 7 by omega)]; rfl
  · rw [if_neg h0, decide_eq_false h0]
    have e7 : decide (0 ≤ c.1 ∧ c.1 ≤ 7) = decide (1 ≤ c.1 ∧ c.1 ≤ 7) := by rw [Bool.eq_iff_iff]; simp; omega
    rw [e7]
    show _ = some (_ && (if c.1 = 3 then _ && c.2.2.2.2.2.2.2.all (fun c => decide ((c.size : Int) = 8)) else _))
    generalize wordIfB c.2.2.2.1 _ = W1
    generalize wordIfB c.2.2.2.2.1 _ = W2
    generalize wordIfB c.2.2.2.2.2.1 _ = W3
    generalize c.2.2.2.2.2.2.2.all _ = W4
    by_cases h5 : c.1 = 5
    · simp only [h5]
      cases decide (1 ≤ c.2.1 ∧ c.2.1 ≤ 9) <;> cases decide (1 ≤ c.2.2.1 ∧ c.2.2.1 ≤ 1000) <;> cases W1 <;> cases W2 <;> cases W3 <;> cases decide (c.2.2.2.2.2.2.1 = 0) <;> cases decide (0 ≤ c.2.2.2.2.2.2.1 ∧ c.2.2.2.2.2.2.1 ≤ 9) <;> simp
    · by_cases h3 : c.1 = 3
      · simp only [h3]
        cases decide (1 ≤ c.2.1 ∧ c.2.1 ≤ 9) <;> cases decide (1 ≤ c.2.2.1 ∧ c.2.2.1 ≤ 1000) <;> cases W1 <;> cases W2 <;> cases W3 <;> cases decide (c.2.2.2.2.2.2.1 = 0) <;> cases decide (1 ≤ (c.2.2.2.2.2.2.2.length : Int) ∧ (c.2.2.2.2.2.2.2.length : Int) ≤ 4) <;> cases W4 <;> simp
      · rw [decide_eq_false h5, decide_eq_false h3, if_neg h3]
        cases decide (1 ≤ c.1 ∧ c.1 ≤ 7) <;> cases decide (1 ≤ c.2.1 ∧ c.2.1 ≤ 9) <;> cases decide (1 ≤ c.2.2.1 ∧ c.2.2.1 ≤ 1000) <;> cases W1 <;> cases W2 <;> cases W3 <;> cases decide (c.2.2.2.2.2.2.1 = 0) <;> simp
end Go.Proofs.SL
