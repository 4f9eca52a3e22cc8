/- Uploads: deleting by a test, setting one; UpLost, UpAck. -/
import Derived.Test.YthebgoognabinaaPL
namespace Go.Proofs.SL
open Go
theorem take_succ' {α : Type} {l : List α} {k : Nat} {x : α} (h : l[k]? = some x) : l.take (k + 1) = l.take k ++ [x] := by
  rw [List.take_add_one, h]; rfl
theorem deleteFunc_eq {l : List Int} {a : Int → Option Bool} (p : Int → Bool) (ha : ∀ x, a x = some (p x)) (h : l.length ≤ 4294967296) : sl_DeleteFunc_intint l a = some (l.filter fun x => !p x) := by
  have hi : sl_IndexFunc_intint l a = some (firstI p l) := by
    unfold sl_IndexFunc_intint
    rw [whileP_find (l := l) p some (by omega)]
    · intro k x hx
      simp only [lt_dec (List.getElem?_eq_some_iff.1 hx).1, cond_true, idx_nat, hx, Option.bind_some, ha]
      cases p x <;> rfl
    · simp only [ge_dec]; rfl
  unfold sl_DeleteFunc_intint
  rw [hi, Option.bind_some]
  cases hf : l.findIdx? p with
  | none =>
    rw [firstI_none hf]
    have hn := List.findIdx?_eq_none_iff.1 hf
    show some l = _
    rw [List.filter_eq_self.2 (fun x hx => by rw [hn x hx]; rfl)]
  | some i =>
    obtain ⟨hil, hpi, hlt⟩ := List.findIdx?_eq_some_iff_getElem.1 hf
    rw [firstI_some hf]
    simp only [show decide ((i : Int) = -1) = false by simp, cond_false, wrap_succ (show i < 9223372036854775807 by omega)]
    obtain ⟨r, hr, hq⟩ := whileP_rule (α := List Int) (σ := List Int × Int × Int)
      (f := fun s3 => cond (decide (s3.2.2 < (s3.1.length : Int))) (Option.bind (idx s3.1 s3.2.2) (fun y5 => Option.bind (a y5) (fun y6 => cond (!y6) (Option.bind (idx s3.1 s3.2.1) (fun y8 => Option.bind (some (s3.1.set (s3.2.1.toNat) y5)) (fun y9 => some (.inl ((y9, IntKind.wrap .i64 (s3.2.1 + 1), IntKind.wrap .i64 (s3.2.2 + 1))))))) (some (.inl ((s3.1, s3.2.1, IntKind.wrap .i64 (s3.2.2 + 1)))))))) (Option.map .inr (Option.bind (slcP s3.1 s3.2.1 (s3.1.length : Int)) (fun y12 => Option.bind (chkP (decide (s3.2.1 < (s3.1.length : Int)))) (fun y14 => Option.bind (some (clrD s3.1 s3.2.1 (s3.1.length : Int) 0)) (fun y15 => Option.bind (slcP y15 0 s3.2.1) (fun y17 => some y17)))))))
      (fun s => ∃ m j : Nat, s = (s.1, (m : Int), (j : Int)) ∧ s.1.length = l.length ∧ m < j ∧ j ≤ l.length ∧ s.1.take m = (l.take j).filter (fun x => !p x) ∧ s.1.drop j = l.drop j)
      (fun s => l.length - s.2.2.toNat) (fun r => r = l.filter fun x => !p x) (by
        rintro ⟨s, _, _⟩ ⟨m, j, hs, hlen, hmj, hjl, ht, hd⟩
        dsimp only at hs hlen ht hd
        obtain ⟨rfl, rfl⟩ : _ ∧ _ := ⟨congrArg (fun z => z.2.1) hs, congrArg (fun z => z.2.2) hs⟩
        clear hs
        dsimp only
        rcases Nat.lt_or_ge j l.length with hj | hj
        · have hx : s[j]? = some l[j] := by
            have := congrArg (fun q => q[0]?) hd
            simpa [List.getElem?_drop, List.getElem?_eq_getElem hj] using this
          have hlx : l[j]? = some l[j] := List.getElem?_eq_getElem hj
          generalize l[j] = x at hx hlx
          have hd' : s.drop (j + 1) = l.drop (j + 1) := by
            have := congrArg List.tail hd
            simpa [List.tail_drop] using this
          left
          simp only [hlen, lt_dec hj, cond_true, idx_nat, hx, ha, Option.bind_some, wrap_succ (show j < 9223372036854775807 by omega)]
          cases hpx : p x with
          | true =>
            refine ⟨_, rfl, ⟨m, j + 1, rfl, hlen, by omega, by omega, ?_, hd'⟩, by dsimp only; simp only [Int.toNat_natCast]; omega⟩
            dsimp only
            rw [take_succ' hlx, List.filter_append, ht]; simp [hpx]
          | false =>
            have hm : s[m]? = some s[m] := List.getElem?_eq_getElem (by omega)
            simp only [Bool.not_false, cond_true, hm, Option.bind_some, Int.toNat_natCast, wrap_succ (show m < 9223372036854775807 by omega)]
            refine ⟨_, rfl, ⟨m + 1, j + 1, rfl, by simp [hlen], by omega, by omega, ?_, ?_⟩, by dsimp only; simp only [Int.toNat_natCast]; omega⟩
            · dsimp only
              rw [take_succ' hlx, List.filter_append, ← ht, take_succ' (x := x) (by rw [List.getElem?_set_self (by omega)]), List.take_set_of_le (Nat.le_refl _)]
              simp [hpx]
            · dsimp only
              rw [List.drop_set_of_lt (by omega), hd']
        · right
          have hj' : j = l.length := by omega
          subst hj'
          have hml : m < s.length := by omega
          have e1 : slcP s (m : Int) (l.length : Int) = some ((s.drop m).take (l.length - m)) := by
            unfold slcP; rw [if_pos ⟨by omega, by omega, by omega⟩]; simp
          simp only [hlen, ge_dec, cond_false, e1, Option.bind_some]
          have e2 : chkP (decide ((m : Int) < (l.length : Int))) = some () := by unfold chkP; rw [if_pos (by simp; omega)]
          have e3 : slcP (clrD s (m : Int) (l.length : Int) 0) 0 (m : Int) = some (s.take m) := by
            have hc : (clrD s (m : Int) (l.length : Int) 0).length = l.length := by
              unfold clrD; simp; omega
            unfold slcP; rw [if_pos ⟨by omega, by omega, by omega⟩]
            unfold clrD
            simp [List.take_append_of_le_length, hlen, Nat.min_eq_left (Nat.le_of_lt hmj)]
          rw [e2, Option.bind_some, e3]
          exact ⟨_, rfl, by rw [ht, List.take_length]⟩)
      (l, (i : Int), ((i + 1 : Nat) : Int)) (by
        refine ⟨i, i + 1, rfl, rfl, by omega, by omega, ?_, rfl⟩
        dsimp only
        rw [take_succ' (List.getElem?_eq_getElem hil), List.filter_append, List.filter_eq_self.2]
        · simp [hpi]
        · intro x hx
          obtain ⟨q, hq⟩ := List.getElem?_of_mem hx
          have hql := (List.getElem?_eq_some_iff.1 hq).1
          rw [List.length_take] at hql
          rw [List.getElem?_take_of_lt (by omega)] at hq
          have := hlt q (by omega)
          obtain ⟨h1, h2⟩ := List.getElem?_eq_some_iff.1 hq
          rw [h2] at this
          simp [this])
    rw [hr, hq]

/-- Setting the upload of a chunk. -/
def setU (x : D_Up) : List D_Up → List D_Up
  | [] => [x]
  | y :: ys => if sLt y.1 x.1 then y :: setU x ys else x :: (y :: ys).filter fun z => !decide (z.1 = x.1)
def setStep (x : D_Up) (t : Bool × List D_Up) (y : D_Up) : Bool × List D_Up :=
  let t1 := if !t.1 && !sLt y.1 x.1 then (true, t.2 ++ [x]) else t
  if decide (y.1 = x.1) then t1 else (t1.1, t1.2 ++ [y])
theorem setStep_put (x : D_Up) : ∀ (ys acc : List D_Up), ys.foldl (setStep x) (true, acc) = (true, acc ++ ys.filter fun z => !decide (z.1 = x.1))
  | [], acc => by simp
  | y :: ys, acc => by
    rw [List.foldl_cons]
    unfold setStep
    simp only [Bool.not_true, Bool.false_and, Bool.false_eq_true, if_false]
    cases h : decide (y.1 = x.1) with
    | true => simp only [if_true]; rw [show (true, acc) = ((true, acc) : Bool × List D_Up) from rfl]; have := setStep_put x ys acc; unfold setStep at this; simp only at this ⊢; rw [this]; simp [h]
    | false => have := setStep_put x ys (acc ++ [y]); unfold setStep at this; simp only [Bool.false_eq_true, if_false] at this ⊢; rw [this]; simp [h]
theorem setStep_false (x : D_Up) : ∀ (ys acc : List D_Up), (let t := ys.foldl (setStep x) (false, acc); if !t.1 then t.2 ++ [x] else t.2) = acc ++ setU x ys
  | [], acc => by simp [setU]
  | y :: ys, acc => by
    rw [List.foldl_cons]
    cases h : sLt y.1 x.1 with
    | true =>
      have h1 : decide (y.1 = x.1) = false := decide_eq_false (sLt_ne h)
      have : setStep x (false, acc) y = (false, acc ++ [y]) := by unfold setStep; simp [h, h1]
      rw [this, setStep_false x ys (acc ++ [y])]
      simp [setU, h]
    | false =>
      have : setStep x (false, acc) y = setStep x (true, acc ++ [x]) y := by unfold setStep; simp [h]
      rw [this, ← List.foldl_cons, setStep_put]
      simp [setU, h]
theorem l18Set_eq {d : D_Ups} {x : D_Up} (h : d.2.length ≤ 1000) : s_l18Set d x = some (d.1, if x.2.1.length = 0 then d.2.filter (fun z => !decide (z.1 = x.1)) else setU x d.2) := by
  obtain ⟨e, l⟩ := d
  unfold s_l18Set
  rw [whileP_for (l := l) (fun k (t : Bool × List D_Up) => (t.1, (k : Int), t.2)) (fun t y => .inl (setStep x t y)) (fun t => some (e, if !t.1 then t.2 ++ [x] else t.2)) (fun k t => t.2.length ≤ 2 * k) (decide ((x.2.1.length : Int) = 0), []) (s0 := (decide ((x.2.1.length : Int) = 0), 0, [])) rfl (Nat.le_refl _), goE_fold]
  · by_cases h0 : x.2.1.length = 0
    · rw [if_pos h0, show decide ((x.2.1.length : Int) = 0) = true by simp [h0], setStep_put]; simp
    · rw [if_neg h0, show decide ((x.2.1.length : Int) = 0) = false by simp [h0]]
      have := setStep_false x l []
      rw [List.nil_append] at this
      exact congrArg (fun q => some (e, q)) this
  · intro k t y hy hI
    have hlt := (List.getElem?_eq_some_iff.1 hy).1
    dsimp only at h hI
    refine .inl ⟨_, rfl, ?_, ?_⟩
    · simp only [lt_dec hlt, cond_true, idx_nat, hy, Option.bind_some, wrap_succ (show k < 9223372036854775807 by omega), appP_ok (a := t.2) (b := [(x.1, x.2.1, x.2.2)]) (by simp; omega), gbs]
      unfold setStep
      obtain ⟨b, acc⟩ := t
      dsimp only at hI ⊢
      cases b <;> cases hs : sLt y.1 x.1 <;> cases hd : decide (y.1 = x.1) <;> (simp [jbind, gb, hs]; try rw [appP_ok (by simp; omega)]; try simp)
    · unfold setStep
      dsimp only
      split <;> split <;> (try simp) <;> omega
  · intro t ht
    dsimp only at h ht
    simp only [ge_dec, cond_false]
    obtain ⟨b, acc⟩ := t
    dsimp only at ht ⊢
    cases b
    · simp only [Bool.not_false, cond_true, if_true]
      rw [appP_ok (by simp; omega)]; rfl
    · rfl
end Go.Proofs.SL
