/- What the sessions' functions compute, in plain Lean. -/
import Derived.Test.YtkfdcccpphhofaaWS
import Derived.Test.YtkfdcccpphhofaaBaseN
namespace Go.Proofs.SL
open Go
theorem l1In_eq (x a b : Int) : s_l1In x a b = some (decide (a ≤ x ∧ x ≤ b)) := by
  unfold s_l1In; rw [Bool.decide_and]
theorem within_eq (x a b : Int) : i_within x a b = some (decide (a ≤ x ∧ x ≤ b)) := by
  unfold i_within; rw [Bool.decide_and]
theorem isClient_eq (x : Int) : i_isClient x = some (decide (1 ≤ x ∧ x ≤ 9)) := by
  unfold i_isClient; rw [within_eq]; rfl
def partsOk (l : List ByteArray) : Bool := l.all fun p => decide (1 ≤ (p.size : Int) ∧ (p.size : Int) ≤ 10)
/-- Session k of a list is right. -/
def sessOk (m lo hi : Int) (l : List D_Sess) (k : Nat) : Bool := match l[k]? with
  | none => false
  | some s => decide (1 ≤ s.1 ∧ s.1 ≤ m) && (decide (k = 0) || (l[k - 1]?).all fun r => decide (r.1 < s.1)) && decide (1 ≤ s.2.1 ∧ s.2.1 ≤ 9) && decide (lo ≤ s.2.2.1 ∧ s.2.2.1 ≤ hi) && decide (s.2.2.2.length ≤ 6) && partsOk s.2.2.2
def desksOk (d : D_Desks) : Bool := decide (0 ≤ d.1 ∧ d.1 ≤ 100000) && decide (1 ≤ d.2.1 ∧ d.2.1 ≤ 1000) && decide (d.2.2.length ≤ 4) && (List.range d.2.2.length).all (sessOk (d.2.1 - 1) (d.1 + 1) (d.1 + 100) d.2.2)

theorem parts_loop {β : Type} {l : List ByteArray} {f : Int → Option (Int ⊕ β)} {no yes : Option β} (hl : l.length ≤ 9223372036854775807)
    (hf : ∀ (k : Nat) (p : ByteArray), l[k]? = some p → f (k : Int) = if decide (1 ≤ (p.size : Int) ∧ (p.size : Int) ≤ 10) then some (.inl (IntKind.wrap .i64 ((k : Int) + 1))) else no.map .inr) (hn : f (l.length : Int) = yes.map .inr) :
    whileP f 0 = if partsOk l then yes else no := by
  rw [whileP_all (n := l.length) (fun k => (l[k]?).all fun p => decide (1 ≤ (p.size : Int) ∧ (p.size : Int) ≤ 10)) no yes ?_ hn, all_range_get]
  · rfl
  · intro k hk
    have h := hf k l[k] (List.getElem?_eq_getElem hk)
    rw [h, List.getElem?_eq_getElem hk, wrap_succ (by omega)]
    rfl
/-- What stands before a place, or nothing at its beginning. -/
theorem prev_idx {l : List D_Sess} {k : Nat} (hk : k < l.length) (hl : l.length ≤ 9223372036854775807) (h0 : 0 < k) : ∃ r, l[k - 1]? = some r ∧ idx l (IntKind.wrap .i64 ((k : Int) - 1)) = some r := by
  refine ⟨l[k - 1], List.getElem?_eq_getElem (by omega), ?_⟩
  rw [wrap64_in (by unfold inR; omega), show ((k : Int) - 1) = ((k - 1 : Nat) : Int) by omega, idx_nat]
  exact List.getElem?_eq_getElem (by omega)
theorem s_DesksOk_eq (d : D_Desks) (ho : Ok.ok d) : s_DesksOk d = some (desksOk d) := by
  obtain ⟨a, b, l⟩ := d
  have hl : l.length ≤ 9223372036854775807 := ho.2.2.1
  have hl2 : ∀ x, x ∈ l → Ok.ok x := ho.2.2.2
  unfold s_DesksOk desksOk
  simp only [l1In_eq, Option.bind_some]
  generalize hW : whileP _ (0 : Int) = W
  cases h1 : decide (0 ≤ a ∧ a ≤ 100000) with
  | false => rfl
  | true =>
    cases h2 : decide (1 ≤ b ∧ b ≤ 1000) with
    | false => rfl
    | true =>
      cases h3 : decide (l.length ≤ 4) with
      | false =>
        have : decide (4 < (l.length : Int)) = true := by simp at h3 ⊢; omega
        simp [gb, this]
      | true =>
        have h4 : decide (4 < (l.length : Int)) = false := by simp at h3 ⊢; omega
        simp only [decide_eq_true_eq] at h1 h2 h3
        simp only [gb, h4, Bool.not_true, Bool.not_false, Option.bind_some, Bool.or_false, cond_false, Bool.true_and]
        rw [← hW]
        rw [whileP_all (n := l.length) (sessOk (b - 1) (a + 1) (a + 100) l) (some false) (some true)]
        · split <;> simp_all
        · intro k hk
          have hx : l[k]? = some l[k] := List.getElem?_eq_getElem hk
          generalize l[k] = s at hx
          have hs := hl2 s (List.mem_of_getElem? hx)
          have hp : s.2.2.2.length ≤ 9223372036854775807 := hs.2.2.2.1
          have hc : decide ((k : Int) < (l.length : Int)) = true := by simp; omega
          simp only [idx_nat, hx, Option.bind_some, hc, cond_true]
          rw [wrap64_in (show inR (b - 1) by unfold inR; omega), wrap64_in (show inR (a + 1) by unfold inR; omega), wrap64_in (show inR (a + 100) by unfold inR; omega)]
          rw [parts_loop (no := some (.inr false)) (yes := some (.inl ((k + 1 : Nat) : Int))) hp]
          · unfold sessOk
            simp only [hx]
            have hq : decide (6 < (s.2.2.2.length : Int)) = !decide (s.2.2.2.length ≤ 6) := by
              rw [Bool.eq_iff_iff]; simp; omega
            rw [hq]
            rcases Nat.eq_zero_or_pos k with h0 | h0
            · subst h0
              cases decide (1 ≤ s.1 ∧ s.1 ≤ b - 1) <;> cases decide (1 ≤ s.2.1 ∧ s.2.1 ≤ 9) <;> cases decide (a + 1 ≤ s.2.2.1 ∧ s.2.2.1 ≤ a + 100) <;> cases decide (s.2.2.2.length ≤ 6) <;> cases partsOk s.2.2.2 <;> simp [gb]
            · obtain ⟨r, hr1, hr2⟩ := prev_idx hk hl h0
              have h5 : decide (0 < (k : Int)) = true := by simp; omega
              have h6 : decide (k = 0) = false := by simp; omega
              have h7 : decide (s.1 ≤ r.1) = !decide (r.1 < s.1) := by rw [Bool.eq_iff_iff]; simp
              rw [hr1, hr2, h5, h6]
              simp only [h7, Option.all_some]
              by_cases h8 : r.1 < s.1 <;> cases decide (1 ≤ s.1 ∧ s.1 ≤ b - 1) <;> cases decide (1 ≤ s.2.1 ∧ s.2.1 ≤ 9) <;> cases decide (a + 1 ≤ s.2.2.1 ∧ s.2.2.1 ≤ a + 100) <;> cases decide (s.2.2.2.length ≤ 6) <;> cases partsOk s.2.2.2 <;> simp [gb, h7, h8]
          · intro j p hj
            have hlt := (List.getElem?_eq_some_iff.1 hj).1
            have hc2 : decide ((j : Int) < (s.2.2.2.length : Int)) = true := by simp; omega
            simp only [hc2, cond_true, idx_nat, hj, Option.bind_some]
            cases decide (1 ≤ (p.size : Int) ∧ (p.size : Int) ≤ 10) <;> rfl
          · have hc2 : decide (((s.2.2.2.length : Nat) : Int) < (s.2.2.2.length : Int)) = false := by simp
            simp only [hc2, cond_false, wrap_succ (show k < 9223372036854775807 by omega)]
        · have hc2 : decide (((l.length : Nat) : Int) < (l.length : Int)) = false := by simp
          simp only [hc2, cond_false]
theorem i_DesksOk_eq (d : D_Desks) (ho : Ok.ok d) : i_DesksOk d = some (desksOk d) := by
  obtain ⟨a, b, l⟩ := d
  have hl : l.length ≤ 9223372036854775807 := ho.2.2.1
  have hl2 : ∀ x, x ∈ l → Ok.ok x := ho.2.2.2
  unfold i_DesksOk desksOk
  simp only [within_eq, isClient_eq, Option.bind_some]
  have hr : (0 ≤ a ∧ a ≤ 100000) → (1 ≤ b ∧ b ≤ 1000) → IntKind.wrap .i64 (b - 1) = b - 1 ∧ IntKind.wrap .i64 (a + 1) = a + 1 ∧ IntKind.wrap .i64 (a + 100) = a + 100 := fun h1 h2 =>
    ⟨wrap64_in (by unfold inR; omega), wrap64_in (by unfold inR; omega), wrap64_in (by unfold inR; omega)⟩
  generalize IntKind.wrap .i64 (b - 1) = m at *
  generalize IntKind.wrap .i64 (a + 1) = lo at *
  generalize IntKind.wrap .i64 (a + 100) = hi at *
  rw [whileP_all (n := l.length) (sessOk m lo hi l) (some false) (some (decide (0 ≤ a ∧ a ≤ 100000) && decide (1 ≤ b ∧ b ≤ 1000) && decide (l.length ≤ 4)))]
  · by_cases h1 : 0 ≤ a ∧ a ≤ 100000
    · by_cases h2 : 1 ≤ b ∧ b ≤ 1000
      · obtain ⟨rfl, rfl, rfl⟩ := hr h1 h2
        cases (List.range l.length).all (sessOk (b - 1) (a + 1) (a + 100) l) <;> simp [h1, h2]
      · have : decide (1 ≤ b ∧ b ≤ 1000) = false := decide_eq_false h2
        simp [this]
    · have : decide (0 ≤ a ∧ a ≤ 100000) = false := decide_eq_false h1
      simp [this]
  · intro k hk
    have hx : l[k]? = some l[k] := List.getElem?_eq_getElem hk
    generalize l[k] = s at hx
    have hs := hl2 s (List.mem_of_getElem? hx)
    have hp : s.2.2.2.length ≤ 9223372036854775807 := hs.2.2.2.1
    have hc : decide ((k : Int) < (l.length : Int)) = true := by simp; omega
    simp only [idx_nat, hx, Option.bind_some, hc, cond_true]
    rw [parts_loop (no := some (.inr false)) (yes := some (.inl ((k + 1 : Nat) : Int))) hp]
    · unfold sessOk
      simp only [hx]
      have hq : decide (6 < (s.2.2.2.length : Int)) = !decide (s.2.2.2.length ≤ 6) := by
        rw [Bool.eq_iff_iff]; simp; omega
      rw [hq]
      rcases Nat.eq_zero_or_pos k with h0 | h0
      · subst h0
        cases decide (1 ≤ s.1 ∧ s.1 ≤ m) <;> cases decide (1 ≤ s.2.1 ∧ s.2.1 ≤ 9) <;> cases decide (lo ≤ s.2.2.1 ∧ s.2.2.1 ≤ hi) <;> cases decide (s.2.2.2.length ≤ 6) <;> cases partsOk s.2.2.2 <;> simp [gb]
      · obtain ⟨r, hr1, hr2⟩ := prev_idx hk hl h0
        have h5 : decide (0 < (k : Int)) = true := by simp; omega
        have h6 : decide (k = 0) = false := by simp; omega
        have h7 : decide (s.1 ≤ r.1) = !decide (r.1 < s.1) := by rw [Bool.eq_iff_iff]; simp
        rw [hr1, hr2, h5, h6]
        simp only [h7, Option.all_some]
        by_cases h8 : r.1 < s.1 <;> cases decide (1 ≤ s.1 ∧ s.1 ≤ m) <;> cases decide (1 ≤ s.2.1 ∧ s.2.1 ≤ 9) <;> cases decide (lo ≤ s.2.2.1 ∧ s.2.2.1 ≤ hi) <;> cases decide (s.2.2.2.length ≤ 6) <;> cases partsOk s.2.2.2 <;> simp [gb, h7, h8]
    · intro j p hj
      have hlt := (List.getElem?_eq_some_iff.1 hj).1
      have hc2 : decide ((j : Int) < (s.2.2.2.length : Int)) = true := by simp; omega
      simp only [hc2, cond_true, idx_nat, hj, Option.bind_some]
      cases decide (1 ≤ (p.size : Int) ∧ (p.size : Int) ≤ 10) <;> rfl
    · have hc2 : decide (((s.2.2.2.length : Nat) : Int) < (s.2.2.2.length : Int)) = false := by simp
      simp only [hc2, cond_false, wrap_succ (show k < 9223372036854775807 by omega)]
  · have hc2 : decide (((l.length : Nat) : Int) < (l.length : Int)) = false := by simp
    simp only [hc2, cond_false]
    have h9 : decide ((l.length : Int) ≤ 4) = decide (l.length ≤ 4) := by rw [Bool.eq_iff_iff]; simp; omega
    rw [h9]
    cases decide (0 ≤ a ∧ a ≤ 100000) <;> cases decide (1 ≤ b ∧ b ≤ 1000) <;> rfl

/-- A copy. -/
theorem copyTexts_eq {l : List ByteArray} (h : l.length ≤ 4294967296) : i_copyTexts l = some l := by
  unfold i_copyTexts appP
  rw [if_pos (by simpa using h)]; rfl
theorem s_l29Copy_eq {d : D_Desks} (h1 : d.2.2.length ≤ 1000) (h2 : ∀ s, s ∈ d.2.2 → s.2.2.2.length ≤ 1000) : s_l29Copy d = some d := by
  obtain ⟨a, b, l⟩ := d
  unfold s_l29Copy
  rw [whileP_for (l := l) (fun k (t : List D_Sess) => ((k : Int), t)) (fun t x => .inl (t ++ [x])) (fun t => some (a, b, t)) (fun k t => t.length = k) [] (s0 := (0, [])) rfl rfl, goE_app]
  · rfl
  · intro k t x hx ht
    have hlt := (List.getElem?_eq_some_iff.1 hx).1
    have hm := h2 x (List.mem_of_getElem? hx)
    dsimp only at h1 hm ht
    refine .inl ⟨t ++ [x], rfl, ?_, by simp [ht]⟩
    have hc : decide ((k : Int) < (l.length : Int)) = true := by simp; omega
    simp only [hc, cond_true, idx_nat, hx, Option.bind_some, appP_ok (a := ([] : List ByteArray)) (b := x.2.2.2) (by simp; omega), List.nil_append, wrap_succ (show k < 9223372036854775807 by omega)]
    rw [appP_ok (by simp; omega)]; rfl
  · intro t ht
    simp
theorem i_copyDesks_eq {d : D_Desks} (h1 : d.2.2.length ≤ 1000) (h2 : ∀ s, s ∈ d.2.2 → s.2.2.2.length ≤ 1000) : i_copyDesks d = some d := by
  obtain ⟨a, b, l⟩ := d
  unfold i_copyDesks
  rw [whileP_for (l := l) (fun k (t : List D_Sess) => ((k : Int), t)) (fun t x => .inl (t ++ [x])) (fun t => some (a, b, t)) (fun k t => t.length = k) [] (s0 := (0, [])) rfl rfl, goE_app]
  · rfl
  · intro k t x hx ht
    have hlt := (List.getElem?_eq_some_iff.1 hx).1
    have hm := h2 x (List.mem_of_getElem? hx)
    dsimp only at h1 hm ht
    refine .inl ⟨t ++ [x], rfl, ?_, by simp [ht]⟩
    have hc : decide ((k : Int) < (l.length : Int)) = true := by simp; omega
    simp only [hc, cond_true, idx_nat, hx, Option.bind_some, copyTexts_eq (show x.2.2.2.length ≤ 4294967296 by omega), wrap_succ (show k < 9223372036854775807 by omega)]
    rw [appP_ok (by simp; omega)]; rfl
  · intro t ht
    simp

theorem s_l29At_eq {d : D_Desks} {id : Int} (h : d.2.2.length ≤ 9223372036854775807) : s_l29At d id = some (firstI (fun s : D_Sess => decide (s.1 = id)) d.2.2) := by
  unfold s_l29At
  rw [whileP_find (fun s : D_Sess => decide (s.1 = id)) some h]
  · intro k x hx
    have hlt := (List.getElem?_eq_some_iff.1 hx).1
    simp only [lt_dec hlt, cond_true, idx_nat, hx, Option.bind_some]
    cases decide (x.1 = id) <;> rfl
  · simp only [ge_dec]; rfl
theorem i_Desks_at_eq {d : D_Desks} {id : Int} (h : d.2.2.length ≤ 9223372036854775807) : i_Desks_at d id = some (firstI (fun s : D_Sess => decide (s.1 = id)) d.2.2) := by
  unfold i_Desks_at sl_IndexFunc_implSessimplSess i_Desks_at_c1
  rw [whileP_find (fun s : D_Sess => decide (s.1 = id)) some h]
  · rfl
  · intro k x hx
    have hlt := (List.getElem?_eq_some_iff.1 hx).1
    simp only [lt_dec hlt, cond_true, idx_nat, hx, Option.bind_some]
    cases decide (x.1 = id) <;> rfl
  · simp only [ge_dec]; rfl
/-- What a right desk holds. -/
theorem desksOk_facts {d : D_Desks} (h : desksOk d = true) : (0 ≤ d.1 ∧ d.1 ≤ 100000) ∧ (1 ≤ d.2.1 ∧ d.2.1 ≤ 1000) ∧ d.2.2.length ≤ 4 ∧ ∀ s, s ∈ d.2.2 → s.2.2.2.length ≤ 6 ∧ (∀ p, p ∈ s.2.2.2 → p.size ≤ 10) := by
  unfold desksOk at h
  simp only [Bool.and_eq_true, decide_eq_true_eq, List.all_eq_true, List.mem_range] at h
  refine ⟨h.1.1.1, h.1.1.2, h.1.2, fun s hs => ?_⟩
  obtain ⟨k, hk⟩ := List.getElem?_of_mem hs
  have := h.2 k (List.getElem?_eq_some_iff.1 hk).1
  unfold sessOk at this
  rw [hk] at this
  simp only [Bool.and_eq_true, decide_eq_true_eq, partsOk, List.all_eq_true] at this
  exact ⟨this.1.2, fun p hp => by have := (this.2 p hp).2; omega⟩
theorem copy_eq {d : D_Desks} (h : desksOk d = true) : s_l29Copy d = some d ∧ i_copyDesks d = some d := by
  obtain ⟨_, _, h3, h4⟩ := desksOk_facts h
  exact ⟨s_l29Copy_eq (by omega) fun s hs => by have := (h4 s hs).1; omega, i_copyDesks_eq (by omega) fun s hs => by have := (h4 s hs).1; omega⟩
noncomputable def sessPutD (d : D_Desks) (id : Int) (p : ByteArray) : D_Desks × Bool :=
  if desksOk d then
    match d.2.2.findIdx? (fun s => decide (s.1 = id)) with
    | none => (d, false)
    | some k => match d.2.2[k]? with
      | none => (d, false)
      | some s => if s.2.2.2.length < 6 ∧ 1 ≤ p.size ∧ p.size ≤ 10 then ((d.1, d.2.1, d.2.2.set k (s.1, s.2.1, s.2.2.1, s.2.2.2 ++ [p])), true) else (d, false)
  else ((0, 0, []), false)
theorem firstI_some {α : Type} {p : α → Bool} {xs : List α} {k : Nat} (h : xs.findIdx? p = some k) : firstI p xs = (k : Int) := by unfold firstI; rw [h]
theorem firstI_none {α : Type} {p : α → Bool} {xs : List α} (h : xs.findIdx? p = none) : firstI p xs = -1 := by unfold firstI; rw [h]
theorem s_SessPut_eq {d : D_Desks} {id : Int} {p : ByteArray} (ho : Ok.ok d) : s_SessPut d id p = some (sessPutD d id p) := by
  unfold s_SessPut sessPutD
  have hl : d.2.2.length ≤ 9223372036854775807 := ho.2.2.1
  simp only [Prod.eta, s_DesksOk_eq d ho, Option.bind_some]
  cases hk : desksOk d with
  | false => rfl
  | true =>
    obtain ⟨h1, h2, h3, h4⟩ := desksOk_facts hk
    simp only [Bool.not_true, cond_false, (copy_eq hk).1, Option.bind_some, s_l29At_eq hl, if_true, l1In_eq]
    cases hf : d.2.2.findIdx? (fun s : D_Sess => decide (s.1 = id)) with
    | none => rw [firstI_none hf]; rfl
    | some k =>
      have hlt : k < d.2.2.length := by obtain ⟨h, _⟩ := List.findIdx?_eq_some_iff_getElem.1 hf; exact h
      rw [firstI_some hf]
      have hx : d.2.2[k]? = some d.2.2[k] := List.getElem?_eq_getElem hlt
      generalize d.2.2[k] = s at hx
      have hs := (h4 s (List.mem_of_getElem? hx)).1
      simp only [show decide ((k : Int) < 0) = false by simp, idx_nat, hx, Option.bind_some, gb, Bool.not_false, Bool.false_or, Int.toNat_natCast]
      by_cases h5 : s.2.2.2.length < 6
      · have h6 : decide (6 ≤ (s.2.2.2.length : Int)) = false := by simp; omega
        simp only [h6, Bool.not_false, Bool.false_or]
        by_cases h7 : 1 ≤ p.size ∧ p.size ≤ 10
        · rw [if_pos ⟨h5, h7⟩, appP_ok (by simp; omega)]
          simp only [show decide (1 ≤ (p.size : Int) ∧ (p.size : Int) ≤ 10) = true by simp; omega, Bool.not_true, cond_false, Option.bind_some, List.nil_append]
          rw [appP_ok (by simp; omega)]; rfl
        · rw [if_neg (fun h => h7 h.2)]
          simp only [show decide (1 ≤ (p.size : Int) ∧ (p.size : Int) ≤ 10) = false by simp; omega, Bool.not_false, cond_true]
      · have h6 : decide (6 ≤ (s.2.2.2.length : Int)) = true := by simp; omega
        rw [if_neg (fun h => h5 h.1)]
        simp only [h6, Bool.true_or, cond_true, Bool.not_true]
theorem i_SessPut_eq {d : D_Desks} {id : Int} {p : ByteArray} (ho : Ok.ok d) : i_SessPut d id p = some (sessPutD d id p) := by
  unfold i_SessPut sessPutD
  have hl : d.2.2.length ≤ 9223372036854775807 := ho.2.2.1
  simp only [Prod.eta, i_DesksOk_eq d ho, Option.bind_some]
  cases hk : desksOk d with
  | false => rfl
  | true =>
    obtain ⟨h1, h2, h3, h4⟩ := desksOk_facts hk
    simp only [Bool.not_true, cond_false, (copy_eq hk).2, Option.bind_some, i_Desks_at_eq hl, if_true, within_eq]
    cases hf : d.2.2.findIdx? (fun s : D_Sess => decide (s.1 = id)) with
    | none => rw [firstI_none hf]; rfl
    | some k =>
      have hlt : k < d.2.2.length := by obtain ⟨h, _⟩ := List.findIdx?_eq_some_iff_getElem.1 hf; exact h
      rw [firstI_some hf]
      have hx : d.2.2[k]? = some d.2.2[k] := List.getElem?_eq_getElem hlt
      generalize d.2.2[k] = s at hx
      have hs := (h4 s (List.mem_of_getElem? hx)).1
      simp only [show decide ((k : Int) < 0) = false by simp, idx_nat, hx, Option.bind_some, gb, Bool.not_false, Bool.false_or, Int.toNat_natCast]
      by_cases h5 : s.2.2.2.length < 6
      · have h6 : decide ((s.2.2.2.length : Int) = 6) = false := by simp; omega
        simp only [h6, Bool.not_false, Bool.false_or]
        by_cases h7 : 1 ≤ p.size ∧ p.size ≤ 10
        · rw [if_pos ⟨h5, h7⟩, appP_ok (by simp; omega)]
          simp only [show decide (1 ≤ (p.size : Int) ∧ (p.size : Int) ≤ 10) = true by simp; omega, Bool.not_true, cond_false, Option.bind_some]
        · rw [if_neg (fun h => h7 h.2)]
          simp only [show decide (1 ≤ (p.size : Int) ∧ (p.size : Int) ≤ 10) = false by simp; omega, Bool.not_false, cond_true]
      · have h6 : decide ((s.2.2.2.length : Int) = 6) = true := by simp; omega
        rw [if_neg (fun h => h5 h.1)]
        simp only [h6, Bool.true_or, cond_true, Bool.not_true]
noncomputable def sessTickD (d : D_Desks) (n : Int) : D_Desks × List Int :=
  if desksOk d then
    if (1 ≤ n ∧ n ≤ 100) ∧ d.1 + n ≤ 100000 then ((d.1 + n, d.2.1, d.2.2.filter fun s => decide (d.1 + n < s.2.2.1)), (d.2.2.filter fun s => !decide (d.1 + n < s.2.2.1)).map fun s => s.1) else (d, [])
  else ((0, 0, []), [])
theorem foldl_part {β γ : Type} (p : β → Bool) (g : β → γ) : ∀ (xs : List β) (a : List γ) (b : List β),
    xs.foldl (fun (t : List γ × List β) x => if p x then (t.1, t.2 ++ [x]) else (t.1 ++ [g x], t.2)) (a, b) = (a ++ (xs.filter fun x => !p x).map g, b ++ xs.filter p)
  | [], a, b => by simp
  | x :: xs, a, b => by
    rw [List.foldl_cons]
    cases hp : p x with
    | true => simp only [hp, if_true]; rw [foldl_part p g xs a (b ++ [x])]; simp [hp]
    | false => simp only [hp, Bool.false_eq_true, if_false]; rw [foldl_part p g xs (a ++ [g x]) b]; simp [hp]
theorem s_SessTick_eq {d : D_Desks} {n : Int} (ho : Ok.ok d) (hn : inR n) : s_SessTick d n = some (sessTickD d n) := by
  unfold s_SessTick sessTickD
  have ha : inR d.1 := ho.1
  simp only [Prod.eta, s_DesksOk_eq d ho, Option.bind_some]
  cases hk : desksOk d with
  | false => rfl
  | true =>
    obtain ⟨h1, h2, h3, h4⟩ := desksOk_facts hk
    simp only [Bool.not_true, cond_false, (copy_eq hk).1, Option.bind_some, if_true, l1In_eq]
    by_cases h5 : 1 ≤ n ∧ n ≤ 100
    · rw [wrap64_in (show inR (d.1 + n) by unfold inR; omega)]
      by_cases h6 : d.1 + n ≤ 100000
      · rw [if_pos ⟨h5, h6⟩]
        simp only [show decide (1 ≤ n ∧ n ≤ 100) = true by simp; omega, show decide (100000 < d.1 + n) = false by simp; omega, Bool.not_true, Bool.false_or, cond_false]
        rw [whileP_for (l := d.2.2) (fun k (t : List Int × List D_Sess) => (t.1, t.2, (k : Int))) (fun t s => .inl (if decide (d.1 + n < s.2.2.1) then (t.1, t.2 ++ [s]) else (t.1 ++ [s.1], t.2)))
          (fun t => some ((d.1 + n, d.2.1, t.2), t.1)) (fun k t => t.1.length ≤ k ∧ t.2.length ≤ k) ([], []) (s0 := ([], [], 0)) rfl ⟨Nat.le_refl _, Nat.le_refl _⟩, goE_fold, foldl_part (fun s : D_Sess => decide (d.1 + n < s.2.2.1)) (fun s => s.1)]
        · rfl
        · intro k t s hs hI
          have hlt := (List.getElem?_eq_some_iff.1 hs).1
          try dsimp only at hI
          cases hc : decide (d.1 + n < s.2.2.1) with
          | true =>
            refine .inl ⟨(t.1, t.2 ++ [s]), rfl, ?_, by dsimp only; omega, by simp; omega⟩
            simp only [lt_dec hlt, cond_true, idx_nat, hs, Option.bind_some, hc, wrap_succ (show k < 9223372036854775807 by omega)]
            rw [appP_ok (by simp; omega)]; rfl
          | false =>
            refine .inl ⟨(t.1 ++ [s.1], t.2), rfl, ?_, by simp; omega, by dsimp only; omega⟩
            simp only [lt_dec hlt, cond_true, cond_false, idx_nat, hs, Option.bind_some, hc, wrap_succ (show k < 9223372036854775807 by omega)]
            rw [appP_ok (by simp; omega)]; rfl
        · intro t ht
          simp only [ge_dec]; rfl
      · rw [if_neg (fun h => h6 h.2)]
        simp only [show decide (100000 < d.1 + n) = true by simp; omega, Bool.or_true, cond_true]
    · rw [if_neg (fun h => h5 h.1)]
      simp only [show decide (1 ≤ n ∧ n ≤ 100) = false by simp; omega, Bool.not_false, Bool.true_or, cond_true]
theorem i_SessTick_eq {d : D_Desks} {n : Int} (ho : Ok.ok d) (hn : inR n) : i_SessTick d n = some (sessTickD d n) := by
  unfold i_SessTick sessTickD
  have ha : inR d.1 := ho.1
  simp only [Prod.eta, i_DesksOk_eq d ho, Option.bind_some]
  cases hk : desksOk d with
  | false => rfl
  | true =>
    obtain ⟨h1, h2, h3, h4⟩ := desksOk_facts hk
    simp only [Bool.not_true, cond_false, (copy_eq hk).2, Option.bind_some, if_true, within_eq]
    by_cases h5 : 1 ≤ n ∧ n ≤ 100
    · rw [wrap64_in (show inR (d.1 + n) by unfold inR; omega)]
      by_cases h6 : d.1 + n ≤ 100000
      · rw [if_pos ⟨h5, h6⟩]
        simp only [show decide (1 ≤ n ∧ n ≤ 100) = true by simp; omega, show decide (100000 < d.1 + n) = false by simp; omega, Bool.not_true, Bool.false_or, cond_false]
        rw [whileP_for (l := d.2.2) (fun k (t : List Int × List D_Sess) => (t.2, t.1, (k : Int))) (fun t s => .inl (if decide (d.1 + n < s.2.2.1) then (t.1, t.2 ++ [s]) else (t.1 ++ [s.1], t.2)))
          (fun t => some ((d.1 + n, d.2.1, t.2), t.1)) (fun k t => t.1.length ≤ k ∧ t.2.length ≤ k) ([], []) (s0 := ([], [], 0)) rfl ⟨Nat.le_refl _, Nat.le_refl _⟩, goE_fold, foldl_part (fun s : D_Sess => decide (d.1 + n < s.2.2.1)) (fun s => s.1)]
        · rfl
        · intro k t s hs hI
          have hlt := (List.getElem?_eq_some_iff.1 hs).1
          try dsimp only at hI
          have hneg : decide (s.2.2.1 ≤ d.1 + n) = !decide (d.1 + n < s.2.2.1) := by rw [Bool.eq_iff_iff]; simp
          cases hc : decide (d.1 + n < s.2.2.1) with
          | true =>
            refine .inl ⟨(t.1, t.2 ++ [s]), rfl, ?_, by dsimp only; omega, by simp; omega⟩
            simp only [lt_dec hlt, cond_true, cond_false, idx_nat, hs, Option.bind_some, hneg, hc, Bool.not_true, wrap_succ (show k < 9223372036854775807 by omega)]
            rw [appP_ok (by simp; omega)]; rfl
          | false =>
            refine .inl ⟨(t.1 ++ [s.1], t.2), rfl, ?_, by simp; omega, by dsimp only; omega⟩
            simp only [lt_dec hlt, cond_true, cond_false, idx_nat, hs, Option.bind_some, hneg, hc, Bool.not_false, wrap_succ (show k < 9223372036854775807 by omega)]
            rw [appP_ok (by simp; omega)]; rfl
        · intro t ht
          simp only [ge_dec]; rfl
      · rw [if_neg (fun h => h6 h.2)]
        simp only [show decide (100000 < d.1 + n) = true by simp; omega, Bool.or_true, cond_true]
    · rw [if_neg (fun h => h5 h.1)]
      simp only [show decide (1 ≤ n ∧ n ≤ 100) = false by simp; omega, Bool.not_false, Bool.true_or, cond_true]
end Go.Proofs.SL
