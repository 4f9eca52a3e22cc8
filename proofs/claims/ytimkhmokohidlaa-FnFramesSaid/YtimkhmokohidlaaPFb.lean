/- Numbers of variable length, read back. -/
import Derived.Test.YtimkhmokohidlaaPFa
namespace Go.Proofs.SL
open Go
section
variable {σ α : Type} {f : σ → Option (σ ⊕ α)}
theorem whileP_step {s s' : σ} (h : f s = some (.inl s')) : whileP f s = whileP f s' := by rw [whileP_eq, h]
theorem whileP_stop {s : σ} {a : α} (h : f s = some (.inr a)) : whileP f s = some a := by rw [whileP_eq, h]
/-- A loop within a loop. -/
theorem whileP_sum {β γ : Type} {f : σ → Option (σ ⊕ (β ⊕ γ))} {P : β → Prop} {Q : γ → Prop} (I : σ → Prop) (μ : σ → Nat)
    (h : ∀ s, I s → (∃ s', f s = some (.inl s') ∧ I s' ∧ μ s' < μ s) ∨ (∃ b, f s = some (.inr (.inl b)) ∧ P b) ∨ ∃ c, f s = some (.inr (.inr c)) ∧ Q c) (s : σ) (hs : I s) :
    (∃ b, whileP f s = some (.inl b) ∧ P b) ∨ ∃ c, whileP f s = some (.inr c) ∧ Q c := by
  obtain ⟨a, ha, hq⟩ := whileP_rule I μ (fun a : β ⊕ γ => (∃ b, a = .inl b ∧ P b) ∨ ∃ c, a = .inr c ∧ Q c) (fun s hs => by
    rcases h s hs with h1 | ⟨b, h1, h2⟩ | ⟨c, h1, h2⟩
    · exact .inl h1
    · exact .inr ⟨_, h1, .inl ⟨b, rfl, h2⟩⟩
    · exact .inr ⟨_, h1, .inr ⟨c, rfl, h2⟩⟩) s hs
  rcases hq with ⟨b, rfl, h2⟩ | ⟨c, rfl, h2⟩
  · exact .inl ⟨b, ha, h2⟩
  · exact .inr ⟨c, ha, h2⟩
end
/-- What reading a number yields: nothing, or a number whose bytes stand in front. -/
def RV (l : Bs) (r : Int × Int) : Prop := r.2 = 0 ∨ ∃ m k : Nat, r = ((m : Int), (k : Int)) ∧ m ≤ 562949953421311 ∧ 1 ≤ k ∧ k ≤ l.length ∧ varL m = l.take k
theorem ssl_take {l : Bs} {b : Nat} (hb : b ≤ l.length) : sslP (strP l) 0 (b : Int) = some (strP (l.take b)) := by
  have := ssl_list (l := l) (a := 0) (b := b) (Nat.zero_le _) hb
  simpa using this
theorem ssl_one {l : Bs} (h : 1 ≤ l.length) : sslP (strP l) 0 1 = some (strP (l.take 1)) := ssl_take h
theorem ssl_two {l : Bs} (h : 2 ≤ l.length) : sslP (strP l) 0 2 = some (strP (l.take 2)) := ssl_take h
theorem take_ne {l : Bs} {k : Nat} (h1 : 1 ≤ k) (h2 : k ≤ l.length) : l.take k ≠ [] := by
  intro h
  have := congrArg List.length h
  rw [List.length_take, List.length_nil] at this
  omega
theorem rv_check {l : Bs} {k : Nat} (h1 : 1 ≤ k) (h2 : k ≤ l.length) {n : Int} {v : Bs} (hv : v = [] ∨ ∃ m : Nat, n = (m : Int) ∧ m ≤ 562949953421311 ∧ v = varL m) (he : strP v = strP (l.take k)) : RV l (n, (k : Int)) := by
  have he := strP_inj.1 he
  rcases hv with rfl | ⟨m, rfl, hm, rfl⟩
  · exact (take_ne h1 h2 he.symm).elim
  · exact .inr ⟨m, k, rfl, hm, h1, h2, he⟩
theorem i_ReadVar_sound (l : Bs) : ∃ r, i_ReadVar (strP l) = some r ∧ RV l r := by
  unfold i_ReadVar
  refine whileP_rule (fun s : Int × Int => ∃ k : Nat, s.2 = (k : Int) ∧ k ≤ 7) (fun s => (7 - s.2).toNat) (RV l) ?_ (0, 0) ⟨0, rfl, by omega⟩
  rintro ⟨n, k'⟩ ⟨k, rfl, hk⟩
  dsimp only
  rw [strP_size]
  by_cases hc : k < l.length ∧ k < 7
  · obtain ⟨hc1, hc2⟩ := hc
    have hx : l[k]? = some l[k] := List.getElem?_eq_getElem hc1
    rw [decide_eq_true (by omega), decide_eq_true (by omega), Bool.true_and, cond_true, sidx_list hx, Option.bind_some]
    unfold shlP
    rw [wrap64_in (n := 7 * (k : Int)) (by unfold inR; omega), if_pos ⟨by omega, by show (7 * (k : Int)) ≤ (64 : Nat); omega⟩, Option.bind_some, Option.bind_some]
    rw [wrap64_in (n := (k : Int) + 1) (by unfold inR; omega)]
    generalize bits .or .i64 n _ = n'
    by_cases hb : (l[k].toNat : Int) < 128
    · right
      obtain ⟨v, hv1, hv2⟩ := i_Var_any n'
      rw [decide_eq_true hb, cond_true, hv1, Option.bind_some, show (k : Int) + 1 = ((k + 1 : Nat) : Int) by omega, ssl_take (by omega), Option.bind_some]
      by_cases he : strP v = strP (l.take (k + 1))
      · rw [decide_eq_true he]
        exact ⟨_, rfl, rv_check (by omega) (by omega) hv2 he⟩
      · rw [decide_eq_false he]
        exact ⟨_, rfl, .inl rfl⟩
    · left
      rw [decide_eq_false hb, cond_false]
      exact ⟨_, rfl, ⟨k + 1, by dsimp only; omega, by omega⟩, by dsimp only; omega⟩
  · right
    have : (decide ((k : Int) < (l.length : Int)) && decide ((k : Int) < 7)) = false := by
      rw [Bool.and_eq_false_iff, decide_eq_false_iff_not, decide_eq_false_iff_not]; omega
    rw [this, cond_false]
    exact ⟨_, rfl, .inl rfl⟩
theorem s_ReadVar_sound (l : Bs) (hl : l.length ≤ 1099511627776) : ∃ r, s_ReadVar (strP l) = some r ∧ RV l r := by
  unfold s_ReadVar
  refine whileP_rule (fun s : Int => ∃ k : Nat, s = (k : Int) ∧ 1 ≤ k ∧ k ≤ 8) (fun s => (8 - s).toNat) (RV l) ?_ 1 ⟨1, rfl, by omega, by omega⟩
  rintro k' ⟨k, rfl, hk1, hk⟩
  rw [strP_size]
  by_cases hc : k ≤ 7 ∧ k ≤ l.length
  · obtain ⟨hc1, hc2⟩ := hc
    rw [decide_eq_true (by omega), decide_eq_true (by omega), Bool.true_and, cond_true, wrap64_in (n := (k : Int) - 1) (by unfold inR; omega), wrap64_in (n := (k : Int) + 1) (by unfold inR; omega)]
    refine whileP_sum (fun s : Int × Int => ∃ j : Nat, s.2 = (j : Int) - 1 ∧ j ≤ k) (fun s => (s.2 + 1).toNat) ?_ (0, (k : Int) - 1) ⟨k, rfl, Nat.le_refl _⟩
    rintro ⟨n, j'⟩ ⟨j, hj, hjk⟩
    dsimp only at hj ⊢
    subst hj
    by_cases h0 : 1 ≤ j
    · left
      have hx : l[j - 1]? = some (l[j - 1]'(by omega)) := List.getElem?_eq_getElem _
      rw [decide_eq_true (by omega), cond_true, show (j : Int) - 1 = ((j - 1 : Nat) : Int) by omega, sidx_list hx, Option.bind_some, wrap64_in (n := ((j - 1 : Nat) : Int) - 1) (by unfold inR; omega)]
      exact ⟨_, rfl, ⟨j - 1, rfl, by omega⟩, by dsimp only; omega⟩
    · right
      obtain ⟨v, hv1, hv2⟩ := s_Var_any n
      rw [decide_eq_false (by omega), cond_false, hv1, Option.bind_some, ssl_take hc2, Option.bind_some]
      by_cases he : strP v = strP (l.take k)
      · rw [decide_eq_true he]
        exact .inr ⟨_, rfl, rv_check hk1 hc2 hv2 he⟩
      · rw [decide_eq_false he]
        exact .inl ⟨_, rfl, ⟨k + 1, by omega, by omega, by omega⟩, by omega⟩
  · right
    have : (decide ((k : Int) ≤ 7) && decide ((k : Int) ≤ (l.length : Int))) = false := by
      rw [Bool.and_eq_false_iff, decide_eq_false_iff_not, decide_eq_false_iff_not]; omega
    rw [this, cond_false]
    exact ⟨_, rfl, .inl rfl⟩
/-! What is written is read. -/
theorem iv1 : ∀ x : Fin 128, bits .or .i64 0 (IntKind.wrap .i64 (IntKind.wrap .i64 (bits .and .u8 ((x.val : Nat) : Int) 127) * 2 ^ (0 : Int).toNat)) = ((x.val : Nat) : Int) := by decide +kernel
theorem iv2 : ∀ x : Fin 73, bits .or .i64 (bits .or .i64 0 (IntKind.wrap .i64 (IntKind.wrap .i64 (bits .and .u8 ((128 + x.val : Nat) : Int) 127) * 2 ^ (0 : Int).toNat))) (IntKind.wrap .i64 (IntKind.wrap .i64 (bits .and .u8 (1 : Int) 127) * 2 ^ (7 : Int).toNat)) = ((128 + x.val : Nat) : Int) := by decide +kernel
theorem sidx0 {l : Bs} {b : UInt8} (h : l[0]? = some b) : sidx (strP l) 0 = some (b.toNat : Int) := sidx_list h
theorem sidx1 {l : Bs} {b : UInt8} (h : l[1]? = some b) : sidx (strP l) 1 = some (b.toNat : Int) := sidx_list h
theorem u8n {m : Nat} (h : m < 256) : (UInt8.ofNat m).toNat = m := by simp; omega
theorem i_ReadVar_hit {m : Nat} {t : Bs} (hm : m ≤ 200) : ∃ r, i_ReadVar (strP (varL m ++ t)) = some r ∧ r.2 ≠ 0 := by
  unfold i_ReadVar
  rw [strP_size]
  by_cases h : m < 128
  · have hv := varL_lt h
    have hx : (varL m ++ t)[0]? = some (UInt8.ofNat m) := by rw [hv]; rfl
    have hl : 1 ≤ (varL m ++ t).length := by rw [hv]; simp
    have ht : (varL m ++ t).take 1 = varL m := by rw [hv]; rfl
    refine ⟨((m : Int), 1), whileP_stop ?_, by show (1 : Int) ≠ 0; decide⟩
    dsimp only
    rw [decide_eq_true (show (0 : Int) < _ by omega), show decide ((0 : Int) < 7) = true from rfl, Bool.true_and, cond_true, sidx0 hx, Option.bind_some, u8n (by omega)]
    unfold shlP
    rw [show IntKind.wrap .i64 (7 * 0) = 0 from rfl, if_pos ⟨by decide, by decide⟩, Option.bind_some, iv1 ⟨m, h⟩, Option.bind_some, decide_eq_true (show (m : Int) < 128 by omega), cond_true]
    dsimp only
    rw [i_Var_eq (by omega), Option.bind_some, show IntKind.wrap .i64 (0 + 1) = ((1 : Nat) : Int) from rfl, ssl_take hl, Option.bind_some, ht]
    simp
  · have hv := varL_ge h
    rw [varL_lt (show m / 128 < 128 by omega), show m / 128 = 1 by omega] at hv
    have hx : (varL m ++ t)[0]? = some (UInt8.ofNat (128 + m % 128)) := by rw [hv]; rfl
    have hx1 : (varL m ++ t)[1]? = some (UInt8.ofNat 1) := by rw [hv]; rfl
    have hl : 2 ≤ (varL m ++ t).length := by rw [hv]; simp
    have ht : (varL m ++ t).take 2 = varL m := by rw [hv]; rfl
    obtain ⟨x, rfl⟩ : ∃ x : Nat, m = 128 + x := ⟨m - 128, by omega⟩
    have e : 128 + (128 + x) % 128 = 128 + x := by omega
    rw [e] at hx
    refine ⟨(((128 + x : Nat) : Int), 2), (whileP_step (s' := (bits .or .i64 0 (IntKind.wrap .i64 (IntKind.wrap .i64 (bits .and .u8 ((128 + x : Nat) : Int) 127) * 2 ^ (0 : Int).toNat)), 1)) ?_).trans (whileP_stop ?_), by show (2 : Int) ≠ 0; decide⟩
    · dsimp only
      rw [decide_eq_true (show (0 : Int) < _ by omega), show decide ((0 : Int) < 7) = true from rfl, Bool.true_and, cond_true, sidx0 hx, Option.bind_some, u8n (by omega)]
      unfold shlP
      rw [show IntKind.wrap .i64 (7 * 0) = 0 from rfl, if_pos ⟨by decide, by decide⟩, Option.bind_some, Option.bind_some, decide_eq_false (show ¬ (((128 + x : Nat) : Int) < 128) by omega), cond_false]
      rfl
    · dsimp only
      rw [decide_eq_true (show (1 : Int) < _ by omega), show decide ((1 : Int) < 7) = true from rfl, Bool.true_and, cond_true, sidx1 hx1, Option.bind_some, u8n (show 1 < 256 by omega)]
      unfold shlP
      rw [show IntKind.wrap .i64 (7 * 1) = 7 from rfl, if_pos ⟨by decide, by decide⟩, Option.bind_some, show (((1 : Nat) : Int)) = 1 from rfl, iv2 ⟨x, by omega⟩, Option.bind_some, show decide ((1 : Int) < 128) = true from rfl, cond_true]
      dsimp only
      rw [i_Var_eq (by omega), Option.bind_some, show IntKind.wrap .i64 (1 + 1) = ((2 : Nat) : Int) from rfl, ssl_take hl, Option.bind_some, ht]
      simp
theorem s_ReadVar_hit {m : Nat} {t : Bs} (hm : m ≤ 200) : ∃ r, s_ReadVar (strP (varL m ++ t)) = some r ∧ r.2 ≠ 0 := by
  unfold s_ReadVar
  rw [strP_size]
  by_cases h : m < 128
  · have hv := varL_lt h
    have hx : (varL m ++ t)[0]? = some (UInt8.ofNat m) := by rw [hv]; rfl
    have hl : 1 ≤ (varL m ++ t).length := by rw [hv]; simp
    have ht : (varL m ++ t).take 1 = varL m := by rw [hv]; rfl
    refine ⟨((m : Int), 1), whileP_stop ?_, by show (1 : Int) ≠ 0; decide⟩
    rw [show decide ((1 : Int) ≤ 7) = true from rfl, decide_eq_true (show (1 : Int) ≤ _ by omega), Bool.true_and, cond_true, show IntKind.wrap .i64 (1 - 1) = 0 from rfl]
    refine (whileP_step (s' := ((m : Int), -1)) ?_).trans (whileP_stop ?_)
    · dsimp only
      rw [show decide ((0 : Int) ≤ 0) = true from rfl, cond_true, sidx0 hx, Option.bind_some, u8n (by omega), wrap64_in (n := (m : Int)) (by unfold inR; omega), Int.tmod_eq_emod_of_nonneg (by omega), show IntKind.wrap .i64 (0 * 128) = 0 from rfl, wrap64_in (by unfold inR; omega)]
      congr 3
      omega
    · dsimp only
      rw [show decide ((0 : Int) ≤ -1) = false from rfl, cond_false, s_Var_eq (by omega), Option.bind_some, ssl_one hl, Option.bind_some, ht]
      simp
  · have hv := varL_ge h
    rw [varL_lt (show m / 128 < 128 by omega), show m / 128 = 1 by omega] at hv
    have hx : (varL m ++ t)[0]? = some (UInt8.ofNat (128 + m % 128)) := by rw [hv]; rfl
    have hx1 : (varL m ++ t)[1]? = some (UInt8.ofNat 1) := by rw [hv]; rfl
    have hl : 2 ≤ (varL m ++ t).length := by rw [hv]; simp
    have ht : (varL m ++ t).take 2 = varL m := by rw [hv]; rfl
    have ht1 : (varL m ++ t).take 1 = [UInt8.ofNat (128 + m % 128)] := by rw [hv]; rfl
    refine ⟨((m : Int), 2), (whileP_step (s' := 2) ?_).trans (whileP_stop ?_), by show (2 : Int) ≠ 0; decide⟩
    · rw [show decide ((1 : Int) ≤ 7) = true from rfl, decide_eq_true (show (1 : Int) ≤ _ by omega), Bool.true_and, cond_true, show IntKind.wrap .i64 (1 - 1) = 0 from rfl]
      refine (whileP_step (s' := (((m % 128 : Nat) : Int), -1)) ?_).trans (whileP_stop ?_)
      · dsimp only
        rw [show decide ((0 : Int) ≤ 0) = true from rfl, cond_true, sidx0 hx, Option.bind_some, u8n (by omega), wrap64_in (n := ((128 + m % 128 : Nat) : Int)) (by unfold inR; omega), Int.tmod_eq_emod_of_nonneg (by omega), show IntKind.wrap .i64 (0 * 128) = 0 from rfl, wrap64_in (n := 0 + _) (by unfold inR; omega)]
        congr 3
        omega
      · dsimp only
        rw [show decide ((0 : Int) ≤ -1) = false from rfl, cond_false, s_Var_eq (by omega), Option.bind_some, ssl_one (by omega), Option.bind_some, ht1, varL_lt (by omega), decide_eq_false ?_]
        · rfl
        · intro he
          have := congrArg UInt8.toNat (List.cons.inj (strP_inj.1 he)).1
          rw [u8n (by omega), u8n (by omega)] at this
          omega
    · rw [show decide ((2 : Int) ≤ 7) = true from rfl, decide_eq_true (show (2 : Int) ≤ _ by omega), Bool.true_and, cond_true, show IntKind.wrap .i64 (2 - 1) = 1 from rfl]
      refine (whileP_step (s' := (1, 0)) ?_).trans ((whileP_step (s' := ((m : Int), -1)) ?_).trans (whileP_stop ?_))
      · dsimp only
        rw [show decide ((0 : Int) ≤ 1) = true from rfl, cond_true, sidx1 hx1, Option.bind_some, u8n (show 1 < 256 by omega)]
        rfl
      · dsimp only
        rw [show decide ((0 : Int) ≤ 0) = true from rfl, cond_true, sidx0 hx, Option.bind_some, u8n (by omega), wrap64_in (n := ((128 + m % 128 : Nat) : Int)) (by unfold inR; omega), Int.tmod_eq_emod_of_nonneg (by omega), show IntKind.wrap .i64 (1 * 128) = 128 from rfl, wrap64_in (n := 128 + _) (by unfold inR; omega)]
        congr 3
        omega
      · dsimp only
        rw [show decide ((0 : Int) ≤ -1) = false from rfl, cond_false, s_Var_eq (by omega), Option.bind_some, ssl_two hl, Option.bind_some, ht]
        simp
end Go.Proofs.SL
