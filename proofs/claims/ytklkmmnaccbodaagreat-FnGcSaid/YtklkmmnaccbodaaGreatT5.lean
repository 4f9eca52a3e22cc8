/- The texts of the proof, part 5: the base, walks of functions, plain Lean. -/
import Derived.Test.YtklkmmnaccbodaaGreatT4
namespace Go.Proofs.SL
open Go
theorem whileP_to {σ α : Type} {f : σ → Option (σ ⊕ α)} {s : σ} (G : Option α → Prop) (I : σ → Prop) (μ : σ → Nat) (Q : α → Prop) (hg : ∀ a, Q a → G (some a)) (hs : I s)
    (h : ∀ s, I s → (∃ s', f s = some (.inl s') ∧ I s' ∧ μ s' < μ s) ∨ ∃ a, f s = some (.inr a) ∧ Q a) : G (whileP f s) := by
  obtain ⟨a, ha, hq⟩ := whileP_rule I μ Q h s hs
  rw [ha]; exact hg a hq
/-- What draws hand out of uploads. -/
def UF (u : D_Ups) : Prop := Ok.ok u ∧ u.2.length ≤ 30
theorem uf_nil : UF (0, []) := ⟨⟨by show inR 0; unfold inR; omega, by simp, fun x hx => by cases hx⟩, by simp⟩
def upNextD (d : D_Ups) : D_Ups × Bool := if upsOkB d then (if 1000 ≤ d.1 then (d, false) else ((d.1 + 1, d.2), true)) else ((0, []), false)
theorem s_UpNext_eq {d : D_Ups} (ho : Ok.ok d) : s_UpNext d = some (upNextD d) := by
  unfold s_UpNext upNextD
  rw [show s_UpsOk (d.1, d.2) = some (upsOkB d) from s_UpsOk_eq ho, Option.bind_some]
  cases h : upsOkB d with
  | false => rfl
  | true =>
    have hb := (upsOk_facts h).1
    rw [show s_l18Copy (d.1, d.2) = some d from (ups_copy h).1, Option.bind_some]
    simp only [Bool.not_true, cond_false, if_true]
    by_cases hc : 1000 ≤ d.1
    · rw [decide_eq_true hc, if_pos hc]; rfl
    · rw [decide_eq_false hc, if_neg hc, wrap64_in (n := d.1 + 1) (by unfold inR; omega)]; rfl
theorem next_uf {d : D_Ups} (h : UF d) : UF (upNextD d).1 := by
  unfold upNextD
  split
  · rename_i hk
    have hb := (upsOk_facts hk).1
    split
    · exact h
    · exact ⟨⟨by show inR (d.1 + 1); unfold inR; omega, h.1.2⟩, h.2⟩
  · exact uf_nil
theorem ack_uf {d : D_Ups} {c : ByteArray} {n : Int} (h : UF d) (hc : c.size ≤ 9223372036854775807) : UF (upAckD d c n).1 := by
  unfold upAckD
  split
  · split
    · rename_i hk
      have := (upsOk_facts (Bool.and_eq_true_iff.1 hk).2).2.1
      exact ⟨ackSet_ok h.1 (by have := h.2; omega) hc, by dsimp only; omega⟩
    · exact h
  · exact uf_nil
theorem lost_uf {d : D_Ups} {c : ByteArray} {n : Int} (h : UF d) : UF (upLostD d c n).1 := by
  unfold upLostD
  split
  · split
    · exact h
    · rename_i k hk
      split
      · exact h
      · rename_i x hx
        have hxo := h.1.2.2 x (List.mem_of_getElem? hx)
        split
        · dsimp only
          split
          · refine ⟨⟨h.1.1, by have := List.length_eraseIdx_le d.2 k; have := h.2; show (d.2.eraseIdx k).length ≤ _; omega, fun y hy => h.1.2.2 y (List.mem_of_mem_eraseIdx hy)⟩, by have := List.length_eraseIdx_le d.2 k; have := h.2; show (d.2.eraseIdx k).length ≤ _; omega⟩
          · refine ⟨⟨h.1.1, by have := h.2; show (d.2.set k _).length ≤ _; rw [List.length_set]; omega, fun y hy => ?_⟩, by show (d.2.set k _).length ≤ _; rw [List.length_set]; exact h.2⟩
            rcases List.mem_or_eq_of_mem_set hy with hy | rfl
            · exact h.1.2.2 y hy
            · exact ⟨hxo.1, ⟨Nat.le_trans (List.length_filter_le _ _) hxo.2.1.1, fun z hz => hxo.2.1.2 z (List.mem_filter.1 hz).1⟩, hxo.2.2⟩
        · exact h
  · exact uf_nil
theorem some18_ok {c : D_l1Cur} (hc : CurOk c) : ∃ u c', s_l18Some c = some (u, c') ∧ (Ok.ok u ∧ u.2.length ≤ 31) ∧ CurOk c' := by
  unfold s_l18Some
  simp only [Prod.eta]
  obtain ⟨n, c1, e1, g1, hc1, k1⟩ := below_ok' hc 16
  rw [e1, Option.bind_some]
  dsimp only
  refine whileP_to (fun o => ∃ u c', o = some (u, c') ∧ (Ok.ok u ∧ u.2.length ≤ 31) ∧ CurOk c') (fun s : Int × Int × Int × Int × List D_Up => CurOk (c1.1, s.2.1, s.2.2.1) ∧ UF (s.2.2.2.1, s.2.2.2.2) ∧ s.1 ≤ 16) (fun s => s.1.toNat) (fun r : D_Ups × D_l1Cur => (Ok.ok r.1 ∧ r.1.2.length ≤ 31) ∧ CurOk r.2)
    (fun a ha => ⟨a.1, a.2, rfl, ha.1, ha.2⟩) ?_ ?_
  · have := g1.2.1 (by omega)
    exact ⟨hc1, uf_nil, by dsimp only; omega⟩
  rintro ⟨n, p, q, ep, l⟩ ⟨hcur, hu, hn⟩
  dsimp only at hcur hu hn ⊢
  by_cases h0 : 0 < n
  · left
    simp only [decide_eq_true h0, cond_true]
    have hw : IntKind.wrap .i64 (n - 1) = n - 1 := wrap64_in (by unfold inR; omega)
    have fin : ∀ (c' : D_l1Cur) (u : D_Ups), CurOk c' → c'.1 = c1.1 → UF u → ∃ s' : Int × Int × Int × Int × List D_Up, some (Sum.inl (IntKind.wrap .i64 (n - 1), c'.2.1, c'.2.2, u.1, u.2) : (Int × Int × Int × Int × List D_Up) ⊕ (D_Ups × D_l1Cur)) = some (.inl s') ∧ (CurOk (c1.1, s'.2.1, s'.2.2.1) ∧ UF (s'.2.2.2.1, s'.2.2.2.2) ∧ s'.1 ≤ 16) ∧ s'.1.toNat < n.toNat := by
      intro c' u h1 h2 h3
      refine ⟨_, rfl, ⟨by rw [← h2]; exact h1, h3, ?_⟩, ?_⟩ <;> dsimp only <;> omega
    obtain ⟨x, c2, e2, g2, hc2, k2⟩ := below_ok' hcur 6
    rw [e2, Option.bind_some]
    dsimp only
    cases decide (x = 0) with
    | true =>
      rw [cond_true, s_UpNext_eq hu.1, Option.bind_some]
      exact fin c2 _ hc2 k2 (next_uf hu)
    | false =>
      rw [cond_false]
      obtain ⟨t, c3, e3, g3, hc3, k3⟩ := chunk_ok hc2
      obtain ⟨y, c4, e4, g4, hc4, k4⟩ := below_ok' hc3 3
      cases decide (x = 1) with
      | true =>
        rw [cond_true, e3, Option.bind_some]
        dsimp only
        rw [e4, Option.bind_some]
        dsimp only
        rw [s_UpLost_eq hu.1, Option.bind_some]
        exact fin c4 _ hc4 (by rw [k4, k3, k2]) (lost_uf hu)
      | false =>
        rw [cond_false, e3, Option.bind_some]
        dsimp only
        rw [e4, Option.bind_some]
        dsimp only
        rw [s_UpAck_eq hu.1 (show Ok.ok t from by show t.size ≤ _; omega), Option.bind_some]
        exact fin c4 _ hc4 (by rw [k4, k3, k2]) (ack_uf hu (by omega))
  · right
    simp only [decide_eq_false h0, cond_false]
    have hu2 : (Ok.ok ((ep, l) : D_Ups) ∧ l.length ≤ 31) := ⟨hu.1, by have := hu.2; dsimp only at this; omega⟩
    obtain ⟨b, c2, e2, hc2⟩ := once_ok hcur 10
    rw [e2, Option.bind_some]
    dsimp only
    cases b with
    | false => rw [cond_false]; exact ⟨_, rfl, hu2, hc2⟩
    | true =>
      rw [cond_true]
      obtain ⟨x, c3, e3, g3, hc3, k3⟩ := below_ok' hc2 3
      rw [e3, Option.bind_some]
      dsimp only
      cases decide (x = 0) with
      | true =>
        rw [cond_true, Option.bind_some]
        obtain ⟨y, c4, e4, m4, hc4, k4⟩ := pickint_ok' hc3 (l := [(-1), 0, 1000, 1001]) (by simp)
        rw [e4, Option.bind_some]
        refine ⟨_, rfl, ⟨⟨?_, hu2.1.2⟩, hu2.2⟩, hc4⟩
        simp only [List.mem_cons, List.not_mem_nil, or_false] at m4
        show inR y
        unfold inR; omega
      | false =>
        rw [cond_false]
        cases decide (x = 1) with
        | true =>
          rw [cond_true]
          obtain ⟨t, c4, e4, g4, hc4, k4⟩ := chunk_ok hc3
          rw [e4, Option.bind_some]
          dsimp only
          obtain ⟨y, c5, e5, g5, hc5, k5⟩ := below_ok' hc4 4
          rw [e5, Option.bind_some]
          dsimp only [Option.bind_some]
          have hl := hu.2
          dsimp only at hl
          rw [appP_ok (by simp; omega)]
          refine ⟨_, rfl, ⟨⟨hu2.1.1, by show (l ++ _).length ≤ _; simp; omega, fun z hz => ?_⟩, by show (l ++ _).length ≤ _; simp; omega⟩, hc5⟩
          rcases List.mem_append.1 hz with hz | hz
          · exact hu2.1.2.2 z hz
          · obtain rfl := List.mem_singleton.1 hz
            have := g5.2.1 (by omega)
            refine ⟨by show t.size ≤ _; omega, ⟨by simp, fun w hw => ?_⟩, by show inR 0; unfold inR; omega⟩
            obtain rfl := List.mem_singleton.1 hw
            show inR w
            unfold inR; omega
        | false =>
          rw [cond_false]
          cases l with
          | nil => exact ⟨_, rfl, hu2, hc3⟩
          | cons s l =>
            have hd : decide (0 < ((s :: l).length : Int)) = true := by simp
            have hx : idx (s :: l) 0 = some s := by rw [show (0 : Int) = ((0 : Nat) : Int) from rfl, idx_nat]; rfl
            rw [hd]
            simp only [cond_true, hx, Option.bind_some]
            refine ⟨_, rfl, ⟨⟨hu2.1.1, hu2.1.2.1, fun z hz => ?_⟩, hu2.2⟩, hc3⟩
            rcases List.mem_or_eq_of_mem_set hz with hz | rfl
            · exact hu2.1.2.2 z hz
            · have := hu2.1.2.2 s (List.mem_cons_self)
              exact ⟨this.1, ⟨by simp, fun w hw => by cases hw⟩, this.2.2⟩
end Go.Proofs.SL
namespace Go.Proofs.SL
open Go
theorem containsS_eq {l : List ByteArray} {n : ByteArray} (h : l.length ≤ 9223372036854775807) : sl_Contains_stringstring l n = some (l.any fun x => decide (x = n)) := by
  unfold sl_Contains_stringstring sl_Index_stringstring
  rw [whileP_find (l := l) (fun x : ByteArray => decide (x = n)) some h]
  · rw [Option.bind_some, firstI_any]
  · intro k x hx
    have hlt := (List.getElem?_eq_some_iff.1 hx).1
    simp only [lt_dec hlt, cond_true, idx_nat, hx, Option.bind_some]
    have : decide (n = x) = decide (x = n) := by rw [Bool.eq_iff_iff]; simp [eq_comm]
    rw [this]
    cases decide (x = n) <;> rfl
  · simp only [ge_dec]; rfl
theorem upsOk_of {d : D_Ups} (h1 : 0 ≤ d.1 ∧ d.1 ≤ 1000) (h2 : d.2.length ≤ 20) (h3 : ∀ x, x ∈ d.2 → x.1.size = 8 ∧ x.2.1.length ≠ 0 ∧ (0 ≤ x.2.2 ∧ x.2.2 ≤ d.1) ∧ nodesOk x.2.1 = true) (h4 : d.2.Pairwise (fun a b => sLt a.1 b.1 = true)) : upsOkB d = true := by
  unfold upsOkB
  simp only [Bool.and_eq_true, decide_eq_true_eq, List.all_eq_true, List.mem_range]
  refine ⟨⟨h1, h2⟩, fun k hk => ?_⟩
  unfold upOk
  rw [List.getElem?_eq_getElem hk]
  obtain ⟨g1, g2, g3, g4⟩ := h3 _ (List.getElem_mem hk)
  simp only [Bool.and_eq_true, Bool.or_eq_true, decide_eq_true_eq, Bool.not_eq_true', decide_eq_false_iff_not]
  refine ⟨⟨⟨⟨by omega, ?_⟩, by omega⟩, g3⟩, g4⟩
  rcases Nat.eq_zero_or_pos k with h0 | h0
  · exact .inl h0
  · right
    rw [List.getElem?_eq_getElem (by omega)]
    exact List.pairwise_iff_getElem.1 h4 (k - 1) k (by omega) hk (by omega)
/-- What stays. -/
def keepB (c : D_Catalog) (e : Int) (x : D_Up) : Bool := ((allL c).any fun y => decide (y = x.1)) || decide (e - 2 < x.2.2)
def markedD (c : D_Catalog) (u : D_Ups) : List ByteArray := if catOkB c && upsOkB u then (u.2.filter (keepB c u.1)).map (·.1) else []
def sweepD (c : D_Catalog) (u : D_Ups) : D_Ups × List ByteArray := if upsOkB u then (if catOkB c then ((u.1, u.2.filter (keepB c u.1)), (u.2.filter fun x => !keepB c u.1 x).map (·.1)) else (u, [])) else ((0, []), [])
theorem foldl_fm {β γ : Type} (p : β → Bool) (g : β → γ) : ∀ (xs : List β) (a : List γ), xs.foldl (fun t x => if p x then t ++ [g x] else t) a = a ++ (xs.filter p).map g
  | [], a => by simp
  | x :: xs, a => by
    rw [List.foldl_cons]
    cases hp : p x with
    | true => simp only [hp, if_true]; rw [foldl_fm p g xs]; simp [hp]
    | false => simp only [hp, Bool.false_eq_true, if_false]; rw [foldl_fm p g xs]; simp [hp]
theorem i_Marked_eq {c : D_Catalog} {u : D_Ups} (hc : Ok.ok c) (hu : Ok.ok u) : i_Marked c u = some (markedD c u) := by
  unfold i_Marked markedD
  rw [i_CatOk_eq hc, Option.bind_some, show i_UpsOk (u.1, u.2) = some (upsOkB u) from i_UpsOk_eq hu, gbs]
  cases h1 : catOkB c with
  | false => rfl
  | true =>
    cases h2 : upsOkB u with
    | false => rfl
    | true =>
      obtain ⟨b1, b2, b3, b4⟩ := upsOk_facts h2
      simp only [Bool.not_true, Bool.not_false, if_true, Bool.or_self, cond_false, Bool.and_self]
      rw [i_AllChunks_eq hc, Option.bind_some, Option.bind_some, wrap64_in (n := u.1 - 2) (by unfold inR; omega)]
      rw [whileP_for (l := u.2) (fun k (t : List ByteArray) => (t, (k : Int))) (fun t x => .inl (if keepB c u.1 x then t ++ [x.1] else t)) (fun t => some t) (fun k t => t.length ≤ k) [] (s0 := ([], 0)) rfl (Nat.le_refl _), goE_fold, foldl_fm (keepB c u.1) (fun x => x.1)]
      · simp
      · intro k t x hx hI
        have hlt := (List.getElem?_eq_some_iff.1 hx).1
        try dsimp only at hI
        simp only [lt_dec hlt, cond_true, idx_nat, hx, Option.bind_some, containsS_eq (show (allL c).length ≤ 9223372036854775807 by have := allL_len hc; omega), wrap_succ (show k < 9223372036854775807 by omega)]
        cases hk : keepB c u.1 x with
        | true =>
          refine .inl ⟨t ++ [x.1], rfl, ?_, by simp; omega⟩
          unfold keepB at hk
          rw [hk, cond_true, appP_ok (by simp; omega)]; rfl
        | false =>
          refine .inl ⟨t, rfl, ?_, by omega⟩
          unfold keepB at hk
          rw [hk, cond_false]
      · intro t ht
        simp only [ge_dec]; rfl
theorem s_Marked_eq {c : D_Catalog} {u : D_Ups} (hc : Ok.ok c) (hu : Ok.ok u) : s_Marked c u = some (markedD c u) := by
  unfold s_Marked markedD
  rw [Option.bind_some, s_CatOk_eq hc, Option.bind_some, show s_UpsOk (u.1, u.2) = some (upsOkB u) from s_UpsOk_eq hu, gbs]
  cases h1 : catOkB c with
  | false => rfl
  | true =>
    cases h2 : upsOkB u with
    | false => rfl
    | true =>
      obtain ⟨b1, b2, b3, b4⟩ := upsOk_facts h2
      simp only [Bool.not_true, Bool.not_false, if_true, Bool.or_self, cond_false, Bool.and_self]
      rw [s_AllChunks_eq hc, Option.bind_some, wrap64_in (n := u.1 - 2) (by unfold inR; omega)]
      rw [whileP_for (l := u.2) (fun k (t : List ByteArray) => (t, (k : Int))) (fun t x => .inl (if keepB c u.1 x then t ++ [x.1] else t)) (fun t => some t) (fun k t => t.length ≤ k) [] (s0 := ([], 0)) rfl (Nat.le_refl _), goE_fold, foldl_fm (keepB c u.1) (fun x => x.1)]
      · simp
      · intro k t x hx hI
        have hlt := (List.getElem?_eq_some_iff.1 hx).1
        try dsimp only at hI
        simp only [lt_dec hlt, cond_true, idx_nat, hx, Option.bind_some, s_l15In_eq (show (allL c).length ≤ 9223372036854775807 by have := allL_len hc; omega), wrap_succ (show k < 9223372036854775807 by omega), gbs]
        cases hk : keepB c u.1 x with
        | true =>
          refine .inl ⟨t ++ [x.1], rfl, ?_, by simp; omega⟩
          unfold keepB at hk
          cases ha : (allL c).any fun y => decide (y = x.1) with
          | true => simp only [Bool.not_true, Bool.false_eq_true, if_false, Bool.true_or, cond_true]; rw [appP_ok (by simp; omega)]; rfl
          | false => rw [ha, Bool.false_or] at hk; simp only [Bool.not_false, if_true, Bool.false_or, hk, cond_true]; rw [appP_ok (by simp; omega)]; rfl
        | false =>
          refine .inl ⟨t, rfl, ?_, by omega⟩
          unfold keepB at hk
          rw [Bool.or_eq_false_iff] at hk
          rw [hk.1]; simp only [Bool.not_false, if_true, Bool.false_or, hk.2, cond_false]
      · intro t ht
        simp only [ge_dec]; rfl
/-- Of what is listed once. -/
theorem up_uniq {l : List D_Up} (h : l.Pairwise (fun a b => sLt a.1 b.1 = true)) {a b : D_Up} (ha : a ∈ l) (hb : b ∈ l) (e : a.1 = b.1) : a = b := by
  induction l with
  | nil => cases ha
  | cons x l ih =>
    obtain ⟨h1, h2⟩ := List.pairwise_cons.1 h
    rcases List.mem_cons.1 ha with ea | ha
    · rcases List.mem_cons.1 hb with eb | hb
      · rw [ea, eb]
      · have := h1 b hb; rw [← ea, e] at this; exact absurd this (by rw [sLt_irrefl]; simp)
    · rcases List.mem_cons.1 hb with eb | hb
      · have := h1 a ha; rw [← eb, e] at this; exact absurd this (by rw [sLt_irrefl]; simp)
      · exact ih h2 ha hb
theorem marked_any {c : D_Catalog} {u : D_Ups} (h1 : catOkB c = true) (h2 : upsOkB u = true) {x : D_Up} (hx : x ∈ u.2) : ((markedD c u).any fun y => decide (y = x.1)) = keepB c u.1 x := by
  unfold markedD
  rw [h1, h2]
  simp only [Bool.and_self, if_true]
  rw [Bool.eq_iff_iff, List.any_eq_true]
  constructor
  · rintro ⟨y, hy, e⟩
    obtain ⟨z, hz, rfl⟩ := List.mem_map.1 hy
    obtain ⟨m1, m2⟩ := List.mem_filter.1 hz
    have := up_uniq (upsOk_facts h2).2.2.2 m1 hx (of_decide_eq_true e)
    rw [← this]; exact m2
  · intro hk
    exact ⟨x.1, List.mem_map.2 ⟨x, List.mem_filter.2 ⟨hx, hk⟩, rfl⟩, decide_eq_true rfl⟩
def UFL (u : D_Ups) : Prop := u.2.length ≤ 1000
theorem marked_len {c : D_Catalog} {u : D_Ups} (hu : UFL u) : (markedD c u).length ≤ 1000 := by
  unfold markedD
  split
  · rw [List.length_map]; exact Nat.le_trans (List.length_filter_le _ _) hu
  · simp
theorem foldl_part {β γ : Type} (p : β → Bool) (g : β → γ) : ∀ (xs : List β) (a : List γ) (b : List β),
    xs.foldl (fun t x => if p x then (t.1, t.2 ++ [x]) else (t.1 ++ [g x], t.2)) (a, b) = (a ++ (xs.filter fun x => !p x).map g, b ++ xs.filter p)
  | [], a, b => by simp
  | x :: xs, a, b => by
    rw [List.foldl_cons]
    cases hp : p x with
    | true => simp only [hp, if_true]; rw [foldl_part p g xs a (b ++ [x])]; simp [hp]
    | false => simp only [hp, Bool.false_eq_true, if_false]; rw [foldl_part p g xs (a ++ [g x]) b]; simp [hp]
theorem i_Sweep_eq {c : D_Catalog} {u : D_Ups} (hc : Ok.ok c) (hu : Ok.ok u) : i_Sweep c u = some (sweepD c u) := by
  unfold i_Sweep sweepD
  rw [show i_UpsOk (u.1, u.2) = some (upsOkB u) from i_UpsOk_eq hu, Option.bind_some]
  cases h2 : upsOkB u with
  | false => rfl
  | true =>
    obtain ⟨b1, b2, b3, b4⟩ := upsOk_facts h2
    simp only [Bool.not_true, cond_false, if_true]
    rw [i_CatOk_eq hc, Option.bind_some]
    cases h1 : catOkB c with
    | false =>
      simp only [Bool.not_false, cond_true, Bool.false_eq_true, if_false]
      rw [show i_copyUps (u.1, u.2) = some u from (ups_copy h2).2]; rfl
    | true =>
      simp only [Bool.not_true, cond_false, if_true]
      rw [show i_Marked c (u.1, u.2) = some (markedD c u) from i_Marked_eq hc hu, Option.bind_some, Option.bind_some, show i_copyUps (u.1, u.2) = some u from (ups_copy h2).2, Option.bind_some]
      rw [whileP_for (l := u.2) (fun k (t : List ByteArray × List D_Up) => (t.1, (k : Int), t.2)) (fun t x => .inl (if keepB c u.1 x then (t.1, t.2 ++ [x]) else (t.1 ++ [x.1], t.2))) (fun t => some ((u.1, t.2), t.1)) (fun k t => t.1.length ≤ k ∧ t.2.length ≤ k) ([], []) (s0 := ([], 0, [])) rfl ⟨Nat.le_refl _, Nat.le_refl _⟩, goE_fold, foldl_part (keepB c u.1) (fun x => x.1)]
      · simp
      · intro k t x hx hI
        have hlt := (List.getElem?_eq_some_iff.1 hx).1
        try dsimp only at hI
        have hm := marked_len (c := c) (u := u) (by show u.2.length ≤ 1000; omega)
        simp only [lt_dec hlt, cond_true, idx_nat, hx, Option.bind_some, containsS_eq (show (markedD c u).length ≤ 9223372036854775807 by omega), marked_any h1 h2 (List.mem_of_getElem? hx), wrap_succ (show k < 9223372036854775807 by omega)]
        cases hk : keepB c u.1 x with
        | true =>
          refine .inl ⟨(t.1, t.2 ++ [x]), rfl, ?_, by dsimp only; omega, by simp; omega⟩
          rw [cond_true, appP_ok (by simp; omega)]; rfl
        | false =>
          refine .inl ⟨(t.1 ++ [x.1], t.2), rfl, ?_, by simp; omega, by dsimp only; omega⟩
          rw [cond_false, appP_ok (by simp; omega)]; rfl
      · intro t ht
        simp only [ge_dec]; rfl
theorem s_Sweep_eq {c : D_Catalog} {u : D_Ups} (hc : Ok.ok c) (hu : Ok.ok u) : s_Sweep c u = some (sweepD c u) := by
  unfold s_Sweep sweepD
  rw [Option.bind_some, show s_UpsOk (u.1, u.2) = some (upsOkB u) from s_UpsOk_eq hu, Option.bind_some]
  cases h2 : upsOkB u with
  | false => rfl
  | true =>
    obtain ⟨b1, b2, b3, b4⟩ := upsOk_facts h2
    simp only [Bool.not_true, cond_false, if_true]
    rw [show s_l18Copy (u.1, u.2) = some u from (ups_copy h2).1, Option.bind_some, s_CatOk_eq hc, Option.bind_some]
    cases h1 : catOkB c with
    | false => rfl
    | true =>
      simp only [Bool.not_true, cond_false, if_true]
      rw [show s_Marked c (u.1, u.2) = some (markedD c u) from s_Marked_eq hc hu, Option.bind_some, Option.bind_some]
      rw [whileP_for (l := u.2) (fun k (t : List ByteArray × List D_Up) => (t.1, t.2, (k : Int))) (fun t x => .inl (if keepB c u.1 x then (t.1, t.2 ++ [x]) else (t.1 ++ [x.1], t.2))) (fun t => some ((u.1, t.2), t.1)) (fun k t => t.1.length ≤ k ∧ t.2.length ≤ k) ([], []) (s0 := ([], [], 0)) rfl ⟨Nat.le_refl _, Nat.le_refl _⟩, goE_fold, foldl_part (keepB c u.1) (fun x => x.1)]
      · simp
      · intro k t x hx hI
        have hlt := (List.getElem?_eq_some_iff.1 hx).1
        try dsimp only at hI
        have hm := marked_len (c := c) (u := u) (by show u.2.length ≤ 1000; omega)
        simp only [lt_dec hlt, cond_true, idx_nat, hx, Option.bind_some, s_l15In_eq (show (markedD c u).length ≤ 9223372036854775807 by omega), marked_any h1 h2 (List.mem_of_getElem? hx), wrap_succ (show k < 9223372036854775807 by omega)]
        cases hk : keepB c u.1 x with
        | true =>
          refine .inl ⟨(t.1, t.2 ++ [x]), rfl, ?_, by dsimp only; omega, by simp; omega⟩
          rw [cond_true, appP_ok (by simp; omega)]; rfl
        | false =>
          refine .inl ⟨(t.1 ++ [x.1], t.2), rfl, ?_, by simp; omega, by dsimp only; omega⟩
          rw [cond_false, appP_ok (by simp; omega)]; rfl
      · intro t ht
        simp only [ge_dec]; rfl
end Go.Proofs.SL
namespace Go.Proofs.SL
open Go
theorem swept_ok {u : D_Ups} (p : D_Up → Bool) (h : upsOkB u = true) : upsOkB (u.1, u.2.filter p) = true := by
  obtain ⟨h1, h2, h3, h4⟩ := upsOk_facts h
  exact upsOk_of h1 (Nat.le_trans (List.length_filter_le _ _) h2) (fun x hx => h3 x (List.mem_filter.1 hx).1) (List.Pairwise.filter _ h4)
theorem ok_filter {u : D_Ups} (p : D_Up → Bool) (h : Ok.ok u) : Ok.ok ((u.1, u.2.filter p) : D_Ups) :=
  ⟨h.1, Nat.le_trans (List.length_filter_le _ _) h.2.1, fun x hx => h.2.2 x (List.mem_filter.1 hx).1⟩
theorem find_filter {α : Type} {p q : α → Bool} : ∀ {l : List α}, (∀ x, x ∈ l → q x = true → p x = true) → (l.filter p).find? q = l.find? q
  | [], _ => rfl
  | x :: l, h => by
    have ih := find_filter (l := l) fun y hy => h y (List.mem_cons_of_mem _ hy)
    cases hp : p x with
    | true =>
      rw [List.filter_cons_of_pos hp]
      cases hq : q x with
      | true => rw [List.find?_cons_of_pos hq, List.find?_cons_of_pos hq]
      | false => rw [List.find?_cons_of_neg (by simp [hq]), List.find?_cons_of_neg (by simp [hq]), ih]
    | false =>
      have hq : q x = false := by
        cases hq : q x with
        | false => rfl
        | true => have := h x (List.mem_cons_self) hq; rw [hp] at this; cases this
      rw [List.filter_cons_of_neg (by simp [hp]), List.find?_cons_of_neg (by simp [hq]), ih]
theorem part_len {α : Type} (p : α → Bool) : ∀ l : List α, (l.filter p).length + (l.filter fun x => !p x).length = l.length
  | [] => rfl
  | x :: l => by
    have := part_len p l
    cases h : p x <;> simp [h] <;> omega
theorem safe_same {c : D_Catalog} {u : D_Ups} (h : upsOkB u = true) : safeB c (sweepD c u).1 = safeB c u := by
  unfold sweepD
  rw [if_pos h]
  cases h1 : catOkB c with
  | false => rfl
  | true =>
    simp only [if_true]
    unfold safeB
    rw [swept_ok _ h, h]
    congr 1
    rw [Bool.eq_iff_iff, List.all_eq_true, List.all_eq_true]
    have key : ∀ y, y ∈ allL c → upNodes (u.1, u.2.filter (keepB c u.1)) y = upNodes u y := fun y hy => by
      unfold upNodes upFind
      rw [find_filter fun x _ hq => ?_]
      have e : x.1 = y := of_decide_eq_true hq
      unfold keepB
      have : ((allL c).any fun z => decide (z = x.1)) = true := List.any_eq_true.2 ⟨y, hy, decide_eq_true e.symm⟩
      rw [this]; rfl
    exact ⟨fun g y hy => by rw [← key y hy]; exact g y hy, fun g y hy => by rw [key y hy]; exact g y hy⟩
theorem hasText_eq {l : List ByteArray} {t : ByteArray} (h : l.length ≤ 9223372036854775807) : w_hasText l t = some (l.any fun x => decide (x = t)) := by
  unfold w_hasText
  rw [whileP_find (l := l) (fun x : ByteArray => decide (x = t)) (fun i => some (decide (0 ≤ i))) h]
  · rw [firstI_any]
  · intro k x hx
    have hlt := (List.getElem?_eq_some_iff.1 hx).1
    simp only [lt_dec hlt, cond_true, idx_nat, hx, Option.bind_some]
    cases decide (x = t) with
    | true => simp only [cond_true, if_true]; rw [decide_eq_true (show (0 : Int) ≤ (k : Int) by omega)]
    | false => rfl
  · simp only [ge_dec]; rfl
theorem sameTexts_refl {l : List ByteArray} (hl : l.length ≤ 1000000) : w_sameTexts l l = some true := by
  unfold w_sameTexts
  rw [decide_eq_true rfl]
  simp only [Bool.not_true, cond_false]
  refine whileP_is (fun s => 0 ≤ s ∧ s ≤ l.length) (fun s => (l.length - s).toNat) (fun s hs => ?_) (by omega)
  by_cases h1 : s < (l.length : Int)
  · left
    obtain ⟨k, rfl⟩ := Int.eq_ofNat_of_zero_le hs.1
    have hk : l[k]? = some (l[k]'(by omega)) := List.getElem?_eq_getElem _
    rw [decide_eq_true h1, cond_true, idx_nat, hk]
    simp only [Option.bind_some, decide_true, Bool.not_true, cond_false]
    refine ⟨((k : Int) + 1), ?_, by omega, by omega⟩
    rw [wrap64_in (by unfold inR; omega)]
  · right
    rw [decide_eq_false h1, cond_false]; rfl
theorem allL_size {c : D_Catalog} {x : ByteArray} (hc : Ok.ok c) (h : x ∈ allL c) : x.size ≤ 9223372036854775807 := by
  unfold allL at h
  split at h
  · rcases ((foldPut_facts (chunksOf c) [] List.Pairwise.nil).2 x).1 h with h | h
    · unfold chunksOf at h
      obtain ⟨s, hs, h⟩ := List.mem_flatMap.1 h
      obtain ⟨p, hp, h⟩ := List.mem_flatMap.1 h
      exact ((hc.2 s hs).2.2 p hp).2.2.2 x h
    · cases h
  · cases h
theorem drawSafe_ok {l : List UInt8} (h : l.length ≤ 1048576) : ∃ c u, s_DrawSafe l = some (c, u) ∧ Ok.ok c ∧ (Ok.ok u ∧ u.2.length ≤ 31) := by
  unfold s_DrawSafe
  obtain ⟨c0, e0, h0⟩ := new_ok h
  rw [e0, Option.bind_some]
  obtain ⟨c, c1, e1, g1, h1, k1⟩ := some15_ok (d := (c0.1, c0.2.1, c0.2.2)) h0
  rw [e1, Option.bind_some]
  obtain ⟨u, c2, e2, g2, h2⟩ := some18_ok (c := (c1.1, c1.2.1, c1.2.2)) h1
  dsimp only
  rw [e2, Option.bind_some]
  obtain ⟨b, c3, e3, h3⟩ := once_ok (d := (c2.1, c2.2.1, c2.2.2)) h2 2
  dsimp only
  rw [e3, Option.bind_some]
  dsimp only
  cases b with
  | false => rw [cond_false]; exact ⟨c, u, rfl, g1.1, g2⟩
  | true =>
    rw [cond_true, s_AllChunks_eq g1.1, Option.bind_some]
    have hl := allL_len g1.1
    refine whileP_to (fun o => ∃ c u, o = some (c, u) ∧ Ok.ok c ∧ (Ok.ok u ∧ u.2.length ≤ 31)) (fun s : Int × Int × List D_Up => (0 ≤ s.1 ∧ s.1 ≤ (allL c).length) ∧ (Ok.ok ((s.2.1, s.2.2) : D_Ups) ∧ s.2.2.length ≤ 31)) (fun s => ((allL c).length - s.1).toNat) (fun r : D_Catalog × D_Ups => Ok.ok r.1 ∧ (Ok.ok r.2 ∧ r.2.2.length ≤ 31))
      (fun a ha => ⟨a.1, a.2, rfl, ha.1, ha.2⟩) ?_ ?_
    · exact ⟨⟨by dsimp only; omega, by dsimp only; omega⟩, g2⟩
    rintro ⟨i, ep, us⟩ ⟨hi, hu⟩
    dsimp only at hi hu ⊢
    by_cases hlt : i < ((allL c).length : Int)
    · left
      obtain ⟨k, rfl⟩ := Int.eq_ofNat_of_zero_le hi.1
      have hx : (allL c)[k]? = some ((allL c)[k]'(by omega)) := List.getElem?_eq_getElem _
      have hm : (allL c)[k]'(by omega) ∈ allL c := List.getElem_mem _
      generalize (allL c)[k]'(by omega) = x at hx hm
      have hxs := allL_size g1.1 hm
      have ack31 : ∀ {d : D_Ups} {n : Int}, (Ok.ok d ∧ d.2.length ≤ 31) → (Ok.ok (upAckD d x n).1 ∧ (upAckD d x n).1.2.length ≤ 31) := fun {d n} hd => by
        unfold upAckD
        split
        · split
          · rename_i hk
            have := (upsOk_facts (Bool.and_eq_true_iff.1 hk).2).2.1
            exact ⟨ackSet_ok hd.1 (by have := hd.2; omega) hxs, by dsimp only; omega⟩
          · exact hd
        · exact ⟨uf_nil.1, by simp⟩
      have a1 := ack31 (n := 0) hu
      have a2 := ack31 (n := 2) a1
      rw [decide_eq_true hlt, cond_true, idx_nat, hx, Option.bind_some, s_UpAck_eq hu.1 hxs, Option.bind_some, Option.bind_some]
      rw [show s_UpAck (((upAckD (ep, us) x 0).1.1, (upAckD (ep, us) x 0).1.2)) x 2 = some (upAckD (upAckD (ep, us) x 0).1 x 2) from s_UpAck_eq a1.1 hxs, Option.bind_some, wrap64_in (n := (k : Int) + 1) (by unfold inR; omega)]
      cases (upAckD (upAckD (ep, us) x 0).1 x 2).2 with
      | true => exact ⟨_, rfl, ⟨⟨by dsimp only; omega, by dsimp only; omega⟩, a2⟩, by dsimp only; omega⟩
      | false => exact ⟨_, rfl, ⟨⟨by dsimp only; omega, by dsimp only; omega⟩, hu⟩, by dsimp only; omega⟩
    · right
      rw [decide_eq_false hlt, cond_false]
      exact ⟨_, rfl, g1.1, hu⟩
theorem fnGc_true (l : List UInt8) : w_FnGc l = some true := by
  unfold w_FnGc w_big
  rw [Option.bind_some]
  by_cases hl : 1048576 < (l.length : Int)
  · rw [decide_eq_true hl, cond_true]
  rw [decide_eq_false hl, cond_false]
  obtain ⟨c, u, e, hc, hu, hul⟩ := drawSafe_ok (l := l) (by omega)
  rw [e, Option.bind_some]
  dsimp only
  rw [show i_Sweep c (u.1, u.2) = some (sweepD c u) from i_Sweep_eq hc hu, Option.bind_some, show s_Sweep c (u.1, u.2) = some (sweepD c u) from s_Sweep_eq hc hu, Option.bind_some]
  have hgl : (sweepD c u).2.length ≤ 31 := by
    unfold sweepD
    split
    · split
      · rw [List.length_map]; exact Nat.le_trans (List.length_filter_le _ _) hul
      · simp
    · simp
  rw [sameTexts_refl (by omega), Option.bind_some, show i_Safe c (u.1, u.2) = some (safeB c u) from i_Safe_eq hc hu, show s_Safe c (u.1, u.2) = some (safeB c u) from s_Safe_eq hc hu, show s_UpsOk (u.1, u.2) = some (upsOkB u) from s_UpsOk_eq hu]
  simp only [gbs, Bool.not_true, Bool.not_false, if_true, beq_self_eq_true, Bool.or_self, cond_false, Option.bind_some]
  cases h2 : upsOkB u with
  | false =>
    have : sweepD c u = ((0, []), []) := by unfold sweepD; rw [if_neg (by simp [h2])]
    rw [this]; rfl
  | true =>
    obtain ⟨b1, b2, b3, b4⟩ := upsOk_facts h2
    have hx1 : Ok.ok (sweepD c u).1 := by
      unfold sweepD; rw [if_pos h2]
      split
      · exact ok_filter _ hu
      · exact hu
    have hgone : ∀ g, g ∈ (sweepD c u).2 → ∃ x, x ∈ u.2 ∧ keepB c u.1 x = false ∧ x.1 = g ∧ (sweepD c u).1 = (u.1, u.2.filter (keepB c u.1)) := fun g hg => by
      unfold sweepD at hg ⊢
      rw [if_pos h2] at hg ⊢
      split at hg
      · rename_i hk
        rw [if_pos hk]
        obtain ⟨x, hx, e⟩ := List.mem_map.1 hg
        obtain ⟨m1, m2⟩ := List.mem_filter.1 hx
        exact ⟨x, m1, by simpa using m2, e, rfl⟩
      · cases hg
    simp only [Bool.not_true, cond_false]
    rw [s_AllChunks_eq hc, Option.bind_some, wrap64_in (n := u.1 - 2) (by unfold inR; omega)]
    refine whileP_is (fun s => 0 ≤ s ∧ s ≤ (sweepD c u).2.length) (fun s => ((sweepD c u).2.length - s).toNat) (fun s hs => ?_) (by omega)
    by_cases hlt : s < ((sweepD c u).2.length : Int)
    · left
      obtain ⟨k, rfl⟩ := Int.eq_ofNat_of_zero_le hs.1
      have hg : (sweepD c u).2[k]? = some ((sweepD c u).2[k]'(by omega)) := List.getElem?_eq_getElem _
      have hm : (sweepD c u).2[k]'(by omega) ∈ (sweepD c u).2 := List.getElem_mem _
      generalize (sweepD c u).2[k]'(by omega) = g at hg hm
      obtain ⟨x, hx, hk, rfl, hX⟩ := hgone g hm
      unfold keepB at hk
      rw [Bool.or_eq_false_iff] at hk
      have hup : i_UpHas ((sweepD c u).1.1, (sweepD c u).1.2) x.1 = some 0 := by
        rw [show i_UpHas ((sweepD c u).1.1, (sweepD c u).1.2) x.1 = _ from i_UpHas_eq hx1, hX, upHas_ok (swept_ok _ h2)]
        have : upFind (u.1, u.2.filter (keepB c u.1)) x.1 = none := by
          unfold upFind
          refine List.find?_eq_none.2 fun y hy hd => ?_
          obtain ⟨m1, m2⟩ := List.mem_filter.1 hy
          have := up_uniq b4 m1 hx (of_decide_eq_true hd)
          subst this
          unfold keepB at m2
          rw [hk.1, hk.2] at m2
          cases m2
        unfold upNodes
        rw [this]; rfl
      have w1 : IntKind.wrap .i64 ((k : Int) + 1) = (k : Int) + 1 := wrap64_in (by unfold inR; omega)
      rw [decide_eq_true hlt, cond_true, idx_nat, hg, Option.bind_some, hasText_eq (by have := allL_len hc; omega), Option.bind_some, hk.1]
      simp only [Bool.not_false]
      rw [gb_true, Option.bind_some, gb_true, hup, Option.bind_some]
      simp only [decide_true, Bool.not_true, Bool.or_self, cond_false, w1]
      refine ⟨(k : Int) + 1, ?_, by omega, by omega⟩
      refine whileP_is (fun s => 0 ≤ s ∧ s ≤ u.2.length) (fun s => (u.2.length - s).toNat) (fun s hs => ?_) (by omega)
      by_cases hj : s < (u.2.length : Int)
      · left
        obtain ⟨j, rfl⟩ := Int.eq_ofNat_of_zero_le hs.1
        have hy : u.2[j]? = some (u.2[j]'(by omega)) := List.getElem?_eq_getElem _
        have hym : u.2[j]'(by omega) ∈ u.2 := List.getElem_mem _
        generalize u.2[j]'(by omega) = y at hy hym
        have hz : (decide (y.1 = x.1) && decide (u.1 - 2 < y.2.2)) = false := by
          by_cases hd : y.1 = x.1
          · have := up_uniq b4 hym hx hd
            subst this
            rw [hk.2, Bool.and_false]
          · rw [decide_eq_false hd]; rfl
        rw [decide_eq_true hj, cond_true, idx_nat, hy, Option.bind_some, Option.bind_some, gbs]
        refine ⟨(j : Int) + 1, ?_, by omega, by omega⟩
        rw [wrap64_in (n := (j : Int) + 1) (by unfold inR; omega)]
        cases hd : decide (y.1 = x.1) with
        | true => rw [hd, Bool.true_and] at hz; simp only [if_true, Bool.true_and, hz, cond_false]
        | false => simp only [Bool.false_eq_true, if_false, Bool.false_and, cond_false]
      · right
        rw [decide_eq_false hj, cond_false]; rfl
    · right
      rw [decide_eq_false hlt, cond_false]
      rw [show i_Marked c (u.1, u.2) = some (markedD c u) from i_Marked_eq hc hu, s_CatOk_eq hc, show i_Sweep c ((sweepD c u).1.1, (sweepD c u).1.2) = some (sweepD c (sweepD c u).1) from i_Sweep_eq hc hx1, show i_Safe c ((sweepD c u).1.1, (sweepD c u).1.2) = some (safeB c (sweepD c u).1) from i_Safe_eq hc hx1, safe_same h2]
      simp only [Option.bind_some, gbs, beq_self_eq_true, Bool.true_and]
      cases h1 : catOkB c with
      | false =>
        have hs1 : sweepD c u = (u, []) := by unfold sweepD; rw [if_pos h2, if_neg (by simp [h1])]
        rw [hs1]
        dsimp only
        rw [hs1]
        simp
      | true =>
        have hs1 : sweepD c u = ((u.1, u.2.filter (keepB c u.1)), (u.2.filter fun x => !keepB c u.1 x).map (·.1)) := by unfold sweepD; rw [if_pos h2, if_pos h1]
        have hm1 : markedD c u = (u.2.filter (keepB c u.1)).map (·.1) := by unfold markedD; rw [h1, h2]; rfl
        have hp := part_len (keepB c u.1) u.2
        have hs2 : sweepD c (u.1, u.2.filter (keepB c u.1)) = ((u.1, u.2.filter (keepB c u.1)), []) := by
          unfold sweepD
          rw [if_pos (swept_ok _ h2), if_pos h1]
          dsimp only
          have n1 : (u.2.filter (keepB c u.1)).filter (fun x => !keepB c u.1 x) = [] := List.filter_eq_nil_iff.2 fun y hy => by have := (List.mem_filter.1 hy).2; simp [this]
          have n2 : (u.2.filter (keepB c u.1)).filter (keepB c u.1) = u.2.filter (keepB c u.1) := List.filter_eq_self.2 fun y hy => (List.mem_filter.1 hy).2
          rw [n1, n2]; rfl
        rw [hs1, hm1]
        dsimp only
        rw [hs2]
        simp only [List.length_map]
        rw [wrap64_in (n := ((u.2.filter (keepB c u.1)).length : Int) + ((u.2.filter fun x => !keepB c u.1 x).length : Int)) (by unfold inR; omega), decide_eq_true (show ((u.2.filter (keepB c u.1)).length : Int) + ((u.2.filter fun x => !keepB c u.1 x).length : Int) = (u.2.length : Int) by omega)]
        simp
end Go.Proofs.SL
namespace Go.Proofs.SL
open Go
theorem lawFnGc (w : World) (t1 : TL UInt8) (h1 : GT.rd w [] t1) (ho1 : Ok.ok (GT.dat t1)) : Spec Tryz.prog 3 [t1.hdr].toArray w [] (IsV (.bool true)) := w_FnGc_walk w t1 h1 true (fnGc_true _)
end Go.Proofs.SL
