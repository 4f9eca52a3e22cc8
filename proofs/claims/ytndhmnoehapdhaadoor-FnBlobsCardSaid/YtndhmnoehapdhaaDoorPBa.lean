/- The stores that are drawn: their chunks are among a few texts. -/
import Derived.Test.YtndhmnoehapdhaaDoorPDk
import Derived.Test.YtndhmnoehapdhaaDoorPKp
namespace Go.Proofs.SL
open Go
def T7 : List ByteArray := [ByteArray.empty, (ByteArray.mk #[97]), (ByteArray.mk #[98, 98]), (ByteArray.mk #[99, 99, 99]), (ByteArray.mk #[104, 101, 108, 108, 111]), (ByteArray.mk #[0]), (ByteArray.mk #[119, 111, 114, 108, 100, 32, 97, 110, 100, 32, 109, 111, 114, 101])]
theorem T7_size : ∀ s, s ∈ T7 → s.size ≤ 14 := by decide
theorem T7_nil : ByteArray.empty ∈ T7 := List.mem_cons_self ..
theorem data_ok' {d : D_l1Cur} (h : CurOk d) : ∃ x d', s_l7Data d = some (x, d') ∧ x ∈ T7 ∧ CurOk d' ∧ d'.1 = d.1 := by
  unfold s_l7Data
  simp only [Prod.eta, Option.bind_some]
  obtain ⟨x, d', e, g, c, f⟩ := pick_ok' h (l := T7) (by decide)
  unfold T7 at e
  rw [e]
  exact ⟨_, _, rfl, g, c, f⟩
def DB (d : D_Blobs) : Prop := d.2.length ≤ 12 ∧ ∀ x, x ∈ d.2 → x.2.1 ∈ T7
theorem put_DB {d : D_Blobs} {s : ByteArray} (h : DB d) (hs : s ∈ T7) : DB (blobPutD d s).1 := by
  unfold blobPutD
  split
  · split
    · exact h
    · split
      · exact h
      · split
        · rename_i hk
          refine ⟨(blobsOk_facts hk).1, fun x hx => ?_⟩
          rcases mem_setB.1 hx with rfl | ⟨hx, _⟩
          · exact hs
          · exact h.2 x hx
        · exact h
  · exact ⟨Nat.zero_le _, fun x hx => by cases hx⟩
theorem bend_DB {d : D_Blobs} {c : ByteArray} (h : DB d) : DB (blobBendD d c).1 := by
  unfold blobBendD
  split
  · split
    · exact h
    · split
      · exact h
      · rename_i x hx
        split
        · exact h
        · refine ⟨by simp only [List.length_set]; exact h.1, fun z hz => ?_⟩
          rcases List.mem_or_eq_of_mem_set hz with hz | rfl
          · exact h.2 z hz
          · exact h.2 x (List.mem_of_getElem? hx)
  · exact ⟨Nat.zero_le _, fun x hx => by cases hx⟩
def DC (d : D_Blobs) : Prop := d.2.length ≤ 13 ∧ ∀ x, x ∈ d.2 → x.2.1 ∈ T7
theorem some7_ok {d : D_l1Cur} (h : CurOk d) : ∃ r d', s_l7Some d = some (r, d') ∧ DC r ∧ CurOk d' := by
  unfold s_l7Some
  simp only [Prod.eta, Option.bind_some]
  obtain ⟨y3, d3, e3, _, c3, _⟩ := pickint_ok' h (l := [1000, 100, 20, 0]) (by decide)
  rw [e3, Option.bind_some]; dsimp only
  obtain ⟨y4, d4, e4, g4, c4, _⟩ := below_ok' c3 9
  rw [e4, Option.bind_some]; dsimp only
  refine (fun ⟨r, hr, hq⟩ => ⟨r.1, r.2, hr, hq⟩ : (∃ r : D_Blobs × D_l1Cur, _ = some r ∧ (DC r.1 ∧ CurOk r.2)) → _) (whileP_rule (fun s : Int × Int × Int × Int × (List D_Blob) => 0 ≤ s.1 ∧ s.1 ≤ 9 ∧ CurOk (d4.1, s.2.1, s.2.2.1) ∧ DB (s.2.2.2.1, s.2.2.2.2)) (fun s => s.1.toNat) (fun r : D_Blobs × D_l1Cur => DC r.1 ∧ CurOk r.2) ?_ (y4, d4.2.1, d4.2.2, y3, []) ⟨g4.1, by have := g4.2.1 (by omega); dsimp only; omega, c4, ⟨Nat.zero_le _, fun x hx => by cases hx⟩⟩)
  rintro ⟨k, p, q, e, l⟩ ⟨k0, k1, hc, hD⟩
  dsimp only at k0 k1 hc hD ⊢
  have hl : l.length ≤ 12 := hD.1
  by_cases hk : 0 < k
  · left
    rw [decide_eq_true hk, cond_true, wrap64_in (n := k - 1) (by unfold inR; omega)]
    obtain ⟨x, d7, e7, g7, c7, f7⟩ := data_ok' hc
    rw [e7, Option.bind_some]; dsimp only
    have hP := put_DB hD g7
    rw [s_BlobPut_eq (by dsimp only; omega), Option.bind_some]
    obtain ⟨b, d10, e10, c10, f10⟩ := once_ok' c7 5
    rw [e10, Option.bind_some]; dsimp only
    cases b with
    | false =>
      refine ⟨_, rfl, ⟨by dsimp only; omega, by dsimp only; omega, ?_, hP⟩, by dsimp only; omega⟩
      dsimp only at f7 f10 ⊢
      rw [← f7, ← f10]; exact c10
    | true =>
      rw [cond_true]
      obtain ⟨y, d12, e12, g12, c12, f12⟩ := data_ok' c10
      rw [e12, Option.bind_some]; dsimp only
      rw [s_Short_eq (by have := T7_size y g12; omega), Option.bind_some, s_BlobBend_eq (by have := hP.1; omega), Option.bind_some]
      refine ⟨_, rfl, ⟨by dsimp only; omega, by dsimp only; omega, ?_, bend_DB hP⟩, by dsimp only; omega⟩
      dsimp only at f7 f10 f12 ⊢
      rw [← f7, ← f10, ← f12]; exact c12
  · right
    rw [decide_eq_false hk, cond_false]
    have hD' : ∀ e', DC (e', l) := fun e' => ⟨by dsimp only; omega, hD.2⟩
    obtain ⟨b, d17, e17, c17, _⟩ := once_ok' hc 10
    rw [e17, Option.bind_some]; dsimp only
    cases b with
    | false => exact ⟨_, rfl, hD' _, c17⟩
    | true =>
      rw [cond_true]
      obtain ⟨y19, d19, e19, g19, c19, _⟩ := below_ok' c17 3
      rw [e19, Option.bind_some]; dsimp only
      cases decide (y19 = 0) with
      | true =>
        obtain ⟨y23, d23, e23, _, c23, _⟩ := pickint_ok' c19 (l := [(-1), 3, 1000, 1001]) (by decide)
        rw [cond_true, e23]
        exact ⟨_, rfl, hD' _, c23⟩
      | false =>
        rw [cond_false]
        cases decide (y19 = 1) with
        | true =>
          obtain ⟨t, d25, e25, _, c25⟩ := text_ok c19 (n := 9) (by omega) (by omega)
          rw [cond_true, e25, Option.bind_some, appP_ok (by simp; omega)]
          refine ⟨_, rfl, ⟨by dsimp only; rw [List.length_append]; simp; omega, fun x hx => ?_⟩, c25⟩
          rcases List.mem_append.1 hx with hx | hx
          · exact hD.2 x hx
          · rw [List.mem_singleton.1 hx]; exact T7_nil
        | false =>
          rw [cond_false]
          cases l with
          | nil => exact ⟨_, rfl, hD' _, c19⟩
          | cons y ys =>
            rw [decide_eq_true (by simp only [List.length_cons]; omega), cond_true, show idx (y :: ys) 0 = some y from rfl, Option.bind_some, Option.bind_some]
            refine ⟨_, rfl, ⟨by simp only [List.length_set]; omega, fun x hx => ?_⟩, c19⟩
            rcases List.mem_or_eq_of_mem_set hx with hx | rfl
            · exact hD.2 x hx
            · exact hD.2 y (List.mem_cons_self ..)
def Z (n : Nat) : ByteArray := strP (List.replicate n 0)
theorem drawB_ok {l : List UInt8} (h : l.length ≤ 1048576) : ∃ d s, s_DrawBlobPut l = some (d, s) ∧ DC d ∧ (s ∈ T7 ∨ s = Z 40 ∨ s = Z 41) := by
  unfold s_DrawBlobPut
  obtain ⟨d, e, c⟩ := new_ok h
  rw [e, Option.bind_some]
  simp only [Prod.eta, Option.bind_some]
  obtain ⟨r, d2, e2, h2, c2⟩ := some7_ok c
  rw [e2, Option.bind_some]; dsimp only
  obtain ⟨b, d3, e3, c3, _⟩ := once_ok' c2 10
  rw [e3, Option.bind_some]; dsimp only
  cases b with
  | false =>
    obtain ⟨x, d8, e8, g8, _, _⟩ := data_ok' c3
    rw [cond_false, e8]
    exact ⟨_, _, rfl, h2, .inl g8⟩
  | true =>
    obtain ⟨y5, d5, e5, g5, _, _⟩ := below_ok' c3 2
    rw [cond_true, e5, Option.bind_some]; dsimp only
    have := g5.2.1 (by omega)
    rw [wrap64_in (by unfold inR; omega)]
    unfold mkP
    rw [if_pos (by omega), Option.bind_some]
    refine ⟨_, _, rfl, h2, .inr ?_⟩
    rcases (show y5 = 0 ∨ y5 = 1 by omega) with rfl | rfl
    · exact .inl rfl
    · exact .inr rfl
end Go.Proofs.SL
