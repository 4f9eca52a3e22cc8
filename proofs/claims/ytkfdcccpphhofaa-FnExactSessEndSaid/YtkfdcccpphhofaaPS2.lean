/- What ending a session computes. -/
import Derived.Test.YtkfdcccpphhofaaPB
import Derived.Test.YtkfdcccpphhofaaWE
namespace Go.Proofs.SL
open Go
noncomputable def joined (l : List ByteArray) : ByteArray := l.foldl (fun a b => a ++ b) ByteArray.empty
theorem joined_loop {l : List ByteArray} (h1 : l.length ≤ 1000) (h2 : ∀ p, p ∈ l → p.size ≤ 10) :
    whileP (fun s1 : ByteArray × Int => cond (decide (s1.2 < (l.length : Int))) (Option.bind (idx l s1.2) (fun y3 => Option.bind (catP s1.1 y3) (fun y4 => some (.inl ((y4, IntKind.wrap .i64 (s1.2 + 1))))))) (Option.map .inr (some s1.1))) (ByteArray.empty, 0) = some (joined l) := by
  rw [whileP_for (l := l) (fun k (t : ByteArray) => (t, (k : Int))) (fun t s => .inl (t ++ s)) (fun t => some t) (fun k t => t.size ≤ 10 * k) ByteArray.empty (s0 := (ByteArray.empty, 0)) rfl (by simp), goE_fold]
  · rfl
  · intro k t s hs hI
    have hlt := (List.getElem?_eq_some_iff.1 hs).1
    have hsz := h2 s (List.mem_of_getElem? hs)
    refine .inl ⟨t ++ s, rfl, ?_, by rw [ByteArray.size_append]; omega⟩
    simp only [lt_dec hlt, cond_true, idx_nat, hs, Option.bind_some, wrap_succ (show k < 9223372036854775807 by omega)]
    rw [catP_ok (by omega)]; rfl
  · intro t ht
    simp only [ge_dec]; rfl
theorem s_Joined_eq {l : List ByteArray} (h1 : l.length ≤ 1000) (h2 : ∀ p, p ∈ l → p.size ≤ 10) : s_Joined l = some (joined l) := joined_loop h1 h2
theorem i_Joined_eq {l : List ByteArray} (h1 : l.length ≤ 1000) (h2 : ∀ p, p ∈ l → p.size ≤ 10) : i_Joined l = some (joined l) := joined_loop h1 h2
theorem joined_size {l : List ByteArray} : (joined l).size = (l.map ByteArray.size).sum := by
  unfold joined
  have : ∀ (xs : List ByteArray) (a : ByteArray), (xs.foldl (fun a b => a ++ b) a).size = a.size + (xs.map ByteArray.size).sum := by
    intro xs
    induction xs with
    | nil => intro a; simp
    | cons x xs ih => intro a; rw [List.foldl_cons, ih, ByteArray.size_append]; simp; omega
  rw [this]; simp
noncomputable def sessEndD (d : D_Desks) (id : Int) : D_Desks × ByteArray × Bool :=
  if desksOk d then
    match d.2.2.findIdx? (fun s => decide (s.1 = id)) with
    | none => (d, ByteArray.empty, false)
    | some k => match d.2.2[k]? with
      | none => (d, ByteArray.empty, false)
      | some s => ((d.1, d.2.1, d.2.2.eraseIdx k), joined s.2.2.2, true)
  else ((0, 0, []), ByteArray.empty, false)
theorem s_SessEnd_eq {d : D_Desks} {id : Int} (ho : Ok.ok d) : s_SessEnd d id = some (sessEndD d id) := by
  unfold s_SessEnd sessEndD
  have hl : d.2.2.length ≤ 9223372036854775807 := ho.2.2.1
  simp only [Prod.eta, s_DesksOk_eq d ho, Option.bind_some]
  cases hk : desksOk d with
  | false => rfl
  | true =>
    obtain ⟨h1, h2, h3, h4⟩ := desksOk_facts hk
    simp only [Bool.not_true, cond_false, (copy_eq hk).1, Option.bind_some, s_l29At_eq hl, if_true]
    cases hf : d.2.2.findIdx? (fun s : D_Sess => decide (s.1 = id)) with
    | none => rw [firstI_none hf]; rfl
    | some k =>
      have hlt : k < d.2.2.length := by obtain ⟨h, _⟩ := List.findIdx?_eq_some_iff_getElem.1 hf; exact h
      rw [firstI_some hf]
      have hx : d.2.2[k]? = some d.2.2[k] := List.getElem?_eq_getElem hlt
      generalize d.2.2[k] = s at hx
      have hs := h4 s (List.mem_of_getElem? hx)
      simp only [show decide ((k : Int) < 0) = false by simp, idx_nat, hx, Option.bind_some, cond_false, wrap_succ (show k < 9223372036854775807 by omega)]
      rw [s_Joined_eq (by omega) hs.2]
      simp only [Option.bind_some]
      have e1 : slcP d.2.2 0 (k : Int) = some (d.2.2.take k) := by
        unfold slcP; rw [if_pos ⟨by omega, by omega, by omega⟩]; simp
      have e2 : slcP d.2.2 ((k + 1 : Nat) : Int) (d.2.2.length : Int) = some (d.2.2.drop (k + 1)) := by
        unfold slcP; rw [if_pos ⟨by omega, by omega, by omega⟩]
        rw [Int.toNat_natCast, Int.toNat_natCast, List.take_of_length_le (by simp)]
      have c1 : chkP (decide (0 ≤ ((0 : Int)).toNat)) = some () := rfl
      have c2 : chkP (decide ((k : Int).toNat ≤ ((k + 1 : Nat) : Int).toNat)) = some () := by
        unfold chkP; rw [if_pos (decide_eq_true (by omega))]
      rw [e1, e2, c1, c2]
      simp only [Option.bind_some, List.nil_append]
      have l1 : (d.2.2.take k).length ≤ 4 := by rw [List.length_take]; omega
      have l2 : (d.2.2.drop (k + 1)).length ≤ 4 := by rw [List.length_drop]; omega
      rw [appP_ok (by simp only [List.length_nil]; omega)]
      simp only [Option.bind_some, List.nil_append]
      rw [appP_ok (by omega), List.eraseIdx_eq_take_drop_succ]; rfl
theorem i_SessEnd_eq {d : D_Desks} {id : Int} (ho : Ok.ok d) : i_SessEnd d id = some (sessEndD d id) := by
  unfold i_SessEnd sessEndD
  have hl : d.2.2.length ≤ 9223372036854775807 := ho.2.2.1
  simp only [Prod.eta, i_DesksOk_eq d ho, Option.bind_some]
  cases hk : desksOk d with
  | false => rfl
  | true =>
    obtain ⟨h1, h2, h3, h4⟩ := desksOk_facts hk
    simp only [Bool.not_true, cond_false, (copy_eq hk).2, Option.bind_some, i_Desks_at_eq hl, if_true]
    cases hf : d.2.2.findIdx? (fun s : D_Sess => decide (s.1 = id)) with
    | none => rw [firstI_none hf]; rfl
    | some k =>
      have hlt : k < d.2.2.length := by obtain ⟨h, _⟩ := List.findIdx?_eq_some_iff_getElem.1 hf; exact h
      rw [firstI_some hf]
      have hx : d.2.2[k]? = some d.2.2[k] := List.getElem?_eq_getElem hlt
      generalize d.2.2[k] = s at hx
      have hs := h4 s (List.mem_of_getElem? hx)
      simp only [show decide ((k : Int) < 0) = false by simp, idx_nat, hx, Option.bind_some, cond_false, wrap_succ (show k < 9223372036854775807 by omega)]
      rw [i_Joined_eq (by omega) hs.2]
      simp only [Option.bind_some]
      have e1 : delP d.2.2 (k : Int) ((k + 1 : Nat) : Int) = some (d.2.2.eraseIdx k) := by
        unfold delP; rw [if_pos ⟨by omega, by omega, by omega⟩, List.eraseIdx_eq_take_drop_succ, Int.toNat_natCast, Int.toNat_natCast]
      rw [e1]; rfl
end Go.Proofs.SL
