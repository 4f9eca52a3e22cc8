/- Numbers as bytes. -/
import Derived.Test.YtndhmnoehapdhaaDoorPH4
import Derived.Test.YtndhmnoehapdhaaDoorP0
namespace Go.Proofs.SL
open Go

noncomputable def i_fx1 {α : Type}  (s6 : Int × (List UInt8) × Int) (kk : Option α) : Option ((Int × (List UInt8) × Int) ⊕ α) :=
  cond (decide (0 ≤ s6.2.2)) (Option.bind (idx s6.2.1 s6.2.2) (fun y8 => Option.bind (u8P (IntKind.wrap .u8 (bits .and .i64 s6.1 255))) (fun y9 => Option.bind (some (s6.2.1.set (s6.2.2.toNat) y9)) (fun y10 => some (.inl (((s6.1 / 2 ^ (8 : Int).toNat), y10, IntKind.wrap .i64 (s6.2.2 - 1)))))))) (Option.map .inr kk)

theorem i_Fixed_open (a0 : Int) (a1 : Int) : i_Fixed a0 a1 =
  Option.bind (i_within a1 1 7) (fun y1 => gb (!((!y1) || (decide (a0 < 0)))) (shlP .i64 1 (IntKind.wrap .i64 (8 * a1))) (fun y2 => cond (((!y1) || (decide (a0 < 0))) || (decide (y2 ≤ a0))) (some ByteArray.empty) (Option.bind (mkP 1 a1 (0 : UInt8)) (fun y4 => whileP (fun s6 : Int × (List UInt8) × Int => i_fx1  s6 (some (strP s6.2.1))) (a0, y4, IntKind.wrap .i64 (a1 - 1)))))) := rfl


def be (k n : Nat) : List UInt8 := (List.range k).map fun j => UInt8.ofNat (n / 256 ^ (k - 1 - j))
theorem be_len (k n : Nat) : (be k n).length = k := by unfold be; simp
def fil (k n i : Nat) : List UInt8 := (List.range k).map fun j => if k - i ≤ j then UInt8.ofNat (n / 256 ^ (k - 1 - j)) else 0
theorem fil_len (k n i : Nat) : (fil k n i).length = k := by unfold fil; simp
theorem fil_get (k n i j : Nat) (h : j < k) : (fil k n i)[j]? = some (if k - i ≤ j then UInt8.ofNat (n / 256 ^ (k - 1 - j)) else 0) := by
  unfold fil; rw [List.getElem?_map, List.getElem?_range h]; rfl
theorem fil_set (k n i : Nat) (h : i < k) : (fil k n i).set (k - 1 - i) (UInt8.ofNat (n / 256 ^ i)) = fil k n (i + 1) := by
  apply List.ext_getElem?
  intro j
  rw [List.getElem?_set, fil_len]
  by_cases hj : j < k
  · rw [fil_get _ _ _ _ hj, fil_get _ _ _ _ hj]
    by_cases he : k - 1 - i = j
    · subst he
      rw [if_pos rfl, if_pos hj, if_pos (by omega), show k - 1 - (k - 1 - i) = i by omega]
    · rw [if_neg he]
      by_cases h1 : k - i ≤ j
      · rw [if_pos h1, if_pos (by omega)]
      · rw [if_neg h1, if_neg (by omega)]
  · have h1 : ∀ m, (fil k n m)[j]? = none := fun m => List.getElem?_eq_none (by rw [fil_len]; omega)
    rw [h1, h1, if_neg (by omega)]
theorem fil_all (k n : Nat) : fil k n k = be k n := by
  unfold fil be
  exact List.map_congr_left fun j hj => by rw [if_pos (by omega)]
theorem fil_zero (k n : Nat) : fil k n 0 = List.replicate k 0 := by
  apply List.ext_getElem?
  intro j
  by_cases hj : j < k
  · rw [fil_get _ _ _ _ hj, if_neg (by omega), List.getElem?_replicate, if_pos hj]
  · rw [List.getElem?_eq_none (by rw [fil_len]; omega), List.getElem?_eq_none (by simp; omega)]
theorem and255 {m : Nat} (h : m < 9223372036854775808) : bits .and .i64 (m : Int) 255 = ((m % 256 : Nat) : Int) := by
  show IntKind.wrap .i64 (((BitVec.ofInt 64 (m : Int)) &&& (BitVec.ofInt 64 255)).toNat : Int) = _
  rw [BitVec.toNat_and, show (BitVec.ofInt 64 255).toNat = 2 ^ 8 - 1 by decide, Nat.and_two_pow_sub_one_eq_mod, BitVec.toNat_ofInt]
  rw [wrap64_in (by unfold inR; omega)]
  omega
theorem u8_mod (m : Nat) : u8P (IntKind.wrap .u8 ((m % 256 : Nat) : Int)) = some (UInt8.ofNat m) := by
  rw [IntKind.wrap_u8, show ((m % 256 : Nat) : Int) % 256 = ((m % 256 : Nat) : Int) by omega]
  unfold u8P
  rw [if_pos (by omega), show (((m % 256 : Nat) : Int)).toNat = m % 256 by omega]
  congr 1
  apply UInt8.toNat_inj.1
  simp
theorem u8_and {m : Nat} (h : m < 9223372036854775808) : u8P (IntKind.wrap .u8 (bits .and .i64 (m : Int) 255)) = some (UInt8.ofNat m) := by rw [and255 h, u8_mod]
theorem i_fx1_step {α : Type} {k n i : Nat} (hi : i < k) (hk : k ≤ 7) (hn : n < 256 ^ k) (kk : Option α) :
    i_fx1 (((n / 256 ^ i : Nat) : Int), fil k n i, (k : Int) - 1 - (i : Int)) kk = some (.inl (((n / 256 ^ (i + 1) : Nat) : Int), fil k n (i + 1), (k : Int) - 1 - ((i + 1 : Nat) : Int))) := by
  have hn' : n < 9223372036854775808 := by
    have : (256 : Nat) ^ k ≤ 256 ^ 7 := Nat.pow_le_pow_right (by omega) hk
    have h7 : (256 : Nat) ^ 7 = 72057594037927936 := by decide
    omega
  unfold i_fx1
  refine condT (decide_eq_true (by show 0 ≤ (k : Int) - 1 - (i : Int); omega)) ?_
  have hx : (k : Int) - 1 - (i : Int) = ((k - 1 - i : Nat) : Int) := by omega
  refine bnd (a := if k - i ≤ k - 1 - i then UInt8.ofNat (n / 256 ^ (k - 1 - (k - 1 - i))) else 0) (by show idx (fil k n i) ((k : Int) - 1 - (i : Int)) = _; rw [hx, idx_nat]; exact fil_get _ _ _ _ (by omega)) ?_
  refine bnd (u8_and (Nat.lt_of_le_of_lt (Nat.div_le_self _ _) hn')) ?_
  refine bnd (a := fil k n (i + 1)) (by show some ((fil k n i).set ((k : Int) - 1 - (i : Int)).toNat _) = _; rw [hx, show (((k - 1 - i : Nat) : Int)).toNat = k - 1 - i by omega, fil_set _ _ _ hi]) ?_
  show some (Sum.inl ((((n / 256 ^ i : Nat) : Int) / 2 ^ (8 : Int).toNat), _, IntKind.wrap .i64 ((k : Int) - 1 - (i : Int) - 1))) = _
  rw [wrap64_in (by unfold inR; omega), show (k : Int) - 1 - (i : Int) - 1 = (k : Int) - 1 - ((i + 1 : Nat) : Int) by omega, i8', Nat.pow_succ, ← Nat.div_div_eq_div_mul]
  rfl
theorem i_fx1_end {α : Type} (m : Int) (l : List UInt8) {x : Int} (hx : x = -1) (kk : Option α) : i_fx1 (m, l, x) kk = kk.map .inr := by
  subst hx
  unfold i_fx1
  exact condF (decide_eq_false (by show ¬ (0 : Int) ≤ -1; omega)) rfl
theorem i_Fixed_eq {k n : Nat} (h0 : 0 < k) (hk : k ≤ 7) (hn : n < 256 ^ k) {a b : Int} (ha : a = (n : Int)) (hb : b = (k : Int)) : i_Fixed a b = some (strP (be k n)) := by
  subst ha hb
  rw [i_Fixed_open, within_eq]
  refine bnd rfl ?_
  rw [show decide (1 ≤ (k : Int) ∧ (k : Int) ≤ 7) = true from decide_eq_true (by omega), show decide ((n : Int) < 0) = false from decide_eq_false (by omega)]
  have h2 : shlP .i64 1 (IntKind.wrap .i64 (8 * (k : Int))) = some ((256 ^ k : Nat) : Int) := by
    rw [wrap64_in (by unfold inR; omega)]
    unfold shlP
    have h7 : (256 : Nat) ^ k ≤ 256 ^ 7 := Nat.pow_le_pow_right (by omega) hk
    have h77 : (256 : Nat) ^ 7 = 72057594037927936 := by decide
    have e : (256 : Nat) ^ k = 2 ^ (8 * k) := by rw [Nat.pow_mul]
    have e2 : (2 : Int) ^ (8 * k) = ((256 ^ k : Nat) : Int) := by rw [e]; simp
    rw [if_pos ⟨by omega, by show (8 * (k : Int)) ≤ 64; omega⟩, show (8 * (k : Int)).toNat = 8 * k by omega, Int.one_mul, e2, wrap64_in (by unfold inR; omega)]
  have gy : ∀ (o : Option Int) (q : Int → Option ByteArray), gb (!(!true || false)) o q = o.bind q := fun _ _ => rfl
  rw [h2, gy]
  refine bnd rfl ?_
  refine condF (by show ((!true || false) || decide (((256 ^ k : Nat) : Int) ≤ (n : Int))) = false; rw [decide_eq_false (by omega)]; rfl) ?_
  refine bnd (a := List.replicate k 0) (by unfold mkP; rw [if_pos (by omega), show ((k : Int)).toNat = k by omega]) ?_
  refine whileP_n (fun (i : Nat) (_ : Unit) => (((n / 256 ^ i : Nat) : Int), fil k n i, (k : Int) - 1 - (i : Int))) (fun _ _ => ()) (n := k) (t0 := ()) ?_ (fun i t hi => i_fx1_step hi hk hn _) ?_
  · rw [fil_zero, wrap64_in (by unfold inR; omega), Nat.pow_zero, Nat.div_one]
    simp
  · refine (i_fx1_end _ _ (by omega) _).trans ?_
    rw [fil_all]
end Go.Proofs.SL
