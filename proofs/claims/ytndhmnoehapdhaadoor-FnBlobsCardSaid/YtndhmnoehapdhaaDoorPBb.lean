/- The chunks that are drawn have names of their own: the sums are computed. -/
import Derived.Test.YtndhmnoehapdhaaDoorPBa
namespace Go.Proofs.SL
open Go
def hd4 (s : ByteArray) : Nat := (shaB h0 (pad s) 0).toNat
theorem hd4_0 : hd4 ByteArray.empty = 3820012610 := by kernel_rfl
theorem hd4_1 : hd4 (ByteArray.mk #[97]) = 3398926610 := by kernel_rfl
theorem hd4_2 : hd4 (ByteArray.mk #[98, 98]) = 996465557 := by kernel_rfl
theorem hd4_3 : hd4 (ByteArray.mk #[99, 99, 99]) = 1692050506 := by kernel_rfl
theorem hd4_4 : hd4 (ByteArray.mk #[104, 101, 108, 108, 111]) = 754077114 := by kernel_rfl
theorem hd4_5 : hd4 (ByteArray.mk #[0]) = 1848904604 := by kernel_rfl
theorem hd4_6 : hd4 (ByteArray.mk #[119, 111, 114, 108, 100, 32, 97, 110, 100, 32, 109, 111, 114, 101]) = 73459493 := by kernel_rfl
theorem hd4_7 : hd4 (Z 40) = 741658141 := by kernel_rfl
theorem be4_inj {a b : Nat} (ha : a < 4294967296) (hb : b < 4294967296) (h : be 4 a = be 4 b) : a = b := by
  have e : ∀ n, be 4 n = [UInt8.ofNat (n / 256 ^ 3), UInt8.ofNat (n / 256 ^ 2), UInt8.ofNat (n / 256 ^ 1), UInt8.ofNat (n / 256 ^ 0)] := fun n => rfl
  rw [e, e] at h
  simp only [List.cons.injEq, and_true] at h
  obtain ⟨h3, h2, h1, h0⟩ := h
  have g : ∀ x y : Nat, UInt8.ofNat x = UInt8.ofNat y → x % 256 = y % 256 := fun x y hxy => by
    have := congrArg UInt8.toNat hxy
    simpa using this
  have h3 := g _ _ h3
  have h2 := g _ _ h2
  have h1 := g _ _ h1
  have h0 := g _ _ h0
  simp only [Nat.reducePow] at h3 h2 h1 h0
  omega
theorem short_hd {s t : ByteArray} (h : short s = short t) : hd4 s = hd4 t := by
  have e : ∀ u, (short u).data.toList.take 4 = be 4 (hd4 u) := by
    intro u
    unfold short sha hd4
    have hl : outN (shaB h0 (pad u)) 8 = be 4 (shaB h0 (pad u) 0).toNat ++ (List.range 7).flatMap fun j => be 4 (shaB h0 (pad u) (j + 1)).toNat := by
      unfold outN
      rw [show (8 : Nat) = 7 + 1 from rfl, List.range_succ_eq_map, List.flatMap_cons, List.flatMap_map]
    rw [hl, ByteArray.data_extract]
    unfold strP
    rw [Array.toList_extract, List.extract_eq_take_drop]
    simp only [List.drop_zero, Nat.sub_zero]
    rw [List.take_take, show min 4 8 = 4 from rfl, List.take_append_of_le_length (by rw [be_len]; exact Nat.le_refl _), List.take_of_length_le (by rw [be_len]; exact Nat.le_refl _)]
  have := e s
  rw [h, e t] at this
  exact (be4_inj (BitVec.isLt _) (BitVec.isLt _) this).symm
def T8 (s : ByteArray) : Prop := s ∈ T7 ∨ s = Z 40
theorem T8_cases {s : ByteArray} (h : T8 s) : s = ByteArray.empty ∨ s = (ByteArray.mk #[97]) ∨ s = (ByteArray.mk #[98, 98]) ∨ s = (ByteArray.mk #[99, 99, 99]) ∨ s = (ByteArray.mk #[104, 101, 108, 108, 111]) ∨ s = (ByteArray.mk #[0]) ∨ s = (ByteArray.mk #[119, 111, 114, 108, 100, 32, 97, 110, 100, 32, 109, 111, 114, 101]) ∨ s = Z 40 := by
  rcases h with h | h
  · unfold T7 at h
    simp only [List.mem_cons, List.not_mem_nil, or_false] at h
    rcases h with h | h | h | h | h | h | h
    · exact .inl h
    · exact .inr (.inl h)
    · exact .inr (.inr (.inl h))
    · exact .inr (.inr (.inr (.inl h)))
    · exact .inr (.inr (.inr (.inr (.inl h))))
    · exact .inr (.inr (.inr (.inr (.inr (.inl h)))))
    · exact .inr (.inr (.inr (.inr (.inr (.inr (.inl h))))))
  · exact .inr (.inr (.inr (.inr (.inr (.inr (.inr (h)))))))
theorem short_inj {s t : ByteArray} (hs : T8 s) (ht : T8 t) (h : short s = short t) : s = t := by
  have h := short_hd h
  rcases T8_cases hs with rfl | rfl | rfl | rfl | rfl | rfl | rfl | rfl <;> rcases T8_cases ht with rfl | rfl | rfl | rfl | rfl | rfl | rfl | rfl <;>
    first | rfl | (exfalso; simp only [hd4_0, hd4_1, hd4_2, hd4_3, hd4_4, hd4_5, hd4_6, hd4_7] at h; omega)
theorem T8_size {s : ByteArray} (h : T8 s) : s.size ≤ 40 := by
  rcases h with h | rfl
  · have := T7_size s h; omega
  · exact Nat.le_of_eq (by unfold Z; rw [strP_size, List.length_replicate])
end Go.Proofs.SL
