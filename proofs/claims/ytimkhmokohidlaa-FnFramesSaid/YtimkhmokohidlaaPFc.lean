/- Sums of texts and frames. -/
import Derived.Test.YtimkhmokohidlaaPFb
namespace Go.Proofs.SL
open Go
theorem xor_bd {a b : Int} (ha : 0 ≤ a ∧ a < 4294967296) (hb : 0 ≤ b ∧ b < 4294967296) : 0 ≤ bits .xor .i64 a b ∧ bits .xor .i64 a b < 4294967296 := by
  obtain ⟨m, rfl⟩ := Int.eq_ofNat_of_zero_le ha.1
  obtain ⟨n, rfl⟩ := Int.eq_ofNat_of_zero_le hb.1
  show 0 ≤ IntKind.wrap .i64 (((BitVec.ofInt 64 (m : Int)) ^^^ (BitVec.ofInt 64 (n : Int))).toNat : Int) ∧ IntKind.wrap .i64 (((BitVec.ofInt 64 (m : Int)) ^^^ (BitVec.ofInt 64 (n : Int))).toNat : Int) < 4294967296
  have h1 : (BitVec.ofInt 64 (m : Int)).toNat = m := by rw [BitVec.toNat_ofInt]; omega
  have h2 : (BitVec.ofInt 64 (n : Int)).toNat = n := by rw [BitVec.toNat_ofInt]; omega
  rw [BitVec.toNat_xor, h1, h2]
  have := Nat.xor_lt_two_pow (n := 32) (show m < 2 ^ 32 by omega) (show n < 2 ^ 32 by omega)
  rw [wrap64_in (by unfold inR; omega)]
  omega
theorem and1 {m : Nat} (h : m < 9223372036854775808) : bits .and .i64 (m : Int) 1 = ((m % 2 : Nat) : Int) := by
  show IntKind.wrap .i64 (((BitVec.ofInt 64 (m : Int)) &&& (BitVec.ofInt 64 1)).toNat : Int) = _
  rw [BitVec.toNat_and, show (BitVec.ofInt 64 1).toNat = 2 ^ 1 - 1 by decide, Nat.and_two_pow_sub_one_eq_mod, BitVec.toNat_ofInt]
  rw [wrap64_in (by unfold inR; omega)]
  omega
def In32 (c : Int) : Prop := 0 ≤ c ∧ c < 4294967296
/-- One bit of the sum, one byte of it. -/
def halfC (c : Int) : Int := if c % 2 = 1 then bits .xor .i64 (c / 2) 2197175160 else c / 2
def byteC (c : Int) (b : UInt8) : Int := Nat.repeat halfC 8 (bits .xor .i64 c (b.toNat : Int))
def crcC (l : Bs) : Int := l.foldl byteC 4294967295
def crcL (l : Bs) : Int := 4294967295 - crcC l
theorem half_in {c : Int} (h : In32 c) : In32 (halfC c) := by
  unfold In32 at *
  unfold halfC
  split
  · exact xor_bd (by omega) (by omega)
  · omega
theorem rep_in {c : Int} (h : In32 c) : ∀ n, In32 (Nat.repeat halfC n c)
  | 0 => h
  | n + 1 => half_in (rep_in h n)
theorem byte_in {c : Int} (h : In32 c) (b : UInt8) : In32 (byteC c b) := rep_in (xor_bd h (by have := b.toNat_lt; omega)) 8
theorem fold_in : ∀ (l : Bs) {c : Int}, In32 c → In32 (l.foldl byteC c)
  | [], _, h => h
  | b :: l, _, h => fold_in l (byte_in h b)
theorem crc_in (l : Bs) : In32 (crcC l) := fold_in l (by unfold In32; omega)
theorem repeat_succ (n : Nat) (c : Int) : Nat.repeat halfC (n + 1) c = halfC (Nat.repeat halfC n c) := rfl
section
variable {β : Type}
/-- The loop over the eight bits of a byte. -/
theorem bit_loop {f : Int × Int → Option ((Int × Int) ⊕ β)} {r : Int → β} {c : Int} (hc : In32 c)
    (h1 : ∀ (m : Int) (i : Nat), In32 m → i < 8 → f (m, (i : Int)) = some (.inl (halfC m, ((i + 1 : Nat) : Int)))) (h2 : ∀ m, f (m, 8) = some (.inr (r m))) : whileP f (c, 0) = some (r (Nat.repeat halfC 8 c)) := by
  refine whileP_is (fun s : Int × Int => ∃ i : Nat, s.2 = (i : Int) ∧ i ≤ 8 ∧ s.1 = Nat.repeat halfC i c) (fun s => (8 - s.2).toNat) ?_ ⟨0, rfl, by omega, rfl⟩
  rintro ⟨m, i'⟩ ⟨i, rfl, hi, rfl⟩
  dsimp only
  by_cases h : i < 8
  · left
    exact ⟨_, h1 _ i (rep_in hc i) h, ⟨i + 1, rfl, by omega, rfl⟩, by dsimp only; omega⟩
  · right
    obtain rfl : i = 8 := by omega
    exact h2 _
/-- The loop over the bytes. -/
theorem byte_loop {f : Int × Int → Option ((Int × Int) ⊕ Int)} {l : Bs}
    (h1 : ∀ (c : Int) (k : Nat) (b : UInt8), In32 c → l[k]? = some b → f (c, (k : Int)) = some (.inl (byteC c b, ((k + 1 : Nat) : Int)))) (h2 : ∀ c, In32 c → f (c, (l.length : Int)) = some (.inr (4294967295 - c))) : whileP f (4294967295, 0) = some (crcL l) := by
  refine whileP_is (fun s : Int × Int => ∃ k : Nat, s.2 = (k : Int) ∧ k ≤ l.length ∧ s.1 = (l.take k).foldl byteC 4294967295) (fun s => ((l.length : Int) - s.2).toNat) ?_ ⟨0, rfl, Nat.zero_le _, rfl⟩
  rintro ⟨c, k'⟩ ⟨k, rfl, hk, rfl⟩
  dsimp only
  have hin : In32 ((l.take k).foldl byteC 4294967295) := fold_in _ (by unfold In32; omega)
  by_cases h : k < l.length
  · left
    have hx : l[k]? = some l[k] := List.getElem?_eq_getElem h
    refine ⟨_, h1 _ k _ hin hx, ⟨k + 1, rfl, by omega, ?_⟩, by dsimp only; omega⟩
    dsimp only
    rw [List.take_add_one, hx, List.foldl_append]; rfl
  · right
    obtain rfl : k = l.length := by omega
    rw [h2 _ hin, List.take_length]; rfl
end
theorem i_Crc_eq {l : Bs} (hl : l.length ≤ 1099511627776) : i_Crc (strP l) = some (crcL l) := by
  unfold i_Crc
  rw [strP_size]
  refine byte_loop (fun c k b hc hb => ?_) (fun c hc => ?_)
  · have hk := (List.getElem?_eq_some_iff.1 hb).1
    dsimp only
    rw [decide_eq_true (show (k : Int) < _ by omega), cond_true, sidx_list hb, Option.bind_some]
    have hbl := b.toNat_lt
    rw [wrap64_in (n := (b.toNat : Int)) (by unfold inR; omega), wrap64_in (n := (k : Int) + 1) (by unfold inR; omega)]
    refine bit_loop (c := bits .xor .i64 c (b.toNat : Int)) (r := fun m => (Sum.inl (m, ((k + 1 : Nat) : Int)) : (Int × Int) ⊕ Int)) (xor_bd hc (by omega)) (fun m i hm hi => ?_) (fun m => ?_)
    · dsimp only
      obtain ⟨n, rfl⟩ := Int.eq_ofNat_of_zero_le hm.1
      have hn := hm.2
      rw [decide_eq_true (show (i : Int) < 8 by omega), cond_true, and1 (by omega), wrap64_in (n := (i : Int) + 1) (by unfold inR; omega)]
      unfold halfC
      show (cond _ (some (Sum.inl (bits .xor .i64 ((n : Int) / 2) 2197175160, _))) (some (Sum.inl ((n : Int) / 2, _))) : Option ((Int × Int) ⊕ _)) = _
      by_cases h : n % 2 = 1
      · rw [decide_eq_true (by omega), cond_true, if_pos (by omega)]; rfl
      · rw [decide_eq_false (by omega), cond_false, if_neg (by omega)]; rfl
    · dsimp only
      rfl
  · dsimp only
    rw [decide_eq_false (by omega), cond_false]
    have := hc.1; have := hc.2
    rw [wrap64_in (by unfold inR; omega)]; rfl
theorem s_Crc_eq {l : Bs} (hl : l.length ≤ 1099511627776) : s_Crc (strP l) = some (crcL l) := by
  unfold s_Crc
  rw [strP_size]
  refine byte_loop (fun c k b hc hb => ?_) (fun c hc => ?_)
  · have hk := (List.getElem?_eq_some_iff.1 hb).1
    dsimp only
    rw [decide_eq_true (show (k : Int) < _ by omega), cond_true, sidx_list hb, Option.bind_some]
    have hbl := b.toNat_lt
    rw [wrap64_in (n := (b.toNat : Int)) (by unfold inR; omega), wrap64_in (n := (k : Int) + 1) (by unfold inR; omega)]
    refine bit_loop (c := bits .xor .i64 c (b.toNat : Int)) (r := fun m => (Sum.inl (m, ((k + 1 : Nat) : Int)) : (Int × Int) ⊕ Int)) (xor_bd hc (by omega)) (fun m i hm hi => ?_) (fun m => ?_)
    · dsimp only
      obtain ⟨n, rfl⟩ := Int.eq_ofNat_of_zero_le hm.1
      have hn := hm.2
      rw [decide_eq_true (show (i : Int) < 8 by omega), cond_true, Int.tmod_eq_emod_of_nonneg (by omega), Int.tdiv_eq_ediv_of_nonneg (by omega), wrap64_in (n := (i : Int) + 1) (by unfold inR; omega), wrap64_in (n := (n : Int) / 2) (by unfold inR; omega)]
      unfold halfC
      by_cases h : (n : Int) % 2 = 1
      · rw [decide_eq_true h, cond_true, if_pos h]; rfl
      · rw [decide_eq_false h, cond_false, if_neg h]; rfl
    · dsimp only
      rfl
  · dsimp only
    rw [decide_eq_false (by omega), cond_false]
    have := hc.1; have := hc.2
    rw [wrap64_in (by unfold inR; omega)]; rfl
theorem crcL_in (l : Bs) : 0 ≤ crcL l ∧ crcL l < 4294967296 := by
  have := crc_in l
  unfold In32 at this
  unfold crcL; omega
def crcN (l : Bs) : Nat := (crcL l).toNat
theorem crcN_eq (l : Bs) : crcL l = (crcN l : Int) := by have := crcL_in l; unfold crcN; omega
theorem crcN_lt (l : Bs) : crcN l < 4294967296 := by have := crcL_in l; unfold crcN; omega
theorem be_succ (k n : Nat) : be (k + 1) n = UInt8.ofNat (n / 256 ^ k) :: be k n := by
  unfold be
  rw [List.range_succ_eq_map, List.map_cons, List.map_map]
  congr 1
  refine List.map_congr_left fun j hj => ?_
  show UInt8.ofNat (n / 256 ^ (k + 1 - 1 - (j + 1))) = _
  rw [show k + 1 - 1 - (j + 1) = k - 1 - j by omega]
theorem s_Fixed_eq {n : Nat} (hn : n < 4294967296) : s_Fixed (n : Int) 4 = some (strP (be 4 n)) := by
  unfold s_Fixed
  rw [l1In_eq, Option.bind_some, show decide ((1 : Int) ≤ 4 ∧ (4 : Int) ≤ 7) = true from by decide, show decide ((n : Int) < 0) = false from decide_eq_false (by omega), Bool.not_true, Bool.or_false, cond_false]
  refine whileP_is (fun s : Int × ByteArray × Int => ∃ i : Nat, s.2.2 = (i : Int) ∧ i ≤ 4 ∧ s.2.1 = strP (be i n) ∧ s.1 = ((n / 256 ^ i : Nat) : Int)) (fun s => (4 - s.2.2).toNat) ?_ ⟨0, rfl, by omega, rfl, by simp⟩
  rintro ⟨m, out, i'⟩ ⟨i, rfl, hi, rfl, rfl⟩
  dsimp only
  by_cases h : i < 4
  · left
    have hb : n / 256 ^ i ≤ n := Nat.div_le_self _ _
    generalize hq : n / 256 ^ i = q at hb ⊢
    rw [decide_eq_true (by omega), cond_true, Int.tmod_eq_emod_of_nonneg (by omega), Int.tdiv_eq_ediv_of_nonneg (by omega), show (q : Int) % 256 = ((q % 256 : Nat) : Int) by omega, u8_mod, Option.bind_some, Option.bind_some, catP_ok (by rw [strP_size, strP_size, be_len]; simp; omega), Option.bind_some, strP_app, wrap64_in (n := (q : Int) / 256) (by unfold inR; omega), wrap64_in (n := (i : Int) + 1) (by unfold inR; omega)]
    refine ⟨_, rfl, ⟨i + 1, rfl, by omega, ?_, ?_⟩, by dsimp only; omega⟩
    · dsimp only; rw [be_succ, hq]; rfl
    · dsimp only
      rw [Nat.pow_succ, ← Nat.div_div_eq_div_mul, hq]; omega
  · right
    obtain rfl : i = 4 := by omega
    have h256 : (256 : Nat) ^ 4 = 4294967296 := by decide
    rw [show decide (((4 : Nat) : Int) < 4) = false from rfl, cond_false, decide_eq_false (by rw [h256]; omega)]
    rfl
def szL (x : Bs) : Bs := varL x.length ++ x
def frL (x : Bs) : Bs := be 4 (crcN (szL x)) ++ szL x
theorem szL_len {x : Bs} (h : x.length ≤ 200) : (szL x).length ≤ 207 := by
  unfold szL; rw [List.length_append]
  have := (varL_7 (n := x.length) (by omega)).2
  omega
theorem frL_len {x : Bs} (h : x.length ≤ 200) : 5 ≤ (frL x).length ∧ (frL x).length ≤ 211 := by
  unfold frL
  have h1 := szL_len h
  have h2 := (varL_7 (n := x.length) (by omega)).1
  rw [List.length_append, be_len]
  unfold szL at *
  rw [List.length_append] at *
  omega
def frameL (x : Bs) : Bs := if 200 < x.length then [] else frL x
theorem i_sized_eq {x : Bs} (h : x.length ≤ 200) : i_sized (strP x) = some (strP (szL x)) := by
  unfold i_sized
  have := (varL_7 (n := x.length) (by omega)).2
  rw [strP_size, i_Var_eq (by omega), Option.bind_some, catP_ok (by rw [strP_size, strP_size]; omega), Option.bind_some, strP_app]; rfl
theorem s_l4Piece_eq {x : Bs} (h : x.length ≤ 200) : s_l4Piece (strP x) = some (strP (szL x)) := by
  unfold s_l4Piece
  have := (varL_7 (n := x.length) (by omega)).2
  rw [strP_size, s_Var_eq (by omega), Option.bind_some, catP_ok (by rw [strP_size, strP_size]; omega), Option.bind_some, strP_app]; rfl
theorem i_Frame_eq (x : Bs) : i_Frame (strP x) = some (strP (frameL x)) := by
  unfold i_Frame frameL
  rw [strP_size]
  by_cases h : 200 < x.length
  · rw [decide_eq_true (by omega), cond_true, if_pos h]; rfl
  · have hl := szL_len (x := x) (by omega)
    rw [decide_eq_false (by omega), cond_false, if_neg h, i_sized_eq (by omega), Option.bind_some, i_Crc_eq (by omega), Option.bind_some,
      i_Fixed_eq (k := 4) (n := crcN (szL x)) (b := 4) (by decide) (by decide) (by have := crcN_lt (szL x); omega) (crcN_eq _) rfl, Option.bind_some, Option.bind_some, catP_ok (by rw [strP_size, strP_size, be_len]; omega), Option.bind_some, strP_app]
    rfl
theorem s_Frame_eq (x : Bs) : s_Frame (strP x) = some (strP (frameL x)) := by
  unfold s_Frame frameL
  rw [strP_size]
  by_cases h : 200 < x.length
  · rw [decide_eq_true (by omega), cond_true, if_pos h]; rfl
  · have hl := szL_len (x := x) (by omega)
    rw [decide_eq_false (by omega), cond_false, if_neg h, s_l4Piece_eq (by omega), Option.bind_some, s_Crc_eq (by omega), Option.bind_some, crcN_eq,
      s_Fixed_eq (crcN_lt _), Option.bind_some, catP_ok (by rw [strP_size, strP_size, be_len]; omega), Option.bind_some, strP_app]
    rfl
end Go.Proofs.SL
