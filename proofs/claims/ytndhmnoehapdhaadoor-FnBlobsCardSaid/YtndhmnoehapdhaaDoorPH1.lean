/- Words of 32 bits as whole numbers; loops with a fixed number of steps; arrays of words. -/
import Derived.Test.YtndhmnoehapdhaaDoorB2
import Derived.Test.YtndhmnoehapdhaaDoorB3
namespace Go.Proofs.SL
open Go
abbrev Wd := BitVec 32
def iv (w : Wd) : Int := (w.toNat : Int)
def t32 (n : Int) : Wd := BitVec.ofInt 32 n
theorem iv_ge (w : Wd) : 0 ≤ iv w := by unfold iv; omega
theorem iv_lt (w : Wd) : iv w < 4294967296 := by unfold iv; have := w.isLt; omega
theorem t32_nat (n : Int) : ((t32 n).toNat : Int) = n % 4294967296 := by
  unfold t32; rw [BitVec.toNat_ofInt]; omega
theorem t32_of {a b : Int} (h : a % 4294967296 = b % 4294967296) : t32 a = t32 b := by
  apply BitVec.eq_of_toNat_eq
  have h1 := t32_nat a; have h2 := t32_nat b; omega
theorem iv_inj {a b : Wd} (h : iv a = iv b) : a = b := by
  apply BitVec.eq_of_toNat_eq; unfold iv at h; omega
theorem iv_t32 (n : Int) : iv (t32 n) = n % 4294967296 := t32_nat n
theorem t32_iv (w : Wd) : t32 (iv w) = w := by
  apply iv_inj; rw [iv_t32]; have := iv_ge w; have := iv_lt w; omega
theorem wrapu (n : Int) : IntKind.wrap .u32 n = iv (t32 n) := by rw [iv_t32, IntKind.wrap_u32]
theorem t32_wrapu (n : Int) : t32 (IntKind.wrap .u32 n) = t32 n := by rw [wrapu, t32_iv]
theorem t32_wrap (n : Int) : t32 (IntKind.wrap .i64 n) = t32 n := t32_of (by rw [IntKind.wrap_i64]; omega)
theorem t32_add (a b : Int) : t32 (a + b) = t32 a + t32 b := by unfold t32; rw [BitVec.ofInt_add]
theorem t32_64 (n : Int) : (BitVec.ofInt 64 n).setWidth 32 = t32 n := by
  apply BitVec.eq_of_toNat_eq
  rw [BitVec.toNat_setWidth, BitVec.toNat_ofInt]
  have := t32_nat n
  omega
theorem t32_nat64 (x : BitVec 64) : t32 (x.toNat : Int) = x.setWidth 32 := by
  unfold t32; rw [BitVec.ofInt_natCast]; apply BitVec.eq_of_toNat_eq; rw [BitVec.toNat_ofNat, BitVec.toNat_setWidth]
theorem t32_xor (a b : Int) : t32 (bits .xor .i64 a b) = t32 a ^^^ t32 b := by
  show t32 (IntKind.wrap .i64 (((BitVec.ofInt 64 a) ^^^ (BitVec.ofInt 64 b)).toNat : Int)) = _
  rw [t32_wrap, t32_nat64, BitVec.setWidth_xor, t32_64, t32_64]
theorem t32_and (a b : Int) : t32 (bits .and .i64 a b) = t32 a &&& t32 b := by
  show t32 (IntKind.wrap .i64 (((BitVec.ofInt 64 a) &&& (BitVec.ofInt 64 b)).toNat : Int)) = _
  rw [t32_wrap, t32_nat64, BitVec.setWidth_and, t32_64, t32_64]
theorem t32_or (a b : Int) : t32 (bits .or .i64 a b) = t32 a ||| t32 b := by
  show t32 (IntKind.wrap .i64 (((BitVec.ofInt 64 a) ||| (BitVec.ofInt 64 b)).toNat : Int)) = _
  rw [t32_wrap, t32_nat64, BitVec.setWidth_or, t32_64, t32_64]
theorem wrapu_nat (w : Wd) : IntKind.wrap .u32 (w.toNat : Int) = iv w := by rw [wrapu, show (w.toNat : Int) = iv w from rfl, t32_iv]
theorem ofInt_iv (w : Wd) : BitVec.ofInt 32 (iv w) = w := t32_iv w
theorem xorU (a b : Wd) : bits .xor .u32 (iv a) (iv b) = iv (a ^^^ b) := by
  show IntKind.wrap .u32 (((BitVec.ofInt 32 (iv a)) ^^^ (BitVec.ofInt 32 (iv b))).toNat : Int) = _
  rw [ofInt_iv, ofInt_iv, wrapu_nat]
theorem andU (a b : Wd) : bits .and .u32 (iv a) (iv b) = iv (a &&& b) := by
  show IntKind.wrap .u32 (((BitVec.ofInt 32 (iv a)) &&& (BitVec.ofInt 32 (iv b))).toNat : Int) = _
  rw [ofInt_iv, ofInt_iv, wrapu_nat]
theorem orU (a b : Wd) : bits .or .u32 (iv a) (iv b) = iv (a ||| b) := by
  show IntKind.wrap .u32 (((BitVec.ofInt 32 (iv a)) ||| (BitVec.ofInt 32 (iv b))).toNat : Int) = _
  rw [ofInt_iv, ofInt_iv, wrapu_nat]
theorem addU (a b : Wd) : IntKind.wrap .u32 (iv a + iv b) = iv (a + b) := by rw [wrapu, t32_add, t32_iv, t32_iv]
theorem oM32 : (if IntKind.signed .u32 then (-1 : Int) else IntKind.max .u32) = iv (BitVec.allOnes 32) := rfl
theorem oM64 : t32 (if IntKind.signed .i64 then (-1 : Int) else IntKind.max .i64) = BitVec.allOnes 32 := by decide
theorem shr_iv (a : Wd) (n : Nat) : iv a / 2 ^ n = iv (a >>> n) := by
  unfold iv
  rw [BitVec.toNat_ushiftRight, Nat.shiftRight_eq_div_pow]
  simp
theorem t32_shl (a : Int) (n : Nat) : t32 (a * 2 ^ n) = t32 a <<< n := by
  apply iv_inj
  rw [iv_t32]; unfold iv
  rw [BitVec.toNat_shiftLeft, Nat.shiftLeft_eq]
  have h := t32_nat a
  have : ((((t32 a).toNat * 2 ^ n) % 2 ^ 32 : Nat) : Int) = ((((t32 a).toNat : Int) * 2 ^ n) % 4294967296) := by
    rw [Int.natCast_emod, Int.natCast_mul]; simp
  rw [this, h, Int.mul_emod a (2 ^ n), Int.mul_emod (a % 4294967296) (2 ^ n), Int.emod_emod_of_dvd a (Int.dvd_refl _)]
/-- An unsigned word that a wider number holds. -/
theorem or64_iv (a b : Wd) : bits .or .i64 (iv a) (iv b) = iv (a ||| b) := by
  show IntKind.wrap .i64 (((BitVec.ofInt 64 (iv a)) ||| (BitVec.ofInt 64 (iv b))).toNat : Int) = _
  have h : ∀ w : Wd, BitVec.ofInt 64 (iv w) = w.setWidth 64 := fun w => by
    apply BitVec.eq_of_toNat_eq
    rw [BitVec.toNat_ofInt, BitVec.toNat_setWidth]
    unfold iv
    omega
  rw [h, h, ← BitVec.setWidth_or]
  have h2 : (((a ||| b).setWidth 64).toNat : Int) = iv (a ||| b) := by
    rw [BitVec.toNat_setWidth]; unfold iv; have := (a ||| b).isLt; omega
  rw [h2, wrap64_in]
  unfold inR; have := iv_ge (a ||| b); have := iv_lt (a ||| b); omega
/-- Turning to the right. -/
def ror (a : Wd) (n : Nat) : Wd := a >>> n ||| a <<< (32 - n)
section
variable {σ τ α : Type}
def it (step : Nat → τ → τ) : Nat → τ → τ
  | 0, t => t
  | n + 1, t => step n (it step n t)
theorem whileP_n {F : σ → Option (σ ⊕ α)} (mk : Nat → τ → σ) (step : Nat → τ → τ) {n : Nat} {t0 : τ} {s0 : σ} (h0 : s0 = mk 0 t0)
    (hs : ∀ i t, i < n → F (mk i t) = some (.inl (mk (i + 1) (step i t)))) {o : Option α} (he : F (mk n (it step n t0)) = o.map .inr) : whileP F s0 = o := by
  have key : ∀ m, m ≤ n → whileP F (mk 0 t0) = whileP F (mk m (it step m t0)) := by
    intro m hm
    induction m with
    | zero => rfl
    | succ m ih =>
      rw [ih (by omega), whileP_eq, hs m _ (by omega)]
      rfl
  rw [h0, key n (Nat.le_refl _), whileP_eq, he]
  cases o <;> rfl
end
def arr (n : Nat) (f : Nat → Wd) : List Int := (List.range n).map fun j => iv (f j)
theorem arr_len (n : Nat) (f : Nat → Wd) : (arr n f).length = n := by unfold arr; simp
theorem arr_get {n j : Nat} (f : Nat → Wd) (h : j < n) : (arr n f)[j]? = some (iv (f j)) := by
  unfold arr; rw [List.getElem?_map, List.getElem?_range h]; rfl
theorem arr_idx {n j : Nat} (f : Nat → Wd) (h : j < n) : idx (arr n f) (j : Int) = some (iv (f j)) := by rw [idx_nat, arr_get f h]
def upd (f : Nat → Wd) (j : Nat) (v : Wd) : Nat → Wd := fun k => if k = j then v else f k
theorem arr_set (n j : Nat) (f : Nat → Wd) (v : Wd) : (arr n f).set j (iv v) = arr n (upd f j v) := by
  apply List.ext_getElem?
  intro k
  rw [List.getElem?_set]
  by_cases hk : k < n
  · rw [arr_get _ hk, arr_get _ hk, arr_len]
    unfold upd
    by_cases h : j = k
    · subst h; simp [hk]
    · rw [if_neg h, if_neg (fun h' => h h'.symm)]
  · have h1 : ∀ g, (arr n g)[k]? = none := fun g => List.getElem?_eq_none (by rw [arr_len]; omega)
    rw [h1, h1, arr_len]
    by_cases h : j = k
    · subst h; simp; omega
    · rw [if_neg h]
theorem arr_aset {n j : Nat} (f : Nat → Wd) (v : Wd) (h : j < n) : aset (arr n f) j (iv v) = some (arr n (upd f j v)) := by
  unfold aset; rw [if_pos (by rw [arr_len]; exact h), arr_set]
theorem arr_alen (n : Nat) (f : Nat → Wd) : alen n (arr n f) = some (arr n f) := by unfold alen; rw [if_pos (arr_len n f)]
theorem arr_congr {n : Nat} {f g : Nat → Wd} (h : ∀ j, j < n → f j = g j) : arr n f = arr n g := by
  unfold arr; exact List.map_congr_left fun j hj => by rw [h j (List.mem_range.1 hj)]
theorem ack_nat {n j : Nat} (h : j < n) : ack n (j : Int) = some j := by unfold ack; rw [if_pos (by omega)]; simp
/-- The bytes of a text. -/
def byt (s : ByteArray) (i : Nat) : UInt8 := if h : i < s.size then s[i] else 0
theorem sidx_byt {s : ByteArray} {i : Nat} (h : i < s.size) : sidx s (i : Int) = some ((byt s i).toNat : Int) := by
  unfold sidx byt; rw [dif_pos ⟨by omega, by simpa using h⟩, dif_pos h]; simp
def bw (b : UInt8) : Wd := BitVec.ofNat 32 b.toNat
theorem bw_iv (b : UInt8) : (b.toNat : Int) = iv (bw b) := by
  unfold iv bw; rw [BitVec.toNat_ofNat]; have := b.toNat_lt; omega
def wrd (s : ByteArray) (i : Nat) : Wd := bw (byt s i) <<< 24 ||| bw (byt s (i + 1)) <<< 16 ||| bw (byt s (i + 2)) <<< 8 ||| bw (byt s (i + 3))
theorem shlU (a : Wd) (n : Nat) : IntKind.wrap .u32 (iv a * 2 ^ n) = iv (a <<< n) := by rw [wrapu, t32_shl, t32_iv]
theorem wrapU_iv (a : Wd) : IntKind.wrap .u32 (iv a) = iv a := by rw [wrapu, t32_iv]
theorem wrap64_iv (a : Wd) : IntKind.wrap .i64 (iv a) = iv a := wrap64_in (by unfold inR; have := iv_ge a; have := iv_lt a; omega)
theorem shl64_byte (b : UInt8) (n : Nat) (hn : n ≤ 24) : IntKind.wrap .i64 (iv (bw b) * 2 ^ n) = iv (bw b <<< n) := by
  have h1 : iv (bw b) < 256 := by rw [← bw_iv]; have := b.toNat_lt; omega
  have h0 := iv_ge (bw b)
  have h2 : (2 : Int) ^ n ≤ 2 ^ 24 := by
    have : (2 : Nat) ^ n ≤ 2 ^ 24 := Nat.pow_le_pow_right (by omega) hn
    exact_mod_cast this
  have h3 : (0 : Int) < 2 ^ n := Int.pow_pos (by omega)
  have h4 : iv (bw b) * 2 ^ n < 4294967296 := by
    calc iv (bw b) * 2 ^ n ≤ 255 * 2 ^ n := Int.mul_le_mul_of_nonneg_right (by omega) (by omega)
      _ ≤ 255 * 2 ^ 24 := Int.mul_le_mul_of_nonneg_left h2 (by omega)
      _ < 4294967296 := by decide
  have h5 : 0 ≤ iv (bw b) * 2 ^ n := Int.mul_nonneg h0 (by omega)
  rw [wrap64_in (by unfold inR; omega)]
  have h6 := t32_shl (iv (bw b)) n
  rw [t32_iv] at h6
  rw [← h6, iv_t32, Int.emod_eq_of_lt h5 h4]
end Go.Proofs.SL
