/- The sum of a short text: one block. -/
import Derived.Test.YtndhmnoehapdhaaDoorPH5
namespace Go.Proofs.SL
open Go

noncomputable def s_sh1 {α : Type} (a0 : ByteArray) (s3 : (List UInt8)) (kk : Option α) : Option (((List UInt8)) ⊕ α) :=
  cond (!decide ((IntKind.wrap .i64 ((a0.size : Int) + (s3.length : Int))).tmod 64 = 56)) (Option.bind (appP s3 [(0 : UInt8)]) (fun y6 => some (.inl (y6)))) (Option.map .inr kk)

noncomputable def s_sh2 {α : Type} (a0 : ByteArray) (s8 : (List UInt8) × Int) (kk : Option α) : Option (((List UInt8) × Int) ⊕ α) :=
  cond (decide (s8.2 < 8)) (Option.bind (shrP .i64 (IntKind.wrap .i64 ((a0.size : Int) * 8)) (IntKind.wrap .u64 (IntKind.wrap .i64 (56 - IntKind.wrap .i64 (8 * s8.2))))) (fun y10 => Option.bind (u8P (IntKind.wrap .u8 (bits .and .i64 y10 255))) (fun y11 => Option.bind (appP s8.1 [y11]) (fun y13 => some (.inl ((y13, IntKind.wrap .i64 (s8.2 + 1)))))))) (Option.map .inr kk)

noncomputable def s_sh3 {α : Type} (y15 : ByteArray) (y18 : List Int) (s19 : (List Int) × Int) (kk : Option α) : Option (((List Int) × Int) ⊕ α) :=
  cond (decide (s19.2 < (y15.size : Int))) (Option.bind (sslP y15 s19.2 (IntKind.wrap .i64 (s19.2 + 64))) (fun y21 => Option.bind (s_l3Block s19.1 y21 y18) (fun y22 => some (.inl ((y22, IntKind.wrap .i64 (s19.2 + 64))))))) (Option.map .inr kk)

noncomputable def s_sh4 {α : Type} (s19 : (List Int) × Int) (s26 : (List UInt8) × Int) (kk : Option α) : Option (((List UInt8) × Int) ⊕ α) :=
  cond (decide (s26.2 < 8)) (Option.bind (idx s19.1 s26.2) (fun y28 => Option.bind (idx s19.1 s26.2) (fun y29 => Option.bind (idx s19.1 s26.2) (fun y30 => Option.bind (idx s19.1 s26.2) (fun y31 => Option.bind (u8P (IntKind.wrap .u8 (y28 / 2 ^ (24 : Int).toNat))) (fun y32 => Option.bind (u8P (IntKind.wrap .u8 (bits .and .i64 (y29 / 2 ^ (16 : Int).toNat) 255))) (fun y33 => Option.bind (u8P (IntKind.wrap .u8 (bits .and .i64 (y30 / 2 ^ (8 : Int).toNat) 255))) (fun y34 => Option.bind (u8P (IntKind.wrap .u8 (bits .and .i64 y31 255))) (fun y35 => Option.bind (some ([y32, y33, y34, y35] : List UInt8)) (fun y36 => Option.bind (appP s26.1 y36) (fun y39 => some (.inl ((y39, IntKind.wrap .i64 (s26.2 + 1))))))))))))))) (Option.map .inr kk)

theorem s_Sha_open (a0 : ByteArray) : s_Sha a0 =
  Option.bind (some ([(128 : UInt8)] : List UInt8)) (fun y1 => whileP (fun s3 : (List UInt8) => s_sh1 a0 s3 (whileP (fun s8 : (List UInt8) × Int => s_sh2 a0 s8 (Option.bind (catP a0 (strP s8.1)) (fun y15 => Option.bind (some ([1779033703, 3144134277, 1013904242, 2773480762, 1359893119, 2600822924, 528734635, 1541459225] : List Int)) (fun y16 => Option.bind (s_l3Keys ) (fun y18 => whileP (fun s19 : (List Int) × Int => s_sh3 y15 y18 s19 (Option.bind (some ([] : List UInt8)) (fun y25 => whileP (fun s26 : (List UInt8) × Int => s_sh4 s19 s26 (some (strP s26.1))) (y25, 0)))) (y16, 0)))))) (s3, 0))) y1) := rfl


noncomputable def i_sh1 {α : Type} (y6 : ByteArray) (s9 : Int × (List Int)) (kk : Option α) : Option ((Int × (List Int)) ⊕ α) :=
  cond (decide (s9.1 < (y6.size : Int))) (Option.bind (alen 8 s9.2) (fun y11 => Option.bind (sslP y6 s9.1 (IntKind.wrap .i64 (s9.1 + 64))) (fun y12 => Option.bind (i_shaBlock s9.2 y12) (fun y13 => Option.bind (alen 8 s9.2) (fun y14 => Option.bind (alen 8 y13) (fun y15 => some (.inl ((IntKind.wrap .i64 (s9.1 + 64), y13))))))))) (Option.map .inr kk)

noncomputable def i_sh2 {α : Type} (s9 : Int × (List Int)) (s18 : ByteArray × Int) (kk : Option α) : Option ((ByteArray × Int) ⊕ α) :=
  cond (decide (s18.2 < 8)) (Option.bind (ack 8 s18.2) (fun y20 => Option.bind (s9.2[y20]?) (fun y21 => Option.bind (i_Fixed (IntKind.wrap .i64 y21) 4) (fun y22 => Option.bind (catP s18.1 y22) (fun y23 => some (.inl ((y23, IntKind.wrap .i64 (s18.2 + 1))))))))) (Option.map .inr kk)

theorem i_Sha_open (a0 : ByteArray) : i_Sha a0 =
  Option.bind (catP a0 (ByteArray.mk #[128])) (fun y1 => Option.bind (mkP 1 (IntKind.wrap .i64 ((IntKind.wrap .i64 (64 - (IntKind.wrap .i64 ((a0.size : Int) + 9)).tmod 64)).tmod 64 + 1)) (0 : UInt8)) (fun y2 => Option.bind (catP y1 (strP y2)) (fun y4 => Option.bind (i_Fixed (IntKind.wrap .i64 (8 * (a0.size : Int))) 7) (fun y5 => Option.bind (catP y4 y5) (fun y6 => Option.bind (alen 8 (List.replicate 8 (0 : Int))) (fun y7 => Option.bind (alen 8 ([1779033703, 3144134277, 1013904242, 2773480762, 1359893119, 2600822924, 528734635, 1541459225] : List Int)) (fun y8 => whileP (fun s9 : Int × (List Int) => i_sh1 y6 s9 (Option.bind (alen 8 s9.2) (fun y17 => whileP (fun s18 : ByteArray × Int => i_sh2 s9 s18 (some s18.1)) (ByteArray.empty, 0)))) (0, ([1779033703, 3144134277, 1013904242, 2773480762, 1359893119, 2600822924, 528734635, 1541459225] : List Int))))))))) := rfl


theorem strP_app (a b : List UInt8) : strP a ++ strP b = strP (a ++ b) := by
  apply ByteArray.ext
  rw [ByteArray.data_append]
  exact List.append_toArray ..
theorem strP_size (a : List UInt8) : (strP a).size = a.length := rfl
def h0l : List Int := [1779033703, 3144134277, 1013904242, 2773480762, 1359893119, 2600822924, 528734635, 1541459225]
def h0 (j : Nat) : Wd := t32 (h0l.getD j 0)
theorem h0_arr : h0l = arr 8 h0 := by kernel_rfl
def outN (f : Nat → Wd) (i : Nat) : List UInt8 := (List.range i).flatMap fun j => be 4 (f j).toNat
theorem outN_succ (f : Nat → Wd) (i : Nat) : outN f (i + 1) = outN f i ++ be 4 (f i).toNat := by unfold outN; rw [List.range_succ, List.flatMap_append]; simp
theorem outN_len (f : Nat → Wd) : ∀ i, (outN f i).length = 4 * i
  | 0 => rfl
  | i + 1 => by rw [outN_succ, List.length_append, outN_len f i, be_len]; omega
def padL (n : Nat) : List UInt8 := 128 :: List.replicate (55 - n) 0 ++ be 8 (8 * n)
def pad (s : ByteArray) : ByteArray := s ++ strP (padL s.size)
theorem pad_size {s : ByteArray} (h : s.size ≤ 55) : (pad s).size = 64 := by
  unfold pad padL
  rw [ByteArray.size_append, strP_size, List.length_append, List.length_cons, List.length_replicate, be_len]; omega
def sha (s : ByteArray) : ByteArray := strP (outN (shaB h0 (pad s)) 8)
theorem sha_size (s : ByteArray) : (sha s).size = 32 := by unfold sha; rw [strP_size, outN_len]
theorem ssl_all {t : ByteArray} (h : t.size = 64) : sslP t 0 64 = some t := by
  unfold sslP
  rw [if_pos (by omega)]
  congr 1
  apply ByteArray.ext
  rw [ByteArray.data_extract]
  show t.data.extract 0 64 = t.data
  have : t.data.size = 64 := h
  rw [← this, Array.extract_size]
/- the reference -/
theorem s_sh1_step {α : Type} {s : ByteArray} {i : Nat} (hs : s.size ≤ 55) (hi : i < 55 - s.size) (kk : Option α) : s_sh1 s (128 :: List.replicate i 0) kk = some (.inl (128 :: List.replicate (i + 1) 0)) := by
  unfold s_sh1
  refine condT ?_ ?_
  · rw [wrap64_in (by unfold inR; simp; omega), Int.tmod_eq_emod_of_nonneg (by omega), decide_eq_false (by simp; omega)]; rfl
  · refine bnd (appP_ok (by simp; omega)) ?_
    show some (Sum.inl (128 :: List.replicate i 0 ++ [0])) = _
    rw [List.cons_append, ← List.replicate_succ']
theorem s_sh1_end {α : Type} {s : ByteArray} (hs : s.size ≤ 55) (kk : Option α) : s_sh1 s (128 :: List.replicate (55 - s.size) 0) kk = kk.map .inr := by
  unfold s_sh1
  refine condF ?_ rfl
  rw [wrap64_in (by unfold inR; simp; omega), Int.tmod_eq_emod_of_nonneg (by omega), decide_eq_true (by simp; omega)]; rfl
def be8 (n i : Nat) : List UInt8 := (List.range i).map fun j => UInt8.ofNat (n / 256 ^ (8 - 1 - j))
theorem s_sh2_step {α : Type} {s : ByteArray} {i : Nat} (x : List UInt8) (hx : x.length ≤ 100) (hs : s.size ≤ 55) (hi : i < 8) (kk : Option α) : s_sh2 s (x ++ be8 (8 * s.size) i, (i : Int)) kk = some (.inl (x ++ be8 (8 * s.size) (i + 1), ((i + 1 : Nat) : Int))) := by
  unfold s_sh2
  refine condT (decide_eq_true (by show (i : Int) < 8; omega)) ?_
  refine bnd (a := ((8 * s.size / 256 ^ (7 - i) : Nat) : Int)) ?_ ?_
  · show shrP .i64 (IntKind.wrap .i64 ((s.size : Int) * 8)) (IntKind.wrap .u64 (IntKind.wrap .i64 (56 - IntKind.wrap .i64 (8 * (i : Int))))) = _
    rw [wrap64_in (n := (s.size : Int) * 8) (by unfold inR; omega), wrap64_in (n := 8 * (i : Int)) (by unfold inR; omega), wrap64_in (by unfold inR; omega), IntKind.wrap_u64, show (56 - 8 * (i : Int)) % 18446744073709551616 = ((8 * (7 - i) : Nat) : Int) by omega]
    unfold shrP
    rw [if_pos ⟨by omega, by show ((8 * (7 - i) : Nat) : Int) ≤ 64; omega⟩, show (((8 * (7 - i) : Nat) : Int)).toNat = 8 * (7 - i) by omega,
      show (s.size : Int) * 8 = ((8 * s.size : Nat) : Int) by omega, show (256 : Nat) ^ (7 - i) = 2 ^ (8 * (7 - i)) by rw [Nat.pow_mul]]
    simp
  refine bnd (u8_and (Nat.lt_of_le_of_lt (Nat.div_le_self _ _) (by omega))) ?_
  refine bnd (appP_ok (by simp [be8]; omega)) ?_
  show some (Sum.inl (_, IntKind.wrap .i64 ((i : Int) + 1))) = _
  rw [wrap_succ (by omega), List.append_assoc]
  unfold be8
  rw [List.range_succ, List.map_append]
  rfl
theorem s_sh2_end {α : Type} (s : ByteArray) (x : List UInt8) (kk : Option α) : s_sh2 s (x, ((8 : Nat) : Int)) kk = kk.map .inr := by
  unfold s_sh2
  exact condF (decide_eq_false (by show ¬ ((8 : Nat) : Int) < 8; omega)) rfl
theorem s_sh3_step {α : Type} {t : ByteArray} (ht : t.size = 64) (h : Nat → Wd) (kk : Option α) : s_sh3 t (arr 64 kW) (arr 8 h, 0) kk = some (.inl (arr 8 (shaB h t), 64)) := by
  unfold s_sh3
  refine condT (decide_eq_true (by show (0 : Int) < (t.size : Int); omega)) ?_
  refine bnd (ssl_all ht) ?_
  exact bnd (s_l3Block_eq ht h) rfl
theorem s_sh3_end {α : Type} {t : ByteArray} (ht : t.size = 64) (q : List Int) (l : List Int) (kk : Option α) : s_sh3 t q (l, 64) kk = kk.map .inr := by
  unfold s_sh3
  exact condF (decide_eq_false (by show ¬ (64 : Int) < (t.size : Int); omega)) rfl
theorem u8_24 (w : Wd) : u8P (IntKind.wrap .u8 (iv w / 2 ^ 24)) = some (UInt8.ofNat (w.toNat / 16777216)) := by
  have h := w.isLt
  rw [show iv w / 2 ^ 24 = ((w.toNat / 16777216 % 256 : Nat) : Int) by unfold iv; omega, u8_mod]
theorem be4 (n : Nat) : be 4 n = [UInt8.ofNat (n / 16777216), UInt8.ofNat (n / 65536), UInt8.ofNat (n / 256), UInt8.ofNat n] := by
  show [UInt8.ofNat (n / 256 ^ 3), UInt8.ofNat (n / 256 ^ 2), UInt8.ofNat (n / 256 ^ 1), UInt8.ofNat (n / 256 ^ 0)] = _
  rw [Nat.pow_zero, Nat.div_one]
theorem s_sh4_step {α : Type} (f : Nat → Wd) {i : Nat} (hi : i < 8) (c : Int) (kk : Option α) : s_sh4 (arr 8 f, c) (outN f i, (i : Int)) kk = some (.inl (outN f (i + 1), ((i + 1 : Nat) : Int))) := by
  have hw : ∀ d, (f i).toNat / d < 9223372036854775808 := fun d => Nat.lt_of_le_of_lt (Nat.div_le_self _ _) (by have := (f i).isLt; omega)
  unfold s_sh4
  refine condT (decide_eq_true (by show (i : Int) < 8; omega)) ?_
  refine bnd (arr_idx f hi) (bnd (arr_idx f hi) (bnd (arr_idx f hi) (bnd (arr_idx f hi) ?_)))
  refine bnd (u8_24 _) ?_
  refine bnd (a := UInt8.ofNat ((f i).toNat / 65536)) (by rw [show iv (f i) / 2 ^ (16 : Int).toNat = (((f i).toNat / 65536 : Nat) : Int) by unfold iv; rw [i16]; omega]; exact u8_and (hw _)) ?_
  refine bnd (a := UInt8.ofNat ((f i).toNat / 256)) (by rw [show iv (f i) / 2 ^ (8 : Int).toNat = (((f i).toNat / 256 : Nat) : Int) by unfold iv; rw [i8']; omega]; exact u8_and (hw _)) ?_
  refine bnd (a := UInt8.ofNat (f i).toNat) (by have := hw 1; rw [Nat.div_one] at this; exact u8_and this) ?_
  refine bnd rfl ?_
  refine bnd (appP_ok (by rw [outN_len]; show 4 * i + 4 ≤ _; omega)) ?_
  show some (Sum.inl (_, IntKind.wrap .i64 ((i : Int) + 1))) = _
  rw [wrap_succ (by omega), outN_succ, be4]
theorem s_sh4_end {α : Type} (q : List Int × Int) (l : List UInt8) (kk : Option α) : s_sh4 q (l, ((8 : Nat) : Int)) kk = kk.map .inr := by
  unfold s_sh4
  exact condF (decide_eq_false (by show ¬ ((8 : Nat) : Int) < 8; omega)) rfl
theorem s_Sha_eq {s : ByteArray} (hs : s.size ≤ 55) : s_Sha s = some (sha s) := by
  rw [s_Sha_open]
  refine bnd rfl ?_
  refine whileP_n (fun (i : Nat) (_ : Unit) => 128 :: List.replicate i 0) (fun _ _ => ()) (n := 55 - s.size) (t0 := ()) rfl (fun i t hi => s_sh1_step hs hi _) ?_
  refine (s_sh1_end hs _).trans (congrArg (Option.map Sum.inr) ?_)
  refine whileP_n (fun (i : Nat) (_ : Unit) => (128 :: List.replicate (55 - s.size) 0 ++ be8 (8 * s.size) i, (i : Int))) (fun _ _ => ()) (n := 8) (t0 := ()) ?_ (fun i t hi => s_sh2_step _ (by simp; omega) hs hi _) ?_
  · show _ = (128 :: List.replicate (55 - s.size) 0 ++ [], ((0 : Nat) : Int))
    rw [List.append_nil]; rfl
  refine (s_sh2_end _ _ _).trans (congrArg (Option.map Sum.inr) ?_)
  refine bnd (a := pad s) (by rw [catP_ok (by rw [strP_size]; simp [be8]; omega)]; rfl) ?_
  refine bnd rfl (bnd s_l3Keys_eq ?_)
  refine whileP_n (fun (i : Nat) (h : Nat → Wd) => (arr 8 h, ((64 * i : Nat) : Int))) (fun _ h => shaB h (pad s)) (n := 1) (t0 := h0) ?_ (fun i t hi => ?_) ?_
  · exact congrArg (fun q => (q, (0 : Int))) h0_arr
  · obtain rfl : i = 0 := by omega
    exact s_sh3_step (pad_size hs) t _
  refine (s_sh3_end (pad_size hs) _ _ _).trans (congrArg (Option.map Sum.inr) ?_)
  refine bnd rfl ?_
  refine whileP_n (fun (i : Nat) (_ : Unit) => (outN (shaB h0 (pad s)) i, (i : Int))) (fun _ _ => ()) (n := 8) (t0 := ()) rfl (fun i t hi => s_sh4_step _ hi _ _) ?_
  exact s_sh4_end _ _ _
/- the program -/
theorem i_sh1_step {α : Type} {t : ByteArray} (ht : t.size = 64) (h : Nat → Wd) (kk : Option α) : i_sh1 t (0, arr 8 h) kk = some (.inl (64, arr 8 (shaB h t))) := by
  unfold i_sh1
  refine condT (decide_eq_true (by show (0 : Int) < (t.size : Int); omega)) ?_
  refine bnd (arr_alen 8 h) (bnd (ssl_all ht) (bnd (i_shaBlock_eq ht h) (bnd (arr_alen 8 h) (bnd (arr_alen 8 _) rfl))))
theorem i_sh1_end {α : Type} {t : ByteArray} (ht : t.size = 64) (l : List Int) (kk : Option α) : i_sh1 t (64, l) kk = kk.map .inr := by
  unfold i_sh1
  exact condF (decide_eq_false (by show ¬ (64 : Int) < (t.size : Int); omega)) rfl
theorem i_sh2_step {α : Type} (f : Nat → Wd) {i : Nat} (hi : i < 8) (c : Int) (kk : Option α) : i_sh2 (c, arr 8 f) (strP (outN f i), (i : Int)) kk = some (.inl (strP (outN f (i + 1)), ((i + 1 : Nat) : Int))) := by
  unfold i_sh2
  refine condT (decide_eq_true (by show (i : Int) < 8; omega)) ?_
  refine bnd (ack_nat hi) (bnd (arr_get f hi) (bnd (i_Fixed_eq (k := 4) (n := (f i).toNat) (by omega) (by omega) (by have := (f i).isLt; omega) (wrap64_iv _) rfl) ?_))
  refine bnd (catP_ok (by rw [strP_size, strP_size, outN_len, be_len]; omega)) ?_
  show some (Sum.inl (_, IntKind.wrap .i64 ((i : Int) + 1))) = _
  rw [wrap_succ (by omega), outN_succ, strP_app]
theorem i_sh2_end {α : Type} (q : Int × List Int) (l : ByteArray) (kk : Option α) : i_sh2 q (l, ((8 : Nat) : Int)) kk = kk.map .inr := by
  unfold i_sh2
  exact condF (decide_eq_false (by show ¬ ((8 : Nat) : Int) < 8; omega)) rfl
theorem be_88 {n : Nat} (h : n < 72057594037927936) : be 8 n = 0 :: be 7 n := by
  have h1 : be 8 n = UInt8.ofNat (n / 256 ^ 7) :: be 7 n := rfl
  rw [h1, show (256 : Nat) ^ 7 = 72057594037927936 by decide, Nat.div_eq_of_lt h]; rfl
theorem pad_eq {s : ByteArray} (hs : s.size ≤ 55) : s ++ ByteArray.mk #[128] ++ strP (List.replicate (56 - s.size) 0) ++ strP (be 7 (8 * s.size)) = pad s := by
  unfold pad padL
  rw [show ByteArray.mk #[128] = strP [128] from rfl, ByteArray.append_assoc, ByteArray.append_assoc, strP_app, strP_app, be_88 (by omega), show 56 - s.size = (55 - s.size) + 1 by omega, List.replicate_succ']
  simp
theorem i_Sha_eq {s : ByteArray} (hs : s.size ≤ 55) : i_Sha s = some (sha s) := by
  rw [i_Sha_open]
  refine bnd (a := s ++ ByteArray.mk #[128]) (catP_ok (by show s.size + 1 ≤ _; omega)) ?_
  refine bnd (a := List.replicate (56 - s.size) 0) ?_ ?_
  · have e : IntKind.wrap .i64 ((IntKind.wrap .i64 (64 - (IntKind.wrap .i64 ((s.size : Int) + 9)).tmod 64)).tmod 64 + 1) = ((56 - s.size : Nat) : Int) := by
      rw [wrap64_in (n := (s.size : Int) + 9) (by unfold inR; omega), Int.tmod_eq_emod_of_nonneg (a := (s.size : Int) + 9) (by omega), wrap64_in (n := 64 - _) (by unfold inR; omega), Int.tmod_eq_emod_of_nonneg (by omega), wrap64_in (by unfold inR; omega)]
      omega
    rw [e]
    unfold mkP
    rw [if_pos (by omega), show (((56 - s.size : Nat) : Int)).toNat = 56 - s.size by omega]
  refine bnd (catP_ok (by rw [strP_size, ByteArray.size_append, List.length_replicate]; show s.size + 1 + _ ≤ _; omega)) ?_
  refine bnd (i_Fixed_eq (k := 7) (n := 8 * s.size) (by omega) (by omega) (Nat.lt_of_lt_of_le (show 8 * s.size < 72057594037927936 by omega) (by decide)) (by rw [wrap64_in (by unfold inR; omega)]; omega) rfl) ?_
  refine bnd (a := pad s) (by rw [← pad_eq hs]; exact catP_ok (by rw [strP_size, ByteArray.size_append, ByteArray.size_append, strP_size, List.length_replicate, be_len]; show s.size + 1 + _ + 7 ≤ _; omega)) ?_
  refine bnd (alen_ok rfl) (bnd (alen_ok rfl) ?_)
  refine whileP_n (fun (i : Nat) (h : Nat → Wd) => (((64 * i : Nat) : Int), arr 8 h)) (fun _ h => shaB h (pad s)) (n := 1) (t0 := h0) ?_ (fun i t hi => ?_) ?_
  · exact congrArg (fun q => ((0 : Int), q)) h0_arr
  · obtain rfl : i = 0 := by omega
    exact i_sh1_step (pad_size hs) t _
  refine (i_sh1_end (pad_size hs) _ _).trans (congrArg (Option.map Sum.inr) ?_)
  refine bnd (arr_alen 8 _) ?_
  refine whileP_n (fun (i : Nat) (_ : Unit) => (strP (outN (shaB h0 (pad s)) i), (i : Int))) (fun _ _ => ()) (n := 8) (t0 := ()) rfl (fun i t hi => i_sh2_step _ hi _ _) ?_
  exact i_sh2_end _ _ _
def short (s : ByteArray) : ByteArray := (sha s).extract 0 8
theorem short_size (s : ByteArray) : (short s).size = 8 := by unfold short; rw [ByteArray.size_extract, sha_size]; rfl
theorem ssl_8 (s : ByteArray) : sslP (sha s) 0 8 = some (short s) := by
  unfold sslP; rw [if_pos (by rw [sha_size]; omega)]; rfl
theorem i_Short_eq {s : ByteArray} (hs : s.size ≤ 55) : i_Short s = some (short s) := by
  unfold i_Short; exact bnd (i_Sha_eq hs) (bnd (ssl_8 s) rfl)
theorem s_Short_eq {s : ByteArray} (hs : s.size ≤ 55) : s_Short s = some (short s) := by
  unfold s_Short; exact bnd (s_Sha_eq hs) (bnd (ssl_8 s) rfl)
end Go.Proofs.SL
