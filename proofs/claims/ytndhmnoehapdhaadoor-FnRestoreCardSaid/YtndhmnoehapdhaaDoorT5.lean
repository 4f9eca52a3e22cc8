/- The texts of the proof, part 5: the base, walks of functions, plain Lean. -/
import Derived.Test.YtndhmnoehapdhaaDoorT4
import Derived.Test.YtndhmnoehapdhaaDoorT3
import Derived.OpenShut
import Derived.OpenVars
import Derived.Lay
import Derived.MakeChecks
import Derived.SevenTiedAt
import Derived.Test.YtndhmnoehapdhaaDoorT2
import Derived.Test.YtndhmnoehapdhaaDoorRows
namespace Go.Proofs.SL
open Go
noncomputable def s_sh1 {α : Type} (a0 : ByteArray) (s3 : (List UInt8)) (kk : Option α) : Option (((List UInt8)) ⊕ α) :=
  cond (!decide ((IntKind.wrap .i64 ((a0.size : Int) + (s3.length : Int))).tmod 64 = 56)) (Option.bind (appP s3 [(0 : UInt8)]) (fun y6 => some (.inl (y6)))) (Option.map .inr kk)
noncomputable def s_sh2 {α : Type} (a0 : ByteArray) (s8 : (List UInt8) × Int) (kk : Option α) : Option (((List UInt8) × Int) ⊕ α) :=
  cond (decide (s8.2 < 8)) (Option.bind (shrP .i64 (IntKind.wrap .i64 ((a0.size : Int) * 8)) (IntKind.wrap .u64 (IntKind.wrap .i64 (56 - IntKind.wrap .i64 (8 * s8.2))))) (fun y10 => Option.bind (u8P (IntKind.wrap .u8 (bits .and .i64 y10 255))) (fun y11 => Option.bind (appP s8.1 [y11]) (fun y13 => some (.inl ((y13, IntKind.wrap .i64 (s8.2 + 1)))))))) (Option.map .inr kk)
noncomputable def s_sh3 {α : Type} (y15 : ByteArray) (y18 : List Int) (s19 : (List Int) × Int) (kk : Option α) : Option (((List Int) × Int) ⊕ α) :=
  cond (decide (s19.2 < (y15.size : Int))) (Option.bind (sslP y15 s19.2 (IntKind.wrap .i64 (s19.2 + 64))) (fun y21 => Option.bind (s_l3Block s19.1 y21 y18) (fun y22 => some (.inl ((y22, IntKind.wrap .i64 (s19.2 + 64))))))) (Option.map .inr kk)
noncomputable def s_sh4 {α : Type} (s19 : (List Int) × Int) (s26 : (List UInt8) × Int) (kk : Option α) : Option (((List UInt8) × Int) ⊕ α) :=
  cond (decide (s26.2 < 8)) (Option.bind (idx s19.1 s26.2) (fun y28 => Option.bind (idx s19.1 s26.2) (fun y29 => Option.bind (idx s19.1 s26.2) (fun y30 => Option.bind (idx s19.1 s26.2) (fun y31 => Option.bind (u8P (IntKind.wrap .u8 (y28 / 2 ^ (24 : Int).toNat))) (fun y32 => Option.bind (u8P (IntKind.wrap .u8 (bits .and .i64 (y29 / 2 ^ (16 : Int).toNat) 255))) (fun y33 => Option.bind (u8P (IntKind.wrap .u8 (bits .and .i64 (y30 / 2 ^ (8 : Int).toNat) 255))) (fun y34 => Option.bind (u8P (IntKind.wrap .u8 (bits .and .i64 y31 255))) (fun y35 => Option.bind (some ([y32, y33, y34, y35] : List UInt8)) (fun y36 => Option.bind (appP s26.1 y36) (fun y39 => some (.inl ((y39, IntKind.wrap .i64 (s26.2 + 1))))))))))))))) (Option.map .inr kk)
theorem s_Sha_open (a0 : ByteArray) : s_Sha a0 =
  Option.bind (some ([(128 : UInt8)] : List UInt8)) (fun y1 => whileP (fun s3 : (List UInt8) => s_sh1 a0 s3 (whileP (fun s8 : (List UInt8) × Int => s_sh2 a0 s8 (Option.bind (catP a0 (strP s8.1)) (fun y15 => Option.bind (some ([1779033703, 3144134277, 1013904242, 2773480762, 1359893119, 2600822924, 528734635, 1541459225] : List Int)) (fun y16 => Option.bind (s_l3Keys ) (fun y18 => whileP (fun s19 : (List Int) × Int => s_sh3 y15 y18 s19 (Option.bind (some ([] : List UInt8)) (fun y25 => whileP (fun s26 : (List UInt8) × Int => s_sh4 s19 s26 (some (strP s26.1))) (y25, 0)))) (y16, 0)))))) (s3, 0))) y1) := rfl
noncomputable def i_sh1 {α : Type} (y6 : ByteArray) (s9 : Int × (List Int)) (kk : Option α) : Option ((Int × (List Int)) ⊕ α) :=
  cond (decide (s9.1 < (y6.size : Int))) (Option.bind (alen 8 s9.2) (fun y11 => Option.bind (sslP y6 s9.1 (IntKind.wrap .i64 (s9.1 + 64))) (fun y12 => Option.bind (i_shaBlock s9.2 y12) (fun y13 => Option.bind (alen 8 s9.2) (fun y14 => Option.bind (alen 8 y13) (fun y15 => some (.inl ((IntKind.wrap .i64 (s9.1 + 64), y13))))))))) (Option.map .inr kk)
noncomputable def i_sh2 {α : Type} (s9 : Int × (List Int)) (s18 : ByteArray × Int) (kk : Option α) : Option ((ByteArray × Int) ⊕ α) :=
  cond (decide (s18.2 < 8)) (Option.bind (ack 8 s18.2) (fun y20 => Option.bind (s9.2[y20]?) (fun y21 => Option.bind (i_Fixed (IntKind.wrap .i64 y21) 4) (fun y22 => Option.bind (catP s18.1 y22) (fun y23 => some (.inl ((y23, IntKind.wrap .i64 (s18.2 + 1))))))))) (Option.map .inr kk)
theorem i_Sha_open (a0 : ByteArray) : i_Sha a0 =
  Option.bind (catP a0 (ByteArray.mk #[128])) (fun y1 => Option.bind (mkP 1 (IntKind.wrap .i64 ((IntKind.wrap .i64 (64 - (IntKind.wrap .i64 ((a0.size : Int) + 9)).tmod 64)).tmod 64 + 1)) (0 : UInt8)) (fun y2 => Option.bind (catP y1 (strP y2)) (fun y4 => Option.bind (i_Fixed (IntKind.wrap .i64 (8 * (a0.size : Int))) 7) (fun y5 => Option.bind (catP y4 y5) (fun y6 => Option.bind (alen 8 (List.replicate 8 (0 : Int))) (fun y7 => Option.bind (alen 8 ([1779033703, 3144134277, 1013904242, 2773480762, 1359893119, 2600822924, 528734635, 1541459225] : List Int)) (fun y8 => whileP (fun s9 : Int × (List Int) => i_sh1 y6 s9 (Option.bind (alen 8 s9.2) (fun y17 => whileP (fun s18 : ByteArray × Int => i_sh2 s9 s18 (some s18.1)) (ByteArray.empty, 0)))) (0, ([1779033703, 3144134277, 1013904242, 2773480762, 1359893119, 2600822924, 528734635, 1541459225] : List Int))))))))) := rfl
theorem strP_app (a b : List UInt8) : strP a ++ strP b = strP (a ++ b) := by
  apply ByteArray.ext
  rw [ByteArray.data_append]
  exact List.append_toArray ..
theorem strP_size (a : List UInt8) : (strP a).size = a.length := rfl
def h0l : List Int := [1779033703, 3144134277, 1013904242, 2773480762, 1359893119, 2600822924, 528734635, 1541459225]
def h0 (j : Nat) : Wd := t32 (h0l.getD j 0)
theorem h0_arr : h0l = arr 8 h0 := by kernel_rfl
def outN (f : Nat → Wd) (i : Nat) : List UInt8 := (List.range i).flatMap fun j => be 4 (f j).toNat
theorem outN_succ (f : Nat → Wd) (i : Nat) : outN f (i + 1) = outN f i ++ be 4 (f i).toNat := by unfold outN; rw [List.range_succ, List.flatMap_append]; simp
theorem outN_len (f : Nat → Wd) : ∀ i, (outN f i).length = 4 * i
  | 0 => rfl
  | i + 1 => by rw [outN_succ, List.length_append, outN_len f i, be_len]; omega
def padL (n : Nat) : List UInt8 := 128 :: List.replicate (55 - n) 0 ++ be 8 (8 * n)
def pad (s : ByteArray) : ByteArray := s ++ strP (padL s.size)
theorem pad_size {s : ByteArray} (h : s.size ≤ 55) : (pad s).size = 64 := by
  unfold pad padL
  rw [ByteArray.size_append, strP_size, List.length_append, List.length_cons, List.length_replicate, be_len]; omega
def sha (s : ByteArray) : ByteArray := strP (outN (shaB h0 (pad s)) 8)
theorem sha_size (s : ByteArray) : (sha s).size = 32 := by unfold sha; rw [strP_size, outN_len]
theorem ssl_all {t : ByteArray} (h : t.size = 64) : sslP t 0 64 = some t := by
  unfold sslP
  rw [if_pos (by omega)]
  congr 1
  apply ByteArray.ext
  rw [ByteArray.data_extract]
  show t.data.extract 0 64 = t.data
  have : t.data.size = 64 := h
  rw [← this, Array.extract_size]
/- the reference -/
theorem s_sh1_step {α : Type} {s : ByteArray} {i : Nat} (hs : s.size ≤ 55) (hi : i < 55 - s.size) (kk : Option α) : s_sh1 s (128 :: List.replicate i 0) kk = some (.inl (128 :: List.replicate (i + 1) 0)) := by
  unfold s_sh1
  refine condT ?_ ?_
  · rw [wrap64_in (by unfold inR; simp; omega), Int.tmod_eq_emod_of_nonneg (by omega), decide_eq_false (by simp; omega)]; rfl
  · refine bnd (appP_ok (by simp; omega)) ?_
    show some (Sum.inl (128 :: List.replicate i 0 ++ [0])) = _
    rw [List.cons_append, ← List.replicate_succ']
theorem s_sh1_end {α : Type} {s : ByteArray} (hs : s.size ≤ 55) (kk : Option α) : s_sh1 s (128 :: List.replicate (55 - s.size) 0) kk = kk.map .inr := by
  unfold s_sh1
  refine condF ?_ rfl
  rw [wrap64_in (by unfold inR; simp; omega), Int.tmod_eq_emod_of_nonneg (by omega), decide_eq_true (by simp; omega)]; rfl
def be8 (n i : Nat) : List UInt8 := (List.range i).map fun j => UInt8.ofNat (n / 256 ^ (8 - 1 - j))
theorem s_sh2_step {α : Type} {s : ByteArray} {i : Nat} (x : List UInt8) (hx : x.length ≤ 100) (hs : s.size ≤ 55) (hi : i < 8) (kk : Option α) : s_sh2 s (x ++ be8 (8 * s.size) i, (i : Int)) kk = some (.inl (x ++ be8 (8 * s.size) (i + 1), ((i + 1 : Nat) : Int))) := by
  unfold s_sh2
  refine condT (decide_eq_true (by show (i : Int) < 8; omega)) ?_
  refine bnd (a := ((8 * s.size / 256 ^ (7 - i) : Nat) : Int)) ?_ ?_
  · show shrP .i64 (IntKind.wrap .i64 ((s.size : Int) * 8)) (IntKind.wrap .u64 (IntKind.wrap .i64 (56 - IntKind.wrap .i64 (8 * (i : Int))))) = _
    rw [wrap64_in (n := (s.size : Int) * 8) (by unfold inR; omega), wrap64_in (n := 8 * (i : Int)) (by unfold inR; omega), wrap64_in (by unfold inR; omega), IntKind.wrap_u64, show (56 - 8 * (i : Int)) % 18446744073709551616 = ((8 * (7 - i) : Nat) : Int) by omega]
    unfold shrP
    rw [if_pos ⟨by omega, by show ((8 * (7 - i) : Nat) : Int) ≤ 64; omega⟩, show (((8 * (7 - i) : Nat) : Int)).toNat = 8 * (7 - i) by omega,
      show (s.size : Int) * 8 = ((8 * s.size : Nat) : Int) by omega, show (256 : Nat) ^ (7 - i) = 2 ^ (8 * (7 - i)) by rw [Nat.pow_mul]]
    simp
  refine bnd (u8_and (Nat.lt_of_le_of_lt (Nat.div_le_self _ _) (by omega))) ?_
  refine bnd (appP_ok (by simp [be8]; omega)) ?_
  show some (Sum.inl (_, IntKind.wrap .i64 ((i : Int) + 1))) = _
  rw [wrap_succ (by omega), List.append_assoc]
  unfold be8
  rw [List.range_succ, List.map_append]
  rfl
theorem s_sh2_end {α : Type} (s : ByteArray) (x : List UInt8) (kk : Option α) : s_sh2 s (x, ((8 : Nat) : Int)) kk = kk.map .inr := by
  unfold s_sh2
  exact condF (decide_eq_false (by show ¬ ((8 : Nat) : Int) < 8; omega)) rfl
theorem s_sh3_step {α : Type} {t : ByteArray} (ht : t.size = 64) (h : Nat → Wd) (kk : Option α) : s_sh3 t (arr 64 kW) (arr 8 h, 0) kk = some (.inl (arr 8 (shaB h t), 64)) := by
  unfold s_sh3
  refine condT (decide_eq_true (by show (0 : Int) < (t.size : Int); omega)) ?_
  refine bnd (ssl_all ht) ?_
  exact bnd (s_l3Block_eq ht h) rfl
theorem s_sh3_end {α : Type} {t : ByteArray} (ht : t.size = 64) (q : List Int) (l : List Int) (kk : Option α) : s_sh3 t q (l, 64) kk = kk.map .inr := by
  unfold s_sh3
  exact condF (decide_eq_false (by show ¬ (64 : Int) < (t.size : Int); omega)) rfl
theorem u8_24 (w : Wd) : u8P (IntKind.wrap .u8 (iv w / 2 ^ 24)) = some (UInt8.ofNat (w.toNat / 16777216)) := by
  have h := w.isLt
  rw [show iv w / 2 ^ 24 = ((w.toNat / 16777216 % 256 : Nat) : Int) by unfold iv; omega, u8_mod]
theorem be4 (n : Nat) : be 4 n = [UInt8.ofNat (n / 16777216), UInt8.ofNat (n / 65536), UInt8.ofNat (n / 256), UInt8.ofNat n] := by
  show [UInt8.ofNat (n / 256 ^ 3), UInt8.ofNat (n / 256 ^ 2), UInt8.ofNat (n / 256 ^ 1), UInt8.ofNat (n / 256 ^ 0)] = _
  rw [Nat.pow_zero, Nat.div_one]
theorem s_sh4_step {α : Type} (f : Nat → Wd) {i : Nat} (hi : i < 8) (c : Int) (kk : Option α) : s_sh4 (arr 8 f, c) (outN f i, (i : Int)) kk = some (.inl (outN f (i + 1), ((i + 1 : Nat) : Int))) := by
  have hw : ∀ d, (f i).toNat / d < 9223372036854775808 := fun d => Nat.lt_of_le_of_lt (Nat.div_le_self _ _) (by have := (f i).isLt; omega)
  unfold s_sh4
  refine condT (decide_eq_true (by show (i : Int) < 8; omega)) ?_
  refine bnd (arr_idx f hi) (bnd (arr_idx f hi) (bnd (arr_idx f hi) (bnd (arr_idx f hi) ?_)))
  refine bnd (u8_24 _) ?_
  refine bnd (a := UInt8.ofNat ((f i).toNat / 65536)) (by rw [show iv (f i) / 2 ^ (16 : Int).toNat = (((f i).toNat / 65536 : Nat) : Int) by unfold iv; rw [i16]; omega]; exact u8_and (hw _)) ?_
  refine bnd (a := UInt8.ofNat ((f i).toNat / 256)) (by rw [show iv (f i) / 2 ^ (8 : Int).toNat = (((f i).toNat / 256 : Nat) : Int) by unfold iv; rw [i8']; omega]; exact u8_and (hw _)) ?_
  refine bnd (a := UInt8.ofNat (f i).toNat) (by have := hw 1; rw [Nat.div_one] at this; exact u8_and this) ?_
  refine bnd rfl ?_
  refine bnd (appP_ok (by rw [outN_len]; show 4 * i + 4 ≤ _; omega)) ?_
  show some (Sum.inl (_, IntKind.wrap .i64 ((i : Int) + 1))) = _
  rw [wrap_succ (by omega), outN_succ, be4]
theorem s_sh4_end {α : Type} (q : List Int × Int) (l : List UInt8) (kk : Option α) : s_sh4 q (l, ((8 : Nat) : Int)) kk = kk.map .inr := by
  unfold s_sh4
  exact condF (decide_eq_false (by show ¬ ((8 : Nat) : Int) < 8; omega)) rfl
theorem s_Sha_eq {s : ByteArray} (hs : s.size ≤ 55) : s_Sha s = some (sha s) := by
  rw [s_Sha_open]
  refine bnd rfl ?_
  refine whileP_n (fun (i : Nat) (_ : Unit) => 128 :: List.replicate i 0) (fun _ _ => ()) (n := 55 - s.size) (t0 := ()) rfl (fun i t hi => s_sh1_step hs hi _) ?_
  refine (s_sh1_end hs _).trans (congrArg (Option.map Sum.inr) ?_)
  refine whileP_n (fun (i : Nat) (_ : Unit) => (128 :: List.replicate (55 - s.size) 0 ++ be8 (8 * s.size) i, (i : Int))) (fun _ _ => ()) (n := 8) (t0 := ()) ?_ (fun i t hi => s_sh2_step _ (by simp; omega) hs hi _) ?_
  · show _ = (128 :: List.replicate (55 - s.size) 0 ++ [], ((0 : Nat) : Int))
    rw [List.append_nil]; rfl
  refine (s_sh2_end _ _ _).trans (congrArg (Option.map Sum.inr) ?_)
  refine bnd (a := pad s) (by rw [catP_ok (by rw [strP_size]; simp [be8]; omega)]; rfl) ?_
  refine bnd rfl (bnd s_l3Keys_eq ?_)
  refine whileP_n (fun (i : Nat) (h : Nat → Wd) => (arr 8 h, ((64 * i : Nat) : Int))) (fun _ h => shaB h (pad s)) (n := 1) (t0 := h0) ?_ (fun i t hi => ?_) ?_
  · exact congrArg (fun q => (q, (0 : Int))) h0_arr
  · obtain rfl : i = 0 := by omega
    exact s_sh3_step (pad_size hs) t _
  refine (s_sh3_end (pad_size hs) _ _ _).trans (congrArg (Option.map Sum.inr) ?_)
  refine bnd rfl ?_
  refine whileP_n (fun (i : Nat) (_ : Unit) => (outN (shaB h0 (pad s)) i, (i : Int))) (fun _ _ => ()) (n := 8) (t0 := ()) rfl (fun i t hi => s_sh4_step _ hi _ _) ?_
  exact s_sh4_end _ _ _
/- the program -/
theorem i_sh1_step {α : Type} {t : ByteArray} (ht : t.size = 64) (h : Nat → Wd) (kk : Option α) : i_sh1 t (0, arr 8 h) kk = some (.inl (64, arr 8 (shaB h t))) := by
  unfold i_sh1
  refine condT (decide_eq_true (by show (0 : Int) < (t.size : Int); omega)) ?_
  refine bnd (arr_alen 8 h) (bnd (ssl_all ht) (bnd (i_shaBlock_eq ht h) (bnd (arr_alen 8 h) (bnd (arr_alen 8 _) rfl))))
theorem i_sh1_end {α : Type} {t : ByteArray} (ht : t.size = 64) (l : List Int) (kk : Option α) : i_sh1 t (64, l) kk = kk.map .inr := by
  unfold i_sh1
  exact condF (decide_eq_false (by show ¬ (64 : Int) < (t.size : Int); omega)) rfl
theorem i_sh2_step {α : Type} (f : Nat → Wd) {i : Nat} (hi : i < 8) (c : Int) (kk : Option α) : i_sh2 (c, arr 8 f) (strP (outN f i), (i : Int)) kk = some (.inl (strP (outN f (i + 1)), ((i + 1 : Nat) : Int))) := by
  unfold i_sh2
  refine condT (decide_eq_true (by show (i : Int) < 8; omega)) ?_
  refine bnd (ack_nat hi) (bnd (arr_get f hi) (bnd (i_Fixed_eq (k := 4) (n := (f i).toNat) (by omega) (by omega) (by have := (f i).isLt; omega) (wrap64_iv _) rfl) ?_))
  refine bnd (catP_ok (by rw [strP_size, strP_size, outN_len, be_len]; omega)) ?_
  show some (Sum.inl (_, IntKind.wrap .i64 ((i : Int) + 1))) = _
  rw [wrap_succ (by omega), outN_succ, strP_app]
theorem i_sh2_end {α : Type} (q : Int × List Int) (l : ByteArray) (kk : Option α) : i_sh2 q (l, ((8 : Nat) : Int)) kk = kk.map .inr := by
  unfold i_sh2
  exact condF (decide_eq_false (by show ¬ ((8 : Nat) : Int) < 8; omega)) rfl
theorem be_88 {n : Nat} (h : n < 72057594037927936) : be 8 n = 0 :: be 7 n := by
  have h1 : be 8 n = UInt8.ofNat (n / 256 ^ 7) :: be 7 n := rfl
  rw [h1, show (256 : Nat) ^ 7 = 72057594037927936 by decide, Nat.div_eq_of_lt h]; rfl
theorem pad_eq {s : ByteArray} (hs : s.size ≤ 55) : s ++ ByteArray.mk #[128] ++ strP (List.replicate (56 - s.size) 0) ++ strP (be 7 (8 * s.size)) = pad s := by
  unfold pad padL
  rw [show ByteArray.mk #[128] = strP [128] from rfl, ByteArray.append_assoc, ByteArray.append_assoc, strP_app, strP_app, be_88 (by omega), show 56 - s.size = (55 - s.size) + 1 by omega, List.replicate_succ']
  simp
theorem i_Sha_eq {s : ByteArray} (hs : s.size ≤ 55) : i_Sha s = some (sha s) := by
  rw [i_Sha_open]
  refine bnd (a := s ++ ByteArray.mk #[128]) (catP_ok (by show s.size + 1 ≤ _; omega)) ?_
  refine bnd (a := List.replicate (56 - s.size) 0) ?_ ?_
  · have e : IntKind.wrap .i64 ((IntKind.wrap .i64 (64 - (IntKind.wrap .i64 ((s.size : Int) + 9)).tmod 64)).tmod 64 + 1) = ((56 - s.size : Nat) : Int) := by
      rw [wrap64_in (n := (s.size : Int) + 9) (by unfold inR; omega), Int.tmod_eq_emod_of_nonneg (a := (s.size : Int) + 9) (by omega), wrap64_in (n := 64 - _) (by unfold inR; omega), Int.tmod_eq_emod_of_nonneg (by omega), wrap64_in (by unfold inR; omega)]
      omega
    rw [e]
    unfold mkP
    rw [if_pos (by omega), show (((56 - s.size : Nat) : Int)).toNat = 56 - s.size by omega]
  refine bnd (catP_ok (by rw [strP_size, ByteArray.size_append, List.length_replicate]; show s.size + 1 + _ ≤ _; omega)) ?_
  refine bnd (i_Fixed_eq (k := 7) (n := 8 * s.size) (by omega) (by omega) (Nat.lt_of_lt_of_le (show 8 * s.size < 72057594037927936 by omega) (by decide)) (by rw [wrap64_in (by unfold inR; omega)]; omega) rfl) ?_
  refine bnd (a := pad s) (by rw [← pad_eq hs]; exact catP_ok (by rw [strP_size, ByteArray.size_append, ByteArray.size_append, strP_size, List.length_replicate, be_len]; show s.size + 1 + _ + 7 ≤ _; omega)) ?_
  refine bnd (alen_ok rfl) (bnd (alen_ok rfl) ?_)
  refine whileP_n (fun (i : Nat) (h : Nat → Wd) => (((64 * i : Nat) : Int), arr 8 h)) (fun _ h => shaB h (pad s)) (n := 1) (t0 := h0) ?_ (fun i t hi => ?_) ?_
  · exact congrArg (fun q => ((0 : Int), q)) h0_arr
  · obtain rfl : i = 0 := by omega
    exact i_sh1_step (pad_size hs) t _
  refine (i_sh1_end (pad_size hs) _ _).trans (congrArg (Option.map Sum.inr) ?_)
  refine bnd (arr_alen 8 _) ?_
  refine whileP_n (fun (i : Nat) (_ : Unit) => (strP (outN (shaB h0 (pad s)) i), (i : Int))) (fun _ _ => ()) (n := 8) (t0 := ()) rfl (fun i t hi => i_sh2_step _ hi _ _) ?_
  exact i_sh2_end _ _ _
def short (s : ByteArray) : ByteArray := (sha s).extract 0 8
theorem short_size (s : ByteArray) : (short s).size = 8 := by unfold short; rw [ByteArray.size_extract, sha_size]; rfl
theorem ssl_8 (s : ByteArray) : sslP (sha s) 0 8 = some (short s) := by
  unfold sslP; rw [if_pos (by rw [sha_size]; omega)]; rfl
theorem i_Short_eq {s : ByteArray} (hs : s.size ≤ 55) : i_Short s = some (short s) := by
  unfold i_Short; exact bnd (i_Sha_eq hs) (bnd (ssl_8 s) rfl)
theorem s_Short_eq {s : ByteArray} (hs : s.size ≤ 55) : s_Short s = some (short s) := by
  unfold s_Short; exact bnd (s_Sha_eq hs) (bnd (ssl_8 s) rfl)
end Go.Proofs.SL
namespace Go.Proofs.SL
open Go
def wsum (l : List D_Blob) : Int := l.foldl (fun s x => IntKind.wrap .i64 (s + (x.2.1.size : Int))) 0
theorem s_l7Sum_eq {d : D_Blobs} (h : d.2.length ≤ 9223372036854775807) : s_l7Sum d = some (wsum d.2) := by
  unfold s_l7Sum wsum
  rw [whileP_for (l := d.2) (fun k (t : Int) => (t, (k : Int))) (fun t x => .inl (IntKind.wrap .i64 (t + (x.2.1.size : Int)))) some (fun _ _ => True) 0 (s0 := (0, 0)) rfl trivial, goE_fold]
  · intro k t x hx _
    have hlt := (List.getElem?_eq_some_iff.1 hx).1
    refine .inl ⟨_, rfl, ?_, trivial⟩
    simp only [lt_dec hlt, cond_true, idx_nat, hx, Option.bind_some, wrap_succ (show k < 9223372036854775807 by omega)]
  · intro t _
    simp only [ge_dec]; rfl
theorem i_Blobs_used_eq {d : D_Blobs} (h : d.2.length ≤ 9223372036854775807) : i_Blobs_used d = some (wsum d.2) := by
  unfold i_Blobs_used wsum
  rw [whileP_for (l := d.2) (fun k (t : Int) => (t, (k : Int))) (fun t x => .inl (IntKind.wrap .i64 (t + (x.2.1.size : Int)))) some (fun _ _ => True) 0 (s0 := (0, 0)) rfl trivial, goE_fold]
  · intro k t x hx _
    have hlt := (List.getElem?_eq_some_iff.1 hx).1
    refine .inl ⟨_, rfl, ?_, trivial⟩
    simp only [lt_dec hlt, cond_true, idx_nat, hx, Option.bind_some, wrap_succ (show k < 9223372036854775807 by omega)]
  · intro t _
    simp only [ge_dec]; rfl
def okB (x : D_Blob) : Bool := decide ((x.1.size : Int) = 8) && !decide (40 < (x.2.1.size : Int)) && (x.2.2 || decide (x.1 = short x.2.1))
def okK (l : List D_Blob) (k : Nat) : Bool := match l[k]? with
  | none => false
  | some x => okB x && (decide (k = 0) || (l[k - 1]?).all fun r => sLt r.1 x.1)
def elsOk (l : List D_Blob) : Bool := (List.range l.length).all (okK l)
def blobsOk (d : D_Blobs) : Bool := decide (0 ≤ d.1 ∧ d.1 ≤ 1000) && decide ((d.2.length : Int) ≤ 12) && decide (wsum d.2 ≤ d.1) && elsOk d.2
theorem s_BlobsOk_eq {d : D_Blobs} (h : d.2.length ≤ 9223372036854775807) : s_BlobsOk d = some (blobsOk d) := by
  obtain ⟨e, l⟩ := d
  dsimp only at h
  unfold s_BlobsOk blobsOk
  simp only [l1In_eq, s_l7Sum_eq (d := (e, l)) h, Option.bind_some, gbs]
  rw [whileP_all (n := l.length) (okK l) (some false) (some true)]
  · have h9 : decide (12 < (l.length : Int)) = !decide ((l.length : Int) ≤ 12) := by rw [Bool.eq_iff_iff]; simp
    have h8 : decide (e < wsum l) = !decide (wsum l ≤ e) := by rw [Bool.eq_iff_iff]; simp
    rw [h9]
    show (if _ then cond (_ || decide (e < wsum l)) _ _ else _) = some (_ && elsOk l)
    rw [h8]
    unfold elsOk
    cases decide (0 ≤ e ∧ e ≤ 1000) <;> cases decide ((l.length : Int) ≤ 12) <;> cases decide (wsum l ≤ e) <;> cases (List.range l.length).all (okK l) <;> rfl
  · intro k hk
    have hx : l[k]? = some l[k] := List.getElem?_eq_getElem hk
    generalize l[k] = x at hx
    simp only [lt_dec hk, cond_true, idx_nat, hx, Option.bind_some, wrap_succ (show k < 9223372036854775807 by omega)]
    unfold okK okB
    simp only [hx]
    by_cases hB : (40 : Int) < x.2.1.size
    · simp [hB, gb_false]
    · rw [s_Short_eq (s := x.2.1) (by omega), gbs]
      by_cases hA : (x.1.size : Int) = 8
      · have hA' : x.1.size = 8 := by omega
        rcases Nat.eq_zero_or_pos k with h0 | h0
        · subst h0
          cases hC : x.2.2
          · by_cases hE : x.1 = short x.2.1
            · simp [hB, hA', hE, gb_false, short_size]
            · simp [hB, hA', hE, gb_false]
          · simp [hB, hA', gb_false]
        · obtain ⟨r, hr1, hr2⟩ := prev_idx' hk h h0
          have hk0 : ¬ k = 0 := by omega
          rw [hr1, hr2]
          simp only [gbs]
          cases hC : x.2.2
          · by_cases hE : x.1 = short x.2.1
            · by_cases hL : sLt r.1 x.1 = true
              · rw [← hE]; simp [hB, hA', hL, hk0, h0]
              · rw [← hE]; simp [hB, hA', hL, hk0, h0]
            · simp [hB, hA', hE]
          · by_cases hL : sLt r.1 x.1 = true
            · simp [hB, hA', hL, hk0, h0]
            · simp [hB, hA', hL, hk0, h0]
      · have hA' : ¬ x.1.size = 8 := by omega
        simp [hB, hA, gb_false]
  · simp only [ge_dec]; rfl
theorem i_BlobsOk_eq {d : D_Blobs} (h : d.2.length ≤ 9223372036854775807) : i_BlobsOk d = some (blobsOk d) := by
  obtain ⟨e, l⟩ := d
  dsimp only at h
  unfold i_BlobsOk blobsOk
  simp only [within_eq, i_Blobs_used_eq (d := (e, l)) h, Option.bind_some, gbs]
  rw [whileP_all (n := l.length) (okK l) (some false) (some (decide (0 ≤ e ∧ e ≤ 1000) && decide ((l.length : Int) ≤ 12) && decide (wsum l ≤ e)))]
  · unfold elsOk
    cases decide (0 ≤ e ∧ e ≤ 1000) <;> cases decide ((l.length : Int) ≤ 12) <;> cases decide (wsum l ≤ e) <;> cases (List.range l.length).all (okK l) <;> rfl
  · intro k hk
    have hx : l[k]? = some l[k] := List.getElem?_eq_getElem hk
    generalize l[k] = x at hx
    simp only [lt_dec hk, cond_true, idx_nat, hx, Option.bind_some, wrap_succ (show k < 9223372036854775807 by omega)]
    unfold okK okB
    simp only [hx]
    by_cases hB : (40 : Int) < x.2.1.size
    · simp [hB, gb_false]
    · rw [i_Short_eq (s := x.2.1) (by omega), gbs]
      by_cases hA : (x.1.size : Int) = 8
      · have hA' : x.1.size = 8 := by omega
        rcases Nat.eq_zero_or_pos k with h0 | h0
        · subst h0
          cases hC : x.2.2
          · by_cases hE : x.1 = short x.2.1
            · simp [hB, hA', hE, gb_false, short_size]
            · simp [hB, hA', hE, gb_false]
          · simp [hB, hA', gb_false]
        · obtain ⟨r, hr1, hr2⟩ := prev_idx' hk h h0
          have hk0 : ¬ k = 0 := by omega
          rw [hr1, hr2]
          simp only [gbs]
          cases hC : x.2.2
          · by_cases hE : x.1 = short x.2.1
            · by_cases hL : sLt r.1 x.1 = true
              · rw [← hE]; simp [hB, hA', hL, hk0, h0]
              · rw [← hE]; simp [hB, hA', hL, hk0, h0]
            · simp [hB, hA', hE]
          · by_cases hL : sLt r.1 x.1 = true
            · simp [hB, hA', hL, hk0, h0]
            · simp [hB, hA', hL, hk0, h0]
      · have hA' : ¬ x.1.size = 8 := by omega
        simp [hB, hA, gb_false]
  · simp only [ge_dec, cond_false]
    cases decide (0 ≤ e ∧ e ≤ 1000) <;> cases decide ((l.length : Int) ≤ 12) <;> simp
theorem s_l7At_eq {u : D_Blobs} {c : ByteArray} (h : u.2.length ≤ 9223372036854775807) : s_l7At u c = some (firstI (fun x : D_Blob => decide (x.1 = c)) u.2) := by
  unfold s_l7At
  rw [whileP_find (fun x : D_Blob => decide (x.1 = c)) some h]
  · intro k x hx
    simp only [lt_dec (List.getElem?_eq_some_iff.1 hx).1, cond_true, idx_nat, hx, Option.bind_some]
    cases decide (x.1 = c) <;> rfl
  · simp only [ge_dec]; rfl
theorem i_Blobs_at_eq {u : D_Blobs} {c : ByteArray} (h : u.2.length ≤ 9223372036854775807) : i_Blobs_at u c = some (firstI (fun x : D_Blob => decide (x.1 = c)) u.2) := by
  unfold i_Blobs_at sl_IndexFunc_implBlobimplBlob i_Blobs_at_c1
  rw [whileP_find (fun x : D_Blob => decide (x.1 = c)) some h]
  · rfl
  · intro k x hx
    simp only [lt_dec (List.getElem?_eq_some_iff.1 hx).1, cond_true, idx_nat, hx, Option.bind_some]
    cases decide (x.1 = c) <;> rfl
  · simp only [ge_dec]; rfl
theorem blobsOk_facts {d : D_Blobs} (h : blobsOk d = true) : d.2.length ≤ 12 ∧ (∀ x, x ∈ d.2 → okB x = true) ∧ d.2.Pairwise (fun a b => sLt a.1 b.1 = true) := by
  unfold blobsOk elsOk at h
  simp only [Bool.and_eq_true, decide_eq_true_eq, List.all_eq_true, List.mem_range] at h
  refine ⟨by omega, fun x hx => ?_, pairwise_of_step (R := fun a b : D_Blob => sLt a.1 b.1 = true) (fun a b c => sLt_trans) d.2 fun k hk => ?_⟩
  · obtain ⟨k, hk⟩ := List.getElem?_of_mem hx
    have := h.2 k (List.getElem?_eq_some_iff.1 hk).1
    unfold okK at this
    rw [hk] at this
    simp only [Bool.and_eq_true] at this
    exact this.1
  · have := h.2 (k + 1) hk
    unfold okK at this
    rw [List.getElem?_eq_getElem hk] at this
    simp only [Bool.and_eq_true, decide_eq_true_eq, Bool.or_eq_true, Nat.add_sub_cancel, List.getElem?_eq_getElem (show k < d.2.length by omega), Option.all_some] at this
    rcases this.2 with h2 | h2
    · omega
    · exact h2
def bFind (l : List D_Blob) (c : ByteArray) : Option D_Blob := l.find? fun x => decide (x.1 = c)
/-- What a chunk's name yields. -/
def blobGetD (d : D_Blobs) (c : ByteArray) : ByteArray × Int := if blobsOk d then (match bFind d.2 c with
  | none => (ByteArray.empty, 1)
  | some x => if x.2.2 then (ByteArray.empty, 2) else (x.2.1, 0)) else (ByteArray.empty, 1)
theorem s_BlobGet_eq {d : D_Blobs} {c : ByteArray} (h : d.2.length ≤ 9223372036854775807) : s_BlobGet d c = some (blobGetD d c) := by
  unfold s_BlobGet blobGetD bFind
  simp only [Prod.eta, s_l7At_eq h, s_BlobsOk_eq h, Option.bind_some]
  cases blobsOk d with
  | false => rfl
  | true =>
    rcases firstI_find (fun x : D_Blob => decide (x.1 = c)) d.2 with ⟨h1, h2⟩ | ⟨k, x, h1, h2, h3, _⟩
    · rw [h1, h2]; rfl
    · rw [h1, h3, idx_nat, h2]
      rw [show decide ((k : Int) < 0) = false from decide_eq_false (by omega)]
      cases hx : x.2.2 <;> simp [hx]
theorem i_BlobGet_eq {d : D_Blobs} {c : ByteArray} (h : d.2.length ≤ 9223372036854775807) : i_BlobGet d c = some (blobGetD d c) := by
  unfold i_BlobGet blobGetD bFind
  simp only [Prod.eta, i_Blobs_at_eq h, i_BlobsOk_eq h, Option.bind_some]
  cases blobsOk d with
  | false => rfl
  | true =>
    rcases firstI_find (fun x : D_Blob => decide (x.1 = c)) d.2 with ⟨h1, h2⟩ | ⟨k, x, h1, h2, h3, _⟩
    · rw [h1, h2]; rfl
    · rw [h1, h3, idx_nat, h2]
      rw [show decide ((k : Int) < 0) = false from decide_eq_false (by omega)]
      cases hx : x.2.2 <;> simp [hx]
/-- The first chunk that is whole, of all stores. -/
def fetchGo (c : ByteArray) : List D_Blobs → Int → ByteArray × Int
  | [], n => (ByteArray.empty, n)
  | d :: ds, n => if (blobGetD d c).2 = 0 then ((blobGetD d c).1, 0) else fetchGo c ds (if (blobGetD d c).2 = 2 then 3 else n)
theorem fetch_go (c : ByteArray) : ∀ (ds : List D_Blobs) (n : Int), goE (fun (t : Int) x => if (blobGetD x c).2 = 0 then .inr (some ((blobGetD x c).1, (0 : Int))) else .inl (if (blobGetD x c).2 = 2 then 3 else t)) (fun t => some (ByteArray.empty, t)) ds n = some (fetchGo c ds n)
  | [], n => rfl
  | d :: ds, n => by
    by_cases h : (blobGetD d c).2 = 0
    · simp only [goE, fetchGo, h, if_true]
    · simp only [goE, fetchGo, h, if_false]; exact fetch_go c ds _
theorem s_Fetch_eq {l : List D_Blobs} {c : ByteArray} (h : l.length ≤ 9223372036854775807) (hl : ∀ d, d ∈ l → d.2.length ≤ 9223372036854775807) : s_Fetch l c = some (fetchGo c l 2) := by
  unfold s_Fetch
  rw [whileP_for (l := l) (fun k (t : Int) => (t, (k : Int))) (fun t x => if (blobGetD x c).2 = 0 then .inr (some ((blobGetD x c).1, (0 : Int))) else .inl (if (blobGetD x c).2 = 2 then 3 else t)) (fun t => some (ByteArray.empty, t)) (fun _ _ => True) 2 (s0 := (2, 0)) rfl trivial, fetch_go]
  · intro k t x hx _
    have hlt := (List.getElem?_eq_some_iff.1 hx).1
    simp only [lt_dec hlt, cond_true, idx_nat, hx, Option.bind_some, Prod.eta, s_BlobGet_eq (hl x (List.mem_of_getElem? hx)), wrap_succ (show k < 9223372036854775807 by omega)]
    by_cases h0 : (blobGetD x c).2 = 0
    · exact .inr ⟨_, if_pos h0, by rw [decide_eq_true h0]; rfl⟩
    · refine .inl ⟨_, if_neg h0, ?_, trivial⟩
      rw [decide_eq_false h0]
      by_cases h2 : (blobGetD x c).2 = 2
      · rw [decide_eq_true h2, if_pos h2]; rfl
      · rw [decide_eq_false h2, if_neg h2]; rfl
  · intro t _
    simp only [ge_dec]; rfl
theorem i_Fetch_eq {l : List D_Blobs} {c : ByteArray} (h : l.length ≤ 9223372036854775807) (hl : ∀ d, d ∈ l → d.2.length ≤ 9223372036854775807) : i_Fetch l c = some (fetchGo c l 2) := by
  unfold i_Fetch
  rw [whileP_for (l := l) (fun k (t : Int) => (t, (k : Int))) (fun t x => if (blobGetD x c).2 = 0 then .inr (some ((blobGetD x c).1, (0 : Int))) else .inl (if (blobGetD x c).2 = 2 then 3 else t)) (fun t => some (ByteArray.empty, t)) (fun _ _ => True) 2 (s0 := (2, 0)) rfl trivial, fetch_go]
  · intro k t x hx _
    have hlt := (List.getElem?_eq_some_iff.1 hx).1
    simp only [lt_dec hlt, cond_true, idx_nat, hx, Option.bind_some, Prod.eta, i_BlobGet_eq (hl x (List.mem_of_getElem? hx)), wrap_succ (show k < 9223372036854775807 by omega)]
    by_cases h0 : (blobGetD x c).2 = 0
    · exact .inr ⟨_, if_pos h0, by rw [decide_eq_true h0]; rfl⟩
    · refine .inl ⟨_, if_neg h0, ?_, trivial⟩
      rw [decide_eq_false h0]
      by_cases h2 : (blobGetD x c).2 = 2
      · rw [decide_eq_true h2, if_pos h2]; rfl
      · rw [decide_eq_false h2, if_neg h2]; rfl
  · intro t _
    simp only [ge_dec]; rfl
theorem s_l7Copy_eq {d : D_Blobs} (h : d.2.length ≤ 1000) : s_l7Copy d = some d := by
  unfold s_l7Copy
  rw [Option.bind_some, appP_ok (by simp; omega)]; rfl
/-- A chunk is spoiled. -/
def blobBendD (d : D_Blobs) (c : ByteArray) : D_Blobs × Bool := if blobsOk d then (match d.2.findIdx? (fun x => decide (x.1 = c)) with
  | none => (d, false)
  | some k => match d.2[k]? with
    | none => (d, false)
    | some x => if x.2.2 then (d, false) else ((d.1, d.2.set k (x.1, x.2.1, true)), true)) else ((0, []), false)
theorem firstI_get {α : Type} (p : α → Bool) (l : List α) : (firstI p l = -1 ∧ l.findIdx? p = none) ∨ ∃ (k : Nat) (x : α), firstI p l = (k : Int) ∧ l.findIdx? p = some k ∧ l[k]? = some x ∧ p x = true := by
  cases h : l.findIdx? p with
  | none => exact .inl ⟨firstI_none h, rfl⟩
  | some k =>
    obtain ⟨h1, h2, _⟩ := List.findIdx?_eq_some_iff_getElem.1 h
    exact .inr ⟨k, l[k], firstI_some h, rfl, List.getElem?_eq_getElem h1, h2⟩
theorem s_BlobBend_eq {d : D_Blobs} {c : ByteArray} (h : d.2.length ≤ 9223372036854775807) : s_BlobBend d c = some (blobBendD d c) := by
  unfold s_BlobBend blobBendD
  simp only [Prod.eta, s_BlobsOk_eq h, Option.bind_some]
  cases hk : blobsOk d with
  | false => rfl
  | true =>
    have hn := (blobsOk_facts hk).1
    simp only [Bool.not_true, cond_false, if_true, s_l7Copy_eq (show d.2.length ≤ 1000 by omega), s_l7At_eq h, Option.bind_some]
    rcases firstI_get (fun x : D_Blob => decide (x.1 = c)) d.2 with ⟨h1, h2⟩ | ⟨k, x, h1, h2, h3, _⟩
    · rw [h1, h2]; rfl
    · rw [h1, h2, idx_nat, h3, show decide ((k : Int) < 0) = false from decide_eq_false (by omega)]
      simp only [Bool.not_false, gb_true, Option.bind_some, Bool.false_or, h3]
      cases hx : x.2.2 <;> simp [hx]
end Go.Proofs.SL
namespace Go.Proofs.SL
open Go
def catSetD (c : D_Catalog) (a : Nat) (s : D_CSet) (m : D_Cmd) : D_Catalog × ByteArray :=
  if m.1 = 2 then (c.eraseIdx a, tOk)
  else if m.1 = 3 then (if s.2.any (fun p => decide (p.1 = m.2.2.2.2.1)) then (c, tExists) else if 5 ≤ s.2.length then (c, tFull) else (c.set a (s.1, s.2 ++ [(m.2.2.2.2.1, ByteArray.empty, m.2.2.2.2.2.2.2)]), tOk))
  else if m.1 = 4 then (match s.2.findIdx? (fun p => decide (p.1 = m.2.2.2.2.1)) with
    | none => (c, tNone)
    | some k => match s.2[k]? with
      | none => (c, tNone)
      | some p => (c.set a (s.1, s.2.set k (p.1, m.2.2.2.2.2.1, p.2.2)), tOk))
  else if m.1 = 5 then (c.set a (s.1, pruneD s.2 m.2.2.2.2.2.2.1), digit (s.2.length - (pruneD s.2 m.2.2.2.2.2.2.1).length))
  else (c, readD s)
theorem slcP_pos {α : Type} {l : List α} {a b : Int} (h : 0 ≤ a ∧ a ≤ b ∧ b ≤ l.length) : slcP l a b = some ((l.drop a.toNat).take (b.toNat - a.toNat)) := if_pos h
theorem s_l15Set_eq {c : D_Catalog} {a : Nat} {s : D_CSet} {m : D_Cmd} (hc : c.length ≤ 1000) (ha : c[a]? = some s) (hs : s.2.length ≤ 5) (hp : ∀ p, p ∈ s.2 → p.1.size ≤ 8 ∧ p.2.1.size ≤ 8) (hm : m.2.2.2.2.2.2.2.length ≤ 1000) : s_l15Set c (a : Int) m = some (catSetD c a s m) := by
  have hal := (List.getElem?_eq_some_iff.1 ha).1
  unfold s_l15Set catSetD
  simp only [idx_nat, ha, Option.bind_some, Prod.eta]
  rw [s_l15Find_eq (by omega), Option.bind_some]
  by_cases h2 : m.1 = 2
  · rw [if_pos h2, decide_eq_true h2, cond_true, slcP_pos (by omega), Option.bind_some]
    have e1 : chkP (decide (0 ≤ ((0 : Int)).toNat)) = some () := rfl
    have e2 : chkP (decide ((a : Int).toNat ≤ (IntKind.wrap .i64 ((a : Int) + 1)).toNat)) = some () := by
      rw [wrap_succ (by omega)]; unfold chkP; rw [if_pos (by simp)]
    rw [e1, Option.bind_some, appP_ok (by simp; omega), Option.bind_some, e2, wrap_succ (by omega), slcP_pos (by omega), Option.bind_some, Option.bind_some, appP_ok (by simp; omega), Option.bind_some, List.eraseIdx_eq_take_drop_succ]
    congr 2
    simp only [Int.toNat_zero, List.drop_zero, Int.toNat_natCast, Nat.sub_zero, List.nil_append]
    rw [List.take_of_length_le (l := c.drop (a + 1)) (by simp)]
  rw [if_neg h2, decide_eq_false h2, cond_false]
  by_cases h3 : m.1 = 3
  · rw [if_pos h3, decide_eq_true h3, cond_true, firstI_any]
    cases s.2.any (fun p => decide (p.1 = m.2.2.2.2.1)) with
    | true => rfl
    | false =>
      rw [cond_false, if_neg (by simp)]
      by_cases h5 : 5 ≤ s.2.length
      · rw [decide_eq_true (show (5 : Int) ≤ (s.2.length : Int) by omega), if_pos h5]; rfl
      rw [decide_eq_false (show ¬ (5 : Int) ≤ (s.2.length : Int) by omega), if_neg h5, cond_false]
      rw [appP_ok (by simp; omega), Option.bind_some, appP_ok (by simp; omega), Option.bind_some, List.nil_append, appP_ok (by simp; omega), Option.bind_some]
      rfl
  rw [if_neg h3, decide_eq_false h3, cond_false]
  by_cases h4 : m.1 = 4
  · rw [if_pos h4, decide_eq_true h4, cond_true]
    rcases firstI_get (fun p : D_CSnap => decide (p.1 = m.2.2.2.2.1)) s.2 with ⟨e1, e2⟩ | ⟨k, p, e1, e2, e3, _⟩
    · rw [e1, e2]; rfl
    · rw [e1, e2, decide_eq_false (show ¬ ((k : Int) < 0) by omega), cond_false]
      simp only [idx_nat, e3, Option.bind_some, Int.toNat_natCast]
      rfl
  rw [if_neg h4, decide_eq_false h4, cond_false]
  by_cases h5 : m.1 = 5
  · rw [if_pos h5, decide_eq_true h5, cond_true, s_l15Prune_eq (by omega), Option.bind_some]
    dsimp only
    rw [s_Dec_small _ (by omega)]
    rfl
  rw [if_neg h5, decide_eq_false h5, cond_false, s_l15Read_eq (by omega) hp]
  rfl
noncomputable def catDoD (c : D_Catalog) (m : D_Cmd) : D_Catalog × ByteArray :=
  if catOkB c then (if !cmdOkB m || decide (m.1 = 0) then (c, ByteArray.empty) else if m.1 = 1 then createD c m.2.2.2.1 else if m.1 = 7 then (c, listD c) else
    match c.findIdx? (fun s => decide (s.1 = m.2.2.2.1)) with
    | none => (c, tNone)
    | some a => match c[a]? with
      | none => (c, tNone)
      | some s => catSetD c a s m) else ([], ByteArray.empty)
theorem cmdOk_bnd {m : D_Cmd} (h : cmdOkB m = true) : m.2.2.2.1.size ≤ 8 ∧ m.2.2.2.2.1.size ≤ 8 ∧ m.2.2.2.2.2.1.size ≤ 8 ∧ m.2.2.2.2.2.2.2.length ≤ 4 ∧ ∀ x, x ∈ m.2.2.2.2.2.2.2 → x.size ≤ 8 := by
  have hw : ∀ {s : ByteArray} {b : Bool}, wordIfB s b = true → s.size ≤ 8 := by
    intro s b hb
    unfold wordIfB at hb
    split at hb
    · exact word_size hb
    · rw [of_decide_eq_true hb]; decide
  unfold cmdOkB at h
  split at h
  · rw [pB_iff] at h
    subst h
    exact ⟨by decide, by decide, by decide, by decide, fun x hx => by cases hx⟩
  · simp only [Bool.and_eq_true] at h
    obtain ⟨⟨⟨⟨⟨_, h4⟩, h5⟩, h6⟩, _⟩, h8⟩ := h
    refine ⟨hw h4, hw h5, hw h6, ?_⟩
    split at h8
    · unfold areChunksB at h8
      simp only [Bool.and_eq_true, decide_eq_true_eq, List.all_eq_true] at h8
      exact ⟨by omega, fun x hx => by have := h8.2 x hx; omega⟩
    · simp only [decide_eq_true_eq] at h8
      have : m.2.2.2.2.2.2.2 = [] := by apply List.eq_nil_of_length_eq_zero; omega
      rw [this]; exact ⟨by decide, fun x hx => by cases hx⟩
theorem s_CatDo_eq {c : D_Catalog} {m : D_Cmd} (hc : Ok.ok c) (hm : Ok.ok m) : s_CatDo c m = some (catDoD c m) := by
  unfold s_CatDo catDoD
  simp only [Prod.eta]
  rw [s_CatOk_eq hc, Option.bind_some]
  cases hk : catOkB c with
  | false => rfl
  | true =>
    obtain ⟨hb, h5, h6⟩ := catOk_bnd hk
    rw [Bool.not_true, cond_false, s_l15Copy_eq hb, Option.bind_some, s_CmdOk_eq hm, Option.bind_some, if_pos rfl]
    cases hq : (!cmdOkB m || decide (m.1 = 0)) with
    | true => rfl
    | false =>
      have hmk : cmdOkB m = true := by
        cases h : cmdOkB m with
        | true => rfl
        | false => rw [h] at hq; simp at hq
      obtain ⟨_, _, _, m4, _⟩ := cmdOk_bnd hmk
      rw [cond_false, if_neg (by simp)]
      by_cases h1 : m.1 = 1
      · rw [decide_eq_true h1, cond_true, if_pos h1, s_l15Create_eq (by omega)]; rfl
      rw [decide_eq_false h1, cond_false, if_neg h1]
      by_cases h7 : m.1 = 7
      · rw [decide_eq_true h7, cond_true, if_pos h7]
        rw [loop_pass (l := c) (fun k (t : Bool × ByteArray) => (t.2, (k : Int))) listStep (fun t => some (c, t.2)) (fun k t => t.1 = decide (0 < k) ∧ t.2.size ≤ 9 * k) (false, ByteArray.empty) (s0 := (ByteArray.empty, 0)) rfl ⟨rfl, Nat.le_refl _⟩]
        · rfl
        · intro k t p hx ht
          have hkl := (List.getElem?_eq_some_iff.1 hx).1
          obtain ⟨b, a⟩ := t
          obtain ⟨rfl, ha⟩ := ht
          dsimp only at ha ⊢
          have h2 := hb.name p (List.mem_of_getElem? hx)
          simp only [lt_dec hkl, cond_true, idx_nat, hx, Option.bind_some]
          rcases Nat.eq_zero_or_pos k with h0 | h0
          · subst h0
            rw [decide_eq_false (show ¬ (0 : Int) < ((0 : Nat) : Int) by omega), cond_false, catP_ok (by omega), Option.bind_some, wrap_succ (by omega)]
            exact ⟨rfl, by simp [listStep], by simp [listStep, ByteArray.size_append]; omega⟩
          · rw [decide_eq_true (show (0 : Int) < (k : Int) by omega), cond_true, show (ByteArray.mk #[32]) = tSp from rfl, catP_ok (by rw [sz_sp]; omega), Option.bind_some, catP_ok (by simp [ByteArray.size_append, sz_sp]; omega), Option.bind_some, wrap_succ (by omega)]
            refine ⟨?_, by simp [listStep], ?_⟩
            · simp [listStep, decide_eq_true h0]
            · simp [listStep, decide_eq_true h0, ByteArray.size_append, sz_sp]; omega
        · intro t ht
          simp only [ge_dec, cond_false]
      rw [decide_eq_false h7, cond_false, if_neg h7, s_l15At_eq' (by omega), Option.bind_some]
      rcases firstI_get (fun p : D_CSet => decide (p.1 = m.2.2.2.1)) c with ⟨e1, e2⟩ | ⟨k, p, e1, e2, e3, _⟩
      · rw [e1, e2]; rfl
      · have hp := List.mem_of_getElem? e3
        rw [e1, e2, decide_eq_false (show ¬ ((k : Int) < 0) by omega), cond_false, s_l15Set_eq (by omega) e3 (h6 p hp) (fun q hq => ⟨(hb.snap p hp q hq).1, (hb.snap p hp q hq).2.1⟩) (by omega), Option.bind_some]
        dsimp only
        rw [e3]
theorem insSet_mem (n : ByteArray) : ∀ (c : D_Catalog) (s : D_CSet), s ∈ insSet n c → s = (n, []) ∨ s ∈ c
  | [], s, h => .inl (List.mem_singleton.1 h)
  | x :: c, s, h => by
    unfold insSet at h
    split at h
    · rcases List.mem_cons.1 h with rfl | h
      · exact .inl rfl
      · exact .inr h
    · rcases List.mem_cons.1 h with rfl | h
      · exact .inr (List.mem_cons_self ..)
      · rcases insSet_mem n c s h with h | h
        · exact .inl h
        · exact .inr (List.mem_cons_of_mem _ h)
theorem insSet_len (n : ByteArray) : ∀ c : D_Catalog, (insSet n c).length = c.length + 1
  | [] => rfl
  | x :: c => by unfold insSet; split <;> simp [insSet_len n c]
theorem mem_set' {α : Type} {l : List α} {k : Nat} {x y : α} (h : y ∈ l.set k x) : y = x ∨ y ∈ l := by
  rcases List.mem_or_eq_of_mem_set h with h | h
  · exact .inr h
  · exact .inl h
theorem bnd_set {c : D_Catalog} (h : CBnd c) {k : Nat} {s : D_CSet} (h1 : s.1.size ≤ 8) (h2 : s.2.length ≤ 6) (h3 : ∀ p, p ∈ s.2 → p.1.size ≤ 8 ∧ p.2.1.size ≤ 8 ∧ p.2.2.length ≤ 4 ∧ ∀ x, x ∈ p.2.2 → x.size ≤ 8) : CBnd (c.set k s) :=
  ⟨by rw [List.length_set]; exact h.len, fun z hz => by
    rcases mem_set' hz with rfl | hz
    · exact h1
    · exact h.name z hz, fun z hz => by
    rcases mem_set' hz with rfl | hz
    · exact h2
    · exact h.snaps z hz, fun z hz => by
    rcases mem_set' hz with rfl | hz
    · exact h3
    · exact h.snap z hz⟩
theorem bnd_nil : CBnd [] := ⟨by decide, fun s h => (by cases h), fun s h => (by cases h), fun s h => by cases h⟩
theorem catDo_bnd (c : D_Catalog) (m : D_Cmd) : CBnd (catDoD c m).1 := by
  unfold catDoD
  split
  · rename_i hk
    obtain ⟨hb, h5, h6⟩ := catOk_bnd hk
    split
    · exact hb
    · rename_i hq
      have hmk : cmdOkB m = true := by
        cases h : cmdOkB m with
        | true => rfl
        | false => rw [h] at hq; simp at hq
      obtain ⟨m1, m2, m3, m4, m5⟩ := cmdOk_bnd hmk
      split
      · unfold createD
        split
        · exact hb
        · split
          · exact hb
          · refine ⟨by rw [insSet_len]; omega, fun s hs => ?_, fun s hs => ?_, fun s hs => ?_⟩
            all_goals rcases insSet_mem _ _ _ hs with rfl | hs
            · exact m1
            · exact hb.name s hs
            · exact Nat.zero_le _
            · exact hb.snaps s hs
            · exact fun p hp => by cases hp
            · exact hb.snap s hs
      · split
        · exact hb
        · split
          · exact hb
          · split
            · exact hb
            · rename_i s hs
              have hmem := List.mem_of_getElem? hs
              have n1 := hb.name s hmem
              have n2 := h6 s hmem
              have n3 := hb.snap s hmem
              unfold catSetD
              split
              · refine ⟨Nat.le_trans (List.length_eraseIdx_le _ _) hb.len, fun z hz => hb.name z (List.mem_of_mem_eraseIdx hz), fun z hz => hb.snaps z (List.mem_of_mem_eraseIdx hz), fun z hz => hb.snap z (List.mem_of_mem_eraseIdx hz)⟩
              · split
                · split
                  · exact hb
                  · split
                    · exact hb
                    · refine bnd_set hb n1 (by simp; omega) fun p hp => ?_
                      rcases List.mem_append.1 hp with hp | hp
                      · exact n3 p hp
                      · rw [List.mem_singleton.1 hp]; exact ⟨m2, Nat.zero_le _, m4, m5⟩
                · split
                  · split
                    · exact hb
                    · split
                      · exact hb
                      · rename_i p hpk
                        obtain ⟨q1, q2, q3, q4⟩ := n3 p (List.mem_of_getElem? hpk)
                        refine bnd_set hb n1 (by rw [List.length_set]; omega) fun p' hp' => ?_
                        rcases mem_set' hp' with rfl | hp'
                        · exact ⟨q1, m3, q3, q4⟩
                        · exact n3 p' hp'
                  · split
                    · refine bnd_set hb n1 ?_ fun p hp => ?_
                      · have := (prune_len m.2.2.2.2.2.2.1 s.2 ((bareN s.2 : Int), [])).1
                        show (pruneD s.2 _).length ≤ 6
                        unfold pruneD; simp at this; omega
                      · rcases (prune_len m.2.2.2.2.2.2.1 s.2 ((bareN s.2 : Int), [])).2 p hp with h | h
                        · cases h
                        · exact n3 p h
                    · exact hb
  · exact bnd_nil
end Go.Proofs.SL
namespace Go.Proofs.SL
open Go
def CurOk (d : D_l1Cur) : Prop := 0 ≤ d.2.1 ∧ d.2.1 ≤ (d.1.length : Int) ∧ d.1.length ≤ 4611686018427387904
theorem and255i (x : Int) : 0 ≤ bits .and .i64 x 255 ∧ bits .and .i64 x 255 ≤ 255 := and_mask x 255 (by omega)
theorem byte_ok {d : D_l1Cur} (h : CurOk d) : ∃ n d', s_l1Byte d = some (n, d') ∧ (0 ≤ n ∧ n ≤ 255) ∧ CurOk d' ∧ d'.1 = d.1 := by
  obtain ⟨b, i, q⟩ := d
  obtain ⟨h1, h2, h3⟩ := h
  dsimp only at h1 h2 h3
  unfold s_l1Byte
  dsimp only
  by_cases hi : i < (b.length : Int)
  · obtain ⟨k, rfl⟩ := Int.eq_ofNat_of_zero_le h1
    have hk : b[k]? = some (b[k]'(by omega)) := List.getElem?_eq_getElem _
    rw [decide_eq_true hi, cond_true, idx_nat, hk]
    refine ⟨_, _, rfl, and255i _, ⟨?_, ?_, h3⟩, rfl⟩
    · dsimp only; rw [wrap_succ (by omega)]; omega
    · dsimp only; rw [wrap_succ (by omega)]; omega
  · rw [decide_eq_false hi, cond_false]
    exact ⟨_, _, rfl, and255i _, ⟨h1, h2, h3⟩, rfl⟩
theorem tmod_lt {a n : Int} (h : 0 ≤ a) (hn : 0 < n) : 0 ≤ a.tmod n ∧ a.tmod n < n := by
  rw [Int.tmod_eq_emod_of_nonneg h]
  exact ⟨Int.emod_nonneg _ (by omega), Int.emod_lt_of_pos _ hn⟩
theorem below_ok' {d : D_l1Cur} (h : CurOk d) (n : Int) : ∃ x d', s_l1Below d n = some (x, d') ∧ (0 ≤ x ∧ (0 < n → x < n) ∧ (n ≤ 0 → x = 0)) ∧ CurOk d' ∧ d'.1 = d.1 := by
  unfold s_l1Below
  simp only [Prod.eta]
  by_cases h0 : n ≤ 0
  · rw [decide_eq_true h0, cond_true]
    exact ⟨_, _, rfl, ⟨Int.le_refl _, fun h => by omega, fun _ => rfl⟩, h, rfl⟩
  · rw [decide_eq_false h0, cond_false]
    have hr : ∀ a, 0 ≤ a → ∃ x, remP a n = some x ∧ (0 ≤ x ∧ (0 < n → x < n) ∧ (n ≤ 0 → x = 0)) := fun a ha => by
      have := tmod_lt ha (show 0 < n by omega)
      exact ⟨_, by unfold remP; rw [if_neg (by omega)], this.1, fun _ => this.2, fun h => by omega⟩
    by_cases h1 : n ≤ 256
    · rw [decide_eq_true h1, cond_true]
      obtain ⟨y, d1, e1, g1, c1, f1⟩ := byte_ok h
      obtain ⟨x, ex, gx⟩ := hr y g1.1
      rw [e1, Option.bind_some]
      dsimp only
      rw [ex]
      exact ⟨x, d1, rfl, gx, c1, f1⟩
    · rw [decide_eq_false h1, cond_false]
      obtain ⟨y1, d1, e1, g1, c1, f1⟩ := byte_ok h
      obtain ⟨y2, d2, e2, g2, c2, f2⟩ := byte_ok c1
      obtain ⟨y3, d3, e3, g3, c3, f3⟩ := byte_ok c2
      obtain ⟨y4, d4, e4, g4, c4, f4⟩ := byte_ok c3
      simp only [e1, e2, e3, e4, Option.bind_some]
      obtain ⟨x, ex, gx⟩ := hr (IntKind.wrap .i64 (IntKind.wrap .i64 (IntKind.wrap .i64 (IntKind.wrap .i64 (y1 * 16777216) + IntKind.wrap .i64 (y2 * 65536)) + IntKind.wrap .i64 (y3 * 256)) + y4)) (by
        rw [wrap64_in (n := y1 * 16777216) (by unfold inR; omega), wrap64_in (n := y2 * 65536) (by unfold inR; omega), wrap64_in (n := y3 * 256) (by unfold inR; omega), wrap64_in (n := y1 * 16777216 + y2 * 65536) (by unfold inR; omega), wrap64_in (n := y1 * 16777216 + y2 * 65536 + y3 * 256) (by unfold inR; omega), wrap64_in (by unfold inR; omega)]
        omega)
      rw [ex]
      exact ⟨x, d4, rfl, gx, c4, by rw [f4, f3, f2, f1]⟩
theorem u8P_wrap (z : Int) : ∃ b, u8P (IntKind.wrap .u8 z) = some b := by
  rw [IntKind.wrap_u8]
  exact ⟨_, if_pos ⟨Int.emod_nonneg _ (by omega), Int.emod_lt_of_pos _ (by omega)⟩⟩
theorem text_ok' {d : D_l1Cur} (h : CurOk d) {n : Int} (h0 : 0 ≤ n) (hn : n ≤ 1000000) : ∃ s d', s_l1Text d n = some (s, d') ∧ (s.size : Int) ≤ n ∧ CurOk d' ∧ d'.1 = d.1 := by
  unfold s_l1Text
  simp only [Prod.eta, Option.bind_some]
  obtain ⟨y3, d3, e3, _, c3, f3⟩ := below_ok' h 4
  rw [e3, Option.bind_some]
  dsimp only
  rw [wrap64_in (by unfold inR; omega)]
  obtain ⟨y4, d4, e4, g4, c4, f4⟩ := below_ok' c3 (n + 1)
  rw [e4, Option.bind_some]
  dsimp only
  have hy := g4.2.1 (by omega)
  refine (fun ⟨r, hr, hq⟩ => ⟨r.1, r.2, hr, hq⟩ : (∃ r : ByteArray × D_l1Cur, _ = some r ∧ ((r.1.size : Int) ≤ n ∧ CurOk r.2 ∧ r.2.1 = d.1)) → _) (whileP_rule (fun s : List UInt8 × Int × Int × Int => 0 ≤ s.2.1 ∧ (s.1.length : Int) + s.2.1 ≤ n ∧ CurOk (d4.1, s.2.2.1, s.2.2.2)) (fun s => s.2.1.toNat) _ ?_ ([], y4, d4.2.1, d4.2.2) ⟨g4.1, by simp; omega, c4⟩)
  · rintro ⟨out, k, i, q⟩ ⟨h1, h2, h3⟩
    dsimp only at h1 h2 h3 ⊢
    by_cases hk : 0 < k
    · left
      obtain ⟨y7, d7, e7, g7, c7, e71⟩ := byte_ok h3
      simp only [decide_eq_true hk, cond_true, e7, Option.bind_some]
      have ho : ∀ b : UInt8, appP out [b] = some (out ++ [b]) := fun b => appP_ok (by simp; omega)
      have hfin : ∀ b : UInt8, 0 ≤ IntKind.wrap .i64 (k - 1) ∧ (((out ++ [b]).length : Nat) : Int) + IntKind.wrap .i64 (k - 1) ≤ n ∧ CurOk (d4.1, d7.2.1, d7.2.2) := fun b => by
        rw [wrap64_in (by unfold inR; omega), List.length_append]
        refine ⟨by omega, by simp; omega, ?_⟩
        have := c7
        unfold CurOk at this ⊢
        dsimp only at e71 ⊢
        rw [e71] at this
        exact this
      have hm : (IntKind.wrap .i64 (k - 1)).toNat < k.toNat := by rw [wrap64_in (by unfold inR; omega)]; omega
      have fin : ∀ z : Int, ∃ s', (Option.bind (u8P (IntKind.wrap .u8 z)) fun y => Option.bind (appP out [y]) fun y' => some (Sum.inl (β := ByteArray × D_l1Cur) (y', IntKind.wrap .i64 (k - 1), d7.2.1, d7.2.2))) = some (.inl s') ∧ (0 ≤ s'.2.1 ∧ (s'.1.length : Int) + s'.2.1 ≤ n ∧ CurOk (d4.1, s'.2.2.1, s'.2.2.2)) ∧ s'.2.1.toNat < k.toNat := fun z => by
        obtain ⟨b, hb⟩ := u8P_wrap z
        rw [hb, Option.bind_some, ho, Option.bind_some]
        exact ⟨_, rfl, hfin b, hm⟩
      cases decide (y3 = 1) <;> cases decide (y3 = 2) <;> exact fin _
    · right
      simp only [decide_eq_false hk, cond_false]
      refine ⟨_, rfl, ?_, h3, by dsimp only; rw [f4, f3]⟩
      dsimp only
      show ((out.length : Nat) : Int) ≤ n
      omega
theorem new_ok {l : List UInt8} (h : l.length ≤ 1048576) : ∃ d, s_l1New l = some d ∧ CurOk d := by
  unfold s_l1New
  refine whileP_rule (fun s : Int × Int => 0 ≤ s.2 ∧ s.2 ≤ (l.length : Int)) (fun s => (l.length - s.2.toNat)) (fun d : D_l1Cur => CurOk d) ?_ (IntKind.wrap .i64 (10101 + (l.length : Int)), 0) ⟨by simp, by simp⟩
  · rintro ⟨q, i⟩ ⟨h1, h2⟩
    dsimp only at h1 h2 ⊢
    by_cases hi : i < (l.length : Int)
    · rw [decide_eq_true hi, Bool.true_and]
      by_cases h4 : i < 4000
      · left
        obtain ⟨k, rfl⟩ := Int.eq_ofNat_of_zero_le h1
        have hk : l[k]? = some (l[k]'(by omega)) := List.getElem?_eq_getElem _
        rw [decide_eq_true h4, cond_true, idx_nat, hk]
        refine ⟨_, rfl, ?_, ?_⟩
        · dsimp only; rw [wrap_succ (by omega)]; omega
        · dsimp only; rw [wrap_succ (by omega)]; omega
      · right
        rw [decide_eq_false h4, cond_false]
        exact ⟨_, rfl, by dsimp only; simp, by dsimp only; simp, by dsimp only; omega⟩
    · right
      rw [decide_eq_false hi, Bool.false_and, cond_false]
      exact ⟨_, rfl, by dsimp only; simp, by dsimp only; simp, by dsimp only; omega⟩
end Go.Proofs.SL
namespace Go.Proofs.SL
open Go
theorem once_ok' {d : D_l1Cur} (h : CurOk d) (n : Int) : ∃ x d', s_l1Once d n = some (x, d') ∧ CurOk d' ∧ d'.1 = d.1 := by
  unfold s_l1Once
  simp only [Prod.eta]
  obtain ⟨x, d', e, _, c, f⟩ := below_ok' h n
  rw [e]
  exact ⟨_, d', rfl, c, f⟩
theorem pickint_ok' {d : D_l1Cur} (h : CurOk d) {l : List Int} (hl : 0 < l.length) : ∃ x d', s_l1PickInt d l = some (x, d') ∧ x ∈ l ∧ CurOk d' ∧ d'.1 = d.1 := by
  unfold s_l1PickInt
  simp only [Prod.eta]
  obtain ⟨y, d1, e1, g1, c1, f1⟩ := below_ok' h (l.length : Int)
  rw [e1, Option.bind_some]
  dsimp only
  obtain ⟨k, rfl⟩ := Int.eq_ofNat_of_zero_le g1.1
  have hk : k < l.length := by have := g1.2.1 (by omega); omega
  rw [idx_nat, List.getElem?_eq_getElem hk, Option.bind_some]
  exact ⟨_, _, rfl, List.getElem_mem hk, c1, f1⟩
theorem pick_ok' {d : D_l1Cur} (h : CurOk d) {l : List ByteArray} (hl : 0 < l.length) : ∃ x d', s_l1Pick d l = some (x, d') ∧ x ∈ l ∧ CurOk d' ∧ d'.1 = d.1 := by
  unfold s_l1Pick
  simp only [Prod.eta]
  obtain ⟨y, d1, e1, g1, c1, f1⟩ := below_ok' h (l.length : Int)
  rw [e1, Option.bind_some]
  dsimp only
  obtain ⟨k, rfl⟩ := Int.eq_ofNat_of_zero_le g1.1
  have hk : k < l.length := by have := g1.2.1 (by omega); omega
  rw [idx_nat, List.getElem?_eq_getElem hk, Option.bind_some]
  exact ⟨_, _, rfl, List.getElem_mem hk, c1, f1⟩
end Go.Proofs.SL
namespace Go.Proofs.SL
open Go
def setB (x : D_Blob) : List D_Blob → List D_Blob
  | [] => [x]
  | y :: ys => if sLt y.1 x.1 then y :: setB x ys else x :: (y :: ys).filter fun z => !decide (z.1 = x.1)
def stepB (x : D_Blob) (t : Bool × List D_Blob) (y : D_Blob) : Bool × List D_Blob :=
  let t1 := if !t.1 && !sLt y.1 x.1 then (true, t.2 ++ [x]) else t
  if decide (y.1 = x.1) then t1 else (t1.1, t1.2 ++ [y])
theorem stepB_put (x : D_Blob) : ∀ (ys acc : List D_Blob), ys.foldl (stepB x) (true, acc) = (true, acc ++ ys.filter fun z => !decide (z.1 = x.1))
  | [], acc => by simp
  | y :: ys, acc => by
    rw [List.foldl_cons]
    unfold stepB
    simp only [Bool.not_true, Bool.false_and, Bool.false_eq_true, if_false]
    cases h : decide (y.1 = x.1) with
    | true => simp only [if_true]; rw [show (true, acc) = ((true, acc) : Bool × List D_Blob) from rfl]; have := stepB_put x ys acc; unfold stepB at this; simp only at this ⊢; rw [this]; simp [h]
    | false => have := stepB_put x ys (acc ++ [y]); unfold stepB at this; simp only [Bool.false_eq_true, if_false] at this ⊢; rw [this]; simp [h]
theorem stepB_false (x : D_Blob) : ∀ (ys acc : List D_Blob), (let t := ys.foldl (stepB x) (false, acc); if !t.1 then t.2 ++ [x] else t.2) = acc ++ setB x ys
  | [], acc => by simp [setB]
  | y :: ys, acc => by
    rw [List.foldl_cons]
    cases h : sLt y.1 x.1 with
    | true =>
      have h1 : decide (y.1 = x.1) = false := decide_eq_false (sLt_ne h)
      have : stepB x (false, acc) y = (false, acc ++ [y]) := by unfold stepB; simp [h, h1]
      rw [this, stepB_false x ys (acc ++ [y])]
      simp [setB, h]
    | false =>
      have : stepB x (false, acc) y = stepB x (true, acc ++ [x]) y := by unfold stepB; simp [h]
      rw [this, ← List.foldl_cons, stepB_put]
      simp [setB, h]
theorem mem_setB {x z : D_Blob} : ∀ {l : List D_Blob}, z ∈ setB x l ↔ z = x ∨ (z ∈ l ∧ (z.1 ≠ x.1 ∨ sLt z.1 x.1 = true)) 
  | [] => by simp [setB]
  | y :: ys => by
    unfold setB
    cases h : sLt y.1 x.1 with
    | true =>
      rw [if_pos rfl, List.mem_cons, mem_setB, List.mem_cons]
      constructor
      · rintro (rfl | rfl | ⟨h1, h2⟩)
        · exact .inr ⟨.inl rfl, .inr h⟩
        · exact .inl rfl
        · exact .inr ⟨.inr h1, h2⟩
      · rintro (rfl | ⟨rfl | h1, h2⟩)
        · exact .inr (.inl rfl)
        · exact .inl rfl
        · exact .inr (.inr ⟨h1, h2⟩)
    | false =>
      rw [if_neg (by simp), List.mem_cons, List.mem_filter]
      constructor
      · rintro (rfl | ⟨h1, h2⟩)
        · exact .inl rfl
        · exact .inr ⟨h1, .inl (by simpa using h2)⟩
      · rintro (rfl | ⟨h1, h2⟩)
        · exact .inl rfl
        · rcases h2 with h2 | h2
          · exact .inr ⟨h1, by simpa using h2⟩
          · exact .inr ⟨h1, by simpa using sLt_ne h2⟩
/-- A chunk is stored. -/
def blobPutD (d : D_Blobs) (s : ByteArray) : D_Blobs × ByteArray × Int := if blobsOk d then (if 40 < s.size then (d, ByteArray.empty, 1) else
  if ((d.2.findIdx? (fun x => decide (x.1 = short s))).bind fun k => d.2[k]?).any (fun x => !x.2.2) then (d, short s, 0) else
  if blobsOk (d.1, setB (short s, s, false) d.2) then ((d.1, setB (short s, s, false) d.2), short s, 0) else (d, ByteArray.empty, 2)) else ((0, []), ByteArray.empty, 1)
theorem setB_len (x : D_Blob) : ∀ l : List D_Blob, (setB x l).length ≤ l.length + 1
  | [] => by simp [setB]
  | y :: ys => by
    unfold setB
    split
    · have := setB_len x ys; simp; omega
    · have := List.length_filter_le (fun z : D_Blob => !decide (z.1 = x.1)) (y :: ys); simp only [List.length_cons] at this ⊢; omega
theorem s_BlobPut_eq {d : D_Blobs} {s : ByteArray} (h : d.2.length ≤ 9223372036854775807) : s_BlobPut d s = some (blobPutD d s) := by
  unfold s_BlobPut blobPutD
  simp only [Prod.eta, s_BlobsOk_eq h, Option.bind_some]
  cases hk : blobsOk d with
  | false => rfl
  | true =>
    obtain ⟨hn, _, hs⟩ := blobsOk_facts hk
    have hcp := s_l7Copy_eq (d := d) (by omega)
    simp only [Bool.not_true, cond_false, if_true, hcp, Option.bind_some]
    by_cases h40 : 40 < s.size
    · rw [decide_eq_true (show (40 : Int) < s.size by omega), if_pos h40]; rfl
    rw [decide_eq_false (show ¬ (40 : Int) < s.size by omega), if_neg h40, cond_false, s_Short_eq (s := s) (by omega), Option.bind_some, s_l7At_eq h, Option.bind_some]
    have hset := setB_len (short s, s, false) d.2
    have hok := s_BlobsOk_eq (d := (d.1, setB (short s, s, false) d.2)) (by dsimp only; omega)
    have hloop : ∀ (f : Bool × Int × List D_Blob → Option ((Bool × Int × List D_Blob) ⊕ (D_Blobs × ByteArray × Int))) (g : List D_Blob → Option (D_Blobs × ByteArray × Int)),
        (∀ (k : Nat) (t : Bool × List D_Blob) (y : D_Blob), d.2[k]? = some y → t.2.length ≤ 2 * k → f (t.1, (k : Int), t.2) = some (.inl ((stepB (short s, s, false) t y).1, IntKind.wrap .i64 ((k : Int) + 1), (stepB (short s, s, false) t y).2))) →
        (∀ t : Bool × List D_Blob, t.2.length ≤ 1000 → f (t.1, (d.2.length : Int), t.2) = Option.map .inr (if !t.1 then g (t.2 ++ [(short s, s, false)]) else g t.2)) → whileP f (false, 0, []) = g (setB (short s, s, false) d.2) := by
      intro f g hf he
      rw [whileP_for (l := d.2) (fun k (t : Bool × List D_Blob) => (t.1, (k : Int), t.2)) (fun t y => .inl (stepB (short s, s, false) t y)) (fun t => if !t.1 then g (t.2 ++ [(short s, s, false)]) else g t.2) (fun k t => t.2.length ≤ 2 * k) (false, []) (s0 := (false, 0, [])) rfl (Nat.le_refl _), goE_fold]
      · have := stepB_false (short s, s, false) d.2 []
        simp only [List.nil_append] at this
        rw [← this]
        generalize d.2.foldl (stepB (short s, s, false)) (false, []) = t
        obtain ⟨b, a⟩ := t
        cases b <;> rfl
      · intro k t y hy ht
        have hlt := (List.getElem?_eq_some_iff.1 hy).1
        refine .inl ⟨_, rfl, ?_, ?_⟩
        · rw [hf k t y hy ht, wrap_succ (by omega)]
        · unfold stepB
          dsimp only
          split <;> split <;> first | omega | (simp; omega)
      · intro t ht
        exact he t (by omega)
    have hput : ∀ (f : Bool × Int × List D_Blob → Option ((Bool × Int × List D_Blob) ⊕ (D_Blobs × ByteArray × Int))),
        (∀ (k : Nat) (t : Bool × List D_Blob) (y : D_Blob), d.2[k]? = some y → t.2.length ≤ 2 * k → f (t.1, (k : Int), t.2) = some (.inl ((stepB (short s, s, false) t y).1, IntKind.wrap .i64 ((k : Int) + 1), (stepB (short s, s, false) t y).2))) →
        (∀ t : Bool × List D_Blob, t.2.length ≤ 1000 → f (t.1, (d.2.length : Int), t.2) = Option.map .inr (cond (!t.1) (Option.bind (appP t.2 [(short s, s, false)]) fun y25 => Option.bind (s_BlobsOk (d.1, y25)) fun y26 => cond (!y26) (some (d, ByteArray.empty, 2)) (some ((d.1, y25), short s, 0))) (Option.bind (s_BlobsOk (d.1, t.2)) fun y29 => cond (!y29) (some (d, ByteArray.empty, 2)) (some ((d.1, t.2), short s, 0))))) →
        whileP f (false, 0, []) = some (if blobsOk (d.1, setB (short s, s, false) d.2) then ((d.1, setB (short s, s, false) d.2), short s, 0) else (d, ByteArray.empty, 2)) := by
      intro f hf he
      rw [hloop f (fun m => Option.bind (s_BlobsOk (d.1, m)) fun y => cond (!y) (some (d, ByteArray.empty, 2)) (some ((d.1, m), short s, 0))) hf ?_]
      · rw [hok, Option.bind_some]
        cases blobsOk (d.1, setB (short s, s, false) d.2) <;> rfl
      · intro t ht
        rw [he t ht, appP_ok (by simp; omega)]
        cases t.1 <;> rfl
    have hbody : ∀ (k : Nat) (t : Bool × List D_Blob) (y : D_Blob), d.2[k]? = some y → t.2.length ≤ 2 * k →
        jbind (gb (!t.1) (some y) (fun y13 => cond ((!t.1) && (!sLt y13.1 (short s))) (Option.bind (appP t.2 [(short s, s, false)]) fun y16 => some (.inl (true, y16))) (some (.inl (t.1, t.2))))) (fun s12 : Bool × (List D_Blob) => Option.bind (some y) fun y17 => cond (!decide (y17.1 = short s)) (Option.bind (some y) fun y19 => Option.bind (appP s12.2 [y19]) fun y21 => some (.inl (s12.1, IntKind.wrap .i64 ((k : Int) + 1), y21))) (some (.inl (s12.1, IntKind.wrap .i64 ((k : Int) + 1), s12.2)))) = some (Sum.inl (β := D_Blobs × ByteArray × Int) ((stepB (short s, s, false) t y).1, IntKind.wrap .i64 ((k : Int) + 1), (stepB (short s, s, false) t y).2)) := by
      intro k t y hy ht
      obtain ⟨b, a⟩ := t
      have hlt := (List.getElem?_eq_some_iff.1 hy).1
      dsimp only at ht ⊢
      have a1 : ∀ (c : List D_Blob) z, c.length ≤ 2 * k + 1 → appP c [z] = some (c ++ [z]) := fun c z hc => appP_ok (by simp; omega)
      unfold stepB
      rw [a1 a _ (by omega)]
      cases b <;> cases h1 : sLt y.1 (short s) <;> cases h2 : decide (y.1 = short s) <;> simp [gb, jbind, h1, h2, a1 _ _ (show (a ++ [(short s, s, false)]).length ≤ 2 * k + 1 by simp; omega), a1 a _ (show a.length ≤ 2 * k + 1 by omega)]
    rcases firstI_get (fun x : D_Blob => decide (x.1 = short s)) d.2 with ⟨h1, h2⟩ | ⟨k, x, h1, h2, h3, h4⟩
    · rw [h1, h2, show decide (0 ≤ (-1 : Int)) = false from rfl, gb_false, Bool.false_and, cond_false]
      simp only [Option.bind_none, Option.any_none, Bool.false_eq_true, if_false]
      refine hput _ (fun k t y hy ht => ?_) (fun t ht => ?_)
      · simp only [lt_dec (List.getElem?_eq_some_iff.1 hy).1, cond_true, idx_nat, hy]
        exact hbody k t y hy ht
      · simp only [ge_dec]; rfl
    · rw [h1, h2, show decide (0 ≤ (k : Int)) = true from decide_eq_true (by omega), gb_true, idx_nat, h3, Option.bind_some, show ((some k : Option Nat).bind fun k => d.2[k]?) = some x from h3, Bool.true_and]
      simp only [Option.any_some]
      rcases Bool.eq_false_or_eq_true x.2.2 with hb | hb
      rotate_left
      · simp only [hb]; rfl
      · simp only [hb, Bool.not_true, cond_false, Bool.false_eq_true, if_false]
        refine hput _ (fun k t y hy ht => ?_) (fun t ht => ?_)
        · simp only [lt_dec (List.getElem?_eq_some_iff.1 hy).1, cond_true, idx_nat, hy]
          exact hbody k t y hy ht
        · simp only [ge_dec]; rfl
end Go.Proofs.SL
namespace Go.Proofs.SL
open Go
def T7 : List ByteArray := [ByteArray.empty, (ByteArray.mk #[97]), (ByteArray.mk #[98, 98]), (ByteArray.mk #[99, 99, 99]), (ByteArray.mk #[104, 101, 108, 108, 111]), (ByteArray.mk #[0]), (ByteArray.mk #[119, 111, 114, 108, 100, 32, 97, 110, 100, 32, 109, 111, 114, 101])]
theorem T7_size : ∀ s, s ∈ T7 → s.size ≤ 14 := by decide
theorem T7_nil : ByteArray.empty ∈ T7 := List.mem_cons_self ..
theorem data_ok' {d : D_l1Cur} (h : CurOk d) : ∃ x d', s_l7Data d = some (x, d') ∧ x ∈ T7 ∧ CurOk d' ∧ d'.1 = d.1 := by
  unfold s_l7Data
  simp only [Prod.eta, Option.bind_some]
  obtain ⟨x, d', e, g, c, f⟩ := pick_ok' h (l := T7) (by decide)
  unfold T7 at e
  rw [e]
  exact ⟨_, _, rfl, g, c, f⟩
def DB (d : D_Blobs) : Prop := d.2.length ≤ 12 ∧ ∀ x, x ∈ d.2 → x.2.1 ∈ T7
theorem put_DB {d : D_Blobs} {s : ByteArray} (h : DB d) (hs : s ∈ T7) : DB (blobPutD d s).1 := by
  unfold blobPutD
  split
  · split
    · exact h
    · split
      · exact h
      · split
        · rename_i hk
          refine ⟨(blobsOk_facts hk).1, fun x hx => ?_⟩
          rcases mem_setB.1 hx with rfl | ⟨hx, _⟩
          · exact hs
          · exact h.2 x hx
        · exact h
  · exact ⟨Nat.zero_le _, fun x hx => by cases hx⟩
theorem bend_DB {d : D_Blobs} {c : ByteArray} (h : DB d) : DB (blobBendD d c).1 := by
  unfold blobBendD
  split
  · split
    · exact h
    · split
      · exact h
      · rename_i x hx
        split
        · exact h
        · refine ⟨by simp only [List.length_set]; exact h.1, fun z hz => ?_⟩
          rcases List.mem_or_eq_of_mem_set hz with hz | rfl
          · exact h.2 z hz
          · exact h.2 x (List.mem_of_getElem? hx)
  · exact ⟨Nat.zero_le _, fun x hx => by cases hx⟩
def DC (d : D_Blobs) : Prop := d.2.length ≤ 13 ∧ ∀ x, x ∈ d.2 → x.2.1 ∈ T7
end Go.Proofs.SL
namespace Go.Proofs.SL
open Go
theorem jbind_rule {σ α : Type} {o : Option (σ ⊕ α)} {k : σ → Option α} {Q : Option α → Prop} (P : σ → Prop) (h : ∃ s, o = some (.inl s) ∧ P s) (hk : ∀ s, P s → Q (k s)) : Q (jbind o k) := by
  obtain ⟨s, rfl, hs⟩ := h
  exact hk s hs
structure MB (m : D_Cmd) : Prop where
  k : inR m.1
  cl : inR m.2.1
  no : inR m.2.2.1
  s1 : m.2.2.2.1.size ≤ 9
  s2 : m.2.2.2.2.1.size ≤ 9
  s3 : m.2.2.2.2.2.1.size ≤ 9
  n : inR m.2.2.2.2.2.2.1
  len : m.2.2.2.2.2.2.2.length ≤ 5
  ch : ∀ x, x ∈ m.2.2.2.2.2.2.2 → x.size ≤ 9
theorem MB.ok {m : D_Cmd} (h : MB m) : Ok.ok m :=
  ⟨h.k, h.cl, h.no, by have := h.s1; show _ ≤ _; omega, by have := h.s2; show _ ≤ _; omega, by have := h.s3; show _ ≤ _; omega, h.n, by have := h.len; omega, fun x hx => by have := h.ch x hx; show x.size ≤ _; omega⟩
theorem mb_none : MB noCmd := ⟨by unfold inR noCmd; decide, by unfold inR noCmd; decide, by unfold inR noCmd; decide, by decide, by decide, by decide, by unfold inR noCmd; decide, by decide, fun x hx => by cases hx⟩
theorem small {n : Int} (h : -10000 ≤ n ∧ n ≤ 10000) : inR n := by unfold inR; omega
theorem sz9 {l : List ByteArray} {x : ByteArray} (hx : x ∈ l) (h : l.all (fun s => decide (s.size ≤ 9)) = true) : x.size ≤ 9 := by simpa using List.all_eq_true.1 h x hx
theorem right_ok {d : D_l1Cur} (h : CurOk d) : ∃ m d', s_l4Right d = some (m, d') ∧ MB m ∧ m.2.2.2.2.2.2.2.length ≤ 3 ∧ CurOk d' ∧ d'.1 = d.1 := by
  unfold s_l4Right
  simp only [Prod.eta]
  obtain ⟨y1, d1, e1, g1, c1, f1⟩ := below_ok' h 7
  rw [e1, Option.bind_some]; dsimp only
  obtain ⟨y2, d2, e2, g2, c2, f2⟩ := below_ok' c1 3
  rw [e2, Option.bind_some]; dsimp only
  obtain ⟨y3, d3, e3, g3, c3, f3⟩ := below_ok' c2 6
  rw [e3, Option.bind_some]; dsimp only
  have k1 := g1.2.1 (by omega); have k2 := g2.2.1 (by omega); have k3 := g3.2.1 (by omega)
  have w1 : IntKind.wrap .i64 (1 + y1) = 1 + y1 := wrap64_in (by unfold inR; omega)
  have w2 : IntKind.wrap .i64 (1 + y2) = 1 + y2 := wrap64_in (by unfold inR; omega)
  have w3 : IntKind.wrap .i64 (1 + y3) = 1 + y3 := wrap64_in (by unfold inR; omega)
  rw [w1, w2, w3]
  refine jbind_rule (Q := fun o => ∃ m d', o = some (m, d') ∧ MB m ∧ m.2.2.2.2.2.2.2.length ≤ 3 ∧ CurOk d' ∧ d'.1 = d.1) (fun s : Int × Int × Int => CurOk (d3.1, s.1, s.2.1) ∧ 1 ≤ s.2.2 ∧ s.2.2 ≤ 7) ?_ ?_
  · obtain ⟨b, d5, e5, c5, f5⟩ := once_ok' c3 4
    rw [e5, Option.bind_some]; dsimp only
    rw [f5.symm]
    cases b
    · exact ⟨_, rfl, c5, by dsimp only; omega, by dsimp only; omega⟩
    · exact ⟨_, rfl, c5, by dsimp only; omega, by dsimp only; omega⟩
  rintro ⟨p4, q4, k4⟩ ⟨c4, l4, u4⟩
  dsimp only at c4 l4 u4 ⊢
  refine jbind_rule (Q := fun o => ∃ m d', o = some (m, d') ∧ MB m ∧ m.2.2.2.2.2.2.2.length ≤ 3 ∧ CurOk d' ∧ d'.1 = d.1) (fun s : Int × Int × ByteArray => CurOk (d3.1, s.1, s.2.1) ∧ s.2.2.size ≤ 9) ?_ ?_
  · cases (!decide (k4 = 7))
    · exact ⟨_, rfl, c4, Nat.zero_le _⟩
    · rw [cond_true, Option.bind_some]
      obtain ⟨x, d6, e6, g6, c6, f6⟩ := pick_ok' c4 (l := [(ByteArray.mk #[97]), (ByteArray.mk #[98]), (ByteArray.mk #[97, 98])]) (by decide)
      rw [e6, Option.bind_some]; dsimp only at f6 ⊢
      exact ⟨_, rfl, by dsimp only; rw [← f6]; exact c6, sz9 g6 (by decide)⟩
  rintro ⟨p7, q7, s7⟩ ⟨c7, z7⟩
  dsimp only at c7 z7 ⊢
  refine jbind_rule (Q := fun o => ∃ m d', o = some (m, d') ∧ MB m ∧ m.2.2.2.2.2.2.2.length ≤ 3 ∧ CurOk d' ∧ d'.1 = d.1) (fun s : Int × Int × ByteArray => CurOk (d3.1, s.1, s.2.1) ∧ s.2.2.size ≤ 9) ?_ ?_
  · cases (decide (k4 = 3) || decide (k4 = 4))
    · exact ⟨_, rfl, c7, Nat.zero_le _⟩
    · rw [cond_true, Option.bind_some]
      obtain ⟨x, d6, e6, g6, c6, f6⟩ := pick_ok' c7 (l := [(ByteArray.mk #[120]), (ByteArray.mk #[121]), (ByteArray.mk #[122])]) (by decide)
      rw [e6, Option.bind_some]; dsimp only at f6 ⊢
      exact ⟨_, rfl, by dsimp only; rw [← f6]; exact c6, sz9 g6 (by decide)⟩
  rintro ⟨p8, q8, s8⟩ ⟨c8, z8⟩
  dsimp only at c8 z8 ⊢
  refine jbind_rule (Q := fun o => ∃ m d', o = some (m, d') ∧ MB m ∧ m.2.2.2.2.2.2.2.length ≤ 3 ∧ CurOk d' ∧ d'.1 = d.1) (fun s : Int × Int × ByteArray => CurOk (d3.1, s.1, s.2.1) ∧ s.2.2.size ≤ 9) ?_ ?_
  · cases (decide (k4 = 4))
    · exact ⟨_, rfl, c8, Nat.zero_le _⟩
    · rw [cond_true, Option.bind_some]
      obtain ⟨x, d6, e6, g6, c6, f6⟩ := pick_ok' c8 (l := [(ByteArray.mk #[107, 101, 101, 112]), (ByteArray.mk #[116])]) (by decide)
      rw [e6, Option.bind_some]; dsimp only at f6 ⊢
      exact ⟨_, rfl, by dsimp only; rw [← f6]; exact c6, sz9 g6 (by decide)⟩
  rintro ⟨p9, q9, s9⟩ ⟨c9, z9⟩
  dsimp only at c9 z9 ⊢
  refine jbind_rule (Q := fun o => ∃ m d', o = some (m, d') ∧ MB m ∧ m.2.2.2.2.2.2.2.length ≤ 3 ∧ CurOk d' ∧ d'.1 = d.1) (fun s : Int × Int × Int => CurOk (d3.1, s.1, s.2.1) ∧ 0 ≤ s.2.2 ∧ s.2.2 ≤ 4) ?_ ?_
  · cases (decide (k4 = 5))
    · exact ⟨_, rfl, c9, by dsimp only; omega, by dsimp only; omega⟩
    · rw [cond_true]
      obtain ⟨x, d6, e6, g6, c6, f6⟩ := below_ok' c9 4
      have := g6.2.1 (by omega)
      rw [e6, Option.bind_some]; dsimp only at f6 ⊢
      exact ⟨_, rfl, by dsimp only; rw [← f6]; exact c6, by dsimp only; omega, by dsimp only; omega⟩
  rintro ⟨p10, q10, n10⟩ ⟨c10, l10, u10⟩
  dsimp only at c10 l10 u10 ⊢
  have hf : d3.1 = d.1 := by rw [f3, f2, f1]
  cases (decide (k4 = 3)) with
  | false => exact ⟨_, _, rfl, ⟨small (by dsimp only; omega), small (by dsimp only; omega), small (by dsimp only; omega), z7, z8, z9, small (by dsimp only; omega), Nat.zero_le _, fun x hx => by cases hx⟩, Nat.zero_le _, c10, hf⟩
  | true =>
    rw [cond_true]
    obtain ⟨y26, d26, e26, g26, c26, f26⟩ := below_ok' c10 3
    have k26 := g26.2.1 (by omega)
    rw [e26, Option.bind_some]; dsimp only at f26 ⊢
    rw [wrap64_in (n := 1 + y26) (by unfold inR; omega)]
    refine (fun ⟨r, hr, hq⟩ => ⟨r.1, r.2, hr, hq⟩ : (∃ r : D_Cmd × D_l1Cur, _ = some r ∧ (MB r.1 ∧ r.1.2.2.2.2.2.2.2.length ≤ 3 ∧ CurOk r.2 ∧ r.2.1 = d.1)) → _) (whileP_rule (fun s : Int × Int × Int × (List ByteArray) => 0 ≤ s.1 ∧ s.1 + (s.2.2.2.length : Int) ≤ 3 ∧ CurOk (d26.1, s.2.1, s.2.2.1) ∧ ∀ x, x ∈ s.2.2.2 → x.size ≤ 9) (fun s => s.1.toNat) (fun r : D_Cmd × D_l1Cur => MB r.1 ∧ r.1.2.2.2.2.2.2.2.length ≤ 3 ∧ CurOk r.2 ∧ r.2.1 = d.1) ?_ (1 + y26, d26.2.1, d26.2.2, []) ⟨by dsimp only; omega, by simp; omega, c26, fun x hx => by cases hx⟩)
    rintro ⟨k, p, q, l⟩ ⟨i1, i2, i3, i4⟩
    dsimp only at i1 i2 i3 i4 ⊢
    by_cases hk : 0 < k
    · left
      rw [decide_eq_true hk, cond_true]
      obtain ⟨y29, d29, e29, g29, c29, f29⟩ := below_ok' i3 4
      rw [e29, Option.bind_some]; dsimp only at f29 ⊢
      obtain ⟨b, eb⟩ := u8P_wrap y29
      rw [eb, Option.bind_some, Option.bind_some, s_Short_eq (by rw [strP_size]; simp), Option.bind_some, appP_ok (by simp; omega), Option.bind_some, wrap64_in (n := k - 1) (by unfold inR; omega)]
      refine ⟨_, rfl, ⟨by dsimp only; omega, by simp; omega, by dsimp only; rw [← f29]; exact c29, fun x hx => ?_⟩, by dsimp only; omega⟩
      rcases List.mem_append.1 hx with hx | hx
      · exact i4 x hx
      · rw [List.mem_singleton.1 hx, short_size]; omega
    · right
      rw [decide_eq_false hk, cond_false]
      exact ⟨_, rfl, ⟨small (by dsimp only; omega), small (by dsimp only; omega), small (by dsimp only; omega), z7, z8, z9, small (by dsimp only; omega), by dsimp only; omega, i4⟩, by dsimp only; omega, i3, by dsimp only; rw [f26, hf]⟩
end Go.Proofs.SL
namespace Go.Proofs.SL
open Go
theorem cmd_ok {d : D_l1Cur} (h : CurOk d) : ∃ m d', s_l4Cmd d = some (m, d') ∧ MB m ∧ CurOk d' ∧ d'.1 = d.1 := by
  unfold s_l4Cmd
  simp only [Prod.eta]
  obtain ⟨b, d1, e1, c1, f1⟩ := once_ok' h 12
  rw [e1, Option.bind_some]; dsimp only
  cases b with
  | true => exact ⟨_, _, rfl, mb_none, c1, f1⟩
  | false =>
    rw [cond_false]
    obtain ⟨m, d3, e3, hm, l3, c3, f3⟩ := right_ok c1
    rw [e3, Option.bind_some]; dsimp only
    obtain ⟨b, d4, e4, c4, f4⟩ := once_ok' c3 8
    rw [e4, Option.bind_some]; dsimp only
    have hf4 : d4.1 = d.1 := by rw [f4, f3, f1]
    cases b with
    | false => exact ⟨_, _, rfl, hm, c4, hf4⟩
    | true =>
      rw [cond_true]
      obtain ⟨y6, d6, e6, g6, c6, f6⟩ := below_ok' c4 6
      rw [e6, Option.bind_some]; dsimp only
      have hf6 : d6.1 = d.1 := by rw [f6, hf4]
      have hpi : ∀ l : List Int, 0 < l.length → (∀ x, x ∈ l → -10000 ≤ x ∧ x ≤ 10000) → ∃ x d', s_l1PickInt d6 l = some (x, d') ∧ inR x ∧ CurOk d' ∧ d'.1 = d.1 := fun l h0 hl => by
        obtain ⟨x, d', e, g, c, f⟩ := pickint_ok' c6 h0
        exact ⟨x, d', e, small (hl x g), c, by rw [f, hf6]⟩
      cases decide (y6 = 0) with
      | true =>
        rw [cond_true, Option.bind_some]
        obtain ⟨x, d7, e7, i7, c7, f7⟩ := hpi [(-1), 0, 8, 3] (by decide) (by decide)
        rw [e7, Option.bind_some]
        exact ⟨_, _, rfl, ⟨i7, hm.cl, hm.no, hm.s1, hm.s2, hm.s3, hm.n, hm.len, hm.ch⟩, c7, f7⟩
      | false =>
      rw [cond_false]
      cases decide (y6 = 1) with
      | true =>
        rw [cond_true, Option.bind_some]
        obtain ⟨x, d7, e7, i7, c7, f7⟩ := hpi [0, 9, 10] (by decide) (by decide)
        rw [e7, Option.bind_some]
        exact ⟨_, _, rfl, ⟨hm.k, i7, hm.no, hm.s1, hm.s2, hm.s3, hm.n, hm.len, hm.ch⟩, c7, f7⟩
      | false =>
      rw [cond_false]
      cases decide (y6 = 2) with
      | true =>
        rw [cond_true, Option.bind_some]
        obtain ⟨x, d7, e7, i7, c7, f7⟩ := hpi [0, 1000, 1001] (by decide) (by decide)
        rw [e7, Option.bind_some]
        exact ⟨_, _, rfl, ⟨hm.k, hm.cl, i7, hm.s1, hm.s2, hm.s3, hm.n, hm.len, hm.ch⟩, c7, f7⟩
      | false =>
      rw [cond_false]
      cases decide (y6 = 3) with
      | true =>
        rw [cond_true, Option.bind_some]
        obtain ⟨x, d7, e7, g7, c7, f7⟩ := pick_ok' c6 (l := [ByteArray.empty, (ByteArray.mk #[65]), (ByteArray.mk #[97, 98, 99, 100, 101, 102, 103, 104]), (ByteArray.mk #[97, 98, 99, 100, 101, 102, 103, 104, 105])]) (by decide)
        rw [e7, Option.bind_some]
        exact ⟨_, _, rfl, ⟨hm.k, hm.cl, hm.no, sz9 g7 (by decide), hm.s2, hm.s3, hm.n, hm.len, hm.ch⟩, c7, by rw [f7, hf6]⟩
      | false =>
      rw [cond_false]
      cases decide (y6 = 4) with
      | true =>
        rw [cond_true, Option.bind_some]
        obtain ⟨x, d7, e7, i7, c7, f7⟩ := hpi [(-1), 9, 10] (by decide) (by decide)
        rw [e7, Option.bind_some]
        exact ⟨_, _, rfl, ⟨hm.k, hm.cl, hm.no, hm.s1, hm.s2, hm.s3, i7, hm.len, hm.ch⟩, c7, f7⟩
      | false =>
        rw [cond_false]
        obtain ⟨t, d7, e7, g7, c7, f7⟩ := text_ok' c6 (n := 9) (by omega) (by omega)
        rw [e7, Option.bind_some]; dsimp only
        rw [appP_ok (by simp; omega), Option.bind_some]
        refine ⟨_, _, rfl, ⟨hm.k, hm.cl, hm.no, hm.s1, hm.s2, hm.s3, hm.n, by simp; omega, fun x hx => ?_⟩, c7, by rw [f7, hf6]⟩
        rcases List.mem_append.1 hx with hx | hx
        · exact hm.ch x hx
        · rw [List.mem_singleton.1 hx]; omega
theorem cmds_ok {d : D_l1Cur} (h : CurOk d) {n : Int} (hn : n ≤ 1000) : ∃ l d', s_l15Cmds d n = some (l, d') ∧ (l.length ≤ 1000 ∧ ∀ m, m ∈ l → MB m) ∧ CurOk d' ∧ d'.1 = d.1 := by
  unfold s_l15Cmds
  simp only [Prod.eta, Option.bind_some]
  obtain ⟨y3, d3, e3, g3, c3, f3⟩ := below_ok' h n
  rw [e3, Option.bind_some]; dsimp only
  have k3 : y3 ≤ 1000 := by
    by_cases h0 : 0 < n
    · have := g3.2.1 h0; omega
    · have := g3.2.2 (by omega); omega
  have k0 := g3.1
  refine (fun ⟨r, hr, hq⟩ => ⟨r.1, r.2, hr, hq⟩ : (∃ r : List D_Cmd × D_l1Cur, _ = some r ∧ ((r.1.length ≤ 1000 ∧ ∀ m, m ∈ r.1 → MB m) ∧ CurOk r.2 ∧ r.2.1 = d.1)) → _) (whileP_rule (fun s : (List D_Cmd) × Int × Int × Int => 0 ≤ s.2.1 ∧ (s.1.length : Int) + s.2.1 ≤ 1000 ∧ CurOk (d3.1, s.2.2.1, s.2.2.2) ∧ ∀ m, m ∈ s.1 → MB m) (fun s => s.2.1.toNat) (fun r : List D_Cmd × D_l1Cur => (r.1.length ≤ 1000 ∧ ∀ m, m ∈ r.1 → MB m) ∧ CurOk r.2 ∧ r.2.1 = d.1) ?_ ([], y3, d3.2.1, d3.2.2) ⟨by dsimp only; omega, by simp; omega, c3, fun m hm => by cases hm⟩)
  rintro ⟨l, k, p, q⟩ ⟨i1, i2, i3, i4⟩
  dsimp only at i1 i2 i3 i4 ⊢
  by_cases hk : 0 < k
  · left
    rw [decide_eq_true hk, cond_true]
    have key : ∀ (m : D_Cmd) (d' : D_l1Cur), MB m → CurOk d' → d'.1 = d3.1 → ∃ s', Option.bind (appP l [m]) (fun y => (some (.inl (y, IntKind.wrap .i64 (k - 1), d'.2.1, d'.2.2)) : Option ((List D_Cmd × Int × Int × Int) ⊕ (List D_Cmd × D_l1Cur)))) = some (.inl s') ∧ (0 ≤ s'.2.1 ∧ (s'.1.length : Int) + s'.2.1 ≤ 1000 ∧ CurOk (d3.1, s'.2.2.1, s'.2.2.2) ∧ ∀ m, m ∈ s'.1 → MB m) ∧ s'.2.1.toNat < k.toNat := fun m d' hm hc hd => by
      rw [appP_ok (by simp; omega), Option.bind_some, wrap64_in (n := k - 1) (by unfold inR; omega)]
      refine ⟨_, rfl, ⟨by dsimp only; omega, by simp; omega, by dsimp only; rw [← hd]; exact hc, fun z hz => ?_⟩, by dsimp only; omega⟩
      rcases List.mem_append.1 hz with hz | hz
      · exact i4 z hz
      · rw [List.mem_singleton.1 hz]; exact hm
    obtain ⟨m, d6, e6, hm, _, c6, f6⟩ := right_ok i3
    rw [e6, Option.bind_some]; dsimp only
    obtain ⟨b, d7, e7, c7, f7⟩ := once_ok' c6 4
    rw [e7, Option.bind_some]; dsimp only
    cases b with
    | true =>
      rw [cond_true]
      obtain ⟨x, d9, e9, g9, c9, f9⟩ := pick_ok' c7 (l := [(ByteArray.mk #[97]), (ByteArray.mk #[98]), (ByteArray.mk #[97, 98]), (ByteArray.mk #[99]), (ByteArray.mk #[100]), (ByteArray.mk #[101]), (ByteArray.mk #[102])]) (by decide)
      rw [e9, Option.bind_some]; dsimp only
      obtain ⟨b, d12, e12, c12, f12⟩ := once_ok' c9 15
      rw [e12, Option.bind_some]; dsimp only
      cases b with
      | true =>
        rw [cond_true]
        obtain ⟨m2, d14, e14, hm2, c14, f14⟩ := cmd_ok c12
        rw [e14, Option.bind_some]
        exact key m2 d14 hm2 c14 (by rw [f14, f12, f9, f7, f6])
      | false =>
        rw [cond_false]
        exact key (1, m.2.1, m.2.2.1, x, ByteArray.empty, ByteArray.empty, 0, []) d12 ⟨small (by dsimp only; omega), hm.cl, hm.no, sz9 g9 (by decide), Nat.zero_le _, Nat.zero_le _, small (by dsimp only; omega), Nat.zero_le _, fun x hx => by cases hx⟩ c12 (by rw [f12, f9, f7, f6])
    | false =>
      rw [cond_false]
      obtain ⟨b, d12, e12, c12, f12⟩ := once_ok' c7 15
      rw [e12, Option.bind_some]; dsimp only
      cases b with
      | true =>
        rw [cond_true]
        obtain ⟨m2, d14, e14, hm2, c14, f14⟩ := cmd_ok c12
        rw [e14, Option.bind_some]
        exact key m2 d14 hm2 c14 (by rw [f14, f12, f7, f6])
      | false =>
        rw [cond_false]
        exact key m d12 hm c12 (by rw [f12, f7, f6])
  · right
    rw [decide_eq_false hk, cond_false]
    exact ⟨_, rfl, ⟨by dsimp only; omega, i4⟩, i3, f3⟩
noncomputable def playStep (t : List ByteArray × D_Catalog) (m : D_Cmd) : List ByteArray × D_Catalog := (t.1 ++ [(catDoD t.2 m).2], (catDoD t.2 m).1)
noncomputable def catPlayD (l : List D_Cmd) : D_Catalog × List ByteArray := ((l.foldl playStep ([], [])).2, (l.foldl playStep ([], [])).1)
theorem s_CatPlay_eq {l : List D_Cmd} (h : l.length ≤ 1000000) (hm : ∀ m, m ∈ l → Ok.ok m) : s_CatPlay l = some (catPlayD l) := by
  unfold s_CatPlay catPlayD
  rw [Option.bind_some]
  rw [loop_pass (l := l) (fun k (t : List ByteArray × D_Catalog) => (t.1, (k : Int), t.2)) playStep (fun t => some (t.2, t.1)) (fun k t => t.1.length ≤ k ∧ Ok.ok t.2) ([], []) (s0 := ([], 0, [])) rfl ⟨Nat.le_refl _, bnd_nil.ok⟩]
  · intro k t m hx ht
    have hk := (List.getElem?_eq_some_iff.1 hx).1
    obtain ⟨a, c⟩ := t
    dsimp only at ht ⊢
    simp only [lt_dec hk, cond_true, idx_nat, hx, Option.bind_some, Prod.eta]
    rw [s_CatDo_eq ht.2 (hm m (List.mem_of_getElem? hx)), Option.bind_some, appP_ok (by simp; omega), Option.bind_some, wrap_succ (by omega)]
    exact ⟨rfl, by simp [playStep]; omega, (catDo_bnd c m).ok⟩
  · intro t ht
    simp only [ge_dec, cond_false]
theorem play_bnd : ∀ (l : List D_Cmd) (t : List ByteArray × D_Catalog), CBnd t.2 → CBnd (l.foldl playStep t).2
  | [], t, h => h
  | m :: l, t, _ => by rw [List.foldl_cons]; exact play_bnd l _ (catDo_bnd t.2 m)
theorem catPlay_bnd (l : List D_Cmd) : CBnd (catPlayD l).1 := play_bnd l _ bnd_nil
theorem gm_once {d : D_l1Cur} (h : CurOk d) (g : Bool) (n : Int) : ∃ x d', gm g (false, d) (s_l1Once d n) = some (x, d') ∧ CurOk d' ∧ d'.1 = d.1 := by
  cases g with
  | true => exact once_ok' h n
  | false => exact ⟨_, _, rfl, h, rfl⟩
theorem some15_ok {d : D_l1Cur} (h : CurOk d) : ∃ c d', s_l15Some d = some (c, d') ∧ (Ok.ok c ∧ c.length ≤ 7) ∧ CurOk d' ∧ d'.1 = d.1 := by
  unfold s_l15Some
  simp only [Prod.eta]
  obtain ⟨l, d1, e1, ⟨l1, m1⟩, c1, f1⟩ := cmds_ok h (n := 24) (by omega)
  rw [e1, Option.bind_some, s_CatPlay_eq (by omega) (fun m hm => (m1 m hm).ok), Option.bind_some]
  have hb := catPlay_bnd l
  generalize (catPlayD l).1 = c at hb
  have hlen := hb.len
  have hok := hb.ok
  obtain ⟨b, d3, e3, c3, f3⟩ := gm_once c1 (decide (0 < (c.length : Int))) 10
  rw [e3, Option.bind_some]; dsimp only
  have hf3 : d3.1 = d.1 := by rw [f3, f1]
  cases hc : c with
  | nil => exact ⟨_, _, rfl, ⟨⟨by simp, fun x hx => by cases hx⟩, by simp⟩, c3, hf3⟩
  | cons s r =>
    subst hc
    rw [decide_eq_true (show (0 : Int) < (((s :: r).length : Nat) : Int) by simp only [List.length_cons]; omega), Bool.true_and]
    cases b with
    | false => exact ⟨_, _, rfl, ⟨hok, by omega⟩, c3, hf3⟩
    | true =>
      rw [cond_true]
      obtain ⟨y5, d5, e5, g5, c5, f5⟩ := below_ok' c3 3
      rw [e5, Option.bind_some]; dsimp only
      have hs := hb.name s (List.mem_cons_self ..)
      have hsn := hb.snaps s (List.mem_cons_self ..)
      have hso := hok.2 s (List.mem_cons_self ..)
      cases decide (y5 = 0) with
      | true =>
        rw [cond_true, Option.bind_some]
        obtain ⟨x, d7, e7, g7, c7, f7⟩ := pick_ok' c5 (l := [(ByteArray.mk #[97]), (ByteArray.mk #[122, 122]), (ByteArray.mk #[90])]) (by decide)
        rw [e7, Option.bind_some, appP_ok (by simp at hlen ⊢; omega), Option.bind_some]
        refine ⟨_, _, rfl, ⟨⟨by simp at hlen ⊢; omega, fun z hz => ?_⟩, by simp at hlen ⊢; omega⟩, c7, by rw [f7, f5, hf3]⟩
        rcases List.mem_append.1 hz with hz | hz
        · exact hok.2 z hz
        · rw [List.mem_singleton.1 hz]
          have := sz9 g7 (by decide)
          exact ⟨by show x.size ≤ _; omega, by simp, fun p hp => by cases hp⟩
      | false =>
        rw [cond_false]
        have hset : ∀ z : D_CSet, Ok.ok z → Ok.ok ((s :: r).set 0 z) := fun z hz => ⟨by rw [List.length_set]; exact hok.1, fun q hq => by
          rcases mem_set' hq with rfl | hq
          · exact hz
          · exact hok.2 q hq⟩
        cases decide (y5 = 1) with
        | true =>
          rw [cond_true, show idx (s :: r) 0 = some s from rfl, Option.bind_some, appP_ok (by simp; omega), Option.bind_some, Option.bind_some, Option.bind_some]
          refine ⟨_, _, rfl, ⟨hset _ ⟨hso.1, by simp; omega, fun p hp => ?_⟩, by rw [List.length_set]; omega⟩, c5, by rw [f5, hf3]⟩
          rcases List.mem_append.1 hp with hp | hp
          · exact hso.2.2 p hp
          · rw [List.mem_singleton.1 hp]
            exact ⟨by show (1 : Nat) ≤ _; omega, by show (0 : Nat) ≤ _; omega, by simp, fun x hx => by cases hx⟩
        | false =>
          rw [cond_false, show idx (s :: r) 0 = some s from rfl, Option.bind_some, Option.bind_some]
          exact ⟨_, _, rfl, ⟨hset _ ⟨by show (0 : Nat) ≤ _; omega, hso.2⟩, by rw [List.length_set]; omega⟩, c5, by rw [f5, hf3]⟩
theorem put_len {d : D_Blobs} {s : ByteArray} (h : d.2.length ≤ 13) : (blobPutD d s).1.2.length ≤ 13 := by
  unfold blobPutD
  split
  · split
    · exact h
    · split
      · exact h
      · split
        · rename_i hk
          have := (blobsOk_facts hk).1
          dsimp only at this ⊢; omega
        · exact h
  · exact Nat.zero_le _
theorem bend_len {d : D_Blobs} {c : ByteArray} (h : d.2.length ≤ 13) : (blobBendD d c).1.2.length ≤ 13 := by
  unfold blobBendD
  split
  · split
    · exact h
    · split
      · exact h
      · split
        · exact h
        · simp only [List.length_set]; exact h
  · exact Nat.zero_le _
theorem some7_ok' {d : D_l1Cur} (h : CurOk d) : ∃ r d', s_l7Some d = some (r, d') ∧ DC r ∧ CurOk d' ∧ d'.1 = d.1 := by
  unfold s_l7Some
  simp only [Prod.eta, Option.bind_some]
  obtain ⟨y3, d3, e3, _, c3, f3⟩ := pickint_ok' h (l := [1000, 100, 20, 0]) (by decide)
  rw [e3, Option.bind_some]; dsimp only
  obtain ⟨y4, d4, e4, g4, c4, f4⟩ := below_ok' c3 9
  rw [e4, Option.bind_some]; dsimp only
  have hf : d4.1 = d.1 := by rw [f4, f3]
  refine (fun ⟨r, hr, hq⟩ => ⟨r.1, r.2, hr, hq⟩ : (∃ r : D_Blobs × D_l1Cur, _ = some r ∧ (DC r.1 ∧ CurOk r.2 ∧ r.2.1 = d.1)) → _) (whileP_rule (fun s : Int × Int × Int × Int × (List D_Blob) => 0 ≤ s.1 ∧ s.1 ≤ 9 ∧ CurOk (d4.1, s.2.1, s.2.2.1) ∧ DB (s.2.2.2.1, s.2.2.2.2)) (fun s => s.1.toNat) (fun r : D_Blobs × D_l1Cur => DC r.1 ∧ CurOk r.2 ∧ r.2.1 = d.1) ?_ (y4, d4.2.1, d4.2.2, y3, []) ⟨g4.1, by have := g4.2.1 (by omega); dsimp only; omega, c4, ⟨Nat.zero_le _, fun x hx => by cases hx⟩⟩)
  rintro ⟨k, p, q, e, l⟩ ⟨k0, k1, hc, hD⟩
  dsimp only at k0 k1 hc hD ⊢
  have hl : l.length ≤ 12 := hD.1
  by_cases hk : 0 < k
  · left
    rw [decide_eq_true hk, cond_true, wrap64_in (n := k - 1) (by unfold inR; omega)]
    obtain ⟨x, d7, e7, g7, c7, f7⟩ := data_ok' hc
    rw [e7, Option.bind_some]; dsimp only
    have hP := put_DB hD g7
    rw [s_BlobPut_eq (by dsimp only; omega), Option.bind_some]
    obtain ⟨b, d10, e10, c10, f10⟩ := once_ok' c7 5
    rw [e10, Option.bind_some]; dsimp only
    cases b with
    | false =>
      refine ⟨_, rfl, ⟨by dsimp only; omega, by dsimp only; omega, ?_, hP⟩, by dsimp only; omega⟩
      dsimp only at f7 f10 ⊢
      rw [← f7, ← f10]; exact c10
    | true =>
      rw [cond_true]
      obtain ⟨y, d12, e12, g12, c12, f12⟩ := data_ok' c10
      rw [e12, Option.bind_some]; dsimp only
      rw [s_Short_eq (by have := T7_size y g12; omega), Option.bind_some, s_BlobBend_eq (by have := hP.1; omega), Option.bind_some]
      refine ⟨_, rfl, ⟨by dsimp only; omega, by dsimp only; omega, ?_, bend_DB hP⟩, by dsimp only; omega⟩
      dsimp only at f7 f10 f12 ⊢
      rw [← f7, ← f10, ← f12]; exact c12
  · right
    rw [decide_eq_false hk, cond_false]
    have hD' : ∀ e', DC (e', l) := fun e' => ⟨by dsimp only; omega, hD.2⟩
    obtain ⟨b, d17, e17, c17, f17⟩ := once_ok' hc 10
    rw [e17, Option.bind_some]; dsimp only
    cases b with
    | false => exact ⟨_, rfl, hD' _, c17, by rw [f17]; exact hf⟩
    | true =>
      rw [cond_true]
      obtain ⟨y19, d19, e19, g19, c19, f19⟩ := below_ok' c17 3
      rw [e19, Option.bind_some]; dsimp only
      cases decide (y19 = 0) with
      | true =>
        obtain ⟨y23, d23, e23, _, c23, f23⟩ := pickint_ok' c19 (l := [(-1), 3, 1000, 1001]) (by decide)
        rw [cond_true, e23]
        exact ⟨_, rfl, hD' _, c23, by rw [f23, f19, f17]; exact hf⟩
      | false =>
        rw [cond_false]
        cases decide (y19 = 1) with
        | true =>
          obtain ⟨t, d25, e25, _, c25, f25⟩ := text_ok' c19 (n := 9) (by omega) (by omega)
          rw [cond_true, e25, Option.bind_some, appP_ok (by simp; omega)]
          refine ⟨_, rfl, ⟨by dsimp only; rw [List.length_append]; simp; omega, fun x hx => ?_⟩, c25, by rw [f25, f19, f17]; exact hf⟩
          rcases List.mem_append.1 hx with hx | hx
          · exact hD.2 x hx
          · rw [List.mem_singleton.1 hx]; exact T7_nil
        | false =>
          rw [cond_false]
          cases l with
          | nil => exact ⟨_, rfl, hD' _, c19, by rw [f19, f17]; exact hf⟩
          | cons y ys =>
            rw [decide_eq_true (by simp only [List.length_cons]; omega), cond_true, show idx (y :: ys) 0 = some y from rfl, Option.bind_some, Option.bind_some]
            refine ⟨_, rfl, ⟨by simp only [List.length_set]; omega, fun x hx => ?_⟩, c19, by rw [f19, f17]; exact hf⟩
            rcases List.mem_or_eq_of_mem_set hx with hx | rfl
            · exact hD.2 x hx
            · exact hD.2 y (List.mem_cons_self ..)
theorem whileP_inl {σ σ' α : Type} {f : σ → Option (σ ⊕ (σ' ⊕ α))} (I : σ → Prop) (μ : σ → Nat) (P : σ' → Prop)
    (h : ∀ s, I s → (∃ s', f s = some (.inl s') ∧ I s' ∧ μ s' < μ s) ∨ ∃ s', f s = some (.inr (.inl s')) ∧ P s') (s : σ) (hs : I s) : ∃ s', whileP f s = some (.inl s') ∧ P s' := by
  obtain ⟨r, h1, s', h2, h3⟩ := whileP_rule I μ (fun r : σ' ⊕ α => ∃ s', r = .inl s' ∧ P s') (fun s hi => by
    rcases h s hi with h | ⟨s', h1, h2⟩
    · exact .inl h
    · exact .inr ⟨_, h1, _, rfl, h2⟩) s hs
  exact ⟨s', by rw [h1, h2], h3⟩
theorem stores_ok {d : D_l1Cur} (h : CurOk d) : ∃ l d', s_l21Stores d = some (l, d') ∧ (l.length ≤ 3 ∧ ∀ b, b ∈ l → b.2.length ≤ 13) ∧ CurOk d' ∧ d'.1 = d.1 := by
  unfold s_l21Stores
  rw [Option.bind_some]
  refine (fun ⟨r, hr, hq⟩ => ⟨r.1, r.2, hr, hq⟩ : (∃ r : List D_Blobs × D_l1Cur, _ = some r ∧ ((r.1.length ≤ 3 ∧ ∀ b, b ∈ r.1 → b.2.length ≤ 13) ∧ CurOk r.2 ∧ r.2.1 = d.1)) → _) (whileP_rule (fun s : (List D_Blobs) × Int × Int × Int => 0 ≤ s.2.1 ∧ s.2.1 ≤ 3 ∧ (s.1.length : Int) ≤ s.2.1 ∧ CurOk (d.1, s.2.2.1, s.2.2.2) ∧ ∀ b, b ∈ s.1 → b.2.length ≤ 13) (fun s => (3 - s.2.1).toNat) (fun r : List D_Blobs × D_l1Cur => (r.1.length ≤ 3 ∧ ∀ b, b ∈ r.1 → b.2.length ≤ 13) ∧ CurOk r.2 ∧ r.2.1 = d.1) ?_ ([], 0, d.2.1, d.2.2) ⟨by dsimp only; omega, by dsimp only; omega, by simp, h, fun m hm => by cases hm⟩)
  rintro ⟨l, n, p, q⟩ ⟨i1, i2, i3, i4, i5⟩
  dsimp only at i1 i2 i3 i4 i5 ⊢
  by_cases hn : n < 3
  · left
    rw [decide_eq_true hn, cond_true]
    refine whileP_inl (fun s : Int × Int × Int × Int × (List D_Blob) => 0 ≤ s.1 ∧ s.1 ≤ 4 ∧ CurOk (d.1, s.2.1, s.2.2.1) ∧ s.2.2.2.2.length ≤ 13) (fun s => (4 - s.1).toNat) (fun s' : (List D_Blobs) × Int × Int × Int => (0 ≤ s'.2.1 ∧ s'.2.1 ≤ 3 ∧ (s'.1.length : Int) ≤ s'.2.1 ∧ CurOk (d.1, s'.2.2.1, s'.2.2.2) ∧ ∀ b, b ∈ s'.1 → b.2.length ≤ 13) ∧ (3 - s'.2.1).toNat < (3 - n).toNat) ?_ (0, p, q, 1000, []) ⟨by dsimp only; omega, by dsimp only; omega, i4, Nat.zero_le _⟩
    rintro ⟨k, p2, q2, z, bl⟩ ⟨j1, j2, j3, j4⟩
    dsimp only at j1 j2 j3 j4 ⊢
    by_cases hk : k < 4
    · left
      rw [decide_eq_true hk, cond_true]
      refine jbind_rule (Q := fun o : Option ((Int × Int × Int × Int × (List D_Blob)) ⊕ (((List D_Blobs) × Int × Int × Int) ⊕ (List D_Blobs × D_l1Cur))) => ∃ s' : Int × Int × Int × Int × (List D_Blob), o = some (.inl s') ∧ (0 ≤ s'.1 ∧ s'.1 ≤ 4 ∧ CurOk (d.1, s'.2.1, s'.2.2.1) ∧ s'.2.2.2.2.length ≤ 13) ∧ (4 - s'.1).toNat < (4 - k).toNat) (fun s : Int × Int × Int × (List D_Blob) => CurOk (d.1, s.1, s.2.1) ∧ s.2.2.2.length ≤ 13) ?_ ?_
      · obtain ⟨b, d8, e8, c8, f8⟩ := once_ok' j3 3
        rw [e8, Option.bind_some]; dsimp only at f8 ⊢
        have c8' : CurOk (d.1, d8.2.1, d8.2.2) := by rw [← f8]; exact c8
        cases b with
        | true => exact ⟨_, rfl, c8', j4⟩
        | false =>
          rw [Bool.not_false, cond_true]
          obtain ⟨b, eb⟩ := u8P_wrap k
          rw [eb, Option.bind_some, Option.bind_some, s_BlobPut_eq (by dsimp only; omega), Option.bind_some]
          exact ⟨_, rfl, c8', put_len j4⟩
      · rintro ⟨p3, q3, z3, bl3⟩ ⟨r1, r2⟩
        dsimp only at r1 r2 ⊢
        obtain ⟨b, d8, e8, c8, f8⟩ := once_ok' r1 6
        rw [e8, Option.bind_some]; dsimp only at f8 ⊢
        have c8' : CurOk (d.1, d8.2.1, d8.2.2) := by rw [← f8]; exact c8
        rw [wrap64_in (n := k + 1) (by unfold inR; omega)]
        cases b with
        | false => exact ⟨_, rfl, ⟨by dsimp only; omega, by dsimp only; omega, c8', r2⟩, by dsimp only; omega⟩
        | true =>
          rw [cond_true]
          obtain ⟨b, eb⟩ := u8P_wrap k
          rw [eb, Option.bind_some, Option.bind_some, s_Short_eq (by rw [strP_size]; simp), Option.bind_some, s_BlobBend_eq (by dsimp only; omega), Option.bind_some]
          exact ⟨_, rfl, ⟨by dsimp only; omega, by dsimp only; omega, c8', bend_len r2⟩, by dsimp only; omega⟩
    · right
      rw [decide_eq_false hk, cond_false]
      obtain ⟨b, d8, e8, c8, f8⟩ := once_ok' j3 15
      rw [e8, Option.bind_some]; dsimp only at f8 ⊢
      rw [wrap64_in (n := n + 1) (by unfold inR; omega)]
      have key : ∀ (x : D_Blobs) (d' : D_l1Cur), x.2.length ≤ 13 → CurOk d' → d'.1 = d.1 → ∃ s' : (List D_Blobs) × Int × Int × Int, Option.map (Sum.inr (α := Int × Int × Int × Int × List D_Blob)) (Option.bind (appP l [x]) fun y => (some (.inl (y, n + 1, d'.2.1, d'.2.2)) : Option (((List D_Blobs) × Int × Int × Int) ⊕ (List D_Blobs × D_l1Cur)))) = some (.inr (.inl s')) ∧ (0 ≤ s'.2.1 ∧ s'.2.1 ≤ 3 ∧ (s'.1.length : Int) ≤ s'.2.1 ∧ CurOk (d.1, s'.2.2.1, s'.2.2.2) ∧ ∀ b, b ∈ s'.1 → b.2.length ≤ 13) ∧ (3 - s'.2.1).toNat < (3 - n).toNat := fun x d' hx hc hd => by
        rw [appP_ok (by simp; omega)]
        refine ⟨_, rfl, ⟨by dsimp only; omega, by dsimp only; omega, by simp; omega, by dsimp only; rw [← hd]; exact hc, fun b hb => ?_⟩, by dsimp only; omega⟩
        rcases List.mem_append.1 hb with hb | hb
        · exact i5 b hb
        · rw [List.mem_singleton.1 hb]; exact hx
      cases b with
      | false => exact key (z, bl) d8 j4 c8 f8
      | true =>
        rw [cond_true]
        obtain ⟨x, d25, e25, h25, c25, f25⟩ := some7_ok' c8
        rw [e25, Option.bind_some]
        exact key x d25 h25.1 c25 (by rw [f25, f8])
  · right
    rw [decide_eq_false hn, cond_false]
    exact ⟨_, rfl, ⟨by dsimp only; omega, i5⟩, i4, rfl⟩
theorem chunk_ok {d : D_l1Cur} (h : CurOk d) : ∃ s d', s_l18Chunk d = some (s, d') ∧ s.size ≤ 9 ∧ CurOk d' ∧ d'.1 = d.1 := by
  unfold s_l18Chunk
  simp only [Prod.eta]
  obtain ⟨b, d1, e1, c1, f1⟩ := once_ok' h 25
  rw [e1, Option.bind_some]; dsimp only
  cases b with
  | true =>
    rw [cond_true]
    obtain ⟨t, d3, e3, g3, c3, f3⟩ := text_ok' c1 (n := 9) (by omega) (by omega)
    rw [e3, Option.bind_some]
    exact ⟨_, _, rfl, by omega, c3, by rw [f3, f1]⟩
  | false =>
    rw [cond_false]
    obtain ⟨y4, d4, e4, _, c4, f4⟩ := below_ok' c1 5
    rw [e4, Option.bind_some]; dsimp only
    obtain ⟨b, eb⟩ := u8P_wrap y4
    rw [eb, Option.bind_some, Option.bind_some, s_Short_eq (by rw [strP_size]; simp), Option.bind_some]
    exact ⟨_, _, rfl, by rw [short_size]; omega, c4, by rw [f4, f1]⟩
end Go.Proofs.SL
namespace Go.Proofs.SL
open Go
theorem s_l15At_eq {c : D_Catalog} {n : ByteArray} (h : c.length ≤ 9223372036854775807) : s_l15At c n = some (firstI (fun s : D_CSet => decide (s.1 = n)) c) := by
  unfold s_l15At
  rw [whileP_find (fun s : D_CSet => decide (s.1 = n)) some h]
  · intro k x hx
    simp only [lt_dec (List.getElem?_eq_some_iff.1 hx).1, cond_true, idx_nat, hx, Option.bind_some]
    cases decide (x.1 = n) <;> rfl
  · simp only [ge_dec]; rfl
theorem i_Catalog_set_eq {c : D_Catalog} {n : ByteArray} (h : c.length ≤ 9223372036854775807) : i_Catalog_set c n = some (firstI (fun s : D_CSet => decide (s.1 = n)) c) := by
  unfold i_Catalog_set sl_IndexFunc_implCSetimplCSet i_Catalog_set_c1
  rw [whileP_find (fun s : D_CSet => decide (s.1 = n)) some h]
  · rfl
  · intro k x hx
    simp only [lt_dec (List.getElem?_eq_some_iff.1 hx).1, cond_true, idx_nat, hx, Option.bind_some]
    cases decide (x.1 = n) <;> rfl
  · simp only [ge_dec]; rfl
/-- What is got is short. -/
theorem blobGet_size {d : D_Blobs} {c : ByteArray} (h : (blobGetD d c).2 = 0) : (blobGetD d c).1.size ≤ 40 := by
  unfold blobGetD bFind at *
  split at h
  · rename_i hk
    obtain ⟨_, h2, _⟩ := blobsOk_facts hk
    rw [if_pos hk]
    split at h
    · cases h
    · rename_i x hx
      split at h
      · cases h
      · rename_i hb
        rw [if_neg hb]
        have := h2 x (List.mem_of_find?_eq_some hx)
        unfold okB at this
        simp only [Bool.and_eq_true, Bool.not_eq_true', decide_eq_false_iff_not] at this
        dsimp only
        omega
  · cases h
theorem fetch_size (c : ByteArray) : ∀ (ds : List D_Blobs) (n : Int), n ≠ 0 → (fetchGo c ds n).2 = 0 → (fetchGo c ds n).1.size ≤ 40
  | [], n, hn, h => (hn h).elim
  | d :: ds, n, hn, h => by
    unfold fetchGo at h ⊢
    by_cases h0 : (blobGetD d c).2 = 0
    · rw [if_pos h0]; exact blobGet_size h0
    · rw [if_neg h0] at h ⊢
      exact fetch_size c ds _ (by split <;> omega) h
/-- The chunks of a snapshot, one behind the other. -/
def allGo (st : List D_Blobs) : List ByteArray → ByteArray → ByteArray × Int
  | [], acc => (acc, 0)
  | c :: cs, acc => if (fetchGo c st 2).2 = 0 then allGo st cs (acc ++ (fetchGo c st 2).1) else (ByteArray.empty, (fetchGo c st 2).2)
def allStep (st : List D_Blobs) (t : ByteArray) (x : ByteArray) : ByteArray ⊕ Option (ByteArray × Int) := if (fetchGo x st 2).2 = 0 then .inl (t ++ (fetchGo x st 2).1) else .inr (some (ByteArray.empty, (fetchGo x st 2).2))
theorem all_go (st : List D_Blobs) : ∀ (l : List ByteArray) (t : ByteArray), goE (allStep st) (fun t => some (t, (0 : Int))) l t = some (allGo st l t)
  | [], t => rfl
  | c :: cs, t => by
    by_cases h : (fetchGo c st 2).2 = 0
    · simp only [goE, allGo, allStep, h, if_true]; exact all_go st cs _
    · simp only [goE, allGo, allStep, h, if_false]
theorem all_loop {st : List D_Blobs} {l : List ByteArray} {f : ByteArray × Int → Option ((ByteArray × Int) ⊕ (ByteArray × Int))} (hl : l.length ≤ 1000)
    (hf : ∀ (k : Nat) (t x : ByteArray), l[k]? = some x → f (t, (k : Int)) = cond (!decide ((fetchGo x st 2).2 = 0)) (Option.map .inr (some (ByteArray.empty, (fetchGo x st 2).2))) (Option.bind (catP t (fetchGo x st 2).1) fun y => some (.inl (y, IntKind.wrap .i64 ((k : Int) + 1)))))
    (he : ∀ t, f (t, (l.length : Int)) = Option.map .inr (some (t, (0 : Int)))) : whileP f (ByteArray.empty, 0) = some (allGo st l ByteArray.empty) := by
  rw [whileP_for (l := l) (fun k (t : ByteArray) => (t, (k : Int))) (allStep st) (fun t => some (t, (0 : Int))) (fun k t => t.size ≤ 40 * k) ByteArray.empty (s0 := (ByteArray.empty, 0)) rfl (by simp), all_go]
  · intro k t x hx ht
    have hlt := (List.getElem?_eq_some_iff.1 hx).1
    rw [hf k t x hx]
    by_cases h0 : (fetchGo x st 2).2 = 0
    · have hs := fetch_size x st 2 (by omega) h0
      refine .inl ⟨t ++ (fetchGo x st 2).1, if_pos h0, ?_, by rw [ByteArray.size_append]; omega⟩
      rw [decide_eq_true h0, catP_ok (by omega), wrap_succ (by omega)]; rfl
    · refine .inr ⟨_, if_neg h0, ?_⟩
      rw [decide_eq_false h0]; rfl
  · intro t _
    exact he t
theorem s_l21All_eq {st : List D_Blobs} {l : List ByteArray} (h : st.length ≤ 9223372036854775807) (hs : ∀ d, d ∈ st → d.2.length ≤ 9223372036854775807) (hl : l.length ≤ 1000) : s_l21All st l = some (allGo st l ByteArray.empty) := by
  unfold s_l21All
  refine all_loop hl (fun k t x hx => ?_) (fun t => ?_)
  · simp only [lt_dec (List.getElem?_eq_some_iff.1 hx).1, cond_true, idx_nat, hx, Option.bind_some, s_Fetch_eq h hs]
  · simp only [ge_dec]; rfl
/-- What a snapshot's name yields. -/
def restoreD (c : D_Catalog) (st : List D_Blobs) (a b : ByteArray) : ByteArray × Int := if catOkB c then (match c.find? (fun s => decide (s.1 = a)) with
  | none => (ByteArray.empty, 1)
  | some s => match s.2.find? (fun p => decide (p.1 = b)) with
    | none => (ByteArray.empty, 1)
    | some p => allGo st p.2.2 ByteArray.empty) else (ByteArray.empty, 1)
theorem s_Restore_eq {c : D_Catalog} {st : List D_Blobs} {a b : ByteArray} (ho : Ok.ok c) (h : st.length ≤ 9223372036854775807) (hs : ∀ d, d ∈ st → d.2.length ≤ 9223372036854775807) : s_Restore c st a b = some (restoreD c st a b) := by
  have hc1 : c.length ≤ 9223372036854775807 := ho.1
  have hc2 : ∀ s, s ∈ c → s.2.length ≤ 9223372036854775807 := fun s hs => (ho.2 s hs).2.1
  unfold s_Restore restoreD
  simp only [s_l15At_eq hc1, s_CatOk_eq ho, Option.bind_some]
  cases hk : catOkB c with
  | false => rfl
  | true =>
    obtain ⟨_, hc3⟩ := catOk_facts hk
    rcases firstI_find (fun s : D_CSet => decide (s.1 = a)) c with ⟨h1, h2⟩ | ⟨k, s, h1, h2, h3, _⟩
    · rw [h1, h2]; rfl
    · have hsm := List.mem_of_getElem? h2
      rw [h1, h3, idx_nat, h2, show decide ((k : Int) < 0) = false from decide_eq_false (by omega)]
      simp only [Bool.not_true, Bool.or_false, cond_false, Option.bind_some, Prod.eta, s_l15Find_eq (hc2 s hsm), if_true]
      rcases firstI_find (fun p : D_CSnap => decide (p.1 = b)) s.2 with ⟨g1, g2⟩ | ⟨j, p, g1, g2, g3, _⟩
      · rw [g1, g2]; rfl
      · have hpm := List.mem_of_getElem? g2
        rw [g1, g3, idx_nat, g2, show decide ((j : Int) < 0) = false from decide_eq_false (by omega)]
        have hl := ((hc3 s hsm).2 p hpm).1
        simp only [cond_false, Option.bind_some, s_l21All_eq h hs (show p.2.2.length ≤ 1000 by omega), Prod.eta]
theorem i_Restore_eq {c : D_Catalog} {st : List D_Blobs} {a b : ByteArray} (ho : Ok.ok c) (h : st.length ≤ 9223372036854775807) (hs : ∀ d, d ∈ st → d.2.length ≤ 9223372036854775807) : i_Restore c st a b = some (restoreD c st a b) := by
  have hc1 : c.length ≤ 9223372036854775807 := ho.1
  have hc2 : ∀ s, s ∈ c → s.2.length ≤ 9223372036854775807 := fun s hs => (ho.2 s hs).2.1
  unfold i_Restore restoreD
  simp only [i_Catalog_set_eq hc1, i_CatOk_eq ho, Option.bind_some]
  cases hk : catOkB c with
  | false => simp only [Bool.not_false, Bool.true_or, Bool.not_true, gb_false, cond_true]; rfl
  | true =>
    obtain ⟨_, hc3⟩ := catOk_facts hk
    rcases firstI_find (fun s : D_CSet => decide (s.1 = a)) c with ⟨h1, h2⟩ | ⟨k, s, h1, h2, h3, _⟩
    · rw [h1, h2, show decide ((-1 : Int) < 0) = true from rfl]
      simp only [Bool.or_true, Bool.not_true, gb_false, Bool.true_or, cond_true]; rfl
    · have hsm := List.mem_of_getElem? h2
      rw [h1, h3, idx_nat, h2, show decide ((k : Int) < 0) = false from decide_eq_false (by omega)]
      simp only [Bool.not_true, Bool.or_false, Bool.not_false, gb_true, cond_false, Option.bind_some, Prod.eta, i_CSet_snap_eq (hc2 s hsm), if_true]
      rcases firstI_find (fun p : D_CSnap => decide (p.1 = b)) s.2 with ⟨g1, g2⟩ | ⟨j, p, g1, g2, g3, _⟩
      · rw [g1, g2]; rfl
      · have hpm := List.mem_of_getElem? g2
        rw [g1, g3, idx_nat, g2, show decide ((j : Int) < 0) = false from decide_eq_false (by omega)]
        have hl := ((hc3 s hsm).2 p hpm).1
        simp only [Bool.or_self, cond_false, Option.bind_some]
        refine all_loop (show p.2.2.length ≤ 1000 by omega) (fun k t x hx => ?_) (fun t => ?_)
        · simp only [lt_dec (List.getElem?_eq_some_iff.1 hx).1, cond_true, idx_nat, hx, Option.bind_some, i_Fetch_eq h hs]
        · simp only [ge_dec]; rfl
/-- Whether each snapshot can be restored. -/
def wholeB (c : D_Catalog) (st : List D_Blobs) : Bool := catOkB c && c.all fun s => s.2.all fun p => decide ((allGo st p.2.2 ByteArray.empty).2 = 0)
theorem s_Whole_eq {c : D_Catalog} {st : List D_Blobs} (ho : Ok.ok c) (h : st.length ≤ 9223372036854775807) (hs : ∀ d, d ∈ st → d.2.length ≤ 9223372036854775807) : s_Whole c st = some (wholeB c st) := by
  have hc1 : c.length ≤ 9223372036854775807 := ho.1
  have hc2 : ∀ s, s ∈ c → s.2.length ≤ 9223372036854775807 := fun s hs => (ho.2 s hs).2.1
  unfold s_Whole wholeB
  simp only [s_CatOk_eq ho, Option.bind_some]
  cases hk : catOkB c with
  | false => rfl
  | true =>
    obtain ⟨_, hc3⟩ := catOk_facts hk
    simp only [Bool.not_true, cond_false, Bool.true_and]
    rw [each_loop (l := c) (p := fun s => s.2.all fun p => decide ((allGo st p.2.2 ByteArray.empty).2 = 0)) (no := some false) (yes := some true) hc1]
    · cases c.all fun s => s.2.all fun p => decide ((allGo st p.2.2 ByteArray.empty).2 = 0) <;> rfl
    · intro k s hx
      have hsm := List.mem_of_getElem? hx
      simp only [lt_dec (List.getElem?_eq_some_iff.1 hx).1, cond_true, idx_nat, hx, Option.bind_some]
      rw [each_loop (l := s.2) (p := fun p => decide ((allGo st p.2.2 ByteArray.empty).2 = 0)) (no := some (.inr false)) (yes := some (.inl (IntKind.wrap .i64 ((k : Int) + 1)))) (hc2 s hsm)]
      · rfl
      · intro j p hj
        have hl := ((hc3 s hsm).2 p (List.mem_of_getElem? hj)).1
        simp only [lt_dec (List.getElem?_eq_some_iff.1 hj).1, cond_true, idx_nat, hj, Option.bind_some, s_l21All_eq h hs (show p.2.2.length ≤ 1000 by omega)]
        by_cases h0 : (allGo st p.2.2 ByteArray.empty).2 = 0
        · simp [h0]
        · simp [h0]
      · simp only [ge_dec]; rfl
    · simp only [ge_dec]; rfl
theorem i_Whole_go {c : D_Catalog} {st : List D_Blobs} (ho : Ok.ok c) (h : st.length ≤ 9223372036854775807) (hs : ∀ d, d ∈ st → d.2.length ≤ 9223372036854775807) : i_Whole c st = some ((c.all fun s => s.2.all fun p => decide ((restoreD c st s.1 p.1).2 = 0)) && catOkB c) := by
  have hc1 : c.length ≤ 9223372036854775807 := ho.1
  have hc2 : ∀ s, s ∈ c → s.2.length ≤ 9223372036854775807 := fun s hs => (ho.2 s hs).2.1
  unfold i_Whole
  simp only [i_CatOk_eq ho, Option.bind_some]
  rw [each_loop (l := c) (p := fun s => s.2.all fun p => decide ((restoreD c st s.1 p.1).2 = 0)) (no := some false) (yes := some (catOkB c)) hc1]
  · cases c.all fun s => s.2.all fun p => decide ((restoreD c st s.1 p.1).2 = 0) <;> rfl
  · intro k s hx
    have hsm := List.mem_of_getElem? hx
    simp only [lt_dec (List.getElem?_eq_some_iff.1 hx).1, cond_true, idx_nat, hx, Option.bind_some]
    rw [each_loop (l := s.2) (p := fun p => decide ((restoreD c st s.1 p.1).2 = 0)) (no := some (.inr false)) (yes := some (.inl (IntKind.wrap .i64 ((k : Int) + 1)))) (hc2 s hsm)]
    · rfl
    · intro j p hj
      simp only [lt_dec (List.getElem?_eq_some_iff.1 hj).1, cond_true, idx_nat, hj, Option.bind_some, i_Restore_eq ho h hs]
      by_cases h0 : (restoreD c st s.1 p.1).2 = 0
      · simp [h0]
      · simp [h0]
    · simp only [ge_dec]; rfl
  · simp only [ge_dec]; rfl
/-- In a valid catalog the names find what bears them. -/
theorem catOk_names {c : D_Catalog} (h : catOkB c = true) : ∀ s, s ∈ c → c.find? (fun q => decide (q.1 = s.1)) = some s ∧ ∀ p, p ∈ s.2 → s.2.find? (fun q => decide (q.1 = p.1)) = some p := by
  unfold catOkB at h
  simp only [Bool.and_eq_true, decide_eq_true_eq, List.all_eq_true, List.mem_range] at h
  have hs : c.Pairwise (fun a b : D_CSet => sLt a.1 b.1 = true) := pairwise_of_step (R := fun a b : D_CSet => sLt a.1 b.1 = true) (fun a b c => sLt_trans) c fun k hk => by
    have := h.2 (k + 1) hk
    unfold setAt at this
    rw [List.getElem?_eq_getElem hk] at this
    simp only [Bool.and_eq_true, decide_eq_true_eq, Bool.or_eq_true, Nat.add_sub_cancel, List.getElem?_eq_getElem (show k < c.length by omega), Option.all_some] at this
    rcases this.2 with h2 | h2
    · omega
    · exact h2
  intro s hm
  constructor
  · clear h
    induction c with
    | nil => cases hm
    | cons x xs ih =>
      have hs' := List.pairwise_cons.1 hs
      rcases List.mem_cons.1 hm with rfl | hm
      · simp
      · have := sLt_ne (hs'.1 s hm)
        rw [List.find?_cons_of_neg (by simpa using this)]
        exact ih hs'.2 hm
  · intro p hp
    obtain ⟨k, hk⟩ := List.getElem?_of_mem hm
    have h1 := h.2 k (List.getElem?_eq_some_iff.1 hk).1
    unfold setAt setOkB at h1
    rw [hk] at h1
    simp only [Bool.and_eq_true, decide_eq_true_eq, List.all_eq_true, List.mem_range] at h1
    obtain ⟨j, hj⟩ := List.getElem?_of_mem hp
    have h2 := h1.1.2 j (List.getElem?_eq_some_iff.1 hj).1
    unfold snapAt at h2
    rw [hj] at h2
    simp only [Bool.and_eq_true, decide_eq_true_eq] at h2
    rcases firstI_find (fun q : D_CSnap => decide (q.1 = p.1)) s.2 with ⟨g1, g2⟩ | ⟨i, q, g1, g2, g3, _⟩
    · rw [g1] at h2; omega
    · rw [g1] at h2
      obtain rfl : i = j := by omega
      rw [g3, ← g2, hj]
theorem i_Whole_eq {c : D_Catalog} {st : List D_Blobs} (ho : Ok.ok c) (h : st.length ≤ 9223372036854775807) (hs : ∀ d, d ∈ st → d.2.length ≤ 9223372036854775807) : i_Whole c st = some (wholeB c st) := by
  rw [i_Whole_go ho h hs]
  unfold wholeB
  cases hk : catOkB c with
  | false => simp
  | true =>
    rw [Bool.and_true, Bool.true_and]
    congr 1
    rw [Bool.eq_iff_iff]
    simp only [List.all_eq_true]
    have e : ∀ s, s ∈ c → ∀ p, p ∈ s.2 → restoreD c st s.1 p.1 = allGo st p.2.2 ByteArray.empty := by
      intro s hm p hp
      obtain ⟨e1, e2⟩ := catOk_names hk s hm
      unfold restoreD
      rw [if_pos hk, e1]
      dsimp only
      rw [e2 p hp]
    exact ⟨fun g s hm p hp => by have := g s hm p hp; rwa [e s hm p hp] at this, fun g s hm p hp => by rw [e s hm p hp]; exact g s hm p hp⟩
end Go.Proofs.SL
namespace Go.Proofs.SL
open Go
theorem blobGet_short {d : D_Blobs} {c : ByteArray} (h : (blobGetD d c).2 = 0) : short (blobGetD d c).1 = c := by
  unfold blobGetD bFind at *
  split at h
  · rename_i hk
    obtain ⟨_, h2, _⟩ := blobsOk_facts hk
    rw [if_pos hk]
    split at h
    · cases h
    · rename_i x hx
      split at h
      · cases h
      · rename_i hb
        rw [if_neg hb]
        have h3 := h2 x (List.mem_of_find?_eq_some hx)
        have h4 := List.find?_some hx
        unfold okB at h3
        simp only [Bool.and_eq_true, Bool.or_eq_true, decide_eq_true_eq] at h3 h4
        rcases h3.2 with h5 | h5
        · exact (hb h5).elim
        · dsimp only; rw [← h5, h4]
  · cases h
theorem fetch_short (c : ByteArray) : ∀ (ds : List D_Blobs) (n : Int), n ≠ 0 → (fetchGo c ds n).2 = 0 → short (fetchGo c ds n).1 = c
  | [], n, hn, h => (hn h).elim
  | d :: ds, n, hn, h => by
    unfold fetchGo at h ⊢
    by_cases h0 : (blobGetD d c).2 = 0
    · rw [if_pos h0]; exact blobGet_short h0
    · rw [if_neg h0] at h ⊢
      exact fetch_short c ds _ (by split <;> omega) h
theorem fetch_code (c : ByteArray) : ∀ (ds : List D_Blobs) (n : Int), n = 2 ∨ n = 3 → (fetchGo c ds n).2 = 0 ∨ ((fetchGo c ds n).1 = ByteArray.empty ∧ ((fetchGo c ds n).2 = 2 ∨ (fetchGo c ds n).2 = 3))
  | [], n, hn => .inr ⟨rfl, hn⟩
  | d :: ds, n, hn => by
    unfold fetchGo
    by_cases h0 : (blobGetD d c).2 = 0
    · rw [if_pos h0]; exact .inl rfl
    · rw [if_neg h0]
      exact fetch_code c ds _ (by split <;> omega)
theorem fetch_sz (c : ByteArray) (ds : List D_Blobs) : (fetchGo c ds 2).1.size ≤ 40 := by
  rcases fetch_code c ds 2 (.inl rfl) with h | ⟨h, _⟩
  · exact fetch_size c ds 2 (by decide) h
  · rw [h]; decide
def catAll (st : List D_Blobs) (l : List ByteArray) (t : ByteArray) : ByteArray := l.foldl (fun t x => t ++ (fetchGo x st 2).1) t
theorem catAll_size (st : List D_Blobs) : ∀ (l : List ByteArray) (t : ByteArray), (catAll st l t).size ≤ t.size + 40 * l.length
  | [], t => by simp [catAll]
  | x :: l, t => by
    have h1 := catAll_size st l (t ++ (fetchGo x st 2).1)
    have h2 := fetch_sz x st
    simp only [ByteArray.size_append] at h1
    show (catAll st l (t ++ (fetchGo x st 2).1)).size ≤ _
    simp only [List.length_cons]; omega
theorem allGo_cat (st : List D_Blobs) : ∀ (l : List ByteArray) (t : ByteArray), ((allGo st l t).2 = 0 → (allGo st l t).1 = catAll st l t) ∧ ((allGo st l t).2 ≠ 0 → (allGo st l t).1 = ByteArray.empty)
  | [], t => ⟨fun _ => rfl, fun h => (h rfl).elim⟩
  | x :: l, t => by
    unfold allGo
    by_cases h : (fetchGo x st 2).2 = 0
    · rw [if_pos h]; exact allGo_cat st l _
    · rw [if_neg h]; exact ⟨fun h2 => (h h2).elim, fun _ => rfl⟩
theorem restore_none {c : D_Catalog} {st : List D_Blobs} {a b : ByteArray} (h : (restoreD c st a b).2 ≠ 0) : (restoreD c st a b).1 = ByteArray.empty := by
  unfold restoreD at *
  split
  · rename_i hk
    rw [if_pos hk] at h
    split
    · rfl
    · rename_i s hs
      rw [hs] at h
      dsimp only at h ⊢
      split
      · rfl
      · rename_i p hp
        rw [hp] at h
        exact (allGo_cat st p.2.2 _).2 h
  · rfl
/-! Names are met once -/
theorem fold_find {α τ : Type} (nm : α → ByteArray) (a : ByteArray) (step : τ → α → τ) (hs : ∀ t x, nm x ≠ a → step t x = t) : ∀ (l : List α) (t : τ), l.Pairwise (fun x y => nm x ≠ nm y) → l.foldl step t = match l.find? (fun x => decide (nm x = a)) with
    | none => t
    | some x => step t x
  | [], t, _ => rfl
  | x :: l, t, hp => by
    obtain ⟨h1, h2⟩ := List.pairwise_cons.1 hp
    rw [List.foldl_cons]
    by_cases hx : nm x = a
    · rw [List.find?_cons_of_pos (by simpa using hx)]
      dsimp only
      have : ∀ (l : List α) (t : τ), (∀ y, y ∈ l → nm y ≠ a) → l.foldl step t = t := fun l => by
        induction l with
        | nil => intro t _; rfl
        | cons y l ih => intro t h; rw [List.foldl_cons, hs t y (h y (List.mem_cons_self ..)), ih t fun z hz => h z (List.mem_cons_of_mem _ hz)]
      exact this l _ fun y hy e => h1 y hy (by rw [hx, e])
    · rw [List.find?_cons_of_neg (by simpa using hx), hs t x hx]
      exact fold_find nm a step hs l t h2
theorem catOk_pw {c : D_Catalog} (h : catOkB c = true) : c.Pairwise (fun a b : D_CSet => a.1 ≠ b.1) ∧ ∀ s, s ∈ c → s.2.Pairwise (fun a b : D_CSnap => a.1 ≠ b.1) := by
  unfold catOkB at h
  simp only [Bool.and_eq_true, decide_eq_true_eq, List.all_eq_true, List.mem_range] at h
  constructor
  · have hs : c.Pairwise (fun a b : D_CSet => sLt a.1 b.1 = true) := pairwise_of_step (R := fun a b : D_CSet => sLt a.1 b.1 = true) (fun a b c => sLt_trans) c fun k hk => by
      have := h.2 (k + 1) hk
      unfold setAt at this
      rw [List.getElem?_eq_getElem hk] at this
      simp only [Bool.and_eq_true, decide_eq_true_eq, Bool.or_eq_true, Nat.add_sub_cancel, List.getElem?_eq_getElem (show k < c.length by omega), Option.all_some] at this
      rcases this.2 with h2 | h2
      · omega
      · exact h2
    exact hs.imp fun h => sLt_ne h
  · intro s hm
    obtain ⟨k, hk⟩ := List.getElem?_of_mem hm
    have h1 := h.2 k (List.getElem?_eq_some_iff.1 hk).1
    unfold setAt setOkB at h1
    rw [hk] at h1
    simp only [Bool.and_eq_true, decide_eq_true_eq, List.all_eq_true, List.mem_range] at h1
    have h2 : ∀ (j : Nat) (p : D_CSnap), s.2[j]? = some p → firstI (fun q : D_CSnap => decide (q.1 = p.1)) s.2 = (j : Int) := fun j p hj => by
      have h2 := h1.1.2 j (List.getElem?_eq_some_iff.1 hj).1
      unfold snapAt at h2
      rw [hj] at h2
      simp only [Bool.and_eq_true, decide_eq_true_eq] at h2
      exact h2.2
    rw [List.pairwise_iff_getElem]
    intro i j hi hj hij e
    have e1 := h2 i _ (List.getElem?_eq_getElem hi)
    have e2 := h2 j _ (List.getElem?_eq_getElem hj)
    rw [e, e2] at e1
    omega
def snapStep (st : List D_Blobs) (a b : ByteArray) (s : D_CSet) (t : ByteArray) (p : D_CSnap) : ByteArray := if decide (s.1 = a) && decide (p.1 = b) then catAll st p.2.2 t else t
def setStep (st : List D_Blobs) (a b : ByteArray) (t : ByteArray) (s : D_CSet) : ByteArray := s.2.foldl (snapStep st a b s) t
theorem law_text {c : D_Catalog} {st : List D_Blobs} {a b : ByteArray} (h : (restoreD c st a b).2 = 0) : c.foldl (setStep st a b) ByteArray.empty = (restoreD c st a b).1 ∧ catOkB c = true := by
  unfold restoreD at *
  split at h
  · rename_i hk
    obtain ⟨p1, p2⟩ := catOk_pw hk
    rw [if_pos hk]
    refine ⟨?_, hk⟩
    rw [fold_find (fun s : D_CSet => s.1) a (setStep st a b) (fun t s hs => by
      unfold setStep
      have : ∀ (l : List D_CSnap) (t : ByteArray), l.foldl (snapStep st a b s) t = t := fun l => by
        induction l with
        | nil => intro t; rfl
        | cons p l ih => intro t; rw [List.foldl_cons, show snapStep st a b s t p = t by unfold snapStep; rw [decide_eq_false hs]; rfl, ih]
      exact this _ t) c _ p1]
    split at h
    · cases h
    · rename_i s hs
      rw [hs]
      dsimp only
      have hsa : s.1 = a := by simpa using List.find?_some hs
      unfold setStep
      rw [fold_find (fun p : D_CSnap => p.1) b (snapStep st a b s) (fun t p hp => by unfold snapStep; rw [decide_eq_false hp, Bool.and_false]; rfl) s.2 _ (p2 s (List.mem_of_find?_eq_some hs))]
      split at h
      · cases h
      · rename_i p hp
        rw [hp]
        dsimp only
        have hpb : p.1 = b := by simpa using List.find?_some hp
        unfold snapStep
        rw [decide_eq_true hsa, decide_eq_true hpb]
        exact ((allGo_cat st p.2.2 _).1 h).symm
  · cases h
theorem setStep_size {c : D_Catalog} (hb : CBnd c) {st : List D_Blobs} {a b : ByteArray} {s : D_CSet} (hs : s ∈ c) (t : ByteArray) : (setStep st a b t s).size ≤ t.size + 1000 := by
  have hl := hb.snaps s hs
  have h4 := fun p hp => (hb.snap s hs p hp).2.2.1
  unfold setStep
  have : ∀ (l : List D_CSnap) (t : ByteArray), (∀ p, p ∈ l → p.2.2.length ≤ 4) → (l.foldl (snapStep st a b s) t).size ≤ t.size + 160 * l.length := fun l => by
    induction l with
    | nil => intro t _; simp
    | cons p l ih =>
      intro t h
      have h1 := ih (snapStep st a b s t p) fun q hq => h q (List.mem_cons_of_mem _ hq)
      have h2 : (snapStep st a b s t p).size ≤ t.size + 160 := by
        unfold snapStep
        split
        · have := catAll_size st p.2.2 t
          have := h p (List.mem_cons_self ..)
          omega
        · omega
      rw [List.foldl_cons]
      simp only [List.length_cons]; omega
  have := this s.2 t h4
  omega
theorem drawRestore_ok {l : List UInt8} (h : l.length ≤ 1048576) : ∃ c st a b, s_DrawRestore l = some (c, st, a, b) ∧ Ok.ok c ∧ st.length ≤ 3 ∧ (∀ d, d ∈ st → d.2.length ≤ 13) := by
  unfold s_DrawRestore
  simp only [Prod.eta]
  obtain ⟨d, e, c0⟩ := new_ok h
  rw [e, Option.bind_some]
  obtain ⟨c, d2, e2, ⟨h2, l2⟩, c2, _⟩ := some15_ok c0
  rw [e2, Option.bind_some]; dsimp only
  obtain ⟨st, d3, e3, h3, c3, _⟩ := stores_ok c2
  rw [e3, Option.bind_some, Option.bind_some]; dsimp only
  obtain ⟨x, d6, e6, _, c6, _⟩ := pick_ok' c3 (l := [(ByteArray.mk #[97]), (ByteArray.mk #[98]), (ByteArray.mk #[97, 98]), (ByteArray.mk #[113])]) (by decide)
  rw [e6, Option.bind_some, Option.bind_some]; dsimp only
  obtain ⟨y, d9, e9, _, c9, _⟩ := pick_ok' c6 (l := [(ByteArray.mk #[120]), (ByteArray.mk #[121]), (ByteArray.mk #[122])]) (by decide)
  rw [e9, Option.bind_some]; dsimp only
  obtain ⟨b, d10, e10, c10, _⟩ := gm_once c9 (decide (0 < (c.length : Int))) 2
  rw [e10, Option.bind_some]; dsimp only
  by_cases hc : 0 < c.length
  · rw [decide_eq_true (show (0 : Int) < (c.length : Int) by omega), Bool.true_and]
    cases b with
    | false => exact ⟨_, _, _, _, rfl, h2, h3.1, h3.2⟩
    | true =>
      rw [cond_true]
      obtain ⟨z, d12, e12, g12, c12, _⟩ := below_ok' c10 (c.length : Int)
      have hz := g12.2.1 (by omega)
      obtain ⟨k, rfl⟩ := Int.eq_ofNat_of_zero_le g12.1
      rw [e12, Option.bind_some]; dsimp only
      have hk : k < c.length := by omega
      rw [idx_nat, List.getElem?_eq_getElem hk, Option.bind_some]
      generalize c[k] = s
      by_cases hs : 0 < s.2.length
      · rw [decide_eq_true (show (0 : Int) < (s.2.length : Int) by omega), cond_true]
        obtain ⟨z, d15, e15, g15, c15, _⟩ := below_ok' c12 (s.2.length : Int)
        have hz := g15.2.1 (by omega)
        obtain ⟨j, rfl⟩ := Int.eq_ofNat_of_zero_le g15.1
        rw [e15, Option.bind_some]; dsimp only
        have hj : j < s.2.length := by omega
        rw [idx_nat, List.getElem?_eq_getElem hj, Option.bind_some]
        exact ⟨_, _, _, _, rfl, h2, h3.1, h3.2⟩
      · rw [decide_eq_false (show ¬ (0 : Int) < (s.2.length : Int) by omega)]
        exact ⟨_, _, _, _, rfl, h2, h3.1, h3.2⟩
  · rw [decide_eq_false (show ¬ (0 : Int) < (c.length : Int) by omega)]
    exact ⟨_, _, _, _, rfl, h2, h3.1, h3.2⟩
theorem drawFetch_ok {l : List UInt8} (h : l.length ≤ 1048576) : ∃ st x, s_DrawFetch l = some (st, x) ∧ st.length ≤ 3 ∧ (∀ d, d ∈ st → d.2.length ≤ 13) := by
  unfold s_DrawFetch
  simp only [Prod.eta]
  obtain ⟨d, e, c0⟩ := new_ok h
  rw [e, Option.bind_some]
  obtain ⟨st, d3, e3, h3, c3, _⟩ := stores_ok c0
  rw [e3, Option.bind_some]; dsimp only
  obtain ⟨x, d4, e4, _⟩ := chunk_ok c3
  rw [e4, Option.bind_some]
  exact ⟨_, _, rfl, h3.1, h3.2⟩
theorem drawWhole_ok {l : List UInt8} (h : l.length ≤ 1048576) : ∃ c st, s_DrawWhole l = some (c, st) ∧ Ok.ok c ∧ st.length ≤ 3 ∧ (∀ d, d ∈ st → d.2.length ≤ 13) := by
  unfold s_DrawWhole
  simp only [Prod.eta]
  obtain ⟨d, e, c0⟩ := new_ok h
  rw [e, Option.bind_some]
  obtain ⟨c, d2, e2, ⟨h2, l2⟩, c2, _⟩ := some15_ok c0
  rw [e2, Option.bind_some]; dsimp only
  obtain ⟨st, d3, e3, h3, c3, _⟩ := stores_ok c2
  rw [e3, Option.bind_some]
  exact ⟨_, _, rfl, h2, h3.1, h3.2⟩
theorem fnRestore_true (l : List UInt8) : w_FnRestore l = some true := by
  unfold w_FnRestore w_big
  rw [Option.bind_some]
  by_cases hl : 1048576 < (l.length : Int)
  · rw [decide_eq_true hl, cond_true]
  have hl' : l.length ≤ 1048576 := by omega
  rw [decide_eq_false hl, cond_false]
  obtain ⟨c, st, a, b, e3, hc, hs1, hs2⟩ := drawRestore_ok hl'
  rw [e3, Option.bind_some]; dsimp only
  have hst : ∀ d, d ∈ st → d.2.length ≤ 9223372036854775807 := fun d hd => by have := hs2 d hd; omega
  rw [i_Restore_eq hc (by omega) hst, Option.bind_some, s_Restore_eq hc (by omega) hst, Option.bind_some, decide_eq_true rfl, decide_eq_true rfl, Bool.not_true, Bool.or_false, Bool.false_or]
  have h0 : (!decide ((restoreD c st a b).2 = 0) && !decide ((restoreD c st a b).1 = ByteArray.empty)) = false := by
    by_cases h : (restoreD c st a b).2 = 0
    · rw [decide_eq_true h]; rfl
    · rw [decide_eq_true (restore_none h)]; simp
  rw [h0, cond_false]
  obtain ⟨st2, x, e7, ht1, ht2⟩ := drawFetch_ok hl'
  rw [e7, Option.bind_some]; dsimp only
  rw [i_Fetch_eq (by omega) (fun d hd => by have := ht2 d hd; omega), Option.bind_some]
  obtain ⟨c2, st3, e34, hc2, hu1, hu2⟩ := drawWhole_ok hl'
  have hst3 : ∀ d, d ∈ st3 → d.2.length ≤ 9223372036854775807 := fun d hd => by have := hu2 d hd; omega
  have hfc := fetch_code x st2 2 (.inl rfl)
  have hfin : Option.bind (s_DrawWhole l) (fun y34 => Option.bind (i_Whole y34.1 y34.2) (fun y35 => Option.bind (s_Whole y34.1 y34.2) (fun y36 => some ((((y35 == y36) && (decide (0 ≤ (fetchGo x st2 2).2))) && (decide ((fetchGo x st2 2).2 ≤ 3))) && (!decide ((fetchGo x st2 2).2 = 1)))))) = some true := by
    rw [e34, Option.bind_some, i_Whole_eq hc2 (by omega) hst3, Option.bind_some, s_Whole_eq hc2 (by omega) hst3, Option.bind_some]
    have h3 : 0 ≤ (fetchGo x st2 2).2 ∧ (fetchGo x st2 2).2 ≤ 3 ∧ (fetchGo x st2 2).2 ≠ 1 := by
      rcases hfc with h | ⟨_, h | h⟩ <;> rw [h] <;> decide
    rw [decide_eq_true h3.1, decide_eq_true h3.2.1, decide_eq_false h3.2.2]
    simp
  have hsz := fetch_sz x st2
  have hfs : (fetchGo x st2 2).2 = 0 → short (fetchGo x st2 2).1 = x := fetch_short x st2 2 (by decide)
  rw [s_Short_eq (by omega), gbs]
  have hcond : ∀ (u : ByteArray) (A B : Option Bool), (decide ((fetchGo x st2 2).2 = 0) = true → u = x) → cond (decide ((fetchGo x st2 2).2 = 0) && !decide (u = x)) A B = B := fun u A B h => by
    cases hd : decide ((fetchGo x st2 2).2 = 0) with
    | false => rfl
    | true => rw [decide_eq_true (h hd)]; rfl
  have hred : ∀ A B : Option Bool, (if decide ((fetchGo x st2 2).2 = 0) = true then cond (decide ((fetchGo x st2 2).2 = 0) && !decide (short (fetchGo x st2 2).1 = x)) A B else cond (decide ((fetchGo x st2 2).2 = 0) && !decide ((default : ByteArray) = x)) A B) = B := fun A B => by
    split
    · exact hcond _ _ _ fun h => hfs (of_decide_eq_true h)
    · rename_i h; exact hcond _ _ _ fun h2 => (h h2).elim
  rw [hred]
  by_cases hr : (restoreD c st a b).2 = 0
  · rw [decide_eq_true hr, cond_true]
    obtain ⟨hfold, hk⟩ := law_text hr
    obtain ⟨hb, _, _⟩ := catOk_bnd hk
    have hcl := hb.len
    rw [loop_pass (l := c) (fun k (t : ByteArray) => (t, (k : Int))) (setStep st a b) (fun t => cond (!decide (t = (restoreD c st a b).1)) (some false) (some true)) (fun k t => t.size ≤ 1000 * k) ByteArray.empty (s0 := (ByteArray.empty, 0)) rfl (Nat.le_refl _)]
    · rw [hfold, decide_eq_true rfl]; rfl
    · intro k t s hs ht
      have hkl := (List.getElem?_eq_some_iff.1 hs).1
      have hmem := List.mem_of_getElem? hs
      have hsl := hb.snaps s hmem
      refine ⟨?_, by have := setStep_size hb (st := st) (a := a) (b := b) hmem t; omega⟩
      dsimp only
      simp only [lt_dec hkl, cond_true, idx_nat, hs, Option.bind_some, wrap_succ (show k < 9223372036854775807 by omega)]
      rw [loop_pass (l := s.2) (fun j (t : ByteArray) => (t, (j : Int))) (snapStep st a b s) (fun t => some (.inl (t, ((k + 1 : Nat) : Int)))) (fun j u => u.size ≤ t.size + 160 * j) t (s0 := (t, 0)) rfl (by omega)]
      · rfl
      · intro j u p hp hu
        have hj := (List.getElem?_eq_some_iff.1 hp).1
        obtain ⟨_, _, h4, _⟩ := hb.snap s hmem p (List.mem_of_getElem? hp)
        refine ⟨?_, ?_⟩
        · dsimp only
          simp only [lt_dec hj, cond_true, wrap_succ (show j < 9223372036854775807 by omega)]
          unfold snapStep
          cases hA : decide (s.1 = a) with
          | false => simp only [gb_false, Bool.false_and, cond_false]; rfl
          | true =>
            simp only [gb_true, Option.bind_some, idx_nat, hp, Bool.true_and]
            cases hB : decide (p.1 = b) with
            | false => rfl
            | true =>
              simp only [cond_true, if_true]
              rw [loop_pass (l := p.2.2) (fun q (t : ByteArray) => (t, (q : Int))) (fun t x => t ++ (fetchGo x st 2).1) (fun t => some (.inl (t, ((j + 1 : Nat) : Int)))) (fun q v => v.size ≤ u.size + 40 * q) u (s0 := (u, 0)) rfl (by omega)]
              · rfl
              · intro q v y hy hv
                have hq := (List.getElem?_eq_some_iff.1 hy).1
                have hfy := fetch_sz y st
                dsimp only
                simp only [lt_dec hq, cond_true, idx_nat, hy, Option.bind_some, wrap_succ (show q < 9223372036854775807 by omega)]
                rw [i_Fetch_eq (by omega) hst, Option.bind_some, catP_ok (by omega), Option.bind_some]
                exact ⟨rfl, by rw [ByteArray.size_append]; omega⟩
              · intro v hv
                simp only [ge_dec, cond_false]
        · unfold snapStep
          split
          · have := catAll_size st p.2.2 u; omega
          · omega
      · intro u hu
        simp only [ge_dec, cond_false]
    · intro t ht
      simp only [ge_dec, cond_false]
      rw [hfin]
  · rw [decide_eq_false hr, cond_false]
    exact hfin
end Go.Proofs.SL
namespace Go.Proofs.SL
open Go
theorem lawFnRestore (w : World) (t1 : TL UInt8) (h1 : GT.rd w [] t1) (ho1 : Ok.ok (GT.dat t1)) (hg0 : GT.rd w [] gV0) : Spec Tryd.prog 11 [t1.hdr].toArray w [] (IsV (.bool true)) := w_FnRestore_walk w t1 h1 hg0 true (fnRestore_true _)
end Go.Proofs.SL
namespace Go.Proofs.SL
open Go Go.RowKit
section
variable {H : Type} {enc : TypeId × Value → H} {P : Program} {w : World} {base : Nat} {spare : Nat → Bool} {held : Bool} {fuel : Nat} {t : TypeId} {cs : List Value}
theorem ar_of_trod {n : Nat} {e : TypeId} {k : IntKind} {A : List Int} {p : List MemPlace} (ht : P.underlying t = some (.array n e)) (he : P.underlying e = some (.int k)) (hc : P.cellsOf e = 1) (hct : P.cellsOf t = n)
    (h : DataW.trod enc P w base spare held fuel t cs = some (.agg (A.map fun a => .lit (.int k a)), p)) : cs = aC k A := by
  obtain ⟨xs, m, rfl, hx, hlen, hn, hel⟩ := DataW.trod_array ht h
  simp only [Prod.mk.injEq, DataW.agg.injEq] at hx
  have hA : A.length = n := by
    have := congrArg List.length hx.1
    simp at this; omega
  apply List.ext_getElem?
  intro i
  by_cases hi : i < n
  · have h1 := hel i hi
    rw [hc, Nat.mul_one] at h1
    have hxi : xs[i]? = some (xs[i]'(by omega)) := List.getElem?_eq_getElem (by omega)
    generalize xs[i]'(by omega) = x at hxi
    rw [hxi] at h1
    obtain ⟨k', e1, e2, _⟩ := DataW.trod_int he h1
    have h2 : cs[i]? = some (.int k k') := by
      have := congrArg (fun q => q[0]?) e1
      simpa [List.getElem?_take, List.getElem?_drop] using this
    have h3 : (A.map fun a => (DataW.lit (.int k a) : DataW H))[i]? = some (.lit (.int k k')) := by
      rw [hx.1, List.getElem?_map, hxi, e2]; rfl
    rw [List.getElem?_map] at h3
    have hAi : A[i]? = some (A[i]'(by omega)) := List.getElem?_eq_getElem (by omega)
    generalize A[i]'(by omega) = a at hAi
    rw [hAi] at h3
    simp only [Option.map_some, Option.some.injEq, DataW.lit.injEq, Lit.int.injEq, true_and] at h3
    rw [h2, aC_at hAi, h3]
  · rw [List.getElem?_eq_none (by omega), List.getElem?_eq_none (by rw [aC_len]; omega)]
theorem gv_of_laid {n g t : Nat} {e : TypeId} {k : IntKind} {A : List Int} {name : String} {d : DataW Unit} (hg : P.globalNamed name = some g) (ht0 : (P.globals[g]?).map (·.type) = some t)
    (ht : P.underlying t = some (.array n e)) (he : P.underlying e = some (.int k)) (hc : P.cellsOf e = 1) (hct : P.cellsOf t = n) (hd : d = .agg (A.map fun a => .lit (.int k a)))
    (hp : ([(name, d)].all fun x => x.2.handleName?.isNone) = true) (h : laidMetH P [(name, d)] w) : GT.rd w [] (GA.mk (g := g) (k := k) (A := A)) := by
  subst hd
  rw [MakeChecks.laidMetH_plain _ _ _ hp] at h
  obtain ⟨ps, ⟨g0, t0, cs0, f0, p0, q0, hg0, ht1, hv0, hd0, _⟩, _⟩ := h
  obtain rfl := Option.some.inj (hg.symm.trans hg0)
  obtain rfl := Option.some.inj (ht0.symm.trans ht1)
  have hcs := ar_of_trod ht he hc hct hd0
  intro j v hj
  refine ⟨?_, by simp⟩
  rw [World.var?_cell hg0 hv0 j, ← hj, ← hcs, Array.getElem?_toList]
end
end Go.Proofs.SL
namespace Go.Proofs.SL
open Go
def laidL : List (String × DataW Unit) := [("loop.example/g00954/impl.shaWords", YtndhmnoehapdhaaDoor.Rows.laid_loop_example_g00954_impl_shaWords)]
theorem gnam : Tryd.prog.globalNamed "loop.example/g00954/impl.shaWords" = some 0 := by kernel_rfl
theorem gtyp : (Tryd.prog.globals[0]?).map (·.type) = some 178 := by kernel_rfl
theorem gundA : Tryd.prog.underlying 178 = some (.array 64 153) := by kernel_rfl
theorem gundE : Tryd.prog.underlying 153 = some (.int .u32) := by kernel_rfl
theorem gcelE : Tryd.prog.cellsOf 153 = 1 := by kernel_rfl
theorem gcelA : Tryd.prog.cellsOf 178 = 64 := by kernel_rfl
theorem gdat : (YtndhmnoehapdhaaDoor.Rows.laid_loop_example_g00954_impl_shaWords : DataW Unit) = .agg (gA0.map fun a => .lit (.int .u32 a)) := by kernel_rfl
theorem gplain : (laidL.all fun x => x.2.handleName?.isNone) = true := by kernel_rfl
theorem gread {W : World} (h : laidMetH Tryd.prog laidL W) : GT.rd W [] gV0 := gv_of_laid gnam gtyp gundA gundE gcelE gcelA gdat gplain h
theorem gfits : ∀ os, (World.holding Tryd.prog os ⟨#[], #[], []⟩).layFits Tryd.prog laidL [] = true := fun os => by kernel_rfl
theorem gifac : ∀ os, (World.holding Tryd.prog os ⟨#[], #[], []⟩).layIfaces Tryd.prog laidL (World.laidAll Tryd.prog os laidL) = true := fun os => by kernel_rfl
theorem gmet (os : Os) (args : Array Value) : laidMetH Tryd.prog laidL ((World.laidAll Tryd.prog os laidL).forCall (fun _ _ => 0) ⟨#[], args, []⟩).memory := by
  rw [MakeChecks.laidMetH_plain _ _ _ gplain]; exact laidMet_laidAll _ (gfits os) (gifac os)
end Go.Proofs.SL
