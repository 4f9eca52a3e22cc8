/- A block of the sum: the reference. -/
import Derived.Test.YtndhmnoehapdhaaDoorPH3
import Derived.Test.YtndhmnoehapdhaaDoorWSb
namespace Go.Proofs.SL
open Go

noncomputable def s_lb1 {α : Type} (a1 : ByteArray) (s3 : (List Int) × Int) (kk : Option α) : Option (((List Int) × Int) ⊕ α) :=
  cond (decide (s3.2 < 16)) (Option.bind (sidx a1 (IntKind.wrap .i64 (4 * s3.2))) (fun y5 => Option.bind (sidx a1 (IntKind.wrap .i64 (IntKind.wrap .i64 (4 * s3.2) + 1))) (fun y6 => Option.bind (sidx a1 (IntKind.wrap .i64 (IntKind.wrap .i64 (4 * s3.2) + 2))) (fun y7 => Option.bind (sidx a1 (IntKind.wrap .i64 (IntKind.wrap .i64 (4 * s3.2) + 3))) (fun y8 => Option.bind (idx s3.1 s3.2) (fun y9 => Option.bind (some (s3.1.set (s3.2.toNat) (bits .or .i64 (bits .or .i64 (bits .or .i64 (IntKind.wrap .i64 (IntKind.wrap .i64 y5 * 2 ^ (24 : Int).toNat)) (IntKind.wrap .i64 (IntKind.wrap .i64 y6 * 2 ^ (16 : Int).toNat))) (IntKind.wrap .i64 (IntKind.wrap .i64 y7 * 2 ^ (8 : Int).toNat))) (IntKind.wrap .i64 y8)))) (fun y10 => some (.inl ((y10, IntKind.wrap .i64 (s3.2 + 1))))))))))) (Option.map .inr kk)

noncomputable def s_lb2 {α : Type}  (s13 : (List Int) × Int) (kk : Option α) : Option (((List Int) × Int) ⊕ α) :=
  cond (decide (s13.2 < 64)) (Option.bind (idx s13.1 (IntKind.wrap .i64 (s13.2 - 15))) (fun y15 => Option.bind (s_l3Right y15 7) (fun y16 => Option.bind (idx s13.1 (IntKind.wrap .i64 (s13.2 - 15))) (fun y17 => Option.bind (s_l3Right y17 18) (fun y18 => Option.bind (idx s13.1 (IntKind.wrap .i64 (s13.2 - 15))) (fun y19 => Option.bind (idx s13.1 (IntKind.wrap .i64 (s13.2 - 2))) (fun y20 => Option.bind (s_l3Right y20 17) (fun y21 => Option.bind (idx s13.1 (IntKind.wrap .i64 (s13.2 - 2))) (fun y22 => Option.bind (s_l3Right y22 19) (fun y23 => Option.bind (idx s13.1 (IntKind.wrap .i64 (s13.2 - 2))) (fun y24 => Option.bind (idx s13.1 (IntKind.wrap .i64 (s13.2 - 16))) (fun y25 => Option.bind (idx s13.1 (IntKind.wrap .i64 (s13.2 - 7))) (fun y26 => Option.bind (s_l3Word (IntKind.wrap .i64 (IntKind.wrap .i64 (IntKind.wrap .i64 (y25 + bits .xor .i64 (bits .xor .i64 y16 y18) (y19 / 2 ^ (3 : Int).toNat)) + y26) + bits .xor .i64 (bits .xor .i64 y21 y23) (y24 / 2 ^ (10 : Int).toNat)))) (fun y27 => Option.bind (idx s13.1 s13.2) (fun y28 => Option.bind (some (s13.1.set (s13.2.toNat) y27)) (fun y29 => some (.inl ((y29, IntKind.wrap .i64 (s13.2 + 1)))))))))))))))))))) (Option.map .inr kk)

noncomputable def s_lb3 {α : Type} (a2 : List Int) (s13 : (List Int) × Int) (s36 : (List Int) × Int) (kk : Option α) : Option (((List Int) × Int) ⊕ α) :=
  cond (decide (s36.2 < 64)) (Option.bind (idx s36.1 4) (fun y38 => Option.bind (idx s36.1 0) (fun y39 => Option.bind (idx s36.1 7) (fun y40 => Option.bind (s_l3Right y38 6) (fun y41 => Option.bind (s_l3Right y38 11) (fun y42 => Option.bind (s_l3Right y38 25) (fun y43 => Option.bind (idx s36.1 5) (fun y44 => Option.bind (s_l3Word (bits .xor .i64 (if IntKind.signed .i64 then -1 else IntKind.max .i64) y38)) (fun y45 => Option.bind (idx s36.1 6) (fun y46 => Option.bind (idx a2 s36.2) (fun y47 => Option.bind (idx s13.1 s36.2) (fun y48 => Option.bind (s_l3Right y39 2) (fun y49 => Option.bind (s_l3Right y39 13) (fun y50 => Option.bind (s_l3Right y39 22) (fun y51 => Option.bind (idx s36.1 1) (fun y52 => Option.bind (idx s36.1 2) (fun y53 => Option.bind (idx s36.1 1) (fun y54 => Option.bind (idx s36.1 2) (fun y55 => Option.bind (s_l3Word (IntKind.wrap .i64 (IntKind.wrap .i64 (IntKind.wrap .i64 (IntKind.wrap .i64 (IntKind.wrap .i64 (y40 + bits .xor .i64 (bits .xor .i64 y41 y42) y43) + bits .xor .i64 (bits .and .i64 y38 y44) (bits .and .i64 y45 y46)) + y47) + y48) + IntKind.wrap .i64 (bits .xor .i64 (bits .xor .i64 y49 y50) y51 + bits .xor .i64 (bits .xor .i64 (bits .and .i64 y39 y52) (bits .and .i64 y39 y53)) (bits .and .i64 y54 y55))))) (fun y56 => Option.bind (idx s36.1 0) (fun y57 => Option.bind (idx s36.1 1) (fun y58 => Option.bind (idx s36.1 2) (fun y59 => Option.bind (idx s36.1 3) (fun y60 => Option.bind (s_l3Word (IntKind.wrap .i64 (y60 + IntKind.wrap .i64 (IntKind.wrap .i64 (IntKind.wrap .i64 (IntKind.wrap .i64 (y40 + bits .xor .i64 (bits .xor .i64 y41 y42) y43) + bits .xor .i64 (bits .and .i64 y38 y44) (bits .and .i64 y45 y46)) + y47) + y48)))) (fun y61 => Option.bind (idx s36.1 4) (fun y62 => Option.bind (idx s36.1 5) (fun y63 => Option.bind (idx s36.1 6) (fun y64 => Option.bind (some ([y56, y57, y58, y59, y61, y62, y63, y64] : List Int)) (fun y65 => some (.inl ((y65, IntKind.wrap .i64 (s36.2 + 1))))))))))))))))))))))))))))))))) (Option.map .inr kk)

noncomputable def s_lb4 {α : Type} (a0 : List Int) (s36 : (List Int) × Int) (s70 : (List Int) × Int) (kk : Option α) : Option (((List Int) × Int) ⊕ α) :=
  cond (decide (s70.2 < 8)) (Option.bind (idx a0 s70.2) (fun y72 => Option.bind (idx s36.1 s70.2) (fun y73 => Option.bind (s_l3Word (IntKind.wrap .i64 (y72 + y73))) (fun y74 => Option.bind (appP s70.1 [y74]) (fun y76 => some (.inl ((y76, IntKind.wrap .i64 (s70.2 + 1))))))))) (Option.map .inr kk)

theorem s_l3Block_open (a0 : List Int) (a1 : ByteArray) (a2 : List Int) : s_l3Block a0 a1 a2 =
  Option.bind (mkP 8 64 (0 : Int)) (fun y1 => whileP (fun s3 : (List Int) × Int => s_lb1 a1 s3 (whileP (fun s13 : (List Int) × Int => s_lb2  s13 (Option.bind (some ([] : List Int)) (fun y33 => Option.bind (appP y33 a0) (fun y35 => whileP (fun s36 : (List Int) × Int => s_lb3 a2 s13 s36 (Option.bind (some ([] : List Int)) (fun y69 => whileP (fun s70 : (List Int) × Int => s_lb4 a0 s36 s70 (some s70.1)) (y69, 0)))) (y35, 0))))) (s3.1, 16))) (y1, 0)) := rfl


theorem l3Word_eq (n : Int) : s_l3Word n = some (iv (t32 n)) := by
  unfold s_l3Word
  show some (IntKind.wrap .i64 (((BitVec.ofInt 64 n) &&& (BitVec.ofInt 64 4294967295)).toNat : Int)) = _
  have h : ((BitVec.ofInt 64 n) &&& (BitVec.ofInt 64 4294967295)).toNat = (t32 n).toNat := by
    rw [← t32_64, BitVec.toNat_setWidth, BitVec.toNat_and, show (BitVec.ofInt 64 4294967295).toNat = 2 ^ 32 - 1 by decide, Nat.and_two_pow_sub_one_eq_mod]
  rw [h]
  exact congrArg some (wrap64_iv (t32 n))
theorem l3Right_eq (a : Wd) (n : Nat) (h0 : 0 < n) (hn : n < 32) {c : Int} (hc : c = (n : Int)) : s_l3Right (iv a) c = some (iv (ror a n)) := by
  subst hc
  unfold s_l3Right
  refine bnd (a := iv (a >>> n)) ?_ (bnd (a := IntKind.wrap .i64 (iv a * 2 ^ (32 - n))) ?_ (bnd (l3Word_eq _) ?_))
  · unfold shrP
    rw [if_pos ⟨by omega, by show (n : Int) ≤ 64; omega⟩, show (n : Int).toNat = n by omega, shr_iv]
  · unfold shlP
    rw [IntKind.wrap_u64, show (32 - (n : Int)) % 18446744073709551616 = ((32 - n : Nat) : Int) by omega, if_pos ⟨by omega, by show ((32 - n : Nat) : Int) ≤ 64; omega⟩, show ((32 - n : Nat) : Int).toNat = 32 - n by omega]
  · rw [t32_or, t32_wrap, t32_shl, t32_iv, t32_iv]; rfl
theorem s_l3Keys_eq : s_l3Keys = some (arr 64 kW) := by rw [← gA0_arr]; rfl
theorem rnd_0s (w v : Nat → Wd) (i : Nat) : rnd w i v 0 = v 7 + (ror (v 4) 6 ^^^ ror (v 4) 11 ^^^ ror (v 4) 25) + ((v 4 &&& v 5) ^^^ ((BitVec.allOnes 32 ^^^ v 4) &&& v 6)) + kW i + w i + ((ror (v 0) 2 ^^^ ror (v 0) 13 ^^^ ror (v 0) 22) + ((v 0 &&& v 1) ^^^ (v 0 &&& v 2) ^^^ (v 1 &&& v 2))) := by rw [rnd_0, BitVec.add_assoc]
theorem s_lb1_step {α : Type} {s : ByteArray} (hs : s.size = 64) {i : Nat} (hi : i < 16) (f : Nat → Wd) (k : Option α) : s_lb1 s (arr 64 f, (i : Int)) k = some (.inl (arr 64 (sch1 s i f), ((i + 1 : Nat) : Int))) := by
  unfold s_lb1
  refine condT (decide_eq_true (by show (i : Int) < 16; omega)) ?_
  have h0 : IntKind.wrap .i64 (4 * (i : Int)) = ((4 * i : Nat) : Int) := by rw [wrap64_in (by unfold inR; omega)]; omega
  have h1 : ∀ d : Nat, d < 4 → IntKind.wrap .i64 (((4 * i : Nat) : Int) + (d : Int)) = ((4 * i + d : Nat) : Int) := fun d hd => by rw [wrap64_in (by unfold inR; omega)]; omega
  refine bnd (sidx_lit (4 * i) h0 (by omega)) ?_
  refine bnd (sidx_lit (4 * i + 1) ((congrArg (fun q => IntKind.wrap .i64 (q + 1)) h0).trans (h1 1 (by omega))) (by omega)) ?_
  refine bnd (sidx_lit (4 * i + 2) ((congrArg (fun q => IntKind.wrap .i64 (q + 2)) h0).trans (h1 2 (by omega))) (by omega)) ?_
  refine bnd (sidx_lit (4 * i + 3) ((congrArg (fun q => IntKind.wrap .i64 (q + 3)) h0).trans (h1 3 (by omega))) (by omega)) ?_
  refine bnd (arr_idx f (by omega)) ?_
  refine bnd (a := arr 64 (sch1 s i f)) ?_ ?_
  · simp only [bw_iv, wrap64_iv, i24, i16, i8']
    rw [shl64_byte _ 24 (by omega), shl64_byte _ 16 (by omega), shl64_byte _ 8 (by omega)]
    simp only [or64_iv]
    rw [show ((i : Int)).toNat = i by omega, arr_set]
    rfl
  show some (Sum.inl (_, IntKind.wrap .i64 ((i : Int) + 1))) = _
  rw [wrap_succ (by omega)]
theorem s_lb1_end {α : Type} (s : ByteArray) (l : List Int) (k : Option α) : s_lb1 s (l, ((16 : Nat) : Int)) k = k.map .inr := by
  unfold s_lb1
  exact condF (decide_eq_false (by show ¬ ((16 : Nat) : Int) < 16; omega)) rfl

theorem s_lb2_step {α : Type} {i : Nat} (hi : i < 48) (f : Nat → Wd) (k : Option α) : s_lb2 (arr 64 f, ((i + 16 : Nat) : Int)) k = some (.inl (arr 64 (sch2 i f), ((i + 1 + 16 : Nat) : Int))) := by
  unfold s_lb2
  refine condT (decide_eq_true (by show ((i + 16 : Nat) : Int) < 64; omega)) ?_
  refine bnd (a := iv (f (i + 1))) (by show idx (arr 64 f) (IntKind.wrap .i64 (((i + 16 : Nat) : Int) - 15)) = _; rw [wrap64_in (by unfold inR; omega), show ((i + 16 : Nat) : Int) - 15 = ((i + 1 : Nat) : Int) by omega]; exact arr_idx f (by omega)) ?_
  refine bnd (l3Right_eq _ 7 (by omega) (by omega) rfl) ?_
  refine bnd (a := iv (f (i + 1))) (by show idx (arr 64 f) (IntKind.wrap .i64 (((i + 16 : Nat) : Int) - 15)) = _; rw [wrap64_in (by unfold inR; omega), show ((i + 16 : Nat) : Int) - 15 = ((i + 1 : Nat) : Int) by omega]; exact arr_idx f (by omega)) ?_
  refine bnd (l3Right_eq _ 18 (by omega) (by omega) rfl) ?_
  refine bnd (a := iv (f (i + 1))) (by show idx (arr 64 f) (IntKind.wrap .i64 (((i + 16 : Nat) : Int) - 15)) = _; rw [wrap64_in (by unfold inR; omega), show ((i + 16 : Nat) : Int) - 15 = ((i + 1 : Nat) : Int) by omega]; exact arr_idx f (by omega)) ?_
  refine bnd (a := iv (f (i + 14))) (by show idx (arr 64 f) (IntKind.wrap .i64 (((i + 16 : Nat) : Int) - 2)) = _; rw [wrap64_in (by unfold inR; omega), show ((i + 16 : Nat) : Int) - 2 = ((i + 14 : Nat) : Int) by omega]; exact arr_idx f (by omega)) ?_
  refine bnd (l3Right_eq _ 17 (by omega) (by omega) rfl) ?_
  refine bnd (a := iv (f (i + 14))) (by show idx (arr 64 f) (IntKind.wrap .i64 (((i + 16 : Nat) : Int) - 2)) = _; rw [wrap64_in (by unfold inR; omega), show ((i + 16 : Nat) : Int) - 2 = ((i + 14 : Nat) : Int) by omega]; exact arr_idx f (by omega)) ?_
  refine bnd (l3Right_eq _ 19 (by omega) (by omega) rfl) ?_
  refine bnd (a := iv (f (i + 14))) (by show idx (arr 64 f) (IntKind.wrap .i64 (((i + 16 : Nat) : Int) - 2)) = _; rw [wrap64_in (by unfold inR; omega), show ((i + 16 : Nat) : Int) - 2 = ((i + 14 : Nat) : Int) by omega]; exact arr_idx f (by omega)) ?_
  refine bnd (a := iv (f (i + 0))) (by show idx (arr 64 f) (IntKind.wrap .i64 (((i + 16 : Nat) : Int) - 16)) = _; rw [wrap64_in (by unfold inR; omega), show ((i + 16 : Nat) : Int) - 16 = ((i + 0 : Nat) : Int) by omega]; exact arr_idx f (by omega)) ?_
  refine bnd (a := iv (f (i + 9))) (by show idx (arr 64 f) (IntKind.wrap .i64 (((i + 16 : Nat) : Int) - 7)) = _; rw [wrap64_in (by unfold inR; omega), show ((i + 16 : Nat) : Int) - 7 = ((i + 9 : Nat) : Int) by omega]; exact arr_idx f (by omega)) ?_
  refine bnd (l3Word_eq _) ?_
  refine bnd (arr_idx f (by omega)) ?_
  simp only [i3, i10, shr_iv, t32_wrap, t32_add, t32_xor, t32_iv]
  refine bnd (a := arr 64 (sch2 i f)) (by rw [show (((i + 16 : Nat) : Int)).toNat = i + 16 by omega, arr_set]; rfl) ?_
  show some (Sum.inl (_, IntKind.wrap .i64 (((i + 16 : Nat) : Int) + 1))) = _
  rw [wrap_succ (by omega)]

theorem s_lb2_end {α : Type} (l : List Int) (k : Option α) : s_lb2 (l, ((48 + 16 : Nat) : Int)) k = k.map .inr := by
  unfold s_lb2
  exact condF (decide_eq_false (by show ¬ ((48 + 16 : Nat) : Int) < 64; omega)) rfl

theorem s_lb3_step {α : Type} (w v : Nat → Wd) {i : Nat} (hi : i < 64) (c : Int) (k : Option α) : s_lb3 (arr 64 kW) (arr 64 w, c) (arr 8 v, (i : Int)) k = some (.inl (arr 8 (rnd w i v), ((i + 1 : Nat) : Int))) := by
  unfold s_lb3
  refine condT (decide_eq_true (by show (i : Int) < 64; omega)) ?_
  refine bnd (i8 v 4 (by omega) rfl) ?_
  refine bnd (i8 v 0 (by omega) rfl) ?_
  refine bnd (i8 v 7 (by omega) rfl) ?_
  refine bnd (l3Right_eq _ 6 (by omega) (by omega) rfl) ?_
  refine bnd (l3Right_eq _ 11 (by omega) (by omega) rfl) ?_
  refine bnd (l3Right_eq _ 25 (by omega) (by omega) rfl) ?_
  refine bnd (i8 v 5 (by omega) rfl) ?_
  refine bnd (l3Word_eq _) ?_
  refine bnd (i8 v 6 (by omega) rfl) ?_
  refine bnd (arr_idx kW hi) ?_
  refine bnd (arr_idx w hi) ?_
  refine bnd (l3Right_eq _ 2 (by omega) (by omega) rfl) ?_
  refine bnd (l3Right_eq _ 13 (by omega) (by omega) rfl) ?_
  refine bnd (l3Right_eq _ 22 (by omega) (by omega) rfl) ?_
  refine bnd (i8 v 1 (by omega) rfl) ?_
  refine bnd (i8 v 2 (by omega) rfl) ?_
  refine bnd (i8 v 1 (by omega) rfl) ?_
  refine bnd (i8 v 2 (by omega) rfl) ?_
  refine bnd (l3Word_eq _) ?_
  refine bnd (i8 v 0 (by omega) rfl) ?_
  refine bnd (i8 v 1 (by omega) rfl) ?_
  refine bnd (i8 v 2 (by omega) rfl) ?_
  refine bnd (i8 v 3 (by omega) rfl) ?_
  refine bnd (l3Word_eq _) ?_
  refine bnd (i8 v 4 (by omega) rfl) ?_
  refine bnd (i8 v 5 (by omega) rfl) ?_
  refine bnd (i8 v 6 (by omega) rfl) ?_
  refine bnd rfl ?_
  show some (Sum.inl (_, IntKind.wrap .i64 ((i : Int) + 1))) = _
  rw [wrap_succ (by omega), arr8, rnd_0s, rnd_1, rnd_2, rnd_3, rnd_4, rnd_5, rnd_6, rnd_7]
  simp only [t32_wrap, t32_add, t32_xor, t32_and, t32_iv, oM64]

theorem s_lb3_end {α : Type} (q : List Int) (x : List Int × Int) (l : List Int) (k : Option α) : s_lb3 q x (l, ((64 : Nat) : Int)) k = k.map .inr := by
  unfold s_lb3
  exact condF (decide_eq_false (by show ¬ ((64 : Nat) : Int) < 64; omega)) rfl
theorem arr_succ (n : Nat) (f : Nat → Wd) : arr (n + 1) f = arr n f ++ [iv (f n)] := by unfold arr; rw [List.range_succ, List.map_append]; rfl
theorem s_lb4_step {α : Type} (v h : Nat → Wd) {i : Nat} (hi : i < 8) (c : Int) (k : Option α) : s_lb4 (arr 8 h) (arr 8 v, c) (arr i (fun j => h j + v j), (i : Int)) k = some (.inl (arr (i + 1) (fun j => h j + v j), ((i + 1 : Nat) : Int))) := by
  unfold s_lb4
  refine condT (decide_eq_true (by show (i : Int) < 8; omega)) ?_
  refine bnd (arr_idx h hi) ?_
  refine bnd (arr_idx v hi) ?_
  refine bnd (l3Word_eq _) ?_
  simp only [t32_wrap, t32_add, t32_iv]
  refine bnd (appP_ok (by show (arr i _).length + 1 ≤ _; rw [arr_len]; omega)) ?_
  show some (Sum.inl (_, IntKind.wrap .i64 ((i : Int) + 1))) = _
  rw [wrap_succ (by omega), arr_succ]
theorem s_lb4_end {α : Type} (q : List Int) (x : List Int × Int) (l : List Int) (k : Option α) : s_lb4 q x (l, ((8 : Nat) : Int)) k = k.map .inr := by
  unfold s_lb4
  exact condF (decide_eq_false (by show ¬ ((8 : Nat) : Int) < 8; omega)) rfl
theorem s_l3Block_eq {s : ByteArray} (hs : s.size = 64) (h : Nat → Wd) : s_l3Block (arr 8 h) s (arr 64 kW) = some (arr 8 (shaB h s)) := by
  rw [s_l3Block_open]
  refine bnd (a := arr 64 fun _ => 0) (by unfold mkP; rw [if_pos (by decide), ← arr_zero]; rfl) ?_
  refine whileP_n (fun (i : Nat) f => (arr 64 f, (i : Int))) (sch1 s) (n := 16) (t0 := fun _ => 0) rfl (fun i t hi => s_lb1_step hs hi t _) ?_
  refine (s_lb1_end _ _ _).trans (congrArg (Option.map Sum.inr) ?_)
  refine whileP_n (fun (i : Nat) f => (arr 64 f, ((i + 16 : Nat) : Int))) sch2 (n := 48) (t0 := it (sch1 s) 16 fun _ => 0) rfl (fun i t hi => s_lb2_step hi t _) ?_
  refine (s_lb2_end _ _).trans (congrArg (Option.map Sum.inr) ?_)
  refine bnd rfl (bnd (a := arr 8 h) (by rw [appP_ok (by rw [arr_len]; decide)]; rfl) ?_)
  refine whileP_n (fun (i : Nat) f => (arr 8 f, (i : Int))) (rnd (wAll s)) (n := 64) (t0 := h) rfl (fun i t hi => s_lb3_step _ t hi _ _) ?_
  refine (s_lb3_end _ _ _ _).trans (congrArg (Option.map Sum.inr) ?_)
  refine bnd rfl ?_
  refine whileP_n (fun (i : Nat) (_ : Unit) => (arr i (fun j => h j + it (rnd (wAll s)) 64 h j), (i : Int))) (fun _ _ => ()) (n := 8) (t0 := ()) rfl (fun i t hi => s_lb4_step _ h hi _ _) ?_
  refine (s_lb4_end _ _ _ _).trans (congrArg (Option.map Sum.inr) ?_)
  rfl
end Go.Proofs.SL
