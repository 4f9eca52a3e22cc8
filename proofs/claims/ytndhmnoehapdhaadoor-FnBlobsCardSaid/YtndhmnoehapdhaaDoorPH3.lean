/- A block of the sum: the program. -/
import Derived.Test.YtndhmnoehapdhaaDoorPH2
import Derived.Test.YtndhmnoehapdhaaDoorWSa
namespace Go.Proofs.SL
open Go

noncomputable def i_sb1 {α : Type} (a1 : ByteArray) (s1 : Int × (List Int)) (kk : Option α) : Option ((Int × (List Int)) ⊕ α) :=
  cond (decide (s1.1 < 16)) (Option.bind (sslP a1 (IntKind.wrap .i64 (4 * s1.1)) (a1.size : Int)) (fun y3 => Option.bind (i_fourBytes y3) (fun y4 => Option.bind (ack 64 s1.1) (fun y5 => Option.bind (aset s1.2 y5 y4) (fun y6 => some (.inl ((IntKind.wrap .i64 (s1.1 + 1), y6)))))))) (Option.map .inr kk)

noncomputable def i_sb2 {α : Type}  (s8 : Int × (List Int)) (kk : Option α) : Option ((Int × (List Int)) ⊕ α) :=
  cond (decide (s8.1 < 64)) (Option.bind (ack 64 (IntKind.wrap .i64 (s8.1 - 15))) (fun y10 => Option.bind (s8.2[y10]?) (fun y11 => Option.bind (ack 64 (IntKind.wrap .i64 (s8.1 - 2))) (fun y12 => Option.bind (s8.2[y12]?) (fun y13 => Option.bind (x_bits_RotateLeft32 y11 (-7)) (fun y14 => Option.bind (x_bits_RotateLeft32 y11 (-18)) (fun y15 => Option.bind (x_bits_RotateLeft32 y13 (-17)) (fun y16 => Option.bind (x_bits_RotateLeft32 y13 (-19)) (fun y17 => Option.bind (ack 64 (IntKind.wrap .i64 (s8.1 - 16))) (fun y18 => Option.bind (s8.2[y18]?) (fun y19 => Option.bind (ack 64 (IntKind.wrap .i64 (s8.1 - 7))) (fun y20 => Option.bind (s8.2[y20]?) (fun y21 => Option.bind (ack 64 s8.1) (fun y22 => Option.bind (aset s8.2 y22 (IntKind.wrap .u32 (IntKind.wrap .u32 (IntKind.wrap .u32 (y19 + bits .xor .u32 (bits .xor .u32 y14 y15) (y11 / 2 ^ (3 : Int).toNat)) + y21) + bits .xor .u32 (bits .xor .u32 y16 y17) (y13 / 2 ^ (10 : Int).toNat)))) (fun y23 => some (.inl ((IntKind.wrap .i64 (s8.1 + 1), y23)))))))))))))))))) (Option.map .inr kk)

noncomputable def i_sb3 {α : Type} (s8 : Int × (List Int)) (s28 : Int × (List Int)) (kk : Option α) : Option ((Int × (List Int)) ⊕ α) :=
  cond (decide (s28.1 < 64)) (Option.bind (ack 8 0) (fun y30 => Option.bind (s28.2[y30]?) (fun y31 => Option.bind (ack 8 4) (fun y32 => Option.bind (s28.2[y32]?) (fun y33 => Option.bind (x_bits_RotateLeft32 y33 (-6)) (fun y34 => Option.bind (x_bits_RotateLeft32 y33 (-11)) (fun y35 => Option.bind (x_bits_RotateLeft32 y33 (-25)) (fun y36 => Option.bind (ack 8 5) (fun y37 => Option.bind (s28.2[y37]?) (fun y38 => Option.bind (ack 8 6) (fun y39 => Option.bind (s28.2[y39]?) (fun y40 => Option.bind (ack 8 7) (fun y41 => Option.bind (s28.2[y41]?) (fun y42 => Option.bind (ack 64 s28.1) (fun y43 => Option.bind (gA0[y43]?) (fun y44 => Option.bind (ack 64 s28.1) (fun y45 => Option.bind (s8.2[y45]?) (fun y46 => Option.bind (x_bits_RotateLeft32 y31 (-2)) (fun y47 => Option.bind (x_bits_RotateLeft32 y31 (-13)) (fun y48 => Option.bind (x_bits_RotateLeft32 y31 (-22)) (fun y49 => Option.bind (ack 8 1) (fun y50 => Option.bind (s28.2[y50]?) (fun y51 => Option.bind (ack 8 2) (fun y52 => Option.bind (s28.2[y52]?) (fun y53 => Option.bind (ack 8 1) (fun y54 => Option.bind (s28.2[y54]?) (fun y55 => Option.bind (ack 8 2) (fun y56 => Option.bind (s28.2[y56]?) (fun y57 => Option.bind (ack 8 0) (fun y58 => Option.bind (s28.2[y58]?) (fun y59 => Option.bind (ack 8 1) (fun y60 => Option.bind (s28.2[y60]?) (fun y61 => Option.bind (ack 8 2) (fun y62 => Option.bind (s28.2[y62]?) (fun y63 => Option.bind (ack 8 3) (fun y64 => Option.bind (s28.2[y64]?) (fun y65 => Option.bind (ack 8 4) (fun y66 => Option.bind (s28.2[y66]?) (fun y67 => Option.bind (ack 8 5) (fun y68 => Option.bind (s28.2[y68]?) (fun y69 => Option.bind (ack 8 6) (fun y70 => Option.bind (s28.2[y70]?) (fun y71 => Option.bind (alen 8 s28.2) (fun y72 => Option.bind (alen 8 ([IntKind.wrap .u32 (IntKind.wrap .u32 (IntKind.wrap .u32 (IntKind.wrap .u32 (IntKind.wrap .u32 (IntKind.wrap .u32 (y42 + bits .xor .u32 (bits .xor .u32 y34 y35) y36) + bits .xor .u32 (bits .and .u32 y33 y38) (bits .and .u32 (bits .xor .u32 (if IntKind.signed .u32 then -1 else IntKind.max .u32) y33) y40)) + y44) + y46) + bits .xor .u32 (bits .xor .u32 y47 y48) y49) + bits .xor .u32 (bits .xor .u32 (bits .and .u32 y31 y51) (bits .and .u32 y31 y53)) (bits .and .u32 y55 y57)), y59, y61, y63, IntKind.wrap .u32 (y65 + IntKind.wrap .u32 (IntKind.wrap .u32 (IntKind.wrap .u32 (IntKind.wrap .u32 (y42 + bits .xor .u32 (bits .xor .u32 y34 y35) y36) + bits .xor .u32 (bits .and .u32 y33 y38) (bits .and .u32 (bits .xor .u32 (if IntKind.signed .u32 then -1 else IntKind.max .u32) y33) y40)) + y44) + y46)), y67, y69, y71] : List Int)) (fun y73 => some (.inl ((IntKind.wrap .i64 (s28.1 + 1), ([IntKind.wrap .u32 (IntKind.wrap .u32 (IntKind.wrap .u32 (IntKind.wrap .u32 (IntKind.wrap .u32 (IntKind.wrap .u32 (y42 + bits .xor .u32 (bits .xor .u32 y34 y35) y36) + bits .xor .u32 (bits .and .u32 y33 y38) (bits .and .u32 (bits .xor .u32 (if IntKind.signed .u32 then -1 else IntKind.max .u32) y33) y40)) + y44) + y46) + bits .xor .u32 (bits .xor .u32 y47 y48) y49) + bits .xor .u32 (bits .xor .u32 (bits .and .u32 y31 y51) (bits .and .u32 y31 y53)) (bits .and .u32 y55 y57)), y59, y61, y63, IntKind.wrap .u32 (y65 + IntKind.wrap .u32 (IntKind.wrap .u32 (IntKind.wrap .u32 (IntKind.wrap .u32 (y42 + bits .xor .u32 (bits .xor .u32 y34 y35) y36) + bits .xor .u32 (bits .and .u32 y33 y38) (bits .and .u32 (bits .xor .u32 (if IntKind.signed .u32 then -1 else IntKind.max .u32) y33) y40)) + y44) + y46)), y67, y69, y71] : List Int))))))))))))))))))))))))))))))))))))))))))))))))) (Option.map .inr kk)

noncomputable def i_sb4 {α : Type} (s28 : Int × (List Int)) (s75 : Int × (List Int)) (kk : Option α) : Option ((Int × (List Int)) ⊕ α) :=
  cond (decide (s75.1 < 8)) (Option.bind (ack 8 s75.1) (fun y77 => Option.bind (s75.2[y77]?) (fun y78 => Option.bind (ack 8 s75.1) (fun y79 => Option.bind (s28.2[y79]?) (fun y80 => Option.bind (ack 8 s75.1) (fun y81 => Option.bind (aset s75.2 y81 (IntKind.wrap .u32 (y78 + y80))) (fun y82 => some (.inl ((IntKind.wrap .i64 (s75.1 + 1), y82)))))))))) (Option.map .inr kk)

theorem i_shaBlock_open (a0 : List Int) (a1 : ByteArray) : i_shaBlock a0 a1 =
  whileP (fun s1 : Int × (List Int) => i_sb1 a1 s1 (whileP (fun s8 : Int × (List Int) => i_sb2  s8 (Option.bind (alen 8 a0) (fun y25 => Option.bind (alen 8 (List.replicate 8 (0 : Int))) (fun y26 => Option.bind (alen 8 a0) (fun y27 => whileP (fun s28 : Int × (List Int) => i_sb3 s8 s28 (whileP (fun s75 : Int × (List Int) => i_sb4 s28 s75 (Option.bind (alen 8 s75.2) (fun y84 => Option.bind (alen 8 (List.replicate 8 (0 : Int))) (fun y85 => Option.bind (alen 8 s75.2) (fun y86 => Option.bind (alen 8 s75.2) (fun y87 => some s75.2)))))) (0, a0))) (0, a0)))))) (16, s1.2))) (0, (List.replicate 64 (0 : Int))) := rfl


theorem rotG (a : Wd) {c : Int} {n : Nat} (h : bits .and .u64 (IntKind.wrap .u64 c) 31 = ((32 - n : Nat) : Int)) (h0 : 0 < n) (hn : n < 32) : x_bits_RotateLeft32 (iv a) c = some (iv (ror a n)) := by
  unfold x_bits_RotateLeft32
  rw [h]
  refine bnd (a := iv (a <<< (32 - n))) ?_ (bnd (a := iv (a >>> n)) ?_ ?_)
  · unfold shlP
    rw [if_pos ⟨by omega, by show ((32 - n : Nat) : Int) ≤ 32; omega⟩, show ((32 - n : Nat) : Int).toNat = 32 - n by omega, shlU]
  · unfold shrP
    rw [IntKind.wrap_u64, show (32 - ((32 - n : Nat) : Int)) % 18446744073709551616 = (n : Int) by omega, if_pos ⟨by omega, by show (n : Int) ≤ 32; omega⟩, show (n : Int).toNat = n by omega, shr_iv]
  · show some (bits .or .u32 (iv (a <<< (32 - n))) (iv (a >>> n))) = _
    rw [orU, BitVec.or_comm]; rfl
theorem rot2 (a : Wd) : x_bits_RotateLeft32 (iv a) (-2) = some (iv (ror a 2)) := rotG a (by decide) (by omega) (by omega)
theorem rot6 (a : Wd) : x_bits_RotateLeft32 (iv a) (-6) = some (iv (ror a 6)) := rotG a (by decide) (by omega) (by omega)
theorem rot7 (a : Wd) : x_bits_RotateLeft32 (iv a) (-7) = some (iv (ror a 7)) := rotG a (by decide) (by omega) (by omega)
theorem rot11 (a : Wd) : x_bits_RotateLeft32 (iv a) (-11) = some (iv (ror a 11)) := rotG a (by decide) (by omega) (by omega)
theorem rot13 (a : Wd) : x_bits_RotateLeft32 (iv a) (-13) = some (iv (ror a 13)) := rotG a (by decide) (by omega) (by omega)
theorem rot17 (a : Wd) : x_bits_RotateLeft32 (iv a) (-17) = some (iv (ror a 17)) := rotG a (by decide) (by omega) (by omega)
theorem rot18 (a : Wd) : x_bits_RotateLeft32 (iv a) (-18) = some (iv (ror a 18)) := rotG a (by decide) (by omega) (by omega)
theorem rot19 (a : Wd) : x_bits_RotateLeft32 (iv a) (-19) = some (iv (ror a 19)) := rotG a (by decide) (by omega) (by omega)
theorem rot22 (a : Wd) : x_bits_RotateLeft32 (iv a) (-22) = some (iv (ror a 22)) := rotG a (by decide) (by omega) (by omega)
theorem rot25 (a : Wd) : x_bits_RotateLeft32 (iv a) (-25) = some (iv (ror a 25)) := rotG a (by decide) (by omega) (by omega)
theorem sidx_lit {s : ByteArray} (i : Nat) {n : Int} (hn : n = (i : Int)) (h : i < s.size) : sidx s n = some ((byt s i).toNat : Int) := by subst hn; exact sidx_byt h
theorem i_fourBytes_eq {t : ByteArray} (h : 4 ≤ t.size) : i_fourBytes t = some (iv (wrd t 0)) := by
  unfold i_fourBytes
  refine bnd (sidx_lit 0 rfl (by omega)) (bnd (sidx_lit 1 rfl (by omega)) (bnd (sidx_lit 2 rfl (by omega)) (bnd (sidx_lit 3 rfl (by omega)) ?_)))
  simp only [bw_iv, wrapU_iv, shlU, orU, i24, i16, i8']
  rfl
theorem i_sb1_step {α : Type} {s : ByteArray} (hs : s.size = 64) {i : Nat} (hi : i < 16) (f : Nat → Wd) (k : Option α) : i_sb1 s ((i : Int), arr 64 f) k = some (.inl (((i + 1 : Nat) : Int), arr 64 (sch1 s i f))) := by
  unfold i_sb1
  refine condT (decide_eq_true (by show (i : Int) < 16; omega)) ?_
  refine bnd (a := s.extract (4 * i) s.size) ?_ ?_
  · show sslP s (IntKind.wrap .i64 (4 * (i : Int))) (s.size : Int) = _
    rw [wrap64_in (by unfold inR; omega)]
    unfold sslP
    rw [if_pos (by omega), show (4 * (i : Int)).toNat = 4 * i by omega, show ((s.size : Int)).toNat = s.size by omega]
  refine bnd (i_fourBytes_eq (by rw [ByteArray.size_extract]; omega)) ?_
  rw [wrd_extract (by omega) (Nat.le_refl _)]
  refine bnd (ack_nat (by omega)) ?_
  refine bnd (arr_aset f _ (by omega)) ?_
  show some (Sum.inl (IntKind.wrap .i64 ((i : Int) + 1), _)) = _
  rw [wrap_succ (by omega)]
  rfl
theorem i_sb1_end {α : Type} (s : ByteArray) (l : List Int) (k : Option α) : i_sb1 s (((16 : Nat) : Int), l) k = k.map .inr := by
  unfold i_sb1
  exact condF (decide_eq_false (by show ¬ ((16 : Nat) : Int) < 16; omega)) rfl

theorem i_sb2_step {α : Type} {i : Nat} (hi : i < 48) (f : Nat → Wd) (k : Option α) : i_sb2 (((i + 16 : Nat) : Int), arr 64 f) k = some (.inl (((i + 1 + 16 : Nat) : Int), arr 64 (sch2 i f))) := by
  unfold i_sb2
  refine condT (decide_eq_true (by show ((i + 16 : Nat) : Int) < 64; omega)) ?_
  refine bnd (a := i + 1) (by show ack 64 (IntKind.wrap .i64 (((i + 16 : Nat) : Int) - 15)) = _; rw [wrap64_in (by unfold inR; omega), show ((i + 16 : Nat) : Int) - 15 = ((i + 1 : Nat) : Int) by omega]; exact ack_nat (by omega)) ?_
  refine bnd (arr_get f (by omega)) ?_
  refine bnd (a := i + 14) (by show ack 64 (IntKind.wrap .i64 (((i + 16 : Nat) : Int) - 2)) = _; rw [wrap64_in (by unfold inR; omega), show ((i + 16 : Nat) : Int) - 2 = ((i + 14 : Nat) : Int) by omega]; exact ack_nat (by omega)) ?_
  refine bnd (arr_get f (by omega)) ?_
  refine bnd (rot7 _) ?_
  refine bnd (rot18 _) ?_
  refine bnd (rot17 _) ?_
  refine bnd (rot19 _) ?_
  refine bnd (a := i + 0) (by show ack 64 (IntKind.wrap .i64 (((i + 16 : Nat) : Int) - 16)) = _; rw [wrap64_in (by unfold inR; omega), show ((i + 16 : Nat) : Int) - 16 = ((i + 0 : Nat) : Int) by omega]; exact ack_nat (by omega)) ?_
  refine bnd (arr_get f (by omega)) ?_
  refine bnd (a := i + 9) (by show ack 64 (IntKind.wrap .i64 (((i + 16 : Nat) : Int) - 7)) = _; rw [wrap64_in (by unfold inR; omega), show ((i + 16 : Nat) : Int) - 7 = ((i + 9 : Nat) : Int) by omega]; exact ack_nat (by omega)) ?_
  refine bnd (arr_get f (by omega)) ?_
  refine bnd (ack_nat (by omega)) ?_
  simp only [i3, i10, shr_iv, xorU, addU]
  refine bnd (arr_aset f _ (by omega)) ?_
  show some (Sum.inl (IntKind.wrap .i64 (((i + 16 : Nat) : Int) + 1), _)) = _
  rw [wrap_succ (by omega)]
  rfl

theorem i_sb2_end {α : Type} (l : List Int) (k : Option α) : i_sb2 (((48 + 16 : Nat) : Int), l) k = k.map .inr := by
  unfold i_sb2
  exact condF (decide_eq_false (by show ¬ ((48 + 16 : Nat) : Int) < 64; omega)) rfl
theorem alen_ok {n : Nat} {l : List Int} (h : l.length = n) : alen n l = some l := if_pos h
theorem rnd_0 (w v : Nat → Wd) (i : Nat) : rnd w i v 0 = v 7 + (ror (v 4) 6 ^^^ ror (v 4) 11 ^^^ ror (v 4) 25) + ((v 4 &&& v 5) ^^^ ((BitVec.allOnes 32 ^^^ v 4) &&& v 6)) + kW i + w i + (ror (v 0) 2 ^^^ ror (v 0) 13 ^^^ ror (v 0) 22) + ((v 0 &&& v 1) ^^^ (v 0 &&& v 2) ^^^ (v 1 &&& v 2)) := rfl
theorem rnd_4 (w v : Nat → Wd) (i : Nat) : rnd w i v 4 = v 3 + (v 7 + (ror (v 4) 6 ^^^ ror (v 4) 11 ^^^ ror (v 4) 25) + ((v 4 &&& v 5) ^^^ ((BitVec.allOnes 32 ^^^ v 4) &&& v 6)) + kW i + w i) := rfl
theorem rnd_1 (w v : Nat → Wd) (i : Nat) : rnd w i v 1 = v 0 := rfl
theorem rnd_2 (w v : Nat → Wd) (i : Nat) : rnd w i v 2 = v 1 := rfl
theorem rnd_3 (w v : Nat → Wd) (i : Nat) : rnd w i v 3 = v 2 := rfl
theorem rnd_5 (w v : Nat → Wd) (i : Nat) : rnd w i v 5 = v 4 := rfl
theorem rnd_6 (w v : Nat → Wd) (i : Nat) : rnd w i v 6 = v 5 := rfl
theorem rnd_7 (w v : Nat → Wd) (i : Nat) : rnd w i v 7 = v 6 := rfl

theorem i_sb3_step {α : Type} (w v : Nat → Wd) {i : Nat} (hi : i < 64) (c : Int) (k : Option α) : i_sb3 (c, arr 64 w) ((i : Int), arr 8 v) k = some (.inl (((i + 1 : Nat) : Int), arr 8 (rnd w i v))) := by
  unfold i_sb3
  refine condT (decide_eq_true (by show (i : Int) < 64; omega)) ?_
  refine bnd a8_0 ?_
  refine bnd (g8 v 0 (by omega)) ?_
  refine bnd a8_4 ?_
  refine bnd (g8 v 4 (by omega)) ?_
  refine bnd (rot6 _) ?_
  refine bnd (rot11 _) ?_
  refine bnd (rot25 _) ?_
  refine bnd a8_5 ?_
  refine bnd (g8 v 5 (by omega)) ?_
  refine bnd a8_6 ?_
  refine bnd (g8 v 6 (by omega)) ?_
  refine bnd a8_7 ?_
  refine bnd (g8 v 7 (by omega)) ?_
  refine bnd (ack_nat hi) ?_
  refine bnd (a := iv (kW i)) (by rw [gA0_arr]; exact arr_get kW hi) ?_
  refine bnd (ack_nat hi) ?_
  refine bnd (arr_get w hi) ?_
  refine bnd (rot2 _) ?_
  refine bnd (rot13 _) ?_
  refine bnd (rot22 _) ?_
  refine bnd a8_1 ?_
  refine bnd (g8 v 1 (by omega)) ?_
  refine bnd a8_2 ?_
  refine bnd (g8 v 2 (by omega)) ?_
  refine bnd a8_1 ?_
  refine bnd (g8 v 1 (by omega)) ?_
  refine bnd a8_2 ?_
  refine bnd (g8 v 2 (by omega)) ?_
  refine bnd a8_0 ?_
  refine bnd (g8 v 0 (by omega)) ?_
  refine bnd a8_1 ?_
  refine bnd (g8 v 1 (by omega)) ?_
  refine bnd a8_2 ?_
  refine bnd (g8 v 2 (by omega)) ?_
  refine bnd a8_3 ?_
  refine bnd (g8 v 3 (by omega)) ?_
  refine bnd a8_4 ?_
  refine bnd (g8 v 4 (by omega)) ?_
  refine bnd a8_5 ?_
  refine bnd (g8 v 5 (by omega)) ?_
  refine bnd a8_6 ?_
  refine bnd (g8 v 6 (by omega)) ?_
  refine bnd (arr_alen 8 v) ?_
  refine bnd (alen_ok rfl) ?_
  show some (Sum.inl (IntKind.wrap .i64 ((i : Int) + 1), _)) = _
  rw [wrap_succ (by omega), arr8, rnd_0, rnd_1, rnd_2, rnd_3, rnd_4, rnd_5, rnd_6, rnd_7]
  simp only [xorU, andU, oM32, addU]

theorem i_sb3_end {α : Type} (x : Int × List Int) (l : List Int) (k : Option α) : i_sb3 x (((64 : Nat) : Int), l) k = k.map .inr := by
  unfold i_sb3
  exact condF (decide_eq_false (by show ¬ ((64 : Nat) : Int) < 64; omega)) rfl
def sumS (v : Nat → Wd) (i : Nat) (g : Nat → Wd) : Nat → Wd := upd g i (g i + v i)
theorem it_sumS (v h : Nat → Wd) : ∀ n, it (sumS v) n h = fun j => if j < n then h j + v j else h j
  | 0 => by funext j; rfl
  | n + 1 => by
    show sumS v n (it (sumS v) n h) = _
    rw [it_sumS v h n]
    funext j
    unfold sumS upd
    by_cases h1 : j = n
    · subst h1; simp
    · by_cases h2 : j < n
      · rw [if_neg h1]; show (if j < n then _ else _) = _; rw [if_pos h2, if_pos (by omega)]
      · rw [if_neg h1]; show (if j < n then _ else _) = _; rw [if_neg h2, if_neg (by omega)]
theorem i_sb4_step {α : Type} (v g : Nat → Wd) {i : Nat} (hi : i < 8) (c : Int) (k : Option α) : i_sb4 (c, arr 8 v) ((i : Int), arr 8 g) k = some (.inl (((i + 1 : Nat) : Int), arr 8 (sumS v i g))) := by
  unfold i_sb4
  refine condT (decide_eq_true (by show (i : Int) < 8; omega)) ?_
  refine bnd (ack_nat hi) ?_
  refine bnd (arr_get g hi) ?_
  refine bnd (ack_nat hi) ?_
  refine bnd (arr_get v hi) ?_
  refine bnd (ack_nat hi) ?_
  simp only [addU]
  refine bnd (arr_aset g _ hi) ?_
  show some (Sum.inl (IntKind.wrap .i64 ((i : Int) + 1), _)) = _
  rw [wrap_succ (by omega)]
  rfl
theorem i_sb4_end {α : Type} (x : Int × List Int) (l : List Int) (k : Option α) : i_sb4 x (((8 : Nat) : Int), l) k = k.map .inr := by
  unfold i_sb4
  exact condF (decide_eq_false (by show ¬ ((8 : Nat) : Int) < 8; omega)) rfl
theorem i_shaBlock_eq {s : ByteArray} (hs : s.size = 64) (h : Nat → Wd) : i_shaBlock (arr 8 h) s = some (arr 8 (shaB h s)) := by
  rw [i_shaBlock_open, arr_zero 64]
  refine whileP_n (fun (i : Nat) f => ((i : Int), arr 64 f)) (sch1 s) (n := 16) (t0 := fun _ => 0) rfl (fun i t hi => i_sb1_step hs hi t _) ?_
  refine (i_sb1_end _ _ _).trans (congrArg (Option.map Sum.inr) ?_)
  refine whileP_n (fun (i : Nat) f => (((i + 16 : Nat) : Int), arr 64 f)) sch2 (n := 48) (t0 := it (sch1 s) 16 fun _ => 0) rfl (fun i t hi => i_sb2_step hi t _) ?_
  refine (i_sb2_end _ _).trans (congrArg (Option.map Sum.inr) ?_)
  refine bnd (arr_alen 8 h) (bnd (alen_ok rfl) (bnd (arr_alen 8 h) ?_))
  refine whileP_n (fun (i : Nat) f => ((i : Int), arr 8 f)) (rnd (wAll s)) (n := 64) (t0 := h) rfl (fun i t hi => i_sb3_step _ t hi _ _) ?_
  refine (i_sb3_end _ _ _).trans (congrArg (Option.map Sum.inr) ?_)
  refine whileP_n (fun (i : Nat) f => ((i : Int), arr 8 f)) (sumS (it (rnd (wAll s)) 64 h)) (n := 8) (t0 := h) rfl (fun i t hi => i_sb4_step _ t hi _ _) ?_
  refine (i_sb4_end _ _ _).trans (congrArg (Option.map Sum.inr) ?_)
  refine bnd (arr_alen 8 _) (bnd (alen_ok rfl) (bnd (arr_alen 8 _) (bnd (arr_alen 8 _) ?_)))
  rw [it_sumS]
  exact congrArg some (arr_congr fun j hj => by rw [if_pos hj]; rfl)
end Go.Proofs.SL
