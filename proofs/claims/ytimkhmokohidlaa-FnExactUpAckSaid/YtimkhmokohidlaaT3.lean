/- The texts of the proof, part 3: the base, walks of functions, plain Lean. -/
import Derived.Test.YtimkhmokohidlaaT2
import Derived.Shelf.Sort.Plain
import Derived.Shelf.Slices.In.SortNone
import Derived.OrdersHeld
namespace Go.Proofs.SL
open Go
set_option maxHeartbeats 2000000
theorem sl_Insert_implUpimplUp_walk (w : World) (a0 : TL T_Up) (a1 : Int) (b : Nat) (x : T_Up) (T' : TypeId) (r : List D_Up) (hp : insP (GT.dat a0) a1 (GT.dat x) = some r) : Spec Try.prog 99 [(TL.hdr a0), .int .i64 a1, .slice (some ⟨b, 0, none⟩) 1 1].toArray w [treeH a0, blk b (GT.cells x) T', treeH x] (fun v M => ∃ (x0 : TL T_Up), v = (TL.hdr x0) ∧ GT.dat x0 = r ∧ M = [treeH x0]) := by
  obtain ⟨h0, h1, h2, rfl⟩ := insP_some hp
  rw [dat_els, List.length_map] at h1 h2
  obtain ⟨i, rfl⟩ := Int.eq_ofNat_of_zero_le h0
  have hi : i ≤ a0.els.length := by omega
  simp only [Int.toNat_natCast]
  refine Spec.intro Try.func99 rfl Try.ntmps99 rfl ?_
  refine s8 ?_
  refine L_slc (X := a0) (a := (i : Int)) (b := ((GT.dat a0).length : Int)) rfl rfl rfl rfl el69.h rfl (RdT.tree mm) (if_pos ⟨by omega, by rw [dat_els, List.length_map]; omega, Int.le_refl _⟩) (fun Y _ _ => ?_)
  refine s4 ?_
  refine L_lenS rfl rfl el69.h ?_
  refine s8 ?_
  refine W_cond rfl (fun hc0 => ?_) (fun hc0 => ?_)
  · exfalso; simp at hc0
  · refine s5 ?_
    rw [show ((GT.dat a0).length : Int) = (a0.els.length : Int) by rw [dat_els, List.length_map]]
    refine s9 ?_
    refine W_cond rfl (fun hc1 => ?_) (fun hc1 => ?_)
    · have hin : i = a0.els.length := by have := of_decide_eq_true hc1; omega
      refine s4 ?_
      refine L_app1 (X := a0) x rfl rfl rfl el69.h rfl rfl pk mm pk (if_pos (by rw [dat_els, List.length_map]; simp; omega)) (by decide) (fun X hd => ?_)
      refine s3 ?_
      refine res1 rfl (ResOK.tmp rfl) ⟨X, rfl, ?_, rfl⟩ ms
      rw [hd, dat_els, hin, List.take_of_length_le (by simp), List.drop_eq_nil_of_le (by simp)]
      simp
    · have hin : i ≠ a0.els.length := by have := of_decide_eq_false hc1; omega
      have hlt : i < a0.els.length := by omega
      refine s3 ?_
      refine W_raw (X := a0) (fun h => by rw [h] at hlt; simp at hlt) pk (fun fa fl fm ft => ?_)
      have hh : a0.hdr = .slice (some ⟨a0.g, 0, none⟩) a0.els.length a0.cap := by show Value.slice a0.a _ _ = _; rw [fa]
      rw [hh]
      refine W_fact (φ := b ≠ a0.g) (fun w h => blk_ne pk pk h) (fun hbg => ?_)
      have hsz : GT.sz T_Up = 3 := rfl
      have hcl : (rowCells a0.els ++ a0.tail).length = a0.cap * 3 := by rw [List.length_append, length_rowCells, hsz]; exact ft
      have e8 : IntKind.wrap .i64 ((a0.els.length : Int) + ((1 : Nat) : Int)) = ((a0.els.length + 1 : Nat) : Int) := by rw [wrap64_in (by unfold inR; omega)]; omega
      have e9 : IntKind.wrap .i64 ((i : Int) + ((1 : Nat) : Int)) = ((i + 1 : Nat) : Int) := by rw [wrap64_in (by unfold inR; omega)]; omega
      refine s4 ?_
      rw [e8]
      refine s1 ?_
      refine L_capS rfl rfl el69.h ?_
      refine s2 ?_
      refine W_cond rfl (fun hc2 => ?_) (fun hc2 => ?_)
      · have hc2' : a0.cap < a0.els.length + 1 := by have := of_decide_eq_true hc2; omega
        refine s4 ?_
        refine L_slV (g := a0.g) (o := 0) (n := a0.els.length) (c := a0.cap) (a := 0) (b := (i : Int)) rfl rfl rfl rfl el69.h (by omega) (by omega) (by omega) ?_
        simp only [Int.toNat_natCast, Int.toNat_zero, sl0, Nat.sub_zero]
        refine s3 ?_
        rw [e8]
        refine s2 ?_
        rw [show IntKind.wrap .i64 (((a0.els.length + 1 : Nat) : Int) - (i : Int)) = ((a0.els.length + 1 - i : Nat) : Int) by rw [wrap64_in (by unfold inR; omega)]; omega]
        refine L_appMk (g := a0.g) (n := i) (c := a0.cap) (k := a0.els.length + 1 - i) rfl rfl rfl el69.h und3.h mm rfl (by decide) (by decide) (by omega) (by omega) (by omega) (by rw [hcl]; exact Nat.mul_le_mul_right _ (by omega)) (fun nb cp hc1 hc2 => ?_)
        rw [show i + (a0.els.length + 1 - i) = a0.els.length + 1 by omega] at hc1 ⊢
        refine s6 ?_
        refine L_slV (g := nb) (o := 0) (n := a0.els.length + 1) (c := cp) (a := (i : Int)) (b := ((a0.els.length + 1 : Nat) : Int)) rfl rfl rfl rfl el69.h (by omega) (by omega) (by omega) ?_
        simp only [Int.toNat_natCast, Int.toNat_zero, sl0, Nat.sub_zero]
        rw [slLt (show i < cp by omega)]
        refine s1 ?_
        generalize hcs1 : (rowCells a0.els ++ a0.tail).take (i * 3) ++ (List.replicate (cp - i) ([.string ByteArray.empty, .slice none 0 0, .int .i64 0] : List Value)).flatten = cs1
        have hl1 : cs1.length = cp * 3 := by
          rw [← hcs1, List.length_append, List.length_take, hcl]
          have h5 : ((List.replicate (cp - i) ([.string ByteArray.empty, .slice none 0 0, .int .i64 0] : List Value)).flatten).length = (cp - i) * 3 := by simp
          rw [h5, Nat.min_eq_left (Nat.mul_le_mul_right _ (by omega)), ← Nat.add_mul]; congr 1; omega
        refine L_cpRaw (q := 1) (vs := GT.cells x) rfl rfl rfl el69.h pk (by omega) (by rw [GT.len]; rfl) (cells_blk (n := (GT.cells x).length) mm (by rw [List.drop_zero, List.take_length])) (by rw [GT.len, hl1, hsz, ← Nat.succ_mul]; exact Nat.mul_le_mul_right _ (by omega)) (fun u hu => GT.one x u hu) ?_
        refine s2 ?_
        refine W_DS (pre := [_, _, _, _, _, _, _, _]) (suf := [_]) [50, 53] [] _ pc mix (by kernel_rfl) (by kernel_rfl) rfl ?_
        refine s4 ?_
        rw [e9]
        refine D_slV (g := nb) (o := 0) (n := a0.els.length + 1) (c := cp) (a := ((i + 1 : Nat) : Int)) (b := ((a0.els.length + 1 : Nat) : Int)) GC.none (OpV.t rfl) (optD.some (OpV.t rfl)) optD.none el69.h (by omega) (by omega) (by omega) ?_
        refine s2 ?_
        refine D_slV (g := a0.g) (o := 0) (n := a0.els.length) (c := a0.cap) (a := (i : Int)) (b := ((a0.els.length : Nat) : Int)) GC.none (OpV.t rfl) (optD.some (OpV.t rfl)) optD.none el69.h (by omega) (by omega) (by omega) ?_
        refine s10 ?_
        simp only [Int.toNat_natCast, Int.toNat_zero, sl0, Nat.sub_zero]
        rw [slLt (show i + 1 < cp by omega), slLt (show i < a0.cap by omega)]
        generalize hcs2 : cs1.take (i * 3) ++ GT.cells x ++ cs1.drop (i * 3 + (GT.cells x).length) = cs2
        have hl2 : cs2.length = cp * 3 := by
          have h6 : i * 3 + 3 ≤ cp * 3 := by rw [← Nat.succ_mul]; exact Nat.mul_le_mul_right _ (by omega)
          rw [← hcs2]; simp only [List.length_append, List.length_take, List.length_drop, GT.len, hl1, hsz]; omega
        have hl3 : (rowCells (a0.els.drop i)).length = (a0.els.length - i) * 3 := by rw [length_rowCells, List.length_drop, hsz]
        refine L_cpRaw (q := a0.els.length - i) (vs := rowCells (a0.els.drop i)) rfl rfl rfl el69.h pk (by omega) hl3 (cells_blk (cs := rowCells a0.els ++ a0.tail) (n := (a0.els.length - i) * 3) mm (row_seg a0.els (by omega) a0.tail)) (by rw [hl3, hl2, ← Nat.add_mul]; exact Nat.mul_le_mul_right _ (by omega)) (fun u hu => rowCells_one _ u hu) ?_
        refine s6 ?_
        refine W_conv (fun w h => els_ins i (xs := a0.els) (x := x) pk pk h) ?_
        have hle : (a0.els.take i ++ [x] ++ a0.els.drop i).length = a0.els.length + 1 := by simp [List.length_take, List.length_drop]; omega
        refine W_conv (fun w h => raw_close (τ := T_Up) (g := nb) (e := 129) (cap := cp) (els := a0.els.take i ++ [x] ++ a0.els.drop i) (tail := (((List.replicate (cp - i) ([.string ByteArray.empty, .slice none 0 0, .int .i64 0] : List Value)).flatten).drop 3).drop (rowCells (a0.els.drop i)).length) (ins_new a0.els x (by omega) a0.tail _ cs1 cs2 hcs1.symm hcs2.symm) (by rw [hle]; omega) hc2 (by
            rw [hle, hsz]; simp only [List.length_drop, hl3]
            have h5 : ((List.replicate (cp - i) ([.string ByteArray.empty, .slice none 0 0, .int .i64 0] : List Value)).flatten).length = (cp - i) * 3 := by simp
            have h7 : (cp - i) * 3 = cp * 3 - i * 3 := Nat.sub_mul _ _ _
            have h8 : (a0.els.length - i) * 3 = a0.els.length * 3 - i * 3 := Nat.sub_mul _ _ _
            have h9 : (a0.els.length + 1) * 3 ≤ cp * 3 := Nat.mul_le_mul_right _ hc1
            have h10 : i * 3 ≤ a0.els.length * 3 := Nat.mul_le_mul_right _ (by omega)
            rw [h5]; rw [Nat.add_mul] at h9 ⊢; omega) pk pk h) ?_
        refine s1 ?_
        refine res1 rfl (ResOK.tmp rfl) ⟨⟨some ⟨nb, 0, none⟩, cp, 129, a0.els.take i ++ [x] ++ a0.els.drop i, (((List.replicate (cp - i) ([.string ByteArray.empty, .slice none 0 0, .int .i64 0] : List Value)).flatten).drop 3).drop (rowCells (a0.els.drop i)).length⟩, ?_, ?_, rfl⟩ ms
        · show Value.slice _ _ _ = Value.slice _ _ _
          rw [hle]
        · rw [dat_els, dat_els]
          simp [List.map_take, List.map_drop]
      · have hc2' : a0.els.length + 1 ≤ a0.cap := by have := of_decide_eq_false hc2; omega
        refine s7 ?_
        rw [e8]
        refine L_slV (g := a0.g) (o := 0) (n := a0.els.length) (c := a0.cap) (a := 0) (b := ((a0.els.length + 1 : Nat) : Int)) rfl rfl rfl rfl el69.h (by omega) (by omega) (by omega) ?_
        simp only [Int.toNat_natCast, Int.toNat_zero, sl0, Nat.sub_zero]
        refine s10 ?_
        rw [e9]
        refine L_slV (g := a0.g) (o := 0) (n := a0.els.length + 1) (c := a0.cap) (a := ((i + 1 : Nat) : Int)) (b := ((a0.els.length + 1 : Nat) : Int)) rfl rfl rfl rfl el69.h (by omega) (by omega) (by omega) ?_
        refine L_ovl (T := 69) (TB := 4) (cs := GT.cells x) (ds := rowCells a0.els ++ a0.tail) rfl rfl rfl Try.func141 (by kernel_rfl) (by kernel_rfl) (by kernel_rfl) (by kernel_rfl) el69.h mm mm hbg (by rw [hcl]; omega) ?_
        refine s2 ?_
        refine W_cond rfl (fun hc3 => ?_) (fun hc3 => ?_)
        · refine s1 ?_
          refine W_DS (pre := [_, _, _, _, _, _, _, _]) (suf := [_]) [73, 76] [] _ pc mix (by kernel_rfl) (by kernel_rfl) rfl ?_
          refine s4 ?_
          rw [e9]
          refine D_slV (g := a0.g) (o := 0) (n := a0.els.length + 1) (c := a0.cap) (a := ((i + 1 : Nat) : Int)) (b := ((a0.els.length + 1 : Nat) : Int)) GC.none (OpV.t rfl) (optD.some (OpV.t rfl)) optD.none el69.h (by omega) (by omega) (by omega) ?_
          refine s2 ?_
          refine D_slV (g := a0.g) (o := 0) (n := a0.els.length + 1) (c := a0.cap) (a := (i : Int)) (b := ((a0.els.length + 1 : Nat) : Int)) GC.none (OpV.t rfl) (optD.some (OpV.t rfl)) optD.none el69.h (by omega) (by omega) (by omega) ?_
          refine s10 ?_
          simp only [Int.toNat_natCast, Int.toNat_zero, sl0, Nat.sub_zero]
          rw [slLt (show i + 1 < a0.cap by omega), slLt (show i < a0.cap by omega)]
          have hl3 : (rowCells (a0.els.drop i)).length = (a0.els.length - i) * 3 := by rw [length_rowCells, List.length_drop, hsz]
          refine L_cpRaw (q := a0.els.length - i) (vs := rowCells (a0.els.drop i)) rfl rfl rfl el69.h pk (by omega) hl3 (cells_blk (cs := rowCells a0.els ++ a0.tail) (n := (a0.els.length - i) * 3) mm (row_seg a0.els (by omega) a0.tail)) (by rw [hl3, hcl, ← Nat.add_mul]; exact Nat.mul_le_mul_right _ (by omega)) (fun u hu => rowCells_one _ u hu) ?_
          generalize hcs1 : (rowCells a0.els ++ a0.tail).take ((i + 1) * 3) ++ rowCells (a0.els.drop i) ++ (rowCells a0.els ++ a0.tail).drop ((i + 1) * 3 + (rowCells (a0.els.drop i)).length) = cs1
          have hl1 : cs1.length = a0.cap * 3 := by
            have h6 : (i + 1) * 3 + (a0.els.length - i) * 3 ≤ a0.cap * 3 := by rw [← Nat.add_mul]; exact Nat.mul_le_mul_right _ (by omega)
            rw [← hcs1]; simp only [List.length_append (bs := rowCells (List.drop i a0.els)), List.length_append, List.length_take, List.length_drop, hl3] at hcl ⊢; omega
          refine s5 ?_
          refine L_slV (g := a0.g) (o := 0) (n := a0.els.length + 1) (c := a0.cap) (a := (i : Int)) (b := ((a0.els.length + 1 : Nat) : Int)) rfl rfl rfl rfl el69.h (by omega) (by omega) (by omega) ?_
          simp only [Int.toNat_natCast, Int.toNat_zero, sl0, Nat.sub_zero]
          rw [slLt (show i < a0.cap by omega)]
          refine s1 ?_
          refine L_cpRaw (q := 1) (vs := GT.cells x) rfl rfl rfl el69.h pk (by omega) (by rw [GT.len]; rfl) (cells_blk (n := (GT.cells x).length) mm (by rw [List.drop_zero, List.take_length])) (by rw [GT.len, hl1, hsz, ← Nat.succ_mul]; exact Nat.mul_le_mul_right _ (by omega)) (fun u hu => GT.one x u hu) ?_
          refine s6 ?_
          refine W_conv (fun w h => els_ins i (xs := a0.els) (x := x) pk pk h) ?_
          have hle : (a0.els.take i ++ [x] ++ a0.els.drop i).length = a0.els.length + 1 := by simp [List.length_take, List.length_drop]; omega
          refine W_conv (fun w h => raw_close (τ := T_Up) (g := a0.g) (e := a0.e) (cap := a0.cap) (els := a0.els.take i ++ [x] ++ a0.els.drop i) (tail := a0.tail.drop 3) (ins_shift a0.els x hlt a0.tail cs1 (by rw [hsz]; rw [hsz] at ft; have h9 : (a0.els.length + 1) * 3 ≤ a0.cap * 3 := Nat.mul_le_mul_right _ hc2'; rw [Nat.add_mul] at h9; omega) hcs1.symm) (by rw [hle]; omega) fm (by rw [hle, hsz]; rw [hsz] at ft; simp only [List.length_drop]; have h9 : (a0.els.length + 1) * 3 ≤ a0.cap * 3 := Nat.mul_le_mul_right _ hc2'; rw [Nat.add_mul] at h9 ⊢; omega) pk pk h) ?_
          refine s1 ?_
          refine res1 rfl (ResOK.tmp rfl) ⟨⟨some ⟨a0.g, 0, none⟩, a0.cap, a0.e, a0.els.take i ++ [x] ++ a0.els.drop i, a0.tail.drop 3⟩, ?_, ?_, rfl⟩ ms
          · show Value.slice _ _ _ = Value.slice _ _ _
            rw [hle]
          · rw [dat_els, dat_els]
            simp [List.map_take, List.map_drop]
        · exfalso; simp at hc3
end Go.Proofs.SL
namespace Go.Proofs
open Go.Shelf
def Try.lays189_ren : Go.Shelf.Ren := ⟨fun | 189 => 138 | 125 => 165 | 257 => 164 | 128 => 184 | 129 => 185 | 294 => 175 | 295 => 176 | 296 => 177 | 297 => 178 | 298 => 179 | 299 => 180 | 216 => 181 | 300 => 182 | 301 => 183 | 328 => 189 | 329 => 190 | 330 => 191 | 331 => 192 | 332 => 193 | 215 => 194 | 343 => 195 | n => n, fun | 28 => 34 | 3 => 3 | 46 => 152 | 0 => 0 | 51 => 189 | 53 => 191 | 4 => 4 | 183 => 182 | 182 => 181 | 131 => 116 | 5 => 5 | 9 => 9 | 218 => 194 | 222 => 198 | 228 => 200 | 229 => 172 | n => n, fun | n => n⟩
theorem Try.lays189 : Go.Proofs.Lays.n189 Try.prog Try.lays189_ren := {
  mixed := by kernel_rfl
  f125 := Try.func165.trans (congrArg some (by kernel_rfl))
  f128 := Try.func184.trans (congrArg some (by kernel_rfl))
  f129 := Try.func185.trans (congrArg some (by kernel_rfl))
  f189 := Try.func138.trans (congrArg some (by kernel_rfl))
  f215 := Try.func194.trans (congrArg some (by kernel_rfl))
  f216 := Try.func181.trans (congrArg some (by kernel_rfl))
  f257 := Try.func164.trans (congrArg some (by kernel_rfl))
  f294 := Try.func175.trans (congrArg some (by kernel_rfl))
  f295 := Try.func176.trans (congrArg some (by kernel_rfl))
  f296 := Try.func177.trans (congrArg some (by kernel_rfl))
  f297 := Try.func178.trans (congrArg some (by kernel_rfl))
  f298 := Try.func179.trans (congrArg some (by kernel_rfl))
  f299 := Try.func180.trans (congrArg some (by kernel_rfl))
  f300 := Try.func182.trans (congrArg some (by kernel_rfl))
  f301 := Try.func183.trans (congrArg some (by kernel_rfl))
  f328 := Try.func189.trans (congrArg some (by kernel_rfl))
  f329 := Try.func190.trans (congrArg some (by kernel_rfl))
  f330 := Try.func191.trans (congrArg some (by kernel_rfl))
  f331 := Try.func192.trans (congrArg some (by kernel_rfl))
  f332 := Try.func193.trans (congrArg some (by kernel_rfl))
  f343 := Try.func195.trans (congrArg some (by kernel_rfl))
  t0 := Try.underlying0
  a0 := Try.isAgg0
  z0 := Try.sizeOf0
  v0 := Try.zeroValue0
  t3 := Try.underlying3
  a3 := Try.isAgg3
  z3 := Try.sizeOf3
  v3 := Try.zeroValue3
  t4 := Try.underlying4
  a4 := Try.isAgg4
  z4 := Try.sizeOf4
  v4 := Try.zeroValue4
  t5 := Try.underlying5
  a5 := Try.isAgg5
  z5 := Try.sizeOf5
  v5 := Try.zeroValue5
  t9 := Try.underlying9
  a9 := Try.isAgg9
  z9 := Try.sizeOf9
  v9 := Try.zeroValue9
  t28 := Try.underlying34
  a28 := Try.isAgg34
  z28 := Try.sizeOf34
  v28 := Try.zeroValue34
  t46 := Try.underlying152
  a46 := Try.isAgg152
  z46 := Try.sizeOf152
  v46 := Try.zeroValue152
  t51 := Try.underlying189
  a51 := Try.isAgg189
  z51 := Try.sizeOf189
  v51 := Try.zeroValue189
  t53 := Try.underlying191
  a53 := Try.isAgg191
  z53 := Try.sizeOf191
  v53 := Try.zeroValue191
  t131 := Try.underlying116
  a131 := Try.isAgg116
  z131 := Try.sizeOf116
  v131 := Try.zeroValue116
  t182 := Try.underlying181
  a182 := Try.isAgg181
  z182 := Try.sizeOf181
  v182 := Try.zeroValue181
  t183 := Try.underlying182
  a183 := Try.isAgg182
  z183 := Try.sizeOf182
  v183 := Try.zeroValue182
  t218 := Try.underlying194
  a218 := Try.isAgg194
  z218 := Try.sizeOf194
  v218 := Try.zeroValue194
  t222 := Try.underlying198
  a222 := Try.isAgg198
  z222 := Try.sizeOf198
  v222 := Try.zeroValue198
  t228 := Try.underlying200
  a228 := Try.isAgg200
  z228 := Try.sizeOf200
  v228 := Try.zeroValue200
  t229 := Try.underlying172
  a229 := Try.isAgg172
  z229 := Try.sizeOf172
  v229 := Try.zeroValue172 }
end Go.Proofs
namespace Go.Proofs.SL
open Go
set_option maxHeartbeats 2000000
theorem sl_Sort_intint_walk (w : World) (a0 : TL Int) (r : List Int) (hp : sortIP (GT.dat a0) = some r) : Spec Try.prog 138 [(TL.hdr a0)].toArray w [treeH a0] (fun v M => ∃ (y0 : TL Int), v = .tuple #[] ∧ GT.dat y0 = r ∧ M = [treeH y0] ∧ y0.hdr = a0.hdr) := Spec.sortI w a0 r hp (Any.slices_Sort_int Try.lays189) (Any.slices_Sort_int_none Try.lays189)
end Go.Proofs.SL
namespace Go.Proofs.SL
open Go
variable {Γ : Cx} {l l' : Envl} {M M' M1 M2 F A : List HP} {Qp : Post} {K : Kont} {w0 w : World} {S0 : List Nat}
variable {ops : Array Oper} {fuel : Nat} {listed : Array Bool} {i d : Nat} {o : Oper}
theorem wp_put {P : Program} {a : Act} {next : Act → World → Prop} {Q1 Q2 : Exit → Act → World → Prop} (h1 : ∀ e a w, e ≠ .normal → ¬ Q1 e a w) (hd : ∀ a w, next a w → a.defers = [])
    (h : o.wp P a w next Q1) : o.wp P a w (fun a' w' => (∃ u, a' = a.put o.dst u) ∧ next a' w') Q2 := by
  unfold Oper.wp at h ⊢
  generalize (execOp a.eval o).run P w = r at h ⊢
  cases r with
  | ok n w' =>
    cases n <;> simp only [Oper.upon] at h ⊢
    case value u => exact ⟨⟨u, rfl⟩, h⟩
    case skip => exact ⟨⟨_, rfl⟩, h⟩
    case defer df =>
      have := hd _ _ h
      cases hh : o.dst <;> simp [Act.put, hh] at this
    case enter f args =>
      refine Calls.mono h fun e w'' he => ?_
      cases e with
      | returned u => exact ⟨⟨u, rfl⟩, he⟩
      | panicked c => exact (h1 _ _ _ (by simp) he).elim
      | outgrown =>
        obtain ⟨a, w, hq⟩ := he
        exact (h1 _ _ _ (by simp) hq).elim
    case row row args => exact Rows.mono h fun u w'' he => ⟨⟨u, rfl⟩, he⟩
  | halt x w' =>
    cases x <;> simp only [Oper.upon] at h ⊢
    case panic v => exact (h1 _ _ _ (by simp) h).elim
theorem L_one (h : L Γ [o] l M K) (hg : o.guard = none) {a : Act} (ha : Env a Γ.n l) (hw : Holds Γ.w0 Γ.S0 M w) {Q2 : Exit → Act → World → Prop} :
    o.wp Γ.P a w (fun a' w' => (∃ u, a' = a.put o.dst u) ∧ ∃ l' M', Env a' Γ.n l' ∧ Holds Γ.w0 Γ.S0 M' w' ∧ K l' M') Q2 := by
  have h1 := h #[] a w (fun e a' w' => e = .normal ∧ ∃ l' M', Env a' Γ.n l' ∧ Holds Γ.w0 Γ.S0 M' w' ∧ K l' M') ha hw (fun a' w' l' M' q1 q2 q3 => ⟨rfl, l', M', q1, q2, q3⟩)
  unfold wpList at h1
  simp only [Region.wanted, hg, if_true] at h1
  rcases h1 with h1 | ⟨_, a, w, h1⟩
  · refine Oper.wp_mono (fun a' w' h2 => ⟨h2.1, h2.2.2⟩) (wp_put (fun e a w he hq => he hq.1) (fun a w hq => ?_) h1)
    obtain ⟨_, l', M', h3, _⟩ := hq
    exact h3.defers
  · cases h1.1
def AllIn : List HP → List HP → Prop
  | [], _ => True
  | h :: hs, M => h ∈ M ∧ AllIn hs M
theorem AllIn.mem : ∀ {A M : List HP}, AllIn A M → ∀ x, x ∈ A → x ∈ M
  | _ :: _, _, h, x, hx => by
    rcases List.mem_cons.1 hx with rfl | hx
    · exact h.1
    · exact AllIn.mem h.2 x hx
theorem AllIn.of_mem : ∀ {A M : List HP}, (∀ x, x ∈ A → x ∈ M) → AllIn A M
  | [], _, _ => trivial
  | _ :: _, _, h => ⟨h _ (List.mem_cons_self ..), AllIn.of_mem fun x hx => h x (List.mem_cons_of_mem _ hx)⟩
/-- An operation that yields a value, in whatever world bears the parts A, and does nothing else. -/
structure Pu (Γ : Cx) (A : List HP) (l : Envl) (o : Oper) (d : Nat) (v : Value) : Prop where
  dst : o.dst = some d
  lt : d < Γ.n
  gd : o.guard = none
  pu : ∀ a w, Env a Γ.n l → Sees Γ.w0 Γ.S0 A w → (execOp a.eval o).run Γ.P w = .ok (.value v) w
def AH (Γ : Cx) (ops : Array Oper) (A : List HP) (Qp : Post) (fuel : Nat) (listed : Array Bool) (l : Envl) (M : List HP) : Prop :=
  ∀ a w, Env a Γ.n l → Holds Γ.w0 Γ.S0 M w → wpAnyH Γ.P .any ops (liftQ Γ Qp) (Sees Γ.w0 Γ.S0 A) fuel listed a w
theorem W_AH (A : List HP) {id : Nat} (hm : Γ.P.follows .mixedOrders = true) (h : AH Γ ops A Qp ops.size (Array.replicate ops.size false) l M) : W Γ (.region id ops true) l M Qp := fun a w ha hw =>
  wp_region_held hm (h a w.drew ha hw.drew)
theorem AH_done (hr : Region.ready .any ops listed = []) (h : Qp .normal l M) : AH Γ ops A Qp fuel listed l M := fun _ _ ha hw => wpAnyH_done hr ⟨l, M, ha, hw, h⟩ fuel
theorem AH_take {v : Value} (i : Nat) (hi : ops[i]? = some o) (hp : Pu Γ A l o d v) (hs : Region.noSelect ops = true) (hf : Region.free .any ops listed i = true) (hr : (Region.ready .any ops listed).contains i = true)
    (hA : AllIn A M) (hk : AH Γ ops A Qp fuel (listed.setIfInBounds i true) ((d, v) :: l) M) : AH Γ ops A Qp (fuel + 1) listed l M := fun a w ha hw =>
  wpAnyH_take hi hs hf hr (fun _ _ _ h => h) (.inl ⟨by simp [Region.wanted, hp.gd], fun w hw => hp.pu a w ha hw⟩) (hw.seesSub hA.mem) (hk _ w (by rw [hp.dst]; exact ha.put hp.lt) hw)
theorem drop_get {α : Type} {xs : Array α} {i : Nat} {o : α} {rest : List α} (h : xs.toList.drop i = o :: rest) : xs[i]? = some o := by
  rw [← Array.getElem?_toList]
  have := congrArg (fun l => l[0]?) h
  simpa [List.getElem?_drop] using this
theorem AH_one (i : Nat) {rest' : List Oper} (hi : ops.toList.drop i = o :: rest') (hg : o.guard = none) (hr : Region.ready .any ops listed = [i])
    (h : L Γ [o] l M (fun l' M' => AllIn A M' ∧ AH Γ ops A Qp fuel (listed.setIfInBounds i true) l' M')) : AH Γ ops A Qp (fuel + 1) listed l M := fun a w ha hw =>
  wpAnyH_all hr (by simp) fun j hj => by
    rw [List.mem_singleton.1 hj]
    unfold wpOp
    rw [drop_get hi]
    simp only [Region.wanted, hg, if_true]
    refine .inl (Oper.wp_mono (fun a' w' h1 => ?_) (L_one h hg ha hw))
    obtain ⟨_, l', M', h1, h2, h3, h4⟩ := h1
    exact ⟨h2.seesSub h3.mem, h4 a' w' h1 h2⟩
def emH : HP := ⟨[], fun _ => True, fun _ _ _ h => h⟩
theorem Holds.em (h : Holds w0 S0 M w) : Holds w0 S0 (emH :: M) w := h.reFp (List.Perm.of_eq (by rw [fps_cons]; rfl)) fun x hx => by
  rcases List.mem_cons.1 hx with rfl | hx
  · trivial
  · exact h.prs x hx
/-- The same in two states: an allocation (number al) has not come yet, or it has. -/
def AP (Γ : Cx) (ops : Array Oper) (A : List HP) (Qp : Post) (al da : Nat) (z : List Value) (T : TypeId) (fuel : Nat) (listed : Array Bool) (l : Envl) (M : List HP) : Prop :=
  AH Γ ops A Qp (fuel + 1) listed l M ∧ ∀ b, AH Γ ops A Qp fuel (listed.setIfInBounds al true) ((da, .pointer (some ⟨b, 0, none⟩)) :: l) (blk b z T :: M)
theorem sub_new {da : Nat} {v : Value} (h : l.lookup da = none) : Sub l ((da, v) :: l) := fun t u ht => by
  rw [List.lookup_cons]
  cases hb : t == da with
  | true => have : t = da := by simpa using hb
            subst this; rw [h] at ht; cases ht
  | false => exact ht
variable {al da : Nat} {z : List Value} {T : TypeId}
theorem W_AP (A : List HP) (al da : Nat) (z : List Value) (T : TypeId) (n : Nat) {id : Nat} (hm : Γ.P.follows .mixedOrders = true) (hn : ops.size = n + 1) (h : AP Γ ops A Qp al da z T n (Array.replicate (n + 1) false) l M) : W Γ (.region id ops true) l M Qp :=
  W_AH A hm (by rw [hn]; exact h.1)
theorem AP_take {v : Value} (i : Nat) (hi : ops[i]? = some o) (hp : Pu Γ A l o d v) (hs : Region.noSelect ops = true) (hf : Region.free .any ops listed i = true) (hr : (Region.ready .any ops listed).contains i = true)
    (hf2 : Region.free .any ops (listed.setIfInBounds al true) i = true) (hr2 : (Region.ready .any ops (listed.setIfInBounds al true)).contains i = true) (hda : l.lookup da = none) (hne : Nat.beq d da = false) (hia : Nat.beq i al = false)
    (hA : AllIn A M) (hk : AP Γ ops A Qp al da z T fuel (listed.setIfInBounds i true) ((d, v) :: l) M) : AP Γ ops A Qp al da z T (fuel + 1) listed l M := by
  have hne' : d ≠ da := fun e => by subst e; rw [Nat.beq_refl] at hne; cases hne
  have hia' : i ≠ al := fun e => by subst e; rw [Nat.beq_refl] at hia; cases hia
  refine ⟨AH_take i hi hp hs hf hr hA hk.1, fun b => ?_⟩
  refine AH_take i hi (v := v) (d := d) ⟨hp.dst, hp.lt, hp.gd, fun a w ha hw => hp.pu a w (ha.sub (sub_new hda)) hw⟩ hs hf2 hr2 (AllIn.of_mem fun x hx => List.mem_cons_of_mem _ (hA.mem x hx)) ?_
  rw [Array.setIfInBounds_comm _ _ (Ne.symm hia')]
  intro a w ha hw
  refine hk.2 b a w (ha.sub fun t u ht => ?_) hw
  simp only [List.lookup_cons] at ht ⊢
  cases h1 : t == da with
  | true =>
    have : t = da := by simpa using h1
    subst this
    rw [h1] at ht
    cases h2 : t == d with
    | true => exact (hne' (by simpa using h2 : t = d).symm).elim
    | false => exact ht
  | false => rw [h1] at ht; exact ht
theorem AP_step (i : Nat) {rest' : List Oper} (hi0 : ops.toList.drop i = o :: rest') (hg : o.guard = none) (hr1 : Region.ready .any ops listed = [i, al] ∨ Region.ready .any ops listed = [al, i]) (hr2 : Region.ready .any ops (listed.setIfInBounds al true) = [i])
    (hia : Nat.beq i al = false) (hdst : (o.dst == some da) = false) (hda : l.lookup da = none) {oal : Oper} (hoa : ops[al]? = some oal) (hga : oal.guard = none)
    (hal : ∀ l M, L Γ [oal] l M (fun l' M' => ∃ b, l' = (da, .pointer (some ⟨b, 0, none⟩)) :: l ∧ M' = blk b z T :: M)) (hA : AllIn A M)
    (h : ∀ X, L Γ [o] l (X :: M) (fun l' M' => ∃ M1, Pick X M' M1 ∧ AllIn A M1 ∧ l'.lookup da = none ∧ AP Γ ops A Qp al da z T fuel (listed.setIfInBounds i true) l' M1)) :
    AP Γ ops A Qp al da z T (fuel + 1) listed l M := by
  have hi := drop_get hi0
  have hia' : i ≠ al := fun e => by subst e; rw [Nat.beq_refl] at hia; cases hia
  have two : ∀ b, AH Γ ops A Qp (fuel + 1) (listed.setIfInBounds al true) ((da, .pointer (some ⟨b, 0, none⟩)) :: l) (blk b z T :: M) := fun b a w ha hw =>
    wpAnyH_all hr2 (by simp) fun j hj => by
      rw [List.mem_singleton.1 hj]
      unfold wpOp
      rw [hi]
      simp only [Region.wanted, hg, if_true]
      refine .inl (Oper.wp_mono (fun a' w' h1 => ?_) (L_one (h (blk b z T)) hg (ha.sub (sub_new hda)) hw))
      obtain ⟨⟨u, rfl⟩, l', M', h1, h2, M1, h3, h4, h5, h6⟩ := h1
      have h7 := h2.perm h3.perm
      refine ⟨h7.seesSub fun x hx => List.mem_cons_of_mem _ (h4.mem x hx), ?_⟩
      rw [Array.setIfInBounds_comm _ _ (Ne.symm hia')]
      refine h6.2 b _ w' ⟨h1.size, h1.defers, fun t v ht => ?_⟩ h7
      rw [List.lookup_cons] at ht
      cases hb : t == da with
      | true =>
        have : t = da := by simpa using hb
        subst this
        rw [hb] at ht
        cases ht
        have h8 := ha.get t (.pointer (some ⟨b, 0, none⟩)) (by simp [List.lookup_cons])
        cases hd : o.dst with
        | none => exact h8
        | some d =>
          have hne : d ≠ t := fun e => by subst e; rw [hd] at hdst; simp at hdst
          simp only [Act.put]
          rw [Array.getElem?_setIfInBounds_ne hne]
          exact h8
      | false => rw [hb] at ht; exact h1.get t v ht
  have one : ∀ a w, Env a Γ.n l → Holds Γ.w0 Γ.S0 M w → ∀ j, j = i ∨ j = al → wpOp Γ.P ops (liftQ Γ Qp) j (fun a' w' => Sees Γ.w0 Γ.S0 A w' ∧ wpAnyH Γ.P .any ops (liftQ Γ Qp) (Sees Γ.w0 Γ.S0 A) (fuel + 1) (listed.setIfInBounds j true) a' w') a w := fun a w ha hw j hj => by
    rcases hj with rfl | rfl
    · unfold wpOp
      rw [hi]
      simp only [Region.wanted, hg, if_true]
      refine .inl (Oper.wp_mono (fun a' w' h1 => ?_) (L_one (h emH) hg ha hw.em))
      obtain ⟨_, l', M', h1, h2, M1, h3, h4, h5, h6⟩ := h1
      have h7 := (h2.perm h3.perm).sub (M' := M1) ⟨[emH], List.perm_append_comm (l₁ := [emH])⟩
      exact ⟨h7.seesSub h4.mem, h6.1 a' w' h1 h7⟩
    · unfold wpOp
      rw [hoa]
      simp only [Region.wanted, hga, if_true]
      refine .inl (Oper.wp_mono (fun a' w' h1 => ?_) (L_one (hal l M) hga ha hw))
      obtain ⟨_, l', M', h1, h2, b, rfl, rfl⟩ := h1
      exact ⟨h2.seesSub fun x hx => List.mem_cons_of_mem _ (hA.mem x hx), two b a' w' h1 h2⟩
  refine ⟨fun a w ha hw => ?_, two⟩
  rcases hr1 with hr | hr
  · exact wpAnyH_all hr (by simp) fun j hj => one a w ha hw j (by simpa using hj)
  · exact wpAnyH_all hr (by simp) fun j hj => one a w ha hw j ((by simpa using hj : j = al ∨ j = i).symm)
theorem AP_end (hr : Region.ready .any ops listed = [al]) {oal : Oper} {rest' : List Oper} (hoa : ops.toList.drop al = oal :: rest') (hga : oal.guard = none)
    (hal : ∀ l M, L Γ [oal] l M (fun l' M' => ∃ b, l' = (da, .pointer (some ⟨b, 0, none⟩)) :: l ∧ M' = blk b z T :: M)) (hA : AllIn A M)
    (h : ∀ b, AH Γ ops A Qp fuel (listed.setIfInBounds al true) ((da, .pointer (some ⟨b, 0, none⟩)) :: l) (blk b z T :: M)) : AP Γ ops A Qp al da z T fuel listed l M :=
  ⟨AH_one al hoa hga hr fun ops' a w Q ha hw hq => hal l M ops' a w Q ha hw fun a' w' l' M' h1 h2 ⟨b, h3, h4⟩ => hq a' w' l' M' h1 h2 (by
    subst h3; subst h4
    exact ⟨AllIn.of_mem fun x hx => List.mem_cons_of_mem _ (hA.mem x hx), h b⟩), h⟩
/-! Small steps that may be taken first -/
section
variable {ty : TypeId} {pos : String} {af : Array Edge} {P : Program}
theorem PU_pure {op : Op} {v : Value} (hn : Nat.blt d Γ.n = true) (he : ∀ a w, Env a Γ.n l → Sees Γ.w0 Γ.S0 A w → (execOp a.eval { dst := some d, op, type := ty, pos, after := af, guard := none }).run Γ.P w = .ok (.value v) w) :
    Pu Γ A l { dst := some d, op, type := ty, pos, after := af, guard := none } d v := ⟨rfl, Nat.le_of_ble_eq_true hn, rfl, he⟩
theorem PU_move {x : Operand} {v : Value} (hn : Nat.blt d Γ.n = true) (hx : ev l x = some v) : Pu Γ A l { dst := some d, op := .move x, type := ty, pos, after := af, guard := none } d v :=
  PU_pure hn fun a w ha _ => by simp [execOp, ha.eval hx]
theorem PU_fieldAddr {x : Operand} {T f fo g o : Nat} (hn : Nat.blt d Γ.n = true) (hx : ev l x = some (.pointer (some ⟨g, o, none⟩))) (ht : fldOf Γ.P T f = some fo) :
    Pu Γ A l { dst := some d, op := .fieldAddr T x f, type := ty, pos := pos, after := af, guard := none } d (.pointer (some ⟨g, o + fo, none⟩)) :=
  PU_pure hn fun a w ha hw => by
    unfold fldOf at ht
    split at ht <;> (try cases ht)
    rename_i fs hfs
    split at ht <;> (try cases ht)
    rename_i x' hx'
    split at ht <;> (try cases ht)
    rename_i i hi
    split at ht <;> cases ht
    rename_i hsz
    simp [execOp, ha.eval hx, Instr.fieldAt, underlying, hfs, hx', Instr.sureAddr, fieldPlace, sizeOf, typeInfo, hi, hsz, addr_add]
theorem PU_load {x : Operand} {T g off fo : Nat} {cs : List Value} {v : Value} (hn : Nat.blt d Γ.n = true) (hx : ev l x = some (.pointer (some ⟨g, off + fo, none⟩))) (hc : RdC Γ A g off cs) (ht : oneOf Γ.P T = true)
    (hv : cs[fo]? = some v) : Pu Γ A l { dst := some d, op := .load T x, type := ty, pos := pos, after := af, guard := none } d v :=
  PU_pure hn fun a' w ha hw => by simp [execOp, ha.eval hx, Instr.loadAt, Instr.sureAddr, loadVar, run_isAgg_one ht, hc w hw fo v hv]
theorem PU_loadW {x : Operand} {T g off : Nat} {cs : List Value} (hn : Nat.blt d Γ.n = true) (hx : ev l x = some (.pointer (some ⟨g, off, none⟩))) (hc : RdC Γ A g off cs) (ht : aggOf Γ.P T = some cs.length) :
    Pu Γ A l { dst := some d, op := .load T x, type := ty, pos := pos, after := af, guard := none } d (.agg cs.toArray) :=
  PU_pure hn fun a' w ha hw => by
    have hl := run_loadCells_at (P := Γ.P) (hc w hw)
    simp [execOp, ha.eval hx, Instr.loadAt, Instr.sureAddr, loadVar, run_isAgg_agg ht, hl]
section
variable {τ δ : Type} [GT τ δ]
end
end
/-- From here on more is to be kept for the small steps. -/
theorem wpAnyH_S {P : Program} {Q : Exit → Act → World → Prop} {S S' : World → Prop} (hs : ∀ w, S' w → S w) : ∀ (fuel : Nat) (listed : Array Bool) (a : Act) (w : World), wpAnyH P .any ops Q S' fuel listed a w → wpAnyH P .any ops Q S fuel listed a w
  | 0, _, _, _, h => h
  | fuel + 1, _, _, _, h => ⟨h.1, fun i hi => wpOp_mono (fun a' w' h' => ⟨hs _ h'.1, wpAnyH_S hs fuel _ a' w' h'.2⟩) (h.2 i hi)⟩
theorem AH_A (A' : List HP) (hs : AllIn A A') (h : AH Γ ops A' Qp fuel listed l M) : AH Γ ops A Qp fuel listed l M := fun a w ha hw =>
  wpAnyH_S (fun w h => ⟨h.old, fun x hx => h.prs x (hs.mem x hx)⟩) _ _ _ _ (h a w ha hw)
theorem AP_A (A' : List HP) (hs : AllIn A A') (h : AP Γ ops A' Qp al da z T fuel listed l M) : AP Γ ops A Qp al da z T fuel listed l M := ⟨AH_A A' hs h.1, fun b => AH_A A' hs (h.2 b)⟩
end Go.Proofs.SL
namespace Go.Proofs.SL
open Go
variable {Γ : Cx} {l : Envl} {M M' M1 M2 F Mr : List HP} {Q : Post} {K : Kont} {w0 w : World} {S0 S : List Nat} {P : Program}
variable {rest : List Oper} {d : Nat} {ty : TypeId} {pos : String} {af : Array Edge}
/-- Elements that can be read, without their row. -/
structure EL (τ : Type) where
  els : List τ
instance {τ δ : Type} [GT τ δ] : GT (EL τ) Unit where
  sz := 1
  pos := by decide
  cells _ := [.bool false]
  len _ := rfl
  one _ v hv := by simp at hv; subst hv; rfl
  rd w S t := ∀ x, x ∈ t.els → GT.rd w S x
  fp _ := []
  ow _ _ := False
  dat _ := ()
  rd_mono h hm := fun x hx => GT.rd_mono (h x hx) hm
  ow_st _ h := h
  ow_rd h _ := h.elim
section
variable {τ δ : Type} [GT τ δ] {t : τ}
theorem no_fp (hw : Holds w0 S0 (M1 ++ M2) w) {h : HP} (hm : h ∈ M2) : ∀ k, k ∈ h.fp → k ∉ fps M1 := fun k hk hk1 => by
  have hnd := hw.nodup
  rw [fps_append] at hnd
  exact (List.nodup_append.1 hnd).2.2 k hk1 k (List.mem_flatMap.2 ⟨_, hm, hk⟩) rfl
theorem RdT.els {xs : List τ} (h : elsT xs ∈ M) : RdT Γ M (EL.mk xs) := fun w hw x hx => GT.ow_rd (hw.prs _ h x hx) fun _ _ h => by cases h
theorem RdT.elOf {X : TL τ} {j : Nat} {x : τ} (h : RdT Γ M (EL.mk X.els)) (hi : X.els[j]? = some x) : RdT Γ M x := fun w hw => h w hw x (List.mem_of_getElem? hi)
theorem RdX.els {xs : List τ} (h : elsT xs ∈ M2) : RdX Γ M1 M2 (EL.mk xs) := fun w hw x hx => GT.ow_rd (hw.prs _ (List.mem_append_right _ h) x hx) fun k hk => no_fp hw h k (List.mem_flatMap.2 ⟨x, hx, hk⟩)
theorem RdX.elOf {X : TL τ} {j : Nat} {x : τ} (h : RdX Γ M1 M2 (EL.mk X.els)) (hi : X.els[j]? = some x) : RdX Γ M1 M2 x := fun w hw => h w hw x (List.mem_of_getElem? hi)
end
/-! Evidence of one world, out of parts -/
structure PC (Mr : List HP) (w : World) (S : List Nat) : Prop where
  prs : ∀ h, h ∈ Mr → h.pr w
  ds : ∀ k, k ∈ fps Mr → k ∉ S
theorem PC.fp (h : PC Mr w S) {x : HP} (hm : x ∈ Mr) : ∀ k, k ∈ x.fp → k ∉ S := fun k hk => h.ds k (List.mem_flatMap.2 ⟨x, hm, hk⟩)
def RdP {τ δ : Type} [GT τ δ] (Mr : List HP) (w : World) (S : List Nat) (t : τ) : Prop := PC Mr w S → GT.rd w S t
section
variable {τ δ : Type} [GT τ δ] {t : τ}
theorem RdP.old (h : GT.rd w S t) : RdP Mr w S t := fun _ => h
theorem RdP.tree (h : treeH t ∈ Mr) : RdP Mr w S t := fun hp => GT.ow_rd (hp.prs _ h) (hp.fp h)
theorem RdP.fst {α β δ ε : Type} [GT α δ] [GT β ε] {t : α × β} (h : RdP Mr w S t) : RdP Mr w S t.1 := fun hp => (h hp).1
theorem RdP.snd {α β δ ε : Type} [GT α δ] [GT β ε] {t : α × β} (h : RdP Mr w S t) : RdP Mr w S t.2 := fun hp => (h hp).2
theorem RdP.of {X : TL τ} {j : Nat} {x : τ} (h : RdP Mr w S X) (hi : X.els[j]? = some x) : RdP Mr w S x := fun hp => (h hp).2.2.1 x (List.mem_of_getElem? hi)
theorem RdP.pair {α β δ ε : Type} [GT α δ] [GT β ε] {a : α} {b : β} (h1 : RdP Mr w S a) (h2 : RdP Mr w S b) : RdP Mr w S (a, b) := fun hp => ⟨h1 hp, h2 hp⟩
theorem RdP.int {n : Int} : RdP Mr w S n := fun _ => trivial
theorem RdP.bool {n : Bool} : RdP Mr w S n := fun _ => trivial
theorem RdP.str {n : ByteArray} : RdP Mr w S n := fun _ => trivial
theorem RdP.u8 {n : UInt8} : RdP Mr w S n := fun _ => trivial
theorem RdP.nil (e : TypeId) : RdP Mr w S (TL.nil τ e) := fun _ => nil_rd e
theorem RdP.map {α δ' : Type} [GT α δ'] {a : α} (f : ∀ w S, GT.rd w S a → GT.rd w S t) (h : RdP Mr w S a) : RdP Mr w S t := fun hp => f w _ (h hp)
theorem RdP.els {xs : List τ} (h : elsT xs ∈ Mr) : RdP Mr w S (EL.mk xs) := fun hp x hx => GT.ow_rd (hp.prs _ h x hx) fun k hk => hp.fp h k (List.mem_flatMap.2 ⟨x, hx, hk⟩)
theorem RdP.elOf {X : TL τ} {j : Nat} {x : τ} (h : RdP Mr w S (EL.mk X.els)) (hi : X.els[j]? = some x) : RdP Mr w S x := fun hp => h hp x (List.mem_of_getElem? hi)
end
/-! A flat slice that is read alone, in a block of one's own -/
section
variable {τ δ : Type} [GT τ δ] [FlatT τ]
theorem flat_rd (x : τ) (w : World) (S : List Nat) : GT.rd w S x := GT.ow_rd ((FlatT.flat x).ow w) fun k hk => by rw [(FlatT.flat x).fp] at hk; cases hk
def slB (Y : TL τ) : List Nat := match Y.a with | none => [] | some a => [a.block]
theorem rd_block {Y : TL τ} {w w' : World} {S S' : List Nat} (h : GT.rd w S Y) (hb : ∀ k, k ∈ slB Y → w'.heap[k]? = w.heap[k]?) (hs : ∀ k, k ∈ slB Y → k ∉ S') : GT.rd w' S' Y :=
  ⟨h.1, h.2.1, fun x _ => flat_rd x _ _, h.2.2.2.1, fun a ha => ⟨(h.2.2.2.2 a ha).1, fun j v hv => by
    have h1 := (h.2.2.2.2 a ha).2 j v hv
    have h2 : a.block ∈ slB Y := by unfold slB; rw [ha]; simp
    exact ⟨by rw [World.cell?_of_block (w := w) (a := ⟨a.block, a.off + j, none⟩) (hb _ h2)]; exact h1.1, hs _ h2⟩⟩⟩
def flH (Y : TL τ) : HP := ⟨slB Y, fun w => GT.rd w [] Y, fun _ _ hb h => rd_block h hb fun _ _ h => by cases h⟩
theorem RdT.fl {Y : TL τ} (h : flH Y ∈ M) : RdT Γ M Y := fun _ hw => hw.prs _ h
theorem RdX.fl {Y : TL τ} (h : flH Y ∈ M2) : RdX Γ M1 M2 Y := fun _ hw => rd_block (hw.prs (flH Y) (List.mem_append_right _ h)) (fun _ _ => rfl) (no_fp hw h)
theorem RdP.fl {Y : TL τ} (h : flH Y ∈ Mr) : RdP Mr w S Y := fun hp => rd_block (hp.prs (flH Y) h) (fun _ _ => rfl) (hp.fp h)
end
section
variable {τ δ : Type} [GT τ δ]
end
section
variable {τ δ : Type} [GT τ δ] [FlatT τ]
end
section
variable {τ δ : Type} [GT τ δ]
end
end Go.Proofs.SL
namespace Go.Proofs.SL
open Go
set_option maxHeartbeats 2000000
instance fn105 : FnF Try.prog 105 := ⟨⟨_, Try.func105, by kernel_rfl, rfl⟩⟩
instance fn138 : FnF Try.prog 138 := ⟨⟨_, Try.func138, by kernel_rfl, rfl⟩⟩
instance fn101 : FnF Try.prog 101 := ⟨⟨_, Try.func101, by kernel_rfl, rfl⟩⟩
instance fn103 : FnF Try.prog 103 := ⟨⟨_, Try.func103, by kernel_rfl, rfl⟩⟩
instance fn102 : FnF Try.prog 102 := ⟨⟨_, Try.func102, by kernel_rfl, rfl⟩⟩
instance fn95 : FnF Try.prog 95 := ⟨⟨_, Try.func95, by kernel_rfl, rfl⟩⟩
instance fn96 : FnF Try.prog 96 := ⟨⟨_, Try.func96, by kernel_rfl, rfl⟩⟩
instance fn99 : FnF Try.prog 99 := ⟨⟨_, Try.func99, by kernel_rfl, rfl⟩⟩
instance fn107 : FnF Try.prog 107 := ⟨⟨_, Try.func107, by kernel_rfl, rfl⟩⟩
instance fn106 : FnF Try.prog 106 := ⟨⟨_, Try.func106, by kernel_rfl, rfl⟩⟩
instance fn108 : FnF Try.prog 108 := ⟨⟨_, Try.func108, by kernel_rfl, rfl⟩⟩
noncomputable def i_with (a0 : List Int) (a1 : Int) : Option (List Int) :=
  Option.bind (appP ([] : List Int) a0) (fun y2 => Option.bind (sl_Contains_intint y2 a1) (fun y3 => cond (!y3) (Option.bind (appP y2 [a1]) (fun y6 => Option.bind (sortIP y6) (fun y7 => some y7))) (Option.bind (sortIP y2) (fun y8 => some y8))))
theorem i_with_walk (w : World) (a0 : TL Int) (a1 : Int) (h0 : GT.rd w [] a0) (r : (List Int)) (hp : i_with (GT.dat a0) a1 = some r) : Spec Try.prog 96 [(TL.hdr a0), .int .i64 a1].toArray w [] (fun v M => ∃ (x0 : TL Int), v = (TL.hdr x0) ∧ GT.dat x0 = r ∧ M = [treeH x0]) := by
  refine Spec.intro Try.func96 rfl Try.ntmps96 rfl ?_
  unfold i_with at hp
  replace hp := dd hp
  refine s2 ?_
  refine L_assign (v := (TL.hdr (TL.nil Int 0))) rfl rfl ?_
  refine s4 ?_
  refine L_conv (M' := treeH (TL.nil Int 0) :: _) (fun w h => addNilT _ h) ?_
  replace hp := ba hp; obtain ⟨y2, hy2, hp⟩ := hp
  refine L_appT (X := (TL.nil Int 0)) (Y := a0) rfl rfl rfl el34.h rfl rfl pk (RdT.old h0) hy2 (by decide) (fun X1 hdX1 => ?_)
  subst hdX1
  refine s7 ?_
  replace hp := ba hp; obtain ⟨y3, hy3, hp⟩ := hp
  refine L_callX rfl fn105.h rfl (by exact fun w hw => sl_Contains_intint_walk w X1 a1 (RdT.now (RdT.tree mm) hw) _ hy3) ?_
  refine s2 ?_
  refine kp [1, 5, 11] ?_
  refine W_cond rfl (fun hc4 => ?_) (fun hc4 => ?_)
  · replace hp := cond_t hc4 hp
    refine s3 ?_
    refine L_buildSlice1 rfl rfl el34.h rfl (by decide) (by decide) rfl (fun bb14 => ?_)
    replace hp := ba hp; obtain ⟨y6, hy6, hp⟩ := hp
    refine L_app1F (X := X1) (a1 : Int) rfl rfl rfl el34.h rfl rfl pk mm  hy6 (by decide) (fun X5 hdX5 => ?_)
    subst hdX5
    refine s5 ?_
    replace hp := ba hp; obtain ⟨y7, hy7, hp⟩ := hp
    refine L_callM [treeH X5] _ rfl fn138.h rfl pc (by exact fun w hw => sl_Sort_intint_walk w X5  _ hy7) ?_
    rintro _ _ ⟨y7y0, rfl, rfl, rfl, hey7_0⟩
    try rw [← hey7_0]
    refine sc ?_
    replace hp := dd hp
    refine s6 ?_
    obtain rfl := Option.some.inj hp
    refine s1 ?_
    refine res1 rfl (ResOK.tmp rfl) ⟨y7y0, rfl, rfl, rfl⟩ ms
  · replace hp := cond_f hc4 hp
    refine s4 ?_
    replace hp := ba hp; obtain ⟨y8, hy8, hp⟩ := hp
    refine L_callM [treeH X1] _ rfl fn138.h rfl pc (by exact fun w hw => sl_Sort_intint_walk w X1  _ hy8) ?_
    rintro _ _ ⟨y8y0, rfl, rfl, rfl, hey8_0⟩
    try rw [← hey8_0]
    refine sc ?_
    replace hp := dd hp
    refine s6 ?_
    obtain rfl := Option.some.inj hp
    refine s1 ?_
    refine res1 rfl (ResOK.tmp rfl) ⟨y8y0, rfl, rfl, rfl⟩ ms
noncomputable def s_UpAck (a0 : D_Ups) (a1 : ByteArray) (a2 : Int) : Option (D_Ups × Bool) :=
  Option.bind (s_UpsOk (a0.1, a0.2)) (fun y1 => cond (!y1) (some ((0, ([] : List D_Up)), false)) (Option.bind (s_l18At (a0.1, a0.2) a1) (fun y3 => Option.bind (some ([] : List Int)) (fun y5 => cond (decide (0 ≤ y3)) (Option.bind (idx a0.2 y3) (fun y7 => Option.bind (s_l18With y7.2.1 a2 true) (fun y8 => Option.bind (s_l18Copy (a0.1, a0.2)) (fun y9 => Option.bind (s_l18Set (y9.1, y9.2) (a1, y8, a0.1)) (fun y10 => Option.bind (s_l9Node a2) (fun y11 => gb (!(!y11)) (s_UpsOk (y10.1, y10.2)) (fun y12 => cond ((!y11) || (!y12)) (Option.bind (s_l18Copy (a0.1, a0.2)) (fun y14 => some ((y14.1, y14.2), false))) (some ((y10.1, y10.2), true))))))))) (Option.bind (s_l18With y5 a2 true) (fun y15 => Option.bind (s_l18Copy (a0.1, a0.2)) (fun y16 => Option.bind (s_l18Set (y16.1, y16.2) (a1, y15, a0.1)) (fun y17 => Option.bind (s_l9Node a2) (fun y18 => gb (!(!y18)) (s_UpsOk (y17.1, y17.2)) (fun y19 => cond ((!y18) || (!y19)) (Option.bind (s_l18Copy (a0.1, a0.2)) (fun y21 => some ((y21.1, y21.2), false))) (some ((y17.1, y17.2), true))))))))))))
theorem s_UpAck_walk (w : World) (a0 : T_Ups) (a1 : ByteArray) (a2 : Int) (h0 : GT.rd w [] a0) (r : D_Ups × Bool) (hp : s_UpAck (GT.dat a0) a1 a2 = some r) : Spec Try.prog 43 [.agg (GT.cells a0).toArray, .string a1, .int .i64 a2].toArray w [] (fun v M => ∃ (x0 : T_Ups) (x1 : Bool), v = .tuple #[.agg (GT.cells x0).toArray, .bool x1] ∧ (GT.dat x0, GT.dat x1) = r ∧ M = [treeH x0]) := by
  obtain ⟨a0_1, a0_2⟩ := a0
  change Spec _ _ ([Value.agg #[.int .i64 a0_1, (TL.hdr a0_2)], .string a1, .int .i64 a2] : List Value).toArray w [] _
  refine Spec.intro Try.func43 rfl Try.ntmps43 rfl ?_
  unfold s_UpAck at hp
  replace hp := dd hp
  refine s2 ?_
  refine bx fun bk3 => ?_
  refine al fun bk6 => ?_
  refine s6 ?_
  replace hp := ba hp; obtain ⟨y1, hy1, hp⟩ := hp
  refine L_callX rfl fn48.h rfl (by exact fun w hw => s_UpsOk_walk w (a0_1, a0_2) (RdT.now (RdT.pair RdT.int (RdT.old h0.2)) hw) _ hy1) ?_
  refine s2 ?_
  refine kp [1, 2, 3, 6, 14] ?_
  refine W_cond rfl (fun hc2 => ?_) (fun hc2 => ?_)
  · replace hp := cond_t hc2 hp
    refine s2 ?_
    refine L_build (xs := []) (cs := [.int .i64 0, (TL.hdr (TL.nil T_Up 0))]) rfl rfl bld71.h rfl ?_
    refine s3 ?_
    obtain rfl := Option.some.inj hp
    refine W_conv (M' := treeH (TL.nil T_Up 0) :: _) (fun w h => addNilT (τ := T_Up) 0 h) ?_
    refine jW ((0, (TL.nil T_Up 0)) : T_Ups) ?_
    refine s1 ?_
    refine res2 rfl (ResOK.cell rfl mm (by exact agg71.h)) (ResOK.tmp rfl) ⟨(0, (TL.nil T_Up 0)), false, rfl, rfl, rfl⟩ ms
  · replace hp := cond_f hc2 hp
    refine s6 ?_
    refine L_build (xs := [(0, .tmp 16), (2, .tmp 18)]) (cs := [.string a1, (TL.hdr (TL.nil Int 0)), .int .i64 a0_1]) rfl rfl bld129.h rfl ?_
    refine al fun bk8 => ?_
    refine s6 ?_
    replace hp := ba hp; obtain ⟨y3, hy3, hp⟩ := hp
    refine L_callX rfl fn100.h rfl (by exact fun w hw => s_l18At_walk w (a0_1, a0_2) a1 (RdT.now (RdT.pair RdT.int (RdT.old h0.2)) hw) _ hy3) ?_
    refine s4 ?_
    replace hp := ba hp; obtain ⟨y5, hy5, hp⟩ := hp
    refine L_mk0 Int rfl el34.h (fun X4 hdX4 => ?_)
    obtain rfl : GT.dat X4 = y5 := hdX4.trans (Option.some.inj hy5)
    clear hy5 hdX4
    refine s8 ?_
    refine kp [2, 3, 6, 8, 9, 10, 25] ?_
    refine W_cond rfl (fun hc6 => ?_) (fun hc6 => ?_)
    · replace hp := cond_t hc6 hp
      refine s4 ?_
      replace hp := idx_bind hp; obtain ⟨⟨u7_1, u7_2, u7_3⟩, hy7, hp⟩ := hp
      refine L_idxA (X := a0_2) rfl rfl rfl el69.h (RdT.old h0.2) hy7 ?_
      refine s1 ?_
      refine L_load rfl rfl (RdT.at (RdT.old h0.2) (hy7).2) one34.h rfl ?_
      refine s6 ?_
      replace hp := ba hp; obtain ⟨y8, hy8, hp⟩ := hp
      refine L_callR rfl fn101.h rfl (by exact fun w hw => s_l18With_walk w u7_2 a2 true (RdT.now (RdT.fst (RdT.snd (RdT.of (RdT.old h0.2) (hy7).2))) hw) _ hy8) ?_
      rintro _ _ ⟨y8x0, rfl, rfl, rfl⟩
      refine sc ?_
      replace hp := dd hp
      refine s4 ?_
      replace hp := ba hp; obtain ⟨y9, hy9, hp⟩ := hp
      replace hp := ba hp; obtain ⟨y10, hy10, hp⟩ := hp
      refine W_DS (pre := [_, _, _, _, _]) (suf := [_]) [11, 39] [treeH y8x0] _ pc mix (by kernel_rfl) (by kernel_rfl) rfl ?_
      refine s1 ?_
      refine D_call1R (fun v M => ∃ (x0 : T_Ups), v = .agg (GT.cells x0).toArray ∧ GT.dat x0 = y9 ∧ M = [treeH x0]) fn103.h (OpVs.cons (OpV.t rfl) (OpVs.nil)) (by exact fun w F hF hM => s_l18Copy_walk w (a0_1, a0_2) (RdT.nowS (RdT.pair RdT.int (RdT.old h0.2)) hF hM) _ hy9) ?_
      refine s1 ?_
      refine D_callC (t := 37) (fun v M => ∃ (x0 : T_Ups), v = .agg (GT.cells x0).toArray ∧ GT.dat x0 = y9 ∧ M = [treeH x0]) (fun v M => ∃ (x0 : T_Ups), v = .agg (GT.cells x0).toArray ∧ GT.dat x0 = y10 ∧ M = [treeH x0]) [treeH y8x0] (fun u => [u, .agg #[.string a1, (TL.hdr y8x0), .int .i64 a0_1]]) pc rfl fn102.h (fun u => (OpVs.cons (OpV.t rfl) (OpVs.cons (OpV.t rfl) (OpVs.nil)))) (by rintro w F v M ⟨q0, rfl, hd, rfl⟩ hw hM; obtain ⟨q0_1, q0_2⟩ := q0; subst hd; exact Spec.pre (M' := [treeH q0_2, treeH y8x0]) (fun _ _ h => Exp.h (t := ((q0_1, q0_2) : T_Ups)) ex pk h) (s_l18Set_walk w (q0_1, q0_2) (a1, y8x0, a0_1)  _ hy10)) (by kernel_rfl) ?_
      refine D_alloc zero71.h ?_
      refine s1 ?_
      refine Give_R rfl rfl ?_
      rintro _ _ ⟨bk11, rfl, rfl⟩
      simp only [List.cons_append, List.nil_append]
      refine Give_R rfl rfl ?_
      rintro _ _ ⟨⟨y10x0_1, y10x0_2⟩, rfl, rfl, rfl⟩
      refine s4 ?_
      refine sc ?_
      replace hp := dd hp
      refine xL ((y10x0_1, y10x0_2) : T_Ups) ?_
      refine s4 ?_
      replace hp := ba hp; obtain ⟨y11, hy11, hp⟩ := hp
      replace hp := gb_any hp; obtain ⟨y12, hy12, hp⟩ := hp
      refine W_D0 [47] mix (by kernel_rfl) rfl ?_
      refine s1 ?_
      refine D_callX GC.none fn104.h (OpVs.cons (OpV.t rfl) (OpVs.nil)) (by exact fun hg w F hF hM => s_l9Node_walk w a2  _ hy11) ?_
      refine s3 ?_
      refine D_callX (GC.some rfl rfl) fn48.h (OpVs.cons (OpV.s rfl) (OpVs.nil)) (by exact fun hg w F hF hM => s_UpsOk_walk w (y10x0_1, y10x0_2) (RdT.nowS (RdT.pair RdT.int (RdT.tree mm)) hF hM) _ (hy12 (gnot hg.2))) ?_
      refine s12 ?_
      refine kp [3, 6, 11, 47] ?_
      refine W_cond rfl (fun hc13 => ?_) (fun hc13 => ?_)
      · replace hp := cond_t hc13 hp
        refine s3 ?_
        replace hp := ba hp; obtain ⟨y14, hy14, hp⟩ := hp
        refine L_callR rfl fn103.h rfl (by exact fun w hw => s_l18Copy_walk w (a0_1, a0_2) (RdT.now (RdT.pair RdT.int (RdT.old h0.2)) hw) _ hy14) ?_
        rintro _ _ ⟨⟨y14x0_1, y14x0_2⟩, rfl, rfl, rfl⟩
        refine sc ?_
        replace hp := dd hp
        refine xL ((y14x0_1, y14x0_2) : T_Ups) ?_
        refine s3 ?_
        obtain rfl := Option.some.inj hp
        refine jW ((y14x0_1, y14x0_2) : T_Ups) ?_
        refine s1 ?_
        refine res2 rfl (ResOK.cell rfl mm (by exact agg71.h)) (ResOK.tmp rfl) ⟨(y14x0_1, y14x0_2), false, rfl, rfl, rfl⟩ ms
      · replace hp := cond_f hc13 hp
        refine s7 ?_
        obtain rfl := Option.some.inj hp
        refine jW ((y10x0_1, y10x0_2) : T_Ups) ?_
        refine s1 ?_
        refine res2 rfl (ResOK.cell rfl mm (by exact agg71.h)) (ResOK.tmp rfl) ⟨(y10x0_1, y10x0_2), true, rfl, rfl, rfl⟩ ms
    · replace hp := cond_f hc6 hp
      refine s5 ?_
      replace hp := ba hp; obtain ⟨y15, hy15, hp⟩ := hp
      refine L_callR rfl fn101.h rfl (by exact fun w hw => s_l18With_walk w X4 a2 true (RdT.now (RdT.tree mm) hw) _ hy15) ?_
      rintro _ _ ⟨y15x0, rfl, rfl, rfl⟩
      refine sc ?_
      replace hp := dd hp
      refine s4 ?_
      replace hp := ba hp; obtain ⟨y16, hy16, hp⟩ := hp
      replace hp := ba hp; obtain ⟨y17, hy17, hp⟩ := hp
      refine W_DS (pre := [_, _, _, _, _]) (suf := [_]) [11, 39] [treeH y15x0] _ pc mix (by kernel_rfl) (by kernel_rfl) rfl ?_
      refine s1 ?_
      refine D_call1R (fun v M => ∃ (x0 : T_Ups), v = .agg (GT.cells x0).toArray ∧ GT.dat x0 = y16 ∧ M = [treeH x0]) fn103.h (OpVs.cons (OpV.t rfl) (OpVs.nil)) (by exact fun w F hF hM => s_l18Copy_walk w (a0_1, a0_2) (RdT.nowS (RdT.pair RdT.int (RdT.old h0.2)) hF hM) _ hy16) ?_
      refine s1 ?_
      refine D_callC (t := 37) (fun v M => ∃ (x0 : T_Ups), v = .agg (GT.cells x0).toArray ∧ GT.dat x0 = y16 ∧ M = [treeH x0]) (fun v M => ∃ (x0 : T_Ups), v = .agg (GT.cells x0).toArray ∧ GT.dat x0 = y17 ∧ M = [treeH x0]) [treeH y15x0] (fun u => [u, .agg #[.string a1, (TL.hdr y15x0), .int .i64 a0_1]]) pc rfl fn102.h (fun u => (OpVs.cons (OpV.t rfl) (OpVs.cons (OpV.t rfl) (OpVs.nil)))) (by rintro w F v M ⟨q0, rfl, hd, rfl⟩ hw hM; obtain ⟨q0_1, q0_2⟩ := q0; subst hd; exact Spec.pre (M' := [treeH q0_2, treeH y15x0]) (fun _ _ h => Exp.h (t := ((q0_1, q0_2) : T_Ups)) ex pk h) (s_l18Set_walk w (q0_1, q0_2) (a1, y15x0, a0_1)  _ hy17)) (by kernel_rfl) ?_
      refine D_alloc zero71.h ?_
      refine s1 ?_
      refine Give_R rfl rfl ?_
      rintro _ _ ⟨bk11, rfl, rfl⟩
      simp only [List.cons_append, List.nil_append]
      refine Give_R rfl rfl ?_
      rintro _ _ ⟨⟨y17x0_1, y17x0_2⟩, rfl, rfl, rfl⟩
      refine s4 ?_
      refine sc ?_
      replace hp := dd hp
      refine xL ((y17x0_1, y17x0_2) : T_Ups) ?_
      refine s4 ?_
      replace hp := ba hp; obtain ⟨y18, hy18, hp⟩ := hp
      replace hp := gb_any hp; obtain ⟨y19, hy19, hp⟩ := hp
      refine W_D0 [47] mix (by kernel_rfl) rfl ?_
      refine s1 ?_
      refine D_callX GC.none fn104.h (OpVs.cons (OpV.t rfl) (OpVs.nil)) (by exact fun hg w F hF hM => s_l9Node_walk w a2  _ hy18) ?_
      refine s3 ?_
      refine D_callX (GC.some rfl rfl) fn48.h (OpVs.cons (OpV.s rfl) (OpVs.nil)) (by exact fun hg w F hF hM => s_UpsOk_walk w (y17x0_1, y17x0_2) (RdT.nowS (RdT.pair RdT.int (RdT.tree mm)) hF hM) _ (hy19 (gnot hg.2))) ?_
      refine s12 ?_
      refine kp [3, 6, 11, 47] ?_
      refine W_cond rfl (fun hc20 => ?_) (fun hc20 => ?_)
      · replace hp := cond_t hc20 hp
        refine s3 ?_
        replace hp := ba hp; obtain ⟨y21, hy21, hp⟩ := hp
        refine L_callR rfl fn103.h rfl (by exact fun w hw => s_l18Copy_walk w (a0_1, a0_2) (RdT.now (RdT.pair RdT.int (RdT.old h0.2)) hw) _ hy21) ?_
        rintro _ _ ⟨⟨y21x0_1, y21x0_2⟩, rfl, rfl, rfl⟩
        refine sc ?_
        replace hp := dd hp
        refine xL ((y21x0_1, y21x0_2) : T_Ups) ?_
        refine s3 ?_
        obtain rfl := Option.some.inj hp
        refine jW ((y21x0_1, y21x0_2) : T_Ups) ?_
        refine s1 ?_
        refine res2 rfl (ResOK.cell rfl mm (by exact agg71.h)) (ResOK.tmp rfl) ⟨(y21x0_1, y21x0_2), false, rfl, rfl, rfl⟩ ms
      · replace hp := cond_f hc20 hp
        refine s7 ?_
        obtain rfl := Option.some.inj hp
        refine jW ((y17x0_1, y17x0_2) : T_Ups) ?_
        refine s1 ?_
        refine res2 rfl (ResOK.cell rfl mm (by exact agg71.h)) (ResOK.tmp rfl) ⟨(y17x0_1, y17x0_2), true, rfl, rfl, rfl⟩ ms
noncomputable def i_UpAck (a0 : D_Ups) (a1 : ByteArray) (a2 : Int) : Option (D_Ups × Bool) :=
  Option.bind (i_UpsOk (a0.1, a0.2)) (fun y1 => cond (!y1) (some ((0, ([] : List D_Up)), false)) (Option.bind (i_copyUps (a0.1, a0.2)) (fun y3 => Option.bind (i_Ups_nodes (a0.1, a0.2) a1) (fun y5 => Option.bind (i_with y5 a2) (fun y7 => Option.bind (i_Ups_at (a0.1, a0.2) a1) (fun y9 => cond (decide (0 ≤ y9)) (Option.bind (idx y3.2 y9) (fun y11 => Option.bind (some (y3.2.set (y9.toNat) (a1, y7, a0.1))) (fun y12 => Option.bind (i_UpsOk (y3.1, y12)) (fun y14 => cond (!y14) (Option.bind (i_copyUps (a0.1, a0.2)) (fun y16 => some ((y16.1, y16.2), false))) (some ((y3.1, y12), true)))))) (whileP (fun s17 : Int => gb (decide (s17 < (y3.2.length : Int))) (idx y3.2 s17) (fun y18 => cond ((decide (s17 < (y3.2.length : Int))) && (sLt y18.1 a1)) (some (.inl (IntKind.wrap .i64 (s17 + 1)))) (Option.map .inr (Option.bind (insP y3.2 s17 (a1, y7, a0.1)) (fun y21 => Option.bind (i_UpsOk (y3.1, y21)) (fun y23 => cond (!y23) (Option.bind (i_copyUps (a0.1, a0.2)) (fun y25 => some ((y25.1, y25.2), false))) (some ((y3.1, y21), true)))))))) 0)))))))
theorem i_UpAck_walk (w : World) (a0 : T_Ups) (a1 : ByteArray) (a2 : Int) (h0 : GT.rd w [] a0) (r : D_Ups × Bool) (hp : i_UpAck (GT.dat a0) a1 a2 = some r) : Spec Try.prog 42 [.agg (GT.cells a0).toArray, .string a1, .int .i64 a2].toArray w [] (fun v M => ∃ (x0 : T_Ups) (x1 : Bool), v = .tuple #[.agg (GT.cells x0).toArray, .bool x1] ∧ (GT.dat x0, GT.dat x1) = r ∧ M = [treeH x0]) := by
  obtain ⟨a0_1, a0_2⟩ := a0
  change Spec _ _ ([Value.agg #[.int .i64 a0_1, (TL.hdr a0_2)], .string a1, .int .i64 a2] : List Value).toArray w [] _
  refine Spec.intro Try.func42 rfl Try.ntmps42 rfl ?_
  unfold i_UpAck at hp
  replace hp := dd hp
  refine s2 ?_
  refine bx fun bk3 => ?_
  refine al fun bk6 => ?_
  refine s6 ?_
  replace hp := ba hp; obtain ⟨y1, hy1, hp⟩ := hp
  refine L_callX rfl fn94.h rfl (by exact fun w hw => i_UpsOk_walk w (a0_1, a0_2) (RdT.now (RdT.pair RdT.int (RdT.old h0.2)) hw) _ hy1) ?_
  refine s2 ?_
  refine kp [1, 2, 3, 6, 14] ?_
  refine W_cond rfl (fun hc2 => ?_) (fun hc2 => ?_)
  · replace hp := cond_t hc2 hp
    refine s2 ?_
    refine L_build (xs := []) (cs := [.int .i64 0, (TL.hdr (TL.nil T_Up 0))]) rfl rfl bld71.h rfl ?_
    refine s3 ?_
    obtain rfl := Option.some.inj hp
    refine W_conv (M' := treeH (TL.nil T_Up 0) :: _) (fun w h => addNilT (τ := T_Up) 0 h) ?_
    refine jW ((0, (TL.nil T_Up 0)) : T_Ups) ?_
    refine s1 ?_
    refine res2 rfl (ResOK.cell rfl mm (by exact agg71.h)) (ResOK.tmp rfl) ⟨(0, (TL.nil T_Up 0)), false, rfl, rfl, rfl⟩ ms
  · replace hp := cond_f hc2 hp
    refine s4 ?_
    replace hp := ba hp; obtain ⟨y3, hy3, hp⟩ := hp
    refine L_callR rfl fn95.h rfl (by exact fun w hw => i_copyUps_walk w (a0_1, a0_2) (RdT.now (RdT.pair RdT.int (RdT.old h0.2)) hw) _ hy3) ?_
    rintro _ _ ⟨⟨y3x0_1, y3x0_2⟩, rfl, rfl, rfl⟩
    refine sc ?_
    replace hp := dd hp
    refine xL ((y3x0_1, y3x0_2) : T_Ups) ?_
    refine al fun bk8 => ?_
    refine s3 ?_
    refine W_AP [] 9 9 [.string ByteArray.empty, .slice none 0 0, .int .i64 0] 129 10 mix rfl ?_
    refine AP_take 0 rfl (PU_move rfl rfl) (by kernel_rfl) (by kernel_rfl) (by kernel_rfl) (by kernel_rfl) (by kernel_rfl) rfl rfl rfl trivial ?_
    refine AP_A [blk bk3 [.int .i64 a0_1, (TL.hdr a0_2)] 71] trivial ?_
    refine AP_take 1 rfl (PU_loadW rfl rfl (RdC.blk mm) (by exact agg71.h)) (by kernel_rfl) (by kernel_rfl) (by kernel_rfl) (by kernel_rfl) (by kernel_rfl) rfl rfl rfl ⟨mm, trivial⟩ ?_
    refine AP_take 2 rfl (PU_move rfl rfl) (by kernel_rfl) (by kernel_rfl) (by kernel_rfl) (by kernel_rfl) (by kernel_rfl) rfl rfl rfl ⟨mm, trivial⟩ ?_
    refine AP_take 4 rfl (PU_move rfl rfl) (by kernel_rfl) (by kernel_rfl) (by kernel_rfl) (by kernel_rfl) (by kernel_rfl) rfl rfl rfl ⟨mm, trivial⟩ ?_
    refine AP_take 6 rfl (PU_fieldAddr rfl rfl fld71_0.h) (by kernel_rfl) (by kernel_rfl) (by kernel_rfl) (by kernel_rfl) (by kernel_rfl) rfl rfl rfl ⟨mm, trivial⟩ ?_
    refine AP_take 7 rfl (PU_load rfl rfl (RdC.blk mm) one3.h rfl) (by kernel_rfl) (by kernel_rfl) (by kernel_rfl) (by kernel_rfl) (by kernel_rfl) rfl rfl rfl ⟨mm, trivial⟩ ?_
    refine AP_step 3 rfl rfl (by first | exact .inl (by kernel_rfl) | exact .inr (by kernel_rfl)) (by kernel_rfl) rfl rfl rfl rfl rfl (fun l M => L_alloc rfl zero129.h (fun b => L_nil ⟨b, rfl, rfl⟩)) ⟨mm, trivial⟩ (fun fr4 => ?_)
    replace hp := ba hp; obtain ⟨y5, hy5, hp⟩ := hp
    refine L_callR rfl fn97.h rfl (by exact fun w hw => i_Ups_nodes_walk w (a0_1, a0_2) a1 (RdT.now (RdT.pair RdT.int (RdT.old h0.2)) hw) _ hy5) ?_
    rintro _ _ ⟨y5x0, rfl, rfl, rfl, hby5x0⟩
    refine sc ?_
    replace hp := dd hp
    refine L_nil ⟨_, pk, ⟨mm, trivial⟩, rfl, ?_⟩
    refine AP_step 5 rfl rfl (by first | exact .inl (by kernel_rfl) | exact .inr (by kernel_rfl)) (by kernel_rfl) rfl rfl rfl rfl rfl (fun l M => L_alloc rfl zero129.h (fun b => L_nil ⟨b, rfl, rfl⟩)) ⟨mm, trivial⟩ (fun fr6 => ?_)
    replace hp := ba hp; obtain ⟨y7, hy7, hp⟩ := hp
    refine L_callR rfl fn96.h rfl (by exact fun w hw => i_with_walk w y5x0 a2 (RdT.now (RdT.map hby5x0 (RdT.pair RdT.int (RdT.old h0.2))) hw) _ hy7) ?_
    rintro _ _ ⟨y7x0, rfl, rfl, rfl⟩
    refine sc ?_
    replace hp := dd hp
    refine L_nil ⟨_, pk, ⟨mm, trivial⟩, rfl, ?_⟩
    refine AP_step 8 rfl rfl (by first | exact .inl (by kernel_rfl) | exact .inr (by kernel_rfl)) (by kernel_rfl) rfl rfl rfl rfl rfl (fun l M => L_alloc rfl zero129.h (fun b => L_nil ⟨b, rfl, rfl⟩)) ⟨mm, trivial⟩ (fun fr8 => ?_)
    refine L_build (xs := [(0, .tmp 18), (1, .tmp 23), (2, .tmp 25)]) (cs := [.string a1, (TL.hdr y7x0), .int .i64 a0_1]) rfl rfl bld129.h rfl ?_
    refine L_nil ⟨_, pk, ⟨mm, trivial⟩, rfl, ?_⟩
    refine AP_end (by kernel_rfl) rfl rfl (fun l M => L_alloc rfl zero129.h (fun b => L_nil ⟨b, rfl, rfl⟩)) ⟨mm, trivial⟩ (fun bk9 => ?_)
    refine AH_one 10 rfl rfl (by kernel_rfl) ?_
    refine s1 ?_
    refine L_nil ⟨⟨mm, trivial⟩, ?_⟩
    refine AH_done (by kernel_rfl) ?_
    refine s5 ?_
    replace hp := ba hp; obtain ⟨y9, hy9, hp⟩ := hp
    refine L_callX rfl fn98.h rfl (by exact fun w hw => i_Ups_at_walk w (a0_1, a0_2) a1 (RdT.now (RdT.pair RdT.int (RdT.old h0.2)) hw) _ hy9) ?_
    refine s7 ?_
    refine kp [1, 3, 6, 8, 9, 10, 31] ?_
    refine W_cond rfl (fun hc10 => ?_) (fun hc10 => ?_)
    · replace hp := cond_t hc10 hp
      refine s5 ?_
      replace hp := idx_bind hp; obtain ⟨⟨u11_1, u11_2, u11_3⟩, hy11, hp⟩ := hp
      refine L_idxA (X := y3x0_2) rfl rfl rfl el69.h (RdT.tree mm) hy11 ?_
      refine L_conv (M' := treeH (u11_1, u11_2, u11_3) :: holeH y3x0_2 (y9.toNat) (GT.cells (u11_1, u11_2, u11_3)) :: _) (fun w h => hole_open hy11.2 pk h) ?_
      refine xL ((u11_1, u11_2, u11_3) : T_Up) ?_
      refine L_stH (X := y3x0_2) (i := y9.toNat) (sz := 3) (fo := 0) (n := 3) rfl rfl pk rfl (.inl agg129.h) rfl (allOne rfl) (Nat.le_of_ble_eq_true rfl) ?_
      refine jL ((a1, y7x0, a0_1) : T_Up) ?_
      replace hp := ba hp; obtain ⟨y12, hy12, hp⟩ := hp
      refine L_close (X := y3x0_2) ((a1, y7x0, a0_1) : T_Up) rfl pk pk hy12 (fun X13 hdX13 hhX13 => ?_)
      subst hdX13
      try rw [← hhX13]
      try rw [← g_of_hdr hhX13]
      try rw [← o_of_hdr hhX13]
      refine s5 ?_
      replace hp := ba hp; obtain ⟨y14, hy14, hp⟩ := hp
      refine L_callX rfl fn94.h rfl (by exact fun w hw => i_UpsOk_walk w (y3x0_1, X13) (RdT.now (RdT.pair RdT.int (RdT.tree mm)) hw) _ hy14) ?_
      refine s2 ?_
      refine kp [3, 6, 8, 63] ?_
      refine W_cond rfl (fun hc15 => ?_) (fun hc15 => ?_)
      · replace hp := cond_t hc15 hp
        refine s3 ?_
        replace hp := ba hp; obtain ⟨y16, hy16, hp⟩ := hp
        refine L_callR rfl fn95.h rfl (by exact fun w hw => i_copyUps_walk w (a0_1, a0_2) (RdT.now (RdT.pair RdT.int (RdT.old h0.2)) hw) _ hy16) ?_
        rintro _ _ ⟨⟨y16x0_1, y16x0_2⟩, rfl, rfl, rfl⟩
        refine sc ?_
        replace hp := dd hp
        refine xL ((y16x0_1, y16x0_2) : T_Ups) ?_
        refine s3 ?_
        obtain rfl := Option.some.inj hp
        refine jW ((y16x0_1, y16x0_2) : T_Ups) ?_
        refine s1 ?_
        refine res2 rfl (ResOK.cell rfl mm (by exact agg71.h)) (ResOK.tmp rfl) ⟨(y16x0_1, y16x0_2), false, rfl, rfl, rfl⟩ ms
      · replace hp := cond_f hc15 hp
        refine s7 ?_
        obtain rfl := Option.some.inj hp
        refine jW ((y3x0_1, X13) : T_Ups) ?_
        refine s1 ?_
        refine res2 rfl (ResOK.cell rfl mm (by exact agg71.h)) (ResOK.tmp rfl) ⟨(y3x0_1, X13), true, rfl, rfl, rfl⟩ ms
    · replace hp := cond_f hc10 hp
      refine s6 ?_
      refine W_while (σ := Int) GT.dat (fun (v17_0 : Int) => [(11, .int .i64 v17_0)]) (fun (v17_0 : Int) => []) [(1, _), (3, _), (6, _), (8, _), (9, _)] [blk bk3 _ _, blk bk6 _ _, blk bk8 _ _, blk bk9 _ _, treeH y3x0_2, treeH y7x0] 0 hp sb ms ?_
      clear hp
      rintro v17_0 x17 hp hx17
      replace hp := dd hp
      refine kq [1, 3, 6, 8, 9, 11] ?_
      refine s2 ?_
      replace hp := idx_gb hp; obtain ⟨⟨u18_1, u18_2, u18_3⟩, hy18, hp⟩ := hp
      refine W_D0 [51] mix (by kernel_rfl) rfl ?_
      refine s3 ?_
      refine D_lenP (X := y3x0_2) GC.none (OpV.t rfl) el69.h ?_
      refine s5 ?_
      refine D_idxA (X := y3x0_2) (GC.some rfl rfl) (OpV.s rfl) (OpV.s rfl) el69.h (RdT.tree mm) (fun hg => hy18 hg.2) ?_
      refine s1 ?_
      refine D_load (GC.some rfl rfl) (OpV.s rfl) (fun hg => RdT.at (RdT.tree mm) (hy18 hg.2).2) one9.h rfl ?_
      refine s20 ?_
      refine kp [1, 3, 6, 8, 9, 11, 51] ?_
      refine W_cond rfl (fun hc19 => ?_) (fun hc19 => ?_)
      · replace hp := cond_t hc19 hp
        refine s7 ?_
        exact ⟨IntKind.wrap .i64 (v17_0 + 1), sb, (.sub ms), some_eq hp⟩
      · replace hp := cond_f hc19 hp
        refine W_exit ?_
        replace hp := map_any hp; obtain ⟨a20, hp, hx_a20⟩ := hp
        obtain rfl := hx17 _ hx_a20
        refine s5 ?_
        refine L_buildSlice1 rfl rfl el69.h rfl (by decide) (by decide) rfl (fun bb58 => ?_)
        refine jL ((a1, y7x0, a0_1) : T_Up) ?_
        replace hp := ba hp; obtain ⟨y21, hy21, hp⟩ := hp
        refine L_callM [treeH y3x0_2, blk bb58 _ _, treeH ((a1, y7x0, a0_1) : T_Up)] _ rfl fn99.h rfl pc (by exact fun w hw => sl_Insert_implUpimplUp_walk w y3x0_2 v17_0 bb58 ((a1, y7x0, a0_1) : T_Up) _ _ hy21) ?_
        rintro _ _ ⟨X22, rfl, rfl, rfl⟩
        refine sc ?_
        refine s7 ?_
        replace hp := ba hp; obtain ⟨y23, hy23, hp⟩ := hp
        refine L_callX rfl fn94.h rfl (by exact fun w hw => i_UpsOk_walk w (y3x0_1, X22) (RdT.now (RdT.pair RdT.int (RdT.tree mm)) hw) _ hy23) ?_
        refine s2 ?_
        refine kp [3, 6, 8, 63] ?_
        refine W_cond rfl (fun hc24 => ?_) (fun hc24 => ?_)
        · replace hp := cond_t hc24 hp
          refine s3 ?_
          replace hp := ba hp; obtain ⟨y25, hy25, hp⟩ := hp
          refine L_callR rfl fn95.h rfl (by exact fun w hw => i_copyUps_walk w (a0_1, a0_2) (RdT.now (RdT.pair RdT.int (RdT.old h0.2)) hw) _ hy25) ?_
          rintro _ _ ⟨⟨y25x0_1, y25x0_2⟩, rfl, rfl, rfl⟩
          refine sc ?_
          replace hp := dd hp
          refine xL ((y25x0_1, y25x0_2) : T_Ups) ?_
          refine s3 ?_
          obtain rfl := Option.some.inj hp
          refine jW ((y25x0_1, y25x0_2) : T_Ups) ?_
          refine s1 ?_
          refine res2 rfl (ResOK.cell rfl mm (by exact agg71.h)) (ResOK.tmp rfl) ⟨(y25x0_1, y25x0_2), false, rfl, rfl, rfl⟩ ms
        · replace hp := cond_f hc24 hp
          refine s7 ?_
          obtain rfl := Option.some.inj hp
          refine jW ((y3x0_1, X22) : T_Ups) ?_
          refine s1 ?_
          refine res2 rfl (ResOK.cell rfl mm (by exact agg71.h)) (ResOK.tmp rfl) ⟨(y3x0_1, X22), true, rfl, rfl, rfl⟩ ms
end Go.Proofs.SL
namespace Go.Proofs.SL
open Go
theorem sorted_ext : ∀ {l m : List Int}, l.Pairwise (· < ·) → m.Pairwise (· < ·) → (∀ x, x ∈ l ↔ x ∈ m) → l = m
  | [], [], _, _, _ => rfl
  | [], b :: m, _, _, h => absurd ((h b).2 (List.mem_cons_self ..)) (by simp)
  | a :: l, [], _, _, h => absurd ((h a).1 (List.mem_cons_self ..)) (by simp)
  | a :: l, b :: m, h1, h2, h => by
    obtain ⟨h3, h4⟩ := List.pairwise_cons.1 h1
    obtain ⟨h5, h6⟩ := List.pairwise_cons.1 h2
    have hab : a = b := by
      rcases List.mem_cons.1 ((h a).1 (List.mem_cons_self ..)) with e | e
      · exact e
      · rcases List.mem_cons.1 ((h b).2 (List.mem_cons_self ..)) with e2 | e2
        · exact e2.symm
        · have := h5 a e; have := h3 b e2; omega
    subst hab
    rw [sorted_ext h4 h6 fun x => ⟨fun hx => ?_, fun hx => ?_⟩]
    · rcases List.mem_cons.1 ((h x).1 (List.mem_cons_of_mem _ hx)) with e | e
      · have := h3 x hx; omega
      · exact e
    · rcases List.mem_cons.1 ((h x).2 (List.mem_cons_of_mem _ hx)) with e | e
      · have := h5 x hx; omega
      · exact e
theorem any_mem {l : List Int} {n : Int} : (l.any fun x => decide (x = n)) = true ↔ n ∈ l := by
  simp [List.any_eq_true]
theorem withL_sorted (l : List Int) (n : Int) (b : Bool) : (withL l n b).Pairwise (· < ·) := by
  unfold withL
  refine List.Pairwise.filter _ ?_
  simp
theorem mem_withL {l : List Int} {n x : Int} {b : Bool} : x ∈ withL l n b ↔ (0 ≤ x ∧ x < 3) ∧ ((x = n ∧ b = true) ∨ (x ≠ n ∧ x ∈ l)) := by
  unfold withL
  rw [List.mem_filter]
  have h3 : x ∈ ([0, 1, 2] : List Int) ↔ (0 ≤ x ∧ x < 3) := by simp; omega
  rw [h3]
  simp only [Bool.or_eq_true, Bool.and_eq_true, decide_eq_true_eq, Bool.not_eq_true', decide_eq_false_iff_not, any_mem]
theorem filter_ne {l : List D_Up} {k : Nat} {y : D_Up} (hs : l.Pairwise (fun a b => sLt a.1 b.1 = true)) (hk : l[k]? = some y) : l.filter (fun z => !decide (z.1 = y.1)) = l.eraseIdx k := by
  induction l generalizing k with
  | nil => cases hk
  | cons a l ih =>
    obtain ⟨h1, h2⟩ := List.pairwise_cons.1 hs
    cases k with
    | zero =>
      cases hk
      rw [List.filter_cons, if_neg (by simp), List.eraseIdx_cons_zero, List.filter_eq_self.2 fun z hz => ?_]
      have := sLt_ne (h1 z hz)
      simp [Ne.symm this]
    | succ k =>
      have hk' : l[k]? = some y := hk
      have := sLt_ne (h1 y (List.mem_of_getElem? hk'))
      rw [List.filter_cons, if_pos (by simp [this]), List.eraseIdx_cons_succ, ih h2 hk']
theorem setU_at {l : List D_Up} {k : Nat} {x y : D_Up} (hs : l.Pairwise (fun a b => sLt a.1 b.1 = true)) (hk : l[k]? = some y) (hc : x.1 = y.1) : setU x l = l.set k x := by
  induction l generalizing k with
  | nil => cases hk
  | cons a l ih =>
    obtain ⟨h1, h2⟩ := List.pairwise_cons.1 hs
    cases k with
    | zero =>
      cases hk
      rw [setU, hc, sLt_irrefl, List.set_cons_zero]
      have := filter_ne (k := 0) (y := y) hs rfl
      simp only [Bool.false_eq_true, if_false, this, List.eraseIdx_cons_zero]
    | succ k =>
      have hk' : l[k]? = some y := hk
      have := h1 y (List.mem_of_getElem? hk')
      rw [setU, hc, this, if_pos rfl, List.set_cons_succ, ih h2 hk']
theorem ups_copy {d : D_Ups} (h : upsOkB d = true) : s_l18Copy d = some d ∧ i_copyUps d = some d := by
  obtain ⟨_, h1, h2, _⟩ := upsOk_facts h
  have h3 : ∀ s, s ∈ d.2 → s.2.1.length ≤ 1000 := fun s hs => by
    obtain ⟨h4, h5⟩ := nodesOk_facts (h2 s hs).2.2.2
    have := nodes_le h4 h5
    omega
  exact ⟨s_l18Copy_eq (by omega) h3, i_copyUps_eq (by omega) h3⟩
end Go.Proofs.SL
namespace Go.Proofs.SL
open Go
theorem sortI_with {l : List Int} {n : Int} (h1 : ∀ x, x ∈ l → 0 ≤ x ∧ x < 3) (h2 : l.Pairwise (· < ·)) (hn : 0 ≤ n ∧ n < 3) : ((if l.any (fun x => decide (x = n)) then l else l ++ [n]).mergeSort fun x y => decide (x ≤ y)) = withL l n true := by
  generalize hm : (if l.any (fun x => decide (x = n)) then l else l ++ [n]) = m
  have hmem : ∀ x, x ∈ m ↔ x = n ∨ x ∈ l := by
    intro x
    subst hm
    split
    · rename_i h
      constructor
      · exact .inr
      · rintro (h3 | h3)
        · subst h3; exact any_mem.1 h
        · exact h3
    · rw [List.mem_append, List.mem_singleton]; exact Or.comm
  have hnd : m.Nodup := by
    have hl : l.Nodup := h2.imp fun h => by omega
    subst hm
    split
    · exact hl
    · rename_i h
      rw [List.nodup_append]
      refine ⟨hl, by simp, fun a ha b hb => ?_⟩
      obtain rfl := List.mem_singleton.1 hb
      intro e; subst e
      exact h (any_mem.2 ha)
  refine sorted_ext ?_ (withL_sorted ..) fun x => ?_
  · have hp : (m.mergeSort fun x y => decide (x ≤ y)).Pairwise fun a b => decide (a ≤ b) = true := List.pairwise_mergeSort (by
      intro a b c h3 h4
      simp only [decide_eq_true_eq] at *
      omega) (by
      intro a b
      simp only [Bool.or_eq_true, decide_eq_true_eq]
      omega) m
    have hnd2 : (m.mergeSort fun x y => decide (x ≤ y)).Nodup := (List.mergeSort_perm m _).nodup_iff.2 hnd
    refine (hp.and hnd2).imp fun {a b} ⟨h3, h4⟩ => ?_
    simp only [decide_eq_true_eq] at h3
    omega
  · rw [List.mem_mergeSort, hmem, mem_withL]
    constructor
    · rintro (h | h)
      · subst h; exact ⟨hn, .inl ⟨rfl, rfl⟩⟩
      · by_cases e : x = n
        · subst e; exact ⟨hn, .inl ⟨rfl, rfl⟩⟩
        · exact ⟨h1 x h, .inr ⟨e, h⟩⟩
    · rintro ⟨_, ⟨h, _⟩ | ⟨_, h⟩⟩
      · exact .inl h
      · exact .inr h
theorem i_with_eq {l : List Int} {n : Int} (h1 : ∀ x, x ∈ l → 0 ≤ x ∧ x < 3) (h2 : l.Pairwise (· < ·)) (hn : 0 ≤ n ∧ n < 3) : i_with l n = some (withL l n true) := by
  have hl := nodes_le h1 h2
  unfold i_with
  rw [appP_ok (by simp; omega)]
  simp only [List.nil_append, Option.bind_some]
  rw [contains_eq (by omega), Option.bind_some, ← sortI_with h1 h2 hn]
  cases h : l.any fun x => decide (x = n) with
  | true =>
    simp only [Bool.not_true, cond_false, if_true]
    unfold sortIP
    rw [if_pos (by omega)]; rfl
  | false =>
    simp only [Bool.not_false, cond_true, Bool.false_eq_true, if_false]
    rw [appP_ok (by simp; omega), Option.bind_some]
    unfold sortIP
    rw [if_pos (by simp; omega)]; rfl
theorem i_with_any {l : List Int} {n : Int} (hl : l.length ≤ 1000) : ∃ m, i_with l n = some m ∧ (∀ x, x ∈ m ↔ x = n ∨ x ∈ l) ∧ m.length ≤ l.length + 1 := by
  unfold i_with
  rw [appP_ok (by simp; omega)]
  simp only [List.nil_append, Option.bind_some]
  rw [contains_eq (by omega), Option.bind_some]
  cases h : l.any fun x => decide (x = n) with
  | true =>
    simp only [Bool.not_true, cond_false]
    unfold sortIP
    rw [if_pos (by omega)]
    refine ⟨_, rfl, fun x => ?_, by rw [List.length_mergeSort]; omega⟩
    rw [List.mem_mergeSort]
    constructor
    · exact .inr
    · rintro (rfl | h1)
      · exact any_mem.1 h
      · exact h1
  | false =>
    simp only [Bool.not_false, cond_true]
    rw [appP_ok (by simp; omega), Option.bind_some]
    unfold sortIP
    rw [if_pos (by simp; omega)]
    refine ⟨_, rfl, fun x => ?_, by rw [List.length_mergeSort, List.length_append]; simp⟩
    rw [List.mem_mergeSort, List.mem_append, List.mem_singleton]
    constructor
    · rintro (h1 | h1)
      · exact .inr h1
      · exact .inl h1
    · rintro (h1 | h1)
      · exact .inr h1
      · exact .inl h1
end Go.Proofs.SL
namespace Go.Proofs.SL
open Go
noncomputable def ackSet (d : D_Ups) (c : ByteArray) (n : Int) : D_Ups := (d.1, setU (c, withL (upNodes d c) n true, d.1) d.2)
noncomputable def upAckD (d : D_Ups) (c : ByteArray) (n : Int) : D_Ups × Bool :=
  if upsOkB d then (if decide (0 ≤ n ∧ n < 3) && upsOkB (ackSet d c n) then (ackSet d c n, true) else (d, false)) else ((0, []), false)
theorem setU_mem {x z : D_Up} : ∀ {l : List D_Up}, z ∈ setU x l → z = x ∨ z ∈ l
  | [], h => .inl (by simpa [setU] using h)
  | y :: ys, h => by
    unfold setU at h
    split at h
    · rcases List.mem_cons.1 h with h | h
      · exact .inr (by rw [h]; exact List.mem_cons_self ..)
      · rcases setU_mem h with h | h
        · exact .inl h
        · exact .inr (List.mem_cons_of_mem _ h)
    · rcases List.mem_cons.1 h with h | h
      · exact .inl h
      · exact .inr (List.mem_filter.1 h).1
theorem setU_len (x : D_Up) : ∀ l : List D_Up, (setU x l).length ≤ l.length + 1
  | [] => by simp [setU]
  | y :: ys => by
    unfold setU
    split
    · have := setU_len x ys; simp only [List.length_cons]; omega
    · have := List.length_filter_le (fun z => !decide (z.1 = x.1)) (y :: ys); simp only [List.length_cons] at this ⊢; omega
theorem withL_len (l : List Int) (n : Int) (b : Bool) : (withL l n b).length ≤ 3 := by
  unfold withL
  have := List.length_filter_le (fun k : Int => (decide (k = n) && b) || (!decide (k = n) && l.any fun x => decide (x = k))) [0, 1, 2]
  simpa using this
theorem withL_range {l : List Int} {n x : Int} {b : Bool} (h : x ∈ withL l n b) : 0 ≤ x ∧ x < 3 := (mem_withL.1 h).1
theorem ackSet_ok {d : D_Ups} {c : ByteArray} {n : Int} (ho : Ok.ok d) (hl : d.2.length ≤ 1000) (hc : c.size ≤ 9223372036854775807) : Ok.ok (ackSet d c n) := by
  refine ⟨ho.1, by have := setU_len (c, withL (upNodes d c) n true, d.1) d.2; show (setU _ d.2).length ≤ _; omega, fun z hz => ?_⟩
  rcases setU_mem hz with rfl | hz
  · refine ⟨hc, ⟨by have := withL_len (upNodes d c) n true; show (withL _ _ _).length ≤ _; omega, fun x hx => ?_⟩, ho.1⟩
    have := withL_range hx
    show inR x
    unfold inR; omega
  · exact ho.2.2 z hz
theorem upNodes_small {d : D_Ups} {c : ByteArray} (h : upsOkB d = true) : (∀ n, n ∈ upNodes d c → 0 ≤ n ∧ n < 3) ∧ (upNodes d c).Pairwise (· < ·) := by
  obtain ⟨_, _, h2, _⟩ := upsOk_facts h
  unfold upNodes upFind
  cases hf : d.2.find? (fun x : D_Up => decide (x.1 = c)) with
  | none => exact ⟨fun n hn => (by cases hn), List.Pairwise.nil⟩
  | some x => exact nodesOk_facts (h2 x (List.mem_of_find?_eq_some hf)).2.2.2
theorem s_ack_tail {d : D_Ups} {c : ByteArray} {n : Int} (ho : Ok.ok d) (hc : c.size ≤ 9223372036854775807) (h : upsOkB d = true) :
    (Option.bind (s_l18With (upNodes d c) n true) (fun y8 => Option.bind (s_l18Copy (d.1, d.2)) (fun y9 => Option.bind (s_l18Set (y9.1, y9.2) (c, y8, d.1)) (fun y10 => Option.bind (s_l9Node n) (fun y11 => gb (!(!y11)) (s_UpsOk (y10.1, y10.2)) (fun y12 => cond ((!y11) || (!y12)) (Option.bind (s_l18Copy (d.1, d.2)) (fun y14 => some ((y14.1, y14.2), false))) (some ((y10.1, y10.2), true)))))))) =
      some (if decide (0 ≤ n ∧ n < 3) && upsOkB (ackSet d c n) then (ackSet d c n, true) else (d, false)) := by
  have hl := (upsOk_facts h).2.1
  have hu := upNodes_small (c := c) h
  have hn3 := nodes_le hu.1 hu.2
  rw [l18With_eq (by omega), Option.bind_some, (ups_copy h).1, Option.bind_some, l18Set_eq (by show d.2.length ≤ 1000; omega), Option.bind_some, l9Node_eq, Option.bind_some]
  cases hn : decide (0 ≤ n ∧ n < 3) with
  | false =>
    rw [gb_none (!(!false)) _ _ rfl]
    simp only [Bool.not_false, Bool.true_or, cond_true, Bool.false_and, Bool.false_eq_true, if_false, Option.bind_some]
  | true =>
    have hv : 0 ≤ n ∧ n < 3 := of_decide_eq_true hn
    have hmem : n ∈ withL (upNodes d c) n true := mem_withL.2 ⟨hv, .inl ⟨rfl, rfl⟩⟩
    have hne : (withL (upNodes d c) n true).length ≠ 0 := fun e => by rw [List.eq_nil_of_length_eq_zero e] at hmem; cases hmem
    have hne' : ((c, withL (upNodes d c) n true, d.1) : D_Up).2.1.length ≠ 0 := hne
    rw [gb_yes (!(!true)) _ _ rfl, if_neg hne']
    rw [show s_UpsOk (((d.1, d.2) : D_Ups).1, setU (c, withL (upNodes d c) n true, d.1) ((d.1, d.2) : D_Ups).2) = some (upsOkB (ackSet d c n)) from s_UpsOk_eq (ackSet_ok ho (by show d.2.length ≤ 1000; omega) hc), Option.bind_some]
    cases hb : upsOkB (ackSet d c n) with
    | true => rfl
    | false => rfl
theorem s_UpAck_eq {d : D_Ups} {c : ByteArray} {n : Int} (ho : Ok.ok d) (hc : Ok.ok c) : s_UpAck d c n = some (upAckD d c n) := by
  have hc' : c.size ≤ 9223372036854775807 := hc
  unfold s_UpAck upAckD
  rw [show s_UpsOk (d.1, d.2) = some (upsOkB d) from s_UpsOk_eq ho, Option.bind_some]
  cases h : upsOkB d with
  | false => rfl
  | true =>
    have hl := (upsOk_facts h).2.1
    simp only [Bool.not_true, cond_false, if_true]
    rw [show s_l18At (d.1, d.2) c = _ from s_l18At_eq (u := d) (by omega), Option.bind_some, Option.bind_some]
    rcases firstI_find (fun x : D_Up => decide (x.1 = c)) d.2 with ⟨h1, h2⟩ | ⟨k, u, h1, h2, h3⟩
    · have hu : upNodes d c = [] := by unfold upNodes upFind; rw [h2]
      rw [h1]
      simp only [show decide ((0 : Int) ≤ -1) = false from rfl, cond_false]
      have := s_ack_tail (n := n) ho hc' h
      rw [hu] at this
      exact this
    · have hu : upNodes d c = u.2.1 := by unfold upNodes upFind; rw [h3.1]
      rw [h1, show decide ((0 : Int) ≤ (k : Int)) = true from decide_eq_true (by omega)]
      simp only [cond_true]
      rw [idx_nat, h2, Option.bind_some]
      have := s_ack_tail (n := n) ho hc' h
      rw [hu] at this
      exact this
/-! The program's -/
theorem filter_all_ne {l : List D_Up} {c : ByteArray} (h : ∀ y, y ∈ l → y.1 ≠ c) : l.filter (fun z => !decide (z.1 = c)) = l :=
  List.filter_eq_self.2 fun y hy => by simp [h y hy]
theorem setU_new {x : D_Up} : ∀ {l : List D_Up}, (∀ y, y ∈ l → y.1 ≠ x.1) → setU x l = l.take (l.findIdx fun y => !sLt y.1 x.1) ++ [x] ++ l.drop (l.findIdx fun y => !sLt y.1 x.1)
  | [], _ => rfl
  | y :: ys, h => by
    unfold setU
    cases hs : sLt y.1 x.1 with
    | true =>
      rw [if_pos rfl, setU_new fun z hz => h z (List.mem_cons_of_mem _ hz), List.findIdx_cons, hs]
      simp
    | false =>
      rw [if_neg (by simp), filter_all_ne h, List.findIdx_cons, hs]
      simp
theorem firstI_idx {α : Type} (p : α → Bool) (l : List α) : (if firstI p l = -1 then (l.length : Int) else firstI p l) = (l.findIdx p : Nat) := by
  unfold firstI
  rcases hf : l.findIdx? p with _ | k
  · simp only [if_true]
    rw [List.findIdx?_eq_none_iff] at hf
    rw [List.findIdx_eq_length_of_false hf]
  · simp only
    rw [if_neg (by omega)]
    have := List.findIdx?_eq_some_iff_findIdx_eq.1 hf
    rw [this.2]
theorem ok_ins {d : D_Ups} {x : D_Up} {i : Nat} (h1 : Ok.ok d) (hx : Ok.ok x) (hl : d.2.length ≤ 1000) : Ok.ok ((d.1, d.2.take i ++ [x] ++ d.2.drop i) : D_Ups) := by
  refine ⟨h1.1, by show (d.2.take i ++ [x] ++ d.2.drop i).length ≤ _; simp only [List.length_append, List.length_take, List.length_drop, List.length_cons, List.length_nil]; omega, fun z hz => ?_⟩
  rcases List.mem_append.1 hz with hz | hz
  · rcases List.mem_append.1 hz with hz | hz
    · exact h1.2.2 z (List.mem_of_mem_take hz)
    · rw [List.mem_singleton.1 hz]; exact hx
  · exact h1.2.2 z (List.mem_of_mem_drop hz)
theorem ok_setk {d : D_Ups} {x : D_Up} {i : Nat} (h1 : Ok.ok d) (hx : Ok.ok x) : Ok.ok ((d.1, d.2.set i x) : D_Ups) := by
  refine ⟨h1.1, by show (d.2.set i x).length ≤ _; rw [List.length_set]; exact h1.2.1, fun z hz => ?_⟩
  rcases List.mem_or_eq_of_mem_set hz with hz | hz
  · exact h1.2.2 z hz
  · rw [hz]; exact hx
theorem ups_bad {e : Int} {l : List D_Up} {x : D_Up} {n : Int} (hx : x ∈ l) (hn : n ∈ x.2.1) (hv : ¬ (0 ≤ n ∧ n < 3)) : upsOkB (e, l) = false := by
  cases h : upsOkB (e, l) with
  | false => rfl
  | true =>
    obtain ⟨_, _, h2, _⟩ := upsOk_facts h
    exact (hv ((nodesOk_facts (h2 x hx).2.2.2).1 n hn)).elim
theorem i_ack_end {d y : D_Ups} (h : upsOkB d = true) (hy : Ok.ok y) :
    (Option.bind (i_UpsOk (y.1, y.2)) (fun y14 => cond (!y14) (Option.bind (some d) (fun y16 => some (((y16.1, y16.2) : D_Ups), false))) (some ((y.1, y.2), true)))) = some (if upsOkB y then (y, true) else (d, false)) := by
  rw [show i_UpsOk (y.1, y.2) = some (upsOkB y) from i_UpsOk_eq hy, Option.bind_some]
  cases upsOkB y with
  | true => rfl
  | false =>
    simp only [Bool.not_false, cond_true, Bool.false_eq_true, if_false]; rfl
theorem i_UpAck_eq {d : D_Ups} {c : ByteArray} {n : Int} (ho : Ok.ok d) (hc : Ok.ok c) (hn : inR n) : i_UpAck d c n = some (upAckD d c n) := by
  have hc' : c.size ≤ 9223372036854775807 := hc
  unfold i_UpAck upAckD
  rw [show i_UpsOk (d.1, d.2) = some (upsOkB d) from i_UpsOk_eq ho, Option.bind_some]
  cases h : upsOkB d with
  | false => rfl
  | true =>
    obtain ⟨_, hl, hfs, hsrt⟩ := upsOk_facts h
    have hun := upNodes_small (c := c) h
    have hn3 := nodes_le hun.1 hun.2
    simp only [Bool.not_true, cond_false, if_true]
    rw [show i_copyUps (d.1, d.2) = some d from (ups_copy h).2, Option.bind_some, show i_Ups_nodes (d.1, d.2) c = _ from i_Ups_nodes_eq (u := d) (by omega), Option.bind_some]
    obtain ⟨m, hm, hmm, hml⟩ := i_with_any (n := n) (show (upNodes d c).length ≤ 1000 by omega)
    have hmv : 0 ≤ n ∧ n < 3 → m = withL (upNodes d c) n true := fun hv => by
      have := i_with_eq hun.1 hun.2 hv
      rw [hm] at this; exact Option.some.inj this
    have hxo : Ok.ok ((c, m, d.1) : D_Up) := ⟨hc', ⟨by show m.length ≤ _; omega, fun x hx => by
      rcases (hmm x).1 hx with rfl | hx
      · exact hn
      · have := hun.1 x hx; show inR x; unfold inR; omega⟩, ho.1⟩
    rw [hm, Option.bind_some, show i_Ups_at (d.1, d.2) c = _ from i_Ups_at_eq (u := d) (by omega), Option.bind_some]
    rcases firstI_find (fun x : D_Up => decide (x.1 = c)) d.2 with ⟨h1, h2⟩ | ⟨k, u, h1, h2, h3⟩
    · have hno : ∀ y, y ∈ d.2 → y.1 ≠ c := fun y hy e => by have := List.find?_eq_none.1 h2 y hy; simp [e] at this
      rw [h1]
      simp only [show decide ((0 : Int) ≤ -1) = false from rfl, cond_false]
      let q : Int → Option (D_Ups × Bool) := fun i => Option.bind (insP d.2 (if i = -1 then (d.2.length : Int) else i) (c, m, d.1)) (fun y21 => Option.bind (i_UpsOk (d.1, y21)) (fun y23 => cond (!y23) (Option.bind (some d) (fun y25 => some ((y25.1, y25.2), false))) (some ((d.1, y21), true))))
      rw [whileP_find (l := d.2) (fun y : D_Up => !sLt y.1 c) q (by omega)]
      · show Option.bind (insP d.2 (if firstI (fun y : D_Up => !sLt y.1 c) d.2 = -1 then (d.2.length : Int) else firstI (fun y : D_Up => !sLt y.1 c) d.2) (c, m, d.1)) _ = _
        rw [firstI_idx]
        have hle : d.2.findIdx (fun y : D_Up => !sLt y.1 c) ≤ d.2.length := List.findIdx_le_length
        rw [show insP d.2 ((d.2.findIdx (fun y : D_Up => !sLt y.1 c) : Nat) : Int) (c, m, d.1) = some _ from if_pos ⟨by omega, by omega, by omega⟩, Option.bind_some]
        rw [Int.toNat_natCast]
        rw [show ((fun y : D_Up => !sLt y.1 c) : D_Up → Bool) = fun y => !sLt y.1 ((c, m, d.1) : D_Up).1 from rfl, ← setU_new (x := (c, m, d.1)) hno]
        have hok : Ok.ok ((d.1, setU (c, m, d.1) d.2) : D_Ups) := by
          rw [setU_new (x := (c, m, d.1)) hno]; exact ok_ins ho hxo (by omega)
        have he := i_ack_end (y := (d.1, setU (c, m, d.1) d.2)) h hok
        refine he.trans ?_
        cases hv : decide (0 ≤ n ∧ n < 3) with
        | true =>
          rw [hmv (of_decide_eq_true hv)]
          simp only [Bool.true_and]; rfl
        | false =>
          have : upsOkB (d.1, setU (c, m, d.1) d.2) = false := ups_bad (x := (c, m, d.1)) (n := n) (by rw [setU_new (x := (c, m, d.1)) hno]; simp) ((hmm n).2 (.inl rfl)) (of_decide_eq_false hv)
          rw [this]; rfl
      · intro k x hx
        have hk := (List.getElem?_eq_some_iff.1 hx).1
        simp only [lt_dec hk, idx_nat, hx, Bool.true_and, gb_true, Option.bind_some]
        cases hs : sLt x.1 c with
        | true => simp only [cond_true, Bool.not_true, Bool.false_eq_true, if_false]
        | false =>
          simp only [cond_false, Bool.not_false, if_true]
          show _ = Option.map Sum.inr (Option.bind (insP d.2 (if (k : Int) = -1 then (d.2.length : Int) else (k : Int)) (c, m, d.1)) _)
          rw [if_neg (by omega)]; rfl
      · simp only [ge_dec, gb_false, Bool.false_and, cond_false]
        show _ = Option.map Sum.inr (Option.bind (insP d.2 (if (-1 : Int) = -1 then (d.2.length : Int) else -1) (c, m, d.1)) _)
        rw [if_pos rfl]
    · rw [h1, show decide ((0 : Int) ≤ (k : Int)) = true from decide_eq_true (by omega)]
      simp only [cond_true]
      rw [idx_nat, h2, Option.bind_some, Option.bind_some, Int.toNat_natCast]
      have huc : u.1 = c := by have := List.find?_some h3.1; simpa using this
      have hset : ∀ ns, setU (c, ns, d.1) d.2 = d.2.set k (c, ns, d.1) := fun ns => setU_at (x := (c, ns, d.1)) hsrt h2 huc.symm
      refine (i_ack_end (y := (d.1, d.2.set k (c, m, d.1))) h (ok_setk ho hxo)).trans ?_
      cases hv : decide (0 ≤ n ∧ n < 3) with
      | true =>
        rw [hmv (of_decide_eq_true hv)]
        unfold ackSet
        rw [hset]
        simp only [Bool.true_and]
      | false =>
        have hk := (List.getElem?_eq_some_iff.1 h2).1
        have : upsOkB (d.1, d.2.set k (c, m, d.1)) = false := ups_bad (x := (c, m, d.1)) (n := n) (List.mem_iff_getElem?.2 ⟨k, by rw [List.getElem?_set_self hk]⟩) ((hmm n).2 (.inl rfl)) (of_decide_eq_false hv)
        rw [this]; rfl
end Go.Proofs.SL
namespace Go.Proofs.SL
open Go
theorem bds_le {τ δ : Type} [GT τ δ] [Bk τ] [Bd τ] {m : Nat} : ∀ {l : List δ}, (∀ x, x ∈ l → Bd.bd (τ := τ) x ≤ m) → bds τ l ≤ m * l.length
  | [], _ => by simp [bds]
  | x :: l, h => by
    have h1 := h x (List.mem_cons_self ..)
    have h2 := bds_le (l := l) fun y hy => h y (List.mem_cons_of_mem _ hy)
    show Bd.bd (τ := τ) x + bds τ l ≤ _
    rw [List.length_cons, Nat.mul_add]; omega
theorem bd_ups (d : D_Ups) : Bd.bd (τ := T_Ups) d = d.2.length + bds T_Up d.2 := by
  show 0 + (d.2.length + bds T_Up d.2) = _
  omega
theorem bd_up (x : D_Up) : Bd.bd (τ := T_Up) x = x.1.size + x.2.1.length := by
  show x.1.size + ((x.2.1.length + bds Int x.2.1) + 0) = _
  rw [bds_int]; omega
theorem bd_upsOk {d : D_Ups} (h : upsOkB d = true) : Bd.bd (τ := T_Ups) d ≤ 300 := by
  obtain ⟨_, h1, h2, _⟩ := upsOk_facts h
  rw [bd_ups]
  have h3 : bds T_Up d.2 ≤ 11 * d.2.length := bds_le fun x hx => by
    obtain ⟨g1, _, _, g4⟩ := h2 x hx
    have := nodesOk_facts g4
    have := nodes_le this.1 this.2
    rw [bd_up]; omega
  omega
theorem upAck_bd (t : T_Ups) (c : ByteArray) (n : Int) (g : T_Ups) (h : GT.dat g = (upAckD (GT.dat t) c n).1) : Bk.bulk g ≤ Bk.bulk t + 300 := by
  rw [Bd.eq, Bd.eq, h]
  generalize GT.dat t = d
  unfold upAckD
  split
  · split
    · rename_i hc
      have := bd_upsOk (Bool.and_eq_true_iff.1 hc).2
      dsimp only; omega
    · dsimp only; omega
  · show 0 + (0 + 0) ≤ _; omega
instance fn56 : FnF Try.prog 56 := ⟨⟨_, Try.func56, by kernel_rfl, rfl⟩⟩
instance agg86 : AggF Try.prog 86 2 := ⟨by kernel_rfl⟩
instance fn53 : FnF Try.prog 53 := ⟨⟨_, Try.func53, by kernel_rfl, rfl⟩⟩
instance fn54 : FnF Try.prog 54 := ⟨⟨_, Try.func54, by kernel_rfl, rfl⟩⟩
instance fn43 : FnF Try.prog 43 := ⟨⟨_, Try.func43, by kernel_rfl, rfl⟩⟩
instance fn42 : FnF Try.prog 42 := ⟨⟨_, Try.func42, by kernel_rfl, rfl⟩⟩
instance fn55 : FnF Try.prog 55 := ⟨⟨_, Try.func55, by kernel_rfl, rfl⟩⟩
instance und4 : UndF Try.prog 4 (.bool) := ⟨by kernel_rfl⟩
instance fn57 : FnF Try.prog 57 := ⟨⟨_, Try.func57, by kernel_rfl, rfl⟩⟩
theorem sUpAck_spec (w : World) (a0 : T_Ups) (a1 : ByteArray) (a2 : Int) (h0 : GT.rd w [] a0) (ho0 : Ok.ok (GT.dat a0)) (ho1 : Ok.ok (GT.dat a1)) (ho2 : Ok.ok (GT.dat a2))  : Spec Try.prog 43 [.agg (GT.cells a0).toArray, .string a1, .int .i64 a2].toArray w [] (fun v M => ∃ (x0 : T_Ups), v = .tuple #[.agg (GT.cells x0).toArray, .bool ((upAckD (GT.dat a0) a1 a2).2)] ∧ GT.dat x0 = (upAckD (GT.dat a0) a1 a2).1 ∧ M = [treeH x0]) := (s_UpAck_walk w a0 a1 a2 h0 _ (s_UpAck_eq ho0 ho1)).to fun v M ⟨x0, x1, hv, hd, hM⟩ => by
  obtain rfl : x1 = (upAckD (GT.dat a0) a1 a2).2 := congrArg (fun z => z.2) hd
  exact ⟨x0, hv, congrArg (fun z => z.1) hd, hM⟩
theorem iUpAck_spec (w : World) (a0 : T_Ups) (a1 : ByteArray) (a2 : Int) (h0 : GT.rd w [] a0) (ho0 : Ok.ok (GT.dat a0)) (ho1 : Ok.ok (GT.dat a1)) (ho2 : Ok.ok (GT.dat a2))  : Spec Try.prog 42 [.agg (GT.cells a0).toArray, .string a1, .int .i64 a2].toArray w [] (fun v M => ∃ (x0 : T_Ups), v = .tuple #[.agg (GT.cells x0).toArray, .bool ((upAckD (GT.dat a0) a1 a2).2)] ∧ GT.dat x0 = (upAckD (GT.dat a0) a1 a2).1 ∧ M = [treeH x0]) := (i_UpAck_walk w a0 a1 a2 h0 _ (i_UpAck_eq ho0 ho1 ho2)).to fun v M ⟨x0, x1, hv, hd, hM⟩ => by
  obtain rfl : x1 = (upAckD (GT.dat a0) a1 a2).2 := congrArg (fun z => z.2) hd
  exact ⟨x0, hv, congrArg (fun z => z.1) hd, hM⟩
theorem lawFnExactUpAck (w : World) (t1 : T_Ups) (t2 : ByteArray) (t3 : Int) (h1 : GT.rd w [] t1) (h2 : GT.rd w [] t2) (h3 : GT.rd w [] t3) (ho1 : Ok.ok (GT.dat t1)) (ho2 : Ok.ok (GT.dat t2)) (ho3 : Ok.ok (GT.dat t3))  : Spec Try.prog 8 [.agg (GT.cells t1).toArray, .string t2, .int .i64 t3].toArray w [] (IsV (.bool true)) := by
  refine Spec.intro Try.func8 rfl Try.ntmps8 rfl ?_
  refine s2 ?_
  refine bx fun bk3 => ?_
  refine s9 ?_
  refine kp [1, 2, 3, 20] ?_
  refine W_cond rfl (fun hc1 => ?_) (fun hc1 => ?_)
  · refine s5 ?_
    -- return 1 (R2)
    refine res1 rfl (ResOK.tmp rfl) ⟨?_, rfl⟩ ms
    rfl
  · have hb2 : (t2.size : Int) ≤ 1048576 := by
      simp only [decide_eq_false_iff_not] at hc1
      omega
    refine s7 ?_
    refine L_loadW rfl rfl (by first | exact RdC.blk mm) (by exact agg86.h) ?_
    refine s1 ?_
    refine L_callX rfl fn53.h rfl (by exact fun w hw => szUps_spec w t1 (1048576) (by omega) (by omega) (rd_carry h1 hw) ho1) ?_
    refine s8 ?_
    refine kp [1, 2, 3, 25] ?_
    refine W_cond rfl (fun hc5 => ?_) (fun hc5 => ?_)
    · refine s5 ?_
      -- return 2 (R6)
      refine res1 rfl (ResOK.tmp rfl) ⟨?_, rfl⟩ ms
      rfl
    · have hb1 : (Bk.bulk t1 : Int) ≤ 1048576 := by
        rcases Int.decLt (1048576) (Bk.bulk t1 : Int) with hn | hn
        · omega
        · rw [if_neg (by omega)] at hc5; simp at hc5
      rw [if_pos hb1]
      refine s3 ?_
      refine L_loadW rfl rfl (by first | exact RdC.blk mm) (by exact agg86.h) ?_
      refine L_callR rfl fn54.h rfl (by exact fun w hw => toUps_spec w _ (rd_carry h1 hw) (by omega)) ?_
      rintro v M1 ⟨n1, hv, hn1, rfl⟩
      subst hv
      simp only [List.cons_append, List.nil_append]
      refine s2 ?_
      refine L_callR rfl fn43.h rfl (by exact fun w hw => sUpAck_spec w n1 t2 t3 (rd_of_tree mm hw.sees) (by rw [hn1]; exact ho1) ho2 ho3) ?_
      rintro v M1 ⟨r1_0, hv, hr1_0, rfl⟩
      subst hv
      simp only [List.cons_append, List.nil_append]
      refine s3 ?_
      refine al fun bk8 => ?_
      refine L_storeW rfl rfl pk (by exact agg71.h) (by rfl) (by first | (simp [Value.oneCell', TL.hdr]; done) | (simp [Value.oneCell', TL.hdr, Value.cells]; done) | exact fun v hv => GT.one _ v hv) ?_
      refine s4 ?_
      refine L_loadW rfl rfl (by first | exact RdC.blk mm) (by exact agg86.h) ?_
      refine L_callR rfl fn54.h rfl (by exact fun w hw => toUps_spec w _ (rd_carry h1 hw) (by omega)) ?_
      rintro v M1 ⟨n2, hv, hn2, rfl⟩
      subst hv
      simp only [List.cons_append, List.nil_append]
      refine al fun bk10 => ?_
      refine L_storeW rfl rfl pk (by exact agg71.h) (by rfl) (by first | (simp [Value.oneCell', TL.hdr]; done) | (simp [Value.oneCell', TL.hdr, Value.cells]; done) | exact fun v hv => GT.one _ v hv) ?_
      refine s3 ?_
      refine L_loadW rfl rfl (by first | exact RdC.blk mm) (by exact agg71.h) ?_
      refine s2 ?_
      refine L_callR rfl fn42.h rfl (by exact fun w hw => iUpAck_spec w n2 t2 t3 (rd_of_tree mm hw.sees) (by rw [hn2]; exact ho1) ho2 ho3) ?_
      rintro v M1 ⟨r2_0, hv, hr2_0, rfl⟩
      subst hv
      simp only [List.cons_append, List.nil_append]
      refine s3 ?_
      refine al fun bk11 => ?_
      refine L_storeW rfl rfl pk (by exact agg71.h) (by rfl) (by first | (simp [Value.oneCell', TL.hdr]; done) | (simp [Value.oneCell', TL.hdr, Value.cells]; done) | exact fun v hv => GT.one _ v hv) ?_
      refine s4 ?_
      refine W_D0 [51] mix (by kernel_rfl) rfl ?_
      refine D_loadW GC.none (OpV.t rfl) (fun hg => (by first | exact RdC.blk mm)) (by exact agg71.h) ?_
      refine D_loadW GC.none (OpV.t rfl) (fun hg => (by first | exact RdC.blk mm)) (by exact agg71.h) ?_
      refine D_callX GC.none fn55.h (OpVs.cons (OpV.t rfl) (OpVs.cons (OpV.t rfl) (OpVs.nil))) (by exact fun hg w F hF hM => eqUps_spec w r2_0 r1_0 (rd_of_tree (hM _ mm) hF.sees) (rd_of_tree (hM _ mm) hF.sees)) ?_
      refine s17 ?_
      refine kp [1, 2, 3, 8, 9, 10, 11, 12, 51] ?_
      refine W_cond rfl (fun hc10 => ?_) (fun hc10 => ?_)
      · refine s5 ?_
        -- return 3 (R11)
        refine res1 rfl (ResOK.tmp rfl) ⟨?_, rfl⟩ ms
        exfalso
        have hx2 : eqB (GT.dat r2_0) (GT.dat r1_0) = true := eqB_true.2 (by simp only [hn1, hr1_0, hn2, hr2_0])
        simp [hx2, hn1, hn2] at hc10 <;> omega
      · refine s3 ?_
        refine W_D0 [56] mix (by kernel_rfl) rfl ?_
        refine D_loadW GC.none (OpV.t rfl) (fun hg => (by first | exact RdC.blk mm)) (by exact agg71.h) ?_
        refine D_loadW GC.none (OpV.t rfl) (fun hg => (by first | exact RdC.blk mm)) (by exact agg86.h) ?_
        refine D_call1R (fun v M => ∃ m : T_Ups, v = .agg (GT.cells m).toArray ∧ GT.dat m = GT.dat t1 ∧ M = [treeH m]) fn54.h (OpVs.cons (OpV.t rfl) (OpVs.nil)) (by exact fun w F hF hM => (fun w hw => toUps_spec w _ (rd_carry h1 hw) (by omega)) w hF) ?_
        refine D_callR [_, _] (FC True (.bool true)) fn55.h ⟨⟨_, rfl, fun _ _ h => h⟩, ⟨_, rfl, fun _ _ h => h⟩, trivial⟩ (by
          rintro w F vs hw hM ⟨v1, u1, M1, rfl, ⟨rfl, hx1, _⟩, _, v2, u2, M2, rfl, ⟨m2, rfl, hd2x, rfl⟩, hin, rfl⟩
          obtain rfl := hx1 trivial
          have h := eqUps_spec w n2 m2 (rd_of_tree (hM _ mm) hw.sees) (rd_of_tree (hin _ (List.mem_singleton.2 rfl)) hw.sees)
          rw [eqB_true.2 (hn2.trans hd2x.symm)] at h
          exact h.toFC) ?_
        refine s8 ?_
        refine kp [1, 2, 3, 8, 9, 10, 11, 12, 56] ?_
        refine W_condF rfl ?_
        refine s6 ?_
        have hc_n2 : Mv.cnt n2 ≤ 1000000000000 := cntv_le n2 rfl (by rw [bulk_dat hn2]; omega)
        refine s1 ?_
        refine L_loadW rfl rfl (by first | exact RdC.blk mm) (by exact agg71.h) ?_
        refine s1 ?_
        refine L_call1 (h := treeH n2) rfl fn56.h rfl pk (by exact fun w hw => markUps_spec w n2 1 (by omega) (by omega)) ?_
        rintro v M1 ⟨hv, rfl⟩
        subst hv
        simp only [List.cons_append, List.nil_append]
        refine s4 ?_
        refine W_D0 [72] mix (by kernel_rfl) rfl ?_
        refine s3 ?_
        refine D_loadW (GC.some rfl rfl) (OpV.t rfl) (fun hg => (by first | exact RdC.blk mm)) (by exact agg71.h) ?_
        refine D_loadW (GC.some rfl rfl) (OpV.t rfl) (fun hg => (by first | exact RdC.blk mm)) (by exact agg71.h) ?_
        refine D_callX (GC.some rfl rfl) fn55.h (OpVs.cons (OpV.s rfl) (OpVs.cons (OpV.s rfl) (OpVs.nil))) (by exact fun hg w F hF hM => eqUps_spec w r2_0 r1_0 (rd_of_tree (hM _ mm) hF.sees) (rd_of_tree (hM _ mm) hF.sees)) ?_
        refine s20 ?_
        refine s2 ?_
        refine kp [1, 2, 3, 8, 9, 11, 72] ?_
        refine W_cond rfl (fun hc16 => ?_) (fun hc16 => ?_)
        · refine s5 ?_
          -- return 4 (R17)
          refine res1 rfl (ResOK.tmp rfl) ⟨?_, rfl⟩ ms
          exfalso
          have hx5 : eqB (GT.dat r2_0) (GT.dat r1_0) = true := eqB_true.2 (by simp only [hn1, hr1_0, hn2, hr2_0])
          simp [hx5, hn1, hn2] at hc16 <;> omega
        · refine s6 ?_
          have hc_r2_0 : Mv.cnt r2_0 ≤ 1000000000000 := cntv_le r2_0 rfl (by have := upAck_bd _ _ _ _ hr2_0; rw [bulk_dat hn2] at this; omega)
          refine s1 ?_
          refine L_loadW rfl rfl (by first | exact RdC.blk mm) (by exact agg71.h) ?_
          refine s1 ?_
          refine L_call1 (h := treeH r2_0) rfl fn56.h rfl pk (by exact fun w hw => markUps_spec w r2_0 1 (by omega) (by omega)) ?_
          rintro v M1 ⟨hv, rfl⟩
          subst hv
          simp only [List.cons_append, List.nil_append]
          refine s8 ?_
          refine L_loadW rfl rfl (by first | exact RdC.blk mm) (by exact agg71.h) ?_
          refine s1 ?_
          refine L_callX rfl fn57.h rfl (by exact fun w hw => (by have h := heldUps_spec w r2_0 1 (by omega) (by omega) (rd_of_tree mm hw.sees); rw [Cv.eq] at h; exact h)) ?_
          refine s8 ?_
          refine kp [1, 2, 3, 8, 9, 11, 14, 15, 80] ?_
          refine W_cond rfl (fun hc22 => ?_) (fun hc22 => ?_)
          · refine s5 ?_
            -- return 5 (R23)
            refine res1 rfl (ResOK.tmp rfl) ⟨?_, rfl⟩ ms
            exfalso
            simp [hn1, hn2] at hc22 <;> omega
          · refine s8 ?_
            refine kp [1, 2, 3, 8, 9, 11, 14, 83] ?_
            refine W_cond rfl (fun hc24 => ?_) (fun hc24 => ?_)
            · refine s5 ?_
              -- return 6 (R25)
              refine res1 rfl (ResOK.tmp rfl) ⟨?_, rfl⟩ ms
              exfalso
              simp [hn1, hn2] at hc24 <;> omega
            · refine s3 ?_
              refine L_loadW rfl rfl (by first | exact RdC.blk mm) (by exact agg86.h) ?_
              refine L_callR rfl fn54.h rfl (by exact fun w hw => toUps_spec w _ (rd_carry h1 hw) (by omega)) ?_
              rintro v M1 ⟨n3, hv, hn3, rfl⟩
              subst hv
              simp only [List.cons_append, List.nil_append]
              refine s2 ?_
              refine L_callR rfl fn42.h rfl (by exact fun w hw => iUpAck_spec w n3 t2 t3 (rd_of_tree mm hw.sees) (by rw [hn3]; exact ho1) ho2 ho3) ?_
              rintro v M1 ⟨r3_0, hv, hr3_0, rfl⟩
              subst hv
              simp only [List.cons_append, List.nil_append]
              refine s3 ?_
              refine al fun bk16 => ?_
              refine L_storeW rfl rfl pk (by exact agg71.h) (by rfl) (by first | (simp [Value.oneCell', TL.hdr]; done) | (simp [Value.oneCell', TL.hdr, Value.cells]; done) | exact fun v hv => GT.one _ v hv) ?_
              refine s4 ?_
              refine W_D0 [100] mix (by kernel_rfl) rfl ?_
              refine D_loadW GC.none (OpV.t rfl) (fun hg => (by first | exact RdC.blk mm)) (by exact agg71.h) ?_
              refine D_loadW GC.none (OpV.t rfl) (fun hg => (by first | exact RdC.blk mm)) (by exact agg71.h) ?_
              refine D_callX GC.none fn55.h (OpVs.cons (OpV.t rfl) (OpVs.cons (OpV.t rfl) (OpVs.nil))) (by exact fun hg w F hF hM => eqUps_spec w r3_0 r1_0 (rd_of_tree (hM _ mm) hF.sees) (rd_of_tree (hM _ mm) hF.sees)) ?_
              refine s17 ?_
              refine kp [11, 14, 100] ?_
              refine W_cond rfl (fun hc27 => ?_) (fun hc27 => ?_)
              · refine s5 ?_
                -- return 7 (R28)
                refine res1 rfl (ResOK.tmp rfl) ⟨?_, rfl⟩ ms
                exfalso
                have hx2 : eqB (GT.dat r3_0) (GT.dat r1_0) = true := eqB_true.2 (by simp only [hn1, hr1_0, hn2, hr2_0, hn3, hr3_0])
                simp [hx2, hn1, hn2, hn3] at hc27 <;> omega
              · refine s7 ?_
                refine L_loadW rfl rfl (by first | exact RdC.blk mm) (by exact agg71.h) ?_
                refine s1 ?_
                refine L_callX rfl fn57.h rfl (by exact fun w hw => (by have h := heldUps_spec w r2_0 1 (by omega) (by omega) (rd_of_tree mm hw.sees); rw [Cv.eq] at h; exact h)) ?_
                refine s8 ?_
                refine kp [14, 15, 105] ?_
                refine W_cond rfl (fun hc31 => ?_) (fun hc31 => ?_)
                · refine s5 ?_
                  -- return 8 (R32)
                  refine res1 rfl (ResOK.tmp rfl) ⟨?_, rfl⟩ ms
                  exfalso
                  simp [hn1, hn2, hn3] at hc31 <;> omega
                · refine s8 ?_
                  refine kp [108] ?_
                  refine W_cond rfl (fun hc33 => ?_) (fun hc33 => ?_)
                  · refine s5 ?_
                    -- return 9 (R34)
                    refine res1 rfl (ResOK.tmp rfl) ⟨?_, rfl⟩ ms
                    exfalso
                    simp [hn1, hn2, hn3] at hc33 <;> omega
                  · refine s6 ?_
                    -- return 10 (R35)
                    refine res1 rfl (ResOK.tmp rfl) ⟨?_, rfl⟩ ms
                    rfl
end Go.Proofs.SL
