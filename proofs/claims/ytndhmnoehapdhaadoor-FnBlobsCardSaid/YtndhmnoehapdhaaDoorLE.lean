/- Contracts of library functions at their instances. -/
import Derived.Test.YtndhmnoehapdhaaDoorWL
namespace Go.Proofs.SL
open Go
theorem sl_Delete_implBlobimplBlob_walk (w : World) (a0 : TL T_Blob) (a1 a2 : Int) (r : List D_Blob) (hp : delP (GT.dat a0) a1 a2 = some r) : Spec Tryd.prog 64 [(TL.hdr a0), .int .i64 a1, .int .i64 a2].toArray w [treeH a0] (fun v M => ∃ (x0 : TL T_Blob), v = (TL.hdr x0) ∧ GT.dat x0 = r ∧ M = [treeH x0]) := by
  refine Spec.intro Tryd.func64 rfl Tryd.ntmps64 rfl ?_
  unfold delP at hp
  split at hp
  rotate_left
  · cases hp
  rename_i hb
  obtain rfl := Option.some.inj hp
  obtain ⟨h0, h1, h2⟩ := hb
  rw [dat_els, List.length_map] at h2
  obtain ⟨i, rfl⟩ := Int.eq_ofNat_of_zero_le h0
  obtain ⟨j, rfl⟩ := Int.eq_ofNat_of_zero_le (show 0 ≤ a2 by omega)
  simp only [Int.toNat_natCast]
  have hij : i < j := by omega
  have hjl : j ≤ a0.els.length := by omega
  refine W_raw (X := a0) (fun h => by rw [h] at hjl; simp at hjl; omega) (by first | (with_reducible repeat (first | exact Pick.here _ | apply Pick.there)); done | (repeat (first | exact Pick.here _ | apply Pick.there))) (fun fa fl fm ft => ?_)
  have hsz : GT.sz T_Blob = 3 := rfl
  rw [hsz] at ft
  have hcl : (rowCells a0.els ++ a0.tail).length = a0.cap * 3 := by rw [List.length_append, length_rowCells, hsz]; exact ft
  have hone : ∀ u, u ∈ rowCells a0.els ++ a0.tail → True := fun _ _ => trivial
  have hh : a0.hdr = .slice (some ⟨a0.g, 0, none⟩) a0.els.length a0.cap := by show Value.slice a0.a _ _ = _; rw [fa]
  rw [hh]
  refine W_seq ?_
  refine W_region ?_
  refine L_assign rfl rfl ?_
  refine L_nil ?_
  refine W_seq ?_
  refine W_region ?_
  refine L_move rfl rfl ?_
  refine L_move rfl rfl ?_
  refine L_move rfl rfl ?_
  refine L_move rfl rfl ?_
  refine L_lenS rfl rfl el28 ?_
  refine L_sl3 rfl rfl rfl rfl rfl el28 (by omega) (by omega) (by omega) (by omega) (fun _ => ?_)
  refine L_nil ?_
  refine W_seq ?_
  refine W_seq ?_
  refine W_region ?_
  refine L_move rfl rfl ?_
  refine L_move rfl rfl ?_
  refine L_binV rfl rfl rfl bv_eql ?_
  refine L_nil ?_
  refine W_cond rfl (fun hc => ?_) (fun hc => ?_)
  · exfalso; simp at hc; omega
  refine W_skip ?_
  refine W_seq ?_
  refine W_region ?_
  refine L_move rfl rfl ?_
  refine L_lenS rfl rfl el28 ?_
  refine L_assign rfl rfl ?_
  refine L_nil ?_
  refine W_seq ?_
  refine W_DS (pre := [_, _, _, _, _, _]) (suf := [_, _]) [22, 25] [] _ (perm_nil_left _) mix (by kernel_rfl) (by kernel_rfl) rfl ?_
  refine D_move GC.none (OpV.t rfl) ?_
  refine D_move GC.none (OpV.t rfl) ?_
  refine D_slV (g := a0.g) (o := 0) (n := a0.els.length) (c := a0.cap) (a := 0) (b := (i : Int)) GC.none (OpV.t rfl) optD.none (optD.some (OpV.t rfl)) el28 (by omega) (by omega) (by omega) ?_
  refine D_move GC.none (OpV.t rfl) ?_
  refine D_move GC.none (OpV.t rfl) ?_
  refine D_slV (g := a0.g) (o := 0) (n := a0.els.length) (c := a0.cap) (a := (j : Int)) (b := (a0.els.length : Int)) GC.none (OpV.t rfl) (optD.some (OpV.t rfl)) optD.none el28 (by omega) (by omega) (by omega) ?_
  refine DV_nil ?_
  refine Give_is rfl rfl ?_
  refine Give_drop rfl ?_
  refine Give_drop rfl ?_
  refine Give_is rfl rfl ?_
  refine Give_drop rfl ?_
  refine Give_drop rfl ?_
  refine Give_nil ?_
  simp only [Int.toNat_natCast, Int.toNat_zero, sl0, Nat.sub_zero]
  have hseg := seg_drop (X := a0) (j := j) (sz := 3) rfl hjl fl
  have e1 : i * 3 + (a0.els.length - j) * 3 ≤ a0.cap * 3 := by rw [← Nat.add_mul]; exact Nat.mul_le_mul_right _ (by omega)
  refine L_appRaw (n := i) (m := a0.els.length - j) (o := slA 0 a0.cap j 3) rfl rfl rfl el28 (by first | (with_reducible repeat (first | exact Pick.here _ | apply Pick.there)); done | (repeat (first | exact Pick.here _ | apply Pick.there))) (by omega) (by
    rw [hcl]; unfold slA; split
    · have : a0.els.length - j = 0 := by omega
      rw [this]; omega
    · rw [Nat.zero_add, ← Nat.add_mul]; exact Nat.mul_le_mul_right _ (by omega)) (by rw [hcl]; exact e1) (by rw [hseg]; exact fun u hu => rowCells_one _ u hu) ?_
  rw [hseg]
  generalize hcs : (rowCells a0.els ++ a0.tail).take (i * 3) ++ rowCells (a0.els.drop j) ++ (rowCells a0.els ++ a0.tail).drop (i * 3 + (a0.els.length - j) * 3) = cs
  have hcsl : cs.length = a0.cap * 3 := by
    rw [← hcs]
    simp only [List.length_append, List.length_take, List.length_drop, length_rowCells, hsz] at hcl ⊢
    omega
  refine L_assign rfl rfl ?_
  refine L_nil ?_
  refine W_seq ?_
  refine W_region ?_
  refine L_move rfl rfl ?_
  refine L_move rfl rfl ?_
  refine L_lenS rfl rfl el28 ?_
  refine L_move rfl rfl ?_
  refine L_slV (g := a0.g) (o := 0) (n := i + (a0.els.length - j)) (c := a0.cap) (a := ((i + (a0.els.length - j) : Nat) : Int)) (b := (a0.els.length : Int)) rfl rfl rfl rfl el28 (by omega) (by omega) (by omega) ?_
  simp only [Int.toNat_natCast]
  rw [slLt (show i + (a0.els.length - j) < a0.cap by omega)]
  refine L_clrRaw rfl el28 rfl (allOne rfl) (by first | (with_reducible repeat (first | exact Pick.here _ | apply Pick.there)); done | (repeat (first | exact Pick.here _ | apply Pick.there))) (by rw [hcsl, ← Nat.add_mul]; exact Nat.mul_le_mul_right _ (by omega)) (by omega) ?_
  rw [del_cells (sz := 3) (List.flatten _) (show GT.sz T_Blob = 3 from rfl) rfl hij hjl cs hcs.symm]
  refine L_nil ?_
  refine W_seq ?_
  refine W_region ?_
  refine L_move rfl rfl ?_
  refine L_assign rfl rfl ?_
  refine L_nil ?_
  refine W_conv (fun w h => els_sub (perm_del a0.els i j (by omega)) (by first | (with_reducible repeat (first | exact Pick.here _ | apply Pick.there)); done | (repeat (first | exact Pick.here _ | apply Pick.there))) h) ?_
  have hle : (a0.els.take i ++ a0.els.drop j).length = i + (a0.els.length - j) := by
    rw [List.length_append, List.length_take, List.length_drop, Nat.min_eq_left (by omega)]
  have htl : ((List.replicate (a0.els.length - (i + (a0.els.length - j))) ([.string ByteArray.empty, .string ByteArray.empty, .bool false] : List Value)).flatten ++ a0.tail).length = (a0.els.length - (i + (a0.els.length - j))) * 3 + a0.tail.length := by
    simp
  refine W_conv (fun w h => raw_close (τ := T_Blob) (g := a0.g) (e := a0.e) (cap := a0.cap) (els := a0.els.take i ++ a0.els.drop j) (tail := (List.replicate (a0.els.length - (i + (a0.els.length - j))) ([.string ByteArray.empty, .string ByteArray.empty, .bool false] : List Value)).flatten ++ a0.tail) rfl (by rw [hle]; omega) fm (by
    rw [hle, htl, hsz]
    have h3 : (i + (a0.els.length - j)) * 3 + (a0.els.length - (i + (a0.els.length - j))) * 3 = a0.els.length * 3 := by rw [← Nat.add_mul]; congr 1; omega
    omega) (by first | (with_reducible repeat (first | exact Pick.here _ | apply Pick.there)); done | (repeat (first | exact Pick.here _ | apply Pick.there))) (by first | (with_reducible repeat (first | exact Pick.here _ | apply Pick.there)); done | (repeat (first | exact Pick.here _ | apply Pick.there))) h) ?_
  refine W_ret ?_
  refine res1 rfl (ResOK.tmp rfl) ⟨⟨some ⟨a0.g, 0, none⟩, a0.cap, a0.e, a0.els.take i ++ a0.els.drop j, (List.replicate (a0.els.length - (i + (a0.els.length - j))) ([.string ByteArray.empty, .string ByteArray.empty, .bool false] : List Value)).flatten ++ a0.tail⟩, ?_, ?_, rfl⟩ (MSub.cons (by first | (with_reducible repeat (first | exact Pick.here _ | apply Pick.there)); done | (repeat (first | exact Pick.here _ | apply Pick.there))) (MSub.nil _))
  · show Value.slice _ _ _ = Value.slice _ _ _
    rw [hle]
  · rw [dat_els, dat_els]
    simp [List.map_take, List.map_drop]

end Go.Proofs.SL
