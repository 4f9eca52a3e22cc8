import Derived.Test.YtfcbkchggigoeaaT6
namespace Go.Proofs.SL
open Go

def nOk (ns : List Int) (j : Nat) (n : Int) : Prop := (0 ≤ n ∧ n < 3) ∧ ∀ r, 0 < j → ns[j - 1]? = some r → r < n
def uOk (e : Int) (xs : List (ByteArray × List Int × Int)) (i : Nat) (x : ByteArray × List Int × Int) : Prop :=
  x.1.size = 8 ∧ (∀ r, 0 < i → xs[i - 1]? = some r → sLt r.1 x.1 = true) ∧ x.2.1.length ≠ 0 ∧ (0 ≤ x.2.2 ∧ x.2.2 ≤ e) ∧ ∀ j n, x.2.1[j]? = some n → nOk x.2.1 j n
def okU (d : Int × List (ByteArray × List Int × Int)) : Prop := (0 ≤ d.1 ∧ d.1 ≤ 1000) ∧ d.2.length ≤ 20 ∧ ∀ i x, d.2[i]? = some x → uOk d.1 d.2 i x


def ndV : Option T_Up → Value
  | some u => u.2.1.hdr
  | none => .slice none 0 0
def ndN : Option T_Up → Nat
  | some u => u.2.1.els.length
  | none => 0
theorem ndV_eq (o : Option T_Up) : ∃ a c, ndV o = .slice a (ndN o) c := by
  cases o with
  | none => exact ⟨none, 0, rfl⟩
  | some u => exact ⟨_, _, rfl⟩
noncomputable def upHasD (d : Int × List (ByteArray × List Int × Int)) (s : ByteArray) : Int := if pB (okU d) = true then (match d.2.find? (fun x => decide (x.1 = s)) with | some x => (x.2.1.length : Int) | none => 0) else 0
theorem find_dat (x1 : List T_Up) (s : ByteArray) : (x1.map GT.dat).find? (fun x : ByteArray × List Int × Int => decide (x.1 = s)) = (x1.find? (fun x : T_Up => decide (x.1 = s))).map GT.dat := by rw [List.find?_map]; rfl

theorem fn78 : IsFn Try.prog 78 := ⟨_, Try.func78, by kernel_rfl, rfl⟩
theorem fn64 : IsFn Try.prog 64 := ⟨_, Try.func64, by kernel_rfl, rfl⟩
theorem fn66 : IsFn Try.prog 66 := ⟨_, Try.func66, by kernel_rfl, rfl⟩
theorem fn77 : IsFn Try.prog 77 := ⟨_, Try.func77, by kernel_rfl, rfl⟩
theorem fn67 : IsFn Try.prog 67 := ⟨_, Try.func67, by kernel_rfl, rfl⟩
theorem fn49 : IsFn Try.prog 49 := ⟨_, Try.func49, by kernel_rfl, rfl⟩
theorem fn50 : IsFn Try.prog 50 := ⟨_, Try.func50, by kernel_rfl, rfl⟩
theorem fn52 : IsFn Try.prog 52 := ⟨_, Try.func52, by kernel_rfl, rfl⟩
theorem fn53 : IsFn Try.prog 53 := ⟨_, Try.func53, by kernel_rfl, rfl⟩
theorem l9Node_spec (w : World) (x : Int) : Spec Try.prog 64 [.int .i64 x].toArray w [] (IsV (.bool (decide (0 ≤ x ∧ x < 3)))) := by
  refine Spec.intro Try.func64 rfl Try.ntmps64 rfl ?_
  refine W_seq ?_
  refine W_region ?_
  refine L_assign rfl rfl ?_
  refine L_nil ?_
  refine W_seq ?_
  refine W_D0 [2] mix (by kernel_rfl) rfl ?_
  refine D_move GC.none (OpV.t rfl) ?_
  refine D_bin GC.none (OpV.t rfl) OpV.c (fun hg => bv_geq) ?_
  refine D_move GC.none (OpV.t rfl) ?_
  refine D_move (GC.some rfl rfl) (OpV.t rfl) ?_
  refine D_bin (GC.some rfl rfl) (OpV.s rfl) OpV.c (fun hg => bv_lss) ?_
  refine D_and (cy := _) GC.none (OpV.t rfl) (OpV.s rfl) (fun h hb => ⟨h, hb⟩) ?_
  refine D_assign GC.none (OpV.t rfl) ?_
  refine DV_nil ?_
  refine Give_is rfl rfl ?_
  refine Give_drop rfl ?_
  refine Give_drop rfl ?_
  refine Give_drop rfl ?_
  refine Give_drop rfl ?_
  refine Give_drop rfl ?_
  refine Give_drop rfl ?_
  refine Give_nil ?_
  refine W_ret ?_
  -- return 1 (R1)
  refine res1 rfl (ResOK.tmp rfl) ⟨?_, rfl⟩ (MSub.nil _)
  simp [Bool.decide_and]

theorem isRep_spec (w : World) (x : Int) : Spec Try.prog 66 [.int .i64 x].toArray w [] (IsV (.bool (decide (0 ≤ x ∧ x < 3)))) := by
  refine Spec.intro Try.func66 rfl Try.ntmps66 rfl ?_
  refine W_seq ?_
  refine W_region ?_
  refine L_assign rfl rfl ?_
  refine L_nil ?_
  refine W_seq ?_
  refine W_region ?_
  refine L_move rfl rfl ?_
  refine L_callX rfl fn45 rfl (by exact fun w hw => within_spec w _ _ _) ?_
  refine L_assign rfl rfl ?_
  refine L_nil ?_
  refine W_ret ?_
  -- return 1 (R1)
  refine res1 rfl (ResOK.tmp rfl) ⟨?_, rfl⟩ (MSub.nil _)
  refine congrArg Value.bool (decide_eq_decide.2 ?_); omega

theorem sUpsOk_spec (w : World) (t1 : T_Ups) (h1 : GT.rd w [] t1) : Spec Try.prog 50 [.agg (GT.cells t1).toArray].toArray w [] (IsV (.bool (pB (okU (GT.dat t1))))) := by
  obtain ⟨a1, ⟨a3, c3, e3, x1, y1⟩⟩ := t1
  have hm1 : x1.length ≤ 9223372036854775807 := rd_len h1.2
  change Spec _ _ [Value.agg #[.int .i64 a1, TL.hdr ⟨a3, c3, e3, x1, y1⟩]].toArray w [] _
  simp only [dat_pair, dat_int, dat_TL]
  refine Spec.intro Try.func50 rfl Try.ntmps50 rfl ?_
  refine W_seq ?_
  refine W_region ?_
  refine L_box rfl rfl (fun bk1 => ?_)
  refine L_assign rfl rfl ?_
  refine L_nil ?_
  refine W_seq ?_
  refine W_seq ?_
  refine W_D0 [15] mix (by kernel_rfl) rfl ?_
  refine D_fieldAddr GC.none (OpV.t rfl) fld52_0 ?_
  refine D_load GC.none (OpV.t rfl) (fun hg => (by first | exact RdC.blk (by repeat (first | exact List.Mem.head _ | apply List.Mem.tail)) | exact RdC.old (Cells.el h1.2 rfl hu) | exact RdC.old (Cells.el h1.2 rfl (hup (by simp at hg; omega))) | exact RdC.old (Cells.el hru.2.1 rfl hu4) | exact RdC.old (Cells.el hru.2.1 rfl (hu5 (by simp at hg; omega))))) one3 rfl ?_
  refine D_callX GC.none fn36 (OpVs.cons (OpV.t rfl) (OpVs.cons OpV.c (OpVs.cons OpV.c (OpVs.nil)))) (by exact fun hg w F hF hM => (fun w hw => l1In_spec w _ _ _) w hF) ?_
  refine D_not GC.none (OpV.t rfl) ?_
  refine D_move GC.none (OpV.t rfl) ?_
  refine D_fieldAddr (GC.some rfl rfl) (OpV.t rfl) fld52_1 ?_
  refine D_load (GC.some rfl rfl) (OpV.s rfl) (fun hg => (by first | exact RdC.blk (by repeat (first | exact List.Mem.head _ | apply List.Mem.tail)) | exact RdC.old (Cells.el h1.2 rfl hu) | exact RdC.old (Cells.el h1.2 rfl (hup (by simp at hg; omega))) | exact RdC.old (Cells.el hru.2.1 rfl hu4) | exact RdC.old (Cells.el hru.2.1 rfl (hu5 (by simp at hg; omega))))) one50 rfl ?_
  refine D_lenS (GC.some rfl rfl) (OpV.s rfl) el50 ?_
  refine D_bin (GC.some rfl rfl) (OpV.s rfl) OpV.c (fun hg => bv_gtr) ?_
  refine D_or (cy := _) GC.none (OpV.t rfl) (OpV.s rfl) (fun h hb => ⟨h, hb⟩) ?_
  refine DV_nil ?_
  refine Give_is rfl rfl ?_
  refine Give_drop rfl ?_
  refine Give_drop rfl ?_
  refine Give_drop rfl ?_
  refine Give_drop rfl ?_
  refine Give_drop rfl ?_
  refine Give_drop rfl ?_
  refine Give_drop rfl ?_
  refine Give_drop rfl ?_
  refine Give_drop rfl ?_
  refine Give_nil ?_
  refine W_weaken (l' := [(1, _), (15, _)]) (Sub.cons rfl (Sub.cons rfl (Sub.nil _))) (MSub.refl _) ?_
  refine W_cond rfl (fun hc1 => ?_) (fun hc1 => ?_)
  · skip
    refine W_seq ?_
    refine W_region ?_
    refine L_assign rfl rfl ?_
    refine L_nil ?_
    refine W_ret ?_
    -- return 1 (R2)
    refine res1 rfl (ResOK.tmp rfl) ⟨?_, rfl⟩ (MSub.nil _)
    refine congrArg Value.bool (Eq.symm (pB_false fun e => ?_))
    obtain ⟨e1, e2, _⟩ := e
    simp at hc1
    simp only [List.length_map] at *
    omega
  · skip
    simp [-not_and] at hc1
    obtain ⟨hr1, hr3⟩ := hc1
    refine W_skip ?_
    refine W_seq ?_
    refine W_seq ?_
    refine W_region ?_
    refine L_assign rfl rfl ?_
    refine L_nil ?_
    refine W_block ?_
    refine W_loopC (σ := Nat) 0 (fun (k : Nat) => [(3, .int .i64 (k : Int))]) (fun (k : Nat) => []) (fun (k : Nat) => k ≤ x1.length ∧ ∀ i s, i < k → (x1.map GT.dat)[i]? = some s → uOk a1 (x1.map GT.dat) i s) (fun (k : Nat) => x1.length - k) [(1, _)] [_] ?_ (Sub.cons rfl (Sub.cons rfl (Sub.nil _))) (MSub.cons (by repeat (first | exact Pick.here _ | apply Pick.there)) (MSub.nil _)) ?_
    · skip
      exact ⟨Nat.zero_le _, fun i s h => absurd h (by omega)⟩
    · skip
      rintro k ⟨hk, ht⟩
      refine W_weaken (l' := [(1, _), (3, _)]) (Sub.cons rfl (Sub.cons rfl (Sub.nil _))) (M' := [_]) (MSub.cons (by repeat (first | exact Pick.here _ | apply Pick.there)) (MSub.nil _)) ?_
      refine W_seq ?_
      refine W_seq ?_
      refine W_region ?_
      refine L_move rfl rfl ?_
      refine L_fieldAddr rfl rfl fld52_1 ?_
      refine L_load rfl rfl (by first | exact RdC.blk (by repeat (first | exact List.Mem.head _ | apply List.Mem.tail)) | exact RdC.old (Cells.el h1.2 rfl hu) | exact RdC.old (Cells.el h1.2 rfl (hup (by simp at hg; omega))) | exact RdC.old (Cells.el hru.2.1 rfl hu4) | exact RdC.old (Cells.el hru.2.1 rfl (hu5 (by simp at hg; omega)))) one50 rfl ?_
      refine L_lenS rfl rfl el50 ?_
      refine L_binV rfl rfl rfl bv_lss ?_
      refine L_nil ?_
      refine W_weaken (l' := [(1, _), (3, _), (20, _)]) (Sub.cons rfl (Sub.cons rfl (Sub.cons rfl (Sub.nil _)))) (MSub.refl _) ?_
      refine W_cond rfl (fun hc4 => ?_) (fun hc4 => ?_)
      · skip
        have hk1 : k < x1.length := by simpa using hc4
        obtain ⟨g1, o1, rfl⟩ := rd_addr h1.2 hk1
        obtain ⟨u, hu⟩ := getEl hk1
        obtain ⟨up, hup⟩ : ∃ up, 0 < k → x1[k - 1]? = some up := by
          rcases Nat.eq_zero_or_pos k with h0 | h0
          · exact ⟨u, fun h => absurd h (by omega)⟩
          · obtain ⟨up, hup⟩ := getEl (show k - 1 < x1.length by omega)
            exact ⟨up, fun _ => hup⟩
        have hud : (x1.map GT.dat)[k]? = some (GT.dat u) := by rw [List.getElem?_map, hu]; rfl
        have hupd : 0 < k → (x1.map GT.dat)[k - 1]? = some (GT.dat up) := fun h => by rw [List.getElem?_map, hup h]; rfl
        have hru : GT.rd w [] u := h1.2.2.2.1 _ (List.mem_of_getElem? hu)
        obtain ⟨b1, ⟨b4, c4, e4, x4, y4⟩, b3⟩ := u
        obtain ⟨p1, ⟨p4, q4, r4, z4, v4⟩, p3⟩ := up
        have hm4 : x4.length ≤ 9223372036854775807 := rd_len hru.2.1
        simp only [dat_pair, dat_int, dat_str, dat_TL] at hud hupd
        refine W_skip ?_
        refine W_seq ?_
        refine W_block ?_
        refine W_seq ?_
        refine W_region ?_
        refine L_fieldAddr rfl rfl fld52_1 ?_
        refine L_load rfl rfl (by first | exact RdC.blk (by repeat (first | exact List.Mem.head _ | apply List.Mem.tail)) | exact RdC.old (Cells.el h1.2 rfl hu) | exact RdC.old (Cells.el h1.2 rfl (hup (by simp at hg; omega))) | exact RdC.old (Cells.el hru.2.1 rfl hu4) | exact RdC.old (Cells.el hru.2.1 rfl (hu5 (by simp at hg; omega)))) one50 rfl ?_
        refine L_move rfl rfl ?_
        refine L_indexAddr rfl rfl rfl el50 rfl (by omega) ?_
        refine L_loadW rfl rfl (by first | exact RdC.blk (by repeat (first | exact List.Mem.head _ | apply List.Mem.tail)) | exact RdC.old (Cells.el h1.2 rfl hu) | exact RdC.old (Cells.el h1.2 rfl (hup (by simp at hg; omega))) | exact RdC.old (Cells.el hru.2.1 rfl hu4) | exact RdC.old (Cells.el hru.2.1 rfl (hu5 (by simp at hg; omega)))) (by exact agg82) ?_
        refine L_alloc rfl zero82 (fun bk4 => ?_)
        refine L_storeW rfl rfl (by repeat (first | exact Pick.here _ | apply Pick.there)) (by exact agg82) (by rfl) (by first | (simp [Value.oneCell', TL.hdr]; done) | exact fun v hv => GT.one _ v hv) ?_
        refine L_nil ?_
        refine W_seq ?_
        refine W_seq ?_
        refine W_D0 [61] mix (by kernel_rfl) rfl ?_
        refine D_fieldAddr GC.none (OpV.t rfl) fld82_0 ?_
        refine D_load GC.none (OpV.t rfl) (fun hg => (by first | exact RdC.blk (by repeat (first | exact List.Mem.head _ | apply List.Mem.tail)) | exact RdC.old (Cells.el h1.2 rfl hu) | exact RdC.old (Cells.el h1.2 rfl (hup (by simp at hg; omega))) | exact RdC.old (Cells.el hru.2.1 rfl hu4) | exact RdC.old (Cells.el hru.2.1 rfl (hu5 (by simp at hg; omega))))) one9 rfl ?_
        refine D_lenT GC.none (OpV.t rfl) str9 ?_
        refine D_bin GC.none (OpV.t rfl) OpV.c (fun hg => bv_neq) ?_
        refine D_move GC.none (OpV.t rfl) ?_
        refine D_move (GC.some rfl rfl) (OpV.t rfl) ?_
        refine D_bin (GC.some rfl rfl) (OpV.s rfl) OpV.c (fun hg => bv_gtr) ?_
        refine D_move (GC.some rfl rfl) (OpV.s rfl) ?_
        refine D_fieldAddr (GC.some rfl rfl) (OpV.t rfl) fld52_1 ?_
        refine D_load (GC.some rfl rfl) (OpV.s rfl) (fun hg => (by first | exact RdC.blk (by repeat (first | exact List.Mem.head _ | apply List.Mem.tail)) | exact RdC.old (Cells.el h1.2 rfl hu) | exact RdC.old (Cells.el h1.2 rfl (hup (by simp at hg; omega))) | exact RdC.old (Cells.el hru.2.1 rfl hu4) | exact RdC.old (Cells.el hru.2.1 rfl (hu5 (by simp at hg; omega))))) one50 rfl ?_
        refine D_move (GC.some rfl rfl) (OpV.t rfl) ?_
        refine D_bin (GC.some rfl rfl) (OpV.s rfl) OpV.c (fun hg => (bv_subR (by simp at hg; unfold inR; omega))) ?_
        refine D_indexAddr (k - 1) (GC.some rfl rfl) (OpV.s rfl) (OpV.s rfl) el50 (fun hg => ⟨by simp at hg; omega, by show k - 1 < x1.length; simp at hg; omega⟩) ?_
        refine D_fieldAddr (GC.some rfl rfl) (OpV.s rfl) fld82_0 ?_
        refine D_load (GC.some rfl rfl) (OpV.s rfl) (fun hg => (by first | exact RdC.blk (by repeat (first | exact List.Mem.head _ | apply List.Mem.tail)) | exact RdC.old (Cells.el h1.2 rfl hu) | exact RdC.old (Cells.el h1.2 rfl (hup (by simp at hg; omega))) | exact RdC.old (Cells.el hru.2.1 rfl hu4) | exact RdC.old (Cells.el hru.2.1 rfl (hu5 (by simp at hg; omega))))) one9 rfl ?_
        refine D_fieldAddr (GC.some rfl rfl) (OpV.t rfl) fld82_0 ?_
        refine D_load (GC.some rfl rfl) (OpV.s rfl) (fun hg => (by first | exact RdC.blk (by repeat (first | exact List.Mem.head _ | apply List.Mem.tail)) | exact RdC.old (Cells.el h1.2 rfl hu) | exact RdC.old (Cells.el h1.2 rfl (hup (by simp at hg; omega))) | exact RdC.old (Cells.el hru.2.1 rfl hu4) | exact RdC.old (Cells.el hru.2.1 rfl (hu5 (by simp at hg; omega))))) one9 rfl ?_
        refine D_bin (GC.some rfl rfl) (OpV.s rfl) (OpV.s rfl) (fun hg => bv_sgeq) ?_
        refine D_and (cy := _) (GC.some rfl rfl) (OpV.s rfl) (OpV.s rfl) (fun h hb => ⟨h, hb⟩) ?_
        refine D_or (cy := _) GC.none (OpV.t rfl) (OpV.s rfl) (fun h hb => ⟨h, hb⟩) ?_
        refine D_move GC.none (OpV.t rfl) ?_
        refine D_fieldAddr (GC.some rfl rfl) (OpV.t rfl) fld82_1 ?_
        refine D_load (GC.some rfl rfl) (OpV.s rfl) (fun hg => (by first | exact RdC.blk (by repeat (first | exact List.Mem.head _ | apply List.Mem.tail)) | exact RdC.old (Cells.el h1.2 rfl hu) | exact RdC.old (Cells.el h1.2 rfl (hup (by simp at hg; omega))) | exact RdC.old (Cells.el hru.2.1 rfl hu4) | exact RdC.old (Cells.el hru.2.1 rfl (hu5 (by simp at hg; omega))))) one56 rfl ?_
        refine D_lenS (GC.some rfl rfl) (OpV.s rfl) el56 ?_
        refine D_bin (GC.some rfl rfl) (OpV.s rfl) OpV.c (fun hg => bv_eql) ?_
        refine D_or (cy := _) GC.none (OpV.t rfl) (OpV.s rfl) (fun h hb => ⟨h, hb⟩) ?_
        refine D_move GC.none (OpV.t rfl) ?_
        refine D_fieldAddr (GC.some rfl rfl) (OpV.t rfl) fld82_2 ?_
        refine D_load (GC.some rfl rfl) (OpV.s rfl) (fun hg => (by first | exact RdC.blk (by repeat (first | exact List.Mem.head _ | apply List.Mem.tail)) | exact RdC.old (Cells.el h1.2 rfl hu) | exact RdC.old (Cells.el h1.2 rfl (hup (by simp at hg; omega))) | exact RdC.old (Cells.el hru.2.1 rfl hu4) | exact RdC.old (Cells.el hru.2.1 rfl (hu5 (by simp at hg; omega))))) one3 rfl ?_
        refine D_fieldAddr (GC.some rfl rfl) (OpV.t rfl) fld52_0 ?_
        refine D_load (GC.some rfl rfl) (OpV.s rfl) (fun hg => (by first | exact RdC.blk (by repeat (first | exact List.Mem.head _ | apply List.Mem.tail)) | exact RdC.old (Cells.el h1.2 rfl hu) | exact RdC.old (Cells.el h1.2 rfl (hup (by simp at hg; omega))) | exact RdC.old (Cells.el hru.2.1 rfl hu4) | exact RdC.old (Cells.el hru.2.1 rfl (hu5 (by simp at hg; omega))))) one3 rfl ?_
        refine D_callX (GC.some rfl rfl) fn36 (OpVs.cons (OpV.s rfl) (OpVs.cons OpV.c (OpVs.cons (OpV.s rfl) (OpVs.nil)))) (by exact fun hg w F hF hM => (fun w hw => l1In_spec w _ _ _) w hF) ?_
        refine D_not (GC.some rfl rfl) (OpV.s rfl) ?_
        refine D_or (cy := _) GC.none (OpV.t rfl) (OpV.s rfl) (fun h hb => ⟨h, hb⟩) ?_
        refine DV_nil ?_
        refine Give_is rfl rfl ?_
        refine Give_drop rfl ?_
        refine Give_drop rfl ?_
        refine Give_drop rfl ?_
        refine Give_drop rfl ?_
        refine Give_drop rfl ?_
        refine Give_drop rfl ?_
        refine Give_drop rfl ?_
        refine Give_drop rfl ?_
        refine Give_drop rfl ?_
        refine Give_drop rfl ?_
        refine Give_drop rfl ?_
        refine Give_drop rfl ?_
        refine Give_drop rfl ?_
        refine Give_drop rfl ?_
        refine Give_drop rfl ?_
        refine Give_drop rfl ?_
        refine Give_drop rfl ?_
        refine Give_drop rfl ?_
        refine Give_drop rfl ?_
        refine Give_drop rfl ?_
        refine Give_drop rfl ?_
        refine Give_drop rfl ?_
        refine Give_drop rfl ?_
        refine Give_drop rfl ?_
        refine Give_drop rfl ?_
        refine Give_drop rfl ?_
        refine Give_drop rfl ?_
        refine Give_drop rfl ?_
        refine Give_drop rfl ?_
        refine Give_drop rfl ?_
        refine Give_drop rfl ?_
        refine Give_drop rfl ?_
        refine Give_drop rfl ?_
        refine Give_nil ?_
        refine W_weaken (l' := [(1, _), (3, _), (4, _), (61, _)]) (Sub.cons rfl (Sub.cons rfl (Sub.cons rfl (Sub.cons rfl (Sub.nil _))))) (MSub.refl _) ?_
        refine W_cond rfl (fun hc7 => ?_) (fun hc7 => ?_)
        · skip
          refine W_seq ?_
          refine W_region ?_
          refine L_assign rfl rfl ?_
          refine L_nil ?_
          refine W_ret ?_
          -- return 2 (R8)
          refine res1 rfl (ResOK.tmp rfl) ⟨?_, rfl⟩ (MSub.nil _)
          refine congrArg Value.bool (Eq.symm (pB_false fun e => ?_))
          have e1 := e.2.2 k _ hud
          unfold uOk at e1
          obtain ⟨e2, e3, e4, e5, e6⟩ := e1
          have e8 := fun h : 0 < k => e3 _ h (hupd h)
          simp only [List.length_map] at *
          have hc8 := hc7
          simp [e2, e4] at hc8
          rcases hc8 with ⟨h0, h9⟩ | h9
          · rw [e8 h0] at h9; cases h9
          · omega
        · skip
          simp [-not_and] at hc7
          refine W_skip ?_
          refine W_seq ?_
          refine W_region ?_
          refine L_assign rfl rfl ?_
          refine L_nil ?_
          refine W_block ?_
          refine W_loopC (σ := Nat) 0 (fun (j : Nat) => [(5, .int .i64 (j : Int))]) (fun (j : Nat) => []) (fun (j : Nat) => j ≤ x4.length ∧ ∀ i n, i < j → (x4.map GT.dat)[i]? = some n → nOk (x4.map GT.dat) i n) (fun (j : Nat) => x4.length - j) [(1, _), (3, _), (4, _)] [_, _] ?_ (Sub.cons rfl (Sub.cons rfl (Sub.cons rfl (Sub.cons rfl (Sub.nil _))))) (MSub.cons (by repeat (first | exact Pick.here _ | apply Pick.there)) (MSub.cons (by repeat (first | exact Pick.here _ | apply Pick.there)) (MSub.nil _))) ?_
          · skip
            exact ⟨Nat.zero_le _, fun i n h => absurd h (by omega)⟩
          · skip
            rintro j ⟨hj, hs⟩
            refine W_weaken (l' := [(1, _), (3, _), (4, _), (5, _)]) (Sub.cons rfl (Sub.cons rfl (Sub.cons rfl (Sub.cons rfl (Sub.nil _))))) (M' := [_, _]) (MSub.cons (by repeat (first | exact Pick.here _ | apply Pick.there)) (MSub.cons (by repeat (first | exact Pick.here _ | apply Pick.there)) (MSub.nil _))) ?_
            refine W_seq ?_
            refine W_seq ?_
            refine W_region ?_
            refine L_move rfl rfl ?_
            refine L_fieldAddr rfl rfl fld82_1 ?_
            refine L_load rfl rfl (by first | exact RdC.blk (by repeat (first | exact List.Mem.head _ | apply List.Mem.tail)) | exact RdC.old (Cells.el h1.2 rfl hu) | exact RdC.old (Cells.el h1.2 rfl (hup (by simp at hg; omega))) | exact RdC.old (Cells.el hru.2.1 rfl hu4) | exact RdC.old (Cells.el hru.2.1 rfl (hu5 (by simp at hg; omega)))) one56 rfl ?_
            refine L_lenS rfl rfl el56 ?_
            refine L_binV rfl rfl rfl bv_lss ?_
            refine L_nil ?_
            refine W_weaken (l' := [(1, _), (3, _), (4, _), (5, _), (66, _)]) (Sub.cons rfl (Sub.cons rfl (Sub.cons rfl (Sub.cons rfl (Sub.cons rfl (Sub.nil _)))))) (MSub.refl _) ?_
            refine W_cond rfl (fun hc10 => ?_) (fun hc10 => ?_)
            · skip
              have hk4 : j < x4.length := by simpa using hc10
              obtain ⟨g4, o4, rfl⟩ := rd_addr hru.2.1 hk4
              obtain ⟨u4, hu4⟩ := getEl hk4
              obtain ⟨u5, hu5⟩ : ∃ u5, 0 < j → x4[j - 1]? = some u5 := by
                rcases Nat.eq_zero_or_pos j with h0 | h0
                · exact ⟨u4, fun h => absurd h (by omega)⟩
                · obtain ⟨up, hup⟩ := getEl (show j - 1 < x4.length by omega)
                  exact ⟨up, fun _ => hup⟩
              have hu4d : (x4.map GT.dat)[j]? = some u4 := by rw [List.getElem?_map, hu4]; rfl
              have hu5d : 0 < j → (x4.map GT.dat)[j - 1]? = some u5 := fun h => by rw [List.getElem?_map, hu5 h]; rfl
              refine W_skip ?_
              refine W_seq ?_
              refine W_block ?_
              refine W_seq ?_
              refine W_D0 [93] mix (by kernel_rfl) rfl ?_
              refine D_fieldAddr GC.none (OpV.t rfl) fld82_1 ?_
              refine D_load GC.none (OpV.t rfl) (fun hg => (by first | exact RdC.blk (by repeat (first | exact List.Mem.head _ | apply List.Mem.tail)) | exact RdC.old (Cells.el h1.2 rfl hu) | exact RdC.old (Cells.el h1.2 rfl (hup (by simp at hg; omega))) | exact RdC.old (Cells.el hru.2.1 rfl hu4) | exact RdC.old (Cells.el hru.2.1 rfl (hu5 (by simp at hg; omega))))) one56 rfl ?_
              refine D_move GC.none (OpV.t rfl) ?_
              refine D_indexAddr _ GC.none (OpV.t rfl) (OpV.t rfl) el56 (fun hg => ⟨rfl, by (try dsimp only); omega⟩) ?_
              refine D_load0 GC.none (OpV.t rfl) (fun hg => (by first | exact RdC.blk (by repeat (first | exact List.Mem.head _ | apply List.Mem.tail)) | exact RdC.old (Cells.el h1.2 rfl hu) | exact RdC.old (Cells.el h1.2 rfl (hup (by simp at hg; omega))) | exact RdC.old (Cells.el hru.2.1 rfl hu4) | exact RdC.old (Cells.el hru.2.1 rfl (hu5 (by simp at hg; omega))))) one3 rfl ?_
              refine D_callX GC.none fn64 (OpVs.cons (OpV.t rfl) (OpVs.nil)) (by exact fun hg w F hF hM => (fun w hw => l9Node_spec w _) w hF) ?_
              refine D_not GC.none (OpV.t rfl) ?_
              refine D_move GC.none (OpV.t rfl) ?_
              refine D_move (GC.some rfl rfl) (OpV.t rfl) ?_
              refine D_bin (GC.some rfl rfl) (OpV.s rfl) OpV.c (fun hg => bv_gtr) ?_
              refine D_move (GC.some rfl rfl) (OpV.s rfl) ?_
              refine D_fieldAddr (GC.some rfl rfl) (OpV.t rfl) fld82_1 ?_
              refine D_load (GC.some rfl rfl) (OpV.s rfl) (fun hg => (by first | exact RdC.blk (by repeat (first | exact List.Mem.head _ | apply List.Mem.tail)) | exact RdC.old (Cells.el h1.2 rfl hu) | exact RdC.old (Cells.el h1.2 rfl (hup (by simp at hg; omega))) | exact RdC.old (Cells.el hru.2.1 rfl hu4) | exact RdC.old (Cells.el hru.2.1 rfl (hu5 (by simp at hg; omega))))) one56 rfl ?_
              refine D_move (GC.some rfl rfl) (OpV.t rfl) ?_
              refine D_bin (GC.some rfl rfl) (OpV.s rfl) OpV.c (fun hg => (bv_subR (by simp at hg; unfold inR; omega))) ?_
              refine D_indexAddr (j - 1) (GC.some rfl rfl) (OpV.s rfl) (OpV.s rfl) el56 (fun hg => ⟨by simp at hg; omega, by show j - 1 < x4.length; simp at hg; omega⟩) ?_
              refine D_load0 (GC.some rfl rfl) (OpV.s rfl) (fun hg => (by first | exact RdC.blk (by repeat (first | exact List.Mem.head _ | apply List.Mem.tail)) | exact RdC.old (Cells.el h1.2 rfl hu) | exact RdC.old (Cells.el h1.2 rfl (hup (by simp at hg; omega))) | exact RdC.old (Cells.el hru.2.1 rfl hu4) | exact RdC.old (Cells.el hru.2.1 rfl (hu5 (by simp at hg; omega))))) one3 rfl ?_
              refine D_fieldAddr (GC.some rfl rfl) (OpV.t rfl) fld82_1 ?_
              refine D_load (GC.some rfl rfl) (OpV.s rfl) (fun hg => (by first | exact RdC.blk (by repeat (first | exact List.Mem.head _ | apply List.Mem.tail)) | exact RdC.old (Cells.el h1.2 rfl hu) | exact RdC.old (Cells.el h1.2 rfl (hup (by simp at hg; omega))) | exact RdC.old (Cells.el hru.2.1 rfl hu4) | exact RdC.old (Cells.el hru.2.1 rfl (hu5 (by simp at hg; omega))))) one56 rfl ?_
              refine D_move (GC.some rfl rfl) (OpV.t rfl) ?_
              refine D_indexAddr j (GC.some rfl rfl) (OpV.s rfl) (OpV.s rfl) el56 (fun hg => ⟨rfl, hk4⟩) ?_
              refine D_load0 (GC.some rfl rfl) (OpV.s rfl) (fun hg => (by first | exact RdC.blk (by repeat (first | exact List.Mem.head _ | apply List.Mem.tail)) | exact RdC.old (Cells.el h1.2 rfl hu) | exact RdC.old (Cells.el h1.2 rfl (hup (by simp at hg; omega))) | exact RdC.old (Cells.el hru.2.1 rfl hu4) | exact RdC.old (Cells.el hru.2.1 rfl (hu5 (by simp at hg; omega))))) one3 rfl ?_
              refine D_bin (GC.some rfl rfl) (OpV.s rfl) (OpV.s rfl) (fun hg => bv_geq) ?_
              refine D_and (cy := _) (GC.some rfl rfl) (OpV.s rfl) (OpV.s rfl) (fun h hb => ⟨h, hb⟩) ?_
              refine D_or (cy := _) GC.none (OpV.t rfl) (OpV.s rfl) (fun h hb => ⟨h, hb⟩) ?_
              refine DV_nil ?_
              refine Give_is rfl rfl ?_
              refine Give_drop rfl ?_
              refine Give_drop rfl ?_
              refine Give_drop rfl ?_
              refine Give_drop rfl ?_
              refine Give_drop rfl ?_
              refine Give_drop rfl ?_
              refine Give_drop rfl ?_
              refine Give_drop rfl ?_
              refine Give_drop rfl ?_
              refine Give_drop rfl ?_
              refine Give_drop rfl ?_
              refine Give_drop rfl ?_
              refine Give_drop rfl ?_
              refine Give_drop rfl ?_
              refine Give_drop rfl ?_
              refine Give_drop rfl ?_
              refine Give_drop rfl ?_
              refine Give_drop rfl ?_
              refine Give_drop rfl ?_
              refine Give_drop rfl ?_
              refine Give_drop rfl ?_
              refine Give_drop rfl ?_
              refine Give_drop rfl ?_
              refine Give_drop rfl ?_
              refine Give_nil ?_
              refine W_weaken (l' := [(1, _), (3, _), (4, _), (5, _), (93, _)]) (Sub.cons rfl (Sub.cons rfl (Sub.cons rfl (Sub.cons rfl (Sub.cons rfl (Sub.nil _)))))) (MSub.refl _) ?_
              refine W_cond rfl (fun hc12 => ?_) (fun hc12 => ?_)
              · skip
                refine W_seq ?_
                refine W_region ?_
                refine L_assign rfl rfl ?_
                refine L_nil ?_
                refine W_ret ?_
                -- return 3 (R13)
                refine res1 rfl (ResOK.tmp rfl) ⟨?_, rfl⟩ (MSub.nil _)
                refine congrArg Value.bool (Eq.symm (pB_false fun e => ?_))
                have e1 := e.2.2 k _ hud
                unfold uOk at e1
                have e9 := e1.2.2.2.2 _ _ hu4d
                unfold nOk at e9
                obtain ⟨e2, e3⟩ := e9
                have e8 := fun h : 0 < j => e3 _ h (hu5d h)
                simp at hc12
                rcases Nat.eq_zero_or_pos j with h0 | h0
                · omega
                · have e10 := e8 h0
                  omega
              · skip
                refine W_skip ?_
                refine W_region ?_
                refine L_move rfl rfl ?_
                refine L_binV rfl rfl rfl (bv_addR (by unfold inR; omega)) ?_
                refine L_assign rfl rfl ?_
                refine L_nil ?_
                refine ⟨j + 1, (Sub.cons rfl (Sub.cons rfl (Sub.cons rfl (Sub.cons rfl (Sub.nil _))))), (MSub.cons (by repeat (first | exact Pick.here _ | apply Pick.there)) (MSub.cons (by repeat (first | exact Pick.here _ | apply Pick.there)) (MSub.nil _))), ?_, ?_⟩
                · skip
                  refine ⟨by omega, all_lt_succ hs hu4d ?_⟩
                  simp [-not_and] at hc12
                  refine ⟨hc12.1, fun r h hr => ?_⟩
                  rw [hu5d h] at hr; cases hr; exact hc12.2 (by omega)
                · skip
                  (try dsimp only); omega
            · skip
              refine W_exit ?_
              refine W_region ?_
              refine L_move rfl rfl ?_
              refine L_binV rfl rfl rfl (bv_addR (by unfold inR; omega)) ?_
              refine L_assign rfl rfl ?_
              refine L_nil ?_
              refine ⟨k + 1, (Sub.cons rfl (Sub.cons rfl (Sub.nil _))), (MSub.cons (by repeat (first | exact Pick.here _ | apply Pick.there)) (MSub.nil _)), ?_, ?_⟩
              · skip
                refine ⟨by omega, all_lt_succ ht hud ?_⟩
                have hk5 : x4.length ≤ j := by simpa using hc10
                obtain ⟨⟨⟨e2, e3⟩, e4⟩, e5⟩ := hc7
                refine ⟨by dsimp only; omega, fun r h hr => ?_, by intro e0; rw [List.length_map] at e0; exact e4 (List.eq_nil_of_length_eq_zero e0), e5, fun i n hin => hs i n (by have := (List.getElem?_eq_some_iff.1 hin).1; simp only [List.length_map] at this; omega) hin⟩
                rw [hupd h] at hr; cases hr; exact e3 (by omega)
              · skip
                (try dsimp only); omega
      · skip
        refine W_exit ?_
        refine W_seq ?_
        refine W_region ?_
        refine L_assign rfl rfl ?_
        refine L_nil ?_
        refine W_ret ?_
        -- return 4 (R14)
        refine res1 rfl (ResOK.tmp rfl) ⟨?_, rfl⟩ (MSub.nil _)
        refine congrArg Value.bool (Eq.symm (pB_true ?_))
        have hk2 : x1.length ≤ k := by simpa using hc4
        exact ⟨hr1, by simp only [List.length_map]; omega, fun i s h => ht i s (by have := (List.getElem?_eq_some_iff.1 h).1; simp only [List.length_map] at this; omega) h⟩

theorem iUpsOk_spec (w : World) (t1 : T_Ups) (h1 : GT.rd w [] t1) : Spec Try.prog 52 [.agg (GT.cells t1).toArray].toArray w [] (IsV (.bool (pB (okU (GT.dat t1))))) := by
  obtain ⟨a1, ⟨a3, c3, e3, x1, y1⟩⟩ := t1
  have hm1 : x1.length ≤ 9223372036854775807 := rd_len h1.2
  change Spec _ _ [Value.agg #[.int .i64 a1, TL.hdr ⟨a3, c3, e3, x1, y1⟩]].toArray w [] _
  simp only [dat_pair, dat_int, dat_TL]
  refine Spec.intro Try.func52 rfl Try.ntmps52 rfl ?_
  refine W_seq ?_
  refine W_region ?_
  refine L_box rfl rfl (fun bk1 => ?_)
  refine L_assign rfl rfl ?_
  refine L_nil ?_
  refine W_seq ?_
  refine W_seq ?_
  refine W_region ?_
  refine L_fieldAddr rfl rfl fld52_1 ?_
  refine L_load rfl rfl (by first | exact RdC.blk (by repeat (first | exact List.Mem.head _ | apply List.Mem.tail)) | exact RdC.old (Cells.el h1.2 rfl hu) | exact RdC.old (Cells.el h1.2 rfl (hup (by simp at hg; omega))) | exact RdC.old (Cells.el hru.2.1 rfl hu4) | exact RdC.old (Cells.el hru.2.1 rfl (hu5 (by simp at hg; omega)))) one50 rfl ?_
  refine L_lenS rfl rfl el50 ?_
  refine L_move rfl rfl ?_
  refine L_nil ?_
  refine W_block ?_
  refine W_loopC (σ := Nat) 0 (fun (k : Nat) => [(10, .int .i64 (k : Int))]) (fun (k : Nat) => []) (fun (k : Nat) => k ≤ x1.length ∧ ∀ i s, i < k → (x1.map GT.dat)[i]? = some s → uOk a1 (x1.map GT.dat) i s) (fun (k : Nat) => x1.length - k) [(1, _), (8, _), (9, _)] [_] ?_ (Sub.cons rfl (Sub.cons rfl (Sub.cons rfl (Sub.cons rfl (Sub.nil _))))) (MSub.cons (by repeat (first | exact Pick.here _ | apply Pick.there)) (MSub.nil _)) ?_
  · skip
    exact ⟨Nat.zero_le _, fun i s h => absurd h (by omega)⟩
  · skip
    rintro k ⟨hk, ht⟩
    refine W_weaken (l' := [(1, _), (8, _), (9, _), (10, _)]) (Sub.cons rfl (Sub.cons rfl (Sub.cons rfl (Sub.cons rfl (Sub.nil _))))) (M' := [_]) (MSub.cons (by repeat (first | exact Pick.here _ | apply Pick.there)) (MSub.nil _)) ?_
    refine W_seq ?_
    refine W_region ?_
    refine L_binV rfl rfl rfl bv_lss ?_
    refine L_nil ?_
    refine W_seq ?_
    refine W_weaken (l' := [(1, _), (8, _), (9, _), (10, _), (11, _)]) (Sub.cons rfl (Sub.cons rfl (Sub.cons rfl (Sub.cons rfl (Sub.cons rfl (Sub.nil _)))))) (MSub.refl _) ?_
    refine W_cond rfl (fun hc2 => ?_) (fun hc2 => ?_)
    · skip
      have hk1 : k < x1.length := by simpa using hc2
      obtain ⟨g1, o1, rfl⟩ := rd_addr h1.2 hk1
      obtain ⟨u, hu⟩ := getEl hk1
      obtain ⟨up, hup⟩ : ∃ up, 0 < k → x1[k - 1]? = some up := by
        rcases Nat.eq_zero_or_pos k with h0 | h0
        · exact ⟨u, fun h => absurd h (by omega)⟩
        · obtain ⟨up, hup⟩ := getEl (show k - 1 < x1.length by omega)
          exact ⟨up, fun _ => hup⟩
      have hud : (x1.map GT.dat)[k]? = some (GT.dat u) := by rw [List.getElem?_map, hu]; rfl
      have hupd : 0 < k → (x1.map GT.dat)[k - 1]? = some (GT.dat up) := fun h => by rw [List.getElem?_map, hup h]; rfl
      have hru : GT.rd w [] u := h1.2.2.2.1 _ (List.mem_of_getElem? hu)
      obtain ⟨b1, ⟨b4, c4, e4, x4, y4⟩, b3⟩ := u
      obtain ⟨p1, ⟨p4, q4, r4, z4, v4⟩, p3⟩ := up
      have hm4 : x4.length ≤ 9223372036854775807 := rd_len hru.2.1
      simp only [dat_pair, dat_int, dat_str, dat_TL] at hud hupd
      refine W_skip ?_
      refine W_seq ?_
      refine W_block ?_
      refine W_seq ?_
      refine W_region ?_
      refine L_move rfl rfl ?_
      refine L_indexAddr rfl rfl rfl el50 rfl (by omega) ?_
      refine L_loadW rfl rfl (by first | exact RdC.blk (by repeat (first | exact List.Mem.head _ | apply List.Mem.tail)) | exact RdC.old (Cells.el h1.2 rfl hu) | exact RdC.old (Cells.el h1.2 rfl (hup (by simp at hg; omega))) | exact RdC.old (Cells.el hru.2.1 rfl hu4) | exact RdC.old (Cells.el hru.2.1 rfl (hu5 (by simp at hg; omega)))) (by exact agg82) ?_
      refine L_alloc rfl zero82 (fun bk4 => ?_)
      refine L_assign rfl rfl ?_
      refine L_storeW rfl rfl (by repeat (first | exact Pick.here _ | apply Pick.there)) (by exact agg82) (by rfl) (by first | (simp [Value.oneCell', TL.hdr]; done) | exact fun v hv => GT.one _ v hv) ?_
      refine L_nil ?_
      refine W_seq ?_
      refine W_seq ?_
      refine W_D0 [48] mix (by kernel_rfl) rfl ?_
      refine D_fieldAddr GC.none (OpV.t rfl) fld82_0 ?_
      refine D_load GC.none (OpV.t rfl) (fun hg => (by first | exact RdC.blk (by repeat (first | exact List.Mem.head _ | apply List.Mem.tail)) | exact RdC.old (Cells.el h1.2 rfl hu) | exact RdC.old (Cells.el h1.2 rfl (hup (by simp at hg; omega))) | exact RdC.old (Cells.el hru.2.1 rfl hu4) | exact RdC.old (Cells.el hru.2.1 rfl (hu5 (by simp at hg; omega))))) one9 rfl ?_
      refine D_lenT GC.none (OpV.t rfl) str9 ?_
      refine D_bin GC.none (OpV.t rfl) OpV.c (fun hg => bv_neq) ?_
      refine D_move GC.none (OpV.t rfl) ?_
      refine D_move (GC.some rfl rfl) (OpV.t rfl) ?_
      refine D_bin (GC.some rfl rfl) (OpV.s rfl) OpV.c (fun hg => bv_gtr) ?_
      refine D_move (GC.some rfl rfl) (OpV.s rfl) ?_
      refine D_fieldAddr (GC.some rfl rfl) (OpV.t rfl) fld52_1 ?_
      refine D_load (GC.some rfl rfl) (OpV.s rfl) (fun hg => (by first | exact RdC.blk (by repeat (first | exact List.Mem.head _ | apply List.Mem.tail)) | exact RdC.old (Cells.el h1.2 rfl hu) | exact RdC.old (Cells.el h1.2 rfl (hup (by simp at hg; omega))) | exact RdC.old (Cells.el hru.2.1 rfl hu4) | exact RdC.old (Cells.el hru.2.1 rfl (hu5 (by simp at hg; omega))))) one50 rfl ?_
      refine D_move (GC.some rfl rfl) (OpV.t rfl) ?_
      refine D_bin (GC.some rfl rfl) (OpV.s rfl) OpV.c (fun hg => (bv_subR (by simp at hg; unfold inR; omega))) ?_
      refine D_indexAddr (k - 1) (GC.some rfl rfl) (OpV.s rfl) (OpV.s rfl) el50 (fun hg => ⟨by simp at hg; omega, by show k - 1 < x1.length; simp at hg; omega⟩) ?_
      refine D_fieldAddr (GC.some rfl rfl) (OpV.s rfl) fld82_0 ?_
      refine D_load (GC.some rfl rfl) (OpV.s rfl) (fun hg => (by first | exact RdC.blk (by repeat (first | exact List.Mem.head _ | apply List.Mem.tail)) | exact RdC.old (Cells.el h1.2 rfl hu) | exact RdC.old (Cells.el h1.2 rfl (hup (by simp at hg; omega))) | exact RdC.old (Cells.el hru.2.1 rfl hu4) | exact RdC.old (Cells.el hru.2.1 rfl (hu5 (by simp at hg; omega))))) one9 rfl ?_
      refine D_fieldAddr (GC.some rfl rfl) (OpV.t rfl) fld82_0 ?_
      refine D_load (GC.some rfl rfl) (OpV.s rfl) (fun hg => (by first | exact RdC.blk (by repeat (first | exact List.Mem.head _ | apply List.Mem.tail)) | exact RdC.old (Cells.el h1.2 rfl hu) | exact RdC.old (Cells.el h1.2 rfl (hup (by simp at hg; omega))) | exact RdC.old (Cells.el hru.2.1 rfl hu4) | exact RdC.old (Cells.el hru.2.1 rfl (hu5 (by simp at hg; omega))))) one9 rfl ?_
      refine D_bin (GC.some rfl rfl) (OpV.s rfl) (OpV.s rfl) (fun hg => bv_sgeq) ?_
      refine D_and (cy := _) (GC.some rfl rfl) (OpV.s rfl) (OpV.s rfl) (fun h hb => ⟨h, hb⟩) ?_
      refine D_or (cy := _) GC.none (OpV.t rfl) (OpV.s rfl) (fun h hb => ⟨h, hb⟩) ?_
      refine D_move GC.none (OpV.t rfl) ?_
      refine D_fieldAddr (GC.some rfl rfl) (OpV.t rfl) fld82_1 ?_
      refine D_load (GC.some rfl rfl) (OpV.s rfl) (fun hg => (by first | exact RdC.blk (by repeat (first | exact List.Mem.head _ | apply List.Mem.tail)) | exact RdC.old (Cells.el h1.2 rfl hu) | exact RdC.old (Cells.el h1.2 rfl (hup (by simp at hg; omega))) | exact RdC.old (Cells.el hru.2.1 rfl hu4) | exact RdC.old (Cells.el hru.2.1 rfl (hu5 (by simp at hg; omega))))) one56 rfl ?_
      refine D_lenS (GC.some rfl rfl) (OpV.s rfl) el56 ?_
      refine D_bin (GC.some rfl rfl) (OpV.s rfl) OpV.c (fun hg => bv_eql) ?_
      refine D_or (cy := _) GC.none (OpV.t rfl) (OpV.s rfl) (fun h hb => ⟨h, hb⟩) ?_
      refine D_move GC.none (OpV.t rfl) ?_
      refine D_fieldAddr (GC.some rfl rfl) (OpV.t rfl) fld82_2 ?_
      refine D_load (GC.some rfl rfl) (OpV.s rfl) (fun hg => (by first | exact RdC.blk (by repeat (first | exact List.Mem.head _ | apply List.Mem.tail)) | exact RdC.old (Cells.el h1.2 rfl hu) | exact RdC.old (Cells.el h1.2 rfl (hup (by simp at hg; omega))) | exact RdC.old (Cells.el hru.2.1 rfl hu4) | exact RdC.old (Cells.el hru.2.1 rfl (hu5 (by simp at hg; omega))))) one3 rfl ?_
      refine D_fieldAddr (GC.some rfl rfl) (OpV.t rfl) fld52_0 ?_
      refine D_load (GC.some rfl rfl) (OpV.s rfl) (fun hg => (by first | exact RdC.blk (by repeat (first | exact List.Mem.head _ | apply List.Mem.tail)) | exact RdC.old (Cells.el h1.2 rfl hu) | exact RdC.old (Cells.el h1.2 rfl (hup (by simp at hg; omega))) | exact RdC.old (Cells.el hru.2.1 rfl hu4) | exact RdC.old (Cells.el hru.2.1 rfl (hu5 (by simp at hg; omega))))) one3 rfl ?_
      refine D_callX (GC.some rfl rfl) fn45 (OpVs.cons (OpV.s rfl) (OpVs.cons OpV.c (OpVs.cons (OpV.s rfl) (OpVs.nil)))) (by exact fun hg w F hF hM => (fun w hw => within_spec w _ _ _) w hF) ?_
      refine D_not (GC.some rfl rfl) (OpV.s rfl) ?_
      refine D_or (cy := _) GC.none (OpV.t rfl) (OpV.s rfl) (fun h hb => ⟨h, hb⟩) ?_
      refine DV_nil ?_
      refine Give_is rfl rfl ?_
      refine Give_drop rfl ?_
      refine Give_drop rfl ?_
      refine Give_drop rfl ?_
      refine Give_drop rfl ?_
      refine Give_drop rfl ?_
      refine Give_drop rfl ?_
      refine Give_drop rfl ?_
      refine Give_drop rfl ?_
      refine Give_drop rfl ?_
      refine Give_drop rfl ?_
      refine Give_drop rfl ?_
      refine Give_drop rfl ?_
      refine Give_drop rfl ?_
      refine Give_drop rfl ?_
      refine Give_drop rfl ?_
      refine Give_drop rfl ?_
      refine Give_drop rfl ?_
      refine Give_drop rfl ?_
      refine Give_drop rfl ?_
      refine Give_drop rfl ?_
      refine Give_drop rfl ?_
      refine Give_drop rfl ?_
      refine Give_drop rfl ?_
      refine Give_drop rfl ?_
      refine Give_drop rfl ?_
      refine Give_drop rfl ?_
      refine Give_drop rfl ?_
      refine Give_drop rfl ?_
      refine Give_drop rfl ?_
      refine Give_drop rfl ?_
      refine Give_drop rfl ?_
      refine Give_drop rfl ?_
      refine Give_drop rfl ?_
      refine Give_nil ?_
      refine W_weaken (l' := [(1, _), (4, _), (8, _), (9, _), (10, _), (48, _)]) (Sub.cons rfl (Sub.cons rfl (Sub.cons rfl (Sub.cons rfl (Sub.cons rfl (Sub.cons rfl (Sub.nil _))))))) (MSub.refl _) ?_
      refine W_cond rfl (fun hc4 => ?_) (fun hc4 => ?_)
      · skip
        refine W_seq ?_
        refine W_region ?_
        refine L_assign rfl rfl ?_
        refine L_nil ?_
        refine W_ret ?_
        -- return 1 (R5)
        refine res1 rfl (ResOK.tmp rfl) ⟨?_, rfl⟩ (MSub.nil _)
        refine congrArg Value.bool (Eq.symm (pB_false fun e => ?_))
        have e1 := e.2.2 k _ hud
        unfold uOk at e1
        obtain ⟨e2, e3, e4, e5, e6⟩ := e1
        have e8 := fun h : 0 < k => e3 _ h (hupd h)
        simp only [List.length_map] at *
        have hc8 := hc4
        simp [e2, e4] at hc8
        rcases hc8 with ⟨h0, h9⟩ | h9
        · rw [e8 h0] at h9; cases h9
        · omega
      · skip
        simp [-not_and] at hc4
        refine W_skip ?_
        refine W_seq ?_
        refine W_region ?_
        refine L_fieldAddr rfl rfl fld82_1 ?_
        refine L_load rfl rfl (by first | exact RdC.blk (by repeat (first | exact List.Mem.head _ | apply List.Mem.tail)) | exact RdC.old (Cells.el h1.2 rfl hu) | exact RdC.old (Cells.el h1.2 rfl (hup (by simp at hg; omega))) | exact RdC.old (Cells.el hru.2.1 rfl hu4) | exact RdC.old (Cells.el hru.2.1 rfl (hu5 (by simp at hg; omega)))) one56 rfl ?_
        refine L_lenS rfl rfl el56 ?_
        refine L_move rfl rfl ?_
        refine L_nil ?_
        refine W_block ?_
        refine W_loopC (σ := Nat) 0 (fun (j : Nat) => [(52, .int .i64 (j : Int))]) (fun (j : Nat) => []) (fun (j : Nat) => j ≤ x4.length ∧ ∀ i n, i < j → (x4.map GT.dat)[i]? = some n → nOk (x4.map GT.dat) i n) (fun (j : Nat) => x4.length - j) [(1, _), (4, _), (8, _), (9, _), (10, _), (50, _), (51, _)] [_, _] ?_ (Sub.cons rfl (Sub.cons rfl (Sub.cons rfl (Sub.cons rfl (Sub.cons rfl (Sub.cons rfl (Sub.cons rfl (Sub.cons rfl (Sub.nil _))))))))) (MSub.cons (by repeat (first | exact Pick.here _ | apply Pick.there)) (MSub.cons (by repeat (first | exact Pick.here _ | apply Pick.there)) (MSub.nil _))) ?_
        · skip
          exact ⟨Nat.zero_le _, fun i n h => absurd h (by omega)⟩
        · skip
          rintro j ⟨hj, hs⟩
          refine W_weaken (l' := [(1, _), (4, _), (8, _), (9, _), (10, _), (50, _), (51, _), (52, _)]) (Sub.cons rfl (Sub.cons rfl (Sub.cons rfl (Sub.cons rfl (Sub.cons rfl (Sub.cons rfl (Sub.cons rfl (Sub.cons rfl (Sub.nil _))))))))) (M' := [_, _]) (MSub.cons (by repeat (first | exact Pick.here _ | apply Pick.there)) (MSub.cons (by repeat (first | exact Pick.here _ | apply Pick.there)) (MSub.nil _))) ?_
          refine W_seq ?_
          refine W_region ?_
          refine L_binV rfl rfl rfl bv_lss ?_
          refine L_nil ?_
          refine W_seq ?_
          refine W_weaken (l' := [(1, _), (4, _), (8, _), (9, _), (10, _), (50, _), (51, _), (52, _), (53, _)]) (Sub.cons rfl (Sub.cons rfl (Sub.cons rfl (Sub.cons rfl (Sub.cons rfl (Sub.cons rfl (Sub.cons rfl (Sub.cons rfl (Sub.cons rfl (Sub.nil _)))))))))) (MSub.refl _) ?_
          refine W_cond rfl (fun hc7 => ?_) (fun hc7 => ?_)
          · skip
            have hk4 : j < x4.length := by simpa using hc7
            obtain ⟨g4, o4, rfl⟩ := rd_addr hru.2.1 hk4
            obtain ⟨u4, hu4⟩ := getEl hk4
            obtain ⟨u5, hu5⟩ : ∃ u5, 0 < j → x4[j - 1]? = some u5 := by
              rcases Nat.eq_zero_or_pos j with h0 | h0
              · exact ⟨u4, fun h => absurd h (by omega)⟩
              · obtain ⟨up, hup⟩ := getEl (show j - 1 < x4.length by omega)
                exact ⟨up, fun _ => hup⟩
            have hu4d : (x4.map GT.dat)[j]? = some u4 := by rw [List.getElem?_map, hu4]; rfl
            have hu5d : 0 < j → (x4.map GT.dat)[j - 1]? = some u5 := fun h => by rw [List.getElem?_map, hu5 h]; rfl
            refine W_skip ?_
            refine W_seq ?_
            refine W_block ?_
            refine W_seq ?_
            refine W_region ?_
            refine L_move rfl rfl ?_
            refine L_indexAddr rfl rfl rfl el56 rfl (by omega) ?_
            refine L_load0 rfl rfl (by first | exact RdC.blk (by repeat (first | exact List.Mem.head _ | apply List.Mem.tail)) | exact RdC.old (Cells.el h1.2 rfl hu) | exact RdC.old (Cells.el h1.2 rfl (hup (by simp at hg; omega))) | exact RdC.old (Cells.el hru.2.1 rfl hu4) | exact RdC.old (Cells.el hru.2.1 rfl (hu5 (by simp at hg; omega)))) one3 rfl ?_
            refine L_assign rfl rfl ?_
            refine L_assign rfl rfl ?_
            refine L_nil ?_
            refine W_seq ?_
            refine W_D0 [73] mix (by kernel_rfl) rfl ?_
            refine D_move GC.none (OpV.t rfl) ?_
            refine D_callX GC.none fn66 (OpVs.cons (OpV.t rfl) (OpVs.nil)) (by exact fun hg w F hF hM => (fun w hw => isRep_spec w _) w hF) ?_
            refine D_not GC.none (OpV.t rfl) ?_
            refine D_move GC.none (OpV.t rfl) ?_
            refine D_move (GC.some rfl rfl) (OpV.t rfl) ?_
            refine D_bin (GC.some rfl rfl) (OpV.s rfl) OpV.c (fun hg => bv_gtr) ?_
            refine D_move (GC.some rfl rfl) (OpV.s rfl) ?_
            refine D_fieldAddr (GC.some rfl rfl) (OpV.t rfl) fld82_1 ?_
            refine D_load (GC.some rfl rfl) (OpV.s rfl) (fun hg => (by first | exact RdC.blk (by repeat (first | exact List.Mem.head _ | apply List.Mem.tail)) | exact RdC.old (Cells.el h1.2 rfl hu) | exact RdC.old (Cells.el h1.2 rfl (hup (by simp at hg; omega))) | exact RdC.old (Cells.el hru.2.1 rfl hu4) | exact RdC.old (Cells.el hru.2.1 rfl (hu5 (by simp at hg; omega))))) one56 rfl ?_
            refine D_move (GC.some rfl rfl) (OpV.t rfl) ?_
            refine D_bin (GC.some rfl rfl) (OpV.s rfl) OpV.c (fun hg => (bv_subR (by simp at hg; unfold inR; omega))) ?_
            refine D_indexAddr (j - 1) (GC.some rfl rfl) (OpV.s rfl) (OpV.s rfl) el56 (fun hg => ⟨by simp at hg; omega, by show j - 1 < x4.length; simp at hg; omega⟩) ?_
            refine D_load0 (GC.some rfl rfl) (OpV.s rfl) (fun hg => (by first | exact RdC.blk (by repeat (first | exact List.Mem.head _ | apply List.Mem.tail)) | exact RdC.old (Cells.el h1.2 rfl hu) | exact RdC.old (Cells.el h1.2 rfl (hup (by simp at hg; omega))) | exact RdC.old (Cells.el hru.2.1 rfl hu4) | exact RdC.old (Cells.el hru.2.1 rfl (hu5 (by simp at hg; omega))))) one3 rfl ?_
            refine D_move (GC.some rfl rfl) (OpV.t rfl) ?_
            refine D_bin (GC.some rfl rfl) (OpV.s rfl) (OpV.s rfl) (fun hg => bv_geq) ?_
            refine D_and (cy := _) (GC.some rfl rfl) (OpV.s rfl) (OpV.s rfl) (fun h hb => ⟨h, hb⟩) ?_
            refine D_or (cy := _) GC.none (OpV.t rfl) (OpV.s rfl) (fun h hb => ⟨h, hb⟩) ?_
            refine DV_nil ?_
            refine Give_is rfl rfl ?_
            refine Give_drop rfl ?_
            refine Give_drop rfl ?_
            refine Give_drop rfl ?_
            refine Give_drop rfl ?_
            refine Give_drop rfl ?_
            refine Give_drop rfl ?_
            refine Give_drop rfl ?_
            refine Give_drop rfl ?_
            refine Give_drop rfl ?_
            refine Give_drop rfl ?_
            refine Give_drop rfl ?_
            refine Give_drop rfl ?_
            refine Give_drop rfl ?_
            refine Give_drop rfl ?_
            refine Give_drop rfl ?_
            refine Give_drop rfl ?_
            refine Give_nil ?_
            refine W_weaken (l' := [(1, _), (4, _), (8, _), (9, _), (10, _), (50, _), (51, _), (52, _), (73, _)]) (Sub.cons rfl (Sub.cons rfl (Sub.cons rfl (Sub.cons rfl (Sub.cons rfl (Sub.cons rfl (Sub.cons rfl (Sub.cons rfl (Sub.cons rfl (Sub.nil _)))))))))) (MSub.refl _) ?_
            refine W_cond rfl (fun hc9 => ?_) (fun hc9 => ?_)
            · skip
              refine W_seq ?_
              refine W_region ?_
              refine L_assign rfl rfl ?_
              refine L_nil ?_
              refine W_ret ?_
              -- return 2 (R10)
              refine res1 rfl (ResOK.tmp rfl) ⟨?_, rfl⟩ (MSub.nil _)
              refine congrArg Value.bool (Eq.symm (pB_false fun e => ?_))
              have e1 := e.2.2 k _ hud
              unfold uOk at e1
              have e9 := e1.2.2.2.2 _ _ hu4d
              unfold nOk at e9
              obtain ⟨e2, e3⟩ := e9
              have e8 := fun h : 0 < j => e3 _ h (hu5d h)
              simp at hc9
              rcases Nat.eq_zero_or_pos j with h0 | h0
              · omega
              · have e10 := e8 h0
                omega
            · skip
              refine W_skip ?_
              refine W_region ?_
              refine L_binV rfl rfl rfl (bv_addR (by unfold inR; omega)) ?_
              refine L_move rfl rfl ?_
              refine L_nil ?_
              refine ⟨j + 1, (Sub.cons rfl (Sub.cons rfl (Sub.cons rfl (Sub.cons rfl (Sub.cons rfl (Sub.cons rfl (Sub.cons rfl (Sub.cons rfl (Sub.nil _))))))))), (MSub.cons (by repeat (first | exact Pick.here _ | apply Pick.there)) (MSub.cons (by repeat (first | exact Pick.here _ | apply Pick.there)) (MSub.nil _))), ?_, ?_⟩
              · skip
                refine ⟨by omega, all_lt_succ hs hu4d ?_⟩
                simp [-not_and] at hc9
                refine ⟨hc9.1, fun r h hr => ?_⟩
                rw [hu5d h] at hr; cases hr; exact hc9.2 (by omega)
              · skip
                (try dsimp only); omega
          · skip
            refine W_exit ?_
            refine W_region ?_
            refine L_binV rfl rfl rfl (bv_addR (by unfold inR; omega)) ?_
            refine L_move rfl rfl ?_
            refine L_nil ?_
            refine ⟨k + 1, (Sub.cons rfl (Sub.cons rfl (Sub.cons rfl (Sub.cons rfl (Sub.nil _))))), (MSub.cons (by repeat (first | exact Pick.here _ | apply Pick.there)) (MSub.nil _)), ?_, ?_⟩
            · skip
              refine ⟨by omega, all_lt_succ ht hud ?_⟩
              have hk5 : x4.length ≤ j := by simpa using hc7
              obtain ⟨⟨⟨e2, e3⟩, e4⟩, e5⟩ := hc4
              refine ⟨by dsimp only; omega, fun r h hr => ?_, by intro e0; rw [List.length_map] at e0; exact e4 (List.eq_nil_of_length_eq_zero e0), e5, fun i n hin => hs i n (by have := (List.getElem?_eq_some_iff.1 hin).1; simp only [List.length_map] at this; omega) hin⟩
              rw [hupd h] at hr; cases hr; exact e3 (by omega)
            · skip
              (try dsimp only); omega
    · skip
      refine W_exit ?_
      refine W_seq ?_
      refine W_D0 [2] mix (by kernel_rfl) rfl ?_
      refine D_fieldAddr GC.none (OpV.t rfl) fld52_0 ?_
      refine D_load GC.none (OpV.t rfl) (fun hg => (by first | exact RdC.blk (by repeat (first | exact List.Mem.head _ | apply List.Mem.tail)) | exact RdC.old (Cells.el h1.2 rfl hu) | exact RdC.old (Cells.el h1.2 rfl (hup (by simp at hg; omega))) | exact RdC.old (Cells.el hru.2.1 rfl hu4) | exact RdC.old (Cells.el hru.2.1 rfl (hu5 (by simp at hg; omega))))) one3 rfl ?_
      refine D_callX GC.none fn45 (OpVs.cons (OpV.t rfl) (OpVs.cons OpV.c (OpVs.cons OpV.c (OpVs.nil)))) (by exact fun hg w F hF hM => (fun w hw => within_spec w _ _ _) w hF) ?_
      refine D_move GC.none (OpV.t rfl) ?_
      refine D_fieldAddr (GC.some rfl rfl) (OpV.t rfl) fld52_1 ?_
      refine D_load (GC.some rfl rfl) (OpV.s rfl) (fun hg => (by first | exact RdC.blk (by repeat (first | exact List.Mem.head _ | apply List.Mem.tail)) | exact RdC.old (Cells.el h1.2 rfl hu) | exact RdC.old (Cells.el h1.2 rfl (hup (by simp at hg; omega))) | exact RdC.old (Cells.el hru.2.1 rfl hu4) | exact RdC.old (Cells.el hru.2.1 rfl (hu5 (by simp at hg; omega))))) one50 rfl ?_
      refine D_lenS (GC.some rfl rfl) (OpV.s rfl) el50 ?_
      refine D_bin (GC.some rfl rfl) (OpV.s rfl) OpV.c (fun hg => bv_leq) ?_
      refine D_and (cy := _) GC.none (OpV.t rfl) (OpV.s rfl) (fun h hb => ⟨h, hb⟩) ?_
      refine D_assign GC.none (OpV.t rfl) ?_
      refine DV_nil ?_
      refine Give_is rfl rfl ?_
      refine Give_drop rfl ?_
      refine Give_drop rfl ?_
      refine Give_drop rfl ?_
      refine Give_drop rfl ?_
      refine Give_drop rfl ?_
      refine Give_drop rfl ?_
      refine Give_drop rfl ?_
      refine Give_drop rfl ?_
      refine Give_drop rfl ?_
      refine Give_nil ?_
      refine W_ret ?_
      -- return 3 (R13)
      refine res1 rfl (ResOK.tmp rfl) ⟨?_, rfl⟩ (MSub.nil _)
      refine congrArg Value.bool ?_
      have hk2 : x1.length ≤ k := by simpa using hc2
      by_cases hz : (0 ≤ a1 ∧ a1 ≤ 1000) ∧ x1.length ≤ 20
      · rw [pB_true]
        · simp; omega
        · exact ⟨hz.1, by simp only [List.length_map]; omega, fun i s h => ht i s (by have := (List.getElem?_eq_some_iff.1 h).1; simp only [List.length_map] at this; omega) h⟩
      · rw [pB_false (fun e => hz ⟨e.1, by have := e.2.1; simp only [List.length_map] at this; omega⟩)]
        simp; omega

theorem l18At_spec (w : World) (t1 : T_Ups) (s : ByteArray) (h1 : GT.rd w [] t1) : Spec Try.prog 49 [.agg (GT.cells t1).toArray, .string s].toArray w [] (IsV (.int .i64 (firstI (fun x : T_Up => decide (x.1 = s)) t1.2.els))) := by
  obtain ⟨a1, ⟨a3, c3, e3, x1, y1⟩⟩ := t1
  have hm1 : x1.length ≤ 9223372036854775807 := rd_len h1.2
  change Spec _ _ [Value.agg #[.int .i64 a1, TL.hdr ⟨a3, c3, e3, x1, y1⟩], .string s].toArray w [] _
  try dsimp only
  refine Spec.intro Try.func49 rfl Try.ntmps49 rfl ?_
  refine W_seq ?_
  refine W_region ?_
  refine L_box rfl rfl (fun bk2 => ?_)
  refine L_assign rfl rfl ?_
  refine L_nil ?_
  refine W_seq ?_
  refine W_seq ?_
  refine W_region ?_
  refine L_assign rfl rfl ?_
  refine L_nil ?_
  refine W_block ?_
  refine W_loopC (σ := Nat) 0 (fun (k : Nat) => [(5, .int .i64 (k : Int))]) (fun (k : Nat) => []) (fun (k : Nat) => k ≤ x1.length ∧ ∀ x, x ∈ x1.take k → decide (x.1 = s) = false) (fun (k : Nat) => x1.length - k) [(1, _), (2, _)] [_] ?_ (Sub.cons rfl (Sub.cons rfl (Sub.cons rfl (Sub.nil _)))) (MSub.cons (by repeat (first | exact Pick.here _ | apply Pick.there)) (MSub.nil _)) ?_
  · skip
    exact ⟨Nat.zero_le _, by simp⟩
  · skip
    rintro k ⟨hk, ht⟩
    refine W_weaken (l' := [(1, _), (2, _), (5, _)]) (Sub.cons rfl (Sub.cons rfl (Sub.cons rfl (Sub.nil _)))) (M' := [_]) (MSub.cons (by repeat (first | exact Pick.here _ | apply Pick.there)) (MSub.nil _)) ?_
    refine W_seq ?_
    refine W_seq ?_
    refine W_region ?_
    refine L_move rfl rfl ?_
    refine L_fieldAddr rfl rfl fld52_1 ?_
    refine L_load rfl rfl (by first | exact RdC.blk (by repeat (first | exact List.Mem.head _ | apply List.Mem.tail)) | exact RdC.old (Cells.el h1.2 rfl hu)) one50 rfl ?_
    refine L_lenS rfl rfl el50 ?_
    refine L_binV rfl rfl rfl bv_lss ?_
    refine L_nil ?_
    refine W_weaken (l' := [(1, _), (2, _), (5, _), (10, _)]) (Sub.cons rfl (Sub.cons rfl (Sub.cons rfl (Sub.cons rfl (Sub.nil _))))) (MSub.refl _) ?_
    refine W_cond rfl (fun hc2 => ?_) (fun hc2 => ?_)
    · skip
      have hk1 : k < x1.length := by simpa using hc2
      obtain ⟨g1, o1, rfl⟩ := rd_addr h1.2 hk1
      obtain ⟨u, hu⟩ := getEl hk1
      refine W_skip ?_
      refine W_seq ?_
      refine W_block ?_
      refine W_seq ?_
      refine W_region ?_
      refine L_fieldAddr rfl rfl fld52_1 ?_
      refine L_load rfl rfl (by first | exact RdC.blk (by repeat (first | exact List.Mem.head _ | apply List.Mem.tail)) | exact RdC.old (Cells.el h1.2 rfl hu)) one50 rfl ?_
      refine L_move rfl rfl ?_
      refine L_indexAddr rfl rfl rfl el50 rfl (by omega) ?_
      refine L_fieldAddr rfl rfl fld82_0 ?_
      refine L_load rfl rfl (by first | exact RdC.blk (by repeat (first | exact List.Mem.head _ | apply List.Mem.tail)) | exact RdC.old (Cells.el h1.2 rfl hu)) one9 rfl ?_
      refine L_move rfl rfl ?_
      refine L_binV rfl rfl rfl bv_seql ?_
      refine L_nil ?_
      refine W_weaken (l' := [(1, _), (2, _), (5, _), (20, _)]) (Sub.cons rfl (Sub.cons rfl (Sub.cons rfl (Sub.cons rfl (Sub.nil _))))) (MSub.refl _) ?_
      refine W_cond rfl (fun hc4 => ?_) (fun hc4 => ?_)
      · skip
        refine W_seq ?_
        refine W_region ?_
        refine L_move rfl rfl ?_
        refine L_assign rfl rfl ?_
        refine L_nil ?_
        refine W_ret ?_
        -- return 1 (R5)
        refine res1 rfl (ResOK.tmp rfl) ⟨?_, rfl⟩ (MSub.nil _)
        exact congrArg (Value.int .i64) (firstI_hit (p := fun x : T_Up => decide (x.1 = s)) ht hu (by simpa using hc4)).symm
      · skip
        refine W_skip ?_
        refine W_region ?_
        refine L_move rfl rfl ?_
        refine L_binV rfl rfl rfl (bv_addR (by unfold inR; omega)) ?_
        refine L_assign rfl rfl ?_
        refine L_nil ?_
        refine ⟨k + 1, (Sub.cons rfl (Sub.cons rfl (Sub.cons rfl (Sub.nil _)))), (MSub.cons (by repeat (first | exact Pick.here _ | apply Pick.there)) (MSub.nil _)), ?_, ?_⟩
        · skip
          exact ⟨by omega, all_mem_succ ht hu (by simpa using hc4)⟩
        · skip
          (try dsimp only); omega
    · skip
      refine W_exit ?_
      refine W_seq ?_
      refine W_region ?_
      refine L_assign rfl rfl ?_
      refine L_nil ?_
      refine W_ret ?_
      -- return 2 (R6)
      refine res1 rfl (ResOK.tmp rfl) ⟨?_, rfl⟩ (MSub.nil _)
      refine congrArg (Value.int .i64) (firstI_miss (p := fun x : T_Up => decide (x.1 = s)) fun x hx => ht x ?_).symm
      have hk2 : x1.length ≤ k := by simpa using hc2
      rw [List.take_of_length_le hk2]; exact hx

theorem upsAt1_spec (w : World) (u : T_Up) (s : ByteArray) (b : Nat) (hc : Cells w [] b 0 [.string s]) : Spec Try.prog 78 ([Value.agg (GT.cells u).toArray] ++ [Value.pointer (some ⟨b, 0, none⟩)]).toArray w [] (IsV (.bool (decide (u.1 = s)))) := by
  simp only [List.cons_append, List.nil_append]
  refine Spec.intro Try.func78 rfl Try.ntmps78 rfl ?_
  refine W_seq ?_
  refine W_region ?_
  refine L_box rfl rfl (fun bk2 => ?_)
  refine L_assign rfl rfl ?_
  refine L_nil ?_
  refine W_seq ?_
  refine W_region ?_
  refine L_fieldAddr rfl rfl fld82_0 ?_
  refine L_load rfl rfl (by first | exact RdC.blk (by repeat (first | exact List.Mem.head _ | apply List.Mem.tail)) | exact RdC.old hc) one9 rfl ?_
  refine L_load0 rfl rfl (by first | exact RdC.blk (by repeat (first | exact List.Mem.head _ | apply List.Mem.tail)) | exact RdC.old hc) one9 rfl ?_
  refine L_binV rfl rfl rfl bv_seql ?_
  refine L_assign rfl rfl ?_
  refine L_nil ?_
  refine W_ret ?_
  -- return 1 (R1)
  refine res1 rfl (ResOK.tmp rfl) ⟨?_, rfl⟩ (MSub.nil _)
  rfl

theorem indexUp_spec (w : World) (t1 : TL T_Up) (h1 : GT.rd w [] t1) (f : Nat) (hf : IsFn Try.prog f) (cs : List Value) (p : T_Up → Bool) (hp : ∀ w' F, Holds w [] F w' → ∀ u, u ∈ t1.els → Spec Try.prog f ([Value.agg (GT.cells u).toArray] ++ cs).toArray w' [] (IsV (.bool (p u)))) : Spec Try.prog 77 [t1.hdr, .func (.func f) #[] cs.toArray].toArray w [] (IsV (.int .i64 (firstI p t1.els))) := by
  obtain ⟨a1, c1, e1, x1, y1⟩ := t1
  have hm1 : x1.length ≤ 9223372036854775807 := rd_len h1
  dsimp only [TL.hdr]
  refine Spec.intro Try.func77 rfl Try.ntmps77 rfl ?_
  refine W_seq ?_
  refine W_region ?_
  refine L_assign rfl rfl ?_
  refine L_nil ?_
  refine W_seq ?_
  refine W_seq ?_
  refine W_region ?_
  refine L_move rfl rfl ?_
  refine L_lenS rfl rfl el50 ?_
  refine L_move rfl rfl ?_
  refine L_nil ?_
  refine W_block ?_
  refine W_loopC (σ := Nat) 0 (fun (k : Nat) => [(8, .int .i64 (k : Int))]) (fun (k : Nat) => []) (fun (k : Nat) => k ≤ x1.length ∧ ∀ x, x ∈ x1.take k → p x = false) (fun (k : Nat) => x1.length - k) [(0, _), (1, _), (7, _)] [] ?_ (Sub.cons rfl (Sub.cons rfl (Sub.cons rfl (Sub.cons rfl (Sub.nil _))))) (MSub.nil _) ?_
  · skip
    exact ⟨Nat.zero_le _, by simp⟩
  · skip
    rintro k ⟨hk, ht⟩
    refine W_weaken (l' := [(0, _), (1, _), (7, _), (8, _)]) (Sub.cons rfl (Sub.cons rfl (Sub.cons rfl (Sub.cons rfl (Sub.nil _))))) (M' := []) (MSub.nil _) ?_
    refine W_seq ?_
    refine W_region ?_
    refine L_binV rfl rfl rfl bv_lss ?_
    refine L_nil ?_
    refine W_seq ?_
    refine W_weaken (l' := [(0, _), (1, _), (7, _), (8, _), (9, _)]) (Sub.cons rfl (Sub.cons rfl (Sub.cons rfl (Sub.cons rfl (Sub.cons rfl (Sub.nil _)))))) (MSub.refl _) ?_
    refine W_cond rfl (fun hc2 => ?_) (fun hc2 => ?_)
    · skip
      have hk1 : k < x1.length := by simpa using hc2
      obtain ⟨g1, o1, rfl⟩ := rd_addr h1 hk1
      obtain ⟨u, hu⟩ := getEl hk1
      refine W_skip ?_
      refine W_seq ?_
      refine W_block ?_
      refine W_seq ?_
      refine W_region ?_
      refine L_move rfl rfl ?_
      refine L_assign rfl rfl ?_
      refine L_nil ?_
      refine W_seq ?_
      refine W_region ?_
      refine L_move rfl rfl ?_
      refine L_move rfl rfl ?_
      refine L_move rfl rfl ?_
      refine L_indexAddr rfl rfl rfl el50 rfl (by omega) ?_
      refine L_loadW rfl rfl (by first | exact RdC.blk (by repeat (first | exact List.Mem.head _ | apply List.Mem.tail)) | exact RdC.old (Cells.el h1 rfl hu)) (by exact agg82) ?_
      refine L_callVX rfl rfl hf rfl (fun w hw => hp w _ hw u (List.mem_of_getElem? hu)) ?_
      refine L_nil ?_
      refine W_weaken (l' := [(0, _), (1, _), (5, _), (7, _), (8, _), (16, _)]) (Sub.cons rfl (Sub.cons rfl (Sub.cons rfl (Sub.cons rfl (Sub.cons rfl (Sub.cons rfl (Sub.nil _))))))) (MSub.refl _) ?_
      refine W_cond rfl (fun hc4 => ?_) (fun hc4 => ?_)
      · skip
        refine W_seq ?_
        refine W_region ?_
        refine L_move rfl rfl ?_
        refine L_assign rfl rfl ?_
        refine L_nil ?_
        refine W_ret ?_
        -- return 1 (R5)
        refine res1 rfl (ResOK.tmp rfl) ⟨?_, rfl⟩ (MSub.nil _)
        exact congrArg (Value.int .i64) (firstI_hit ht hu (by simpa using hc4)).symm
      · skip
        refine W_skip ?_
        refine W_region ?_
        refine L_binV rfl rfl rfl (bv_addR (by unfold inR; omega)) ?_
        refine L_move rfl rfl ?_
        refine L_nil ?_
        refine ⟨k + 1, (Sub.cons rfl (Sub.cons rfl (Sub.cons rfl (Sub.cons rfl (Sub.nil _))))), (MSub.nil _), ?_, ?_⟩
        · skip
          exact ⟨by omega, all_mem_succ ht hu (by simpa using hc4)⟩
        · skip
          (try dsimp only); omega
    · skip
      refine W_exit ?_
      refine W_seq ?_
      refine W_region ?_
      refine L_assign rfl rfl ?_
      refine L_nil ?_
      refine W_ret ?_
      -- return 2 (R7)
      refine res1 rfl (ResOK.tmp rfl) ⟨?_, rfl⟩ (MSub.nil _)
      refine congrArg (Value.int .i64) (firstI_miss fun x hx => ht x ?_).symm
      have hk2 : x1.length ≤ k := by simpa using hc2
      rw [List.take_of_length_le hk2]; exact hx

theorem upsAt_spec (w : World) (t1 : T_Ups) (s : ByteArray) (h1 : GT.rd w [] t1) : Spec Try.prog 67 [.agg (GT.cells t1).toArray, .string s].toArray w [] (IsV (.int .i64 (firstI (fun x : T_Up => decide (x.1 = s)) t1.2.els))) := by
  obtain ⟨a1, ⟨a3, c3, e3, x1, y1⟩⟩ := t1
  have hm1 : x1.length ≤ 9223372036854775807 := rd_len h1.2
  change Spec _ _ [Value.agg #[.int .i64 a1, TL.hdr ⟨a3, c3, e3, x1, y1⟩], .string s].toArray w [] _
  try dsimp only
  refine Spec.intro Try.func67 rfl Try.ntmps67 rfl ?_
  refine W_seq ?_
  refine W_region ?_
  refine L_box rfl rfl (fun bk2 => ?_)
  refine L_box rfl rfl (fun bk3 => ?_)
  refine L_assign rfl rfl ?_
  refine L_nil ?_
  refine W_seq ?_
  refine W_region ?_
  refine L_fieldAddr rfl rfl fld52_1 ?_
  refine L_load rfl rfl (by first | exact RdC.blk (by repeat (first | exact List.Mem.head _ | apply List.Mem.tail))) one50 rfl ?_
  refine L_makeFunc (fs := []) (cs := [.tmp 3]) rfl rfl rfl ?_
  refine L_callX rfl fn77 rfl (by exact fun w hw => indexUp_spec w ⟨a3, c3, e3, x1, y1⟩ (rd_carry h1.2 hw) 78 fn78 _ (fun x : T_Up => decide (x.1 = s)) (fun w2 F hw2 u hu => upsAt1_spec w2 u s _ ((cells_of_blk (by repeat (first | exact List.Mem.head _ | apply List.Mem.tail)) hw.sees).carry hw2))) ?_
  refine L_assign rfl rfl ?_
  refine L_nil ?_
  refine W_ret ?_
  -- return 1 (R1)
  refine res1 rfl (ResOK.tmp rfl) ⟨?_, rfl⟩ (MSub.nil _)
  rfl

theorem upsNodes_spec (w : World) (t1 : T_Ups) (s : ByteArray) (h1 : GT.rd w [] t1) : Spec Try.prog 53 [.agg (GT.cells t1).toArray, .string s].toArray w [] (IsV (ndV (t1.2.els.find? (fun x : T_Up => decide (x.1 = s))))) := by
  obtain ⟨a1, ⟨a3, c3, e3, x1, y1⟩⟩ := t1
  have hm1 : x1.length ≤ 9223372036854775807 := rd_len h1.2
  change Spec _ _ [Value.agg #[.int .i64 a1, TL.hdr ⟨a3, c3, e3, x1, y1⟩], .string s].toArray w [] _
  try dsimp only
  refine Spec.intro Try.func53 rfl Try.ntmps53 rfl ?_
  refine W_seq ?_
  refine W_region ?_
  refine L_box rfl rfl (fun bk2 => ?_)
  refine L_assign rfl rfl ?_
  refine L_nil ?_
  refine W_seq ?_
  refine W_seq ?_
  refine W_region ?_
  refine L_loadW rfl rfl (by first | exact RdC.blk (by repeat (first | exact List.Mem.head _ | apply List.Mem.tail)) | exact RdC.old (Cells.el h1.2 rfl hu)) (by exact agg52) ?_
  refine L_move rfl rfl ?_
  refine L_callX rfl fn67 rfl (by exact fun w hw => upsAt_spec w (a1, ⟨a3, c3, e3, x1, y1⟩) s (rd_carry h1 hw)) ?_
  refine L_assign rfl rfl ?_
  refine L_nil ?_
  refine W_seq ?_
  refine W_region ?_
  refine L_move rfl rfl ?_
  refine L_binV rfl rfl rfl bv_geq ?_
  refine L_nil ?_
  refine W_weaken (l' := [(2, _), (5, _), (10, _)]) (Sub.cons rfl (Sub.cons rfl (Sub.cons rfl (Sub.nil _)))) (MSub.refl _) ?_
  refine W_cond rfl (fun hc2 => ?_) (fun hc2 => ?_)
  · skip
    rcases firstI_find (fun x : T_Up => decide (x.1 = s)) x1 with ⟨hq, hf⟩ | ⟨k, u, hq, hu, hf, hkl⟩
    · rw [hq] at hc2; simp at hc2
    rw [hq]
    obtain ⟨g1, o1, rfl⟩ := rd_addr h1.2 hkl
    obtain ⟨b1, ⟨b4, c4, e4, x4, y4⟩, b3⟩ := u
    refine W_seq ?_
    refine W_region ?_
    refine L_fieldAddr rfl rfl fld52_1 ?_
    refine L_load rfl rfl (by first | exact RdC.blk (by repeat (first | exact List.Mem.head _ | apply List.Mem.tail)) | exact RdC.old (Cells.el h1.2 rfl hu)) one50 rfl ?_
    refine L_move rfl rfl ?_
    refine L_indexAddr rfl rfl rfl el50 rfl (by omega) ?_
    refine L_fieldAddr rfl rfl fld82_1 ?_
    refine L_load rfl rfl (by first | exact RdC.blk (by repeat (first | exact List.Mem.head _ | apply List.Mem.tail)) | exact RdC.old (Cells.el h1.2 rfl hu)) one56 rfl ?_
    refine L_assign rfl rfl ?_
    refine L_nil ?_
    refine W_ret ?_
    -- return 1 (R3)
    refine res1 rfl (ResOK.tmp rfl) ⟨?_, rfl⟩ (MSub.nil _)
    rw [hf]; rfl
  · skip
    refine W_skip ?_
    refine W_seq ?_
    refine W_region ?_
    refine L_assign rfl rfl ?_
    refine L_nil ?_
    refine W_ret ?_
    -- return 2 (R4)
    refine res1 rfl (ResOK.tmp rfl) ⟨?_, rfl⟩ (MSub.nil _)
    rcases firstI_find (fun x : T_Up => decide (x.1 = s)) x1 with ⟨hq, hf⟩ | ⟨k, u, hq, hu, hf, hkl⟩
    · first | (rw [hf]; done) | (rw [hf]; rfl)
    · rw [hq] at hc2; simp at hc2 <;> omega

theorem sUpHas_spec (w : World) (t1 : T_Ups) (s : ByteArray) (h1 : GT.rd w [] t1) : Spec Try.prog 22 [.agg (GT.cells t1).toArray, .string s].toArray w [] (IsV (.int .i64 (upHasD (GT.dat t1) s))) := by
  obtain ⟨a1, ⟨a3, c3, e3, x1, y1⟩⟩ := t1
  have hm1 : x1.length ≤ 9223372036854775807 := rd_len h1.2
  change Spec _ _ [Value.agg #[.int .i64 a1, TL.hdr ⟨a3, c3, e3, x1, y1⟩], .string s].toArray w [] _
  try dsimp only
  refine Spec.intro Try.func22 rfl Try.ntmps22 rfl ?_
  refine W_seq ?_
  refine W_region ?_
  refine L_box rfl rfl (fun bk2 => ?_)
  refine L_assign rfl rfl ?_
  refine L_nil ?_
  refine W_seq ?_
  refine W_region ?_
  refine L_loadW rfl rfl (by first | exact RdC.blk (by repeat (first | exact List.Mem.head _ | apply List.Mem.tail)) | exact RdC.old (Cells.el h1.2 rfl hu)) (by exact agg52) ?_
  refine L_move rfl rfl ?_
  refine L_callX rfl fn49 rfl (by exact fun w hw => l18At_spec w (a1, ⟨a3, c3, e3, x1, y1⟩) s (rd_carry h1 hw)) ?_
  refine L_assign rfl rfl ?_
  refine L_nil ?_
  refine W_seq ?_
  refine W_seq ?_
  refine W_D0 [15] mix (by kernel_rfl) rfl ?_
  refine D_loadW GC.none (OpV.t rfl) (fun hg => (by first | exact RdC.blk (by repeat (first | exact List.Mem.head _ | apply List.Mem.tail)) | exact RdC.old (Cells.el h1.2 rfl hu))) (by exact agg52) ?_
  refine D_callX GC.none fn50 (OpVs.cons (OpV.t rfl) (OpVs.nil)) (by exact fun hg w F hF hM => (fun w hw => sUpsOk_spec w (a1, ⟨a3, c3, e3, x1, y1⟩) (rd_carry h1 hw)) w hF) ?_
  refine D_not GC.none (OpV.t rfl) ?_
  refine D_move GC.none (OpV.t rfl) ?_
  refine D_move (GC.some rfl rfl) (OpV.t rfl) ?_
  refine D_bin (GC.some rfl rfl) (OpV.s rfl) OpV.c (fun hg => bv_lss) ?_
  refine D_or (cy := _) GC.none (OpV.t rfl) (OpV.s rfl) (fun h hb => ⟨h, hb⟩) ?_
  refine DV_nil ?_
  refine Give_is rfl rfl ?_
  refine Give_drop rfl ?_
  refine Give_drop rfl ?_
  refine Give_drop rfl ?_
  refine Give_drop rfl ?_
  refine Give_drop rfl ?_
  refine Give_drop rfl ?_
  refine Give_nil ?_
  refine W_weaken (l' := [(2, _), (5, _), (15, _)]) (Sub.cons rfl (Sub.cons rfl (Sub.cons rfl (Sub.nil _)))) (MSub.refl _) ?_
  refine W_cond rfl (fun hc2 => ?_) (fun hc2 => ?_)
  · skip
    refine W_seq ?_
    refine W_region ?_
    refine L_assign rfl rfl ?_
    refine L_nil ?_
    refine W_ret ?_
    -- return 1 (R3)
    refine res1 rfl (ResOK.tmp rfl) ⟨?_, rfl⟩ (MSub.nil _)
    refine congrArg (Value.int .i64) ?_
    unfold upHasD
    simp only [dat_pair, dat_int, dat_TL, find_dat]
    simp only [dat_pair, dat_int, dat_TL] at hc2
    rcases firstI_find (fun x : T_Up => decide (x.1 = s)) x1 with ⟨hq, hf⟩ | ⟨k, u, hq, hu, hf, hkl⟩
    · rw [hf]; simp
    · rw [hq] at hc2; simp at hc2; rcases hc2 with h | h
      · rw [if_neg (by rw [h]; simp)]
      · omega
  · skip
    simp at hc2
    rcases firstI_find (fun x : T_Up => decide (x.1 = s)) x1 with ⟨hq, hf⟩ | ⟨k, u, hq, hu, hf, hkl⟩
    · rw [hq] at hc2; omega
    rw [hq]
    obtain ⟨g1, o1, rfl⟩ := rd_addr h1.2 hkl
    obtain ⟨b1, ⟨b4, c4, e4, x4, y4⟩, b3⟩ := u
    refine W_skip ?_
    refine W_seq ?_
    refine W_region ?_
    refine L_fieldAddr rfl rfl fld52_1 ?_
    refine L_load rfl rfl (by first | exact RdC.blk (by repeat (first | exact List.Mem.head _ | apply List.Mem.tail)) | exact RdC.old (Cells.el h1.2 rfl hu)) one50 rfl ?_
    refine L_move rfl rfl ?_
    refine L_indexAddr rfl rfl rfl el50 rfl (by omega) ?_
    refine L_fieldAddr rfl rfl fld82_1 ?_
    refine L_load rfl rfl (by first | exact RdC.blk (by repeat (first | exact List.Mem.head _ | apply List.Mem.tail)) | exact RdC.old (Cells.el h1.2 rfl hu)) one56 rfl ?_
    refine L_lenS rfl rfl el56 ?_
    refine L_assign rfl rfl ?_
    refine L_nil ?_
    refine W_ret ?_
    -- return 2 (R4)
    refine res1 rfl (ResOK.tmp rfl) ⟨?_, rfl⟩ (MSub.nil _)
    refine congrArg (Value.int .i64) ?_
    unfold upHasD
    simp only [dat_pair, dat_int, dat_TL, find_dat]
    simp only [dat_pair, dat_int, dat_TL] at hc2
    rw [if_pos (hc2.1), hf]
    show (x4.length : Int) = ((x4.map GT.dat).length : Int)
    rw [List.length_map]

theorem iUpHas_spec (w : World) (t1 : T_Ups) (s : ByteArray) (h1 : GT.rd w [] t1) : Spec Try.prog 24 [.agg (GT.cells t1).toArray, .string s].toArray w [] (IsV (.int .i64 (upHasD (GT.dat t1) s))) := by
  obtain ⟨a1, ⟨a3, c3, e3, x1, y1⟩⟩ := t1
  have hm1 : x1.length ≤ 9223372036854775807 := rd_len h1.2
  change Spec _ _ [Value.agg #[.int .i64 a1, TL.hdr ⟨a3, c3, e3, x1, y1⟩], .string s].toArray w [] _
  try dsimp only
  refine Spec.intro Try.func24 rfl Try.ntmps24 rfl ?_
  refine W_seq ?_
  refine W_region ?_
  refine L_box rfl rfl (fun bk2 => ?_)
  refine L_assign rfl rfl ?_
  refine L_nil ?_
  refine W_seq ?_
  refine W_seq ?_
  refine W_region ?_
  refine L_loadW rfl rfl (by first | exact RdC.blk (by repeat (first | exact List.Mem.head _ | apply List.Mem.tail))) (by exact agg52) ?_
  refine L_callX rfl fn52 rfl (by exact fun w hw => iUpsOk_spec w (a1, ⟨a3, c3, e3, x1, y1⟩) (rd_carry h1 hw)) ?_
  refine L_not rfl rfl ?_
  refine L_nil ?_
  refine W_weaken (l' := [(1, _), (2, _), (7, _)]) (Sub.cons rfl (Sub.cons rfl (Sub.cons rfl (Sub.nil _)))) (MSub.refl _) ?_
  refine W_cond rfl (fun hc1 => ?_) (fun hc1 => ?_)
  · skip
    refine W_seq ?_
    refine W_region ?_
    refine L_assign rfl rfl ?_
    refine L_nil ?_
    refine W_ret ?_
    -- return 1 (R2)
    refine res1 rfl (ResOK.tmp rfl) ⟨?_, rfl⟩ (MSub.nil _)
    refine congrArg (Value.int .i64) ?_
    unfold upHasD
    simp only [dat_pair, dat_int, dat_TL, find_dat]
    simp only [dat_pair, dat_int, dat_TL] at hc1
    simp at hc1; rw [if_neg (by rw [hc1]; simp)]
  · skip
    refine W_skip ?_
    refine W_seq ?_
    refine W_region ?_
    refine L_loadW rfl rfl (by first | exact RdC.blk (by repeat (first | exact List.Mem.head _ | apply List.Mem.tail))) (by exact agg52) ?_
    refine L_move rfl rfl ?_
    refine L_callX rfl fn53 rfl (by exact fun w hw => upsNodes_spec w (a1, ⟨a3, c3, e3, x1, y1⟩) s (rd_carry h1 hw)) ?_
    obtain ⟨na, nc, hnd⟩ := ndV_eq (x1.find? (fun x : T_Up => decide (x.1 = s)))
    rw [hnd]
    refine L_lenS rfl rfl el56 ?_
    refine L_assign rfl rfl ?_
    refine L_nil ?_
    refine W_ret ?_
    -- return 2 (R3)
    refine res1 rfl (ResOK.tmp rfl) ⟨?_, rfl⟩ (MSub.nil _)
    refine congrArg (Value.int .i64) ?_
    unfold upHasD
    simp only [dat_pair, dat_int, dat_TL, find_dat]
    simp only [dat_pair, dat_int, dat_TL] at hc1
    simp at hc1
    rw [if_pos hc1]
    cases x1.find? (fun x : T_Up => decide (x.1 = s)) with
    | none => rfl
    | some u => show (u.2.1.els.length : Int) = ((u.2.1.els.map GT.dat).length : Int); rw [List.length_map]

end Go.Proofs.SL
