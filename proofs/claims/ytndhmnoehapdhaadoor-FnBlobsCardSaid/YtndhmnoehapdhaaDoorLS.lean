/- The contract of the library's sort at the chunks. -/
import Derived.Test.YtndhmnoehapdhaaDoorSH
import Derived.Test.YtndhmnoehapdhaaDoorLSd
import Derived.Test.YtndhmnoehapdhaaDoorWM
namespace Go.Proofs.SL
open Go Go.Shelf Go.RowKit Go.Lib Go.Sort
theorem run_sgtr (T : TypeId) (s t : ByteArray) (w : World) : (binOp .gtr T (.string s) (.string t)).run Tryd.prog w = .ok (.bool (!sLt s t && !decide (s = t))) w := by
  simp [binOp, Op.stringOp, sLt, str_eq]
set_option maxHeartbeats 1000000 in
theorem walk_byBlobId (x y : T_Blob) (W : World) : Calls Tryd.prog 70 #[.agg #[.string x.1, .string x.2.1, .bool x.2.2], .agg #[.string y.1, .string y.2.1, .bool y.2.2]] W fun e w' => e = .returned (.int .i64 (cfB x y)) ∧ ∃ q os', w' = grow (W.drewN q) os' := by
  unfold cfB
  go_enter Tryd.func70, Tryd.ntmps70
  go_wp2
  · go_ret
    exact ⟨by simp_all, 0, _, by rw [alloc_eq_grow, alloc_eq_grow, grow_grow]; rfl⟩
  · rename_i hb _ _ _
    rw [run_sgtr]
    go_wp2
    all_goals (first | (go_ret; exact ⟨by simp_all [sLt], 0, _, by rw [alloc_eq_grow, alloc_eq_grow, grow_grow]; rfl⟩) | trace_state)
theorem cmpB (blk off size : Nat) (w : World) : Go.Proofs.CmpLays Tryd.prog 70 #[] (fun x : T_Blob => GT.cells x) 3 cfB blk off size w :=
  fun _ _ _ _ x y => walk_byBlobId x y _
theorem sl_SortFunc_Blob_walk (w : World) (a0 : TL T_Blob) (r : List T_Blob) (hp : sortBlobs (GT.dat a0) = some r) : Spec Tryd.prog 69 [(TL.hdr a0), .func (.func 70) #[] #[]].toArray w [treeH a0] (fun v M => ∃ (y0 : TL T_Blob), v = .tuple #[] ∧ GT.dat y0 = r ∧ M = [treeH y0] ∧ y0.hdr = a0.hdr) := by
  have eg : ∀ args w, (callFunc 70 args).run Tryd.prog w = .ok (.enter 70 args) w := enters_of Tryd.func70 (by kernel_rfl) rfl
  refine Spec.sortK w a0 (Go.Proofs.ltOf cfB) swoB (fun _ => rfl) r hp (fun b off cap d w hH hb hsz => ?_) (fun p cap w => AnyF.slices_SortFunc_none Tryd.laysSF p cap _ w)
  exact AnyQ.slices_SortFunc_eq Tryd.laysSF 3 Tryd.isAgg89 Tryd.sizeOf89 (fun x : T_Blob => GT.cells x) (fun x => GT.len x) (fun x v hv => GT.one x v hv) cfB swoB 70 #[] b off cap d w eg (cmpB b off d.size w) hH hb hsz
end Go.Proofs.SL
