/- The texts of the proof, part 3: the base, walks of functions, plain Lean. -/
import Derived.Test.YtndhmnoehapdhaaDoorT2
import Derived.Shelf.SlSortCmp.NoneTotal
import Derived.Ground.SlsfProg
import Derived.Test.YtndhmnoehapdhaaDoorRows
namespace Go.Proofs.SL
open Go
set_option maxHeartbeats 2000000
abbrev D_Blob := ByteArray × ByteArray × Bool
abbrev D_Blobs := Int × (List D_Blob)
instance fn86 : FnF Tryd.prog 86 := ⟨⟨_, Tryd.func86, by kernel_rfl, rfl⟩⟩
instance fn87 : FnF Tryd.prog 87 := ⟨⟨_, Tryd.func87, by kernel_rfl, rfl⟩⟩
instance fn42 : FnF Tryd.prog 42 := ⟨⟨_, Tryd.func42, by kernel_rfl, rfl⟩⟩
instance fn58 : FnF Tryd.prog 58 := ⟨⟨_, Tryd.func58, by kernel_rfl, rfl⟩⟩
instance fn40 : FnF Tryd.prog 40 := ⟨⟨_, Tryd.func40, by kernel_rfl, rfl⟩⟩
instance bld30 : BldF Tryd.prog 30 [(0, 1), (1, 1)] [.int .i64 0, .slice none 0 0] := ⟨by kernel_rfl⟩
instance fn67 : FnF Tryd.prog 67 := ⟨⟨_, Tryd.func67, by kernel_rfl, rfl⟩⟩
instance fn14 : FnF Tryd.prog 14 := ⟨⟨_, Tryd.func14, by kernel_rfl, rfl⟩⟩
instance fn101 : FnF Tryd.prog 101 := ⟨⟨_, Tryd.func101, by kernel_rfl, rfl⟩⟩
instance fn100 : FnF Tryd.prog 100 := ⟨⟨_, Tryd.func100, by kernel_rfl, rfl⟩⟩
instance fn68 : FnF Tryd.prog 68 := ⟨⟨_, Tryd.func68, by kernel_rfl, rfl⟩⟩
instance fn88 : FnF Tryd.prog 88 := ⟨⟨_, Tryd.func88, by kernel_rfl, rfl⟩⟩
instance fn60 : FnF Tryd.prog 60 := ⟨⟨_, Tryd.func60, by kernel_rfl, rfl⟩⟩
instance fn61 : FnF Tryd.prog 61 := ⟨⟨_, Tryd.func61, by kernel_rfl, rfl⟩⟩
instance fn63 : FnF Tryd.prog 63 := ⟨⟨_, Tryd.func63, by kernel_rfl, rfl⟩⟩
instance fn16 : FnF Tryd.prog 16 := ⟨⟨_, Tryd.func16, by kernel_rfl, rfl⟩⟩
noncomputable def s_l7At (a0 : D_Blobs) (a1 : ByteArray) : Option Int :=
  whileP (fun s1 : Int => cond (decide (s1 < (a0.2.length : Int))) (Option.bind (idx a0.2 s1) (fun y3 => cond (decide (y3.1 = a1)) (Option.map .inr (some s1)) (some (.inl (IntKind.wrap .i64 (s1 + 1)))))) (Option.map .inr (some (-1)))) 0
theorem s_l7At_walk (w : World) (a0 : T_Blobs) (a1 : ByteArray) (h0 : GT.rd w [] a0) (r : Int) (hp : s_l7At (GT.dat a0) a1 = some r) : Spec Tryd.prog 58 [.agg (GT.cells a0).toArray, .string a1].toArray w [] (IsV (.int .i64 r)) := by
  obtain ⟨a0_1, a0_2⟩ := a0
  change Spec _ _ ([Value.agg #[.int .i64 a0_1, (TL.hdr a0_2)], .string a1] : List Value).toArray w [] _
  refine Spec.intro Tryd.func58 rfl Tryd.ntmps58 rfl ?_
  unfold s_l7At at hp
  replace hp := dd hp
  refine s2 ?_
  refine bx fun bk2 => ?_
  refine s8 ?_
  refine W_while (σ := Int) GT.dat (fun (v1_0 : Int) => [(5, .int .i64 v1_0)]) (fun (v1_0 : Int) => []) [(1, _), (2, _)] [blk bk2 _ _] 0 hp sb ms ?_
  clear hp
  rintro v1_0 x1 hp hx1
  replace hp := dd hp
  refine kq [1, 2, 5] ?_
  refine s9 ?_
  refine kp [1, 2, 5, 10] ?_
  refine W_cond rfl (fun hc2 => ?_) (fun hc2 => ?_)
  · replace hp := cond_t hc2 hp
    refine s8 ?_
    replace hp := idx_bind hp; obtain ⟨⟨u3_1, u3_2, u3_3⟩, hy3, hp⟩ := hp
    refine L_idxA (X := a0_2) rfl rfl rfl el28.h (RdT.old h0.2) hy3 ?_
    refine s1 ?_
    refine L_load rfl rfl (RdT.at (RdT.old h0.2) (hy3).2) one9.h rfl ?_
    refine s3 ?_
    refine kp [1, 2, 5, 20] ?_
    refine W_cond rfl (fun hc4 => ?_) (fun hc4 => ?_)
    · replace hp := cond_t hc4 hp
      refine s5 ?_
      replace hp := map_any hp; obtain ⟨a5, hp, hx_a5⟩ := hp
      obtain rfl := hx1 _ hx_a5
      obtain rfl := Option.some.inj hp
      refine s1 ?_
      refine res1 rfl (ResOK.tmp rfl) ⟨rfl, rfl⟩ ms
    · replace hp := cond_f hc4 hp
      refine s6 ?_
      exact ⟨IntKind.wrap .i64 (v1_0 + 1), sb, (.sub ms), some_eq hp⟩
  · replace hp := cond_f hc2 hp
    refine W_exit ?_
    replace hp := map_any hp; obtain ⟨a6, hp, hx_a6⟩ := hp
    obtain rfl := hx1 _ hx_a6
    refine s4 ?_
    obtain rfl := Option.some.inj hp
    refine s1 ?_
    refine res1 rfl (ResOK.tmp rfl) ⟨rfl, rfl⟩ ms
noncomputable def s_l7Sum (a0 : D_Blobs) : Option Int :=
  whileP (fun s1 : Int × Int => cond (decide (s1.2 < (a0.2.length : Int))) (Option.bind (idx a0.2 s1.2) (fun y3 => some (.inl ((IntKind.wrap .i64 (s1.1 + (y3.2.1.size : Int)), IntKind.wrap .i64 (s1.2 + 1)))))) (Option.map .inr (some s1.1))) (0, 0)
theorem s_l7Sum_walk (w : World) (a0 : T_Blobs) (h0 : GT.rd w [] a0) (r : Int) (hp : s_l7Sum (GT.dat a0) = some r) : Spec Tryd.prog 87 [.agg (GT.cells a0).toArray].toArray w [] (IsV (.int .i64 r)) := by
  obtain ⟨a0_1, a0_2⟩ := a0
  change Spec _ _ ([Value.agg #[.int .i64 a0_1, (TL.hdr a0_2)]] : List Value).toArray w [] _
  refine Spec.intro Tryd.func87 rfl Tryd.ntmps87 rfl ?_
  unfold s_l7Sum at hp
  replace hp := dd hp
  refine s2 ?_
  refine bx fun bk1 => ?_
  refine s12 ?_
  refine W_while (σ := Int × Int) GT.dat (fun ((v1_0, v1_1) : Int × Int) => [(3, .int .i64 v1_0), (4, .int .i64 v1_1)]) (fun ((v1_0, v1_1) : Int × Int) => []) [(1, _)] [blk bk1 _ _] (0, 0) hp sb ms ?_
  clear hp
  rintro ⟨v1_0, v1_1⟩ x1 hp hx1
  replace hp := dd hp
  refine kq [1, 3, 4] ?_
  refine s9 ?_
  refine kp [1, 3, 4, 9] ?_
  refine W_cond rfl (fun hc2 => ?_) (fun hc2 => ?_)
  · replace hp := cond_t hc2 hp
    refine s8 ?_
    replace hp := idx_bind hp; obtain ⟨⟨u3_1, u3_2, u3_3⟩, hy3, hp⟩ := hp
    refine L_idxA (X := a0_2) rfl rfl rfl el28.h (RdT.old h0.2) hy3 ?_
    refine s1 ?_
    refine L_load rfl rfl (RdT.at (RdT.old h0.2) (hy3).2) one9.h rfl ?_
    refine s9 ?_
    exact ⟨(IntKind.wrap .i64 (v1_0 + (u3_2.size : Int)), IntKind.wrap .i64 (v1_1 + 1)), sb, (.sub ms), some_eq hp⟩
  · replace hp := cond_f hc2 hp
    refine W_exit ?_
    replace hp := map_any hp; obtain ⟨a4, hp, hx_a4⟩ := hp
    obtain rfl := hx1 _ hx_a4
    refine s5 ?_
    obtain rfl := Option.some.inj hp
    refine s1 ?_
    refine res1 rfl (ResOK.tmp rfl) ⟨rfl, rfl⟩ ms
noncomputable def s_BlobsOk (a0 : D_Blobs) : Option Bool :=
  Option.bind (s_l1In a0.1 0 1000) (fun y1 => gb (!((!y1) || (decide (12 < (a0.2.length : Int))))) (s_l7Sum (a0.1, a0.2)) (fun y2 => cond (((!y1) || (decide (12 < (a0.2.length : Int)))) || (decide (a0.1 < y2))) (some false) (whileP (fun s4 : Int => cond (decide (s4 < (a0.2.length : Int))) (Option.bind (idx a0.2 s4) (fun y6 => gb ((!((!decide ((y6.1.size : Int) = 8)) || (decide (40 < (y6.2.1.size : Int))))) && (!y6.2.2)) (s_Short y6.2.1) (fun y7 => gb ((!(((!decide ((y6.1.size : Int) = 8)) || (decide (40 < (y6.2.1.size : Int)))) || ((!y6.2.2) && (!decide (y6.1 = y7))))) && (decide (0 < s4))) (idx a0.2 (IntKind.wrap .i64 (s4 - 1))) (fun y8 => cond ((((!decide ((y6.1.size : Int) = 8)) || (decide (40 < (y6.2.1.size : Int)))) || ((!y6.2.2) && (!decide (y6.1 = y7)))) || ((decide (0 < s4)) && (!sLt y8.1 y6.1))) (Option.map .inr (some false)) (some (.inl (IntKind.wrap .i64 (s4 + 1)))))))) (Option.map .inr (some true))) 0)))
theorem s_BlobsOk_walk (w : World) (a0 : T_Blobs) (h0 : GT.rd w [] a0) (r : Bool) (hp : s_BlobsOk (GT.dat a0) = some r) : Spec Tryd.prog 40 [.agg (GT.cells a0).toArray].toArray w [] (IsV (.bool r)) := by
  obtain ⟨a0_1, a0_2⟩ := a0
  change Spec _ _ ([Value.agg #[.int .i64 a0_1, (TL.hdr a0_2)]] : List Value).toArray w [] _
  refine Spec.intro Tryd.func40 rfl Tryd.ntmps40 rfl ?_
  unfold s_BlobsOk at hp
  replace hp := dd hp
  refine s2 ?_
  refine bx fun bk1 => ?_
  refine s4 ?_
  replace hp := ba hp; obtain ⟨y1, hy1, hp⟩ := hp
  replace hp := gb_any hp; obtain ⟨y2, hy2, hp⟩ := hp
  refine W_D0 [21] mix (by kernel_rfl) rfl ?_
  refine s2 ?_
  refine D_callX GC.none fn86.h (OpVs.cons (OpV.t rfl) (OpVs.cons OpV.c (OpVs.cons OpV.c (OpVs.nil)))) (by exact fun hg w F hF hM => s_l1In_walk w a0_1 0 1000  _ hy1) ?_
  refine s4 ?_
  refine D_lenP (X := a0_2) (GC.some rfl rfl) (OpV.s rfl) el28.h ?_
  refine s4 ?_
  refine D_callX (GC.some rfl rfl) fn87.h (OpVs.cons (OpV.s rfl) (OpVs.nil)) (by exact fun hg w F hF hM => s_l7Sum_walk w (a0_1, a0_2) (RdT.nowS (RdT.pair RdT.int (RdT.old h0.2)) hF hM) _ (hy2 (gnot hg.2))) ?_
  refine s20 ?_
  refine s3 ?_
  refine kp [1, 21] ?_
  refine W_cond rfl (fun hc3 => ?_) (fun hc3 => ?_)
  · replace hp := cond_t hc3 hp
    refine s4 ?_
    obtain rfl := Option.some.inj hp
    refine s1 ?_
    refine res1 rfl (ResOK.tmp rfl) ⟨rfl, rfl⟩ ms
  · replace hp := cond_f hc3 hp
    refine s7 ?_
    refine W_while (σ := Int) GT.dat (fun (v4_0 : Int) => [(3, .int .i64 v4_0)]) (fun (v4_0 : Int) => []) [(1, _)] [blk bk1 _ _] 0 hp sb ms ?_
    clear hp
    rintro v4_0 x4 hp hx4
    replace hp := dd hp
    refine kq [1, 3] ?_
    refine s9 ?_
    refine kp [1, 3, 26] ?_
    refine W_cond rfl (fun hc5 => ?_) (fun hc5 => ?_)
    · replace hp := cond_t hc5 hp
      refine s8 ?_
      replace hp := idx_bind hp; obtain ⟨⟨u6_1, u6_2, u6_3⟩, hy6, hp⟩ := hp
      refine L_idxA (X := a0_2) rfl rfl rfl el28.h (RdT.old h0.2) hy6 ?_
      refine L_loadW rfl rfl (RdT.at (RdT.old h0.2) (hy6).2) (by exact agg89.h) ?_
      refine al fun bk4 => ?_
      refine s3 ?_
      replace hp := gb_any hp; obtain ⟨y7, hy7, hp⟩ := hp
      replace hp := idx_gb hp; obtain ⟨⟨u8_1, u8_2, u8_3⟩, hy8, hp⟩ := hp
      refine W_D0 [72] mix (by kernel_rfl) rfl ?_
      refine s2 ?_
      refine D_lenT GC.none (OpV.t rfl) str9.h ?_
      refine s4 ?_
      refine D_lenT (GC.some rfl rfl) (OpV.s rfl) str9.h ?_
      refine s11 ?_
      refine D_callX (GC.some rfl rfl) fn42.h (OpVs.cons (OpV.s rfl) (OpVs.nil)) (by exact fun hg w F hF hM => s_Short_walk w u6_2  _ (hy7 (gand (gnot hg.1.2) hg.2))) ?_
      refine s11 ?_
      refine D_idxA (X := a0_2) (GC.some rfl rfl) (OpV.s rfl) (OpV.s rfl) el28.h (RdT.old h0.2) (fun hg => hy8 (gand (gnot hg.1.2) hg.2)) ?_
      refine s1 ?_
      refine D_load (GC.some rfl rfl) (OpV.s rfl) (fun hg => RdT.at (RdT.old h0.2) (hy8 (gand (gnot hg.1.2) hg.2)).2) one9.h rfl ?_
      refine s20 ?_
      refine s20 ?_
      refine s6 ?_
      refine kp [1, 3, 72] ?_
      refine W_cond rfl (fun hc9 => ?_) (fun hc9 => ?_)
      · replace hp := cond_t hc9 hp
        refine s4 ?_
        replace hp := map_any hp; obtain ⟨a10, hp, hx_a10⟩ := hp
        obtain rfl := hx4 _ hx_a10
        obtain rfl := Option.some.inj hp
        refine s1 ?_
        refine res1 rfl (ResOK.tmp rfl) ⟨rfl, rfl⟩ ms
      · replace hp := cond_f hc9 hp
        refine s6 ?_
        exact ⟨IntKind.wrap .i64 (v4_0 + 1), sb, (.sub ms), some_eq hp⟩
    · replace hp := cond_f hc5 hp
      refine W_exit ?_
      replace hp := map_any hp; obtain ⟨a11, hp, hx_a11⟩ := hp
      obtain rfl := hx4 _ hx_a11
      refine s4 ?_
      obtain rfl := Option.some.inj hp
      refine s1 ?_
      refine res1 rfl (ResOK.tmp rfl) ⟨rfl, rfl⟩ ms
noncomputable def s_BlobGet (a0 : D_Blobs) (a1 : ByteArray) : Option (ByteArray × Int) :=
  Option.bind (s_l7At (a0.1, a0.2) a1) (fun y1 => Option.bind (s_BlobsOk (a0.1, a0.2)) (fun y2 => cond ((!y2) || (decide (y1 < 0))) (some (ByteArray.empty, 1)) (Option.bind (idx a0.2 y1) (fun y4 => cond y4.2.2 (some (ByteArray.empty, 2)) (Option.bind (idx a0.2 y1) (fun y6 => some (y6.2.1, 0)))))))
theorem s_BlobGet_walk (w : World) (a0 : T_Blobs) (a1 : ByteArray) (h0 : GT.rd w [] a0) (r : ByteArray × Int) (hp : s_BlobGet (GT.dat a0) a1 = some r) : Spec Tryd.prog 14 [.agg (GT.cells a0).toArray, .string a1].toArray w [] (fun v M => ∃ (x0 : ByteArray) (x1 : Int), v = .tuple #[.string x0, .int .i64 x1] ∧ (GT.dat x0, GT.dat x1) = r ∧ M = []) := by
  obtain ⟨a0_1, a0_2⟩ := a0
  change Spec _ _ ([Value.agg #[.int .i64 a0_1, (TL.hdr a0_2)], .string a1] : List Value).toArray w [] _
  refine Spec.intro Tryd.func14 rfl Tryd.ntmps14 rfl ?_
  unfold s_BlobGet at hp
  replace hp := dd hp
  refine s2 ?_
  refine bx fun bk2 => ?_
  refine s7 ?_
  replace hp := ba hp; obtain ⟨y1, hy1, hp⟩ := hp
  refine L_callX rfl fn58.h rfl (by exact fun w hw => s_l7At_walk w (a0_1, a0_2) a1 (RdT.now (RdT.pair RdT.int (RdT.old h0.2)) hw) _ hy1) ?_
  refine s4 ?_
  replace hp := ba hp; obtain ⟨y2, hy2, hp⟩ := hp
  refine W_D0 [16] mix (by kernel_rfl) rfl ?_
  refine s1 ?_
  refine D_callX GC.none fn40.h (OpVs.cons (OpV.t rfl) (OpVs.nil)) (by exact fun hg w F hF hM => s_BlobsOk_walk w (a0_1, a0_2) (RdT.nowS (RdT.pair RdT.int (RdT.old h0.2)) hF hM) _ hy2) ?_
  refine s14 ?_
  refine kp [2, 6, 16] ?_
  refine W_cond rfl (fun hc3 => ?_) (fun hc3 => ?_)
  · replace hp := cond_t hc3 hp
    refine s5 ?_
    obtain rfl := Option.some.inj hp
    refine s1 ?_
    refine res2 rfl (ResOK.tmp rfl) (ResOK.tmp rfl) ⟨ByteArray.empty, 1, rfl, rfl, rfl⟩ ms
  · replace hp := cond_f hc3 hp
    refine s7 ?_
    replace hp := idx_bind hp; obtain ⟨⟨u4_1, u4_2, u4_3⟩, hy4, hp⟩ := hp
    refine L_idxA (X := a0_2) rfl rfl rfl el28.h (RdT.old h0.2) hy4 ?_
    refine s1 ?_
    refine L_load rfl rfl (RdT.at (RdT.old h0.2) (hy4).2) one4.h rfl ?_
    refine s1 ?_
    refine kp [2, 6, 22] ?_
    refine W_cond rfl (fun hc5 => ?_) (fun hc5 => ?_)
    · replace hp := cond_t hc5 hp
      refine s5 ?_
      obtain rfl := Option.some.inj hp
      refine s1 ?_
      refine res2 rfl (ResOK.tmp rfl) (ResOK.tmp rfl) ⟨ByteArray.empty, 2, rfl, rfl, rfl⟩ ms
    · replace hp := cond_f hc5 hp
      refine s6 ?_
      replace hp := idx_bind hp; obtain ⟨u6, hy6, hp⟩ := hp
      obtain rfl : (u4_1, u4_2, u4_3) = u6 := Option.some.inj (hy4.2.symm.trans hy6.2)
      refine L_idxA (X := a0_2) rfl rfl rfl el28.h (RdT.old h0.2) hy4 ?_
      refine s1 ?_
      refine L_load rfl rfl (RdT.at (RdT.old h0.2) (hy4).2) one9.h rfl ?_
      refine s3 ?_
      obtain rfl := Option.some.inj hp
      refine s1 ?_
      refine res2 rfl (ResOK.tmp rfl) (ResOK.tmp rfl) ⟨u4_2, 0, rfl, rfl, rfl⟩ ms
noncomputable def s_l7Copy (a0 : D_Blobs) : Option D_Blobs :=
  Option.bind (some ([] : List D_Blob)) (fun y2 => Option.bind (appP y2 a0.2) (fun y4 => some (a0.1, y4)))
theorem s_l7Copy_walk (w : World) (a0 : T_Blobs) (h0 : GT.rd w [] a0) (r : D_Blobs) (hp : s_l7Copy (GT.dat a0) = some r) : Spec Tryd.prog 67 [.agg (GT.cells a0).toArray].toArray w [] (fun v M => ∃ (x0 : T_Blobs), v = .agg (GT.cells x0).toArray ∧ GT.dat x0 = r ∧ M = [treeH x0]) := by
  obtain ⟨a0_1, a0_2⟩ := a0
  change Spec _ _ ([Value.agg #[.int .i64 a0_1, (TL.hdr a0_2)]] : List Value).toArray w [] _
  refine Spec.intro Tryd.func67 rfl Tryd.ntmps67 rfl ?_
  unfold s_l7Copy at hp
  replace hp := dd hp
  refine s2 ?_
  refine bx fun bk1 => ?_
  refine al fun bk2 => ?_
  refine s3 ?_
  replace hp := ba hp; obtain ⟨y2, hy2, hp⟩ := hp
  refine L_mk0 T_Blob rfl el28.h (fun X1 hdX1 => ?_)
  obtain rfl : GT.dat X1 = y2 := hdX1.trans (Option.some.inj hy2)
  clear hy2 hdX1
  refine s2 ?_
  replace hp := ba hp; obtain ⟨y4, hy4, hp⟩ := hp
  refine L_appT (X := X1) (Y := a0_2) rfl rfl rfl el28.h rfl rfl pk (RdT.old h0.2) hy4 (by decide) (fun X3 hdX3 => ?_)
  subst hdX3
  refine s8 ?_
  obtain rfl := Option.some.inj hp
  refine jW ((a0_1, X3) : T_Blobs) ?_
  refine s1 ?_
  refine res1 rfl (ResOK.cell rfl mm (by exact agg30.h)) ⟨(a0_1, X3), rfl, rfl, rfl⟩ ms
noncomputable def s_BlobBend (a0 : D_Blobs) (a1 : ByteArray) : Option (D_Blobs × Bool) :=
  Option.bind (s_BlobsOk (a0.1, a0.2)) (fun y1 => cond (!y1) (some ((0, ([] : List D_Blob)), false)) (Option.bind (s_l7Copy (a0.1, a0.2)) (fun y3 => Option.bind (s_l7At (a0.1, a0.2) a1) (fun y4 => gb (!(decide (y4 < 0))) (idx a0.2 y4) (fun y5 => cond ((decide (y4 < 0)) || y5.2.2) (some ((y3.1, y3.2), false)) (Option.bind (idx y3.2 y4) (fun y7 => Option.bind (some (y3.2.set (y4.toNat) (y7.1, y7.2.1, true))) (fun y8 => some ((y3.1, y8), true)))))))))
theorem s_BlobBend_walk (w : World) (a0 : T_Blobs) (a1 : ByteArray) (h0 : GT.rd w [] a0) (r : D_Blobs × Bool) (hp : s_BlobBend (GT.dat a0) a1 = some r) : Spec Tryd.prog 22 [.agg (GT.cells a0).toArray, .string a1].toArray w [] (fun v M => ∃ (x0 : T_Blobs) (x1 : Bool), v = .tuple #[.agg (GT.cells x0).toArray, .bool x1] ∧ (GT.dat x0, GT.dat x1) = r ∧ M = [treeH x0]) := by
  obtain ⟨a0_1, a0_2⟩ := a0
  change Spec _ _ ([Value.agg #[.int .i64 a0_1, (TL.hdr a0_2)], .string a1] : List Value).toArray w [] _
  refine Spec.intro Tryd.func22 rfl Tryd.ntmps22 rfl ?_
  unfold s_BlobBend at hp
  replace hp := dd hp
  refine s2 ?_
  refine bx fun bk2 => ?_
  refine al fun bk4 => ?_
  refine s6 ?_
  replace hp := ba hp; obtain ⟨y1, hy1, hp⟩ := hp
  refine L_callX rfl fn40.h rfl (by exact fun w hw => s_BlobsOk_walk w (a0_1, a0_2) (RdT.now (RdT.pair RdT.int (RdT.old h0.2)) hw) _ hy1) ?_
  refine s2 ?_
  refine kp [1, 2, 4, 10] ?_
  refine W_cond rfl (fun hc2 => ?_) (fun hc2 => ?_)
  · replace hp := cond_t hc2 hp
    refine s2 ?_
    refine L_build (xs := []) (cs := [.int .i64 0, (TL.hdr (TL.nil T_Blob 0))]) rfl rfl bld30.h rfl ?_
    refine s3 ?_
    obtain rfl := Option.some.inj hp
    refine W_conv (M' := treeH (TL.nil T_Blob 0) :: _) (fun w h => addNilT (τ := T_Blob) 0 h) ?_
    refine jW ((0, (TL.nil T_Blob 0)) : T_Blobs) ?_
    refine s1 ?_
    refine res2 rfl (ResOK.cell rfl mm (by exact agg30.h)) (ResOK.tmp rfl) ⟨(0, (TL.nil T_Blob 0)), false, rfl, rfl, rfl⟩ ms
  · replace hp := cond_f hc2 hp
    refine s4 ?_
    replace hp := ba hp; obtain ⟨y3, hy3, hp⟩ := hp
    refine L_callR rfl fn67.h rfl (by exact fun w hw => s_l7Copy_walk w (a0_1, a0_2) (RdT.now (RdT.pair RdT.int (RdT.old h0.2)) hw) _ hy3) ?_
    rintro _ _ ⟨⟨y3x0_1, y3x0_2⟩, rfl, rfl, rfl⟩
    refine sc ?_
    replace hp := dd hp
    refine xL ((y3x0_1, y3x0_2) : T_Blobs) ?_
    refine al fun bk6 => ?_
    refine s6 ?_
    replace hp := ba hp; obtain ⟨y4, hy4, hp⟩ := hp
    refine L_callX rfl fn58.h rfl (by exact fun w hw => s_l7At_walk w (a0_1, a0_2) a1 (RdT.now (RdT.pair RdT.int (RdT.old h0.2)) hw) _ hy4) ?_
    refine s4 ?_
    replace hp := idx_gb hp; obtain ⟨⟨u5_1, u5_2, u5_3⟩, hy5, hp⟩ := hp
    refine W_D0 [26] mix (by kernel_rfl) rfl ?_
    refine s6 ?_
    refine D_idxA (X := a0_2) (GC.some rfl rfl) (OpV.s rfl) (OpV.s rfl) el28.h (RdT.old h0.2) (fun hg => hy5 (gnot hg.2)) ?_
    refine s1 ?_
    refine D_load (GC.some rfl rfl) (OpV.s rfl) (fun hg => RdT.at (RdT.old h0.2) (hy5 (gnot hg.2)).2) one4.h rfl ?_
    refine s13 ?_
    refine kp [4, 6, 7, 26] ?_
    refine W_cond rfl (fun hc6 => ?_) (fun hc6 => ?_)
    · replace hp := cond_t hc6 hp
      refine s6 ?_
      obtain rfl := Option.some.inj hp
      refine jW ((y3x0_1, y3x0_2) : T_Blobs) ?_
      refine s1 ?_
      refine res2 rfl (ResOK.cell rfl mm (by exact agg30.h)) (ResOK.tmp rfl) ⟨(y3x0_1, y3x0_2), false, rfl, rfl, rfl⟩ ms
    · replace hp := cond_f hc6 hp
      refine s6 ?_
      replace hp := idx_bind hp; obtain ⟨⟨u7_1, u7_2, u7_3⟩, hy7, hp⟩ := hp
      refine L_idxA (X := y3x0_2) rfl rfl rfl el28.h (RdT.tree mm) hy7 ?_
      refine s1 ?_
      refine L_conv (M' := treeH (u7_1, u7_2, u7_3) :: holeH y3x0_2 (y4.toNat) (GT.cells (u7_1, u7_2, u7_3)) :: _) (fun w h => hole_open hy7.2 pk h) ?_
      refine L_stH (X := y3x0_2) (i := y4.toNat) (sz := 3) (fo := 2) (n := 1) rfl rfl pk rfl (.inr ⟨one4.h, rfl⟩) rfl (allOne rfl) (Nat.le_of_ble_eq_true rfl) ?_
      refine L_conv (M' := treeH ((u7_1, u7_2, true) : T_Blob) :: _) (fun w h => addF ((u7_1, u7_2, true) : T_Blob) h) ?_
      replace hp := ba hp; obtain ⟨y8, hy8, hp⟩ := hp
      refine L_close (X := y3x0_2) ((u7_1, u7_2, true) : T_Blob) rfl pk pk hy8 (fun X9 hdX9 hhX9 => ?_)
      subst hdX9
      try rw [← hhX9]
      refine s7 ?_
      obtain rfl := Option.some.inj hp
      refine jW ((y3x0_1, X9) : T_Blobs) ?_
      refine s1 ?_
      refine res2 rfl (ResOK.cell rfl mm (by exact agg30.h)) (ResOK.tmp rfl) ⟨(y3x0_1, X9), true, rfl, rfl, rfl⟩ ms
noncomputable def s_Fetch (a0 : List D_Blobs) (a1 : ByteArray) : Option (ByteArray × Int) :=
  whileP (fun s1 : Int × Int => cond (decide (s1.2 < (a0.length : Int))) (Option.bind (idx a0 s1.2) (fun y3 => Option.bind (s_BlobGet (y3.1, y3.2) a1) (fun y4 => cond (decide (y4.2 = 0)) (Option.map .inr (some (y4.1, 0))) (cond (decide (y4.2 = 2)) (some (.inl ((3, IntKind.wrap .i64 (s1.2 + 1))))) (some (.inl ((s1.1, IntKind.wrap .i64 (s1.2 + 1))))))))) (Option.map .inr (some (ByteArray.empty, s1.1)))) (2, 0)
theorem s_Fetch_walk (w : World) (a0 : TL T_Blobs) (a1 : ByteArray) (h0 : GT.rd w [] a0) (r : ByteArray × Int) (hp : s_Fetch (GT.dat a0) a1 = some r) : Spec Tryd.prog 25 [(TL.hdr a0), .string a1].toArray w [] (fun v M => ∃ (x0 : ByteArray) (x1 : Int), v = .tuple #[.string x0, .int .i64 x1] ∧ (GT.dat x0, GT.dat x1) = r ∧ M = []) := by
  refine Spec.intro Tryd.func25 rfl Tryd.ntmps25 rfl ?_
  unfold s_Fetch at hp
  replace hp := dd hp
  refine s15 ?_
  refine W_while (σ := Int × Int) GT.dat (fun ((v1_0, v1_1) : Int × Int) => [(6, .int .i64 v1_0), (7, .int .i64 v1_1)]) (fun ((v1_0, v1_1) : Int × Int) => []) [(0, _), (1, _)] [] (2, 0) hp sb ms ?_
  clear hp
  rintro ⟨v1_0, v1_1⟩ x1 hp hx1
  replace hp := dd hp
  refine kq [0, 1, 6, 7] ?_
  refine s8 ?_
  refine kp [0, 1, 6, 7, 13] ?_
  refine W_cond rfl (fun hc2 => ?_) (fun hc2 => ?_)
  · replace hp := cond_t hc2 hp
    refine s7 ?_
    replace hp := idx_bind hp; obtain ⟨⟨u3_1, u3_2⟩, hy3, hp⟩ := hp
    refine L_idxA (X := a0) rfl rfl rfl el40.h (RdT.old h0) hy3 ?_
    refine L_loadW rfl rfl (RdT.at (RdT.old h0) (hy3).2) (by exact agg30.h) ?_
    refine s1 ?_
    replace hp := ba hp; obtain ⟨y4, hy4, hp⟩ := hp
    refine L_callR rfl fn14.h rfl (by exact fun w hw => s_BlobGet_walk w (u3_1, u3_2) a1 (RdT.now (RdT.pair RdT.int (RdT.snd (RdT.of (RdT.old h0) (hy3).2))) hw) _ hy4) ?_
    rintro _ _ ⟨y4x0, y4x1, rfl, rfl, rfl⟩
    refine sc ?_
    replace hp := dd hp
    refine s12 ?_
    refine kp [0, 1, 6, 7, 8, 9, 26] ?_
    refine W_cond rfl (fun hc5 => ?_) (fun hc5 => ?_)
    · replace hp := cond_t hc5 hp
      refine s6 ?_
      replace hp := map_any hp; obtain ⟨a6, hp, hx_a6⟩ := hp
      obtain rfl := hx1 _ hx_a6
      obtain rfl := Option.some.inj hp
      refine s1 ?_
      refine res2 rfl (ResOK.tmp rfl) (ResOK.tmp rfl) ⟨y4x0, 0, rfl, rfl, rfl⟩ ms
    · replace hp := cond_f hc5 hp
      refine s6 ?_
      refine kp [0, 1, 6, 7, 29] ?_
      refine W_cond rfl (fun hc7 => ?_) (fun hc7 => ?_)
      · replace hp := cond_t hc7 hp
        refine s8 ?_
        exact ⟨(3, IntKind.wrap .i64 (v1_1 + 1)), sb, (.sub ms), some_eq hp⟩
      · replace hp := cond_f hc7 hp
        refine s6 ?_
        exact ⟨(v1_0, IntKind.wrap .i64 (v1_1 + 1)), sb, (.sub ms), some_eq hp⟩
  · replace hp := cond_f hc2 hp
    refine W_exit ?_
    replace hp := map_any hp; obtain ⟨a8, hp, hx_a8⟩ := hp
    obtain rfl := hx1 _ hx_a8
    refine s6 ?_
    obtain rfl := Option.some.inj hp
    refine s1 ?_
    refine res2 rfl (ResOK.tmp rfl) (ResOK.tmp rfl) ⟨ByteArray.empty, v1_0, rfl, rfl, rfl⟩ ms
noncomputable def i_Blobs_at_c1 (a0 : D_Blob) (c0 : ByteArray) : Option Bool :=
  some (decide (a0.1 = c0))
theorem i_Blobs_at_c1_walk (w : World) (a0 : T_Blob) (b0 : Nat) (c0 : ByteArray) (h0 : GT.rd w [] a0) (hb0 : Cells w [] b0 0 (GT.cells c0)) (hc0 : GT.rd w [] c0) (r : Bool) (hp : i_Blobs_at_c1 (GT.dat a0) c0 = some r) : Spec Tryd.prog 101 ([(.agg (GT.cells a0).toArray : Value)] ++ [Value.pointer (some ⟨b0, 0, none⟩)]).toArray w [] (IsV (.bool r)) := by
  obtain ⟨a0_1, a0_2, a0_3⟩ := a0
  change Spec _ _ ([Value.agg #[.string a0_1, .string a0_2, .bool a0_3], Value.pointer (some ⟨b0, 0, none⟩)] : List Value).toArray w [] _
  refine Spec.intro Tryd.func101 rfl Tryd.ntmps101 rfl ?_
  unfold i_Blobs_at_c1 at hp
  replace hp := dd hp
  refine s2 ?_
  refine bx fun bk2 => ?_
  refine s6 ?_
  refine L_load0 rfl rfl (RdC.old hb0) one9.h rfl ?_
  refine s3 ?_
  obtain rfl := Option.some.inj hp
  refine s1 ?_
  refine res1 rfl (ResOK.tmp rfl) ⟨rfl, rfl⟩ ms
noncomputable def sl_IndexFunc_implBlobimplBlob (a0 : List D_Blob) (a1 : D_Blob → Option Bool) : Option Int :=
  whileP (fun s1 : Int => cond (decide (s1 < (a0.length : Int))) (Option.bind (idx a0 s1) (fun y3 => Option.bind (a1 (y3.1, y3.2.1, y3.2.2)) (fun y4 => cond y4 (Option.map .inr (some s1)) (some (.inl (IntKind.wrap .i64 (s1 + 1))))))) (Option.map .inr (some (-1)))) 0
theorem sl_IndexFunc_implBlobimplBlob_walk (w : World) (a0 : TL T_Blob) (f1 : Nat) (cs1 : List Value) (a1 : D_Blob → Option Bool) (h0 : GT.rd w [] a0) (hf1 : IsFn Tryd.prog f1) (hk1 : ∀ (w' : World) (F : List HP) (u0 : T_Blob) (v : Bool), Holds w [] F w' → GT.rd w' [] u0 → a1 (GT.dat u0) = some v → Spec Tryd.prog f1 ([Value.agg (GT.cells u0).toArray] ++ cs1).toArray w' [] (IsV (.bool v))) (r : Int) (hp : sl_IndexFunc_implBlobimplBlob (GT.dat a0) a1 = some r) : Spec Tryd.prog 100 [(TL.hdr a0), .func (.func f1) #[] cs1.toArray].toArray w [] (IsV (.int .i64 r)) := by
  refine Spec.intro Tryd.func100 rfl Tryd.ntmps100 rfl ?_
  unfold sl_IndexFunc_implBlobimplBlob at hp
  replace hp := dd hp
  refine s12 ?_
  refine W_while (σ := Int) GT.dat (fun (v1_0 : Int) => [(8, .int .i64 v1_0)]) (fun (v1_0 : Int) => []) [(0, _), (1, _), (7, _)] [] 0 hp sb ms ?_
  clear hp
  rintro v1_0 x1 hp hx1
  replace hp := dd hp
  refine kq [0, 1, 7, 8] ?_
  refine s5 ?_
  refine kp [0, 1, 7, 8, 9] ?_
  refine W_cond rfl (fun hc2 => ?_) (fun hc2 => ?_)
  · replace hp := cond_t hc2 hp
    refine s13 ?_
    replace hp := idx_bind hp; obtain ⟨⟨u3_1, u3_2, u3_3⟩, hy3, hp⟩ := hp
    refine L_idxA (X := a0) rfl rfl rfl el28.h (RdT.old h0) hy3 ?_
    refine L_loadW rfl rfl (RdT.at (RdT.old h0) (hy3).2) (by exact agg89.h) ?_
    replace hp := ba hp; obtain ⟨y4, hy4, hp⟩ := hp
    refine L_callVX rfl rfl hf1 rfl (by exact fun w hw => hk1 w _ (u3_1, u3_2, u3_3) y4 hw (RdT.now (RdT.pair RdT.str (RdT.pair RdT.str RdT.bool)) hw) hy4) ?_
    refine s1 ?_
    refine kp [0, 1, 5, 7, 8, 16] ?_
    refine W_cond rfl (fun hc5 => ?_) (fun hc5 => ?_)
    · replace hp := cond_t hc5 hp
      refine s5 ?_
      replace hp := map_any hp; obtain ⟨a6, hp, hx_a6⟩ := hp
      obtain rfl := hx1 _ hx_a6
      obtain rfl := Option.some.inj hp
      refine s1 ?_
      refine res1 rfl (ResOK.tmp rfl) ⟨rfl, rfl⟩ ms
    · replace hp := cond_f hc5 hp
      refine s5 ?_
      exact ⟨IntKind.wrap .i64 (v1_0 + 1), sb, (.sub ms), some_eq hp⟩
  · replace hp := cond_f hc2 hp
    refine W_exit ?_
    replace hp := map_any hp; obtain ⟨a7, hp, hx_a7⟩ := hp
    obtain rfl := hx1 _ hx_a7
    refine s4 ?_
    obtain rfl := Option.some.inj hp
    refine s1 ?_
    refine res1 rfl (ResOK.tmp rfl) ⟨rfl, rfl⟩ ms
noncomputable def i_Blobs_at (a0 : D_Blobs) (a1 : ByteArray) : Option Int :=
  Option.bind (sl_IndexFunc_implBlobimplBlob a0.2 (fun z0 => i_Blobs_at_c1 z0 a1)) (fun y1 => some y1)
theorem i_Blobs_at_walk (w : World) (a0 : T_Blobs) (a1 : ByteArray) (h0 : GT.rd w [] a0) (r : Int) (hp : i_Blobs_at (GT.dat a0) a1 = some r) : Spec Tryd.prog 60 [.agg (GT.cells a0).toArray, .string a1].toArray w [] (IsV (.int .i64 r)) := by
  obtain ⟨a0_1, a0_2⟩ := a0
  change Spec _ _ ([Value.agg #[.int .i64 a0_1, (TL.hdr a0_2)], .string a1] : List Value).toArray w [] _
  refine Spec.intro Tryd.func60 rfl Tryd.ntmps60 rfl ?_
  unfold i_Blobs_at at hp
  replace hp := dd hp
  refine s2 ?_
  refine bx fun bk2 => ?_
  refine bx fun bk3 => ?_
  refine s6 ?_
  refine L_makeFunc (fs := []) (cs := [.tmp 3]) rfl rfl rfl ?_
  replace hp := ba hp; obtain ⟨y1, hy1, hp⟩ := hp
  refine L_callX rfl fn100.h rfl (by exact fun w hw => sl_IndexFunc_implBlobimplBlob_walk w a0_2 101 [Value.pointer (some ⟨bk3, 0, none⟩)] (fun z0 => i_Blobs_at_c1 z0 a1) (RdT.now (RdT.old h0.2) hw) fn101.h (fun w' F u0 v hF hu0 hv => i_Blobs_at_c1_walk w' u0 bk3 a1 hu0 ((cells_of_blk mm hw.sees).carry hF) (rd_carry (RdT.now RdT.str hw) hF) v hv) _ hy1) ?_
  refine s2 ?_
  obtain rfl := Option.some.inj hp
  refine s1 ?_
  refine res1 rfl (ResOK.tmp rfl) ⟨rfl, rfl⟩ ms
noncomputable def i_Blobs_used (a0 : D_Blobs) : Option Int :=
  whileP (fun s1 : Int × Int => cond (decide (s1.2 < (a0.2.length : Int))) (Option.bind (idx a0.2 s1.2) (fun y3 => some (.inl ((IntKind.wrap .i64 (s1.1 + (y3.2.1.size : Int)), IntKind.wrap .i64 (s1.2 + 1)))))) (Option.map .inr (some s1.1))) (0, 0)
theorem i_Blobs_used_walk (w : World) (a0 : T_Blobs) (h0 : GT.rd w [] a0) (r : Int) (hp : i_Blobs_used (GT.dat a0) = some r) : Spec Tryd.prog 88 [.agg (GT.cells a0).toArray].toArray w [] (IsV (.int .i64 r)) := by
  obtain ⟨a0_1, a0_2⟩ := a0
  change Spec _ _ ([Value.agg #[.int .i64 a0_1, (TL.hdr a0_2)]] : List Value).toArray w [] _
  refine Spec.intro Tryd.func88 rfl Tryd.ntmps88 rfl ?_
  unfold i_Blobs_used at hp
  replace hp := dd hp
  refine s2 ?_
  refine bx fun bk1 => ?_
  refine s15 ?_
  refine W_while (σ := Int × Int) GT.dat (fun ((v1_0, v1_1) : Int × Int) => [(3, .int .i64 v1_0), (9, .int .i64 v1_1)]) (fun ((v1_0, v1_1) : Int × Int) => []) [(7, _), (8, _)] [] (0, 0) hp sb ms ?_
  clear hp
  rintro ⟨v1_0, v1_1⟩ x1 hp hx1
  replace hp := dd hp
  refine kq [3, 7, 8, 9] ?_
  refine s5 ?_
  refine kp [3, 7, 8, 9, 10] ?_
  refine W_cond rfl (fun hc2 => ?_) (fun hc2 => ?_)
  · replace hp := cond_t hc2 hp
    refine s5 ?_
    replace hp := idx_bind hp; obtain ⟨⟨u3_1, u3_2, u3_3⟩, hy3, hp⟩ := hp
    refine L_idxA (X := a0_2) rfl rfl rfl el28.h (RdT.old h0.2) hy3 ?_
    refine L_loadW rfl rfl (RdT.at (RdT.old h0.2) (hy3).2) (by exact agg89.h) ?_
    refine al fun bk5 => ?_
    refine s14 ?_
    exact ⟨(IntKind.wrap .i64 (v1_0 + (u3_2.size : Int)), IntKind.wrap .i64 (v1_1 + 1)), sb, (.sub ms), some_eq hp⟩
  · replace hp := cond_f hc2 hp
    refine W_exit ?_
    replace hp := map_any hp; obtain ⟨a4, hp, hx_a4⟩ := hp
    obtain rfl := hx1 _ hx_a4
    refine s5 ?_
    obtain rfl := Option.some.inj hp
    refine s1 ?_
    refine res1 rfl (ResOK.tmp rfl) ⟨rfl, rfl⟩ ms
noncomputable def i_BlobsOk (a0 : D_Blobs) : Option Bool :=
  whileP (fun s1 : Int => cond (decide (s1 < (a0.2.length : Int))) (Option.bind (idx a0.2 s1) (fun y3 => gb ((!((decide (40 < (y3.2.1.size : Int))) || (!decide ((y3.1.size : Int) = 8)))) && (!y3.2.2)) (i_Short y3.2.1) (fun y4 => gb ((!(((decide (40 < (y3.2.1.size : Int))) || (!decide ((y3.1.size : Int) = 8))) || ((!y3.2.2) && (!decide (y3.1 = y4))))) && (decide (0 < s1))) (idx a0.2 (IntKind.wrap .i64 (s1 - 1))) (fun y5 => cond ((((decide (40 < (y3.2.1.size : Int))) || (!decide ((y3.1.size : Int) = 8))) || ((!y3.2.2) && (!decide (y3.1 = y4)))) || ((decide (0 < s1)) && (!sLt y5.1 y3.1))) (Option.map .inr (some false)) (some (.inl (IntKind.wrap .i64 (s1 + 1)))))))) (Option.map .inr (Option.bind (i_within a0.1 0 1000) (fun y9 => gb (y9 && (decide ((a0.2.length : Int) ≤ 12))) (i_Blobs_used (a0.1, a0.2)) (fun y10 => some ((y9 && (decide ((a0.2.length : Int) ≤ 12))) && (decide (y10 ≤ a0.1)))))))) 0
theorem i_BlobsOk_walk (w : World) (a0 : T_Blobs) (h0 : GT.rd w [] a0) (hg0 : GT.rd w [] gV0) (r : Bool) (hp : i_BlobsOk (GT.dat a0) = some r) : Spec Tryd.prog 61 [.agg (GT.cells a0).toArray].toArray w [] (IsV (.bool r)) := by
  obtain ⟨a0_1, a0_2⟩ := a0
  change Spec _ _ ([Value.agg #[.int .i64 a0_1, (TL.hdr a0_2)]] : List Value).toArray w [] _
  refine Spec.intro Tryd.func61 rfl Tryd.ntmps61 rfl ?_
  unfold i_BlobsOk at hp
  replace hp := dd hp
  refine s2 ?_
  refine bx fun bk1 => ?_
  refine s11 ?_
  refine W_while (σ := Int) GT.dat (fun (v1_0 : Int) => [(8, .int .i64 v1_0)]) (fun (v1_0 : Int) => []) [(1, _), (6, _), (7, _)] [blk bk1 _ _] 0 hp sb ms ?_
  clear hp
  rintro v1_0 x1 hp hx1
  replace hp := dd hp
  refine kq [1, 6, 7, 8] ?_
  refine s5 ?_
  refine kp [1, 6, 7, 8, 9] ?_
  refine W_cond rfl (fun hc2 => ?_) (fun hc2 => ?_)
  · replace hp := cond_t hc2 hp
    refine s6 ?_
    replace hp := idx_bind hp; obtain ⟨⟨u3_1, u3_2, u3_3⟩, hy3, hp⟩ := hp
    refine L_idxA (X := a0_2) rfl rfl rfl el28.h (RdT.old h0.2) hy3 ?_
    refine L_loadW rfl rfl (RdT.at (RdT.old h0.2) (hy3).2) (by exact agg89.h) ?_
    refine al fun bk4 => ?_
    refine s4 ?_
    replace hp := gb_any hp; obtain ⟨y4, hy4, hp⟩ := hp
    replace hp := idx_gb hp; obtain ⟨⟨u5_1, u5_2, u5_3⟩, hy5, hp⟩ := hp
    refine W_D0 [51] mix (by kernel_rfl) rfl ?_
    refine s2 ?_
    refine D_lenT GC.none (OpV.t rfl) str9.h ?_
    refine s4 ?_
    refine D_lenT (GC.some rfl rfl) (OpV.s rfl) str9.h ?_
    refine s11 ?_
    refine D_callX (GC.some rfl rfl) fn68.h (OpVs.cons (OpV.s rfl) (OpVs.nil)) (by exact fun hg w F hF hM => i_Short_walk w u3_2  (RdT.nowS (RdT.old hg0) hF hM) _ (hy4 (gand (gnot hg.1.2) hg.2))) ?_
    refine s11 ?_
    refine D_idxA (X := a0_2) (GC.some rfl rfl) (OpV.s rfl) (OpV.s rfl) el28.h (RdT.old h0.2) (fun hg => hy5 (gand (gnot hg.1.2) hg.2)) ?_
    refine s1 ?_
    refine D_load (GC.some rfl rfl) (OpV.s rfl) (fun hg => RdT.at (RdT.old h0.2) (hy5 (gand (gnot hg.1.2) hg.2)).2) one9.h rfl ?_
    refine s20 ?_
    refine s20 ?_
    refine s6 ?_
    refine kp [1, 6, 7, 8, 51] ?_
    refine W_cond rfl (fun hc6 => ?_) (fun hc6 => ?_)
    · replace hp := cond_t hc6 hp
      refine s4 ?_
      replace hp := map_any hp; obtain ⟨a7, hp, hx_a7⟩ := hp
      obtain rfl := hx1 _ hx_a7
      obtain rfl := Option.some.inj hp
      refine s1 ?_
      refine res1 rfl (ResOK.tmp rfl) ⟨rfl, rfl⟩ ms
    · replace hp := cond_f hc6 hp
      refine s5 ?_
      exact ⟨IntKind.wrap .i64 (v1_0 + 1), sb, (.sub ms), some_eq hp⟩
  · replace hp := cond_f hc2 hp
    refine W_exit ?_
    replace hp := map_any hp; obtain ⟨a8, hp, hx_a8⟩ := hp
    obtain rfl := hx1 _ hx_a8
    refine s1 ?_
    replace hp := ba hp; obtain ⟨y9, hy9, hp⟩ := hp
    replace hp := gb_any hp; obtain ⟨y10, hy10, hp⟩ := hp
    refine W_D0 [2] mix (by kernel_rfl) rfl ?_
    refine s2 ?_
    refine D_callX GC.none fn102.h (OpVs.cons (OpV.t rfl) (OpVs.cons OpV.c (OpVs.cons OpV.c (OpVs.nil)))) (by exact fun hg w F hF hM => i_within_walk w a0_1 0 1000  _ hy9) ?_
    refine s3 ?_
    refine D_lenP (X := a0_2) (GC.some rfl rfl) (OpV.s rfl) el28.h ?_
    refine s4 ?_
    refine D_callX (GC.some rfl rfl) fn88.h (OpVs.cons (OpV.s rfl) (OpVs.nil)) (by exact fun hg w F hF hM => i_Blobs_used_walk w (a0_1, a0_2) (RdT.nowS (RdT.pair RdT.int (RdT.old h0.2)) hF hM) _ (hy10 hg.2)) ?_
    refine s20 ?_
    refine s4 ?_
    obtain rfl := Option.some.inj hp
    refine s1 ?_
    refine res1 rfl (ResOK.tmp rfl) ⟨rfl, rfl⟩ ms
noncomputable def i_BlobGet (a0 : D_Blobs) (a1 : ByteArray) : Option (ByteArray × Int) :=
  Option.bind (i_Blobs_at (a0.1, a0.2) a1) (fun y1 => Option.bind (i_BlobsOk (a0.1, a0.2)) (fun y2 => cond ((!y2) || (decide (y1 < 0))) (some (ByteArray.empty, 1)) (Option.bind (idx a0.2 y1) (fun y4 => cond y4.2.2 (some (ByteArray.empty, 2)) (Option.bind (idx a0.2 y1) (fun y6 => some (y6.2.1, 0)))))))
theorem i_BlobGet_walk (w : World) (a0 : T_Blobs) (a1 : ByteArray) (h0 : GT.rd w [] a0) (hg0 : GT.rd w [] gV0) (r : ByteArray × Int) (hp : i_BlobGet (GT.dat a0) a1 = some r) : Spec Tryd.prog 16 [.agg (GT.cells a0).toArray, .string a1].toArray w [] (fun v M => ∃ (x0 : ByteArray) (x1 : Int), v = .tuple #[.string x0, .int .i64 x1] ∧ (GT.dat x0, GT.dat x1) = r ∧ M = []) := by
  obtain ⟨a0_1, a0_2⟩ := a0
  change Spec _ _ ([Value.agg #[.int .i64 a0_1, (TL.hdr a0_2)], .string a1] : List Value).toArray w [] _
  refine Spec.intro Tryd.func16 rfl Tryd.ntmps16 rfl ?_
  unfold i_BlobGet at hp
  replace hp := dd hp
  refine s2 ?_
  refine bx fun bk2 => ?_
  refine s7 ?_
  replace hp := ba hp; obtain ⟨y1, hy1, hp⟩ := hp
  refine L_callX rfl fn60.h rfl (by exact fun w hw => i_Blobs_at_walk w (a0_1, a0_2) a1 (RdT.now (RdT.pair RdT.int (RdT.old h0.2)) hw) _ hy1) ?_
  refine s5 ?_
  replace hp := ba hp; obtain ⟨y2, hy2, hp⟩ := hp
  refine W_D0 [10] mix (by kernel_rfl) rfl ?_
  refine s1 ?_
  refine D_callX GC.none fn61.h (OpVs.cons (OpV.t rfl) (OpVs.nil)) (by exact fun hg w F hF hM => i_BlobsOk_walk w (a0_1, a0_2) (RdT.nowS (RdT.pair RdT.int (RdT.old h0.2)) hF hM) (RdT.nowS (RdT.old hg0) hF hM) _ hy2) ?_
  refine s16 ?_
  refine kp [2, 6, 10] ?_
  refine W_cond rfl (fun hc3 => ?_) (fun hc3 => ?_)
  · replace hp := cond_t hc3 hp
    refine s5 ?_
    obtain rfl := Option.some.inj hp
    refine s1 ?_
    refine res2 rfl (ResOK.tmp rfl) (ResOK.tmp rfl) ⟨ByteArray.empty, 1, rfl, rfl, rfl⟩ ms
  · replace hp := cond_f hc3 hp
    refine s5 ?_
    replace hp := idx_bind hp; obtain ⟨⟨u4_1, u4_2, u4_3⟩, hy4, hp⟩ := hp
    refine L_idxA (X := a0_2) rfl rfl rfl el28.h (RdT.old h0.2) hy4 ?_
    refine s1 ?_
    refine L_load rfl rfl (RdT.at (RdT.old h0.2) (hy4).2) one4.h rfl ?_
    refine s2 ?_
    refine kp [2, 6, 18] ?_
    refine W_cond rfl (fun hc5 => ?_) (fun hc5 => ?_)
    · replace hp := cond_t hc5 hp
      refine s5 ?_
      obtain rfl := Option.some.inj hp
      refine s1 ?_
      refine res2 rfl (ResOK.tmp rfl) (ResOK.tmp rfl) ⟨ByteArray.empty, 2, rfl, rfl, rfl⟩ ms
    · replace hp := cond_f hc5 hp
      refine s6 ?_
      replace hp := idx_bind hp; obtain ⟨u6, hy6, hp⟩ := hp
      obtain rfl : (u4_1, u4_2, u4_3) = u6 := Option.some.inj (hy4.2.symm.trans hy6.2)
      refine L_idxA (X := a0_2) rfl rfl rfl el28.h (RdT.old h0.2) hy4 ?_
      refine s1 ?_
      refine L_load rfl rfl (RdT.at (RdT.old h0.2) (hy4).2) one9.h rfl ?_
      refine s3 ?_
      obtain rfl := Option.some.inj hp
      refine s1 ?_
      refine res2 rfl (ResOK.tmp rfl) (ResOK.tmp rfl) ⟨u4_2, 0, rfl, rfl, rfl⟩ ms
noncomputable def i_Fetch (a0 : List D_Blobs) (a1 : ByteArray) : Option (ByteArray × Int) :=
  whileP (fun s1 : Int × Int => cond (decide (s1.2 < (a0.length : Int))) (Option.bind (idx a0 s1.2) (fun y3 => Option.bind (i_BlobGet (y3.1, y3.2) a1) (fun y4 => cond (decide (y4.2 = 0)) (Option.map .inr (some (y4.1, 0))) (cond (decide (y4.2 = 2)) (some (.inl ((3, IntKind.wrap .i64 (s1.2 + 1))))) (some (.inl ((s1.1, IntKind.wrap .i64 (s1.2 + 1))))))))) (Option.map .inr (some (ByteArray.empty, s1.1)))) (2, 0)
theorem i_Fetch_walk (w : World) (a0 : TL T_Blobs) (a1 : ByteArray) (h0 : GT.rd w [] a0) (hg0 : GT.rd w [] gV0) (r : ByteArray × Int) (hp : i_Fetch (GT.dat a0) a1 = some r) : Spec Tryd.prog 27 [(TL.hdr a0), .string a1].toArray w [] (fun v M => ∃ (x0 : ByteArray) (x1 : Int), v = .tuple #[.string x0, .int .i64 x1] ∧ (GT.dat x0, GT.dat x1) = r ∧ M = []) := by
  refine Spec.intro Tryd.func27 rfl Tryd.ntmps27 rfl ?_
  unfold i_Fetch at hp
  replace hp := dd hp
  refine s17 ?_
  refine W_while (σ := Int × Int) GT.dat (fun ((v1_0, v1_1) : Int × Int) => [(6, .int .i64 v1_0), (13, .int .i64 v1_1)]) (fun ((v1_0, v1_1) : Int × Int) => []) [(1, _), (11, _), (12, _)] [] (2, 0) hp sb ms ?_
  clear hp
  rintro ⟨v1_0, v1_1⟩ x1 hp hx1
  replace hp := dd hp
  refine kq [1, 6, 11, 12, 13] ?_
  refine s5 ?_
  refine kp [1, 6, 11, 12, 13, 14] ?_
  refine W_cond rfl (fun hc2 => ?_) (fun hc2 => ?_)
  · replace hp := cond_t hc2 hp
    refine s5 ?_
    replace hp := idx_bind hp; obtain ⟨⟨u3_1, u3_2⟩, hy3, hp⟩ := hp
    refine L_idxA (X := a0) rfl rfl rfl el40.h (RdT.old h0) hy3 ?_
    refine L_loadW rfl rfl (RdT.at (RdT.old h0) (hy3).2) (by exact agg30.h) ?_
    refine al fun bk8 => ?_
    refine s6 ?_
    replace hp := ba hp; obtain ⟨y4, hy4, hp⟩ := hp
    refine L_callR rfl fn16.h rfl (by exact fun w hw => i_BlobGet_walk w (u3_1, u3_2) a1 (RdT.now (RdT.pair RdT.int (RdT.snd (RdT.of (RdT.old h0) (hy3).2))) hw) (RdT.now (RdT.old hg0) hw) _ hy4) ?_
    rintro _ _ ⟨y4x0, y4x1, rfl, rfl, rfl⟩
    refine sc ?_
    replace hp := dd hp
    refine s16 ?_
    refine kp [1, 6, 9, 11, 12, 13, 23, 24] ?_
    refine W_cond rfl (fun hc5 => ?_) (fun hc5 => ?_)
    · replace hp := cond_t hc5 hp
      refine s6 ?_
      replace hp := map_any hp; obtain ⟨a6, hp, hx_a6⟩ := hp
      obtain rfl := hx1 _ hx_a6
      obtain rfl := Option.some.inj hp
      refine s1 ?_
      refine res2 rfl (ResOK.tmp rfl) (ResOK.tmp rfl) ⟨y4x0, 0, rfl, rfl, rfl⟩ ms
    · replace hp := cond_f hc5 hp
      refine s5 ?_
      refine kp [1, 6, 11, 12, 13, 27] ?_
      refine W_cond rfl (fun hc7 => ?_) (fun hc7 => ?_)
      · replace hp := cond_t hc7 hp
        refine s7 ?_
        exact ⟨(3, IntKind.wrap .i64 (v1_1 + 1)), sb, (.sub ms), some_eq hp⟩
      · replace hp := cond_f hc7 hp
        refine s5 ?_
        exact ⟨(v1_0, IntKind.wrap .i64 (v1_1 + 1)), sb, (.sub ms), some_eq hp⟩
  · replace hp := cond_f hc2 hp
    refine W_exit ?_
    replace hp := map_any hp; obtain ⟨a8, hp, hx_a8⟩ := hp
    obtain rfl := hx1 _ hx_a8
    refine s6 ?_
    obtain rfl := Option.some.inj hp
    refine s1 ?_
    refine res2 rfl (ResOK.tmp rfl) (ResOK.tmp rfl) ⟨ByteArray.empty, v1_0, rfl, rfl, rfl⟩ ms
end Go.Proofs.SL
namespace Go.Proofs.SL
open Go
set_option maxHeartbeats 2000000
end Go.Proofs.SL
namespace Go.Proofs.SL
open Go
set_option maxHeartbeats 2000000
instance fn64 : FnF Tryd.prog 64 := ⟨⟨_, Tryd.func64, by kernel_rfl, rfl⟩⟩
end Go.Proofs.SL
namespace Go.Proofs
open Go.Shelf
end Go.Proofs
namespace Go.Proofs.SL
open Go
section
variable {τ : Type} [Inhabited τ] [GT τ τ]
variable [FlatT τ]
end
end Go.Proofs.SL
namespace Go.Proofs.SL
open Go
theorem l1In_eq (x a b : Int) : s_l1In x a b = some (decide (a ≤ x ∧ x ≤ b)) := by
  unfold s_l1In; rw [Bool.decide_and]
theorem within_eq (x a b : Int) : i_within x a b = some (decide (a ≤ x ∧ x ≤ b)) := by
  unfold i_within; rw [Bool.decide_and]
theorem firstI_some {α : Type} {p : α → Bool} {xs : List α} {k : Nat} (h : xs.findIdx? p = some k) : firstI p xs = (k : Int) := by unfold firstI; rw [h]
theorem firstI_none {α : Type} {p : α → Bool} {xs : List α} (h : xs.findIdx? p = none) : firstI p xs = -1 := by unfold firstI; rw [h]
theorem gbs {α β : Type} [Inhabited α] (g : Bool) (a : α) (k : α → Option β) : gb g (some a) k = if g then k a else k default := by cases g <;> rfl
theorem prev_idx' {δ : Type} {l : List δ} {k : Nat} (hk : k < l.length) (hl : l.length ≤ 9223372036854775807) (h0 : 0 < k) : ∃ r, l[k - 1]? = some r ∧ idx l (IntKind.wrap .i64 ((k : Int) - 1)) = some r := by
  refine ⟨l[k - 1], List.getElem?_eq_getElem (by omega), ?_⟩
  rw [wrap64_in (by unfold inR; omega), show ((k : Int) - 1) = ((k - 1 : Nat) : Int) by omega, idx_nat]
  exact List.getElem?_eq_getElem (by omega)
theorem gb_none {α β : Type} [Inhabited α] (g : Bool) (o : Option α) (k : α → Option β) (h : g = false) : gb g o k = k default := by subst h; rfl
theorem sidx_lt {s : ByteArray} {k : Nat} (h : k < s.size) : ∃ n, sidx s (k : Int) = some n ∧ 0 ≤ n ∧ n < 256 := by
  refine ⟨((s[k]'h).toNat : Int), ?_, by omega, by have := (s[k]'h).toNat_lt; omega⟩
  unfold sidx
  rw [dif_pos ⟨by omega, by simpa using h⟩]
  simp
/-- A check of each element. -/
theorem each_loop {β γ : Type} {l : List γ} {p : γ → Bool} {no yes : Option β} {f : Int → Option (Int ⊕ β)} (hl : l.length ≤ 9223372036854775807)
    (hf : ∀ (k : Nat) (x : γ), l[k]? = some x → f (k : Int) = if p x then some (.inl (IntKind.wrap .i64 ((k : Int) + 1))) else no.map .inr) (hn : f (l.length : Int) = yes.map .inr) :
    whileP f 0 = if l.all p then yes else no := by
  rw [whileP_all (n := l.length) (fun k => (l[k]?).all p) no yes ?_ hn, all_range_get]
  intro k hk
  rw [hf k l[k] (List.getElem?_eq_getElem hk), List.getElem?_eq_getElem hk, wrap_succ (by omega)]
  rfl
end Go.Proofs.SL
namespace Go.Proofs.SL
open Go
theorem bl_irrefl : ∀ l : List UInt8, Op.bytesLess l l = false
  | [] => rfl
  | a :: l => by simp [Op.bytesLess, bl_irrefl l]
theorem bl_trans : ∀ {a b c : List UInt8}, Op.bytesLess a b = true → Op.bytesLess b c = true → Op.bytesLess a c = true
  | _, _, [], h1, h2 => by
    rename_i b
    cases b <;> simp [Op.bytesLess] at h2
  | [], b, c :: cs1, h1, h2 => by simp [Op.bytesLess]
  | a :: as1, [], c :: cs1, h1, h2 => by simp [Op.bytesLess] at h1
  | a :: as1, b :: bs1, c :: cs1, h1, h2 => by
    simp only [Op.bytesLess, Bool.or_eq_true, decide_eq_true_eq, Bool.and_eq_true, beq_iff_eq] at h1 h2 ⊢
    rcases h1 with h1 | ⟨rfl, h1⟩
    · rcases h2 with h2 | ⟨rfl, h2⟩
      · exact .inl (UInt8.lt_trans h1 h2)
      · exact .inl h1
    · rcases h2 with h2 | ⟨rfl, h2⟩
      · exact .inl h2
      · exact .inr ⟨rfl, bl_trans h1 h2⟩
theorem sLt_irrefl (a : ByteArray) : sLt a a = false := bl_irrefl _
theorem sLt_trans {a b c : ByteArray} (h1 : sLt a b = true) (h2 : sLt b c = true) : sLt a c = true := bl_trans h1 h2
theorem toList_inj {a b : ByteArray} (h : a.toList = b.toList) : a = b := by
  rw [ByteArray.toList_eq, ByteArray.toList_eq] at h
  cases a; cases b
  congr 1
  exact Array.toList_inj.1 h
theorem sLt_ne {a b : ByteArray} (h : sLt a b = true) : a ≠ b := by
  intro e; subst e; rw [sLt_irrefl] at h; cases h
theorem pairwise_of_step {α : Type} {R : α → α → Prop} (tr : ∀ a b c, R a b → R b c → R a c) : ∀ (l : List α), (∀ k (h : k + 1 < l.length), R l[k] l[k + 1]) → l.Pairwise R
  | [], _ => List.Pairwise.nil
  | [a], _ => List.pairwise_singleton _ _
  | a :: b :: l, h => by
    have ih := pairwise_of_step tr (b :: l) (fun k hk => h (k + 1) (by simp at hk ⊢; omega))
    refine List.pairwise_cons.2 ⟨fun x hx => ?_, ih⟩
    have h0 : R a b := h 0 (by simp)
    rcases List.mem_cons.1 hx with rfl | hx
    · exact h0
    · exact tr _ _ _ h0 (List.rel_of_pairwise_cons ih hx)
end Go.Proofs.SL
namespace Go.Proofs.SL
open Go
end Go.Proofs.SL
namespace Go.Proofs.SL
open Go Go.Shelf Go.RowKit Go.Lib Go.Sort
end Go.Proofs.SL
namespace Go.Proofs.SL
open Go
set_option maxHeartbeats 2000000
instance bld89 : BldF Tryd.prog 89 [(0, 1), (1, 1), (2, 1)] [.string ByteArray.empty, .string ByteArray.empty, .bool false] := ⟨by kernel_rfl⟩
instance fn69 : FnF Tryd.prog 69 := ⟨⟨_, Tryd.func69, by kernel_rfl, rfl⟩⟩
noncomputable def s_BlobPut (a0 : D_Blobs) (a1 : ByteArray) : Option (D_Blobs × ByteArray × Int) :=
  Option.bind (s_BlobsOk (a0.1, a0.2)) (fun y1 => cond (!y1) (some ((0, ([] : List D_Blob)), ByteArray.empty, 1)) (cond (decide (40 < (a1.size : Int))) (Option.bind (s_l7Copy (a0.1, a0.2)) (fun y4 => some ((y4.1, y4.2), ByteArray.empty, 1))) (Option.bind (s_Short a1) (fun y5 => Option.bind (s_l7At (a0.1, a0.2) y5) (fun y6 => gb (decide (0 ≤ y6)) (idx a0.2 y6) (fun y7 => cond ((decide (0 ≤ y6)) && (!y7.2.2)) (Option.bind (s_l7Copy (a0.1, a0.2)) (fun y9 => some ((y9.1, y9.2), y5, 0))) (whileP (fun s10 : Bool × Int × (List D_Blob) => cond (decide (s10.2.1 < (a0.2.length : Int))) (jbind (gb (!s10.1) (idx a0.2 s10.2.1) (fun y13 => cond ((!s10.1) && (!sLt y13.1 y5)) (Option.bind (appP s10.2.2 [(y5, a1, false)]) (fun y16 => some (.inl ((true, y16))))) (some (.inl ((s10.1, s10.2.2)))))) (fun s12 : Bool × (List D_Blob) => Option.bind (idx a0.2 s10.2.1) (fun y17 => cond (!decide (y17.1 = y5)) (Option.bind (idx a0.2 s10.2.1) (fun y19 => Option.bind (appP s12.2 [(y19.1, y19.2.1, y19.2.2)]) (fun y21 => some (.inl ((s12.1, IntKind.wrap .i64 (s10.2.1 + 1), y21)))))) (some (.inl ((s12.1, IntKind.wrap .i64 (s10.2.1 + 1), s12.2))))))) (Option.map .inr (cond (!s10.1) (Option.bind (appP s10.2.2 [(y5, a1, false)]) (fun y25 => Option.bind (s_BlobsOk (a0.1, y25)) (fun y26 => cond (!y26) (Option.bind (s_l7Copy (a0.1, a0.2)) (fun y28 => some ((y28.1, y28.2), ByteArray.empty, 2))) (some ((a0.1, y25), y5, 0))))) (Option.bind (s_BlobsOk (a0.1, s10.2.2)) (fun y29 => cond (!y29) (Option.bind (s_l7Copy (a0.1, a0.2)) (fun y31 => some ((y31.1, y31.2), ByteArray.empty, 2))) (some ((a0.1, s10.2.2), y5, 0))))))) (false, 0, ([] : List D_Blob)))))))))
theorem s_BlobPut_walk (w : World) (a0 : T_Blobs) (a1 : ByteArray) (h0 : GT.rd w [] a0) (r : D_Blobs × ByteArray × Int) (hp : s_BlobPut (GT.dat a0) a1 = some r) : Spec Tryd.prog 29 [.agg (GT.cells a0).toArray, .string a1].toArray w [] (fun v M => ∃ (x0 : T_Blobs) (x1 : ByteArray) (x2 : Int), v = .tuple #[.agg (GT.cells x0).toArray, .string x1, .int .i64 x2] ∧ (GT.dat x0, GT.dat x1, GT.dat x2) = r ∧ M = [treeH x0]) := by
  obtain ⟨a0_1, a0_2⟩ := a0
  change Spec _ _ ([Value.agg #[.int .i64 a0_1, (TL.hdr a0_2)], .string a1] : List Value).toArray w [] _
  refine Spec.intro Tryd.func29 rfl Tryd.ntmps29 rfl ?_
  unfold s_BlobPut at hp
  replace hp := dd hp
  refine s2 ?_
  refine bx fun bk2 => ?_
  refine al fun bk4 => ?_
  refine s7 ?_
  replace hp := ba hp; obtain ⟨y1, hy1, hp⟩ := hp
  refine L_callX rfl fn40.h rfl (by exact fun w hw => s_BlobsOk_walk w (a0_1, a0_2) (RdT.now (RdT.pair RdT.int (RdT.old h0.2)) hw) _ hy1) ?_
  refine s2 ?_
  refine kp [1, 2, 4, 14] ?_
  refine W_cond rfl (fun hc2 => ?_) (fun hc2 => ?_)
  · replace hp := cond_t hc2 hp
    refine s2 ?_
    refine L_build (xs := []) (cs := [.int .i64 0, (TL.hdr (TL.nil T_Blob 0))]) rfl rfl bld30.h rfl ?_
    refine s4 ?_
    obtain rfl := Option.some.inj hp
    refine W_conv (M' := treeH (TL.nil T_Blob 0) :: _) (fun w h => addNilT (τ := T_Blob) 0 h) ?_
    refine jW ((0, (TL.nil T_Blob 0)) : T_Blobs) ?_
    refine s1 ?_
    refine res3 rfl (ResOK.cell rfl mm (by exact agg30.h)) (ResOK.tmp rfl) (ResOK.tmp rfl) ⟨(0, (TL.nil T_Blob 0)), ByteArray.empty, 1, rfl, rfl, rfl⟩ ms
  · replace hp := cond_f hc2 hp
    refine s8 ?_
    refine kp [1, 2, 4, 18] ?_
    refine W_cond rfl (fun hc3 => ?_) (fun hc3 => ?_)
    · replace hp := cond_t hc3 hp
      refine s3 ?_
      replace hp := ba hp; obtain ⟨y4, hy4, hp⟩ := hp
      refine L_callR rfl fn67.h rfl (by exact fun w hw => s_l7Copy_walk w (a0_1, a0_2) (RdT.now (RdT.pair RdT.int (RdT.old h0.2)) hw) _ hy4) ?_
      rintro _ _ ⟨⟨y4x0_1, y4x0_2⟩, rfl, rfl, rfl⟩
      refine sc ?_
      replace hp := dd hp
      refine xL ((y4x0_1, y4x0_2) : T_Blobs) ?_
      refine s4 ?_
      obtain rfl := Option.some.inj hp
      refine jW ((y4x0_1, y4x0_2) : T_Blobs) ?_
      refine s1 ?_
      refine res3 rfl (ResOK.cell rfl mm (by exact agg30.h)) (ResOK.tmp rfl) (ResOK.tmp rfl) ⟨(y4x0_1, y4x0_2), ByteArray.empty, 1, rfl, rfl, rfl⟩ ms
    · replace hp := cond_f hc3 hp
      refine s4 ?_
      replace hp := ba hp; obtain ⟨y5, hy5, hp⟩ := hp
      refine L_callX rfl fn42.h rfl (by exact fun w hw => s_Short_walk w a1  _ hy5) ?_
      refine s6 ?_
      replace hp := ba hp; obtain ⟨y6, hy6, hp⟩ := hp
      refine L_callX rfl fn58.h rfl (by exact fun w hw => s_l7At_walk w (a0_1, a0_2) y5 (RdT.now (RdT.pair RdT.int (RdT.old h0.2)) hw) _ hy6) ?_
      refine s4 ?_
      replace hp := idx_gb hp; obtain ⟨⟨u7_1, u7_2, u7_3⟩, hy7, hp⟩ := hp
      refine W_D0 [36] mix (by kernel_rfl) rfl ?_
      refine s6 ?_
      refine D_idxA (X := a0_2) (GC.some rfl rfl) (OpV.s rfl) (OpV.s rfl) el28.h (RdT.old h0.2) (fun hg => hy7 hg.2) ?_
      refine s1 ?_
      refine D_load (GC.some rfl rfl) (OpV.s rfl) (fun hg => RdT.at (RdT.old h0.2) (hy7 hg.2).2) one4.h rfl ?_
      refine s15 ?_
      refine kp [1, 2, 4, 7, 36] ?_
      refine W_cond rfl (fun hc8 => ?_) (fun hc8 => ?_)
      · replace hp := cond_t hc8 hp
        refine s3 ?_
        replace hp := ba hp; obtain ⟨y9, hy9, hp⟩ := hp
        refine L_callR rfl fn67.h rfl (by exact fun w hw => s_l7Copy_walk w (a0_1, a0_2) (RdT.now (RdT.pair RdT.int (RdT.old h0.2)) hw) _ hy9) ?_
        rintro _ _ ⟨⟨y9x0_1, y9x0_2⟩, rfl, rfl, rfl⟩
        refine sc ?_
        replace hp := dd hp
        refine xL ((y9x0_1, y9x0_2) : T_Blobs) ?_
        refine s5 ?_
        obtain rfl := Option.some.inj hp
        refine jW ((y9x0_1, y9x0_2) : T_Blobs) ?_
        refine s1 ?_
        refine res3 rfl (ResOK.cell rfl mm (by exact agg30.h)) (ResOK.tmp rfl) (ResOK.tmp rfl) ⟨(y9x0_1, y9x0_2), y5, 0, rfl, rfl, rfl⟩ ms
      · replace hp := cond_f hc8 hp
        refine s5 ?_
        refine L_build (xs := [(0, .tmp 41)]) (cs := [.int .i64 a0_1, (TL.hdr (TL.nil T_Blob 0))]) rfl rfl bld30.h rfl ?_
        refine al fun bk9 => ?_
        refine s12 ?_
        refine W_conv (M' := treeH (TL.nil T_Blob 0) :: _) (fun w h => addNilT (τ := T_Blob) 0 h) ?_
        refine W_while (σ := Bool × Int × (TL T_Blob)) GT.dat (fun ((v10_0, v10_1, v10_2) : Bool × Int × (TL T_Blob)) => [(10, .bool v10_0), (11, .int .i64 v10_1)]) (fun ((v10_0, v10_1, v10_2) : Bool × Int × (TL T_Blob)) => [blk bk9 [.int .i64 a0_1, (TL.hdr v10_2)] 30, treeH v10_2]) [(1, _), (2, _), (4, _), (7, _), (9, _)] [blk bk2 _ _, blk bk4 _ _] (false, 0, (TL.nil T_Blob 0)) hp sb ms ?_
        clear hp
        rintro ⟨v10_0, v10_1, v10_2⟩ x10 hp hx10
        replace hp := dd hp
        refine kq [1, 2, 4, 7, 9, 10, 11] ?_
        refine s9 ?_
        refine kp [1, 2, 4, 7, 9, 10, 11, 47] ?_
        refine W_cond rfl (fun hc11 => ?_) (fun hc11 => ?_)
        · replace hp := cond_t hc11 hp
          refine s3 ?_
          refine W_jn (σ := Bool × (TL T_Blob)) GT.dat (fun ((v12_0, v12_1) : Bool × (TL T_Blob)) => [(10, .bool v12_0)]) (fun ((v12_0, v12_1) : Bool × (TL T_Blob)) => [blk bk9 [.int .i64 a0_1, (TL.hdr v12_1)] 30, treeH v12_1]) [(1, .string a1), (2, .pointer (some ⟨bk2, 0, none⟩)), (4, .pointer (some ⟨bk4, 0, none⟩)), (7, .string y5), (9, .pointer (some ⟨bk9, 0, none⟩)), (11, .int .i64 v10_1)] [blk bk2 [.int .i64 a0_1, (TL.hdr a0_2)] 30, blk bk4 [.int .i64 0, (TL.hdr (TL.nil T_Blob 0))] 30] hp ?_ ?_
          · clear hp
            intro x12 hp hx12
            refine s1 ?_
            replace hp := idx_gb hp; obtain ⟨⟨u13_1, u13_2, u13_3⟩, hy13, hp⟩ := hp
            refine W_D0 [61] mix (by kernel_rfl) rfl ?_
            refine s6 ?_
            refine D_idxA (X := a0_2) (GC.some rfl rfl) (OpV.s rfl) (OpV.s rfl) el28.h (RdT.old h0.2) (fun hg => hy13 hg.2) ?_
            refine s1 ?_
            refine D_load (GC.some rfl rfl) (OpV.s rfl) (fun hg => RdT.at (RdT.old h0.2) (hy13 hg.2).2) one9.h rfl ?_
            refine s17 ?_
            refine kp [1, 2, 4, 7, 9, 10, 11, 61] ?_
            refine W_cond rfl (fun hc14 => ?_) (fun hc14 => ?_)
            · replace hp := cond_t hc14 hp
              refine s6 ?_
              refine L_build (xs := [(0, .tmp 64), (1, .tmp 65)]) (cs := [.string y5, .string a1, .bool false]) rfl rfl bld89.h rfl ?_
              refine L_buildSlice1 rfl rfl el28.h rfl (by decide) (by decide) rfl (fun bb67 => ?_)
              replace hp := ba hp; obtain ⟨y16, hy16, hp⟩ := hp
              refine L_app1F (X := v10_2) ((y5, a1, false) : T_Blob) rfl rfl rfl el28.h rfl rfl pk mm  hy16 (by decide) (fun X15 hdX15 => ?_)
              subst hdX15
              refine s6 ?_
              exact ⟨(true, X15), sb, (.sub ms), some_eq hp⟩
            · replace hp := cond_f hc14 hp
              refine s1 ?_
              exact ⟨(v10_0, v10_2), sb, (.sub ms), some_eq hp⟩
          · clear hp
            rintro ⟨v12_0, v12_1⟩ hp
            replace hp := dd hp
            refine kq [1, 2, 4, 7, 9, 10, 11] ?_
            refine s5 ?_
            replace hp := idx_bind hp; obtain ⟨⟨u17_1, u17_2, u17_3⟩, hy17, hp⟩ := hp
            refine L_idxA (X := a0_2) rfl rfl rfl el28.h (RdT.old h0.2) hy17 ?_
            refine s1 ?_
            refine L_load rfl rfl (RdT.at (RdT.old h0.2) (hy17).2) one9.h rfl ?_
            refine s3 ?_
            refine kp [1, 2, 4, 7, 9, 10, 11, 77] ?_
            refine W_cond rfl (fun hc18 => ?_) (fun hc18 => ?_)
            · replace hp := cond_t hc18 hp
              replace hp := idx_bind hp; obtain ⟨u19, hy19, hp⟩ := hp
              obtain rfl : (u17_1, u17_2, u17_3) = u19 := Option.some.inj (hy17.2.symm.trans hy19.2)
              refine W_DS (pre := [_, _, _, _, _, _, _, _]) (suf := [_, _, _]) [79, 85] [] _ pc mix (by kernel_rfl) (by kernel_rfl) rfl ?_
              refine s5 ?_
              refine D_idxA (X := a0_2) GC.none (OpV.t rfl) (OpV.t rfl) el28.h (RdT.old h0.2) (fun _ => hy17) ?_
              refine D_loadW GC.none (OpV.t rfl) (fun hg => RdT.at (RdT.old h0.2) (hy17).2) (by exact agg89.h) ?_
              refine D_bs1 (OpV.t rfl) el28.h rfl (by decide) (by decide) rfl ?_
              refine s1 ?_
              refine Give_R rfl rfl ?_
              rintro _ _ ⟨bb85, rfl, rfl⟩
              simp only [List.cons_append, List.nil_append]
              refine s8 ?_
              replace hp := ba hp; obtain ⟨y21, hy21, hp⟩ := hp
              refine L_app1F (X := v12_1) ((u17_1, u17_2, u17_3) : T_Blob) rfl rfl rfl el28.h rfl rfl pk mm  hy21 (by decide) (fun X20 hdX20 => ?_)
              subst hdX20
              refine s8 ?_
              exact ⟨(v12_0, IntKind.wrap .i64 (v10_1 + 1), X20), sb, (.sub ms), some_eq hp⟩
            · replace hp := cond_f hc18 hp
              refine s6 ?_
              exact ⟨(v12_0, IntKind.wrap .i64 (v10_1 + 1), v12_1), sb, (.sub ms), some_eq hp⟩
        · replace hp := cond_f hc11 hp
          refine W_exit ?_
          replace hp := map_any hp; obtain ⟨a22, hp, hx_a22⟩ := hp
          obtain rfl := hx10 _ hx_a22
          refine s6 ?_
          refine kp [1, 2, 4, 7, 9, 89] ?_
          refine W_cond rfl (fun hc23 => ?_) (fun hc23 => ?_)
          · replace hp := cond_t hc23 hp
            refine s5 ?_
            refine L_build (xs := [(0, .tmp 92), (1, .tmp 93)]) (cs := [.string y5, .string a1, .bool false]) rfl rfl bld89.h rfl ?_
            refine L_buildSlice1 rfl rfl el28.h rfl (by decide) (by decide) rfl (fun bb95 => ?_)
            replace hp := ba hp; obtain ⟨y25, hy25, hp⟩ := hp
            refine L_app1F (X := v10_2) ((y5, a1, false) : T_Blob) rfl rfl rfl el28.h rfl rfl pk mm  hy25 (by decide) (fun X24 hdX24 => ?_)
            subst hdX24
            refine s7 ?_
            replace hp := ba hp; obtain ⟨y26, hy26, hp⟩ := hp
            refine L_callX rfl fn40.h rfl (by exact fun w hw => s_BlobsOk_walk w (a0_1, X24) (RdT.now (RdT.pair RdT.int (RdT.tree mm)) hw) _ hy26) ?_
            refine s2 ?_
            refine kp [2, 4, 7, 9, 100] ?_
            refine W_cond rfl (fun hc27 => ?_) (fun hc27 => ?_)
            · replace hp := cond_t hc27 hp
              refine s3 ?_
              replace hp := ba hp; obtain ⟨y28, hy28, hp⟩ := hp
              refine L_callR rfl fn67.h rfl (by exact fun w hw => s_l7Copy_walk w (a0_1, a0_2) (RdT.now (RdT.pair RdT.int (RdT.old h0.2)) hw) _ hy28) ?_
              rintro _ _ ⟨⟨y28x0_1, y28x0_2⟩, rfl, rfl, rfl⟩
              refine sc ?_
              replace hp := dd hp
              refine xL ((y28x0_1, y28x0_2) : T_Blobs) ?_
              refine s4 ?_
              obtain rfl := Option.some.inj hp
              refine jW ((y28x0_1, y28x0_2) : T_Blobs) ?_
              refine s1 ?_
              refine res3 rfl (ResOK.cell rfl mm (by exact agg30.h)) (ResOK.tmp rfl) (ResOK.tmp rfl) ⟨(y28x0_1, y28x0_2), ByteArray.empty, 2, rfl, rfl, rfl⟩ ms
            · replace hp := cond_f hc27 hp
              refine s9 ?_
              obtain rfl := Option.some.inj hp
              refine jW ((a0_1, X24) : T_Blobs) ?_
              refine s1 ?_
              refine res3 rfl (ResOK.cell rfl mm (by exact agg30.h)) (ResOK.tmp rfl) (ResOK.tmp rfl) ⟨(a0_1, X24), y5, 0, rfl, rfl, rfl⟩ ms
          · replace hp := cond_f hc23 hp
            refine s5 ?_
            replace hp := ba hp; obtain ⟨y29, hy29, hp⟩ := hp
            refine L_callX rfl fn40.h rfl (by exact fun w hw => s_BlobsOk_walk w (a0_1, v10_2) (RdT.now (RdT.pair RdT.int (RdT.tree mm)) hw) _ hy29) ?_
            refine s2 ?_
            refine kp [2, 4, 7, 9, 100] ?_
            refine W_cond rfl (fun hc30 => ?_) (fun hc30 => ?_)
            · replace hp := cond_t hc30 hp
              refine s3 ?_
              replace hp := ba hp; obtain ⟨y31, hy31, hp⟩ := hp
              refine L_callR rfl fn67.h rfl (by exact fun w hw => s_l7Copy_walk w (a0_1, a0_2) (RdT.now (RdT.pair RdT.int (RdT.old h0.2)) hw) _ hy31) ?_
              rintro _ _ ⟨⟨y31x0_1, y31x0_2⟩, rfl, rfl, rfl⟩
              refine sc ?_
              replace hp := dd hp
              refine xL ((y31x0_1, y31x0_2) : T_Blobs) ?_
              refine s4 ?_
              obtain rfl := Option.some.inj hp
              refine jW ((y31x0_1, y31x0_2) : T_Blobs) ?_
              refine s1 ?_
              refine res3 rfl (ResOK.cell rfl mm (by exact agg30.h)) (ResOK.tmp rfl) (ResOK.tmp rfl) ⟨(y31x0_1, y31x0_2), ByteArray.empty, 2, rfl, rfl, rfl⟩ ms
            · replace hp := cond_f hc30 hp
              refine s9 ?_
              obtain rfl := Option.some.inj hp
              refine jW ((a0_1, v10_2) : T_Blobs) ?_
              refine s1 ?_
              refine res3 rfl (ResOK.cell rfl mm (by exact agg30.h)) (ResOK.tmp rfl) (ResOK.tmp rfl) ⟨(a0_1, v10_2), y5, 0, rfl, rfl, rfl⟩ ms
end Go.Proofs.SL
namespace Go.Proofs.SL
open Go
set_option maxHeartbeats 2000000
abbrev T_l1Cur := (TL UInt8) × Int × Int
abbrev D_l1Cur := (List UInt8) × Int × Int
instance el73 : ElF Tryd.prog 73 9 1 16 [.string ByteArray.empty] := ⟨by kernel_rfl⟩
instance bld141 : BldF Tryd.prog 141 [(0, 1), (1, 1), (2, 1)] [.slice none 0 0, .int .i64 0, .int .i64 0] := ⟨by kernel_rfl⟩
instance fld141_2 : FldF Tryd.prog 141 2 2 := ⟨by kernel_rfl⟩
instance fld141_1 : FldF Tryd.prog 141 1 1 := ⟨by kernel_rfl⟩
instance fld141_0 : FldF Tryd.prog 141 0 0 := ⟨by kernel_rfl⟩
instance one59 : OneF Tryd.prog 59 := ⟨by kernel_rfl⟩
instance fn119 : FnF Tryd.prog 119 := ⟨⟨_, Tryd.func119, by kernel_rfl, rfl⟩⟩
instance fn84 : FnF Tryd.prog 84 := ⟨⟨_, Tryd.func84, by kernel_rfl, rfl⟩⟩
instance fn94 : FnF Tryd.prog 94 := ⟨⟨_, Tryd.func94, by kernel_rfl, rfl⟩⟩
instance fn81 : FnF Tryd.prog 81 := ⟨⟨_, Tryd.func81, by kernel_rfl, rfl⟩⟩
instance fn83 : FnF Tryd.prog 83 := ⟨⟨_, Tryd.func83, by kernel_rfl, rfl⟩⟩
instance fn95 : FnF Tryd.prog 95 := ⟨⟨_, Tryd.func95, by kernel_rfl, rfl⟩⟩
instance fn47 : FnF Tryd.prog 47 := ⟨⟨_, Tryd.func47, by kernel_rfl, rfl⟩⟩
instance fn49 : FnF Tryd.prog 49 := ⟨⟨_, Tryd.func49, by kernel_rfl, rfl⟩⟩
instance fn124 : FnF Tryd.prog 124 := ⟨⟨_, Tryd.func124, by kernel_rfl, rfl⟩⟩
instance fn53 : FnF Tryd.prog 53 := ⟨⟨_, Tryd.func53, by kernel_rfl, rfl⟩⟩
instance fn96 : FnF Tryd.prog 96 := ⟨⟨_, Tryd.func96, by kernel_rfl, rfl⟩⟩
instance fn54 : FnF Tryd.prog 54 := ⟨⟨_, Tryd.func54, by kernel_rfl, rfl⟩⟩
instance fn97 : FnF Tryd.prog 97 := ⟨⟨_, Tryd.func97, by kernel_rfl, rfl⟩⟩
instance fn38 : FnF Tryd.prog 38 := ⟨⟨_, Tryd.func38, by kernel_rfl, rfl⟩⟩
instance fn46 : FnF Tryd.prog 46 := ⟨⟨_, Tryd.func46, by kernel_rfl, rfl⟩⟩
instance fn48 : FnF Tryd.prog 48 := ⟨⟨_, Tryd.func48, by kernel_rfl, rfl⟩⟩
instance fn50 : FnF Tryd.prog 50 := ⟨⟨_, Tryd.func50, by kernel_rfl, rfl⟩⟩
instance fn51 : FnF Tryd.prog 51 := ⟨⟨_, Tryd.func51, by kernel_rfl, rfl⟩⟩
instance fn52 : FnF Tryd.prog 52 := ⟨⟨_, Tryd.func52, by kernel_rfl, rfl⟩⟩
instance fn55 : FnF Tryd.prog 55 := ⟨⟨_, Tryd.func55, by kernel_rfl, rfl⟩⟩
instance fn56 : FnF Tryd.prog 56 := ⟨⟨_, Tryd.func56, by kernel_rfl, rfl⟩⟩
noncomputable def w_big (a0 : List UInt8) : Option Bool :=
  some (decide (1048576 < (a0.length : Int)))
theorem w_big_walk (w : World) (a0 : TL UInt8) (h0 : GT.rd w [] a0) (r : Bool) (hp : w_big (GT.dat a0) = some r) : Spec Tryd.prog 38 [(TL.hdr a0)].toArray w [] (IsV (.bool r)) := by
  refine Spec.intro Tryd.func38 rfl Tryd.ntmps38 rfl ?_
  unfold w_big at hp
  replace hp := dd hp
  refine s11 ?_
  obtain rfl := Option.some.inj hp
  refine s1 ?_
  refine res1 rfl (ResOK.tmp rfl) ⟨rfl, rfl⟩ ms
noncomputable def s_l1New (a0 : List UInt8) : Option D_l1Cur :=
  whileP (fun s1 : Int × Int => cond ((decide (s1.2 < (a0.length : Int))) && (decide (s1.2 < 4000))) (Option.bind (idx a0 s1.2) (fun y3 => some (.inl ((bits .and .i64 (IntKind.wrap .i64 (IntKind.wrap .i64 (IntKind.wrap .i64 (s1.1 * 131) + IntKind.wrap .i64 (y3.toNat : Int)) + 7)) 1073741823, IntKind.wrap .i64 (s1.2 + 1)))))) (Option.map .inr (some (a0, 0, s1.1)))) (IntKind.wrap .i64 (10101 + (a0.length : Int)), 0)
theorem s_l1New_walk (w : World) (a0 : TL UInt8) (h0 : GT.rd w [] a0) (r : D_l1Cur) (hp : s_l1New (GT.dat a0) = some r) : Spec Tryd.prog 81 [(TL.hdr a0)].toArray w [] (fun v M => ∃ (b : Nat) (x0 : T_l1Cur), v = .pointer (some ⟨b, 0, none⟩) ∧ GT.dat x0 = r ∧ M = [blk b (GT.cells x0) 141] ∧ x0.1 = a0) := by
  refine Spec.intro Tryd.func81 rfl Tryd.ntmps81 rfl ?_
  unfold s_l1New at hp
  replace hp := dd hp
  refine s17 ?_
  refine W_while (σ := Int × Int) GT.dat (fun ((v1_0, v1_1) : Int × Int) => [(3, .int .i64 v1_0), (4, .int .i64 v1_1)]) (fun ((v1_0, v1_1) : Int × Int) => []) [(0, _)] [] (IntKind.wrap .i64 (10101 + ((GT.dat a0).length : Int)), 0) hp sb ms ?_
  clear hp
  rintro ⟨v1_0, v1_1⟩ x1 hp hx1
  replace hp := dd hp
  refine kq [0, 3, 4] ?_
  refine s2 ?_
  refine W_D0 [15] mix (by kernel_rfl) rfl ?_
  refine s2 ?_
  refine D_lenP (X := a0) GC.none (OpV.t rfl) el59.h ?_
  refine s15 ?_
  refine kp [0, 3, 4, 15] ?_
  refine W_cond rfl (fun hc2 => ?_) (fun hc2 => ?_)
  · replace hp := cond_t hc2 hp
    refine s8 ?_
    replace hp := idx_bind hp; obtain ⟨u3, hy3, hp⟩ := hp
    refine L_idxA (X := a0) rfl rfl rfl el59.h (RdT.old h0) hy3 ?_
    refine L_load0 rfl rfl (RdT.at (RdT.old h0) (hy3).2) one5.h rfl ?_
    refine L_convInt rfl rfl und3.h (by rw [und5.h]; rfl) ?_
    refine s10 ?_
    exact ⟨(bits .and .i64 (IntKind.wrap .i64 (IntKind.wrap .i64 (IntKind.wrap .i64 (v1_0 * 131) + IntKind.wrap .i64 (u3.toNat : Int)) + 7)) 1073741823, IntKind.wrap .i64 (v1_1 + 1)), sb, (.sub ms), some_eq hp⟩
  · replace hp := cond_f hc2 hp
    refine W_exit ?_
    replace hp := map_any hp; obtain ⟨a4, hp, hx_a4⟩ := hp
    obtain rfl := hx1 _ hx_a4
    refine s4 ?_
    refine L_build (xs := [(0, .tmp 28), (2, .tmp 29)]) (cs := [(TL.hdr a0), .int .i64 0, .int .i64 v1_0]) rfl rfl bld141.h rfl ?_
    refine bx fun bk31 => ?_
    refine s2 ?_
    obtain rfl := Option.some.inj hp
    refine s1 ?_
    refine res1 rfl (ResOK.tmp rfl) ⟨bk31, (a0, 0, v1_0), rfl, rfl, rfl, rfl⟩ ms
noncomputable def s_l1Byte (a0 : D_l1Cur) : Option (Int × D_l1Cur) :=
  cond (decide (a0.2.1 < (a0.1.length : Int))) (Option.bind (idx a0.1 a0.2.1) (fun y2 => some (bits .and .i64 (IntKind.wrap .i64 (bits .and .i64 (bits .xor .i64 (IntKind.wrap .i64 (IntKind.wrap .i64 (a0.2.2 * 6364136223846793005) + 1442695040888963407) / 2 ^ (33 : Int).toNat) (IntKind.wrap .i64 (IntKind.wrap .i64 (a0.2.2 * 6364136223846793005) + 1442695040888963407) / 2 ^ (45 : Int).toNat)) 255 + IntKind.wrap .i64 (y2.toNat : Int))) 255, (a0.1, IntKind.wrap .i64 (a0.2.1 + 1), IntKind.wrap .i64 (IntKind.wrap .i64 (a0.2.2 * 6364136223846793005) + 1442695040888963407))))) (some (bits .and .i64 (bits .xor .i64 (IntKind.wrap .i64 (IntKind.wrap .i64 (a0.2.2 * 6364136223846793005) + 1442695040888963407) / 2 ^ (33 : Int).toNat) (IntKind.wrap .i64 (IntKind.wrap .i64 (a0.2.2 * 6364136223846793005) + 1442695040888963407) / 2 ^ (45 : Int).toNat)) 255, (a0.1, a0.2.1, IntKind.wrap .i64 (IntKind.wrap .i64 (a0.2.2 * 6364136223846793005) + 1442695040888963407))))
theorem s_l1Byte_walk (w : World) (b0_ : Nat) (a0 : T_l1Cur) (h0_0 : GT.rd w (fps [blk b0_ (GT.cells a0) 141]) a0.1) (r : Int × D_l1Cur) (hp : s_l1Byte (GT.dat a0) = some r) : Spec Tryd.prog 119 [Value.pointer (some ⟨b0_, 0, none⟩)].toArray w [blk b0_ (GT.cells a0) 141] (fun v M => ∃ (x0 : Int) (y0 : T_l1Cur), v = .int .i64 x0 ∧ (GT.dat x0, GT.dat y0) = r ∧ M = [blk b0_ (GT.cells y0) 141] ∧ y0.1 = a0.1) := by
  obtain ⟨a0_1, a0_2, a0_3⟩ := a0
  change Spec _ _ ([Value.pointer (some ⟨b0_, 0, none⟩)] : List Value).toArray w _ _
  refine Spec.intro Tryd.func119 rfl Tryd.ntmps119 rfl ?_
  unfold s_l1Byte at hp
  replace hp := dd hp
  refine s18 ?_
  refine W_D0 [3] mix (by kernel_rfl) rfl ?_
  refine s20 ?_
  refine s10 ?_
  refine W_D0 [34] mix (by kernel_rfl) rfl ?_
  refine s8 ?_
  refine D_lenP (X := a0_1) GC.none (OpV.t rfl) el59.h ?_
  refine s13 ?_
  refine kp [0, 3, 34] ?_
  refine W_cond rfl (fun hc1 => ?_) (fun hc1 => ?_)
  · replace hp := cond_t hc1 hp
    refine s1 ?_
    replace hp := idx_bind hp; obtain ⟨u2, hy2, hp⟩ := hp
    refine W_D0 [3] mix (by kernel_rfl) rfl ?_
    refine s9 ?_
    refine D_idxA (X := a0_1) GC.none (OpV.t rfl) (OpV.t rfl) el59.h (RdT.old h0_0) (fun _ => hy2) ?_
    refine D_load0 GC.none (OpV.t rfl) (fun hg => RdT.at (RdT.old h0_0) (hy2).2) one5.h rfl ?_
    refine D_convInt GC.none (OpV.t rfl) und3.h (by rw [und5.h]; rfl) ?_
    refine s20 ?_
    refine s16 ?_
    obtain rfl := Option.some.inj hp
    refine s1 ?_
    refine res1 rfl (ResOK.tmp rfl) ⟨bits .and .i64 (IntKind.wrap .i64 (bits .and .i64 (bits .xor .i64 (IntKind.wrap .i64 (IntKind.wrap .i64 (a0_3 * 6364136223846793005) + 1442695040888963407) / 2 ^ (33 : Int).toNat) (IntKind.wrap .i64 (IntKind.wrap .i64 (a0_3 * 6364136223846793005) + 1442695040888963407) / 2 ^ (45 : Int).toNat)) 255 + IntKind.wrap .i64 (u2.toNat : Int))) 255, (a0_1, IntKind.wrap .i64 (a0_2 + 1), IntKind.wrap .i64 (IntKind.wrap .i64 (a0_3 * 6364136223846793005) + 1442695040888963407)), rfl, rfl, rfl, rfl⟩ ms
  · replace hp := cond_f hc1 hp
    refine s6 ?_
    obtain rfl := Option.some.inj hp
    refine s1 ?_
    refine res1 rfl (ResOK.tmp rfl) ⟨bits .and .i64 (bits .xor .i64 (IntKind.wrap .i64 (IntKind.wrap .i64 (a0_3 * 6364136223846793005) + 1442695040888963407) / 2 ^ (33 : Int).toNat) (IntKind.wrap .i64 (IntKind.wrap .i64 (a0_3 * 6364136223846793005) + 1442695040888963407) / 2 ^ (45 : Int).toNat)) 255, (a0_1, a0_2, IntKind.wrap .i64 (IntKind.wrap .i64 (a0_3 * 6364136223846793005) + 1442695040888963407)), rfl, rfl, rfl, rfl⟩ ms
noncomputable def s_l1Below (a0 : D_l1Cur) (a1 : Int) : Option (Int × D_l1Cur) :=
  cond (decide (a1 ≤ 0)) (some (0, (a0.1, a0.2.1, a0.2.2))) (cond (decide (a1 ≤ 256)) (Option.bind (s_l1Byte (a0.1, a0.2.1, a0.2.2)) (fun y3 => Option.bind (remP y3.1 a1) (fun y4 => some (y4, (y3.2.1, y3.2.2.1, y3.2.2.2))))) (Option.bind (s_l1Byte (a0.1, a0.2.1, a0.2.2)) (fun y5 => Option.bind (s_l1Byte (y5.2.1, y5.2.2.1, y5.2.2.2)) (fun y6 => Option.bind (s_l1Byte (y6.2.1, y6.2.2.1, y6.2.2.2)) (fun y7 => Option.bind (s_l1Byte (y7.2.1, y7.2.2.1, y7.2.2.2)) (fun y8 => Option.bind (remP (IntKind.wrap .i64 (IntKind.wrap .i64 (IntKind.wrap .i64 (IntKind.wrap .i64 (y5.1 * 16777216) + IntKind.wrap .i64 (y6.1 * 65536)) + IntKind.wrap .i64 (y7.1 * 256)) + y8.1)) a1) (fun y9 => some (y9, (y8.2.1, y8.2.2.1, y8.2.2.2)))))))))
theorem s_l1Below_walk (w : World) (b0_ : Nat) (a0 : T_l1Cur) (a1 : Int) (h0_0 : GT.rd w (fps [blk b0_ (GT.cells a0) 141]) a0.1) (r : Int × D_l1Cur) (hp : s_l1Below (GT.dat a0) a1 = some r) : Spec Tryd.prog 84 [Value.pointer (some ⟨b0_, 0, none⟩), .int .i64 a1].toArray w [blk b0_ (GT.cells a0) 141] (fun v M => ∃ (x0 : Int) (y0 : T_l1Cur), v = .int .i64 x0 ∧ (GT.dat x0, GT.dat y0) = r ∧ M = [blk b0_ (GT.cells y0) 141] ∧ y0.1 = a0.1) := by
  obtain ⟨a0_1, a0_2, a0_3⟩ := a0
  change Spec _ _ ([Value.pointer (some ⟨b0_, 0, none⟩), .int .i64 a1] : List Value).toArray w _ _
  refine Spec.intro Tryd.func84 rfl Tryd.ntmps84 rfl ?_
  unfold s_l1Below at hp
  replace hp := dd hp
  refine s10 ?_
  refine kp [0, 1, 10] ?_
  refine W_cond rfl (fun hc1 => ?_) (fun hc1 => ?_)
  · replace hp := cond_t hc1 hp
    refine s4 ?_
    obtain rfl := Option.some.inj hp
    refine s1 ?_
    refine res1 rfl (ResOK.tmp rfl) ⟨0, (a0_1, a0_2, a0_3), rfl, rfl, rfl, rfl⟩ ms
  · replace hp := cond_f hc1 hp
    refine s7 ?_
    refine kp [0, 1, 12] ?_
    refine W_cond rfl (fun hc2 => ?_) (fun hc2 => ?_)
    · replace hp := cond_t hc2 hp
      refine s3 ?_
      replace hp := ba hp; obtain ⟨y3, hy3, hp⟩ := hp
      refine L_callM [blk b0_ _ _] _ rfl fn119.h rfl pc (by exact fun w hw => s_l1Byte_walk w b0_ (a0_1, a0_2, a0_3) ((RdX.old h0_0) w hw) _ hy3) ?_
      rintro _ _ ⟨y3x0, ⟨y3y0_1, y3y0_2, y3y0_3⟩, rfl, rfl, rfl, hey3_0⟩
      obtain rfl : a0_1 = y3y0_1 := hey3_0.symm
      refine sc ?_
      replace hp := dd hp
      refine s1 ?_
      replace hp := ba hp; obtain ⟨y4, hy4, hp⟩ := hp
      refine L_binV rfl rfl rfl (bv_remP hy4) ?_
      refine s2 ?_
      obtain rfl := Option.some.inj hp
      refine s1 ?_
      refine res1 rfl (ResOK.tmp rfl) ⟨y4, (a0_1, y3y0_2, y3y0_3), rfl, rfl, rfl, rfl⟩ ms
    · replace hp := cond_f hc2 hp
      refine s4 ?_
      replace hp := ba hp; obtain ⟨y5, hy5, hp⟩ := hp
      refine L_callM [blk b0_ _ _] _ rfl fn119.h rfl pc (by exact fun w hw => s_l1Byte_walk w b0_ (a0_1, a0_2, a0_3) ((RdX.old h0_0) w hw) _ hy5) ?_
      rintro _ _ ⟨y5x0, ⟨y5y0_1, y5y0_2, y5y0_3⟩, rfl, rfl, rfl, hey5_0⟩
      obtain rfl : a0_1 = y5y0_1 := hey5_0.symm
      refine sc ?_
      replace hp := dd hp
      refine s5 ?_
      replace hp := ba hp; obtain ⟨y6, hy6, hp⟩ := hp
      refine L_callM [blk b0_ _ _] _ rfl fn119.h rfl pc (by exact fun w hw => s_l1Byte_walk w b0_ (a0_1, y5y0_2, y5y0_3) ((RdX.old h0_0) w hw) _ hy6) ?_
      rintro _ _ ⟨y6x0, ⟨y6y0_1, y6y0_2, y6y0_3⟩, rfl, rfl, rfl, hey6_0⟩
      obtain rfl : a0_1 = y6y0_1 := hey6_0.symm
      refine sc ?_
      replace hp := dd hp
      refine s5 ?_
      replace hp := ba hp; obtain ⟨y7, hy7, hp⟩ := hp
      refine L_callM [blk b0_ _ _] _ rfl fn119.h rfl pc (by exact fun w hw => s_l1Byte_walk w b0_ (a0_1, y6y0_2, y6y0_3) ((RdX.old h0_0) w hw) _ hy7) ?_
      rintro _ _ ⟨y7x0, ⟨y7y0_1, y7y0_2, y7y0_3⟩, rfl, rfl, rfl, hey7_0⟩
      obtain rfl : a0_1 = y7y0_1 := hey7_0.symm
      refine sc ?_
      replace hp := dd hp
      refine s5 ?_
      replace hp := ba hp; obtain ⟨y8, hy8, hp⟩ := hp
      refine L_callM [blk b0_ _ _] _ rfl fn119.h rfl pc (by exact fun w hw => s_l1Byte_walk w b0_ (a0_1, y7y0_2, y7y0_3) ((RdX.old h0_0) w hw) _ hy8) ?_
      rintro _ _ ⟨y8x0, ⟨y8y0_1, y8y0_2, y8y0_3⟩, rfl, rfl, rfl, hey8_0⟩
      obtain rfl : a0_1 = y8y0_1 := hey8_0.symm
      refine sc ?_
      replace hp := dd hp
      refine s15 ?_
      replace hp := ba hp; obtain ⟨y9, hy9, hp⟩ := hp
      refine L_binV rfl rfl rfl (bv_remP hy9) ?_
      refine s2 ?_
      obtain rfl := Option.some.inj hp
      refine s1 ?_
      refine res1 rfl (ResOK.tmp rfl) ⟨y9, (a0_1, y8y0_2, y8y0_3), rfl, rfl, rfl, rfl⟩ ms
noncomputable def s_l1Text (a0 : D_l1Cur) (a1 : Int) : Option (ByteArray × D_l1Cur) :=
  Option.bind (some ([] : List UInt8)) (fun y2 => Option.bind (s_l1Below (a0.1, a0.2.1, a0.2.2) 4) (fun y3 => Option.bind (s_l1Below (y3.2.1, y3.2.2.1, y3.2.2.2) (IntKind.wrap .i64 (a1 + 1))) (fun y4 => whileP (fun s5 : (List UInt8) × Int × Int × Int => cond (decide (0 < s5.2.1)) (Option.bind (s_l1Byte (y4.2.1, s5.2.2.1, s5.2.2.2)) (fun y7 => cond (decide (y3.1 = 1)) (cond (decide (y3.1 = 2)) (Option.bind (u8P (IntKind.wrap .u8 (IntKind.wrap .i64 (97 + ((y7.1).tmod 2).tmod 4)))) (fun y10 => Option.bind (appP s5.1 [y10]) (fun y12 => some (.inl ((y12, IntKind.wrap .i64 (s5.2.1 - 1), y7.2.2.1, y7.2.2.2)))))) (Option.bind (u8P (IntKind.wrap .u8 ((y7.1).tmod 2))) (fun y13 => Option.bind (appP s5.1 [y13]) (fun y15 => some (.inl ((y15, IntKind.wrap .i64 (s5.2.1 - 1), y7.2.2.1, y7.2.2.2))))))) (cond (decide (y3.1 = 2)) (Option.bind (u8P (IntKind.wrap .u8 (IntKind.wrap .i64 (97 + (y7.1).tmod 4)))) (fun y17 => Option.bind (appP s5.1 [y17]) (fun y19 => some (.inl ((y19, IntKind.wrap .i64 (s5.2.1 - 1), y7.2.2.1, y7.2.2.2)))))) (Option.bind (u8P (IntKind.wrap .u8 y7.1)) (fun y20 => Option.bind (appP s5.1 [y20]) (fun y22 => some (.inl ((y22, IntKind.wrap .i64 (s5.2.1 - 1), y7.2.2.1, y7.2.2.2))))))))) (Option.map .inr (some ((strP s5.1), (y4.2.1, s5.2.2.1, s5.2.2.2))))) (y2, y4.1, y4.2.2.1, y4.2.2.2))))
theorem s_l1Text_walk (w : World) (b0_ : Nat) (a0 : T_l1Cur) (a1 : Int) (h0_0 : GT.rd w (fps [blk b0_ (GT.cells a0) 141]) a0.1) (r : ByteArray × D_l1Cur) (hp : s_l1Text (GT.dat a0) a1 = some r) : Spec Tryd.prog 94 [Value.pointer (some ⟨b0_, 0, none⟩), .int .i64 a1].toArray w [blk b0_ (GT.cells a0) 141] (fun v M => ∃ (x0 : ByteArray) (y0 : T_l1Cur), v = .string x0 ∧ (GT.dat x0, GT.dat y0) = r ∧ M = [blk b0_ (GT.cells y0) 141] ∧ y0.1 = a0.1) := by
  obtain ⟨a0_1, a0_2, a0_3⟩ := a0
  change Spec _ _ ([Value.pointer (some ⟨b0_, 0, none⟩), .int .i64 a1] : List Value).toArray w _ _
  refine Spec.intro Tryd.func94 rfl Tryd.ntmps94 rfl ?_
  unfold s_l1Text at hp
  replace hp := dd hp
  refine s6 ?_
  replace hp := ba hp; obtain ⟨y2, hy2, hp⟩ := hp
  refine L_mk0 UInt8 rfl el59.h (fun X1 hdX1 => ?_)
  obtain rfl : GT.dat X1 = y2 := hdX1.trans (Option.some.inj hy2)
  clear hy2 hdX1
  refine s5 ?_
  replace hp := ba hp; obtain ⟨y3, hy3, hp⟩ := hp
  refine L_callM [blk b0_ _ _] _ rfl fn84.h rfl pc (by exact fun w hw => s_l1Below_walk w b0_ (a0_1, a0_2, a0_3) 4 ((RdX.old h0_0) w hw) _ hy3) ?_
  rintro _ _ ⟨y3x0, ⟨y3y0_1, y3y0_2, y3y0_3⟩, rfl, rfl, rfl, hey3_0⟩
  obtain rfl : a0_1 = y3y0_1 := hey3_0.symm
  refine sc ?_
  replace hp := dd hp
  refine s8 ?_
  replace hp := ba hp; obtain ⟨y4, hy4, hp⟩ := hp
  refine L_callM [blk b0_ _ _] _ rfl fn84.h rfl pc (by exact fun w hw => s_l1Below_walk w b0_ (a0_1, y3y0_2, y3y0_3) (IntKind.wrap .i64 (a1 + 1)) ((RdX.old h0_0) w hw) _ hy4) ?_
  rintro _ _ ⟨y4x0, ⟨y4y0_1, y4y0_2, y4y0_3⟩, rfl, rfl, rfl, hey4_0⟩
  obtain rfl : a0_1 = y4y0_1 := hey4_0.symm
  refine sc ?_
  replace hp := dd hp
  refine s3 ?_
  refine W_while (σ := (TL UInt8) × Int × Int × Int) GT.dat (fun ((v5_0, v5_1, v5_2, v5_3) : (TL UInt8) × Int × Int × Int) => [(5, (TL.hdr v5_0)), (7, .int .i64 v5_1)]) (fun ((v5_0, v5_1, v5_2, v5_3) : (TL UInt8) × Int × Int × Int) => [blk b0_ [(TL.hdr a0_1), .int .i64 v5_2, .int .i64 v5_3] 141, treeH v5_0]) [(0, _), (6, _)] [] (X1, y4x0, y4y0_2, y4y0_3) hp sb ms ?_
  clear hp
  rintro ⟨v5_0, v5_1, v5_2, v5_3⟩ x5 hp hx5
  replace hp := dd hp
  refine kq [0, 5, 6, 7] ?_
  refine s6 ?_
  refine kp [0, 5, 6, 7, 17] ?_
  refine W_cond rfl (fun hc6 => ?_) (fun hc6 => ?_)
  · replace hp := cond_t hc6 hp
    refine s6 ?_
    replace hp := ba hp; obtain ⟨y7, hy7, hp⟩ := hp
    refine L_callM [blk b0_ _ _] _ rfl fn119.h rfl pc (by exact fun w hw => s_l1Byte_walk w b0_ (a0_1, v5_2, v5_3) ((RdX.old h0_0) w hw) _ hy7) ?_
    rintro _ _ ⟨y7x0, ⟨y7y0_1, y7y0_2, y7y0_3⟩, rfl, rfl, rfl, hey7_0⟩
    obtain rfl : a0_1 = y7y0_1 := hey7_0.symm
    refine sc ?_
    replace hp := dd hp
    refine s8 ?_
    refine kp [0, 5, 6, 7, 8, 23] ?_
    refine W_cond rfl (fun hc8 => ?_) (fun hc8 => ?_)
    · replace hp := cond_t hc8 hp
      refine s11 ?_
      refine kp [0, 5, 6, 7, 8, 27] ?_
      refine W_cond rfl (fun hc9 => ?_) (fun hc9 => ?_)
      · replace hp := cond_t hc9 hp
        refine s9 ?_
        refine L_convInt rfl rfl und5.h (by rw [und3.h]; rfl) ?_
        replace hp := ba hp; obtain ⟨y10, hy10, hp⟩ := hp
        have ey10 := u8P_some hy10
        try simp only [ey10]
        refine L_buildSlice1 rfl rfl el59.h rfl (by decide) (by decide) rfl (fun bb34 => ?_)
        replace hp := ba hp; obtain ⟨y12, hy12, hp⟩ := hp
        refine L_app1F (X := v5_0) (y10 : UInt8) rfl rfl rfl el59.h rfl rfl pk mm  hy12 (by decide) (fun X11 hdX11 => ?_)
        subst hdX11
        refine s7 ?_
        exact ⟨(X11, IntKind.wrap .i64 (v5_1 - 1), y7y0_2, y7y0_3), sb, (.sub ms), some_eq hp⟩
      · replace hp := cond_f hc9 hp
        refine s4 ?_
        refine L_convInt rfl rfl und5.h (by rw [und3.h]; rfl) ?_
        replace hp := ba hp; obtain ⟨y13, hy13, hp⟩ := hp
        have ey13 := u8P_some hy13
        try simp only [ey13]
        refine L_buildSlice1 rfl rfl el59.h rfl (by decide) (by decide) rfl (fun bb34 => ?_)
        replace hp := ba hp; obtain ⟨y15, hy15, hp⟩ := hp
        refine L_app1F (X := v5_0) (y13 : UInt8) rfl rfl rfl el59.h rfl rfl pk mm  hy15 (by decide) (fun X14 hdX14 => ?_)
        subst hdX14
        refine s7 ?_
        exact ⟨(X14, IntKind.wrap .i64 (v5_1 - 1), y7y0_2, y7y0_3), sb, (.sub ms), some_eq hp⟩
    · replace hp := cond_f hc8 hp
      refine s7 ?_
      refine kp [0, 5, 6, 7, 8, 27] ?_
      refine W_cond rfl (fun hc16 => ?_) (fun hc16 => ?_)
      · replace hp := cond_t hc16 hp
        refine s9 ?_
        refine L_convInt rfl rfl und5.h (by rw [und3.h]; rfl) ?_
        replace hp := ba hp; obtain ⟨y17, hy17, hp⟩ := hp
        have ey17 := u8P_some hy17
        try simp only [ey17]
        refine L_buildSlice1 rfl rfl el59.h rfl (by decide) (by decide) rfl (fun bb34 => ?_)
        replace hp := ba hp; obtain ⟨y19, hy19, hp⟩ := hp
        refine L_app1F (X := v5_0) (y17 : UInt8) rfl rfl rfl el59.h rfl rfl pk mm  hy19 (by decide) (fun X18 hdX18 => ?_)
        subst hdX18
        refine s7 ?_
        exact ⟨(X18, IntKind.wrap .i64 (v5_1 - 1), y7y0_2, y7y0_3), sb, (.sub ms), some_eq hp⟩
      · replace hp := cond_f hc16 hp
        refine s4 ?_
        refine L_convInt rfl rfl und5.h (by rw [und3.h]; rfl) ?_
        replace hp := ba hp; obtain ⟨y20, hy20, hp⟩ := hp
        have ey20 := u8P_some hy20
        try simp only [ey20]
        refine L_buildSlice1 rfl rfl el59.h rfl (by decide) (by decide) rfl (fun bb34 => ?_)
        replace hp := ba hp; obtain ⟨y22, hy22, hp⟩ := hp
        refine L_app1F (X := v5_0) (y20 : UInt8) rfl rfl rfl el59.h rfl rfl pk mm  hy22 (by decide) (fun X21 hdX21 => ?_)
        subst hdX21
        refine s7 ?_
        exact ⟨(X21, IntKind.wrap .i64 (v5_1 - 1), y7y0_2, y7y0_3), sb, (.sub ms), some_eq hp⟩
  · replace hp := cond_f hc6 hp
    refine W_exit ?_
    replace hp := map_any hp; obtain ⟨a23, hp, hx_a23⟩ := hp
    obtain rfl := hx5 _ hx_a23
    refine s3 ?_
    refine L_toStr (X := v5_0) rfl rfl und59.h und5.h und9.h (RdT.tree mm) ?_
    refine s2 ?_
    obtain rfl := Option.some.inj hp
    refine s1 ?_
    refine res1 rfl (ResOK.tmp rfl) ⟨(strP (GT.dat v5_0)), (a0_1, v5_2, v5_3), rfl, rfl, rfl, rfl⟩ ms
noncomputable def s_l1Once (a0 : D_l1Cur) (a1 : Int) : Option (Bool × D_l1Cur) :=
  Option.bind (s_l1Below (a0.1, a0.2.1, a0.2.2) a1) (fun y1 => some (decide (y1.1 = 0), (y1.2.1, y1.2.2.1, y1.2.2.2)))
theorem s_l1Once_walk (w : World) (b0_ : Nat) (a0 : T_l1Cur) (a1 : Int) (h0_0 : GT.rd w (fps [blk b0_ (GT.cells a0) 141]) a0.1) (r : Bool × D_l1Cur) (hp : s_l1Once (GT.dat a0) a1 = some r) : Spec Tryd.prog 83 [Value.pointer (some ⟨b0_, 0, none⟩), .int .i64 a1].toArray w [blk b0_ (GT.cells a0) 141] (fun v M => ∃ (x0 : Bool) (y0 : T_l1Cur), v = .bool x0 ∧ (GT.dat x0, GT.dat y0) = r ∧ M = [blk b0_ (GT.cells y0) 141] ∧ y0.1 = a0.1) := by
  obtain ⟨a0_1, a0_2, a0_3⟩ := a0
  change Spec _ _ ([Value.pointer (some ⟨b0_, 0, none⟩), .int .i64 a1] : List Value).toArray w _ _
  refine Spec.intro Tryd.func83 rfl Tryd.ntmps83 rfl ?_
  unfold s_l1Once at hp
  replace hp := dd hp
  refine s8 ?_
  replace hp := ba hp; obtain ⟨y1, hy1, hp⟩ := hp
  refine L_callM [blk b0_ _ _] _ rfl fn84.h rfl pc (by exact fun w hw => s_l1Below_walk w b0_ (a0_1, a0_2, a0_3) a1 ((RdX.old h0_0) w hw) _ hy1) ?_
  rintro _ _ ⟨y1x0, ⟨y1y0_1, y1y0_2, y1y0_3⟩, rfl, rfl, rfl, hey1_0⟩
  obtain rfl : a0_1 = y1y0_1 := hey1_0.symm
  refine sc ?_
  replace hp := dd hp
  refine s3 ?_
  obtain rfl := Option.some.inj hp
  refine s1 ?_
  refine res1 rfl (ResOK.tmp rfl) ⟨decide (y1x0 = 0), (a0_1, y1y0_2, y1y0_3), rfl, rfl, rfl, rfl⟩ ms
end Go.Proofs.SL
namespace Go.Proofs.SL
open Go
set_option maxHeartbeats 2000000
instance fn92 : FnF Tryd.prog 92 := ⟨⟨_, Tryd.func92, by kernel_rfl, rfl⟩⟩
instance fn118 : FnF Tryd.prog 118 := ⟨⟨_, Tryd.func118, by kernel_rfl, rfl⟩⟩
instance fn85 : FnF Tryd.prog 85 := ⟨⟨_, Tryd.func85, by kernel_rfl, rfl⟩⟩
instance fn29 : FnF Tryd.prog 29 := ⟨⟨_, Tryd.func29, by kernel_rfl, rfl⟩⟩
instance fn22 : FnF Tryd.prog 22 := ⟨⟨_, Tryd.func22, by kernel_rfl, rfl⟩⟩
instance fn82 : FnF Tryd.prog 82 := ⟨⟨_, Tryd.func82, by kernel_rfl, rfl⟩⟩
instance fn39 : FnF Tryd.prog 39 := ⟨⟨_, Tryd.func39, by kernel_rfl, rfl⟩⟩
instance fn30 : FnF Tryd.prog 30 := ⟨⟨_, Tryd.func30, by kernel_rfl, rfl⟩⟩
instance fn41 : FnF Tryd.prog 41 := ⟨⟨_, Tryd.func41, by kernel_rfl, rfl⟩⟩
instance fn23 : FnF Tryd.prog 23 := ⟨⟨_, Tryd.func23, by kernel_rfl, rfl⟩⟩
instance fn19 : FnF Tryd.prog 19 := ⟨⟨_, Tryd.func19, by kernel_rfl, rfl⟩⟩
noncomputable def s_l1PickInt (a0 : D_l1Cur) (a1 : List Int) : Option (Int × D_l1Cur) :=
  Option.bind (s_l1Below (a0.1, a0.2.1, a0.2.2) (a1.length : Int)) (fun y1 => Option.bind (idx a1 y1.1) (fun y2 => some (y2, (y1.2.1, y1.2.2.1, y1.2.2.2))))
theorem s_l1PickInt_walk (w : World) (b0_ : Nat) (a0 : T_l1Cur) (a1 : TL Int) (h1 : GT.rd w (fps [blk b0_ (GT.cells a0) 141]) a1) (h0_0 : GT.rd w (fps [blk b0_ (GT.cells a0) 141]) a0.1) (r : Int × D_l1Cur) (hp : s_l1PickInt (GT.dat a0) (GT.dat a1) = some r) : Spec Tryd.prog 118 [Value.pointer (some ⟨b0_, 0, none⟩), (TL.hdr a1)].toArray w [blk b0_ (GT.cells a0) 141] (fun v M => ∃ (x0 : Int) (y0 : T_l1Cur), v = .int .i64 x0 ∧ (GT.dat x0, GT.dat y0) = r ∧ M = [blk b0_ (GT.cells y0) 141] ∧ y0.1 = a0.1) := by
  obtain ⟨a0_1, a0_2, a0_3⟩ := a0
  change Spec _ _ ([Value.pointer (some ⟨b0_, 0, none⟩), (TL.hdr a1)] : List Value).toArray w _ _
  refine Spec.intro Tryd.func118 rfl Tryd.ntmps118 rfl ?_
  unfold s_l1PickInt at hp
  replace hp := dd hp
  refine s10 ?_
  replace hp := ba hp; obtain ⟨y1, hy1, hp⟩ := hp
  refine L_callM [blk b0_ _ _] _ rfl fn84.h rfl pc (by exact fun w hw => s_l1Below_walk w b0_ (a0_1, a0_2, a0_3) ((GT.dat a1).length : Int) ((RdX.old h0_0) w hw) _ hy1) ?_
  rintro _ _ ⟨y1x0, ⟨y1y0_1, y1y0_2, y1y0_3⟩, rfl, rfl, rfl, hey1_0⟩
  obtain rfl : a0_1 = y1y0_1 := hey1_0.symm
  refine sc ?_
  replace hp := dd hp
  replace hp := idx_bind hp; obtain ⟨u2, hy2, hp⟩ := hp
  refine L_idxA (X := a1) rfl rfl rfl el143.h (RdT.old h1) hy2 ?_
  refine L_load0 rfl rfl (RdT.at (RdT.old h1) (hy2).2) one3.h rfl ?_
  refine s2 ?_
  obtain rfl := Option.some.inj hp
  refine s1 ?_
  refine res1 rfl (ResOK.tmp rfl) ⟨u2, (a0_1, y1y0_2, y1y0_3), rfl, rfl, rfl, rfl⟩ ms
noncomputable def s_l1Pick (a0 : D_l1Cur) (a1 : List ByteArray) : Option (ByteArray × D_l1Cur) :=
  Option.bind (s_l1Below (a0.1, a0.2.1, a0.2.2) (a1.length : Int)) (fun y1 => Option.bind (idx a1 y1.1) (fun y2 => some (y2, (y1.2.1, y1.2.2.1, y1.2.2.2))))
theorem s_l1Pick_walk (w : World) (b0_ : Nat) (a0 : T_l1Cur) (a1 : TL ByteArray) (h1 : GT.rd w (fps [blk b0_ (GT.cells a0) 141]) a1) (h0_0 : GT.rd w (fps [blk b0_ (GT.cells a0) 141]) a0.1) (r : ByteArray × D_l1Cur) (hp : s_l1Pick (GT.dat a0) (GT.dat a1) = some r) : Spec Tryd.prog 92 [Value.pointer (some ⟨b0_, 0, none⟩), (TL.hdr a1)].toArray w [blk b0_ (GT.cells a0) 141] (fun v M => ∃ (x0 : ByteArray) (y0 : T_l1Cur), v = .string x0 ∧ (GT.dat x0, GT.dat y0) = r ∧ M = [blk b0_ (GT.cells y0) 141] ∧ y0.1 = a0.1) := by
  obtain ⟨a0_1, a0_2, a0_3⟩ := a0
  change Spec _ _ ([Value.pointer (some ⟨b0_, 0, none⟩), (TL.hdr a1)] : List Value).toArray w _ _
  refine Spec.intro Tryd.func92 rfl Tryd.ntmps92 rfl ?_
  unfold s_l1Pick at hp
  replace hp := dd hp
  refine s10 ?_
  replace hp := ba hp; obtain ⟨y1, hy1, hp⟩ := hp
  refine L_callM [blk b0_ _ _] _ rfl fn84.h rfl pc (by exact fun w hw => s_l1Below_walk w b0_ (a0_1, a0_2, a0_3) ((GT.dat a1).length : Int) ((RdX.old h0_0) w hw) _ hy1) ?_
  rintro _ _ ⟨y1x0, ⟨y1y0_1, y1y0_2, y1y0_3⟩, rfl, rfl, rfl, hey1_0⟩
  obtain rfl : a0_1 = y1y0_1 := hey1_0.symm
  refine sc ?_
  replace hp := dd hp
  replace hp := idx_bind hp; obtain ⟨u2, hy2, hp⟩ := hp
  refine L_idxA (X := a1) rfl rfl rfl el73.h (RdT.old h1) hy2 ?_
  refine L_load0 rfl rfl (RdT.at (RdT.old h1) (hy2).2) one9.h rfl ?_
  refine s2 ?_
  obtain rfl := Option.some.inj hp
  refine s1 ?_
  refine res1 rfl (ResOK.tmp rfl) ⟨u2, (a0_1, y1y0_2, y1y0_3), rfl, rfl, rfl, rfl⟩ ms
noncomputable def s_l7Data (a0 : D_l1Cur) : Option (ByteArray × D_l1Cur) :=
  Option.bind (some ([ByteArray.empty, (ByteArray.mk #[97]), (ByteArray.mk #[98, 98]), (ByteArray.mk #[99, 99, 99]), (ByteArray.mk #[104, 101, 108, 108, 111]), (ByteArray.mk #[0]), (ByteArray.mk #[119, 111, 114, 108, 100, 32, 97, 110, 100, 32, 109, 111, 114, 101])] : List ByteArray)) (fun y1 => Option.bind (s_l1Pick (a0.1, a0.2.1, a0.2.2) y1) (fun y3 => some (y3.1, (y3.2.1, y3.2.2.1, y3.2.2.2))))
theorem s_l7Data_walk (w : World) (b0_ : Nat) (a0 : T_l1Cur) (h0_0 : GT.rd w (fps [blk b0_ (GT.cells a0) 141]) a0.1) (r : ByteArray × D_l1Cur) (hp : s_l7Data (GT.dat a0) = some r) : Spec Tryd.prog 85 [Value.pointer (some ⟨b0_, 0, none⟩)].toArray w [blk b0_ (GT.cells a0) 141] (fun v M => ∃ (x0 : ByteArray) (y0 : T_l1Cur), v = .string x0 ∧ (GT.dat x0, GT.dat y0) = r ∧ M = [blk b0_ (GT.cells y0) 141] ∧ y0.1 = a0.1) := by
  obtain ⟨a0_1, a0_2, a0_3⟩ := a0
  change Spec _ _ ([Value.pointer (some ⟨b0_, 0, none⟩)] : List Value).toArray w _ _
  refine Spec.intro Tryd.func85 rfl Tryd.ntmps85 rfl ?_
  unfold s_l7Data at hp
  replace hp := dd hp
  refine s7 ?_
  replace hp := ba hp; obtain ⟨y1, hy1, hp⟩ := hp
  refine L_bsN ([ByteArray.empty, (ByteArray.mk #[97]), (ByteArray.mk #[98, 98]), (ByteArray.mk #[99, 99, 99]), (ByteArray.mk #[104, 101, 108, 108, 111]), (ByteArray.mk #[0]), (ByteArray.mk #[119, 111, 114, 108, 100, 32, 97, 110, 100, 32, 109, 111, 114, 101])] : List ByteArray) (xs := [(0, .const (.string ByteArray.empty)), (1, .const (.string (ByteArray.mk #[97]))), (2, .const (.string (ByteArray.mk #[98, 98]))), (3, .const (.string (ByteArray.mk #[99, 99, 99]))), (4, .const (.string (ByteArray.mk #[104, 101, 108, 108, 111]))), (5, .const (.string (ByteArray.mk #[0]))), (6, .const (.string (ByteArray.mk #[119, 111, 114, 108, 100, 32, 97, 110, 100, 32, 109, 111, 114, 101])))]) rfl rfl el73.h rfl rfl rfl rfl rfl rfl rfl hy1 (fun X2 hdX2 => ?_)
  subst hdX2
  replace hp := ba hp; obtain ⟨y3, hy3, hp⟩ := hp
  refine L_callM [blk b0_ _ _] _ rfl fn92.h rfl pc (by exact fun w hw => s_l1Pick_walk w b0_ (a0_1, a0_2, a0_3) X2 ((RdX.tree mm) w hw) ((RdX.old h0_0) w hw) _ hy3) ?_
  rintro _ _ ⟨y3x0, ⟨y3y0_1, y3y0_2, y3y0_3⟩, rfl, rfl, rfl, hey3_0⟩
  obtain rfl : a0_1 = y3y0_1 := hey3_0.symm
  refine sc ?_
  replace hp := dd hp
  refine s2 ?_
  obtain rfl := Option.some.inj hp
  refine s1 ?_
  refine res1 rfl (ResOK.tmp rfl) ⟨y3x0, (a0_1, y3y0_2, y3y0_3), rfl, rfl, rfl, rfl⟩ ms
noncomputable def s_l7Some (a0 : D_l1Cur) : Option (D_Blobs × D_l1Cur) :=
  Option.bind (some ([1000, 100, 20, 0] : List Int)) (fun y1 => Option.bind (s_l1PickInt (a0.1, a0.2.1, a0.2.2) y1) (fun y3 => Option.bind (s_l1Below (y3.2.1, y3.2.2.1, y3.2.2.2) 9) (fun y4 => whileP (fun s5 : Int × Int × Int × Int × (List D_Blob) => cond (decide (0 < s5.1)) (Option.bind (s_l7Data (y4.2.1, s5.2.1, s5.2.2.1)) (fun y7 => Option.bind (s_BlobPut (s5.2.2.2.1, s5.2.2.2.2) y7.1) (fun y8 => Option.bind (s_l1Once (y7.2.1, y7.2.2.1, y7.2.2.2) 5) (fun y10 => cond y10.1 (Option.bind (s_l7Data (y10.2.1, y10.2.2.1, y10.2.2.2)) (fun y12 => Option.bind (s_Short y12.1) (fun y13 => Option.bind (s_BlobBend (y8.1.1, y8.1.2) y13) (fun y14 => some (.inl ((IntKind.wrap .i64 (s5.1 - 1), y12.2.2.1, y12.2.2.2, y14.1.1, y14.1.2))))))) (some (.inl ((IntKind.wrap .i64 (s5.1 - 1), y10.2.2.1, y10.2.2.2, y8.1.1, y8.1.2)))))))) (Option.map .inr (Option.bind (s_l1Once (y4.2.1, s5.2.1, s5.2.2.1) 10) (fun y17 => cond y17.1 (Option.bind (s_l1Below (y17.2.1, y17.2.2.1, y17.2.2.2) 3) (fun y19 => cond (decide (y19.1 = 0)) (Option.bind (some ([(-1), 3, 1000, 1001] : List Int)) (fun y21 => Option.bind (s_l1PickInt (y19.2.1, y19.2.2.1, y19.2.2.2) y21) (fun y23 => some ((y23.1, s5.2.2.2.2), (y23.2.1, y23.2.2.1, y23.2.2.2))))) (cond (decide (y19.1 = 1)) (Option.bind (s_l1Text (y19.2.1, y19.2.2.1, y19.2.2.2) 9) (fun y25 => Option.bind (appP s5.2.2.2.2 [(y25.1, ByteArray.empty, false)]) (fun y27 => some ((s5.2.2.2.1, y27), (y25.2.1, y25.2.2.1, y25.2.2.2))))) (cond (decide (0 < (s5.2.2.2.2.length : Int))) (Option.bind (idx s5.2.2.2.2 0) (fun y29 => Option.bind (idx s5.2.2.2.2 0) (fun y30 => Option.bind (some (s5.2.2.2.2.set ((0 : Int).toNat) (y30.1, y30.2.1, (!y29.2.2)))) (fun y31 => some ((s5.2.2.2.1, y31), (y19.2.1, y19.2.2.1, y19.2.2.2)))))) (some ((s5.2.2.2.1, s5.2.2.2.2), (y19.2.1, y19.2.2.1, y19.2.2.2))))))) (some ((s5.2.2.2.1, s5.2.2.2.2), (y17.2.1, y17.2.2.1, y17.2.2.2))))))) (y4.1, y4.2.2.1, y4.2.2.2, y3.1, ([] : List D_Blob)))))
theorem s_l7Some_walk (w : World) (b0_ : Nat) (a0 : T_l1Cur) (h0_0 : GT.rd w (fps [blk b0_ (GT.cells a0) 141]) a0.1) (r : D_Blobs × D_l1Cur) (hp : s_l7Some (GT.dat a0) = some r) : Spec Tryd.prog 82 [Value.pointer (some ⟨b0_, 0, none⟩)].toArray w [blk b0_ (GT.cells a0) 141] (fun v M => ∃ (x0 : T_Blobs) (y0 : T_l1Cur), v = .agg (GT.cells x0).toArray ∧ (GT.dat x0, GT.dat y0) = r ∧ M = [treeH x0, blk b0_ (GT.cells y0) 141] ∧ y0.1 = a0.1) := by
  obtain ⟨a0_1, a0_2, a0_3⟩ := a0
  change Spec _ _ ([Value.pointer (some ⟨b0_, 0, none⟩)] : List Value).toArray w _ _
  refine Spec.intro Tryd.func82 rfl Tryd.ntmps82 rfl ?_
  unfold s_l7Some at hp
  replace hp := dd hp
  refine s2 ?_
  refine al fun bk2 => ?_
  refine s4 ?_
  replace hp := ba hp; obtain ⟨y1, hy1, hp⟩ := hp
  refine L_bsN ([1000, 100, 20, 0] : List Int) (xs := [(0, .const (.int .i64 1000)), (1, .const (.int .i64 100)), (2, .const (.int .i64 20)), (3, .const (.int .i64 0))]) rfl rfl el143.h rfl rfl rfl rfl rfl rfl rfl hy1 (fun X2 hdX2 => ?_)
  subst hdX2
  replace hp := ba hp; obtain ⟨y3, hy3, hp⟩ := hp
  refine L_callM [blk b0_ _ _] _ rfl fn118.h rfl pc (by exact fun w hw => s_l1PickInt_walk w b0_ (a0_1, a0_2, a0_3) X2 ((RdX.tree mm) w hw) ((RdX.old h0_0) w hw) _ hy3) ?_
  rintro _ _ ⟨y3x0, ⟨y3y0_1, y3y0_2, y3y0_3⟩, rfl, rfl, rfl, hey3_0⟩
  obtain rfl : a0_1 = y3y0_1 := hey3_0.symm
  refine sc ?_
  replace hp := dd hp
  refine L_build (xs := [(0, .tmp 12)]) (cs := [.int .i64 y3x0, (TL.hdr (TL.nil T_Blob 0))]) rfl rfl bld30.h rfl ?_
  refine al fun bk3 => ?_
  refine s6 ?_
  replace hp := ba hp; obtain ⟨y4, hy4, hp⟩ := hp
  refine L_callM [blk b0_ _ _] _ rfl fn84.h rfl pc (by exact fun w hw => s_l1Below_walk w b0_ (a0_1, y3y0_2, y3y0_3) 9 ((RdX.old h0_0) w hw) _ hy4) ?_
  rintro _ _ ⟨y4x0, ⟨y4y0_1, y4y0_2, y4y0_3⟩, rfl, rfl, rfl, hey4_0⟩
  obtain rfl : a0_1 = y4y0_1 := hey4_0.symm
  refine sc ?_
  replace hp := dd hp
  refine s3 ?_
  refine W_conv (M' := treeH (TL.nil T_Blob 0) :: _) (fun w h => addNilT (τ := T_Blob) 0 h) ?_
  refine W_while (σ := Int × Int × Int × Int × (TL T_Blob)) GT.dat (fun ((v5_0, v5_1, v5_2, v5_3, v5_4) : Int × Int × Int × Int × (TL T_Blob)) => [(4, .int .i64 v5_0)]) (fun ((v5_0, v5_1, v5_2, v5_3, v5_4) : Int × Int × Int × Int × (TL T_Blob)) => [blk b0_ [(TL.hdr a0_1), .int .i64 v5_1, .int .i64 v5_2] 141, blk bk3 [.int .i64 v5_3, (TL.hdr v5_4)] 30, treeH v5_4]) [(0, _), (2, _), (3, _)] [blk bk2 _ _] (y4x0, y4y0_2, y4y0_3, y3x0, (TL.nil T_Blob 0)) hp sb ms ?_
  clear hp
  rintro ⟨v5_0, v5_1, v5_2, v5_3, v5_4⟩ x5 hp hx5
  replace hp := dd hp
  refine kq [0, 2, 3, 4] ?_
  refine s6 ?_
  refine kp [0, 2, 3, 4, 17] ?_
  refine W_cond rfl (fun hc6 => ?_) (fun hc6 => ?_)
  · replace hp := cond_t hc6 hp
    refine s4 ?_
    replace hp := ba hp; obtain ⟨y7, hy7, hp⟩ := hp
    replace hp := ba hp; obtain ⟨y8, hy8, hp⟩ := hp
    refine W_DS (pre := [_, _, _, _, _, _, _, _, _, _, _, _]) (suf := []) [5, 23] [blk b0_ _ 141] _ pc mix (by kernel_rfl) (by kernel_rfl) rfl ?_
    refine s2 ?_
    refine D_callM (fun v M => ∃ (x0 : ByteArray) (y0 : T_l1Cur), v = .string x0 ∧ (GT.dat x0, GT.dat y0) = y7 ∧ M = [blk b0_ (GT.cells y0) 141] ∧ y0.1 = a0_1) [blk b0_ _ 141] pc fn85.h (OpVs.cons (OpV.t rfl) (OpVs.nil)) (by exact fun w F hw hM => s_l7Data_walk w b0_ (a0_1, v5_1, v5_2) ((RdX.old h0_0) w hw) _ hy7) ?_
    refine D_call1R (fun v M => ∃ (x0 : T_Blobs) (x1 : ByteArray) (x2 : Int), v = .tuple #[.agg (GT.cells x0).toArray, .string x1, .int .i64 x2] ∧ (GT.dat x0, GT.dat x1, GT.dat x2) = y8 ∧ M = [treeH x0]) fn29.h (OpVs.cons (OpV.t rfl) (OpVs.cons (show OpV _ _ _ (.string y7.1) from ⟨_, rfl, fun u M h hc => by obtain ⟨x0, z0, hv, hd, _⟩ := h; subst hd; exact hv⟩) (OpVs.nil))) (by exact fun w F hF hM => s_BlobPut_walk w (v5_3, v5_4) y7.1 (RdT.nowS (RdT.pair RdT.int (RdT.tree mm)) hF hM) _ hy8) ?_
    refine D_moveC (t := 24) rfl (by kernel_rfl) ?_
    refine D_extractC (t := 20) (AggV (τ := T_Blobs) y8.1) rfl (by rintro v M ⟨x0, x1, x2, rfl, hd, rfl⟩; subst hd; exact ⟨_, _, rfl, rfl, x0, rfl, rfl, rfl⟩) (by kernel_rfl) ?_
    refine D_extractW (t := 20) (.string y8.2.1) rfl (by rintro v M ⟨-, M', x0, x1, x2, rfl, hd, -⟩; subst hd; exact ⟨_, rfl, rfl⟩) ?_
    refine D_extractW (t := 20) (.int .i64 y8.2.2) rfl (by rintro v M ⟨-, M', x0, x1, x2, rfl, hd, -⟩; subst hd; exact ⟨_, rfl, rfl⟩) ?_
    refine D_alloc zero30.h ?_
    refine D_storeK (p := 5) (x := 25) rfl rfl (by exact agg30.h) rfl (by kernel_rfl) ?_
    refine s5 ?_
    refine Give_R rfl rfl ?_
    rintro _ _ ⟨bk5, X9, rfl, hdX9, rfl⟩
    try rw [← hdX9] at hp
    obtain ⟨X9_1, X9_2⟩ := X9
    refine s6 ?_
    refine Give_R rfl rfl ?_
    rintro _ _ ⟨y7x0, ⟨y7y0_1, y7y0_2, y7y0_3⟩, rfl, rfl, rfl, hey7_0⟩
    obtain rfl : a0_1 = y7y0_1 := hey7_0.symm
    refine s3 ?_
    refine sc ?_
    replace hp := dd hp
    refine xL ((X9_1, X9_2) : T_Blobs) ?_
    refine s9 ?_
    replace hp := ba hp; obtain ⟨y10, hy10, hp⟩ := hp
    refine L_callM [blk b0_ _ _] _ rfl fn83.h rfl pc (by exact fun w hw => s_l1Once_walk w b0_ (a0_1, y7y0_2, y7y0_3) 5 ((RdX.old h0_0) w hw) _ hy10) ?_
    rintro _ _ ⟨y10x0, ⟨y10y0_1, y10y0_2, y10y0_3⟩, rfl, rfl, rfl, hey10_0⟩
    obtain rfl : a0_1 = y10y0_1 := hey10_0.symm
    refine sc ?_
    replace hp := dd hp
    refine s1 ?_
    refine kp [0, 2, 3, 4, 30] ?_
    refine W_cond rfl (fun hc11 => ?_) (fun hc11 => ?_)
    · replace hp := cond_t hc11 hp
      refine s1 ?_
      replace hp := ba hp; obtain ⟨y12, hy12, hp⟩ := hp
      replace hp := ba hp; obtain ⟨y13, hy13, hp⟩ := hp
      replace hp := ba hp; obtain ⟨y14, hy14, hp⟩ := hp
      refine W_DS (pre := [_, _, _, _, _, _, _, _, _, _, _]) (suf := []) [8, 34] [blk b0_ _ 141] _ pc mix (by kernel_rfl) (by kernel_rfl) rfl ?_
      refine s2 ?_
      refine D_callM (fun v M => ∃ (x0 : ByteArray) (y0 : T_l1Cur), v = .string x0 ∧ (GT.dat x0, GT.dat y0) = y12 ∧ M = [blk b0_ (GT.cells y0) 141] ∧ y0.1 = a0_1) [blk b0_ _ 141] pc fn85.h (OpVs.cons (OpV.t rfl) (OpVs.nil)) (by exact fun w F hw hM => s_l7Data_walk w b0_ (a0_1, y10y0_2, y10y0_3) ((RdX.old h0_0) w hw) _ hy12) ?_
      refine D_callX GC.none fn42.h (OpVs.cons (show OpV _ _ _ (.string y12.1) from ⟨_, rfl, fun u M h hc => by obtain ⟨x0, z0, hv, hd, _⟩ := h; subst hd; exact hv⟩) (OpVs.nil)) (by exact fun hg w F hF hM => s_Short_walk w y12.1  _ hy13) ?_
      refine D_call1R (fun v M => ∃ (x0 : T_Blobs) (x1 : Bool), v = .tuple #[.agg (GT.cells x0).toArray, .bool x1] ∧ (GT.dat x0, GT.dat x1) = y14 ∧ M = [treeH x0]) fn22.h (OpVs.cons (OpV.t rfl) (OpVs.cons (OpV.t rfl) (OpVs.nil))) (by exact fun w F hF hM => s_BlobBend_walk w (X9_1, X9_2) y13 (RdT.nowS (RdT.pair RdT.int (RdT.tree mm)) hF hM) _ hy14) ?_
      refine D_moveC (t := 36) rfl (by kernel_rfl) ?_
      refine D_extractC (t := 31) (AggV (τ := T_Blobs) y14.1) rfl (by rintro v M ⟨x0, x1, rfl, hd, rfl⟩; subst hd; exact ⟨_, _, rfl, rfl, x0, rfl, rfl, rfl⟩) (by kernel_rfl) ?_
      refine D_extractW (t := 31) (.bool y14.2) rfl (by rintro v M ⟨-, M', x0, x1, rfl, hd, -⟩; subst hd; exact ⟨_, rfl, rfl⟩) ?_
      refine D_alloc zero30.h ?_
      refine D_storeK (p := 8) (x := 37) rfl rfl (by exact agg30.h) rfl (by kernel_rfl) ?_
      refine s3 ?_
      refine Give_R rfl rfl ?_
      rintro _ _ ⟨bk8, X15, rfl, hdX15, rfl⟩
      try rw [← hdX15] at hp
      obtain ⟨X15_1, X15_2⟩ := X15
      refine s6 ?_
      refine Give_R rfl rfl ?_
      rintro _ _ ⟨y12x0, ⟨y12y0_1, y12y0_2, y12y0_3⟩, rfl, rfl, rfl, hey12_0⟩
      obtain rfl : a0_1 = y12y0_1 := hey12_0.symm
      refine s3 ?_
      refine sc ?_
      replace hp := dd hp
      refine xL ((X15_1, X15_2) : T_Blobs) ?_
      refine s10 ?_
      exact ⟨(IntKind.wrap .i64 (v5_0 - 1), y12y0_2, y12y0_3, X15_1, X15_2), sb, (.sub ms), some_eq hp⟩
    · replace hp := cond_f hc11 hp
      refine s6 ?_
      exact ⟨(IntKind.wrap .i64 (v5_0 - 1), y10y0_2, y10y0_3, X9_1, X9_2), sb, (.sub ms), some_eq hp⟩
  · replace hp := cond_f hc6 hp
    refine W_exit ?_
    replace hp := map_any hp; obtain ⟨a16, hp, hx_a16⟩ := hp
    obtain rfl := hx5 _ hx_a16
    refine s4 ?_
    replace hp := ba hp; obtain ⟨y17, hy17, hp⟩ := hp
    refine L_callM [blk b0_ _ _] _ rfl fn83.h rfl pc (by exact fun w hw => s_l1Once_walk w b0_ (a0_1, v5_1, v5_2) 10 ((RdX.old h0_0) w hw) _ hy17) ?_
    rintro _ _ ⟨y17x0, ⟨y17y0_1, y17y0_2, y17y0_3⟩, rfl, rfl, rfl, hey17_0⟩
    obtain rfl : a0_1 = y17y0_1 := hey17_0.symm
    refine sc ?_
    replace hp := dd hp
    refine s1 ?_
    refine kp [0, 2, 3, 41] ?_
    refine W_cond rfl (fun hc18 => ?_) (fun hc18 => ?_)
    · replace hp := cond_t hc18 hp
      refine s3 ?_
      replace hp := ba hp; obtain ⟨y19, hy19, hp⟩ := hp
      refine L_callM [blk b0_ _ _] _ rfl fn84.h rfl pc (by exact fun w hw => s_l1Below_walk w b0_ (a0_1, y17y0_2, y17y0_3) 3 ((RdX.old h0_0) w hw) _ hy19) ?_
      rintro _ _ ⟨y19x0, ⟨y19y0_1, y19y0_2, y19y0_3⟩, rfl, rfl, rfl, hey19_0⟩
      obtain rfl : a0_1 = y19y0_1 := hey19_0.symm
      refine sc ?_
      replace hp := dd hp
      refine s7 ?_
      refine kp [0, 2, 3, 43, 58] ?_
      refine W_cond rfl (fun hc20 => ?_) (fun hc20 => ?_)
      · replace hp := cond_t hc20 hp
        refine s2 ?_
        replace hp := ba hp; obtain ⟨y21, hy21, hp⟩ := hp
        refine L_bsN ([(-1), 3, 1000, 1001] : List Int) (xs := [(0, .const (.int .i64 (-1))), (1, .const (.int .i64 3)), (2, .const (.int .i64 1000)), (3, .const (.int .i64 1001))]) rfl rfl el143.h rfl rfl rfl rfl rfl rfl rfl hy21 (fun X22 hdX22 => ?_)
        subst hdX22
        replace hp := ba hp; obtain ⟨y23, hy23, hp⟩ := hp
        refine L_callM [blk b0_ _ _] _ rfl fn118.h rfl pc (by exact fun w hw => s_l1PickInt_walk w b0_ (a0_1, y19y0_2, y19y0_3) X22 ((RdX.tree mm) w hw) ((RdX.old h0_0) w hw) _ hy23) ?_
        rintro _ _ ⟨y23x0, ⟨y23y0_1, y23y0_2, y23y0_3⟩, rfl, rfl, rfl, hey23_0⟩
        obtain rfl : a0_1 = y23y0_1 := hey23_0.symm
        refine sc ?_
        replace hp := dd hp
        refine s8 ?_
        obtain rfl := Option.some.inj hp
        refine jW ((y23x0, v5_4) : T_Blobs) ?_
        refine s1 ?_
        refine res1 rfl (ResOK.cell rfl mm (by exact agg30.h)) ⟨(y23x0, v5_4), (a0_1, y23y0_2, y23y0_3), rfl, rfl, rfl, rfl⟩ ms
      · replace hp := cond_f hc20 hp
        refine s5 ?_
        refine kp [0, 2, 3, 64] ?_
        refine W_cond rfl (fun hc24 => ?_) (fun hc24 => ?_)
        · replace hp := cond_t hc24 hp
          replace hp := ba hp; obtain ⟨y25, hy25, hp⟩ := hp
          refine W_DS (pre := [_, _, _, _, _, _]) (suf := [_, _, _]) [67, 69, 71] [blk b0_ _ 141] _ pc mix (by kernel_rfl) (by kernel_rfl) rfl ?_
          refine s3 ?_
          refine D_callM (fun v M => ∃ (x0 : ByteArray) (y0 : T_l1Cur), v = .string x0 ∧ (GT.dat x0, GT.dat y0) = y25 ∧ M = [blk b0_ (GT.cells y0) 141] ∧ y0.1 = a0_1) [blk b0_ _ 141] pc fn94.h (OpVs.cons (OpV.t rfl) (OpVs.cons OpV.c (OpVs.nil))) (by exact fun w F hw hM => s_l1Text_walk w b0_ (a0_1, y19y0_2, y19y0_3) 9 ((RdX.old h0_0) w hw) _ hy25) ?_
          refine D_build (xs := [(0, .tmp 69)]) (ps := [(0, .string y25.1)]) (cs := [.string y25.1, .string ByteArray.empty, .bool false]) (OpVp.cons (show OpV _ _ _ (.string y25.1) from ⟨_, rfl, fun u M h hc => by obtain ⟨x0, z0, hv, hd, _⟩ := h; subst hd; exact hv⟩) (OpVp.nil)) bld89.h rfl ?_
          refine D_bs1 (OpV.t rfl) el28.h rfl (by decide) (by decide) rfl ?_
          refine s1 ?_
          refine Give_R rfl rfl ?_
          rintro _ _ ⟨bb71, rfl, rfl⟩
          simp only [List.cons_append, List.nil_append]
          refine s1 ?_
          refine Give_R rfl rfl ?_
          rintro _ _ ⟨y25x0, ⟨y25y0_1, y25y0_2, y25y0_3⟩, rfl, rfl, rfl, hey25_0⟩
          obtain rfl : a0_1 = y25y0_1 := hey25_0.symm
          refine s4 ?_
          refine sc ?_
          replace hp := dd hp
          replace hp := ba hp; obtain ⟨y27, hy27, hp⟩ := hp
          refine L_app1F (X := v5_4) ((y25x0, ByteArray.empty, false) : T_Blob) rfl rfl rfl el28.h rfl rfl pk mm  hy27 (by decide) (fun X26 hdX26 => ?_)
          subst hdX26
          refine s8 ?_
          obtain rfl := Option.some.inj hp
          refine jW ((v5_3, X26) : T_Blobs) ?_
          refine s1 ?_
          refine res1 rfl (ResOK.cell rfl mm (by exact agg30.h)) ⟨(v5_3, X26), (a0_1, y25y0_2, y25y0_3), rfl, rfl, rfl, rfl⟩ ms
        · replace hp := cond_f hc24 hp
          refine s7 ?_
          refine kp [2, 3, 47] ?_
          refine W_cond rfl (fun hc28 => ?_) (fun hc28 => ?_)
          · replace hp := cond_t hc28 hp
            replace hp := idx_bind hp; obtain ⟨⟨u29_1, u29_2, u29_3⟩, hy29, hp⟩ := hp
            refine W_DS (pre := [_, _, _, _, _, _, _, _]) (suf := [_, _, _]) [49, 55] [] _ pc mix (by kernel_rfl) (by kernel_rfl) rfl ?_
            refine s4 ?_
            refine D_idxA (X := v5_4) GC.none (OpV.t rfl) OpV.c el28.h (RdT.tree mm) (fun _ => hy29) ?_
            refine s1 ?_
            refine D_load GC.none (OpV.t rfl) (fun hg => RdT.at (RdT.tree mm) (hy29).2) one4.h rfl ?_
            refine s11 ?_
            replace hp := idx_bind hp; obtain ⟨u30, hy30, hp⟩ := hp
            obtain rfl : (u29_1, u29_2, u29_3) = u30 := Option.some.inj (hy29.2.symm.trans hy30.2)
            refine L_idxA (X := v5_4) rfl rfl rfl el28.h (RdT.tree mm) hy29 ?_
            refine s1 ?_
            refine L_conv (M' := treeH (u29_1, u29_2, u29_3) :: holeH v5_4 ((0 : Int).toNat) (GT.cells (u29_1, u29_2, u29_3)) :: _) (fun w h => hole_open hy29.2 pk h) ?_
            refine L_stH (X := v5_4) (i := (0 : Int).toNat) (sz := 3) (fo := 2) (n := 1) rfl rfl pk rfl (.inr ⟨one4.h, rfl⟩) rfl (allOne rfl) (Nat.le_of_ble_eq_true rfl) ?_
            refine L_conv (M' := treeH ((u29_1, u29_2, (!u29_3)) : T_Blob) :: _) (fun w h => addF ((u29_1, u29_2, (!u29_3)) : T_Blob) h) ?_
            replace hp := ba hp; obtain ⟨y31, hy31, hp⟩ := hp
            refine L_close (X := v5_4) ((u29_1, u29_2, (!u29_3)) : T_Blob) rfl pk pk hy31 (fun X32 hdX32 hhX32 => ?_)
            subst hdX32
            try rw [← hhX32]
            refine s6 ?_
            obtain rfl := Option.some.inj hp
            refine jW ((v5_3, X32) : T_Blobs) ?_
            refine s1 ?_
            refine res1 rfl (ResOK.cell rfl mm (by exact agg30.h)) ⟨(v5_3, X32), (a0_1, y19y0_2, y19y0_3), rfl, rfl, rfl, rfl⟩ ms
          · replace hp := cond_f hc28 hp
            refine s6 ?_
            obtain rfl := Option.some.inj hp
            refine jW ((v5_3, v5_4) : T_Blobs) ?_
            refine s1 ?_
            refine res1 rfl (ResOK.cell rfl mm (by exact agg30.h)) ⟨(v5_3, v5_4), (a0_1, y19y0_2, y19y0_3), rfl, rfl, rfl, rfl⟩ ms
    · replace hp := cond_f hc18 hp
      refine s6 ?_
      obtain rfl := Option.some.inj hp
      refine jW ((v5_3, v5_4) : T_Blobs) ?_
      refine s1 ?_
      refine res1 rfl (ResOK.cell rfl mm (by exact agg30.h)) ⟨(v5_3, v5_4), (a0_1, y17y0_2, y17y0_3), rfl, rfl, rfl, rfl⟩ ms
end Go.Proofs.SL
namespace Go.Proofs.SL
open Go
set_option maxHeartbeats 2000000
abbrev T_CSnap := ByteArray × ByteArray × (TL ByteArray)
abbrev T_CSet := ByteArray × (TL T_CSnap)
abbrev T_Catalog := (TL T_CSet)
instance el70 : ElF Tryd.prog 70 75 3 56 [.string ByteArray.empty, .string ByteArray.empty, .slice none 0 0] := ⟨by kernel_rfl⟩
instance agg75 : AggF Tryd.prog 75 3 := ⟨by kernel_rfl⟩
instance el51 : ElF Tryd.prog 51 72 2 40 [.string ByteArray.empty, .slice none 0 0] := ⟨by kernel_rfl⟩
instance agg72 : AggF Tryd.prog 72 2 := ⟨by kernel_rfl⟩
instance fld75_0 : FldF Tryd.prog 75 0 0 := ⟨by kernel_rfl⟩
instance fld75_1 : FldF Tryd.prog 75 1 1 := ⟨by kernel_rfl⟩
instance fld75_2 : FldF Tryd.prog 75 2 2 := ⟨by kernel_rfl⟩
instance one73 : OneF Tryd.prog 73 := ⟨by kernel_rfl⟩
instance fn164 : FnF Tryd.prog 164 := ⟨⟨_, Tryd.func164, by kernel_rfl, rfl⟩⟩
instance fld188_0 : FldF Tryd.prog 188 0 0 := ⟨by kernel_rfl⟩
instance fld188_1 : FldF Tryd.prog 188 1 1 := ⟨by kernel_rfl⟩
instance fld188_2 : FldF Tryd.prog 188 2 2 := ⟨by kernel_rfl⟩
instance fn162 : FnF Tryd.prog 162 := ⟨⟨_, Tryd.func162, by kernel_rfl, rfl⟩⟩
instance zero75 : ZerF Tryd.prog 75 [.string ByteArray.empty, .string ByteArray.empty, .slice none 0 0] := ⟨by kernel_rfl⟩
instance fn163 : FnF Tryd.prog 163 := ⟨⟨_, Tryd.func163, by kernel_rfl, rfl⟩⟩
instance fn156 : FnF Tryd.prog 156 := ⟨⟨_, Tryd.func156, by kernel_rfl, rfl⟩⟩
instance el130 : ElF Tryd.prog 130 188 3 56 [.string ByteArray.empty, .string ByteArray.empty, .slice none 0 0] := ⟨by kernel_rfl⟩
instance agg188 : AggF Tryd.prog 188 3 := ⟨by kernel_rfl⟩
instance fn154 : FnF Tryd.prog 154 := ⟨⟨_, Tryd.func154, by kernel_rfl, rfl⟩⟩
instance fn155 : FnF Tryd.prog 155 := ⟨⟨_, Tryd.func155, by kernel_rfl, rfl⟩⟩
instance fld72_0 : FldF Tryd.prog 72 0 0 := ⟨by kernel_rfl⟩
instance fld72_1 : FldF Tryd.prog 72 1 1 := ⟨by kernel_rfl⟩
instance one70 : OneF Tryd.prog 70 := ⟨by kernel_rfl⟩
instance fn141 : FnF Tryd.prog 141 := ⟨⟨_, Tryd.func141, by kernel_rfl, rfl⟩⟩
instance fld132_0 : FldF Tryd.prog 132 0 0 := ⟨by kernel_rfl⟩
instance fld132_1 : FldF Tryd.prog 132 1 1 := ⟨by kernel_rfl⟩
instance one130 : OneF Tryd.prog 130 := ⟨by kernel_rfl⟩
instance fn137 : FnF Tryd.prog 137 := ⟨⟨_, Tryd.func137, by kernel_rfl, rfl⟩⟩
instance zero72 : ZerF Tryd.prog 72 [.string ByteArray.empty, .slice none 0 0] := ⟨by kernel_rfl⟩
instance fn138 : FnF Tryd.prog 138 := ⟨⟨_, Tryd.func138, by kernel_rfl, rfl⟩⟩
instance fn117 : FnF Tryd.prog 117 := ⟨⟨_, Tryd.func117, by kernel_rfl, rfl⟩⟩
instance el46 : ElF Tryd.prog 46 132 2 40 [.string ByteArray.empty, .slice none 0 0] := ⟨by kernel_rfl⟩
instance agg132 : AggF Tryd.prog 132 2 := ⟨by kernel_rfl⟩
instance fn108 : FnF Tryd.prog 108 := ⟨⟨_, Tryd.func108, by kernel_rfl, rfl⟩⟩
instance fn111 : FnF Tryd.prog 111 := ⟨⟨_, Tryd.func111, by kernel_rfl, rfl⟩⟩
instance fld53_0 : FldF Tryd.prog 53 0 0 := ⟨by kernel_rfl⟩
instance one51 : OneF Tryd.prog 51 := ⟨by kernel_rfl⟩
instance fn80 : FnF Tryd.prog 80 := ⟨⟨_, Tryd.func80, by kernel_rfl, rfl⟩⟩
instance fld48_0 : FldF Tryd.prog 48 0 0 := ⟨by kernel_rfl⟩
instance one46 : OneF Tryd.prog 46 := ⟨by kernel_rfl⟩
instance fn71 : FnF Tryd.prog 71 := ⟨⟨_, Tryd.func71, by kernel_rfl, rfl⟩⟩
instance zero53 : ZerF Tryd.prog 53 [.slice none 0 0] := ⟨by kernel_rfl⟩
instance fn76 : FnF Tryd.prog 76 := ⟨⟨_, Tryd.func76, by kernel_rfl, rfl⟩⟩
instance agg53 : AggF Tryd.prog 53 1 := ⟨by kernel_rfl⟩
end Go.Proofs.SL
namespace Go.Proofs.SL
open Go
set_option maxHeartbeats 2000000
abbrev D_CSnap := ByteArray × ByteArray × (List ByteArray)
abbrev D_CSet := ByteArray × (List D_CSnap)
abbrev D_Catalog := (List D_CSet)
instance fn109 : FnF Tryd.prog 109 := ⟨⟨_, Tryd.func109, by kernel_rfl, rfl⟩⟩
instance fn110 : FnF Tryd.prog 110 := ⟨⟨_, Tryd.func110, by kernel_rfl, rfl⟩⟩
instance fn74 : FnF Tryd.prog 74 := ⟨⟨_, Tryd.func74, by kernel_rfl, rfl⟩⟩
instance fn116 : FnF Tryd.prog 116 := ⟨⟨_, Tryd.func116, by kernel_rfl, rfl⟩⟩
instance fn115 : FnF Tryd.prog 115 := ⟨⟨_, Tryd.func115, by kernel_rfl, rfl⟩⟩
instance fn139 : FnF Tryd.prog 139 := ⟨⟨_, Tryd.func139, by kernel_rfl, rfl⟩⟩
instance fn140 : FnF Tryd.prog 140 := ⟨⟨_, Tryd.func140, by kernel_rfl, rfl⟩⟩
instance fn79 : FnF Tryd.prog 79 := ⟨⟨_, Tryd.func79, by kernel_rfl, rfl⟩⟩
instance fn114 : FnF Tryd.prog 114 := ⟨⟨_, Tryd.func114, by kernel_rfl, rfl⟩⟩
noncomputable def s_l4Word (a0 : ByteArray) : Option Bool :=
  Option.bind (s_l1In (a0.size : Int) 1 8) (fun y1 => cond (!y1) (some false) (whileP (fun s3 : Int => cond (decide (s3 < (a0.size : Int))) (Option.bind (sidx a0 s3) (fun y5 => gb (!(decide (y5 < 97))) (sidx a0 s3) (fun y6 => cond ((decide (y5 < 97)) || (decide (122 < y6))) (Option.map .inr (some false)) (some (.inl (IntKind.wrap .i64 (s3 + 1))))))) (Option.map .inr (some true))) 0))
theorem s_l4Word_walk (w : World) (a0 : ByteArray)  (r : Bool) (hp : s_l4Word a0 = some r) : Spec Tryd.prog 109 [.string a0].toArray w [] (IsV (.bool r)) := by
  refine Spec.intro Tryd.func109 rfl Tryd.ntmps109 rfl ?_
  unfold s_l4Word at hp
  replace hp := dd hp
  refine s9 ?_
  replace hp := ba hp; obtain ⟨y1, hy1, hp⟩ := hp
  refine L_callX rfl fn86.h rfl (by exact fun w hw => s_l1In_walk w (a0.size : Int) 1 8  _ hy1) ?_
  refine s2 ?_
  refine kp [0, 7] ?_
  refine W_cond rfl (fun hc2 => ?_) (fun hc2 => ?_)
  · replace hp := cond_t hc2 hp
    refine s4 ?_
    obtain rfl := Option.some.inj hp
    refine s1 ?_
    refine res1 rfl (ResOK.tmp rfl) ⟨rfl, rfl⟩ ms
  · replace hp := cond_f hc2 hp
    refine s7 ?_
    refine W_while (σ := Int) GT.dat (fun (v3_0 : Int) => [(3, .int .i64 v3_0)]) (fun (v3_0 : Int) => []) [(0, _)] [] 0 hp sb ms ?_
    clear hp
    rintro v3_0 x3 hp hx3
    replace hp := dd hp
    refine kq [0, 3] ?_
    refine s8 ?_
    refine kp [0, 3, 11] ?_
    refine W_cond rfl (fun hc4 => ?_) (fun hc4 => ?_)
    · replace hp := cond_t hc4 hp
      refine s4 ?_
      replace hp := ba hp; obtain ⟨y5, hy5, hp⟩ := hp
      replace hp := gb_any hp; obtain ⟨y6, hy6, hp⟩ := hp
      refine W_D0 [23] mix (by kernel_rfl) rfl ?_
      refine s2 ?_
      refine D_idxS GC.none (OpV.t rfl) (OpV.t rfl) str9.h (fun hg => hy5) ?_
      refine s4 ?_
      refine D_idxS (GC.some rfl rfl) (OpV.s rfl) (OpV.s rfl) str9.h (fun hg => (hy6 (gnot hg.2))) ?_
      refine s14 ?_
      refine kp [0, 3, 23] ?_
      refine W_cond rfl (fun hc7 => ?_) (fun hc7 => ?_)
      · replace hp := cond_t hc7 hp
        refine s4 ?_
        replace hp := map_any hp; obtain ⟨a8, hp, hx_a8⟩ := hp
        obtain rfl := hx3 _ hx_a8
        obtain rfl := Option.some.inj hp
        refine s1 ?_
        refine res1 rfl (ResOK.tmp rfl) ⟨rfl, rfl⟩ ms
      · replace hp := cond_f hc7 hp
        refine s6 ?_
        exact ⟨IntKind.wrap .i64 (v3_0 + 1), sb, (.sub ms), some_eq hp⟩
    · replace hp := cond_f hc4 hp
      refine W_exit ?_
      replace hp := map_any hp; obtain ⟨a9, hp, hx_a9⟩ := hp
      obtain rfl := hx3 _ hx_a9
      refine s4 ?_
      obtain rfl := Option.some.inj hp
      refine s1 ?_
      refine res1 rfl (ResOK.tmp rfl) ⟨rfl, rfl⟩ ms
noncomputable def i_isWord (a0 : ByteArray) : Option Bool :=
  whileP (fun s1 : Int => cond (decide (s1 < (a0.size : Int))) (Option.bind (sidx a0 s1) (fun y3 => gb (!(decide (y3 < 97))) (sidx a0 s1) (fun y4 => cond ((decide (y3 < 97)) || (decide (122 < y4))) (Option.map .inr (some false)) (some (.inl (IntKind.wrap .i64 (s1 + 1))))))) (Option.map .inr (Option.bind (i_within (a0.size : Int) 1 8) (fun y8 => some y8)))) 0
theorem i_isWord_walk (w : World) (a0 : ByteArray)  (r : Bool) (hp : i_isWord a0 = some r) : Spec Tryd.prog 139 [.string a0].toArray w [] (IsV (.bool r)) := by
  refine Spec.intro Tryd.func139 rfl Tryd.ntmps139 rfl ?_
  unfold i_isWord at hp
  replace hp := dd hp
  refine s10 ?_
  refine W_while (σ := Int) GT.dat (fun (v1_0 : Int) => [(3, .int .i64 v1_0)]) (fun (v1_0 : Int) => []) [(0, _)] [] 0 hp sb ms ?_
  clear hp
  rintro v1_0 x1 hp hx1
  replace hp := dd hp
  refine kq [0, 3] ?_
  refine s8 ?_
  refine kp [0, 3, 7] ?_
  refine W_cond rfl (fun hc2 => ?_) (fun hc2 => ?_)
  · replace hp := cond_t hc2 hp
    refine s4 ?_
    replace hp := ba hp; obtain ⟨y3, hy3, hp⟩ := hp
    replace hp := gb_any hp; obtain ⟨y4, hy4, hp⟩ := hp
    refine W_D0 [19] mix (by kernel_rfl) rfl ?_
    refine s2 ?_
    refine D_idxS GC.none (OpV.t rfl) (OpV.t rfl) str9.h (fun hg => hy3) ?_
    refine s4 ?_
    refine D_idxS (GC.some rfl rfl) (OpV.s rfl) (OpV.s rfl) str9.h (fun hg => (hy4 (gnot hg.2))) ?_
    refine s14 ?_
    refine kp [0, 3, 19] ?_
    refine W_cond rfl (fun hc5 => ?_) (fun hc5 => ?_)
    · replace hp := cond_t hc5 hp
      refine s4 ?_
      replace hp := map_any hp; obtain ⟨a6, hp, hx_a6⟩ := hp
      obtain rfl := hx1 _ hx_a6
      obtain rfl := Option.some.inj hp
      refine s1 ?_
      refine res1 rfl (ResOK.tmp rfl) ⟨rfl, rfl⟩ ms
    · replace hp := cond_f hc5 hp
      refine s6 ?_
      exact ⟨IntKind.wrap .i64 (v1_0 + 1), sb, (.sub ms), some_eq hp⟩
  · replace hp := cond_f hc2 hp
    refine W_exit ?_
    replace hp := map_any hp; obtain ⟨a7, hp, hx_a7⟩ := hp
    obtain rfl := hx1 _ hx_a7
    refine s4 ?_
    replace hp := ba hp; obtain ⟨y8, hy8, hp⟩ := hp
    refine L_callX rfl fn102.h rfl (by exact fun w hw => i_within_walk w (a0.size : Int) 1 8  _ hy8) ?_
    refine s2 ?_
    obtain rfl := Option.some.inj hp
    refine s1 ?_
    refine res1 rfl (ResOK.tmp rfl) ⟨rfl, rfl⟩ ms
noncomputable def i_areChunks (a0 : List ByteArray) : Option Bool :=
  whileP (fun s1 : Int => cond (decide (s1 < (a0.length : Int))) (Option.bind (idx a0 s1) (fun y3 => cond (!decide ((y3.size : Int) = 8)) (Option.map .inr (some false)) (some (.inl (IntKind.wrap .i64 (s1 + 1)))))) (Option.map .inr (some true))) 0
theorem i_areChunks_walk (w : World) (a0 : TL ByteArray) (h0 : GT.rd w [] a0) (r : Bool) (hp : i_areChunks (GT.dat a0) = some r) : Spec Tryd.prog 140 [(TL.hdr a0)].toArray w [] (IsV (.bool r)) := by
  refine Spec.intro Tryd.func140 rfl Tryd.ntmps140 rfl ?_
  unfold i_areChunks at hp
  replace hp := dd hp
  refine s12 ?_
  refine W_while (σ := Int) GT.dat (fun (v1_0 : Int) => [(7, .int .i64 v1_0)]) (fun (v1_0 : Int) => []) [(5, _), (6, _)] [] 0 hp sb ms ?_
  clear hp
  rintro v1_0 x1 hp hx1
  replace hp := dd hp
  refine kq [5, 6, 7] ?_
  refine s5 ?_
  refine kp [5, 6, 7, 8] ?_
  refine W_cond rfl (fun hc2 => ?_) (fun hc2 => ?_)
  · replace hp := cond_t hc2 hp
    refine s5 ?_
    replace hp := idx_bind hp; obtain ⟨u3, hy3, hp⟩ := hp
    refine L_idxA (X := a0) rfl rfl rfl el73.h (RdT.old h0) hy3 ?_
    refine L_load0 rfl rfl (RdT.at (RdT.old h0) (hy3).2) one9.h rfl ?_
    refine s8 ?_
    refine kp [5, 6, 7, 13] ?_
    refine W_cond rfl (fun hc4 => ?_) (fun hc4 => ?_)
    · replace hp := cond_t hc4 hp
      refine s4 ?_
      replace hp := map_any hp; obtain ⟨a5, hp, hx_a5⟩ := hp
      obtain rfl := hx1 _ hx_a5
      obtain rfl := Option.some.inj hp
      refine s1 ?_
      refine res1 rfl (ResOK.tmp rfl) ⟨rfl, rfl⟩ ms
    · replace hp := cond_f hc4 hp
      refine s5 ?_
      exact ⟨IntKind.wrap .i64 (v1_0 + 1), sb, (.sub ms), some_eq hp⟩
  · replace hp := cond_f hc2 hp
    refine W_exit ?_
    replace hp := map_any hp; obtain ⟨a6, hp, hx_a6⟩ := hp
    obtain rfl := hx1 _ hx_a6
    refine s4 ?_
    obtain rfl := Option.some.inj hp
    refine s1 ?_
    refine res1 rfl (ResOK.tmp rfl) ⟨rfl, rfl⟩ ms
noncomputable def s_l15Snap (a0 : D_CSnap) : Option Bool :=
  Option.bind (s_l4Word a0.1) (fun y1 => gb ((!(!y1)) && (!decide (a0.2.1 = ByteArray.empty))) (s_l4Word a0.2.1) (fun y2 => gb (!((!y1) || ((!decide (a0.2.1 = ByteArray.empty)) && (!y2)))) (s_l1In (a0.2.2.length : Int) 1 4) (fun y3 => cond (((!y1) || ((!decide (a0.2.1 = ByteArray.empty)) && (!y2))) || (!y3)) (some false) (whileP (fun s5 : Int => cond (decide (s5 < (a0.2.2.length : Int))) (Option.bind (idx a0.2.2 s5) (fun y7 => cond (!decide ((y7.size : Int) = 8)) (Option.map .inr (some false)) (some (.inl (IntKind.wrap .i64 (s5 + 1)))))) (Option.map .inr (some true))) 0))))
theorem s_l15Snap_walk (w : World) (a0 : T_CSnap) (h0 : GT.rd w [] a0) (r : Bool) (hp : s_l15Snap (GT.dat a0) = some r) : Spec Tryd.prog 110 [.agg (GT.cells a0).toArray].toArray w [] (IsV (.bool r)) := by
  obtain ⟨a0_1, a0_2, a0_3⟩ := a0
  change Spec _ _ ([Value.agg #[.string a0_1, .string a0_2, (TL.hdr a0_3)]] : List Value).toArray w [] _
  refine Spec.intro Tryd.func110 rfl Tryd.ntmps110 rfl ?_
  unfold s_l15Snap at hp
  replace hp := dd hp
  refine s2 ?_
  refine bx fun bk1 => ?_
  refine s4 ?_
  replace hp := ba hp; obtain ⟨y1, hy1, hp⟩ := hp
  replace hp := gb_any hp; obtain ⟨y2, hy2, hp⟩ := hp
  replace hp := gb_any hp; obtain ⟨y3, hy3, hp⟩ := hp
  refine W_D0 [25] mix (by kernel_rfl) rfl ?_
  refine s2 ?_
  refine D_callX GC.none fn109.h (OpVs.cons (OpV.t rfl) (OpVs.nil)) (by exact fun hg w F hF hM => s_l4Word_walk w a0_1  _ hy1) ?_
  refine s8 ?_
  refine D_callX (GC.some rfl rfl) fn109.h (OpVs.cons (OpV.s rfl) (OpVs.nil)) (by exact fun hg w F hF hM => s_l4Word_walk w a0_2  _ (hy2 (gand (gnot hg.1.2) hg.2))) ?_
  refine s6 ?_
  refine D_lenP (X := a0_3) (GC.some rfl rfl) (OpV.s rfl) el73.h ?_
  refine D_callX (GC.some rfl rfl) fn86.h (OpVs.cons (OpV.s rfl) (OpVs.cons OpV.c (OpVs.cons OpV.c (OpVs.nil)))) (by exact fun hg w F hF hM => s_l1In_walk w ((GT.dat a0_3).length : Int) 1 4  _ (hy3 (gnot hg.2))) ?_
  refine s20 ?_
  refine s6 ?_
  refine kp [1, 25] ?_
  refine W_cond rfl (fun hc4 => ?_) (fun hc4 => ?_)
  · replace hp := cond_t hc4 hp
    refine s4 ?_
    obtain rfl := Option.some.inj hp
    refine s1 ?_
    refine res1 rfl (ResOK.tmp rfl) ⟨rfl, rfl⟩ ms
  · replace hp := cond_f hc4 hp
    refine s7 ?_
    refine W_while (σ := Int) GT.dat (fun (v5_0 : Int) => [(3, .int .i64 v5_0)]) (fun (v5_0 : Int) => []) [(1, _)] [blk bk1 _ _] 0 hp sb ms ?_
    clear hp
    rintro v5_0 x5 hp hx5
    replace hp := dd hp
    refine kq [1, 3] ?_
    refine s9 ?_
    refine kp [1, 3, 30] ?_
    refine W_cond rfl (fun hc6 => ?_) (fun hc6 => ?_)
    · replace hp := cond_t hc6 hp
      refine s8 ?_
      replace hp := idx_bind hp; obtain ⟨u7, hy7, hp⟩ := hp
      refine L_idxA (X := a0_3) rfl rfl rfl el73.h (RdT.old h0.2.2) hy7 ?_
      refine L_load0 rfl rfl (RdT.at (RdT.old h0.2.2) (hy7).2) one9.h rfl ?_
      refine s3 ?_
      refine kp [1, 3, 39] ?_
      refine W_cond rfl (fun hc8 => ?_) (fun hc8 => ?_)
      · replace hp := cond_t hc8 hp
        refine s4 ?_
        replace hp := map_any hp; obtain ⟨a9, hp, hx_a9⟩ := hp
        obtain rfl := hx5 _ hx_a9
        obtain rfl := Option.some.inj hp
        refine s1 ?_
        refine res1 rfl (ResOK.tmp rfl) ⟨rfl, rfl⟩ ms
      · replace hp := cond_f hc8 hp
        refine s6 ?_
        exact ⟨IntKind.wrap .i64 (v5_0 + 1), sb, (.sub ms), some_eq hp⟩
    · replace hp := cond_f hc6 hp
      refine W_exit ?_
      replace hp := map_any hp; obtain ⟨a10, hp, hx_a10⟩ := hp
      obtain rfl := hx5 _ hx_a10
      refine s4 ?_
      obtain rfl := Option.some.inj hp
      refine s1 ?_
      refine res1 rfl (ResOK.tmp rfl) ⟨rfl, rfl⟩ ms
noncomputable def s_l15Find (a0 : D_CSet) (a1 : ByteArray) : Option Int :=
  whileP (fun s1 : Int => cond (decide (s1 < (a0.2.length : Int))) (Option.bind (idx a0.2 s1) (fun y3 => cond (decide (y3.1 = a1)) (Option.map .inr (some s1)) (some (.inl (IntKind.wrap .i64 (s1 + 1)))))) (Option.map .inr (some (-1)))) 0
theorem s_l15Find_walk (w : World) (a0 : T_CSet) (a1 : ByteArray) (h0 : GT.rd w [] a0) (r : Int) (hp : s_l15Find (GT.dat a0) a1 = some r) : Spec Tryd.prog 74 [.agg (GT.cells a0).toArray, .string a1].toArray w [] (IsV (.int .i64 r)) := by
  obtain ⟨a0_1, a0_2⟩ := a0
  change Spec _ _ ([Value.agg #[.string a0_1, (TL.hdr a0_2)], .string a1] : List Value).toArray w [] _
  refine Spec.intro Tryd.func74 rfl Tryd.ntmps74 rfl ?_
  unfold s_l15Find at hp
  replace hp := dd hp
  refine s2 ?_
  refine bx fun bk2 => ?_
  refine s8 ?_
  refine W_while (σ := Int) GT.dat (fun (v1_0 : Int) => [(5, .int .i64 v1_0)]) (fun (v1_0 : Int) => []) [(1, _), (2, _)] [blk bk2 _ _] 0 hp sb ms ?_
  clear hp
  rintro v1_0 x1 hp hx1
  replace hp := dd hp
  refine kq [1, 2, 5] ?_
  refine s9 ?_
  refine kp [1, 2, 5, 10] ?_
  refine W_cond rfl (fun hc2 => ?_) (fun hc2 => ?_)
  · replace hp := cond_t hc2 hp
    refine s8 ?_
    replace hp := idx_bind hp; obtain ⟨⟨u3_1, u3_2, u3_3⟩, hy3, hp⟩ := hp
    refine L_idxA (X := a0_2) rfl rfl rfl el70.h (RdT.old h0.2) hy3 ?_
    refine s1 ?_
    refine L_load rfl rfl (RdT.at (RdT.old h0.2) (hy3).2) one9.h rfl ?_
    refine s3 ?_
    refine kp [1, 2, 5, 20] ?_
    refine W_cond rfl (fun hc4 => ?_) (fun hc4 => ?_)
    · replace hp := cond_t hc4 hp
      refine s5 ?_
      replace hp := map_any hp; obtain ⟨a5, hp, hx_a5⟩ := hp
      obtain rfl := hx1 _ hx_a5
      obtain rfl := Option.some.inj hp
      refine s1 ?_
      refine res1 rfl (ResOK.tmp rfl) ⟨rfl, rfl⟩ ms
    · replace hp := cond_f hc4 hp
      refine s6 ?_
      exact ⟨IntKind.wrap .i64 (v1_0 + 1), sb, (.sub ms), some_eq hp⟩
  · replace hp := cond_f hc2 hp
    refine W_exit ?_
    replace hp := map_any hp; obtain ⟨a6, hp, hx_a6⟩ := hp
    obtain rfl := hx1 _ hx_a6
    refine s4 ?_
    obtain rfl := Option.some.inj hp
    refine s1 ?_
    refine res1 rfl (ResOK.tmp rfl) ⟨rfl, rfl⟩ ms
noncomputable def s_CatOk (a0 : D_Catalog) : Option Bool :=
  cond (decide (5 < (a0.length : Int))) (some false) (whileP (fun s2 : Int => cond (decide (s2 < (a0.length : Int))) (Option.bind (idx a0 s2) (fun y4 => Option.bind (s_l4Word y4.1) (fun y5 => gb ((!(!y5)) && (decide (0 < s2))) (idx a0 (IntKind.wrap .i64 (s2 - 1))) (fun y6 => cond (((!y5) || ((decide (0 < s2)) && (!sLt y6.1 y4.1))) || (decide (5 < (y4.2.length : Int)))) (Option.map .inr (some false)) (whileP (fun s9 : Int => cond (decide (s9 < (y4.2.length : Int))) (Option.bind (idx y4.2 s9) (fun y11 => Option.bind (s_l15Snap (y11.1, y11.2.1, y11.2.2)) (fun y12 => gb (!(!y12)) (idx y4.2 s9) (fun y13 => gb (!(!y12)) (s_l15Find (y4.1, y4.2) y13.1) (fun y14 => cond ((!y12) || (!decide (y14 = s9))) (Option.map .inr (Option.map .inr (some false))) (some (.inl (IntKind.wrap .i64 (s9 + 1))))))))) (Option.map .inr (some (.inl (IntKind.wrap .i64 (s2 + 1)))))) 0))))) (Option.map .inr (some true))) 0)
theorem s_CatOk_walk (w : World) (a0 : T_Catalog) (h0 : GT.rd w [] a0) (r : Bool) (hp : s_CatOk (GT.dat a0) = some r) : Spec Tryd.prog 73 [.agg (GT.cells a0).toArray].toArray w [] (IsV (.bool r)) := by
  change Spec _ _ ([Value.agg #[(TL.hdr a0)]] : List Value).toArray w [] _
  refine Spec.intro Tryd.func73 rfl Tryd.ntmps73 rfl ?_
  unfold s_CatOk at hp
  replace hp := dd hp
  refine s2 ?_
  refine bx fun bk1 => ?_
  refine s10 ?_
  refine kp [1, 9] ?_
  refine W_cond rfl (fun hc1 => ?_) (fun hc1 => ?_)
  · replace hp := cond_t hc1 hp
    refine s4 ?_
    obtain rfl := Option.some.inj hp
    refine s1 ?_
    refine res1 rfl (ResOK.tmp rfl) ⟨rfl, rfl⟩ ms
  · replace hp := cond_f hc1 hp
    refine s7 ?_
    refine W_while (σ := Int) GT.dat (fun (v2_0 : Int) => [(3, .int .i64 v2_0)]) (fun (v2_0 : Int) => []) [(1, _)] [blk bk1 _ _] 0 hp sb ms ?_
    clear hp
    rintro v2_0 x2 hp hx2
    replace hp := dd hp
    refine kq [1, 3] ?_
    refine s9 ?_
    refine kp [1, 3, 14] ?_
    refine W_cond rfl (fun hc3 => ?_) (fun hc3 => ?_)
    · replace hp := cond_t hc3 hp
      refine s8 ?_
      replace hp := idx_bind hp; obtain ⟨⟨u4_1, u4_2⟩, hy4, hp⟩ := hp
      refine L_idxA (X := a0) rfl rfl rfl el51.h (RdT.old h0) hy4 ?_
      refine L_loadW rfl rfl (RdT.at (RdT.old h0) (hy4).2) (by exact agg72.h) ?_
      refine al fun bk4 => ?_
      refine s4 ?_
      replace hp := ba hp; obtain ⟨y5, hy5, hp⟩ := hp
      replace hp := idx_gb hp; obtain ⟨⟨u6_1, u6_2⟩, hy6, hp⟩ := hp
      refine W_D0 [47] mix (by kernel_rfl) rfl ?_
      refine s2 ?_
      refine D_callX GC.none fn109.h (OpVs.cons (OpV.t rfl) (OpVs.nil)) (by exact fun hg w F hF hM => s_l4Word_walk w u4_1  _ hy5) ?_
      refine s9 ?_
      refine D_idxA (X := a0) (GC.some rfl rfl) (OpV.s rfl) (OpV.s rfl) el51.h (RdT.old h0) (fun hg => hy6 (gand (gnot hg.1.2) hg.2)) ?_
      refine s1 ?_
      refine D_load (GC.some rfl rfl) (OpV.s rfl) (fun hg => RdT.at (RdT.old h0) (hy6 (gand (gnot hg.1.2) hg.2)).2) one9.h rfl ?_
      refine s8 ?_
      refine D_lenP (X := u4_2) (GC.some rfl rfl) (OpV.s rfl) el70.h ?_
      refine s20 ?_
      refine s10 ?_
      refine kp [1, 3, 4, 47] ?_
      refine W_cond rfl (fun hc7 => ?_) (fun hc7 => ?_)
      · replace hp := cond_t hc7 hp
        refine s4 ?_
        replace hp := map_any hp; obtain ⟨a8, hp, hx_a8⟩ := hp
        obtain rfl := hx2 _ hx_a8
        obtain rfl := Option.some.inj hp
        refine s1 ?_
        refine res1 rfl (ResOK.tmp rfl) ⟨rfl, rfl⟩ ms
      · replace hp := cond_f hc7 hp
        refine s6 ?_
        refine W_while (σ := Int) GT.dat (fun (v9_0 : Int) => [(5, .int .i64 v9_0)]) (fun (v9_0 : Int) => []) [(1, _), (3, _), (4, _)] [blk bk1 _ _, blk bk4 _ _] 0 hp sb ms ?_
        clear hp
        rintro v9_0 x9 hp hx9
        replace hp := dd hp
        refine kq [1, 3, 4, 5] ?_
        refine s9 ?_
        refine kp [1, 3, 4, 5, 52] ?_
        refine W_cond rfl (fun hc10 => ?_) (fun hc10 => ?_)
        · replace hp := cond_t hc10 hp
          refine s4 ?_
          replace hp := idx_bind hp; obtain ⟨⟨u11_1, u11_2, u11_3⟩, hy11, hp⟩ := hp
          replace hp := ba hp; obtain ⟨y12, hy12, hp⟩ := hp
          replace hp := idx_gb hp; obtain ⟨⟨u13_1, u13_2, u13_3⟩, hy13, hp⟩ := hp
          replace hp := gb_any hp; obtain ⟨y14, hy14, hp⟩ := hp
          refine W_D0 [73] mix (by kernel_rfl) rfl ?_
          refine s3 ?_
          refine D_idxA (X := u4_2) GC.none (OpV.t rfl) (OpV.t rfl) el70.h (RdT.snd (RdT.of (RdT.old h0) (hy4).2)) (fun _ => hy11) ?_
          refine D_loadW GC.none (OpV.t rfl) (fun hg => RdT.at (RdT.snd (RdT.of (RdT.old h0) (hy4).2)) (hy11).2) (by exact agg75.h) ?_
          refine D_callX GC.none fn110.h (OpVs.cons (OpV.t rfl) (OpVs.nil)) (by exact fun hg w F hF hM => s_l15Snap_walk w (u11_1, u11_2, u11_3) (RdT.nowS (RdT.pair RdT.str (RdT.pair RdT.str (RdT.snd (RdT.snd (RdT.of (RdT.snd (RdT.of (RdT.old h0) (hy4).2)) (hy11).2))))) hF hM) _ hy12) ?_
          refine s6 ?_
          refine D_idxA (X := u4_2) (GC.some rfl rfl) (OpV.s rfl) (OpV.s rfl) el70.h (RdT.snd (RdT.of (RdT.old h0) (hy4).2)) (fun hg => hy13 (gnot hg.2)) ?_
          refine s1 ?_
          refine D_load (GC.some rfl rfl) (OpV.s rfl) (fun hg => RdT.at (RdT.snd (RdT.of (RdT.old h0) (hy4).2)) (hy13 (gnot hg.2)).2) one9.h rfl ?_
          refine D_callX (GC.some rfl rfl) fn74.h (OpVs.cons (OpV.s rfl) (OpVs.cons (OpV.s rfl) (OpVs.nil))) (by exact fun hg w F hF hM => s_l15Find_walk w (u4_1, u4_2) u13_1 (RdT.nowS (RdT.pair RdT.str (RdT.snd (RdT.of (RdT.old h0) (hy4).2))) hF hM) _ (hy14 (gnot hg.2))) ?_
          refine s20 ?_
          refine s4 ?_
          refine kp [1, 3, 4, 5, 73] ?_
          refine W_cond rfl (fun hc15 => ?_) (fun hc15 => ?_)
          · replace hp := cond_t hc15 hp
            refine s4 ?_
            replace hp := map_any hp; obtain ⟨a16, hp, hx_a16⟩ := hp
            obtain rfl := hx9 _ hx_a16
            replace hp := map_any hp; obtain ⟨a17, hp, hx_a17⟩ := hp
            obtain rfl := hx2 _ hx_a17
            obtain rfl := Option.some.inj hp
            refine s1 ?_
            refine res1 rfl (ResOK.tmp rfl) ⟨rfl, rfl⟩ ms
          · replace hp := cond_f hc15 hp
            refine s6 ?_
            exact ⟨IntKind.wrap .i64 (v9_0 + 1), sb, (.sub ms), some_eq hp⟩
        · replace hp := cond_f hc10 hp
          refine W_exit ?_
          replace hp := map_any hp; obtain ⟨a18, hp, hx_a18⟩ := hp
          obtain rfl := hx9 _ hx_a18
          refine s5 ?_
          exact ⟨IntKind.wrap .i64 (v2_0 + 1), sb, (.sub ms), some_eq hp⟩
    · replace hp := cond_f hc3 hp
      refine W_exit ?_
      replace hp := map_any hp; obtain ⟨a19, hp, hx_a19⟩ := hp
      obtain rfl := hx2 _ hx_a19
      refine s4 ?_
      obtain rfl := Option.some.inj hp
      refine s1 ?_
      refine res1 rfl (ResOK.tmp rfl) ⟨rfl, rfl⟩ ms
noncomputable def i_CSet_snap_c1 (a0 : D_CSnap) (c0 : ByteArray) : Option Bool :=
  some (decide (a0.1 = c0))
theorem i_CSet_snap_c1_walk (w : World) (a0 : T_CSnap) (b0 : Nat) (c0 : ByteArray) (h0 : GT.rd w [] a0) (hb0 : Cells w [] b0 0 (GT.cells c0)) (hc0 : GT.rd w [] c0) (r : Bool) (hp : i_CSet_snap_c1 (GT.dat a0) c0 = some r) : Spec Tryd.prog 116 ([(.agg (GT.cells a0).toArray : Value)] ++ [Value.pointer (some ⟨b0, 0, none⟩)]).toArray w [] (IsV (.bool r)) := by
  obtain ⟨a0_1, a0_2, a0_3⟩ := a0
  change Spec _ _ ([Value.agg #[.string a0_1, .string a0_2, (TL.hdr a0_3)], Value.pointer (some ⟨b0, 0, none⟩)] : List Value).toArray w [] _
  refine Spec.intro Tryd.func116 rfl Tryd.ntmps116 rfl ?_
  unfold i_CSet_snap_c1 at hp
  replace hp := dd hp
  refine s2 ?_
  refine bx fun bk2 => ?_
  refine s6 ?_
  refine L_load0 rfl rfl (RdC.old hb0) one9.h rfl ?_
  refine s3 ?_
  obtain rfl := Option.some.inj hp
  refine s1 ?_
  refine res1 rfl (ResOK.tmp rfl) ⟨rfl, rfl⟩ ms
noncomputable def sl_IndexFunc_implCSnapimplCSnap (a0 : List D_CSnap) (a1 : D_CSnap → Option Bool) : Option Int :=
  whileP (fun s1 : Int => cond (decide (s1 < (a0.length : Int))) (Option.bind (idx a0 s1) (fun y3 => Option.bind (a1 (y3.1, y3.2.1, y3.2.2)) (fun y4 => cond y4 (Option.map .inr (some s1)) (some (.inl (IntKind.wrap .i64 (s1 + 1))))))) (Option.map .inr (some (-1)))) 0
theorem sl_IndexFunc_implCSnapimplCSnap_walk (w : World) (a0 : TL T_CSnap) (f1 : Nat) (cs1 : List Value) (a1 : D_CSnap → Option Bool) (h0 : GT.rd w [] a0) (hf1 : IsFn Tryd.prog f1) (hk1 : ∀ (w' : World) (F : List HP) (u0 : T_CSnap) (v : Bool), Holds w [] F w' → GT.rd w' [] u0 → a1 (GT.dat u0) = some v → Spec Tryd.prog f1 ([Value.agg (GT.cells u0).toArray] ++ cs1).toArray w' [] (IsV (.bool v))) (r : Int) (hp : sl_IndexFunc_implCSnapimplCSnap (GT.dat a0) a1 = some r) : Spec Tryd.prog 115 [(TL.hdr a0), .func (.func f1) #[] cs1.toArray].toArray w [] (IsV (.int .i64 r)) := by
  refine Spec.intro Tryd.func115 rfl Tryd.ntmps115 rfl ?_
  unfold sl_IndexFunc_implCSnapimplCSnap at hp
  replace hp := dd hp
  refine s12 ?_
  refine W_while (σ := Int) GT.dat (fun (v1_0 : Int) => [(8, .int .i64 v1_0)]) (fun (v1_0 : Int) => []) [(0, _), (1, _), (7, _)] [] 0 hp sb ms ?_
  clear hp
  rintro v1_0 x1 hp hx1
  replace hp := dd hp
  refine kq [0, 1, 7, 8] ?_
  refine s5 ?_
  refine kp [0, 1, 7, 8, 9] ?_
  refine W_cond rfl (fun hc2 => ?_) (fun hc2 => ?_)
  · replace hp := cond_t hc2 hp
    refine s13 ?_
    replace hp := idx_bind hp; obtain ⟨⟨u3_1, u3_2, u3_3⟩, hy3, hp⟩ := hp
    refine L_idxA (X := a0) rfl rfl rfl el70.h (RdT.old h0) hy3 ?_
    refine L_loadW rfl rfl (RdT.at (RdT.old h0) (hy3).2) (by exact agg75.h) ?_
    replace hp := ba hp; obtain ⟨y4, hy4, hp⟩ := hp
    refine L_callVX rfl rfl hf1 rfl (by exact fun w hw => hk1 w _ (u3_1, u3_2, u3_3) y4 hw (RdT.now (RdT.pair RdT.str (RdT.pair RdT.str (RdT.snd (RdT.snd (RdT.of (RdT.old h0) (hy3).2))))) hw) hy4) ?_
    refine s1 ?_
    refine kp [0, 1, 5, 7, 8, 16] ?_
    refine W_cond rfl (fun hc5 => ?_) (fun hc5 => ?_)
    · replace hp := cond_t hc5 hp
      refine s5 ?_
      replace hp := map_any hp; obtain ⟨a6, hp, hx_a6⟩ := hp
      obtain rfl := hx1 _ hx_a6
      obtain rfl := Option.some.inj hp
      refine s1 ?_
      refine res1 rfl (ResOK.tmp rfl) ⟨rfl, rfl⟩ ms
    · replace hp := cond_f hc5 hp
      refine s5 ?_
      exact ⟨IntKind.wrap .i64 (v1_0 + 1), sb, (.sub ms), some_eq hp⟩
  · replace hp := cond_f hc2 hp
    refine W_exit ?_
    replace hp := map_any hp; obtain ⟨a7, hp, hx_a7⟩ := hp
    obtain rfl := hx1 _ hx_a7
    refine s4 ?_
    obtain rfl := Option.some.inj hp
    refine s1 ?_
    refine res1 rfl (ResOK.tmp rfl) ⟨rfl, rfl⟩ ms
noncomputable def i_CSet_snap (a0 : D_CSet) (a1 : ByteArray) : Option Int :=
  Option.bind (sl_IndexFunc_implCSnapimplCSnap a0.2 (fun z0 => i_CSet_snap_c1 z0 a1)) (fun y1 => some y1)
theorem i_CSet_snap_walk (w : World) (a0 : T_CSet) (a1 : ByteArray) (h0 : GT.rd w [] a0) (r : Int) (hp : i_CSet_snap (GT.dat a0) a1 = some r) : Spec Tryd.prog 79 [.agg (GT.cells a0).toArray, .string a1].toArray w [] (IsV (.int .i64 r)) := by
  obtain ⟨a0_1, a0_2⟩ := a0
  change Spec _ _ ([Value.agg #[.string a0_1, (TL.hdr a0_2)], .string a1] : List Value).toArray w [] _
  refine Spec.intro Tryd.func79 rfl Tryd.ntmps79 rfl ?_
  unfold i_CSet_snap at hp
  replace hp := dd hp
  refine s2 ?_
  refine bx fun bk2 => ?_
  refine bx fun bk3 => ?_
  refine s6 ?_
  refine L_makeFunc (fs := []) (cs := [.tmp 3]) rfl rfl rfl ?_
  replace hp := ba hp; obtain ⟨y1, hy1, hp⟩ := hp
  refine L_callX rfl fn115.h rfl (by exact fun w hw => sl_IndexFunc_implCSnapimplCSnap_walk w a0_2 116 [Value.pointer (some ⟨bk3, 0, none⟩)] (fun z0 => i_CSet_snap_c1 z0 a1) (RdT.now (RdT.old h0.2) hw) fn116.h (fun w' F u0 v hF hu0 hv => i_CSet_snap_c1_walk w' u0 bk3 a1 hu0 ((cells_of_blk mm hw.sees).carry hF) (rd_carry (RdT.now RdT.str hw) hF) v hv) _ hy1) ?_
  refine s2 ?_
  obtain rfl := Option.some.inj hp
  refine s1 ?_
  refine res1 rfl (ResOK.tmp rfl) ⟨rfl, rfl⟩ ms
noncomputable def i_setOk (a0 : D_CSet) : Option Bool :=
  whileP (fun s1 : Int => cond (decide (s1 < (a0.2.length : Int))) (Option.bind (idx a0.2 s1) (fun y3 => Option.bind (i_isWord y3.1) (fun y4 => gb ((!(!y4)) && (!decide (y3.2.1 = ByteArray.empty))) (i_isWord y3.2.1) (fun y5 => gb (!((!y4) || ((!decide (y3.2.1 = ByteArray.empty)) && (!y5)))) (i_within (y3.2.2.length : Int) 1 4) (fun y6 => gb (!(((!y4) || ((!decide (y3.2.1 = ByteArray.empty)) && (!y5))) || (!y6))) (i_areChunks y3.2.2) (fun y7 => gb (!((((!y4) || ((!decide (y3.2.1 = ByteArray.empty)) && (!y5))) || (!y6)) || (!y7))) (i_CSet_snap (a0.1, a0.2) y3.1) (fun y8 => cond (((((!y4) || ((!decide (y3.2.1 = ByteArray.empty)) && (!y5))) || (!y6)) || (!y7)) || (!decide (y8 = s1))) (Option.map .inr (some false)) (some (.inl (IntKind.wrap .i64 (s1 + 1))))))))))) (Option.map .inr (Option.bind (i_isWord a0.1) (fun y12 => some (y12 && (decide ((a0.2.length : Int) ≤ 5))))))) 0
theorem i_setOk_walk (w : World) (a0 : T_CSet) (h0 : GT.rd w [] a0) (r : Bool) (hp : i_setOk (GT.dat a0) = some r) : Spec Tryd.prog 114 [.agg (GT.cells a0).toArray].toArray w [] (IsV (.bool r)) := by
  obtain ⟨a0_1, a0_2⟩ := a0
  change Spec _ _ ([Value.agg #[.string a0_1, (TL.hdr a0_2)]] : List Value).toArray w [] _
  refine Spec.intro Tryd.func114 rfl Tryd.ntmps114 rfl ?_
  unfold i_setOk at hp
  replace hp := dd hp
  refine s2 ?_
  refine bx fun bk1 => ?_
  refine s11 ?_
  refine W_while (σ := Int) GT.dat (fun (v1_0 : Int) => [(8, .int .i64 v1_0)]) (fun (v1_0 : Int) => []) [(1, _), (6, _), (7, _)] [blk bk1 _ _] 0 hp sb ms ?_
  clear hp
  rintro v1_0 x1 hp hx1
  replace hp := dd hp
  refine kq [1, 6, 7, 8] ?_
  refine s5 ?_
  refine kp [1, 6, 7, 8, 9] ?_
  refine W_cond rfl (fun hc2 => ?_) (fun hc2 => ?_)
  · replace hp := cond_t hc2 hp
    refine s6 ?_
    replace hp := idx_bind hp; obtain ⟨⟨u3_1, u3_2, u3_3⟩, hy3, hp⟩ := hp
    refine L_idxA (X := a0_2) rfl rfl rfl el70.h (RdT.old h0.2) hy3 ?_
    refine L_loadW rfl rfl (RdT.at (RdT.old h0.2) (hy3).2) (by exact agg75.h) ?_
    refine al fun bk4 => ?_
    refine s4 ?_
    replace hp := ba hp; obtain ⟨y4, hy4, hp⟩ := hp
    replace hp := gb_any hp; obtain ⟨y5, hy5, hp⟩ := hp
    replace hp := gb_any hp; obtain ⟨y6, hy6, hp⟩ := hp
    replace hp := gb_any hp; obtain ⟨y7, hy7, hp⟩ := hp
    replace hp := gb_any hp; obtain ⟨y8, hy8, hp⟩ := hp
    refine W_D0 [48] mix (by kernel_rfl) rfl ?_
    refine s2 ?_
    refine D_callX GC.none fn139.h (OpVs.cons (OpV.t rfl) (OpVs.nil)) (by exact fun hg w F hF hM => i_isWord_walk w u3_1  _ hy4) ?_
    refine s8 ?_
    refine D_callX (GC.some rfl rfl) fn139.h (OpVs.cons (OpV.s rfl) (OpVs.nil)) (by exact fun hg w F hF hM => i_isWord_walk w u3_2  _ (hy5 (gand (gnot hg.1.2) hg.2))) ?_
    refine s6 ?_
    refine D_lenP (X := u3_3) (GC.some rfl rfl) (OpV.s rfl) el73.h ?_
    refine D_callX (GC.some rfl rfl) fn102.h (OpVs.cons (OpV.s rfl) (OpVs.cons OpV.c (OpVs.cons OpV.c (OpVs.nil)))) (by exact fun hg w F hF hM => i_within_walk w ((GT.dat u3_3).length : Int) 1 4  _ (hy6 (gnot hg.2))) ?_
    refine s5 ?_
    refine D_callX (GC.some rfl rfl) fn140.h (OpVs.cons (OpV.s rfl) (OpVs.nil)) (by exact fun hg w F hF hM => i_areChunks_walk w u3_3 (RdT.nowS (RdT.snd (RdT.snd (RdT.of (RdT.old h0.2) (hy3).2))) hF hM) _ (hy7 (gnot hg.2))) ?_
    refine s6 ?_
    refine D_callX (GC.some rfl rfl) fn79.h (OpVs.cons (OpV.s rfl) (OpVs.cons (OpV.s rfl) (OpVs.nil))) (by exact fun hg w F hF hM => i_CSet_snap_walk w (a0_1, a0_2) u3_1 (RdT.nowS (RdT.pair RdT.str (RdT.old h0.2)) hF hM) _ (hy8 (gnot hg.2))) ?_
    refine s20 ?_
    refine s20 ?_
    refine s1 ?_
    refine kp [1, 6, 7, 8, 48] ?_
    refine W_cond rfl (fun hc9 => ?_) (fun hc9 => ?_)
    · replace hp := cond_t hc9 hp
      refine s4 ?_
      replace hp := map_any hp; obtain ⟨a10, hp, hx_a10⟩ := hp
      obtain rfl := hx1 _ hx_a10
      obtain rfl := Option.some.inj hp
      refine s1 ?_
      refine res1 rfl (ResOK.tmp rfl) ⟨rfl, rfl⟩ ms
    · replace hp := cond_f hc9 hp
      refine s5 ?_
      exact ⟨IntKind.wrap .i64 (v1_0 + 1), sb, (.sub ms), some_eq hp⟩
  · replace hp := cond_f hc2 hp
    refine W_exit ?_
    replace hp := map_any hp; obtain ⟨a11, hp, hx_a11⟩ := hp
    obtain rfl := hx1 _ hx_a11
    refine s1 ?_
    replace hp := ba hp; obtain ⟨y12, hy12, hp⟩ := hp
    refine W_D0 [2] mix (by kernel_rfl) rfl ?_
    refine s2 ?_
    refine D_callX GC.none fn139.h (OpVs.cons (OpV.t rfl) (OpVs.nil)) (by exact fun hg w F hF hM => i_isWord_walk w a0_1  _ hy12) ?_
    refine s3 ?_
    refine D_lenP (X := a0_2) (GC.some rfl rfl) (OpV.s rfl) el70.h ?_
    refine s15 ?_
    obtain rfl := Option.some.inj hp
    refine s1 ?_
    refine res1 rfl (ResOK.tmp rfl) ⟨rfl, rfl⟩ ms
noncomputable def i_CatOk (a0 : D_Catalog) : Option Bool :=
  whileP (fun s1 : Int => cond (decide (s1 < (a0.length : Int))) (Option.bind (idx a0 s1) (fun y3 => Option.bind (i_setOk (y3.1, y3.2)) (fun y4 => gb ((!(!y4)) && (decide (0 < s1))) (idx a0 (IntKind.wrap .i64 (s1 - 1))) (fun y5 => cond ((!y4) || ((decide (0 < s1)) && (!sLt y5.1 y3.1))) (Option.map .inr (some false)) (some (.inl (IntKind.wrap .i64 (s1 + 1)))))))) (Option.map .inr (some (decide ((a0.length : Int) ≤ 5))))) 0
theorem i_CatOk_walk (w : World) (a0 : T_Catalog) (h0 : GT.rd w [] a0) (r : Bool) (hp : i_CatOk (GT.dat a0) = some r) : Spec Tryd.prog 78 [.agg (GT.cells a0).toArray].toArray w [] (IsV (.bool r)) := by
  change Spec _ _ ([Value.agg #[(TL.hdr a0)]] : List Value).toArray w [] _
  refine Spec.intro Tryd.func78 rfl Tryd.ntmps78 rfl ?_
  unfold i_CatOk at hp
  replace hp := dd hp
  refine s2 ?_
  refine bx fun bk1 => ?_
  refine s11 ?_
  refine W_while (σ := Int) GT.dat (fun (v1_0 : Int) => [(8, .int .i64 v1_0)]) (fun (v1_0 : Int) => []) [(1, _), (6, _), (7, _)] [blk bk1 _ _] 0 hp sb ms ?_
  clear hp
  rintro v1_0 x1 hp hx1
  replace hp := dd hp
  refine kq [1, 6, 7, 8] ?_
  refine s5 ?_
  refine kp [1, 6, 7, 8, 9] ?_
  refine W_cond rfl (fun hc2 => ?_) (fun hc2 => ?_)
  · replace hp := cond_t hc2 hp
    refine s6 ?_
    replace hp := idx_bind hp; obtain ⟨⟨u3_1, u3_2⟩, hy3, hp⟩ := hp
    refine L_idxA (X := a0) rfl rfl rfl el51.h (RdT.old h0) hy3 ?_
    refine L_loadW rfl rfl (RdT.at (RdT.old h0) (hy3).2) (by exact agg72.h) ?_
    refine al fun bk4 => ?_
    refine s4 ?_
    replace hp := ba hp; obtain ⟨y4, hy4, hp⟩ := hp
    replace hp := idx_gb hp; obtain ⟨⟨u5_1, u5_2⟩, hy5, hp⟩ := hp
    refine W_D0 [31] mix (by kernel_rfl) rfl ?_
    refine s1 ?_
    refine D_callX GC.none fn114.h (OpVs.cons (OpV.t rfl) (OpVs.nil)) (by exact fun hg w F hF hM => i_setOk_walk w (u3_1, u3_2) (RdT.nowS (RdT.pair RdT.str (RdT.snd (RdT.of (RdT.old h0) (hy3).2))) hF hM) _ hy4) ?_
    refine s9 ?_
    refine D_idxA (X := a0) (GC.some rfl rfl) (OpV.s rfl) (OpV.s rfl) el51.h (RdT.old h0) (fun hg => hy5 (gand (gnot hg.1.2) hg.2)) ?_
    refine s1 ?_
    refine D_load (GC.some rfl rfl) (OpV.s rfl) (fun hg => RdT.at (RdT.old h0) (hy5 (gand (gnot hg.1.2) hg.2)).2) one9.h rfl ?_
    refine s20 ?_
    refine s6 ?_
    refine kp [1, 6, 7, 8, 31] ?_
    refine W_cond rfl (fun hc6 => ?_) (fun hc6 => ?_)
    · replace hp := cond_t hc6 hp
      refine s4 ?_
      replace hp := map_any hp; obtain ⟨a7, hp, hx_a7⟩ := hp
      obtain rfl := hx1 _ hx_a7
      obtain rfl := Option.some.inj hp
      refine s1 ?_
      refine res1 rfl (ResOK.tmp rfl) ⟨rfl, rfl⟩ ms
    · replace hp := cond_f hc6 hp
      refine s5 ?_
      exact ⟨IntKind.wrap .i64 (v1_0 + 1), sb, (.sub ms), some_eq hp⟩
  · replace hp := cond_f hc2 hp
    refine W_exit ?_
    replace hp := map_any hp; obtain ⟨a8, hp, hx_a8⟩ := hp
    obtain rfl := hx1 _ hx_a8
    refine s8 ?_
    obtain rfl := Option.some.inj hp
    refine s1 ?_
    refine res1 rfl (ResOK.tmp rfl) ⟨rfl, rfl⟩ ms
end Go.Proofs.SL
namespace Go.Proofs.SL
open Go
set_option maxHeartbeats 2000000
instance fn25 : FnF Tryd.prog 25 := ⟨⟨_, Tryd.func25, by kernel_rfl, rfl⟩⟩
instance fn72 : FnF Tryd.prog 72 := ⟨⟨_, Tryd.func72, by kernel_rfl, rfl⟩⟩
instance fn73 : FnF Tryd.prog 73 := ⟨⟨_, Tryd.func73, by kernel_rfl, rfl⟩⟩
instance fn75 : FnF Tryd.prog 75 := ⟨⟨_, Tryd.func75, by kernel_rfl, rfl⟩⟩
instance fn113 : FnF Tryd.prog 113 := ⟨⟨_, Tryd.func113, by kernel_rfl, rfl⟩⟩
instance fn112 : FnF Tryd.prog 112 := ⟨⟨_, Tryd.func112, by kernel_rfl, rfl⟩⟩
instance fn77 : FnF Tryd.prog 77 := ⟨⟨_, Tryd.func77, by kernel_rfl, rfl⟩⟩
instance fn78 : FnF Tryd.prog 78 := ⟨⟨_, Tryd.func78, by kernel_rfl, rfl⟩⟩
instance fn27 : FnF Tryd.prog 27 := ⟨⟨_, Tryd.func27, by kernel_rfl, rfl⟩⟩
instance fn34 : FnF Tryd.prog 34 := ⟨⟨_, Tryd.func34, by kernel_rfl, rfl⟩⟩
noncomputable def s_l15At (a0 : D_Catalog) (a1 : ByteArray) : Option Int :=
  whileP (fun s1 : Int => cond (decide (s1 < (a0.length : Int))) (Option.bind (idx a0 s1) (fun y3 => cond (decide (y3.1 = a1)) (Option.map .inr (some s1)) (some (.inl (IntKind.wrap .i64 (s1 + 1)))))) (Option.map .inr (some (-1)))) 0
theorem s_l15At_walk (w : World) (a0 : T_Catalog) (a1 : ByteArray) (h0 : GT.rd w [] a0) (r : Int) (hp : s_l15At (GT.dat a0) a1 = some r) : Spec Tryd.prog 72 [.agg (GT.cells a0).toArray, .string a1].toArray w [] (IsV (.int .i64 r)) := by
  change Spec _ _ ([Value.agg #[(TL.hdr a0)], .string a1] : List Value).toArray w [] _
  refine Spec.intro Tryd.func72 rfl Tryd.ntmps72 rfl ?_
  unfold s_l15At at hp
  replace hp := dd hp
  refine s2 ?_
  refine bx fun bk2 => ?_
  refine s8 ?_
  refine W_while (σ := Int) GT.dat (fun (v1_0 : Int) => [(5, .int .i64 v1_0)]) (fun (v1_0 : Int) => []) [(1, _), (2, _)] [blk bk2 _ _] 0 hp sb ms ?_
  clear hp
  rintro v1_0 x1 hp hx1
  replace hp := dd hp
  refine kq [1, 2, 5] ?_
  refine s9 ?_
  refine kp [1, 2, 5, 10] ?_
  refine W_cond rfl (fun hc2 => ?_) (fun hc2 => ?_)
  · replace hp := cond_t hc2 hp
    refine s8 ?_
    replace hp := idx_bind hp; obtain ⟨⟨u3_1, u3_2⟩, hy3, hp⟩ := hp
    refine L_idxA (X := a0) rfl rfl rfl el51.h (RdT.old h0) hy3 ?_
    refine s1 ?_
    refine L_load rfl rfl (RdT.at (RdT.old h0) (hy3).2) one9.h rfl ?_
    refine s3 ?_
    refine kp [1, 2, 5, 20] ?_
    refine W_cond rfl (fun hc4 => ?_) (fun hc4 => ?_)
    · replace hp := cond_t hc4 hp
      refine s5 ?_
      replace hp := map_any hp; obtain ⟨a5, hp, hx_a5⟩ := hp
      obtain rfl := hx1 _ hx_a5
      obtain rfl := Option.some.inj hp
      refine s1 ?_
      refine res1 rfl (ResOK.tmp rfl) ⟨rfl, rfl⟩ ms
    · replace hp := cond_f hc4 hp
      refine s6 ?_
      exact ⟨IntKind.wrap .i64 (v1_0 + 1), sb, (.sub ms), some_eq hp⟩
  · replace hp := cond_f hc2 hp
    refine W_exit ?_
    replace hp := map_any hp; obtain ⟨a6, hp, hx_a6⟩ := hp
    obtain rfl := hx1 _ hx_a6
    refine s4 ?_
    obtain rfl := Option.some.inj hp
    refine s1 ?_
    refine res1 rfl (ResOK.tmp rfl) ⟨rfl, rfl⟩ ms
noncomputable def s_l21All (a0 : List D_Blobs) (a1 : List ByteArray) : Option (ByteArray × Int) :=
  whileP (fun s1 : ByteArray × Int => cond (decide (s1.2 < (a1.length : Int))) (Option.bind (idx a1 s1.2) (fun y3 => Option.bind (s_Fetch a0 y3) (fun y4 => cond (!decide (y4.2 = 0)) (Option.map .inr (some (ByteArray.empty, y4.2))) (Option.bind (catP s1.1 y4.1) (fun y7 => some (.inl ((y7, IntKind.wrap .i64 (s1.2 + 1))))))))) (Option.map .inr (some (s1.1, 0)))) (ByteArray.empty, 0)
theorem s_l21All_walk (w : World) (a0 : TL T_Blobs) (a1 : TL ByteArray) (h0 : GT.rd w [] a0) (h1 : GT.rd w [] a1) (r : ByteArray × Int) (hp : s_l21All (GT.dat a0) (GT.dat a1) = some r) : Spec Tryd.prog 75 [(TL.hdr a0), (TL.hdr a1)].toArray w [] (fun v M => ∃ (x0 : ByteArray) (x1 : Int), v = .tuple #[.string x0, .int .i64 x1] ∧ (GT.dat x0, GT.dat x1) = r ∧ M = []) := by
  refine Spec.intro Tryd.func75 rfl Tryd.ntmps75 rfl ?_
  unfold s_l21All at hp
  replace hp := dd hp
  refine s15 ?_
  refine W_while (σ := ByteArray × Int) GT.dat (fun ((v1_0, v1_1) : ByteArray × Int) => [(6, .string v1_0), (7, .int .i64 v1_1)]) (fun ((v1_0, v1_1) : ByteArray × Int) => []) [(0, _), (1, _)] [] (ByteArray.empty, 0) hp sb ms ?_
  clear hp
  rintro ⟨v1_0, v1_1⟩ x1 hp hx1
  replace hp := dd hp
  refine kq [0, 1, 6, 7] ?_
  refine s8 ?_
  refine kp [0, 1, 6, 7, 13] ?_
  refine W_cond rfl (fun hc2 => ?_) (fun hc2 => ?_)
  · replace hp := cond_t hc2 hp
    refine s8 ?_
    replace hp := idx_bind hp; obtain ⟨u3, hy3, hp⟩ := hp
    refine L_idxA (X := a1) rfl rfl rfl el73.h (RdT.old h1) hy3 ?_
    refine L_load0 rfl rfl (RdT.at (RdT.old h1) (hy3).2) one9.h rfl ?_
    replace hp := ba hp; obtain ⟨y4, hy4, hp⟩ := hp
    refine L_callR rfl fn25.h rfl (by exact fun w hw => s_Fetch_walk w a0 u3 (RdT.now (RdT.old h0) hw) _ hy4) ?_
    rintro _ _ ⟨y4x0, y4x1, rfl, rfl, rfl⟩
    refine sc ?_
    replace hp := dd hp
    refine s12 ?_
    refine kp [0, 1, 6, 7, 8, 9, 26] ?_
    refine W_cond rfl (fun hc5 => ?_) (fun hc5 => ?_)
    · replace hp := cond_t hc5 hp
      refine s6 ?_
      replace hp := map_any hp; obtain ⟨a6, hp, hx_a6⟩ := hp
      obtain rfl := hx1 _ hx_a6
      obtain rfl := Option.some.inj hp
      refine s1 ?_
      refine res2 rfl (ResOK.tmp rfl) (ResOK.tmp rfl) ⟨ByteArray.empty, y4x1, rfl, rfl, rfl⟩ ms
    · replace hp := cond_f hc5 hp
      refine s4 ?_
      replace hp := ba hp; obtain ⟨y7, hy7, hp⟩ := hp
      refine L_binV rfl rfl rfl (bv_saddP hy7) ?_
      refine s7 ?_
      exact ⟨(y7, IntKind.wrap .i64 (v1_1 + 1)), sb, (.sub ms), some_eq hp⟩
  · replace hp := cond_f hc2 hp
    refine W_exit ?_
    replace hp := map_any hp; obtain ⟨a8, hp, hx_a8⟩ := hp
    obtain rfl := hx1 _ hx_a8
    refine s6 ?_
    obtain rfl := Option.some.inj hp
    refine s1 ?_
    refine res2 rfl (ResOK.tmp rfl) (ResOK.tmp rfl) ⟨v1_0, 0, rfl, rfl, rfl⟩ ms
noncomputable def s_Restore (a0 : D_Catalog) (a1 : List D_Blobs) (a2 : ByteArray) (a3 : ByteArray) : Option (ByteArray × Int) :=
  Option.bind (s_l15At a0 a2) (fun y1 => Option.bind (s_CatOk a0) (fun y2 => cond ((!y2) || (decide (y1 < 0))) (some (ByteArray.empty, 1)) (Option.bind (idx a0 y1) (fun y4 => Option.bind (s_l15Find (y4.1, y4.2) a3) (fun y5 => cond (decide (y5 < 0)) (some (ByteArray.empty, 1)) (Option.bind (idx a0 y1) (fun y7 => Option.bind (idx y7.2 y5) (fun y8 => Option.bind (s_l21All a1 y8.2.2) (fun y9 => some (y9.1, y9.2))))))))))
theorem s_Restore_walk (w : World) (a0 : T_Catalog) (a1 : TL T_Blobs) (a2 : ByteArray) (a3 : ByteArray) (h0 : GT.rd w [] a0) (h1 : GT.rd w [] a1) (r : ByteArray × Int) (hp : s_Restore (GT.dat a0) (GT.dat a1) a2 a3 = some r) : Spec Tryd.prog 32 [.agg (GT.cells a0).toArray, (TL.hdr a1), .string a2, .string a3].toArray w [] (fun v M => ∃ (x0 : ByteArray) (x1 : Int), v = .tuple #[.string x0, .int .i64 x1] ∧ (GT.dat x0, GT.dat x1) = r ∧ M = []) := by
  change Spec _ _ ([Value.agg #[(TL.hdr a0)], (TL.hdr a1), .string a2, .string a3] : List Value).toArray w [] _
  refine Spec.intro Tryd.func32 rfl Tryd.ntmps32 rfl ?_
  unfold s_Restore at hp
  replace hp := dd hp
  refine s2 ?_
  refine bx fun bk4 => ?_
  refine s7 ?_
  replace hp := ba hp; obtain ⟨y1, hy1, hp⟩ := hp
  refine L_callX rfl fn72.h rfl (by exact fun w hw => s_l15At_walk w a0 a2 (RdT.now (RdT.old h0) hw) _ hy1) ?_
  refine s4 ?_
  replace hp := ba hp; obtain ⟨y2, hy2, hp⟩ := hp
  refine W_D0 [23] mix (by kernel_rfl) rfl ?_
  refine s1 ?_
  refine D_callX GC.none fn73.h (OpVs.cons (OpV.t rfl) (OpVs.nil)) (by exact fun hg w F hF hM => s_CatOk_walk w a0 (RdT.nowS (RdT.old h0) hF hM) _ hy2) ?_
  refine s14 ?_
  refine kp [1, 3, 4, 10, 23] ?_
  refine W_cond rfl (fun hc3 => ?_) (fun hc3 => ?_)
  · replace hp := cond_t hc3 hp
    refine s5 ?_
    obtain rfl := Option.some.inj hp
    refine s1 ?_
    refine res2 rfl (ResOK.tmp rfl) (ResOK.tmp rfl) ⟨ByteArray.empty, 1, rfl, rfl, rfl⟩ ms
  · replace hp := cond_f hc3 hp
    refine s6 ?_
    replace hp := idx_bind hp; obtain ⟨⟨u4_1, u4_2⟩, hy4, hp⟩ := hp
    refine L_idxA (X := a0) rfl rfl rfl el51.h (RdT.old h0) hy4 ?_
    refine L_loadW rfl rfl (RdT.at (RdT.old h0) (hy4).2) (by exact agg72.h) ?_
    refine s1 ?_
    replace hp := ba hp; obtain ⟨y5, hy5, hp⟩ := hp
    refine L_callX rfl fn74.h rfl (by exact fun w hw => s_l15Find_walk w (u4_1, u4_2) a3 (RdT.now (RdT.pair RdT.str (RdT.snd (RdT.of (RdT.old h0) (hy4).2))) hw) _ hy5) ?_
    refine s8 ?_
    refine kp [1, 4, 10, 11, 32] ?_
    refine W_cond rfl (fun hc6 => ?_) (fun hc6 => ?_)
    · replace hp := cond_t hc6 hp
      refine s5 ?_
      obtain rfl := Option.some.inj hp
      refine s1 ?_
      refine res2 rfl (ResOK.tmp rfl) (ResOK.tmp rfl) ⟨ByteArray.empty, 1, rfl, rfl, rfl⟩ ms
    · replace hp := cond_f hc6 hp
      refine s7 ?_
      replace hp := idx_bind hp; obtain ⟨u7, hy7, hp⟩ := hp
      obtain rfl : (u4_1, u4_2) = u7 := Option.some.inj (hy4.2.symm.trans hy7.2)
      refine L_idxA (X := a0) rfl rfl rfl el51.h (RdT.old h0) hy4 ?_
      refine s1 ?_
      refine L_load rfl rfl (RdT.at (RdT.old h0) (hy4).2) one70.h rfl ?_
      refine s1 ?_
      replace hp := idx_bind hp; obtain ⟨⟨u8_1, u8_2, u8_3⟩, hy8, hp⟩ := hp
      refine L_idxA (X := u4_2) rfl rfl rfl el70.h (RdT.snd (RdT.of (RdT.old h0) (hy4).2)) hy8 ?_
      refine s1 ?_
      refine L_load rfl rfl (RdT.at (RdT.snd (RdT.of (RdT.old h0) (hy4).2)) (hy8).2) one73.h rfl ?_
      replace hp := ba hp; obtain ⟨y9, hy9, hp⟩ := hp
      refine L_callR rfl fn75.h rfl (by exact fun w hw => s_l21All_walk w a1 u8_3 (RdT.now (RdT.old h1) hw) (RdT.now (RdT.snd (RdT.snd (RdT.of (RdT.snd (RdT.of (RdT.old h0) (hy4).2)) (hy8).2))) hw) _ hy9) ?_
      rintro _ _ ⟨y9x0, y9x1, rfl, rfl, rfl⟩
      refine sc ?_
      replace hp := dd hp
      refine s13 ?_
      obtain rfl := Option.some.inj hp
      refine s1 ?_
      refine res2 rfl (ResOK.tmp rfl) (ResOK.tmp rfl) ⟨y9x0, y9x1, rfl, rfl, rfl⟩ ms
noncomputable def s_Whole (a0 : D_Catalog) (a1 : List D_Blobs) : Option Bool :=
  Option.bind (s_CatOk a0) (fun y1 => cond (!y1) (some false) (whileP (fun s3 : Int => cond (decide (s3 < (a0.length : Int))) (whileP (fun s5 : Int => Option.bind (idx a0 s3) (fun y6 => cond (decide (s5 < (y6.2.length : Int))) (Option.bind (idx a0 s3) (fun y8 => Option.bind (idx y8.2 s5) (fun y9 => Option.bind (s_l21All a1 y9.2.2) (fun y10 => cond (!decide (y10.2 = 0)) (Option.map .inr (Option.map .inr (some false))) (some (.inl (IntKind.wrap .i64 (s5 + 1)))))))) (Option.map .inr (some (.inl (IntKind.wrap .i64 (s3 + 1))))))) 0) (Option.map .inr (some true))) 0))
theorem s_Whole_walk (w : World) (a0 : T_Catalog) (a1 : TL T_Blobs) (h0 : GT.rd w [] a0) (h1 : GT.rd w [] a1) (r : Bool) (hp : s_Whole (GT.dat a0) (GT.dat a1) = some r) : Spec Tryd.prog 36 [.agg (GT.cells a0).toArray, (TL.hdr a1)].toArray w [] (IsV (.bool r)) := by
  change Spec _ _ ([Value.agg #[(TL.hdr a0)], (TL.hdr a1)] : List Value).toArray w [] _
  refine Spec.intro Tryd.func36 rfl Tryd.ntmps36 rfl ?_
  unfold s_Whole at hp
  replace hp := dd hp
  refine s2 ?_
  refine bx fun bk2 => ?_
  refine s6 ?_
  replace hp := ba hp; obtain ⟨y1, hy1, hp⟩ := hp
  refine L_callX rfl fn73.h rfl (by exact fun w hw => s_CatOk_walk w a0 (RdT.now (RdT.old h0) hw) _ hy1) ?_
  refine s2 ?_
  refine kp [1, 2, 11] ?_
  refine W_cond rfl (fun hc2 => ?_) (fun hc2 => ?_)
  · replace hp := cond_t hc2 hp
    refine s4 ?_
    obtain rfl := Option.some.inj hp
    refine s1 ?_
    refine res1 rfl (ResOK.tmp rfl) ⟨rfl, rfl⟩ ms
  · replace hp := cond_f hc2 hp
    refine s7 ?_
    refine W_while (σ := Int) GT.dat (fun (v3_0 : Int) => [(5, .int .i64 v3_0)]) (fun (v3_0 : Int) => []) [(1, _), (2, _)] [blk bk2 _ _] 0 hp sb ms ?_
    clear hp
    rintro v3_0 x3 hp hx3
    replace hp := dd hp
    refine kq [1, 2, 5] ?_
    refine s9 ?_
    refine kp [1, 2, 5, 16] ?_
    refine W_cond rfl (fun hc4 => ?_) (fun hc4 => ?_)
    · replace hp := cond_t hc4 hp
      refine s8 ?_
      refine W_while (σ := Int) GT.dat (fun (v5_0 : Int) => [(6, .int .i64 v5_0)]) (fun (v5_0 : Int) => []) [(1, _), (2, _), (5, _)] [blk bk2 _ _] 0 hp sb ms ?_
      clear hp
      rintro v5_0 x5 hp hx5
      replace hp := dd hp
      refine kq [1, 2, 5, 6] ?_
      refine s7 ?_
      replace hp := idx_bind hp; obtain ⟨⟨u6_1, u6_2⟩, hy6, hp⟩ := hp
      refine L_idxA (X := a0) rfl rfl rfl el51.h (RdT.old h0) hy6 ?_
      refine s1 ?_
      refine L_load rfl rfl (RdT.at (RdT.old h0) (hy6).2) one70.h rfl ?_
      refine s3 ?_
      refine kp [1, 2, 5, 6, 27] ?_
      refine W_cond rfl (fun hc7 => ?_) (fun hc7 => ?_)
      · replace hp := cond_t hc7 hp
        refine s9 ?_
        replace hp := idx_bind hp; obtain ⟨u8, hy8, hp⟩ := hp
        obtain rfl : (u6_1, u6_2) = u8 := Option.some.inj (hy6.2.symm.trans hy8.2)
        refine L_idxA (X := a0) rfl rfl rfl el51.h (RdT.old h0) hy6 ?_
        refine s1 ?_
        refine L_load rfl rfl (RdT.at (RdT.old h0) (hy6).2) one70.h rfl ?_
        refine s1 ?_
        replace hp := idx_bind hp; obtain ⟨⟨u9_1, u9_2, u9_3⟩, hy9, hp⟩ := hp
        refine L_idxA (X := u6_2) rfl rfl rfl el70.h (RdT.snd (RdT.of (RdT.old h0) (hy6).2)) hy9 ?_
        refine s1 ?_
        refine L_load rfl rfl (RdT.at (RdT.snd (RdT.of (RdT.old h0) (hy6).2)) (hy9).2) one73.h rfl ?_
        replace hp := ba hp; obtain ⟨y10, hy10, hp⟩ := hp
        refine L_callR rfl fn75.h rfl (by exact fun w hw => s_l21All_walk w a1 u9_3 (RdT.now (RdT.old h1) hw) (RdT.now (RdT.snd (RdT.snd (RdT.of (RdT.snd (RdT.of (RdT.old h0) (hy6).2)) (hy9).2))) hw) _ hy10) ?_
        rintro _ _ ⟨y10x0, y10x1, rfl, rfl, rfl⟩
        refine sc ?_
        replace hp := dd hp
        refine s11 ?_
        refine kp [1, 2, 5, 6, 46] ?_
        refine W_cond rfl (fun hc11 => ?_) (fun hc11 => ?_)
        · replace hp := cond_t hc11 hp
          refine s4 ?_
          replace hp := map_any hp; obtain ⟨a12, hp, hx_a12⟩ := hp
          obtain rfl := hx5 _ hx_a12
          replace hp := map_any hp; obtain ⟨a13, hp, hx_a13⟩ := hp
          obtain rfl := hx3 _ hx_a13
          obtain rfl := Option.some.inj hp
          refine s1 ?_
          refine res1 rfl (ResOK.tmp rfl) ⟨rfl, rfl⟩ ms
        · replace hp := cond_f hc11 hp
          refine s6 ?_
          exact ⟨IntKind.wrap .i64 (v5_0 + 1), sb, (.sub ms), some_eq hp⟩
      · replace hp := cond_f hc7 hp
        refine W_exit ?_
        replace hp := map_any hp; obtain ⟨a14, hp, hx_a14⟩ := hp
        obtain rfl := hx5 _ hx_a14
        refine s5 ?_
        exact ⟨IntKind.wrap .i64 (v3_0 + 1), sb, (.sub ms), some_eq hp⟩
    · replace hp := cond_f hc4 hp
      refine W_exit ?_
      replace hp := map_any hp; obtain ⟨a15, hp, hx_a15⟩ := hp
      obtain rfl := hx3 _ hx_a15
      refine s4 ?_
      obtain rfl := Option.some.inj hp
      refine s1 ?_
      refine res1 rfl (ResOK.tmp rfl) ⟨rfl, rfl⟩ ms
noncomputable def i_Catalog_set_c1 (a0 : D_CSet) (c0 : ByteArray) : Option Bool :=
  some (decide (a0.1 = c0))
theorem i_Catalog_set_c1_walk (w : World) (a0 : T_CSet) (b0 : Nat) (c0 : ByteArray) (h0 : GT.rd w [] a0) (hb0 : Cells w [] b0 0 (GT.cells c0)) (hc0 : GT.rd w [] c0) (r : Bool) (hp : i_Catalog_set_c1 (GT.dat a0) c0 = some r) : Spec Tryd.prog 113 ([(.agg (GT.cells a0).toArray : Value)] ++ [Value.pointer (some ⟨b0, 0, none⟩)]).toArray w [] (IsV (.bool r)) := by
  obtain ⟨a0_1, a0_2⟩ := a0
  change Spec _ _ ([Value.agg #[.string a0_1, (TL.hdr a0_2)], Value.pointer (some ⟨b0, 0, none⟩)] : List Value).toArray w [] _
  refine Spec.intro Tryd.func113 rfl Tryd.ntmps113 rfl ?_
  unfold i_Catalog_set_c1 at hp
  replace hp := dd hp
  refine s2 ?_
  refine bx fun bk2 => ?_
  refine s6 ?_
  refine L_load0 rfl rfl (RdC.old hb0) one9.h rfl ?_
  refine s3 ?_
  obtain rfl := Option.some.inj hp
  refine s1 ?_
  refine res1 rfl (ResOK.tmp rfl) ⟨rfl, rfl⟩ ms
noncomputable def sl_IndexFunc_implCSetimplCSet (a0 : List D_CSet) (a1 : D_CSet → Option Bool) : Option Int :=
  whileP (fun s1 : Int => cond (decide (s1 < (a0.length : Int))) (Option.bind (idx a0 s1) (fun y3 => Option.bind (a1 (y3.1, y3.2)) (fun y4 => cond y4 (Option.map .inr (some s1)) (some (.inl (IntKind.wrap .i64 (s1 + 1))))))) (Option.map .inr (some (-1)))) 0
theorem sl_IndexFunc_implCSetimplCSet_walk (w : World) (a0 : TL T_CSet) (f1 : Nat) (cs1 : List Value) (a1 : D_CSet → Option Bool) (h0 : GT.rd w [] a0) (hf1 : IsFn Tryd.prog f1) (hk1 : ∀ (w' : World) (F : List HP) (u0 : T_CSet) (v : Bool), Holds w [] F w' → GT.rd w' [] u0 → a1 (GT.dat u0) = some v → Spec Tryd.prog f1 ([Value.agg (GT.cells u0).toArray] ++ cs1).toArray w' [] (IsV (.bool v))) (r : Int) (hp : sl_IndexFunc_implCSetimplCSet (GT.dat a0) a1 = some r) : Spec Tryd.prog 112 [(TL.hdr a0), .func (.func f1) #[] cs1.toArray].toArray w [] (IsV (.int .i64 r)) := by
  refine Spec.intro Tryd.func112 rfl Tryd.ntmps112 rfl ?_
  unfold sl_IndexFunc_implCSetimplCSet at hp
  replace hp := dd hp
  refine s12 ?_
  refine W_while (σ := Int) GT.dat (fun (v1_0 : Int) => [(8, .int .i64 v1_0)]) (fun (v1_0 : Int) => []) [(0, _), (1, _), (7, _)] [] 0 hp sb ms ?_
  clear hp
  rintro v1_0 x1 hp hx1
  replace hp := dd hp
  refine kq [0, 1, 7, 8] ?_
  refine s5 ?_
  refine kp [0, 1, 7, 8, 9] ?_
  refine W_cond rfl (fun hc2 => ?_) (fun hc2 => ?_)
  · replace hp := cond_t hc2 hp
    refine s13 ?_
    replace hp := idx_bind hp; obtain ⟨⟨u3_1, u3_2⟩, hy3, hp⟩ := hp
    refine L_idxA (X := a0) rfl rfl rfl el51.h (RdT.old h0) hy3 ?_
    refine L_loadW rfl rfl (RdT.at (RdT.old h0) (hy3).2) (by exact agg72.h) ?_
    replace hp := ba hp; obtain ⟨y4, hy4, hp⟩ := hp
    refine L_callVX rfl rfl hf1 rfl (by exact fun w hw => hk1 w _ (u3_1, u3_2) y4 hw (RdT.now (RdT.pair RdT.str (RdT.snd (RdT.of (RdT.old h0) (hy3).2))) hw) hy4) ?_
    refine s1 ?_
    refine kp [0, 1, 5, 7, 8, 16] ?_
    refine W_cond rfl (fun hc5 => ?_) (fun hc5 => ?_)
    · replace hp := cond_t hc5 hp
      refine s5 ?_
      replace hp := map_any hp; obtain ⟨a6, hp, hx_a6⟩ := hp
      obtain rfl := hx1 _ hx_a6
      obtain rfl := Option.some.inj hp
      refine s1 ?_
      refine res1 rfl (ResOK.tmp rfl) ⟨rfl, rfl⟩ ms
    · replace hp := cond_f hc5 hp
      refine s5 ?_
      exact ⟨IntKind.wrap .i64 (v1_0 + 1), sb, (.sub ms), some_eq hp⟩
  · replace hp := cond_f hc2 hp
    refine W_exit ?_
    replace hp := map_any hp; obtain ⟨a7, hp, hx_a7⟩ := hp
    obtain rfl := hx1 _ hx_a7
    refine s4 ?_
    obtain rfl := Option.some.inj hp
    refine s1 ?_
    refine res1 rfl (ResOK.tmp rfl) ⟨rfl, rfl⟩ ms
noncomputable def i_Catalog_set (a0 : D_Catalog) (a1 : ByteArray) : Option Int :=
  Option.bind (sl_IndexFunc_implCSetimplCSet a0 (fun z0 => i_Catalog_set_c1 z0 a1)) (fun y1 => some y1)
theorem i_Catalog_set_walk (w : World) (a0 : T_Catalog) (a1 : ByteArray) (h0 : GT.rd w [] a0) (r : Int) (hp : i_Catalog_set (GT.dat a0) a1 = some r) : Spec Tryd.prog 77 [.agg (GT.cells a0).toArray, .string a1].toArray w [] (IsV (.int .i64 r)) := by
  change Spec _ _ ([Value.agg #[(TL.hdr a0)], .string a1] : List Value).toArray w [] _
  refine Spec.intro Tryd.func77 rfl Tryd.ntmps77 rfl ?_
  unfold i_Catalog_set at hp
  replace hp := dd hp
  refine s2 ?_
  refine bx fun bk2 => ?_
  refine bx fun bk3 => ?_
  refine s6 ?_
  refine L_makeFunc (fs := []) (cs := [.tmp 3]) rfl rfl rfl ?_
  replace hp := ba hp; obtain ⟨y1, hy1, hp⟩ := hp
  refine L_callX rfl fn112.h rfl (by exact fun w hw => sl_IndexFunc_implCSetimplCSet_walk w a0 113 [Value.pointer (some ⟨bk3, 0, none⟩)] (fun z0 => i_Catalog_set_c1 z0 a1) (RdT.now (RdT.old h0) hw) fn113.h (fun w' F u0 v hF hu0 hv => i_Catalog_set_c1_walk w' u0 bk3 a1 hu0 ((cells_of_blk mm hw.sees).carry hF) (rd_carry (RdT.now RdT.str hw) hF) v hv) _ hy1) ?_
  refine s2 ?_
  obtain rfl := Option.some.inj hp
  refine s1 ?_
  refine res1 rfl (ResOK.tmp rfl) ⟨rfl, rfl⟩ ms
noncomputable def i_Restore (a0 : D_Catalog) (a1 : List D_Blobs) (a2 : ByteArray) (a3 : ByteArray) : Option (ByteArray × Int) :=
  Option.bind (i_Catalog_set a0 a2) (fun y1 => Option.bind (i_CatOk a0) (fun y2 => gb (!((!y2) || (decide (y1 < 0)))) (idx a0 y1) (fun y3 => gb (!((!y2) || (decide (y1 < 0)))) (i_CSet_snap (y3.1, y3.2) a3) (fun y4 => cond (((!y2) || (decide (y1 < 0))) || (decide (y4 < 0))) (some (ByteArray.empty, 1)) (Option.bind (idx a0 y1) (fun y6 => Option.bind (idx a0 y1) (fun y7 => Option.bind (i_CSet_snap (y7.1, y7.2) a3) (fun y8 => Option.bind (idx y6.2 y8) (fun y9 => whileP (fun s10 : ByteArray × Int => cond (decide (s10.2 < (y9.2.2.length : Int))) (Option.bind (idx y9.2.2 s10.2) (fun y12 => Option.bind (i_Fetch a1 y12) (fun y13 => cond (!decide (y13.2 = 0)) (Option.map .inr (some (ByteArray.empty, y13.2))) (Option.bind (catP s10.1 y13.1) (fun y16 => some (.inl ((y16, IntKind.wrap .i64 (s10.2 + 1))))))))) (Option.map .inr (some (s10.1, 0)))) (ByteArray.empty, 0))))))))))
theorem i_Restore_walk (w : World) (a0 : T_Catalog) (a1 : TL T_Blobs) (a2 : ByteArray) (a3 : ByteArray) (h0 : GT.rd w [] a0) (h1 : GT.rd w [] a1) (hg0 : GT.rd w [] gV0) (r : ByteArray × Int) (hp : i_Restore (GT.dat a0) (GT.dat a1) a2 a3 = some r) : Spec Tryd.prog 34 [.agg (GT.cells a0).toArray, (TL.hdr a1), .string a2, .string a3].toArray w [] (fun v M => ∃ (x0 : ByteArray) (x1 : Int), v = .tuple #[.string x0, .int .i64 x1] ∧ (GT.dat x0, GT.dat x1) = r ∧ M = []) := by
  change Spec _ _ ([Value.agg #[(TL.hdr a0)], (TL.hdr a1), .string a2, .string a3] : List Value).toArray w [] _
  refine Spec.intro Tryd.func34 rfl Tryd.ntmps34 rfl ?_
  unfold i_Restore at hp
  replace hp := dd hp
  refine s2 ?_
  refine bx fun bk4 => ?_
  refine s7 ?_
  replace hp := ba hp; obtain ⟨y1, hy1, hp⟩ := hp
  refine L_callX rfl fn77.h rfl (by exact fun w hw => i_Catalog_set_walk w a0 a2 (RdT.now (RdT.old h0) hw) _ hy1) ?_
  refine s4 ?_
  replace hp := ba hp; obtain ⟨y2, hy2, hp⟩ := hp
  replace hp := idx_gb hp; obtain ⟨⟨u3_1, u3_2⟩, hy3, hp⟩ := hp
  replace hp := gb_any hp; obtain ⟨y4, hy4, hp⟩ := hp
  refine W_D0 [35] mix (by kernel_rfl) rfl ?_
  refine s1 ?_
  refine D_callX GC.none fn78.h (OpVs.cons (OpV.t rfl) (OpVs.nil)) (by exact fun hg w F hF hM => i_CatOk_walk w a0 (RdT.nowS (RdT.old h0) hF hM) _ hy2) ?_
  refine s9 ?_
  refine D_idxA (X := a0) (GC.some rfl rfl) (OpV.s rfl) (OpV.s rfl) el51.h (RdT.old h0) (fun hg => hy3 (gnot hg.2)) ?_
  refine D_loadW (GC.some rfl rfl) (OpV.s rfl) (fun hg => RdT.at (RdT.old h0) (hy3 (gnot hg.2)).2) (by exact agg72.h) ?_
  refine s1 ?_
  refine D_callX (GC.some rfl rfl) fn79.h (OpVs.cons (OpV.s rfl) (OpVs.cons (OpV.s rfl) (OpVs.nil))) (by exact fun hg w F hF hM => i_CSet_snap_walk w (u3_1, u3_2) a3 (RdT.nowS (RdT.pair RdT.str (RdT.snd (RdT.of (RdT.old h0) (hy3 (gnot hg.2)).2))) hF hM) _ (hy4 (gnot hg.2))) ?_
  refine s20 ?_
  refine s1 ?_
  refine kp [1, 3, 4, 10, 35] ?_
  refine W_cond rfl (fun hc5 => ?_) (fun hc5 => ?_)
  · replace hp := cond_t hc5 hp
    refine s5 ?_
    obtain rfl := Option.some.inj hp
    refine s1 ?_
    refine res2 rfl (ResOK.tmp rfl) (ResOK.tmp rfl) ⟨ByteArray.empty, 1, rfl, rfl, rfl⟩ ms
  · replace hp := cond_f hc5 hp
    refine s7 ?_
    replace hp := idx_bind hp; obtain ⟨⟨u6_1, u6_2⟩, hy6, hp⟩ := hp
    replace hp := idx_bind hp; obtain ⟨u7, hy7, hp⟩ := hp
    obtain rfl : (u6_1, u6_2) = u7 := Option.some.inj (hy6.2.symm.trans hy7.2)
    replace hp := ba hp; obtain ⟨y8, hy8, hp⟩ := hp
    replace hp := idx_bind hp; obtain ⟨⟨u9_1, u9_2, u9_3⟩, hy9, hp⟩ := hp
    refine W_D0 [51, 52, 53] mix (by kernel_rfl) rfl ?_
    refine s3 ?_
    refine D_idxA (X := a0) GC.none (OpV.t rfl) (OpV.t rfl) el51.h (RdT.old h0) (fun _ => hy6) ?_
    refine s1 ?_
    refine D_load GC.none (OpV.t rfl) (fun hg => RdT.at (RdT.old h0) (hy6).2) one70.h rfl ?_
    refine s3 ?_
    refine D_idxA (X := a0) GC.none (OpV.t rfl) (OpV.t rfl) el51.h (RdT.old h0) (fun _ => hy6) ?_
    refine D_loadW GC.none (OpV.t rfl) (fun hg => RdT.at (RdT.old h0) (hy6).2) (by exact agg72.h) ?_
    refine s1 ?_
    refine D_callX GC.none fn79.h (OpVs.cons (OpV.t rfl) (OpVs.cons (OpV.t rfl) (OpVs.nil))) (by exact fun hg w F hF hM => i_CSet_snap_walk w (u6_1, u6_2) a3 (RdT.nowS (RdT.pair RdT.str (RdT.snd (RdT.of (RdT.old h0) (hy6).2))) hF hM) _ hy8) ?_
    refine D_idxA (X := u6_2) GC.none (OpV.t rfl) (OpV.t rfl) el70.h (RdT.snd (RdT.of (RdT.old h0) (hy6).2)) (fun _ => hy9) ?_
    refine s1 ?_
    refine D_load GC.none (OpV.t rfl) (fun hg => RdT.at (RdT.snd (RdT.of (RdT.old h0) (hy6).2)) (hy9).2) one73.h rfl ?_
    refine D_lenP (X := u9_3) GC.none (OpV.t rfl) el73.h ?_
    refine s20 ?_
    refine s2 ?_
    refine W_while (σ := ByteArray × Int) GT.dat (fun ((v10_0, v10_1) : ByteArray × Int) => [(11, .string v10_0), (53, .int .i64 v10_1)]) (fun ((v10_0, v10_1) : ByteArray × Int) => []) [(1, _), (51, _), (52, _)] [] (ByteArray.empty, 0) hp sb ms ?_
    clear hp
    rintro ⟨v10_0, v10_1⟩ x10 hp hx10
    replace hp := dd hp
    refine kq [1, 11, 51, 52, 53] ?_
    refine s5 ?_
    refine kp [1, 11, 51, 52, 53, 54] ?_
    refine W_cond rfl (fun hc11 => ?_) (fun hc11 => ?_)
    · replace hp := cond_t hc11 hp
      refine s5 ?_
      replace hp := idx_bind hp; obtain ⟨u12, hy12, hp⟩ := hp
      refine L_idxA (X := u9_3) rfl rfl rfl el73.h (RdT.snd (RdT.snd (RdT.of (RdT.snd (RdT.of (RdT.old h0) (hy6).2)) (hy9).2))) hy12 ?_
      refine L_load0 rfl rfl (RdT.at (RdT.snd (RdT.snd (RdT.of (RdT.snd (RdT.of (RdT.old h0) (hy6).2)) (hy9).2))) (hy12).2) one9.h rfl ?_
      refine s6 ?_
      replace hp := ba hp; obtain ⟨y13, hy13, hp⟩ := hp
      refine L_callR rfl fn27.h rfl (by exact fun w hw => i_Fetch_walk w a1 u12 (RdT.now (RdT.old h1) hw) (RdT.now (RdT.old hg0) hw) _ hy13) ?_
      rintro _ _ ⟨y13x0, y13x1, rfl, rfl, rfl⟩
      refine sc ?_
      replace hp := dd hp
      refine s12 ?_
      refine kp [1, 11, 14, 15, 51, 52, 53, 64] ?_
      refine W_cond rfl (fun hc14 => ?_) (fun hc14 => ?_)
      · replace hp := cond_t hc14 hp
        refine s6 ?_
        replace hp := map_any hp; obtain ⟨a15, hp, hx_a15⟩ := hp
        obtain rfl := hx10 _ hx_a15
        obtain rfl := Option.some.inj hp
        refine s1 ?_
        refine res2 rfl (ResOK.tmp rfl) (ResOK.tmp rfl) ⟨ByteArray.empty, y13x1, rfl, rfl, rfl⟩ ms
      · replace hp := cond_f hc14 hp
        refine s4 ?_
        replace hp := ba hp; obtain ⟨y16, hy16, hp⟩ := hp
        refine L_binV rfl rfl rfl (bv_saddP hy16) ?_
        refine s6 ?_
        exact ⟨(y16, IntKind.wrap .i64 (v10_1 + 1)), sb, (.sub ms), some_eq hp⟩
    · replace hp := cond_f hc11 hp
      refine W_exit ?_
      replace hp := map_any hp; obtain ⟨a17, hp, hx_a17⟩ := hp
      obtain rfl := hx10 _ hx_a17
      refine s6 ?_
      obtain rfl := Option.some.inj hp
      refine s1 ?_
      refine res2 rfl (ResOK.tmp rfl) (ResOK.tmp rfl) ⟨v10_0, 0, rfl, rfl, rfl⟩ ms
noncomputable def i_Whole (a0 : D_Catalog) (a1 : List D_Blobs) : Option Bool :=
  whileP (fun s1 : Int => cond (decide (s1 < (a0.length : Int))) (Option.bind (idx a0 s1) (fun y3 => whileP (fun s4 : Int => cond (decide (s4 < (y3.2.length : Int))) (Option.bind (idx y3.2 s4) (fun y6 => Option.bind (i_Restore a0 a1 y3.1 y6.1) (fun y7 => cond (!decide (y7.2 = 0)) (Option.map .inr (Option.map .inr (some false))) (some (.inl (IntKind.wrap .i64 (s4 + 1))))))) (Option.map .inr (some (.inl (IntKind.wrap .i64 (s1 + 1)))))) 0)) (Option.map .inr (Option.bind (i_CatOk a0) (fun y13 => some y13)))) 0
theorem i_Whole_walk (w : World) (a0 : T_Catalog) (a1 : TL T_Blobs) (h0 : GT.rd w [] a0) (h1 : GT.rd w [] a1) (hg0 : GT.rd w [] gV0) (r : Bool) (hp : i_Whole (GT.dat a0) (GT.dat a1) = some r) : Spec Tryd.prog 37 [.agg (GT.cells a0).toArray, (TL.hdr a1)].toArray w [] (IsV (.bool r)) := by
  change Spec _ _ ([Value.agg #[(TL.hdr a0)], (TL.hdr a1)] : List Value).toArray w [] _
  refine Spec.intro Tryd.func37 rfl Tryd.ntmps37 rfl ?_
  unfold i_Whole at hp
  replace hp := dd hp
  refine s2 ?_
  refine bx fun bk2 => ?_
  refine s11 ?_
  refine W_while (σ := Int) GT.dat (fun (v1_0 : Int) => [(14, .int .i64 v1_0)]) (fun (v1_0 : Int) => []) [(1, _), (2, _), (12, _), (13, _)] [blk bk2 _ _] 0 hp sb ms ?_
  clear hp
  rintro v1_0 x1 hp hx1
  replace hp := dd hp
  refine kq [1, 2, 12, 13, 14] ?_
  refine s5 ?_
  refine kp [1, 2, 12, 13, 14, 15] ?_
  refine W_cond rfl (fun hc2 => ?_) (fun hc2 => ?_)
  · replace hp := cond_t hc2 hp
    refine s5 ?_
    replace hp := idx_bind hp; obtain ⟨⟨u3_1, u3_2⟩, hy3, hp⟩ := hp
    refine L_idxA (X := a0) rfl rfl rfl el51.h (RdT.old h0) hy3 ?_
    refine L_loadW rfl rfl (RdT.at (RdT.old h0) (hy3).2) (by exact agg72.h) ?_
    refine al fun bk6 => ?_
    refine s10 ?_
    refine W_while (σ := Int) GT.dat (fun (v4_0 : Int) => [(21, .int .i64 v4_0)]) (fun (v4_0 : Int) => []) [(1, _), (2, _), (6, _), (12, _), (13, _), (14, _), (19, _), (20, _)] [blk bk2 _ _, blk bk6 _ _] 0 hp sb ms ?_
    clear hp
    rintro v4_0 x4 hp hx4
    replace hp := dd hp
    refine kq [1, 2, 6, 12, 13, 14, 19, 20, 21] ?_
    refine s5 ?_
    refine kp [1, 2, 6, 12, 13, 14, 19, 20, 21, 22] ?_
    refine W_cond rfl (fun hc5 => ?_) (fun hc5 => ?_)
    · replace hp := cond_t hc5 hp
      refine s5 ?_
      replace hp := idx_bind hp; obtain ⟨⟨u6_1, u6_2, u6_3⟩, hy6, hp⟩ := hp
      refine L_idxA (X := u3_2) rfl rfl rfl el70.h (RdT.snd (RdT.of (RdT.old h0) (hy3).2)) hy6 ?_
      refine L_loadW rfl rfl (RdT.at (RdT.snd (RdT.of (RdT.old h0) (hy3).2)) (hy6).2) (by exact agg75.h) ?_
      refine al fun bk8 => ?_
      refine s10 ?_
      replace hp := ba hp; obtain ⟨y7, hy7, hp⟩ := hp
      refine L_callR rfl fn34.h rfl (by exact fun w hw => i_Restore_walk w a0 a1 u3_1 u6_1 (RdT.now (RdT.old h0) hw) (RdT.now (RdT.old h1) hw) (RdT.now (RdT.old hg0) hw) _ hy7) ?_
      rintro _ _ ⟨y7x0, y7x1, rfl, rfl, rfl⟩
      refine sc ?_
      replace hp := dd hp
      refine s11 ?_
      refine kp [1, 2, 6, 12, 13, 14, 19, 20, 21, 36] ?_
      refine W_cond rfl (fun hc8 => ?_) (fun hc8 => ?_)
      · replace hp := cond_t hc8 hp
        refine s4 ?_
        replace hp := map_any hp; obtain ⟨a9, hp, hx_a9⟩ := hp
        obtain rfl := hx4 _ hx_a9
        replace hp := map_any hp; obtain ⟨a10, hp, hx_a10⟩ := hp
        obtain rfl := hx1 _ hx_a10
        obtain rfl := Option.some.inj hp
        refine s1 ?_
        refine res1 rfl (ResOK.tmp rfl) ⟨rfl, rfl⟩ ms
      · replace hp := cond_f hc8 hp
        refine s5 ?_
        exact ⟨IntKind.wrap .i64 (v4_0 + 1), sb, (.sub ms), some_eq hp⟩
    · replace hp := cond_f hc5 hp
      refine W_exit ?_
      replace hp := map_any hp; obtain ⟨a11, hp, hx_a11⟩ := hp
      obtain rfl := hx4 _ hx_a11
      refine s4 ?_
      exact ⟨IntKind.wrap .i64 (v1_0 + 1), sb, (.sub ms), some_eq hp⟩
  · replace hp := cond_f hc2 hp
    refine W_exit ?_
    replace hp := map_any hp; obtain ⟨a12, hp, hx_a12⟩ := hp
    obtain rfl := hx1 _ hx_a12
    refine s3 ?_
    replace hp := ba hp; obtain ⟨y13, hy13, hp⟩ := hp
    refine L_callX rfl fn78.h rfl (by exact fun w hw => i_CatOk_walk w a0 (RdT.now (RdT.old h0) hw) _ hy13) ?_
    refine s2 ?_
    obtain rfl := Option.some.inj hp
    refine s1 ?_
    refine res1 rfl (ResOK.tmp rfl) ⟨rfl, rfl⟩ ms
end Go.Proofs.SL
