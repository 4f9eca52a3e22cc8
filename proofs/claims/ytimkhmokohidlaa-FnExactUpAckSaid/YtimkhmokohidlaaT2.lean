/- The texts of the proof, part 2: the base, walks of functions, plain Lean. -/
import Derived.Test.YtimkhmokohidlaaT1
import Derived.Sort.Grow
import Derived.Sort.EncStr
import Derived.Lib.SlicesCompact
import Derived.Laws.StructEq
import Derived.Test.YtimkhmokohidlaaRows
import Derived.Lib.Overlaps
import Derived.Lib.AppendZerosOnto
import Derived.Laws.Externs
namespace Go.Proofs.SL
open Go
variable {Γ : Cx} {l : Envl} {M M1 M2 F : List HP} {Q : Post} {K : Kont} {w0 w : World} {S0 : List Nat}
variable {rest : List Oper} {d : Nat} {ty : TypeId} {pos : String} {af : Array Edge}
theorem run_append_roomE {P : Program} (w : World) (t ty e e2 : TypeId) (i : TypeInfo) (ht : P.underlying t = some (.slice e)) (hi : P.info? e = some i)
    (g sLen sCap : Nat) (cur : Array Value) (hg : w.heap[g]? = some (.cells cur e2 (0, 0)))
    (a : Addr) (m c : Nat) (news : List Value) (hl : news.length = m * i.size) (hnews : ∀ j u, news[j]? = some u → w.cell? (a.add j) = some u) (h1 : ∀ u ∈ news, u.oneCell' = true)
    (hroom : sLen + m ≤ sCap) (hfit : sLen * i.size + news.length ≤ cur.size) :
    (Builtin.append_ #[t, t] ty #[.slice (some ⟨g, 0, none⟩) sLen sCap, .slice (some a) m c]).run P w =
      .ok (.slice (some ⟨g, 0, none⟩) (sLen + m) sCap) (w.setRow g (cur.toList.take (sLen * i.size) ++ news ++ cur.toList.drop (sLen * i.size + news.length)).toArray) := by
  have hf := run_firstCells_some (P := P) w i.size m a m c news hl hnews
  have hst := run_storeCells_at P g (sLen * i.size) e2 news 0 cur w hg (by simpa using hfit) h1
  simp only [Nat.add_zero] at hst
  simp [Builtin.append_, run_underlying ht, sizeOf, typeInfo, hi, Builtin.lenOf, hroom, hf, Addr.add_lit, hst]
section
variable {τ δ : Type} [GT τ δ]
/-- append to a row of our own of what can be read. -/
theorem append_rowE {P : Program} {T e sz by_ : Nat} {z : List Value} {L : TL τ} {ys : List τ} (ht : elOf P T = some (e, sz, by_, z)) (hsz : GT.sz τ = sz) (hz : z.length = sz) (hw : Holds w0 S0 (rowH L :: F) w)
    {a : Addr} {c : Nat} (hsrc : ∀ j v, (rowCells ys)[j]? = some v → w.cell? (a.add j) = some v) (hm : L.els.length + ys.length ≤ 4294967296) (hb : by_ ≤ 32768) (ty : TypeId) :
    ∃ a' c' e' tl w', (Builtin.append_ #[T, T] ty #[L.hdr, .slice (some a) ys.length c]).run P w = .ok (.slice a' (L.els ++ ys).length c') w' ∧ Holds w0 S0 (rowH (⟨a', c', e', L.els ++ ys, tl⟩ : TL τ) :: F) w' := by
  unfold elOf at ht
  split at ht <;> (try cases ht)
  rename_i e' het
  split at ht <;> (try cases ht)
  rename_i i' hi'
  split at ht <;> cases ht
  rename_i z' hz'
  have hzs : z'.cells.size = i'.size := by rw [← Array.length_toList]; exact hz
  have hpos : 0 < i'.size := hsz ▸ GT.pos (τ := τ)
  obtain ⟨La, Lc, Le, Lx, Lt⟩ := L
  have hr := hw.prs (rowH _) (List.mem_cons_self ..)
  obtain ⟨hr1, hr2, hr3, hr4⟩ := hr
  dsimp only at hr1 hr2 hr3 hr4 hm ⊢
  have hlx : (rowCells Lx).length = Lx.length * i'.size := by rw [length_rowCells, hsz]
  have hly : (rowCells ys).length = ys.length * i'.size := by rw [length_rowCells, hsz]
  have hby : (Lx.length + ys.length) * i'.bytes ≤ 140737488355328 := by
    have := Nat.mul_le_mul hm hb
    omega
  have hone : ∀ u, u ∈ rowCells ys → u.oneCell' = true := fun u hu => rowCells_one ys u hu
  have hgrow : ∀ (old : Nat) (h : HP), h = rowH (⟨La, Lc, Le, Lx, Lt⟩ : TL τ) → Holds w0 S0 (rowH (⟨some ⟨w.heap.size, 0, none⟩, grownCap w (Lx.length + ys.length) old e, e, Lx ++ ys, (Builtin.zeroCells z'.cells (grownCap w (Lx.length + ys.length) old e - (Lx.length + ys.length))).toList⟩ : TL τ) :: F)
      (w.drew.alloc (.cells ((rowCells Lx).toArray ++ (rowCells ys).toArray ++ Builtin.zeroCells z'.cells (grownCap w (Lx.length + ys.length) old e - (Lx.length + ys.length))) e)) := by
    intro old h hh
    have hge := grownCap_ge w (Lx.length + ys.length) old e
    have hcm : grownCap w (Lx.length + ys.length) old e ≤ maxLen := grownCap_le_maxLen w (Lx.length + ys.length) old e (by simp only [maxLen]; omega)
    refine Holds.swap (w' := w.drew.alloc _) (hh ▸ hw : Holds w0 S0 (h :: F) w) rfl rfl rfl (by simp) (fun k hk _ => ?_) (fun k hk => ?_) (by simp [rowH]) ?_
    · rw [heap_alloc_old _ _ (by simpa using hk)]; rfl
    · simp [rowH] at hk; subst hk; exact ⟨.inr (Nat.le_refl _), by simp⟩
    · refine ⟨by simpa using hge, hcm, fun h => (by cases h), fun a ha => ?_⟩
      cases ha
      refine ⟨rfl, rfl, ?_, ?_⟩
      · have := heap_alloc_new w.drew (.cells ((rowCells Lx).toArray ++ (rowCells ys).toArray ++ Builtin.zeroCells z'.cells (grownCap w (Lx.length + ys.length) old e - (Lx.length + ys.length))) e)
        simp only [World.size_drew] at this
        rw [this]
        congr 2
        apply Array.ext'
        simp [rowCells_append]
      · simp only [Array.length_toList, size_zc, hzs, List.length_append, hsz]
        rw [← Nat.add_mul]; congr 1; omega
  cases La with
  | none =>
    obtain ⟨hx0, hc0⟩ := hr3 rfl
    subst hx0; subst hc0
    by_cases hy0 : ys = []
    · subst hy0
      refine ⟨none, 0, e, [], w, ?_, Holds.swap hw rfl rfl rfl (Nat.le_refl _) (fun _ _ _ => rfl) (fun k hk => by simp [rowH] at hk) (by simp [rowH]) ⟨by simp, by simp [maxLen], fun _ => ⟨rfl, rfl⟩, fun a ha => by cases ha⟩⟩
      simp [TL.hdr, Builtin.append_, run_underlying het, sizeOf, typeInfo, hi', Builtin.lenOf, Builtin.firstCells, loadCells, loadCellsFrom]
    · have hyl : 0 < ys.length := List.length_pos_iff.2 hy0
      have hrun := run_append_nil (P := P) w T ty e i' z' het hi' hz' a ys.length c (rowCells ys) hly hsrc hyl (by omega) (by simp at hby; omega)
      have := hgrow 0 _ rfl
      simp only [List.length_nil, Nat.zero_add, List.nil_append] at this ⊢
      have e0 : (rowCells ([] : List τ)).toArray = #[] := rfl
      rw [e0, Array.empty_append] at this
      exact ⟨_, _, _, _, _, hrun, this⟩
  | some La =>
    obtain ⟨h1, h2, h3, h4⟩ := hr4 La rfl
    obtain ⟨g, o, s⟩ := La
    dsimp only at h1 h2 h3
    subst h1; subst h2
    have hhd : TL.hdr (⟨some ⟨g, 0, none⟩, Lc, Le, Lx, Lt⟩ : TL τ) = .slice (some ⟨g, 0, none⟩) Lx.length Lc := rfl
    rw [hhd]
    rw [hsz] at h4
    have hsize : ((rowCells Lx ++ Lt).toArray).size = Lc * i'.size := by simp [hlx]; omega
    by_cases hroom : Lx.length + ys.length ≤ Lc
    · have hfit : Lx.length * i'.size + (rowCells ys).length ≤ ((rowCells Lx ++ Lt).toArray).size := by rw [hsize, hly, ← Nat.add_mul]; exact Nat.mul_le_mul_right _ hroom
      have hrun := run_append_roomE (P := P) w T ty e Le i' het hi' g Lx.length Lc _ h3 a ys.length c (rowCells ys) hly hsrc hone hroom hfit
      refine ⟨some ⟨g, 0, none⟩, Lc, Le, Lt.drop (rowCells ys).length, _, by rw [List.length_append]; exact hrun, ?_⟩
      have e1 : (List.take (Lx.length * i'.size) (rowCells Lx ++ Lt).toArray.toList ++ rowCells ys ++ List.drop (Lx.length * i'.size + (rowCells ys).length) (rowCells Lx ++ Lt).toArray.toList) = rowCells (Lx ++ ys) ++ Lt.drop (rowCells ys).length := by
        simp only []
        rw [← hlx, List.take_left, List.drop_append, List.drop_of_length_le (by omega), List.nil_append, Nat.add_sub_cancel_left, rowCells_append]
      rw [e1]
      refine Holds.swap hw rfl rfl rfl (by simp) (fun k hk hn => ?_) (fun k hk => ?_) (by simp [rowH]) ?_
      · exact setRow_other _ _ _ _ (fun e => hn (by simp [rowH, e]))
      · simp [rowH] at hk; subst hk; exact ⟨.inl (by simp [rowH]), by simp; exact (Array.getElem?_eq_some_iff.1 h3).1⟩
      · refine ⟨by simpa using hroom, hr2, fun h => (by cases h), fun a ha => ?_⟩
        cases ha
        refine ⟨rfl, rfl, setRow_heap _ _ _ _ _ _ h3, ?_⟩
        simp only [List.length_append, List.length_drop, hsz, hly]
        have := Nat.mul_le_mul_right i'.size hroom
        rw [Nat.add_mul] at this ⊢
        omega
    · have holds : ∀ j v, (rowCells Lx)[j]? = some v → w.cell? ((⟨g, 0, none⟩ : Addr).add j) = some v := fun j v hv => by
        rw [addr_add, Nat.zero_add, cell_of_row _ _ _ _ _ _ h3]
        simp only [List.getElem?_toArray]
        rw [List.getElem?_append_left (List.getElem?_eq_some_iff.1 hv).1]; exact hv
      have hrun := run_append_grow (P := P) w T ty e i' z' het hi' hz' ⟨g, 0, none⟩ Lx.length Lc (rowCells Lx) hlx holds a ys.length c (rowCells ys) hly hsrc (by omega) (by omega) (growslice_fits (by omega) hby)
      refine ⟨_, _, _, _, _, by rw [List.length_append]; exact hrun, hgrow Lc _ rfl⟩
/-- append of what can be read to a slice of one's own. -/
theorem L_appA {s x : Operand} {T e sz by_ m c : Nat} {ad : Addr} {z : List Value} {X : TL τ} {ys : List τ} (hn : Nat.blt d Γ.n = true)
    (hs : ev l s = some X.hdr) (hx : ev l x = some (.slice (some ad) m c)) (ht : elOf Γ.P T = some (e, sz, by_, z)) (hsz : GT.sz τ = sz) (hz : z.length = sz)
    (hp : Pick (treeH X) M M1) (hmy : m = ys.length) (hsrc : ∀ w, Sees Γ.w0 Γ.S0 M w → ∀ j v, (rowCells ys)[j]? = some v → w.cell? (ad.add j) = some v)
    (hown : ∀ w R, Holds Γ.w0 Γ.S0 (M1 ++ R) w → Holds Γ.w0 Γ.S0 (elsT ys :: (M2 ++ R)) w)
    (hlen : X.els.length + ys.length ≤ 4294967296) (hb : by_ ≤ 32768)
    (hk : ∀ X' : TL τ, X'.els = X.els ++ ys → L Γ rest ((d, X'.hdr) :: l) (treeH X' :: M2) K) :
    L Γ ({ dst := some d, op := .call { callee := .builtin .append, args := #[s, x], argTypes := #[T, T] }, type := ty, pos, after := af, guard := none } :: rest) l M K := by
  subst hmy
  refine L_stepR (fun v M' => ∃ X' : TL τ, X'.els = X.els ++ ys ∧ v = X'.hdr ∧ M' = treeH X' :: M2) rfl rfl (Nat.le_of_ble_eq_true hn)
    (fun a w ha hw => ?_) (fun v M' ⟨X', h0, h1, h2⟩ => by subst h1; subst h2; exact hk X' h0)
  have hw1 := tree_row (hw.perm hp.perm)
  have hsr := hsrc w hw.sees
  obtain ⟨a', c', e', tl, w', h1, h2⟩ := append_rowE (P := Γ.P) (c := c) ht hsz hz hw1 hsr hlen hb ty
  refine ⟨_, _, w', ⟨⟨a', c', e', X.els ++ ys, tl⟩, rfl, rfl, rfl⟩, ?_, ?_⟩
  · have h1' : (Builtin.append_ #[T, T] ty #[X.hdr, .slice (some ad) ys.length c]).run Γ.P w = .ok (TL.hdr (⟨a', c', e', X.els ++ ys, tl⟩ : TL τ)) w' := h1
    generalize TL.hdr (⟨a', c', e', X.els ++ ys, tl⟩ : TL τ) = vv at *
    generalize X.hdr = uu at *
    simp [execOp, resolve, invoke, builtin, ha.eval hs, ha.eval hx, h1']
  · have h3 : Holds Γ.w0 Γ.S0 (M1 ++ [elsT X.els, rowH (⟨a', c', e', X.els ++ ys, tl⟩ : TL τ)]) w' :=
      h2.perm ((List.Perm.swap _ _ _).trans (List.perm_append_comm (l₁ := [elsT X.els, rowH (⟨a', c', e', X.els ++ ys, tl⟩ : TL τ)]) (l₂ := M1)))
    have h4 := hown w' _ h3
    refine row_tree ?_
    have h5 : Holds Γ.w0 Γ.S0 (elsT X.els :: elsT ys :: rowH (⟨a', c', e', X.els ++ ys, tl⟩ : TL τ) :: M2) w' := h4.perm
      (((List.perm_append_comm (l₁ := M2) (l₂ := [elsT X.els, rowH (⟨a', c', e', X.els ++ ys, tl⟩ : TL τ)])).cons _).trans (List.Perm.swap _ _ _))
    exact (elsT_app h5).perm (List.Perm.swap _ _ _)
end
/-! What can be read, by data -/
def TL.g {τ : Type} (X : TL τ) : Nat := (X.a.map Addr.block).getD 0
def TL.o {τ : Type} (X : TL τ) : Nat := (X.a.map Addr.off).getD 0
section
variable {τ δ : Type} [GT τ δ]
theorem rd_adr {X : TL τ} {j : Nat} {u : τ} (h : GT.rd w0 S0 X) (hi : X.els[j]? = some u) : X.a = some ⟨X.g, X.o, none⟩ := by
  have hlt := (List.getElem?_eq_some_iff.1 hi).1
  obtain ⟨g, o, ha⟩ := rd_addr h hlt
  unfold TL.g TL.o
  rw [ha]; rfl
theorem hdr_adr {X : TL τ} {j : Nat} {u : τ} (h : GT.rd w0 S0 X) (hi : X.els[j]? = some u) : X.hdr = .slice (some ⟨X.g, X.o, none⟩) X.els.length X.cap := by
  show Value.slice X.a X.els.length X.cap = _
  rw [rd_adr h hi]
theorem RdT.at {X : TL τ} {j : Nat} {x : τ} (h : RdT Γ M X) (hi : X.els[j]? = some x) : RdC Γ M X.g (X.o + j * GT.sz τ) (GT.cells x) := fun w hw =>
  (RdT.cells (Γ := Γ) (M := M) h (rd_adr (h w hw) hi) hi) w hw
theorem RdT.of {X : TL τ} {j : Nat} {x : τ} (h : RdT Γ M X) (hi : X.els[j]? = some x) : RdT Γ M x := h.el (List.mem_of_getElem? hi)
theorem RdT.pair {α β δ ε : Type} [GT α δ] [GT β ε] {a : α} {b : β} (h1 : RdT Γ M a) (h2 : RdT Γ M b) : RdT Γ M (a, b) := fun w hw => ⟨h1 w hw, h2 w hw⟩
theorem RdT.int {n : Int} : RdT Γ M n := fun _ _ => trivial
theorem RdT.bool {n : Bool} : RdT Γ M n := fun _ _ => trivial
theorem RdT.str {n : ByteArray} : RdT Γ M n := fun _ _ => trivial
theorem RdT.u8 {n : UInt8} : RdT Γ M n := fun _ _ => trivial
theorem RdT.nil (e : TypeId) : RdT Γ M (TL.nil τ e) := fun _ _ => ⟨Nat.le_refl _, by simp [TL.nil, maxLen], fun x hx => by simp [TL.nil] at hx, fun _ => rfl, fun a ha => by simp [TL.nil] at ha⟩
theorem dat_els (X : TL τ) : GT.dat X = X.els.map GT.dat := rfl
theorem idx_dat {X : TL τ} {i : Int} {y : δ} (h : idx (GT.dat X) i = some y) : ∃ u : τ, (0 ≤ i ∧ X.els[i.toNat]? = some u) ∧ GT.dat u = y := by
  obtain ⟨h1, h2⟩ := idx_some.1 h
  rw [dat_els, List.getElem?_map] at h2
  obtain ⟨u, h3, h4⟩ := Option.map_eq_some_iff.1 h2
  exact ⟨u, ⟨h1, h3⟩, h4⟩
theorem idx_bind {β : Type} {X : TL τ} {i : Int} {k : δ → Option β} {r : β} (h : Option.bind (idx (GT.dat X) i) k = some r) : ∃ u : τ, (0 ≤ i ∧ X.els[i.toNat]? = some u) ∧ k (GT.dat u) = some r := by
  obtain ⟨y, h1, h2⟩ := bind_any h
  obtain ⟨u, h3, rfl⟩ := idx_dat h1
  exact ⟨u, h3, h2⟩
/-- The data of nothing is the data of some tree. -/
class Df (τ : Type) {δ : outParam Type} [GT τ δ] [Inhabited δ] : Prop where
  df : ∃ t : τ, GT.dat t = default
instance : Df Int := ⟨0, rfl⟩
instance : Df Bool := ⟨false, rfl⟩
instance : Df UInt8 := ⟨default, rfl⟩
instance : Df ByteArray := ⟨default, rfl⟩
instance {τ δ : Type} [GT τ δ] : Df (TL τ) := ⟨TL.nil τ 0, rfl⟩
instance {α β δ ε : Type} [GT α δ] [GT β ε] [Inhabited δ] [Inhabited ε] [Df α] [Df β] : Df (α × β) := ⟨by
  obtain ⟨a, ha⟩ := Df.df (τ := α)
  obtain ⟨b, hb⟩ := Df.df (τ := β)
  exact ⟨(a, b), by rw [dat_pair, ha, hb]; rfl⟩⟩
theorem idx_gb [Inhabited δ] [Df τ] {β : Type} {X : TL τ} {g : Bool} {i : Int} {k : δ → Option β} {r : β} (h : gb g (idx (GT.dat X) i) k = some r) : ∃ u : τ, (g = true → 0 ≤ i ∧ X.els[i.toNat]? = some u) ∧ k (GT.dat u) = some r := by
  cases g with
  | true => obtain ⟨u, h1, h2⟩ := idx_bind h; exact ⟨u, fun _ => h1, h2⟩
  | false =>
    obtain ⟨t, ht⟩ := Df.df (τ := τ)
    exact ⟨t, (fun h => (by cases h)), by rw [ht]; exact h⟩
end
/-! Rules, in a region that is carried out as it stands -/
section
variable {τ δ : Type} [GT τ δ]
theorem L_lenP {x : Operand} {T : TypeId} {e : TypeId × Nat × Nat × List Value} {X : TL τ} (hn : Nat.blt d Γ.n = true) (hx : ev l x = some X.hdr) (ht : elOf Γ.P T = some e)
    (hk : L Γ rest ((d, .int .i64 ((GT.dat X).length : Int)) :: l) M K) :
    L Γ ({ dst := some d, op := .call { callee := .builtin .len, args := #[x], argTypes := #[T] }, type := ty, pos := pos, after := af, guard := none } :: rest) l M K :=
  L_lenS (a := X.a) (n := X.els.length) (c := X.cap) hn hx ht (by rw [dat_els, List.length_map] at hk; exact hk)
theorem L_idxA {x y : Operand} {T e sz by_ : Nat} {z : List Value} {k : IntKind} {i : Int} {X : TL τ} {u : τ} (hn : Nat.blt d Γ.n = true) (hx : ev l x = some X.hdr) (hy : ev l y = some (.int k i))
    (ht : elOf Γ.P T = some (e, sz, by_, z)) (hr : RdT Γ M X) (hi : 0 ≤ i ∧ X.els[i.toNat]? = some u) (hk : L Γ rest ((d, .pointer (some ⟨X.g, X.o + i.toNat * sz, none⟩)) :: l) M K) :
    L Γ ({ dst := some d, op := .indexAddr T x y, type := ty, pos := pos, after := af, guard := none } :: rest) l M K :=
  L_pure hn (fun a' w ha hw => by
    have h1 := ha.eval hx
    rw [hdr_adr (hr w hw.sees) hi.2] at h1
    simp [execOp, h1, ha.eval hy, run_indexAt ht X.g X.o X.els.length X.cap k i i.toNat (by omega) (List.getElem?_eq_some_iff.1 hi.2).1 w]) hk
end
/-! In a drawn region -/
variable {ops : Array Oper} {Msh pool : List HP} {E : Fl} {rs : List (Option Nat × Rel)} {cs0 : List Nat} {KD : List (Option Nat × Rel) → List Nat → List HP → Prop} {gd : Option (Nat × Bool)}
section
variable {τ δ : Type} [GT τ δ]
theorem D_lenP {x : Operand} {T : TypeId} {e : TypeId × Nat × Nat × List Value} {X : TL τ} {c : Prop} (hg : GC ops E { dst := some d, op := .call { callee := .builtin .len, args := #[x], argTypes := #[T] }, type := ty, pos := pos, after := af, guard := gd } c)
    (hx : OpV E x c X.hdr) (ht : elOf Γ.P T = some e)
    (hk : DV Γ ops Msh pool ((d, FC c (.int .i64 ((GT.dat X).length : Int))) :: E) ((some d, FC c (.int .i64 ((GT.dat X).length : Int))) :: rs) cs0 rest KD) :
    DV Γ ops Msh pool E rs cs0 ({ dst := some d, op := .call { callee := .builtin .len, args := #[x], argTypes := #[T] }, type := ty, pos := pos, after := af, guard := gd } :: rest) KD :=
  D_lenS (a := X.a) (n := X.els.length) (cp := X.cap) hg hx ht (by rw [dat_els, List.length_map] at hk; exact hk)
theorem D_idxA {x y : Operand} {T e sz by_ : Nat} {z : List Value} {k : IntKind} {i : Int} {X : TL τ} {u : τ} {c : Prop} (hg : GC ops E { dst := some d, op := .indexAddr T x y, type := ty, pos := pos, after := af, guard := gd } c)
    (hx : OpV E x c X.hdr) (hy : OpV E y c (.int k i)) (ht : elOf Γ.P T = some (e, sz, by_, z)) (hr : RdT Γ Msh X) (hi : c → 0 ≤ i ∧ X.els[i.toNat]? = some u)
    (hk : DV Γ ops Msh pool ((d, FC c (.pointer (some ⟨X.g, X.o + i.toNat * sz, none⟩))) :: E) ((some d, FC c (.pointer (some ⟨X.g, X.o + i.toNat * sz, none⟩))) :: rs) cs0 rest KD) :
    DV Γ ops Msh pool E rs cs0 ({ dst := some d, op := .indexAddr T x y, type := ty, pos := pos, after := af, guard := gd } :: rest) KD :=
  DV_pure c _ hg (fun a w F hc hf hs => by
    have e1 := hx.eval hf (by simp [Op.operands]) hc
    have e2 := hy.eval hf (by simp [Op.operands]) hc
    obtain ⟨h0, h1⟩ := hi hc
    rw [hdr_adr (hr w hs) h1] at e1
    simp [execOp, e1, e2, run_indexAt ht X.g X.o X.els.length X.cap k i i.toNat (by omega) (List.getElem?_eq_some_iff.1 h1).1 w]) hk
end
end Go.Proofs.SL
namespace Go.Proofs.SL
open Go
variable {Γ : Cx} {l : Envl} {M M' M1 M2 F : List HP} {Q : Post} {K : Kont} {w0 w : World} {S0 : List Nat}
variable {rest : List Oper} {d : Nat} {ty : TypeId} {pos : String} {af : Array Edge}
def appP {δ : Type} (a b : List δ) : Option (List δ) := if a.length + b.length ≤ 4294967296 then some (a ++ b) else none
theorem appP_some {δ : Type} {a b r : List δ} (h : appP a b = some r) : a.length + b.length ≤ 4294967296 ∧ r = a ++ b := by
  unfold appP at h
  split at h
  · cases h; exact ⟨by assumption, rfl⟩
  · cases h
theorem bv_sgtr {P : Program} {T : TypeId} {x y : Operand} {s t : ByteArray} : BinV P .gtr T x y (.string s) (.string t) (.bool (!sLt s t && !decide (s = t))) := fun w => by simp [eqGuard, binOp, Op.stringOp, sLt, str_eq]
theorem bv_sleq {P : Program} {T : TypeId} {x y : Operand} {s t : ByteArray} : BinV P .leq T x y (.string s) (.string t) (.bool (sLt s t || decide (s = t))) := fun w => by simp [eqGuard, binOp, Op.stringOp, sLt, str_eq]
/-- What owns no block. -/
class FlatT (τ : Type) {δ : outParam Type} [GT τ δ] : Prop where
  flat : ∀ t : τ, Flat t
instance : FlatT Int := ⟨fun _ => flat_int trivial⟩
instance : FlatT Bool := ⟨fun b => flat_bool b⟩
instance : FlatT UInt8 := ⟨fun b => flat_u8 b⟩
instance : FlatT ByteArray := ⟨fun _ => flat_str trivial⟩
instance {α β δ ε : Type} [GT α δ] [GT β ε] [FlatT α] [FlatT β] : FlatT (α × β) := ⟨fun t => flat_pair (FlatT.flat t.1) (FlatT.flat t.2)⟩
section
variable {τ δ : Type} [GT τ δ]
/-- append of one value that owns something, out of a new row. -/
theorem L_app1 {s x : Operand} {T e sz by_ c b : Nat} {z : List Value} {X : TL τ} {T' : TypeId} (y : τ) {r : List δ} (hn : Nat.blt d Γ.n = true)
    (hs : ev l s = some X.hdr) (hx : ev l x = some (.slice (some ⟨b, 0, none⟩) 1 c)) (ht : elOf Γ.P T = some (e, sz, by_, z)) (hsz : GT.sz τ = sz) (hz : z.length = sz)
    (hp : Pick (treeH X) M M1) (hsrc : blk b (GT.cells y) T' ∈ M) (hy : Pick (treeH y) M1 M2)
    (hr : appP (GT.dat X) [GT.dat y] = some r) (hb : by_ ≤ 32768)
    (hk : ∀ X' : TL τ, GT.dat X' = r → L Γ rest ((d, X'.hdr) :: l) (treeH X' :: M2) K) :
    L Γ ({ dst := some d, op := .call { callee := .builtin .append, args := #[s, x], argTypes := #[T, T] }, type := ty, pos, after := af, guard := none } :: rest) l M K := by
  obtain ⟨h1, rfl⟩ := appP_some hr
  refine L_appA (ys := [y]) hn hs hx ht hsz hz hp rfl (fun w hw j v hv => ?_) (fun w R h => elsT_one (h.perm (hy.perm.append_right R))) (by simpa [dat_els] using h1) hb
    (fun X' h => hk X' (by rw [dat_els, h, List.map_append, dat_els]; rfl))
  rw [addr_add]
  exact RdC.blk (Γ := Γ) hsrc w hw j v (by simpa [rowCells] using hv)
theorem L_app1F [FlatT τ] {s x : Operand} {T e sz by_ c b : Nat} {z : List Value} {X : TL τ} {T' : TypeId} (y : τ) {r : List δ} (hn : Nat.blt d Γ.n = true)
    (hs : ev l s = some X.hdr) (hx : ev l x = some (.slice (some ⟨b, 0, none⟩) 1 c)) (ht : elOf Γ.P T = some (e, sz, by_, z)) (hsz : GT.sz τ = sz) (hz : z.length = sz)
    (hp : Pick (treeH X) M M1) (hsrc : blk b (GT.cells y) T' ∈ M)
    (hr : appP (GT.dat X) [GT.dat y] = some r) (hb : by_ ≤ 32768)
    (hk : ∀ X' : TL τ, GT.dat X' = r → L Γ rest ((d, X'.hdr) :: l) (treeH X' :: M1) K) :
    L Γ ({ dst := some d, op := .call { callee := .builtin .append, args := #[s, x], argTypes := #[T, T] }, type := ty, pos, after := af, guard := none } :: rest) l M K := by
  obtain ⟨h1, rfl⟩ := appP_some hr
  refine L_appA (ys := [y]) hn hs hx ht hsz hz hp rfl (fun w hw j v hv => ?_) (fun w R h => elsT_flat h fun x _ => FlatT.flat x) (by simpa [dat_els] using h1) hb
    (fun X' h => hk X' (by rw [dat_els, h, List.map_append, dat_els]; rfl))
  rw [addr_add]
  exact RdC.blk (Γ := Γ) hsrc w hw j v (by simpa [rowCells] using hv)
/-- append of a whole slice whose elements own nothing. -/
theorem L_appT [FlatT τ] {s x : Operand} {T e sz by_ : Nat} {z : List Value} {X Y : TL τ} {r : List δ} (hn : Nat.blt d Γ.n = true)
    (hs : ev l s = some X.hdr) (hx : ev l x = some Y.hdr) (ht : elOf Γ.P T = some (e, sz, by_, z)) (hsz : GT.sz τ = sz) (hz : z.length = sz)
    (hp : Pick (treeH X) M M1) (hsrc : RdT Γ M Y) (hr : appP (GT.dat X) (GT.dat Y) = some r) (hb : by_ ≤ 32768)
    (hk : ∀ X' : TL τ, GT.dat X' = r → L Γ rest ((d, X'.hdr) :: l) (treeH X' :: M1) K) :
    L Γ ({ dst := some d, op := .call { callee := .builtin .append, args := #[s, x], argTypes := #[T, T] }, type := ty, pos, after := af, guard := none } :: rest) l M K := by
  obtain ⟨h1, rfl⟩ := appP_some hr
  simp only [dat_els, List.length_map] at h1
  obtain ⟨a2, c2, e2, x2, tl2⟩ := Y
  cases a2 with
  | some a2 =>
    obtain ⟨b, o, sp⟩ := a2
    refine L_appA (ys := x2) hn hs hx ht hsz hz hp rfl (fun w hw j v hv => ?_) (fun w R h => elsT_flat h fun x _ => FlatT.flat x) h1 hb
      (fun X' h => hk X' (by rw [dat_els, h, List.map_append]; rfl))
    have h2 := (hsrc w hw).2.2.2.2 _ rfl
    have hne : x2 ≠ [] := fun e => by subst e; simp [rowCells] at hv
    have h3 : sp = none := h2.1 hne
    subst h3
    rw [addr_add]; exact (h2.2 j v hv).1
  | none =>
    intro ops a w Q ha hw
    have h2 : x2 = [] := (hsrc w hw.sees).2.2.2.1 rfl
    subst h2
    have hk' := hk X (by rw [dat_els]; show _ = _ ++ [].map GT.dat; simp)
    have hr : GT.ow w X := (hw.perm hp.perm).prs _ (List.mem_cons_self ..)
    refine L_step rfl rfl (Nat.le_of_ble_eq_true hn) (fun a w ha hw => ⟨w, ?_, hw.perm hp.perm⟩) hk' ops a w Q ha hw
    have := append_none (P := Γ.P) (w := w) (a := X.a) (n := X.els.length) (c := X.cap) (c2 := c2) ht hr.1 ty
    have h5 : (Builtin.append_ #[T, T] ty #[X.hdr, .slice none 0 c2]).run Γ.P w = .ok X.hdr w := this
    have h6 := ha.eval hx
    simp only [TL.hdr, List.length_nil] at h6
    generalize X.hdr = uu at *
    simp [execOp, resolve, invoke, builtin, ha.eval hs, h6, h5]
/-! Slices of slices -/
def slc (X : TL τ) (lo hi : Nat) : TL τ := ⟨if X.cap = lo then X.a else X.a.map (·.add (lo * GT.sz τ)), X.cap - lo, X.e, (X.els.drop lo).take (hi - lo), []⟩
theorem slc_rd {X : TL τ} {lo hi : Nat} (h : GT.rd w0 S0 X) (h1 : lo ≤ hi) (h2 : hi ≤ X.els.length) : GT.rd w0 S0 (slc X lo hi) := by
  obtain ⟨r1, r2, r3, r4, r5⟩ := h
  have hsub : ∀ x, x ∈ (X.els.drop lo).take (hi - lo) → x ∈ X.els := fun x hx => List.mem_of_mem_drop (List.mem_of_mem_take hx)
  refine ⟨?_, ?_, fun x hx => r3 x (hsub x hx), fun ha => ?_, fun a ha => ?_⟩
  · show ((X.els.drop lo).take (hi - lo)).length ≤ X.cap - lo
    simp; omega
  · show X.cap - lo ≤ maxLen
    omega
  · have ha' : (if X.cap = lo then X.a else X.a.map (·.add (lo * GT.sz τ))) = none := ha
    have : X.a = none := by split at ha' <;> simpa using ha'
    show (X.els.drop lo).take (hi - lo) = []
    rw [r4 this]; simp
  · have ha' : (if X.cap = lo then X.a else X.a.map (·.add (lo * GT.sz τ))) = some a := ha
    by_cases hcl : X.cap = lo
    · have he : (X.els.drop lo).take (hi - lo) = [] := by rw [List.drop_of_length_le (by omega)]; simp
      refine ⟨fun hne => (hne he).elim, fun j v hv => ?_⟩
      have hv' : (rowCells ((X.els.drop lo).take (hi - lo)))[j]? = some v := hv
      rw [he] at hv'
      simp [rowCells] at hv'
    · rw [if_neg hcl] at ha'
      obtain ⟨a0, h3, h4⟩ := Option.map_eq_some_iff.1 ha'
      obtain ⟨r6, r7⟩ := r5 a0 h3
      have hspot : (X.els.drop lo).take (hi - lo) ≠ [] → a0.spot = none := fun hne => r6 (fun e => hne (by rw [e]; simp))
      have hadd : a0.spot = none → a0.add (lo * GT.sz τ) = ⟨a0.block, a0.off + lo * GT.sz τ, none⟩ := fun hs => by
        obtain ⟨b, o, s⟩ := a0
        have hs' : s = none := hs
        subst hs'
        rw [addr_add]
      refine ⟨fun hne => ?_, fun j v hv => ?_⟩
      · rw [← h4, hadd (hspot hne)]
      · have hv' : (rowCells ((X.els.drop lo).take (hi - lo)))[j]? = some v := hv
        have hne : (X.els.drop lo).take (hi - lo) ≠ [] := fun e => by rw [e] at hv'; simp [rowCells] at hv'
        rw [← h4, hadd (hspot hne)]
        have hrow : rowCells X.els = rowCells (X.els.take lo) ++ (rowCells ((X.els.drop lo).take (hi - lo)) ++ rowCells ((X.els.drop lo).drop (hi - lo))) := by
          rw [← rowCells_append, ← rowCells_append, List.take_append_drop, List.take_append_drop]
        have hl : (rowCells (X.els.take lo)).length = lo * GT.sz τ := by rw [length_rowCells, List.length_take, Nat.min_eq_left (by omega)]
        have := r7 (lo * GT.sz τ + j) v (by
          rw [hrow, List.getElem?_append_right (by omega), hl, Nat.add_sub_cancel_left, List.getElem?_append_left (List.getElem?_eq_some_iff.1 hv').1]; exact hv')
        rw [show a0.off + lo * GT.sz τ + j = a0.off + (lo * GT.sz τ + j) by omega]; exact this
theorem RdT.slc {X : TL τ} {lo hi : Nat} (h : RdT Γ M X) (h1 : lo ≤ hi) (h2 : hi ≤ X.els.length) : RdT Γ M (slc X lo hi) := fun w hw => slc_rd (h w hw) h1 h2
def slcP {δ : Type} (l : List δ) (a b : Int) : Option (List δ) := if 0 ≤ a ∧ a ≤ b ∧ b ≤ l.length then some ((l.drop a.toNat).take (b.toNat - a.toNat)) else none
def optI (l : Envl) (x : Option Operand) (n : Int) : Option Int := match x with
  | none => some n
  | some o => match ev l o with | some (.int _ i) => some i | _ => none
theorem optI_some {o : Operand} {n i : Int} (h : optI l (some o) n = some i) : ∃ k, ev l o = some (.int k i) := by
  unfold optI at h
  dsimp only at h
  split at h
  · cases h; exact ⟨_, by assumption⟩
  · cases h
theorem run_sliceBound {P : Program} {k : IntKind} {i : Int} {y : Nat} {code : BoundsCode} (h0 : 0 ≤ i) (h1 : i ≤ (y : Int)) (w : World) : (Instr.sliceBound (.int k i) y code).run P w = .ok i.toNat w := by
  simp [Instr.sliceBound, asIntOf, h0, h1]
theorem L_slc {x : Operand} {lo hi : Option Operand} {T e sz by_ : Nat} {z : List Value} {X : TL τ} {a b : Int} {r : List δ} (hn : Nat.blt d Γ.n = true) (hx : ev l x = some X.hdr) (hlo : optI l lo 0 = some a) (hhi : optI l hi ((GT.dat X).length : Int) = some b)
    (ht : elOf Γ.P T = some (e, sz, by_, z)) (hsz : GT.sz τ = sz) (hR : RdT Γ M X) (hr : slcP (GT.dat X) a b = some r)
    (hk : ∀ X' : TL τ, GT.dat X' = r → (∀ w S, GT.rd w S X → GT.rd w S X') → L Γ rest ((d, X'.hdr) :: l) M K) :
    L Γ ({ dst := some d, op := .slice T x lo hi none, type := ty, pos := pos, after := af, guard := none } :: rest) l M K := by
  unfold slcP at hr
  split at hr
  · rename_i hb
    cases hr
    rw [dat_els, List.length_map] at hb hhi
    obtain ⟨h0, h1, h2⟩ := hb
    have h1' : a.toNat ≤ b.toNat := by omega
    have h2' : b.toNat ≤ X.els.length := by omega
    refine L_pure hn (v := (slc X a.toNat b.toNat).hdr) (fun a' w ha hw => ?_) (hk (slc X a.toNat b.toNat) (by rw [dat_els, dat_els]; simp [slc, List.map_take, List.map_drop]) (fun w S h => slc_rd h h1' h2'))
    have hcap : X.els.length ≤ X.cap := (hR w hw.sees).1
    unfold elOf at ht
    split at ht <;> (try cases ht)
    rename_i e' het
    split at ht <;> (try cases ht)
    rename_i i' hi'
    split at ht <;> cases ht
    have hlen : ((X.els.drop a.toNat).take (b.toNat - a.toNat)).length = b.toNat - a.toNat := by simp; omega
    have hv : (slc X a.toNat b.toNat).hdr = .slice (if X.cap = a.toNat then X.a else X.a.map (·.add (a.toNat * i'.size))) (b.toNat - a.toNat) (X.cap - a.toNat) := by
      show Value.slice _ ((X.els.drop a.toNat).take (b.toNat - a.toNat)).length _ = _
      rw [hlen]; simp only [slc, hsz]
    rw [hv]
    have e1 : a'.eval x = .slice X.a X.els.length X.cap := ha.eval hx
    cases lo with
    | none =>
      cases hlo
      cases hi with
      | none =>
        cases hhi
        simp only [execOp, Option.map_none, e1, Instr.sliceAt, Instr.slice, underlying, Sem.run_bind, run_program, Result.andThen_ok, het, Instr.sliceBounds, Sem.run_pure, sizeOf, typeInfo, hi']
        simp
      | some o =>
        obtain ⟨k, h5⟩ := optI_some hhi
        have e2 := ha.eval h5
        have e4 := fun w => run_sliceBound (P := Γ.P) (k := k) (code := .sliceAcap) (show 0 ≤ b by omega) (show b ≤ ((X.cap : Nat) : Int) by omega) w
        simp [execOp, e1, e2, Instr.sliceAt, Instr.slice, underlying, het, Instr.sliceBounds, sizeOf, typeInfo, hi', e4]
    | some o1 =>
      obtain ⟨k1, h6⟩ := optI_some hlo
      have e3 := ha.eval h6
      cases hi with
      | none =>
        cases hhi
        have e4 := fun w => run_sliceBound (P := Γ.P) (k := k1) (code := .sliceB) h0 (show a ≤ ((X.els.length : Nat) : Int) by omega) w
        simp [execOp, e1, e3, Instr.sliceAt, Instr.slice, underlying, het, Instr.sliceBounds, sizeOf, typeInfo, hi', e4]
      | some o =>
        obtain ⟨k, h5⟩ := optI_some hhi
        have e2 := ha.eval h5
        have e4 := fun w => run_sliceBound (P := Γ.P) (k := k) (code := .sliceAcap) (show 0 ≤ b by omega) (show b ≤ ((X.cap : Nat) : Int) by omega) w
        have e5 := fun w => run_sliceBound (P := Γ.P) (k := k1) (code := .sliceB) h0 (show a ≤ ((b.toNat : Nat) : Int) by omega) w
        simp [execOp, e1, e2, e3, Instr.sliceAt, Instr.slice, underlying, het, Instr.sliceBounds, sizeOf, typeInfo, hi', e4, e5]
  · cases hr
end
end Go.Proofs.SL
namespace Go.Proofs.SL
open Go
variable {Γ : Cx} {l : Envl} {M M' M1 M2 F : List HP} {Q : Post} {K : Kont} {w0 w : World} {S0 : List Nat}
variable {rest : List Oper} {d : Nat} {ty : TypeId} {pos : String} {af : Array Edge}
variable {ops : Array Oper} {Msh pool : List HP} {E : Fl} {rs : List (Option Nat × Rel)} {cs0 : List Nat} {KD : List (Option Nat × Rel) → List Nat → List HP → Prop} {gd : Option (Nat × Bool)}
def optD (E : Fl) (x : Option Operand) (c : Prop) (n i : Int) : Prop := match x with
  | none => n = i
  | some o => ∃ k, OpV E o c (.int k i)
theorem optD.none {c : Prop} {n : Int} : optD E Option.none c n n := rfl
theorem optD.some {o : Operand} {c : Prop} {n i : Int} {k : IntKind} (h : OpV E o c (.int k i)) : optD E (Option.some o) c n i := ⟨k, h⟩
section
variable {τ δ : Type} [GT τ δ]
/-- A slice of one's own, its element i opened: the element's cells stand as they are named, what it owned is elsewhere. -/
def holeH (X : TL τ) (i : Nat) (cs : List Value) : HP := ⟨[X.g] ++ (X.els.eraseIdx i).flatMap GT.fp,
  fun w => cs.length = GT.sz τ ∧ i < X.els.length ∧ X.els.length ≤ X.cap ∧ X.cap ≤ maxLen ∧ X.a = some ⟨X.g, 0, none⟩ ∧ (∀ x, x ∈ X.els.eraseIdx i → GT.ow w x) ∧
    w.heap[X.g]? = some (.cells (rowCells (X.els.take i) ++ (cs ++ (rowCells (X.els.drop (i + 1)) ++ X.tail))).toArray X.e (0, 0)) ∧ X.els.length * GT.sz τ + X.tail.length = X.cap * GT.sz τ,
  fun w w' h hp => ⟨hp.1, hp.2.1, hp.2.2.1, hp.2.2.2.1, hp.2.2.2.2.1, fun x hx => GT.ow_st (fun k hk => h k (List.mem_append_right _ (List.mem_flatMap.2 ⟨x, hx, hk⟩))) (hp.2.2.2.2.2.1 x hx), by
    rw [h X.g (by simp)]; exact hp.2.2.2.2.2.2.1, hp.2.2.2.2.2.2.2⟩⟩
theorem row_parts (xs : List τ) {i : Nat} {x : τ} (hi : xs[i]? = some x) : rowCells xs = rowCells (xs.take i) ++ (GT.cells x ++ rowCells (xs.drop (i + 1))) := by
  obtain ⟨hlt, hx⟩ := List.getElem?_eq_some_iff.1 hi
  have h1 : xs = xs.take i ++ xs[i] :: xs.drop (i + 1) := by rw [← List.drop_eq_getElem_cons hlt, List.take_append_drop]
  conv => lhs; rw [h1]
  rw [rowCells_append, rowCells_cons, hx]
theorem perm_el (xs : List τ) {i : Nat} {x : τ} (hi : xs[i]? = some x) : List.Perm xs (x :: xs.eraseIdx i) := by
  obtain ⟨hlt, hx⟩ := List.getElem?_eq_some_iff.1 hi
  rw [List.eraseIdx_eq_take_drop_succ]
  have : xs = xs.take i ++ x :: xs.drop (i + 1) := by rw [← hx, ← List.drop_eq_getElem_cons hlt, List.take_append_drop]
  conv => lhs; rw [this]
  exact List.perm_middle
theorem hole_open {X : TL τ} {i : Nat} {x : τ} (hi : X.els[i]? = some x) (p : Pick (treeH X) M M1) (h : Holds w0 S0 M w) : Holds w0 S0 (treeH x :: holeH X i (GT.cells x) :: M1) w := by
  have h := h.perm p.perm
  have ht : GT.ow w X := h.prs _ (List.mem_cons_self ..)
  have hlt := (List.getElem?_eq_some_iff.1 hi).1
  obtain ⟨r1, r2, r3, r4, r5⟩ := ht
  obtain ⟨g, ha⟩ := (ow_facts (w := w) (L := X) ⟨r1, r2, r3, r4, r5⟩).2 (by omega)
  have hg : X.g = g := by unfold TL.g; rw [ha]; rfl
  subst hg
  obtain ⟨h1, h2, h3, h4⟩ := r5 _ ha
  refine h.reFp ?_ fun y hy => ?_
  · simp only [fps_cons]
    show List.Perm (((match X.a with | none => [] | some a => [a.block]) ++ X.els.flatMap GT.fp) ++ fps M1) (GT.fp x ++ (([X.g] ++ (X.els.eraseIdx i).flatMap GT.fp) ++ fps M1))
    rw [ha]
    have hp := (perm_el X.els hi).flatMap_right GT.fp
    rw [List.flatMap_cons] at hp
    show List.Perm (([X.g] ++ X.els.flatMap GT.fp) ++ fps M1) _
    rw [← List.append_assoc, ← List.append_assoc]
    refine List.Perm.append_right _ ?_
    refine (hp.append_left [X.g]).trans ?_
    rw [← List.append_assoc]
    exact List.perm_append_comm.append_right _
  · rcases List.mem_cons.1 hy with rfl | hy
    · exact r3 x (List.mem_of_getElem? hi)
    rcases List.mem_cons.1 hy with rfl | hy
    · refine ⟨GT.len x, hlt, r1, r2, ha, fun z hz => r3 z ((perm_el X.els hi).mem_iff.2 (List.mem_cons_of_mem _ hz)), ?_, h4⟩
      rw [row_parts X.els hi] at h3
      simpa [List.append_assoc] using h3
    · exact h.prs _ (List.mem_cons_of_mem _ hy)
theorem hole_close {X : TL τ} {i : Nat} {x' : τ} {cs : List Value} (hc : cs = GT.cells x') (p : Pick (holeH X i cs) M M1) (q : Pick (treeH x') M1 M2) (h : Holds w0 S0 M w) :
    Holds w0 S0 (treeH ({ X with els := X.els.set i x' } : TL τ) :: M2) w := by
  subst hc
  have h := h.perm (p.perm.trans (q.perm.cons _))
  obtain ⟨r1, r2, r3, r4, r5, r6, r7, r8⟩ := h.prs (holeH X i (GT.cells x')) (List.mem_cons_self ..)
  have hx := h.prs (treeH x') (List.mem_cons_of_mem _ (List.mem_cons_self ..))
  have hi : (X.els.set i x')[i]? = some x' := by rw [List.getElem?_set_self]; exact r2
  have he : (X.els.set i x').eraseIdx i = X.els.eraseIdx i := by
    rw [List.eraseIdx_eq_take_drop_succ, List.eraseIdx_eq_take_drop_succ, List.take_set_of_le (Nat.le_refl _), List.drop_set_of_lt (Nat.lt_succ_self _)]
  refine h.reFp ?_ fun y hy => ?_
  · simp only [fps_cons]
    show List.Perm (([X.g] ++ (X.els.eraseIdx i).flatMap GT.fp) ++ (GT.fp x' ++ fps M2)) (((match X.a with | none => [] | some a => [a.block]) ++ (X.els.set i x').flatMap GT.fp) ++ fps M2)
    rw [r5]
    have hp := (perm_el _ hi).flatMap_right GT.fp
    rw [List.flatMap_cons, he] at hp
    show List.Perm _ (([X.g] ++ (X.els.set i x').flatMap GT.fp) ++ fps M2)
    rw [← List.append_assoc]
    refine List.Perm.append_right _ ?_
    rw [List.append_assoc]
    exact ((List.perm_append_comm).trans hp.symm).append_left [X.g]
  · rcases List.mem_cons.1 hy with rfl | hy
    · refine ⟨by simpa using r3, r4, fun z hz => ?_, fun ha => ?_, fun a ha => ?_⟩
      · rcases List.mem_cons.1 ((perm_el _ hi).mem_iff.1 hz) with rfl | hz
        · exact hx
        · rw [he] at hz; exact r6 z hz
      · have ha' : X.a = none := ha
        rw [r5] at ha'; cases ha'
      · have ha' : X.a = some a := ha
        rw [r5] at ha'; cases ha'
        refine ⟨rfl, rfl, ?_, by simpa using r8⟩
        rw [row_parts _ hi, List.take_set_of_le (Nat.le_refl _), List.drop_set_of_lt (Nat.lt_succ_self _)]
        simpa [List.append_assoc] using r7
    · exact h.prs _ (List.mem_cons_of_mem _ (List.mem_cons_of_mem _ hy))
theorem dat_set (X : TL τ) (i : Nat) (x' : τ) : GT.dat ({ X with els := X.els.set i x' } : TL τ) = (GT.dat X).set i (GT.dat x') := by
  rw [dat_els, dat_els, List.map_set]
/-- A store into the opened element. -/
theorem L_stH {x y : Operand} {T sz fo n : Nat} {v : Value} {X : TL τ} {i : Nat} {cs : List Value} (hx : ev l x = some (.pointer (some ⟨X.g, X.o + i * sz + fo, none⟩))) (hy : ev l y = some v)
    (hp : Pick (holeH X i cs) M M1) (hsz : GT.sz τ = sz) (hT : aggOf Γ.P T = some n ∨ (oneOf Γ.P T = true ∧ n = 1)) (hv : v.cells.toList.length = n) (h1 : ∀ u, u ∈ v.cells.toList → u.oneCell' = true) (hfit : fo + n ≤ cs.length)
    (hk : L Γ rest l (holeH X i (cs.take fo ++ v.cells.toList ++ cs.drop (fo + n)) :: M1) K) :
    L Γ ({ dst := none, op := .store T x y, type := ty, pos, after := af, guard := none } :: rest) l M K :=
  L_skip rfl rfl (fun a w ha hw => by
    subst hsz; subst hv
    have hw1 := hw.perm hp.perm
    obtain ⟨r1, r2, r3, r4, r5, r6, r7, r8⟩ := hw1.prs (holeH X i cs) (List.mem_cons_self ..)
    have ho : X.o = 0 := by unfold TL.o; rw [r5]; rfl
    have hl : (rowCells (X.els.take i)).length = i * GT.sz τ := by rw [length_rowCells, List.length_take, Nat.min_eq_left (by omega)]
    have hs := run_store_blk (P := Γ.P) (fo := i * GT.sz τ + fo) (vs := v.cells.toList) (ty := 0) r7 (by
      simp only [List.length_append, hl]; omega) h1
    have e : (rowCells (X.els.take i) ++ (cs ++ (rowCells (X.els.drop (i + 1)) ++ X.tail))).take (i * GT.sz τ + fo) ++ v.cells.toList ++ (rowCells (X.els.take i) ++ (cs ++ (rowCells (X.els.drop (i + 1)) ++ X.tail))).drop (i * GT.sz τ + fo + v.cells.toList.length)
        = rowCells (X.els.take i) ++ ((cs.take fo ++ v.cells.toList ++ cs.drop (fo + v.cells.toList.length)) ++ (rowCells (X.els.drop (i + 1)) ++ X.tail)) := by
      generalize rowCells (X.els.take i) = A at *
      generalize (rowCells (X.els.drop (i + 1)) ++ X.tail) = B at *
      rw [← hl]
      rw [List.take_append, List.take_of_length_le (by omega), Nat.add_sub_cancel_left, List.take_append_of_le_length (by omega)]
      rw [show A.length + fo + v.cells.toList.length = A.length + (fo + v.cells.toList.length) by omega, List.drop_append, List.drop_of_length_le (by omega), List.nil_append, Nat.add_sub_cancel_left, List.drop_append_of_le_length (by omega)]
      simp only [List.append_assoc]
    rw [e] at hs
    refine ⟨w.setRow X.g (rowCells (X.els.take i) ++ ((cs.take fo ++ v.cells.toList ++ cs.drop (fo + v.cells.toList.length)) ++ (rowCells (X.els.drop (i + 1)) ++ X.tail))).toArray, ?_, ?_⟩
    · have hx' := ha.eval hx
      rw [ho, Nat.zero_add] at hx'
      rcases hT with hT | ⟨hT, hn1⟩
      · have hcs : v.cells.size = v.cells.toList.length := by simp
        simp [execOp, hx', ha.eval hy, Instr.storeAt, Instr.sureAddr, storeVar, run_isAgg_agg hT, hs]
      · have hcs : v.cells.size = 1 := by rw [← hn1]; simp
        simp [execOp, hx', ha.eval hy, Instr.storeAt, Instr.sureAddr, storeVar, run_isAgg_one hT, hcs, hs]
    · refine Holds.swap hw1 rfl rfl rfl (by simp) (fun k hk hn => ?_) (fun k hk => ?_) ?_ ?_
      · exact setRow_other _ _ _ _ (fun e => hn (by simp [holeH, e]))
      · have hk' : k ∈ (holeH X i cs).fp := hk
        refine ⟨.inl hk', ?_⟩
        rw [size_setRow]
        exact (hw1.rng k (by rw [fps_cons]; exact List.mem_append_left _ hk')).2
      · have := hw1.nodup
        rw [fps_cons] at this
        exact (List.nodup_append.1 this).1
      · have hdis : ∀ k, k ∈ (X.els.eraseIdx i).flatMap GT.fp → k ≠ X.g := fun k hk e => by
          have := hw1.nodup
          rw [fps_cons] at this
          have h2 := (List.nodup_append.1 this).1
          have h3 : (X.g :: (X.els.eraseIdx i).flatMap GT.fp).Nodup := h2
          rw [List.nodup_cons] at h3
          exact h3.1 (e ▸ hk)
        refine ⟨?_, r2, r3, r4, r5, fun z hz => GT.ow_st (fun k hk => setRow_other _ _ _ _ (fun e => hdis k (List.mem_flatMap.2 ⟨z, hz, hk⟩) e)) (r6 z hz), setRow_heap _ _ _ _ _ _ r7, r8⟩
        simp only [List.length_append, List.length_take, List.length_drop]; omega) hk
end
end Go.Proofs.SL
namespace Go.Proofs.SL
open Go
theorem cells_int (n : Int) : GT.cells n = [.int .i64 n] := rfl
theorem cells_bool (b : Bool) : GT.cells b = [.bool b] := rfl
theorem cells_str (s : ByteArray) : GT.cells s = [.string s] := rfl
theorem cells_TL {τ δ : Type} [GT τ δ] (X : TL τ) : GT.cells X = [X.hdr] := rfl
theorem gnot {b : Bool} (h : b = false) : (!b) = true := by rw [h]; rfl
theorem gand {a b : Bool} (h : a = true) (h2 : b = true) : (a && b) = true := by rw [h, h2]; rfl
theorem allOne {cs : List Value} (h : cs.all Value.oneCell' = true) : ∀ v, v ∈ cs → v.oneCell' = true := List.all_eq_true.1 h
variable {Γ : Cx} {l : Envl} {M M' M1 M2 F : List HP} {Q : Post} {K : Kont} {w0 w : World} {S0 : List Nat}
variable {rest : List Oper} {d : Nat} {ty : TypeId} {pos : String} {af : Array Edge}
theorem RdT.now {τ δ : Type} [GT τ δ] {t : τ} (h : RdT Γ M t) (hw : Holds Γ.w0 Γ.S0 M w) : GT.rd w [] t := h w hw.sees
theorem RdT.nowS {τ δ : Type} [GT τ δ] {t : τ} (h : RdT Γ M t) (hw : Holds Γ.w0 Γ.S0 F w) (hs : ∀ x, x ∈ M → x ∈ F) : GT.rd w [] t := h w (hw.seesSub hs)
theorem addNilT {τ δ : Type} [GT τ δ] (e : TypeId) (h : Holds w0 S0 M w) : Holds w0 S0 (treeH (TL.nil τ e) :: M) w := h.addFlat (flat_nil e)
theorem L_mk0 (τ : Type) {δ : Type} [GT τ δ] {T e sz by_ : Nat} {z : List Value} (hn : Nat.blt d Γ.n = true) (ht : elOf Γ.P T = some (e, sz, by_, z))
    (hk : ∀ X : TL τ, GT.dat X = [] → L Γ rest ((d, X.hdr) :: l) (treeH X :: M) K) :
    L Γ ({ dst := some d, op := .buildSlice T 0 #[], type := ty, pos, after := af, guard := none } :: rest) l M K :=
  L_buildSlice0 τ hn ht (fun b => hk ⟨some ⟨b, 0, none⟩, 0, e, [], []⟩ rfl)
end Go.Proofs.SL
namespace Go.Proofs.SL
open Go
variable {Γ : Cx} {l : Envl} {M M' M1 M2 F : List HP} {Q : Post} {K : Kont} {w0 w : World} {S0 : List Nat}
variable {rest : List Oper} {d : Nat} {ty : TypeId} {pos : String} {af : Array Edge}
variable {ops : Array Oper} {Msh pool pool' : List HP} {E : Fl} {rs : List (Option Nat × Rel)} {cs0 : List Nat} {KD : List (Option Nat × Rel) → List Nat → List HP → Prop}
def RowV (cs : List Value) (e : TypeId) : Rel := fun v M => ∃ b, v = .slice (some ⟨b, 0, none⟩) 1 1 ∧ M = [blk b cs e]
theorem run_bs1 {P : Program} {T e sz by_ : Nat} {z : List Value} {v : Value} (ht : elOf P T = some (e, sz, by_, z)) (hz : z.length = sz) (hsz : 0 < sz) (hns : sz ≤ 65536) (hv : v.cells.toList.length = sz) (w : World) :
    (Instr.buildSlice T 1 #[(0, v)]).run P w = .ok (.slice (some ⟨w.heap.size, 0, none⟩) 1 1) (w.alloc (.cells v.cells.toList.toArray e (0, 0))) :=
  run_buildSlice (w := w) (n := 1) (ps := [(0, v)]) (cs := v.cells.toList) ht hz hsz (by omega) (by omega) (by
    simp only [fillL, Nat.zero_mul, Nat.one_mul, Nat.zero_add, hv, Nat.beq_refl, Bool.true_and, List.length_map, List.length_range, List.take_zero, List.nil_append]
    rw [show Nat.ble sz sz = true from Nat.ble_eq_true_of_le (Nat.le_refl _)]
    simp only []
    rw [List.drop_of_length_le (by simp), List.append_nil])
theorem D_bs1 {x : Operand} {T e sz by_ : Nat} {z : List Value} {v : Value} (hx : OpV E x True v) (ht : elOf Γ.P T = some (e, sz, by_, z)) (hz : z.length = sz) (hsz : 0 < sz) (hns : sz ≤ 65536) (hv : v.cells.toList.length = sz)
    (hk : DV Γ ops Msh pool ((d, RowV v.cells.toList e) :: E) ((some d, RowV v.cells.toList e) :: rs) cs0 rest KD) :
    DV Γ ops Msh pool E rs cs0 ({ dst := some d, op := .buildSlice T 1 #[(0, x)], type := ty, pos := pos, after := af, guard := none } :: rest) KD := by
  refine DV.mk (RowV v.cells.toList e) [] pool [] (by simp) rfl ?_ (by rw [dropE_nil]; exact hk)
  intro a w F Mk _ _ hw hm hfa hcf
  have hMk : Mk = [] := hcf
  subst hMk
  rw [dropE_nil] at hfa
  simp only [List.nil_append] at hw ⊢
  rw [if_pos (by simp [Region.wanted])]
  have e1 := hx.eval hfa (by simp [Op.operands]) trivial
  have h1 : (execOp a.eval { dst := some d, op := .buildSlice T 1 #[(0, x)], type := ty, pos := pos, after := af, guard := none }).run Γ.P w = .ok (.value (.slice (some ⟨w.heap.size, 0, none⟩) 1 1)) (w.alloc (.cells v.cells.toList.toArray e (0, 0))) := by
    simp only [execOp]
    have : (#[(0, x)] : Array (Nat × Operand)).map (fun (i, x) => (i, a.eval x)) = #[(0, v)] := by simp [e1]
    rw [this]
    simp [run_bs1 ht hz hsz hns hv]
  rw [h1]
  exact ⟨[blk w.heap.size v.cells.toList e], ⟨_, rfl, rfl⟩, Holds.new (show Holds Γ.w0 Γ.S0 F w by simpa using hw) rfl⟩
section
variable {τ δ : Type} [GT τ δ]
def OwnV (r : List δ) : Rel := fun v M => ∃ X : TL τ, v = X.hdr ∧ GT.dat X = r ∧ M = [treeH X]
/-! A row whose elements are handed on -/
theorem RdC.row {X : TL τ} {j : Nat} {x : τ} (h : rowH X ∈ M) (hi : X.els[j]? = some x) : RdC Γ M X.g (X.o + j * GT.sz τ) (GT.cells x) := fun w hw k v hv => by
  obtain ⟨r1, r2, r3, r4⟩ := hw.prs _ h
  have hlt := (List.getElem?_eq_some_iff.1 hi).1
  have hk : k < GT.sz τ := by rw [← GT.len x]; exact (List.getElem?_eq_some_iff.1 hv).1
  cases ha : X.a with
  | none => have := (r3 ha).1; rw [this] at hlt; simp at hlt
  | some a =>
    obtain ⟨h1, h2, h3, h4⟩ := r4 a ha
    have hg : X.g = a.block := by unfold TL.g; rw [ha]; rfl
    have ho : X.o = 0 := by unfold TL.o; rw [ha]; exact h2
    rw [hg, ho, Nat.zero_add, cell_of_row _ _ _ _ _ _ h3]
    simp only [List.getElem?_toArray]
    have hc := rowCells_get X.els j k x hi hk
    rw [List.getElem?_append_left (by rw [hv] at hc; exact (List.getElem?_eq_some_iff.1 hc).1), hc]
    exact hv
theorem row_adr {X : TL τ} {j : Nat} {u : τ} (h : (rowH X).pr w) (hi : X.els[j]? = some u) : X.hdr = .slice (some ⟨X.g, X.o, none⟩) X.els.length X.cap := by
  obtain ⟨r1, r2, r3, r4⟩ := h
  have hlt := (List.getElem?_eq_some_iff.1 hi).1
  show Value.slice X.a X.els.length X.cap = _
  cases ha : X.a with
  | none => have := (r3 ha).1; rw [this] at hlt; simp at hlt
  | some a =>
    obtain ⟨h1, h2, h3, h4⟩ := r4 a ha
    obtain ⟨b, o, s⟩ := a
    have h1 : s = none := h1
    subst h1
    simp [TL.g, TL.o, ha]
/-- The next element leaves the pool. -/
theorem els_next {X : TL τ} {i : Nat} {u : τ} (hi : X.els[i]? = some u) (p : Pick (elsT (X.els.drop i)) M M1) (h : Holds w0 S0 M w) : Holds w0 S0 (treeH u :: elsT (X.els.drop (i + 1)) :: M1) w := by
  have h1 := h.perm p.perm
  obtain ⟨hlt, hx⟩ := List.getElem?_eq_some_iff.1 hi
  have he : X.els.drop i = u :: X.els.drop (i + 1) := by rw [← hx, ← List.drop_eq_getElem_cons hlt]
  rw [he] at h1
  refine h1.reFp (List.Perm.of_eq ?_) fun y hy => ?_
  · simp only [fps_cons]
    show (u :: X.els.drop (i + 1)).flatMap GT.fp ++ fps M1 = GT.fp u ++ ((X.els.drop (i + 1)).flatMap GT.fp ++ fps M1)
    rw [List.flatMap_cons, List.append_assoc]
  · have h2 := h1.prs (elsT (u :: X.els.drop (i + 1))) (List.mem_cons_self ..)
    rcases List.mem_cons.1 hy with rfl | hy
    · exact h2 u (List.mem_cons_self ..)
    rcases List.mem_cons.1 hy with rfl | hy
    · exact fun x hx => h2 x (List.mem_cons_of_mem _ hx)
    · exact h1.prs _ (List.mem_cons_of_mem _ hy)
theorem els_start {X : TL τ} (p : Pick (treeH X) M M1) (h : Holds w0 S0 M w) : Holds w0 S0 (rowH X :: elsT (X.els.drop 0) :: M1) w := tree_row (h.perm p.perm)
theorem els_step {X : TL τ} {i : Int} {u : τ} (hi : 0 ≤ i ∧ X.els[i.toNat]? = some u) (hm : rowH X ∈ M) (p : Pick (elsT (X.els.drop (i.toNat + 1))) M M1) (h : Holds w0 S0 M w) :
    Holds w0 S0 (elsT (X.els.drop (IntKind.wrap .i64 (i + 1)).toNat) :: M1) w := by
  have h1 := h.perm p.perm
  have hlt := (List.getElem?_eq_some_iff.1 hi.2).1
  obtain ⟨r1, r2, _⟩ := h.prs _ hm
  simp only [maxLen] at r2
  rw [wrap64_in (by unfold inR; omega), show (i + 1).toNat = i.toNat + 1 by omega]
  exact h1
end
end Go.Proofs.SL
namespace Go.Proofs.SL
open Go
variable {Γ : Cx} {l : Envl} {M M' M1 M2 F : List HP} {Q : Post} {K : Kont} {rest : List Oper}
section
variable {τ δ : Type} [GT τ δ]
theorem L_close {X : TL τ} {i : Nat} {cs : List Value} (x' : τ) {r : List δ} (hc : cs = GT.cells x') (p : Pick (holeH X i cs) M M1) (q : Pick (treeH x') M1 M2) (hr : some ((GT.dat X).set i (GT.dat x')) = some r)
    (hk : ∀ X2 : TL τ, GT.dat X2 = r → X2.hdr = X.hdr → L Γ rest l (treeH X2 :: M2) K) : L Γ rest l M K :=
  L_conv (fun w h => hole_close hc p q h) (hk _ (by rw [dat_set]; exact Option.some.inj hr) (by show Value.slice X.a (X.els.set i x').length X.cap = Value.slice X.a X.els.length X.cap; rw [List.length_set]))
end
end Go.Proofs.SL
namespace Go.Proofs.SL
open Go
variable {Γ : Cx} {rest : List Oper} {d : Nat} {ty : TypeId} {pos : String} {af : Array Edge} {gd : Option (Nat × Bool)}
variable {ops : Array Oper} {Msh pool : List HP} {E : Fl} {rs : List (Option Nat × Rel)} {cs0 : List Nat} {KD : List (Option Nat × Rel) → List Nat → List HP → Prop}
end Go.Proofs.SL
namespace Go.Proofs.SL
open Go
variable {Γ : Cx} {rest : List Oper} {d : Nat} {ty : TypeId} {pos : String} {af : Array Edge} {gd : Option (Nat × Bool)}
variable {ops : Array Oper} {Msh pool : List HP} {E : Fl} {rs : List (Option Nat × Rel)} {cs0 : List Nat} {KD : List (Option Nat × Rel) → List Nat → List HP → Prop}
theorem D_idxR {τ δ : Type} [GT τ δ] {x y : Operand} {T e sz by_ : Nat} {z : List Value} {k : IntKind} {i : Int} {X : TL τ} {u : τ} {c : Prop} (hg : GC ops E { dst := some d, op := .indexAddr T x y, type := ty, pos := pos, after := af, guard := gd } c)
    (hx : OpV E x c X.hdr) (hy : OpV E y c (.int k i)) (ht : elOf Γ.P T = some (e, sz, by_, z)) (hm : rowH X ∈ Msh) (hi : c → 0 ≤ i ∧ X.els[i.toNat]? = some u)
    (hk : DV Γ ops Msh pool ((d, FC c (.pointer (some ⟨X.g, X.o + i.toNat * sz, none⟩))) :: E) ((some d, FC c (.pointer (some ⟨X.g, X.o + i.toNat * sz, none⟩))) :: rs) cs0 rest KD) :
    DV Γ ops Msh pool E rs cs0 ({ dst := some d, op := .indexAddr T x y, type := ty, pos := pos, after := af, guard := gd } :: rest) KD :=
  DV_pure c _ hg (fun a w F hc hf hs => by
    have e1 := hx.eval hf (by simp [Op.operands]) hc
    have e2 := hy.eval hf (by simp [Op.operands]) hc
    obtain ⟨h0, h1⟩ := hi hc
    rw [row_adr (hs.prs _ hm) h1] at e1
    simp [execOp, e1, e2, run_indexAt ht X.g X.o X.els.length X.cap k i i.toNat (by omega) (List.getElem?_eq_some_iff.1 h1).1 w]) hk
end Go.Proofs.SL
namespace Go.Proofs.SL
open Go
section
variable {α β σ τ : Type}
theorem wrap_succ {k : Nat} (h : k < 9223372036854775807) : IntKind.wrap .i64 ((k : Int) + 1) = ((k + 1 : Nat) : Int) := by rw [wrap64_in (by unfold inR; omega)]; omega
theorem gb_true [Inhabited α] {o : Option α} {k : α → Option β} : gb true o k = o.bind k := rfl
theorem gb_false [Inhabited α] {o : Option α} {k : α → Option β} : gb false o k = k default := rfl
/-- What a walk along a list does. -/
def goE (step : τ → β → τ ⊕ Option α) (fin : τ → Option α) : List β → τ → Option α
  | [], t => fin t
  | x :: xs, t => match step t x with
    | .inl t' => goE step fin xs t'
    | .inr r => r
theorem whileP_go {f : σ → Option (σ ⊕ α)} {l : List β} (mk : Nat → τ → σ) (step : τ → β → τ ⊕ Option α) (fin : τ → Option α) (I : Nat → τ → Prop)
    (hs : ∀ k t x, l[k]? = some x → I k t → (∃ t', step t x = .inl t' ∧ f (mk k t) = some (.inl (mk (k + 1) t')) ∧ I (k + 1) t') ∨ (∃ r, step t x = .inr r ∧ f (mk k t) = r.map .inr))
    (he : ∀ t, I l.length t → f (mk l.length t) = (fin t).map .inr) : ∀ (xs : List β) (k : Nat) (t : τ), l.drop k = xs → I k t → k ≤ l.length → whileP f (mk k t) = goE step fin xs t
  | [], k, t, hd, hi, hk => by
    have hlen : k = l.length := by
      have := congrArg List.length hd
      simp at this; omega
    subst hlen
    rw [whileP_eq, he t hi]
    show _ = fin t
    cases fin t <;> rfl
  | x :: xs, k, t, hd, hi, hk => by
    have hx : l[k]? = some x := by
      have := congrArg (fun q => q[0]?) hd
      simpa [List.getElem?_drop] using this
    have hlt := (List.getElem?_eq_some_iff.1 hx).1
    have hd' : l.drop (k + 1) = xs := by
      have := congrArg List.tail hd
      simpa [List.tail_drop] using this
    rw [whileP_eq]
    rcases hs k t x hx hi with ⟨t', h1, h2, h3⟩ | ⟨r, h1, h2⟩
    · rw [h2]
      show whileP f (mk (k + 1) t') = _
      rw [whileP_go mk step fin I hs he xs (k + 1) t' hd' h3 (by omega)]
      simp only [goE, h1]
    · rw [h2]
      simp only [goE, h1]
      cases r <;> rfl
theorem whileP_for {f : σ → Option (σ ⊕ α)} {l : List β} (mk : Nat → τ → σ) (step : τ → β → τ ⊕ Option α) (fin : τ → Option α) (I : Nat → τ → Prop) (t0 : τ) {s0 : σ} (h0 : mk 0 t0 = s0) (hI : I 0 t0)
    (hs : ∀ k t x, l[k]? = some x → I k t → (∃ t', step t x = .inl t' ∧ f (mk k t) = some (.inl (mk (k + 1) t')) ∧ I (k + 1) t') ∨ (∃ r, step t x = .inr r ∧ f (mk k t) = r.map .inr))
    (he : ∀ t, I l.length t → f (mk l.length t) = (fin t).map .inr) : whileP f s0 = goE step fin l t0 := by
  subst h0
  exact whileP_go mk step fin I hs he l 0 t0 rfl hI (Nat.zero_le _)
theorem goE_app (xs acc : List β) (g : List β → Option α) : goE (fun (t : List β) x => (.inl (t ++ [x]) : List β ⊕ Option α)) g xs acc = g (acc ++ xs) := by
  induction xs generalizing acc with
  | nil => simp [goE]
  | cons x xs ih => simp only [goE]; rw [ih]; simp
/-- A walk without early ends. -/
theorem goE_fold (h : τ → β → τ) (g : τ → Option α) : ∀ (xs : List β) (t : τ), goE (fun t x => (.inl (h t x) : τ ⊕ Option α)) g xs t = g (xs.foldl h t)
  | [], t => rfl
  | x :: xs, t => by simp only [goE, List.foldl_cons]; exact goE_fold h g xs (h t x)
theorem appP_ok {δ : Type} {a b : List δ} (h : a.length + b.length ≤ 4294967296) : appP a b = some (a ++ b) := if_pos h
theorem lt_dec {k n : Nat} (h : k < n) : decide ((k : Int) < (n : Int)) = true := decide_eq_true (by omega)
theorem ge_dec {n : Nat} : decide ((n : Int) < (n : Int)) = false := decide_eq_false (by omega)
/-- A check of all places. -/
theorem whileP_all {f : Int → Option (Int ⊕ α)} {n : Nat} (b : Nat → Bool) (no yes : Option α)
    (h : ∀ k, k < n → f (k : Int) = if b k then some (.inl ((k + 1 : Nat) : Int)) else no.map .inr) (hn : f (n : Int) = yes.map .inr) : whileP f 0 = if (List.range n).all b then yes else no := by
  have key : ∀ m k, n - k = m → k ≤ n → whileP f (k : Int) = if (List.range' k (n - k)).all b then yes else no := by
    intro m
    induction m with
    | zero =>
      intro k hm hk
      have : k = n := by omega
      subst this
      rw [whileP_eq, hn, Nat.sub_self]
      cases yes <;> rfl
    | succ m ih =>
      intro k hm hk
      rw [whileP_eq, h k (by omega), show n - k = (n - (k + 1)) + 1 by omega, List.range'_succ, List.all_cons]
      cases hb : b k with
      | true =>
        simp only [if_true, Bool.true_and]
        exact ih (k + 1) (by omega) (by omega)
      | false =>
        simp only [Bool.false_and, Bool.false_eq_true, if_false]
        cases no <;> rfl
  have := key n 0 (by omega) (by omega)
  rw [Nat.sub_zero, ← List.range_eq_range'] at this
  exact this
/-- A search for the first that passes: what the loop yields where one does, or at the end. -/
theorem whileP_find {γ : Type} {f : Int → Option (Int ⊕ γ)} {l : List β} (p : β → Bool) (q : Int → Option γ) (hl : l.length ≤ 9223372036854775807)
    (hs : ∀ (k : Nat) x, l[k]? = some x → f (k : Int) = if p x then (q k).map .inr else some (.inl (IntKind.wrap .i64 ((k : Int) + 1)))) (he : f (l.length : Int) = (q (-1)).map .inr) : whileP f 0 = q (firstI p l) := by
  have key : ∀ (xs : List β) (k : Nat), l.drop k = xs → k ≤ l.length → (∀ j x, j < k → l[j]? = some x → p x = false) → whileP f (k : Int) = q (firstI p l) := by
    intro xs
    induction xs with
    | nil =>
      intro k hd hk hf
      have hlen : k = l.length := by have := congrArg List.length hd; simp at this; omega
      subst hlen
      rw [whileP_eq, he, firstI_miss (fun x hx => by
        obtain ⟨j, hj⟩ := List.getElem?_of_mem hx
        exact hf j x (List.getElem?_eq_some_iff.1 hj).1 hj)]
      cases q (-1) <;> rfl
    | cons x xs ih =>
      intro k hd hk hf
      have hx : l[k]? = some x := by
        have := congrArg (fun q => q[0]?) hd
        simpa [List.getElem?_drop] using this
      have hlt := (List.getElem?_eq_some_iff.1 hx).1
      rw [whileP_eq, hs k x hx]
      cases hp : p x with
      | true =>
        rw [firstI_hit (fun y hy => by
          obtain ⟨j, hj⟩ := List.getElem?_of_mem hy
          have hjl := (List.getElem?_eq_some_iff.1 hj).1
          rw [List.length_take] at hjl
          rw [List.getElem?_take_of_lt (by omega)] at hj
          exact hf j y (by omega) hj) hx hp]
        simp only [if_true]
        cases q (k : Int) <;> rfl
      | false =>
        simp only [Bool.false_eq_true, if_false]
        rw [wrap_succ (by omega)]
        refine ih (k + 1) ?_ (by omega) (fun j y hj hy => ?_)
        · have := congrArg List.tail hd
          simpa [List.tail_drop] using this
        · rcases Nat.lt_or_ge j k with h1 | h1
          · exact hf j y h1 hy
          · have : j = k := by omega
            subst this
            rw [hx] at hy; cases hy; exact hp
  exact key l 0 rfl (Nat.zero_le _) (fun j x hj => absurd hj (Nat.not_lt_zero _))
end
end Go.Proofs.SL
namespace Go.Proofs.SL
open Go
variable {Γ : Cx} {l : Envl} {M M' M1 M2 F : List HP} {Q : Post} {K : Kont} {w0 w : World} {S0 : List Nat} {P : Program}
variable {rest : List Oper} {d : Nat} {ty : TypeId} {pos : String} {af : Array Edge}
variable {ops : Array Oper} {Msh pool : List HP} {E : Fl} {rs : List (Option Nat × Rel)} {cs0 : List Nat} {KD : List (Option Nat × Rel) → List Nat → List HP → Prop} {gd : Option (Nat × Bool)}
section
variable {τ δ : Type} [GT τ δ]
theorem raw_facts {X : TL τ} (h : GT.ow w X) (hx : X.els ≠ []) : X.a = some ⟨X.g, 0, none⟩ ∧ X.els.length ≤ X.cap ∧ X.cap ≤ maxLen ∧ X.els.length * GT.sz τ + X.tail.length = X.cap * GT.sz τ ∧ w.heap[X.g]? = some (.cells (rowCells X.els ++ X.tail).toArray X.e (0, 0)) := by
  obtain ⟨r1, r2, r3, r4, r5⟩ := h
  cases ha : X.a with
  | none => exact (hx (r4 ha).1).elim
  | some a =>
    obtain ⟨h1, h2, h3, h4⟩ := r5 a ha
    have hg : X.g = a.block := by unfold TL.g; rw [ha]; rfl
    obtain ⟨b, o, s⟩ := a
    have h1 : s = none := h1
    have h2 : o = 0 := h2
    subst h1; subst h2
    refine ⟨by rw [hg], r1, r2, h4, by rw [hg]; exact h3⟩
theorem raw_open {X : TL τ} (hx : X.els ≠ []) (p : Pick (treeH X) M M1) (h : Holds w0 S0 M w) : Holds w0 S0 (blk X.g (rowCells X.els ++ X.tail) X.e :: elsT X.els :: M1) w := by
  have h1 := h.perm p.perm
  have ht : GT.ow w X := h1.prs _ (List.mem_cons_self ..)
  obtain ⟨f1, _, _, _, f5⟩ := raw_facts ht hx
  refine h1.reFp (List.Perm.of_eq ?_) fun x hx => ?_
  · simp only [fps_cons]
    show ((match X.a with | none => [] | some a => [a.block]) ++ X.els.flatMap GT.fp) ++ fps M1 = [X.g] ++ (X.els.flatMap GT.fp ++ fps M1)
    rw [f1, List.append_assoc]
  · rcases List.mem_cons.1 hx with rfl | hx
    · exact f5
    rcases List.mem_cons.1 hx with rfl | hx
    · exact ht.2.2.1
    · exact h1.prs _ (List.mem_cons_of_mem _ hx)
theorem W_raw {c : Code} {X : TL τ} (hx : X.els ≠ []) (p : Pick (treeH X) M M1)
    (hk : X.a = some ⟨X.g, 0, none⟩ → X.els.length ≤ X.cap → X.cap ≤ maxLen → X.els.length * GT.sz τ + X.tail.length = X.cap * GT.sz τ → W Γ c l (blk X.g (rowCells X.els ++ X.tail) X.e :: elsT X.els :: M1) Q) : W Γ c l M Q :=
  W_fact (φ := X.a = some ⟨X.g, 0, none⟩ ∧ X.els.length ≤ X.cap ∧ X.cap ≤ maxLen ∧ X.els.length * GT.sz τ + X.tail.length = X.cap * GT.sz τ)
    (fun w h => by obtain ⟨f1, f2, f3, f4, _⟩ := raw_facts ((h.perm p.perm).prs (treeH X) (List.mem_cons_self ..)) hx; exact ⟨f1, f2, f3, f4⟩)
    (fun ⟨f1, f2, f3, f4⟩ => W_conv (fun w h => raw_open hx p h) (hk f1 f2 f3 f4))
theorem raw_close {g cap : Nat} {e : TypeId} {els : List τ} {tail cs : List Value} (hc : cs = rowCells els ++ tail) (h1 : els.length ≤ cap) (h2 : cap ≤ maxLen) (h3 : els.length * GT.sz τ + tail.length = cap * GT.sz τ)
    (p : Pick (blk g cs e) M M1) (q : Pick (elsT els) M1 M2) (h : Holds w0 S0 M w) : Holds w0 S0 (treeH (⟨some ⟨g, 0, none⟩, cap, e, els, tail⟩ : TL τ) :: M2) w := by
  subst hc
  have h4 := h.perm (p.perm.trans (q.perm.cons _))
  refine h4.reFp (List.Perm.of_eq ?_) fun x hx => ?_
  · simp only [fps_cons]
    show [g] ++ (els.flatMap GT.fp ++ fps M2) = ([g] ++ els.flatMap GT.fp) ++ fps M2
    rw [List.append_assoc]
  · rcases List.mem_cons.1 hx with rfl | hx
    · refine ⟨h1, h2, h4.prs (elsT els) (List.mem_cons_of_mem _ (List.mem_cons_self ..)), fun h => (by cases h), fun a ha => ?_⟩
      cases ha
      exact ⟨rfl, rfl, h4.prs (blk g _ e) (List.mem_cons_self ..), h3⟩
    · exact h4.prs _ (List.mem_cons_of_mem _ (List.mem_cons_of_mem _ hx))
end
/-! Headers -/
def slA (o c lo sz : Nat) : Nat := if c = lo then o else o + lo * sz
theorem run_slV {T e sz by_ : Nat} {z : List Value} {g o n c : Nat} {vlo vhi : Option Value} {a b : Int} (ht : elOf P T = some (e, sz, by_, z)) (hlo : (vlo = none ∧ a = 0) ∨ ∃ k, vlo = some (.int k a)) (hhi : (vhi = none ∧ b = (n : Int)) ∨ ∃ k, vhi = some (.int k b))
    (h0 : 0 ≤ a) (h1 : a ≤ b) (h2 : b ≤ (c : Int)) (w : World) : (Instr.sliceAt T (.slice (some ⟨g, o, none⟩) n c) vlo vhi none).run P w = .ok (.slice (some ⟨g, slA o c a.toNat sz, none⟩) (b.toNat - a.toNat) (c - a.toNat)) w := by
  unfold elOf at ht
  split at ht <;> (try cases ht)
  rename_i e' het
  split at ht <;> (try cases ht)
  rename_i i' hi'
  split at ht <;> cases ht
  have e1 := fun k w => run_sliceBound (P := P) (k := k) (code := .sliceAcap) (show 0 ≤ b by omega) (show b ≤ ((c : Nat) : Int) by omega) w
  have e2 := fun k w => run_sliceBound (P := P) (k := k) (code := .sliceB) h0 (show a ≤ ((b.toNat : Nat) : Int) by omega) w
  have hv : (if c = a.toNat then (⟨g, o, none⟩ : Addr) else (⟨g, o, none⟩ : Addr).add (a.toNat * i'.size)) = ⟨g, slA o c a.toNat i'.size, none⟩ := by
    unfold slA; split
    · rfl
    · rw [addr_add]
  rw [← hv]
  rcases hlo with ⟨rfl, rfl⟩ | ⟨k1, rfl⟩ <;> rcases hhi with ⟨rfl, rfl⟩ | ⟨k2, rfl⟩
  · simp [Instr.sliceAt, Instr.slice, underlying, het, Instr.sliceBounds, sizeOf, typeInfo, hi']
    split <;> rfl
  · simp [Instr.sliceAt, Instr.slice, underlying, het, Instr.sliceBounds, sizeOf, typeInfo, hi', e1]
    split <;> rfl
  · have e3 := fun k w => run_sliceBound (P := P) (k := k) (code := .sliceB) h0 (show a ≤ ((n : Nat) : Int) by omega) w
    simp [Instr.sliceAt, Instr.slice, underlying, het, Instr.sliceBounds, sizeOf, typeInfo, hi', e3]
    split <;> rfl
  · simp [Instr.sliceAt, Instr.slice, underlying, het, Instr.sliceBounds, sizeOf, typeInfo, hi', e1, e2]
    split <;> rfl
theorem L_slV {x : Operand} {lo hi : Option Operand} {T e sz by_ : Nat} {z : List Value} {g o n c : Nat} {a b : Int} (hn : Nat.blt d Γ.n = true) (hx : ev l x = some (.slice (some ⟨g, o, none⟩) n c)) (hlo : optI l lo 0 = some a) (hhi : optI l hi (n : Int) = some b)
    (ht : elOf Γ.P T = some (e, sz, by_, z)) (h0 : 0 ≤ a) (h1 : a ≤ b) (h2 : b ≤ (c : Int)) (hk : L Γ rest ((d, .slice (some ⟨g, slA o c a.toNat sz, none⟩) (b.toNat - a.toNat) (c - a.toNat)) :: l) M K) :
    L Γ ({ dst := some d, op := .slice T x lo hi none, type := ty, pos := pos, after := af, guard := none } :: rest) l M K :=
  L_pure hn (fun a' w ha hw => by
    have h3 := run_slV (P := Γ.P) (T := T) (g := g) (o := o) (n := n) (c := c) (vlo := lo.map a'.eval) (vhi := hi.map a'.eval) (a := a) (b := b) ht (by
      cases lo with
      | none => cases hlo; exact .inl ⟨rfl, rfl⟩
      | some q => obtain ⟨k, h⟩ := optI_some hlo; exact .inr ⟨k, by simp [ha.eval h]⟩) (by
      cases hi with
      | none => cases hhi; exact .inl ⟨rfl, rfl⟩
      | some q => obtain ⟨k, h⟩ := optI_some hhi; exact .inr ⟨k, by simp [ha.eval h]⟩) h0 h1 h2 w
    simp [execOp, ha.eval hx, h3]) hk
theorem D_slV {x : Operand} {lo hi : Option Operand} {T e sz by_ : Nat} {z : List Value} {g o n c : Nat} {a b : Int} {cc : Prop} (hg : GC ops E { dst := some d, op := .slice T x lo hi none, type := ty, pos := pos, after := af, guard := gd } cc)
    (hx : OpV E x cc (.slice (some ⟨g, o, none⟩) n c)) (hlo : optD E lo cc 0 a) (hhi : optD E hi cc (n : Int) b) (ht : elOf Γ.P T = some (e, sz, by_, z)) (h0 : 0 ≤ a) (h1 : a ≤ b) (h2 : b ≤ (c : Int))
    (hk : DV Γ ops Msh pool ((d, FC cc (.slice (some ⟨g, slA o c a.toNat sz, none⟩) (b.toNat - a.toNat) (c - a.toNat))) :: E) ((some d, FC cc (.slice (some ⟨g, slA o c a.toNat sz, none⟩) (b.toNat - a.toNat) (c - a.toNat))) :: rs) cs0 rest KD) :
    DV Γ ops Msh pool E rs cs0 ({ dst := some d, op := .slice T x lo hi none, type := ty, pos := pos, after := af, guard := gd } :: rest) KD :=
  DV_pure cc _ hg (fun a' w F hc hf hs => by
    have e0 := hx.eval hf (by simp [Op.operands]) hc
    have h3 := run_slV (P := Γ.P) (T := T) (g := g) (o := o) (n := n) (c := c) (vlo := lo.map a'.eval) (vhi := hi.map a'.eval) (a := a) (b := b) ht (by
      cases lo with
      | none => cases hlo; exact .inl ⟨rfl, rfl⟩
      | some q => obtain ⟨k, h⟩ := hlo; exact .inr ⟨k, by simp [OpV.eval h hf (by simp [Op.operands]) hc]⟩) (by
      cases hi with
      | none => cases hhi; exact .inl ⟨rfl, rfl⟩
      | some q => obtain ⟨k, h⟩ := hhi; exact .inr ⟨k, by simp [OpV.eval h hf (by simp [Op.operands]) hc]⟩) h0 h1 h2 w
    simp [execOp, e0, h3]) hk
/-! Cells -/
theorem cells_at {b : Nat} {cs : List Value} {T : TypeId} (hp : w.heap[b]? = some (.cells cs.toArray T (0, 0))) (o n : Nat) : ∀ j v, ((cs.drop o).take n)[j]? = some v → w.cell? ⟨b, o + j, none⟩ = some v := fun j v hv => by
  rw [cell_of_row _ _ _ _ _ _ hp]
  simp only [List.getElem?_toArray]
  rw [List.getElem?_take] at hv
  split at hv
  · rw [List.getElem?_drop] at hv; exact hv
  · cases hv
theorem flatten_rep (z : List Value) (n : Nat) : ((Array.range (n * z.length)).map (fun i => (z.toArray)[i % z.length]!)).toList = (List.replicate n z).flatten := by
  refine List.ext_getElem? fun i => ?_
  by_cases hz : z.length = 0
  · have : z = [] := List.eq_nil_of_length_eq_zero hz
    subst this; simp
  · have hpos : 0 < z.length := by omega
    by_cases hi : i < n * z.length
    · have h1 : i / z.length < n := Nat.div_lt_of_lt_mul (by rw [Nat.mul_comm]; exact hi)
      have h2 : i % z.length < z.length := Nat.mod_lt _ hpos
      simp only [Array.toList_map, Array.toList_range, List.getElem?_map, List.getElem?_range hi, Option.map_some]
      have key : ∀ (n i : Nat), i < n * z.length → ((List.replicate n z).flatten)[i]? = z[i % z.length]? := by
        intro n
        induction n with
        | zero => intro i h; simp at h
        | succ n ih =>
          intro i h
          rw [List.replicate_succ, List.flatten_cons]
          by_cases hlt : i < z.length
          · rw [List.getElem?_append_left hlt, Nat.mod_eq_of_lt hlt]
          · rw [List.getElem?_append_right (by omega), ih (i - z.length) (by rw [Nat.add_mul] at h; omega)]
            rw [← Nat.mod_eq_sub_mod (by omega)]
      rw [key n i hi, getElem!_pos z.toArray (i % z.length) (by simpa using h2)]
      simp [h2]
    · rw [List.getElem?_eq_none (by simpa using hi), List.getElem?_eq_none (by simp; omega)]
section
variable {τ δ : Type} [GT τ δ]
theorem sl0 (c sz : Nat) : slA 0 c 0 sz = 0 := by unfold slA; split <;> simp
theorem slLt {c lo sz : Nat} (h : lo < c) : slA 0 c lo sz = lo * sz := by unfold slA; rw [if_neg (by omega)]; simp
end
end Go.Proofs.SL
namespace Go.Proofs.SL
open Go
theorem RdT.w0 {Γ : Cx} {τ δ : Type} [GT τ δ] {t : τ} (h : RdT Γ [] t) : GT.rd Γ.w0 [] t := h Γ.w0 ⟨fun _ _ _ => rfl, fun _ h => by cases h⟩
end Go.Proofs.SL
namespace Go.Proofs.SL
open Go
variable {Γ : Cx} {l : Envl} {M M' M1 M2 F : List HP} {Q : Post} {K : Kont} {w0 w : World} {S0 : List Nat} {P : Program}
variable {rest : List Oper} {d : Nat} {ty : TypeId} {pos : String} {af : Array Edge}
/-- What can be read by a callee that is given M1, while M2 stays behind. -/
def RdX {τ δ : Type} [GT τ δ] (Γ : Cx) (M1 M2 : List HP) (t : τ) : Prop := ∀ w, Holds Γ.w0 Γ.S0 (M1 ++ M2) w → GT.rd w (fps M1) t
section
variable {τ δ : Type} [GT τ δ] {t : τ}
theorem RdX.old (h : GT.rd Γ.w0 Γ.S0 t) : RdX Γ M1 M2 t := fun _ hw => GT.rd_mono h fun _ _ ho => ho.carry hw
theorem RdX.tree (h : treeH t ∈ M2) : RdX Γ M1 M2 t := fun w hw => by
  have ho : GT.ow w t := hw.prs (treeH t) (List.mem_append_right _ h)
  refine GT.ow_rd ho fun k hk hk1 => ?_
  have hnd := hw.nodup
  rw [fps_append] at hnd
  exact (List.nodup_append.1 hnd).2.2 k hk1 k (List.mem_flatMap.2 ⟨_, h, hk⟩) rfl
theorem RdX.fst {α β δ ε : Type} [GT α δ] [GT β ε] {t : α × β} (h : RdX Γ M1 M2 t) : RdX Γ M1 M2 t.1 := fun w hw => (h w hw).1
theorem RdX.snd {α β δ ε : Type} [GT α δ] [GT β ε] {t : α × β} (h : RdX Γ M1 M2 t) : RdX Γ M1 M2 t.2 := fun w hw => (h w hw).2
theorem RdX.of {X : TL τ} {j : Nat} {x : τ} (h : RdX Γ M1 M2 X) (hi : X.els[j]? = some x) : RdX Γ M1 M2 x := fun w hw => (h w hw).2.2.1 x (List.mem_of_getElem? hi)
theorem RdX.pair {α β δ ε : Type} [GT α δ] [GT β ε] {a : α} {b : β} (h1 : RdX Γ M1 M2 a) (h2 : RdX Γ M1 M2 b) : RdX Γ M1 M2 (a, b) := fun w hw => ⟨h1 w hw, h2 w hw⟩
theorem RdX.int {n : Int} : RdX Γ M1 M2 n := fun _ _ => trivial
theorem RdX.bool {n : Bool} : RdX Γ M1 M2 n := fun _ _ => trivial
theorem RdX.str {n : ByteArray} : RdX Γ M1 M2 n := fun _ _ => trivial
theorem RdX.u8 {n : UInt8} : RdX Γ M1 M2 n := fun _ _ => trivial
theorem nil_rd {w : World} {S : List Nat} (e : TypeId) : GT.rd w S (TL.nil τ e) := ⟨Nat.le_refl _, by simp [TL.nil, maxLen], fun x hx => by simp [TL.nil] at hx, fun _ => rfl, fun a ha => by simp [TL.nil] at ha⟩
theorem RdX.nil (e : TypeId) : RdX Γ M1 M2 (TL.nil τ e) := fun _ _ => nil_rd e
theorem RdX.map {α δ' : Type} [GT α δ'] {a : α} (f : ∀ w S, GT.rd w S a → GT.rd w S t) (h : RdX Γ M1 M2 a) : RdX Γ M1 M2 t := fun w hw => f w _ (h w hw)
theorem RdT.map {α δ' : Type} [GT α δ'] {a : α} (f : ∀ w S, GT.rd w S a → GT.rd w S t) (h : RdT Γ M a) : RdT Γ M t := fun w hw => f w _ (h w hw)
end
/-- The same, of one world. -/
def RdO {τ δ : Type} [GT τ δ] (w : World) (S : List Nat) (t : τ) : Prop := GT.rd w S t
section
variable {τ δ : Type} [GT τ δ] {t : τ} {S : List Nat}
theorem RdO.old (h : GT.rd w S t) : RdO w S t := h
theorem RdO.fst {α β δ ε : Type} [GT α δ] [GT β ε] {t : α × β} (h : RdO w S t) : RdO w S t.1 := h.1
theorem RdO.snd {α β δ ε : Type} [GT α δ] [GT β ε] {t : α × β} (h : RdO w S t) : RdO w S t.2 := h.2
theorem RdO.of {X : TL τ} {j : Nat} {x : τ} (h : RdO w S X) (hi : X.els[j]? = some x) : RdO w S x := h.2.2.1 x (List.mem_of_getElem? hi)
theorem RdO.pair {α β δ ε : Type} [GT α δ] [GT β ε] {a : α} {b : β} (h1 : RdO w S a) (h2 : RdO w S b) : RdO w S (a, b) := ⟨h1, h2⟩
theorem RdO.int {n : Int} : RdO w S n := trivial
theorem RdO.bool {n : Bool} : RdO w S n := trivial
theorem RdO.str {n : ByteArray} : RdO w S n := trivial
theorem RdO.u8 {n : UInt8} : RdO w S n := trivial
theorem RdO.nil (e : TypeId) : RdO w S (TL.nil τ e) := nil_rd e
theorem RdO.map {α δ' : Type} [GT α δ'] {a : α} (f : ∀ w S, GT.rd w S a → GT.rd w S t) (h : RdO w S a) : RdO w S t := f w _ h
end
/-- A call that is given some parts. -/
theorem L_callM {f : Nat} {xs : List Operand} {ats : Array TypeId} {vs : List Value} {R : Value → List HP → Prop} (M1 M2 : List HP)
    (hn : Nat.blt d Γ.n = true) (hf : IsFn Γ.P f) (hx : evs l xs = some vs) (hp : List.Perm M (M1 ++ M2)) (hc : ∀ w, Holds Γ.w0 Γ.S0 (M1 ++ M2) w → Spec Γ.P f vs.toArray w M1 R)
    (hk : ∀ v M', R v M' → L Γ rest ((d, v) :: l) (M' ++ M2) K) : L Γ ({ dst := some d, op := .call { callee := .value (.func f), args := xs.toArray, argTypes := ats }, type := ty, pos := pos, after := af, guard := none } :: rest) l M K :=
  L_call (M1 := M1) (M2 := M2) (R := R) rfl rfl rfl (Nat.le_of_ble_eq_true hn) hf hx hp hc hk
end Go.Proofs.SL
namespace Go.Proofs.SL
open Go
variable {Γ : Cx} {l : Envl} {M M' M1 M2 F : List HP} {Q : Post} {K : Kont} {w0 w : World} {S0 : List Nat} {P : Program}
variable {rest : List Oper} {d : Nat} {ty : TypeId} {pos : String} {af : Array Edge}
section
variable {τ δ : Type} [GT τ δ]
end
end Go.Proofs.SL
namespace Go.Proofs.SL
open Go
variable {Γ : Cx} {l : Envl} {M M' M1 M2 F : List HP} {Q : Post} {K : Kont} {w0 w : World} {S0 : List Nat}
variable {rest : List Oper} {d : Nat} {ty : TypeId} {pos : String} {af : Array Edge}
variable {ops : Array Oper} {Msh pool pool' : List HP} {E : Fl} {rs : List (Option Nat × Rel)} {cs0 : List Nat} {KD : List (Option Nat × Rel) → List Nat → List HP → Prop}
section
variable {τ δ : Type} [GT τ δ]
theorem D_appT [FlatT τ] {s x : Operand} {T e sz by_ : Nat} {z : List Value} {X Y : TL τ} {r : List δ}
    (hs : OpV E s True X.hdr) (hx : OpV E x True Y.hdr) (ht : elOf Γ.P T = some (e, sz, by_, z)) (hsz : GT.sz τ = sz) (hz : z.length = sz)
    (hp : Pick (treeH X) pool pool') (hsrc : RdT Γ Msh Y) (hr : appP (GT.dat X) (GT.dat Y) = some r) (hb : by_ ≤ 32768)
    (hk : DV Γ ops Msh pool' ((d, OwnV (τ := τ) r) :: E) ((some d, OwnV (τ := τ) r) :: rs) cs0 rest KD) :
    DV Γ ops Msh pool E rs cs0 ({ dst := some d, op := .call { callee := .builtin .append, args := #[s, x], argTypes := #[T, T] }, type := ty, pos := pos, after := af, guard := none } :: rest) KD := by
  refine DV.mk (OwnV (τ := τ) r) ([treeH X]) pool' [] hp.perm rfl ?_ (by rw [dropE_nil]; exact hk)
  intro a w F Mk _ _ hw hm hfa hcf
  have hMk : Mk = [] := hcf
  subst hMk
  rw [dropE_nil] at hfa
  rw [if_pos (by simp [Region.wanted])]
  have e1 := hs.eval hfa (by simp [Op.operands, Call.operands]) trivial
  have e2 := hx.eval hfa (by simp [Op.operands, Call.operands]) trivial
  have hw1 : Holds Γ.w0 Γ.S0 (treeH X :: F) w := by simpa using hw
  obtain ⟨hl, rfl⟩ := appP_some hr
  simp only [dat_els, List.length_map] at hl
  have hrd : GT.rd w (fps Msh ++ Γ.S0) Y → True := fun _ => trivial
  have hY := hsrc w (hw1.seesSub fun h hh => List.mem_cons_of_mem _ (hm h hh))
  cases hya : Y.a with
  | some ad =>
    have hsp : Y.els ≠ [] → ad.spot = none := fun hne => (hY.2.2.2.2 ad hya).1 hne
    have hsrc2 : ∀ j v, (rowCells Y.els)[j]? = some v → w.cell? (ad.add j) = some v := fun j v hv => by
      have hne : Y.els ≠ [] := fun e => by rw [e] at hv; simp [rowCells] at hv
      obtain ⟨b, o, sp⟩ := ad
      have h3 : sp = none := hsp hne
      subst h3
      rw [addr_add]; exact ((hY.2.2.2.2 _ hya).2 j v hv).1
    obtain ⟨a', c', e', tl, w', h1, h2⟩ := append_rowE (P := Γ.P) (c := Y.cap) ht hsz hz (tree_row hw1) hsrc2 hl hb ty
    have h1' : (Builtin.append_ #[T, T] ty #[X.hdr, Y.hdr]).run Γ.P w = .ok (TL.hdr (⟨a', c', e', X.els ++ Y.els, tl⟩ : TL τ)) w' := by
      have : Y.hdr = .slice (some ad) Y.els.length Y.cap := by show Value.slice Y.a _ _ = _; rw [hya]
      rw [this]; exact h1
    have h3 : (execOp a.eval { dst := some d, op := .call { callee := .builtin .append, args := #[s, x], argTypes := #[T, T] }, type := ty, pos := pos, after := af, guard := none }).run Γ.P w = .ok (.value (TL.hdr (⟨a', c', e', X.els ++ Y.els, tl⟩ : TL τ))) w' := by
      generalize TL.hdr (⟨a', c', e', X.els ++ Y.els, tl⟩ : TL τ) = vv at *
      generalize X.hdr = uu at *
      generalize Y.hdr = yy at *
      simp [execOp, resolve, invoke, builtin, e1, e2, h1']
    rw [h3]
    refine ⟨[treeH (⟨a', c', e', X.els ++ Y.els, tl⟩ : TL τ)], ⟨_, rfl, ?_, rfl⟩, ?_⟩
    · rw [dat_els, List.map_append, dat_els, dat_els]
    · refine row_tree ?_
      have h4 : Holds Γ.w0 Γ.S0 (elsT X.els :: elsT Y.els :: rowH (⟨a', c', e', X.els ++ Y.els, tl⟩ : TL τ) :: F) w' := by
        have h5 := elsT_flat (xs := Y.els) h2 (fun x _ => FlatT.flat x)
        exact h5.perm (((List.Perm.swap _ _ _).trans ((List.Perm.swap _ _ _).cons _)).trans (List.Perm.swap _ _ _ |>.trans ((List.Perm.refl _)))) |>.perm (by
          first
          | exact List.Perm.refl _
          | exact (List.Perm.swap _ _ _)
          | exact ((List.Perm.swap _ _ _).cons _)
          | exact (List.Perm.swap _ _ _).trans ((List.Perm.swap _ _ _).cons _)
          | exact ((List.Perm.swap _ _ _).cons _).trans (List.Perm.swap _ _ _))
      exact (elsT_app h4).perm (List.Perm.swap _ _ _)
  | none =>
    have hye : Y.els = [] := hY.2.2.2.1 hya
    have hr0 : GT.ow w X := hw1.prs _ (List.mem_cons_self ..)
    have h5 : (Builtin.append_ #[T, T] ty #[X.hdr, Y.hdr]).run Γ.P w = .ok X.hdr w := by
      have : Y.hdr = .slice none 0 Y.cap := by show Value.slice Y.a _ _ = _; rw [hya, hye]; rfl
      rw [this]; exact append_none (P := Γ.P) (w := w) (a := X.a) (n := X.els.length) (c := X.cap) (c2 := Y.cap) ht hr0.1 ty
    have h3 : (execOp a.eval { dst := some d, op := .call { callee := .builtin .append, args := #[s, x], argTypes := #[T, T] }, type := ty, pos := pos, after := af, guard := none }).run Γ.P w = .ok (.value X.hdr) w := by
      generalize X.hdr = uu at *
      generalize Y.hdr = yy at *
      simp [execOp, resolve, invoke, builtin, e1, e2, h5]
    rw [h3]
    exact ⟨[treeH X], ⟨X, rfl, by rw [dat_els Y, hye]; simp, rfl⟩, hw1⟩
/-- A value that is built over a slice of one's own. -/
def AggO (f : Value → Value) (r : List δ) : Rel := fun v M => ∃ X : TL τ, v = f X.hdr ∧ GT.dat X = r ∧ M = [treeH X]
def RowO (f : Value → Value) (e : TypeId) (r : List δ) : Rel := fun v M => ∃ (X : TL τ) (b : Nat), v = .slice (some ⟨b, 0, none⟩) 1 1 ∧ GT.dat X = r ∧ M = [blk b (f X.hdr).cells.toList e, treeH X]
def OpVp (E : Fl) : List (Nat × Operand) → List (Nat × Value) → Prop
  | [], [] => True
  | x :: xs, v :: vs => (x.1 = v.1 ∧ OpV E x.2 True v.2) ∧ OpVp E xs vs
  | _, _ => False
theorem OpVp.nil : OpVp E [] [] := trivial
theorem OpVp.cons {i : Nat} {x : Operand} {v : Value} {xs : List (Nat × Operand)} {vs : List (Nat × Value)} (h : OpV E x True v) (hs : OpVp E xs vs) : OpVp E ((i, x) :: xs) ((i, v) :: vs) := ⟨⟨rfl, h⟩, hs⟩
theorem OpVp.evals {a : Act} {F : List HP} {o : Oper} (hf : Facts E (o.looksAt ops) F a) : ∀ (xs : List (Nat × Operand)) (vs : List (Nat × Value)), OpVp E xs vs → (∀ x, x ∈ xs → x.2 ∈ o.op.operands.toList) → xs.map (fun p => (p.1, a.eval p.2)) = vs
  | [], [], _, _ => rfl
  | x :: xs, v :: vs, h, hm => by
    rw [List.map_cons, h.1.2.eval hf (hm x (by simp)) trivial, OpVp.evals hf xs vs h.2 (fun y hy => hm y (List.mem_cons_of_mem _ hy)), h.1.1]
  | [], _ :: _, h, _ => h.elim
  | _ :: _, [], h, _ => h.elim
theorem D_buildO {T : TypeId} {t : Nat} {xs : List (Nat × Operand)} {ps : Value → List (Nat × Value)} {pl : List (Nat × Nat)} {z : List Value} {cs : Value → List Value} {r : List δ}
    (hR : E.lookup t = some (OwnV (τ := τ) r)) (hx : ∀ u, OpVp ((t, FC True u) :: dropE [t] E) xs (ps u)) (ht : bldOf Γ.P T = some (pl, z)) (hf : ∀ X : TL τ, fillL (pl[·]?) z (ps X.hdr) = some (cs X.hdr))
    (hlin : linB ops { dst := some d, op := .build T xs.toArray, type := ty, pos := pos, after := af, guard := none } [t] = true)
    (hk : DV Γ ops Msh pool ((d, AggO (τ := τ) (fun u => .agg (cs u).toArray) r) :: dropE [t] E) ((some d, AggO (τ := τ) (fun u => .agg (cs u).toArray) r) :: rs) ([t] ++ cs0) rest KD) :
    DV Γ ops Msh pool E rs cs0 ({ dst := some d, op := .build T xs.toArray, type := ty, pos := pos, after := af, guard := none } :: rest) KD := by
  refine DV.mk (AggO (τ := τ) (fun u => .agg (cs u).toArray) r) [] pool ([t]) (by simp) hlin ?_ hk
  intro a w F Mk _ _ hw hm hfa hcf
  obtain ⟨Mx, Mk', rfl, hRR, hnil⟩ := hcf
  have hnil : Mk' = [] := hnil
  subst hnil
  obtain ⟨X, hv, hd, rfl⟩ := hRR _ hR
  rw [if_pos (by simp [Region.wanted])]
  have hf2 : Facts ((t, FC True X.hdr) :: dropE [t] E) (Oper.looksAt ops { dst := some d, op := .build T xs.toArray, type := ty, pos := pos, after := af, guard := none }) F a := by
    intro t' R' h1 h2
    rw [List.lookup_cons] at h2
    cases hb : t' == t with
    | true =>
      rw [hb] at h2
      cases h2
      have : t' = t := by simpa using hb
      subst this
      exact ⟨[], ⟨rfl, fun _ => hv, fun hn => (hn trivial).elim⟩, fun _ h => by cases h⟩
    | false => rw [hb] at h2; exact hfa t' R' h1 h2
  have h1 : xs.toArray.map (fun (i, x) => (i, a.eval x)) = (ps X.hdr).toArray := by
    have := OpVp.evals (o := { dst := some d, op := .build T xs.toArray, type := ty, pos := pos, after := af, guard := none }) hf2 xs (ps X.hdr) (hx X.hdr) (fun x hx => by simp [Op.operands]; exact ⟨_, hx⟩)
    rw [← this]; simp
  have h3 : (execOp a.eval { dst := some d, op := .build T xs.toArray, type := ty, pos := pos, after := af, guard := none }).run Γ.P w = .ok (.value (.agg (cs X.hdr).toArray)) w := by
    simp only [execOp, h1]
    simp [run_build ht (hf X)]
  rw [h3]
  exact ⟨[treeH X], ⟨X, rfl, hd, rfl⟩, by simpa using hw⟩
theorem D_bs1O {t T e sz by_ : Nat} {z : List Value} {f : Value → Value} {r : List δ} (hR : E.lookup t = some (AggO (τ := τ) f r)) (ht : elOf Γ.P T = some (e, sz, by_, z)) (hz : z.length = sz) (hsz : 0 < sz) (hns : sz ≤ 65536)
    (hv : ∀ X : TL τ, (f X.hdr).cells.toList.length = sz)
    (hlin : linB ops { dst := some d, op := .buildSlice T 1 #[(0, .tmp t)], type := ty, pos := pos, after := af, guard := none } [t] = true)
    (hk : DV Γ ops Msh pool ((d, RowO (τ := τ) f e r) :: dropE [t] E) ((some d, RowO (τ := τ) f e r) :: rs) ([t] ++ cs0) rest KD) :
    DV Γ ops Msh pool E rs cs0 ({ dst := some d, op := .buildSlice T 1 #[(0, .tmp t)], type := ty, pos := pos, after := af, guard := none } :: rest) KD := by
  refine DV.mk (RowO (τ := τ) f e r) [] pool ([t]) (by simp) hlin ?_ hk
  intro a w F Mk _ _ hw hm hfa hcf
  obtain ⟨Mx, Mk', rfl, hRR, hnil⟩ := hcf
  have hnil : Mk' = [] := hnil
  subst hnil
  obtain ⟨X, hx, hd, rfl⟩ := hRR _ hR
  rw [if_pos (by simp [Region.wanted])]
  have e1 : a.eval (.tmp t) = f X.hdr := hx
  have h1 : (execOp a.eval { dst := some d, op := .buildSlice T 1 #[(0, .tmp t)], type := ty, pos := pos, after := af, guard := none }).run Γ.P w = .ok (.value (.slice (some ⟨w.heap.size, 0, none⟩) 1 1)) (w.alloc (.cells (f X.hdr).cells.toList.toArray e (0, 0))) := by
    simp only [execOp]
    have : (#[(0, Operand.tmp t)] : Array (Nat × Operand)).map (fun (i, x) => (i, a.eval x)) = #[(0, f X.hdr)] := by simp [e1]
    rw [this]
    simp [run_bs1 ht hz hsz hns (hv X)]
  rw [h1]
  exact ⟨[blk w.heap.size (f X.hdr).cells.toList e, treeH X], ⟨X, _, rfl, hd, rfl⟩, Holds.new (show Holds Γ.w0 Γ.S0 (treeH X :: F) w by simpa using hw) rfl⟩
end
end Go.Proofs.SL
namespace Go.Proofs.SL
open Go
variable {M M1 : List HP} {w0 w : World} {S0 : List Nat}
def condH : Bool → HP → HP
  | true, _ => ⟨[], fun _ => True, fun _ _ _ h => h⟩
  | false, h => h
theorem condH_true {h : HP} (hh : Holds w0 S0 M w) : Holds w0 S0 (condH true h :: M) w := by
  refine hh.reFp (List.Perm.of_eq rfl) fun x hx => ?_
  rcases List.mem_cons.1 hx with rfl | hx
  · trivial
  · exact hh.prs _ hx
theorem cond_in {h : HP} {b : Bool} (p : Pick h M M1) (hh : Holds w0 S0 M w) : Holds w0 S0 (condH b h :: M1) w := by
  cases b with
  | false => exact hh.perm p.perm
  | true => exact condH_true ((hh.perm p.perm).sub ⟨[h], List.perm_append_comm (l₁ := [h])⟩)
theorem cond_out {h : HP} {b : Bool} (p : Pick (condH b h) M M1) (hb : b = false) (hh : Holds w0 S0 M w) : Holds w0 S0 (h :: M1) w := by
  subst hb; exact hh.perm p.perm
theorem bf1 {b : Bool} (h : (!b) = true) : b = false := by simpa using h
theorem bf2 {b c : Bool} (h : (!b && c) = true) : b = false := by cases b <;> simp_all
end Go.Proofs.SL
namespace Go.Proofs.SL
open Go
theorem els_skip {M M1 : List HP} {w0 w : World} {S0 : List Nat} {τ δ : Type} [GT τ δ] {X : TL τ} {i : Int} {u : τ} (hi : 0 ≤ i ∧ X.els[i.toNat]? = some u) (hm : rowH X ∈ M) (p : Pick (elsT (X.els.drop i.toNat)) M M1) (h : Holds w0 S0 M w) :
    Holds w0 S0 (elsT (X.els.drop (IntKind.wrap .i64 (i + 1)).toNat) :: M1) w := by
  have h1 := els_next hi.2 p h
  have h2 : Holds w0 S0 (elsT (X.els.drop (i.toNat + 1)) :: M1) w := h1.sub ⟨[treeH u], List.perm_append_comm (l₁ := [treeH u])⟩
  have hlt := (List.getElem?_eq_some_iff.1 hi.2).1
  obtain ⟨r1, r2, _⟩ := h.prs _ hm
  simp only [maxLen] at r2
  rw [wrap64_in (by unfold inR; omega), show (i + 1).toNat = i.toNat + 1 by omega]
  exact h2
end Go.Proofs.SL
namespace Go.Proofs.SL
open Go
variable {Γ : Cx} {l : Envl} {M M' M1 M2 F : List HP} {Q : Post} {K : Kont} {w0 w : World} {S0 : List Nat} {P : Program}
variable {rest : List Oper} {d : Nat} {ty : TypeId} {pos : String} {af : Array Edge}
section
variable {τ δ : Type} [GT τ δ]
end
end Go.Proofs.SL
namespace Go.Proofs.SL
open Go
variable {Γ : Cx} {ops : Array Oper} {Msh pool pool' : List HP} {E : Fl} {rs : List (Option Nat × Rel)} {rest : List Oper} {KD : RKont} {cs0 : List Nat}
variable {d : Nat} {ty : TypeId} {pos : String} {af : Array Edge}
variable {gd : Option (Nat × Bool)}
end Go.Proofs.SL
namespace Go.Proofs.SL
open Go
section
variable {τ δ κ : Type} [GT τ δ]
theorem rowCells_key {key : τ → κ} {enc : κ → Value} (hc : ∀ x, GT.cells x = [enc (key x)]) (xs : List τ) : rowCells xs = xs.map fun x => enc (key x) := by
  induction xs with
  | nil => rfl
  | cons x xs ih => rw [rowCells_cons, hc, ih]; rfl
variable [Inhabited κ]
theorem put_cells (enc : κ → Value) (ds : List κ) (a b : List Value) (h : a.length = ds.length) : Sort.putCells enc 0 ds.toArray (a ++ b).toArray = (ds.map enc ++ b).toArray := by
  apply Array.ext_getElem?
  intro j
  simp only [Sort.putCells, Array.getElem?_mapIdx, List.getElem?_toArray, List.size_toArray, Nat.zero_add, Nat.zero_le, true_and, Nat.sub_zero]
  rcases Nat.lt_or_ge j ds.length with hj | hj
  · rw [List.getElem?_append_left (by omega), List.getElem?_append_left (by simpa using hj), List.getElem?_eq_getElem (show j < a.length by omega)]
    simp [hj, List.getElem?_map]
  · rw [List.getElem?_append_right (by omega), List.getElem?_append_right (by simpa using hj), List.length_map, h]
    cases b[j - ds.length]? with
    | none => rfl
    | some v => simp [Nat.not_lt.2 hj]
theorem put_holds {w w' : World} {key : τ → κ} {enc : κ → Value} (hc : ∀ x : τ, GT.cells x = [enc (key x)]) (hfp : ∀ x : τ, GT.fp x = []) (how : ∀ (w : World) (x : τ), GT.ow w x) {b cap n : Nat} {e : TypeId} {els ys : List τ} {tail tail' : List Value} {D : List κ} {os : Array Obj}
    (hh : Holds w (fps [treeH (⟨some ⟨b, 0, none⟩, cap, e, els, tail⟩ : TL τ)]) [treeH (⟨some ⟨b, 0, none⟩, cap, e, els, tail⟩ : TL τ)] w) (hD : D.length = els.length) (hrow : D.map enc ++ tail = rowCells ys ++ tail') (hy : ys.length ≤ cap) (hl : ys.length * GT.sz τ + tail'.length = cap * GT.sz τ)
    (hw : w' = Sort.grow (Sort.putRow enc (Sort.ahead w n) b 0 D.toArray) os) :
    Holds w (fps [treeH (⟨some ⟨b, 0, none⟩, cap, e, els, tail⟩ : TL τ)]) [treeH (⟨some ⟨b, 0, none⟩, cap, e, ys, tail'⟩ : TL τ)] w' := by
  have ht : GT.ow w (⟨some ⟨b, 0, none⟩, cap, e, els, tail⟩ : TL τ) := hh.prs _ (List.mem_cons_self ..)
  obtain ⟨h1, h2, h3, h4, h5⟩ := ht
  dsimp only at h1 h2 h3 h4
  obtain ⟨_, _, hb, _⟩ := h5 _ rfl
  dsimp only at hb
  have hbl : b < w.heap.size := (Array.getElem?_eq_some_iff.1 hb).1
  have hw' : w'.heap[b]? = some (.cells (rowCells ys ++ tail').toArray e (0, 0)) := by
    subst hw
    rw [Sort.heap_grow_old _ _ (by simpa [Sort.putRow, Sort.mapBlock, Sort.ahead] using hbl), ← hrow]
    have hp := put_cells enc D (rowCells els) tail (by rw [rowCells_key hc]; simp [hD])
    simp only [Sort.putRow, Sort.mapBlock, Sort.ahead, Array.getElem?_modify, hb, Sort.onCells, if_true, Option.map_some]
    rw [hp]
  have hfps : ∀ xs : List τ, xs.flatMap GT.fp = [] := fun xs => List.flatMap_eq_nil_iff.2 fun x _ => hfp x
  have efp : fps [treeH (⟨some ⟨b, 0, none⟩, cap, e, ys, tail'⟩ : TL τ)] = fps [treeH (⟨some ⟨b, 0, none⟩, cap, e, els, tail⟩ : TL τ)] := by
    simp only [fps_cons]
    show ([b] ++ ys.flatMap GT.fp) ++ fps [] = ([b] ++ els.flatMap GT.fp) ++ fps []
    rw [hfps, hfps]
  refine ⟨by subst hw; rfl, by subst hw; rfl, by subst hw; rfl, by subst hw; simp [Sort.putRow, Sort.mapBlock, Sort.ahead], fun k hk hn => ?_, fun x hx => ?_, by rw [efp]; exact hh.nodup, fun k hk => ?_⟩
  · have hkb : b ≠ k := by
      intro e2; subst e2
      exact hn (by simp only [fps_cons]; show b ∈ ([b] ++ els.flatMap GT.fp) ++ fps []; simp)
    subst hw
    rw [Sort.heap_grow_old _ _ (by simpa [Sort.putRow, Sort.mapBlock, Sort.ahead] using hk)]
    simp [Sort.putRow, Sort.mapBlock, Sort.ahead, Array.getElem?_modify, hkb]
  · obtain rfl := List.mem_singleton.1 hx
    exact ⟨hy, h2, fun x _ => how _ x, fun h => (by cases h), fun a ha => by cases ha; exact ⟨rfl, rfl, hw', hl⟩⟩
  · rw [efp] at hk
    refine ⟨(hh.rng k hk).1, Nat.lt_of_lt_of_le (hh.rng k hk).2 ?_⟩
    subst hw; simp [Sort.putRow, Sort.mapBlock, Sort.ahead]
/-- A slice that one owns is nil, or a row from its block's beginning. -/
theorem own_cases {w : World} {a0 : TL τ} (hh : Holds w (fps [treeH a0]) [treeH a0] w) : (∃ e tail, a0 = ⟨none, 0, e, [], tail⟩) ∨ ∃ b cap e els tail, a0 = ⟨some ⟨b, 0, none⟩, cap, e, els, tail⟩ ∧ els.length ≤ cap ∧ els.length * GT.sz τ + tail.length = cap * GT.sz τ ∧ w.heap[b]? = some (.cells (rowCells els ++ tail).toArray e (0, 0)) ∧ b < w.heap.size := by
  have ht : GT.ow w a0 := hh.prs _ (List.mem_cons_self ..)
  obtain ⟨h1, h2, h3, h4, h5⟩ := ht
  obtain ⟨a, cap, e, els, tail⟩ := a0
  dsimp only at h1 h2 h3 h4 h5
  cases a with
  | none =>
    obtain ⟨rfl, rfl⟩ := h4 rfl
    exact .inl ⟨e, tail, rfl⟩
  | some ad =>
    obtain ⟨hs, ho, hb, hl⟩ := h5 ad rfl
    obtain ⟨b, o, sp⟩ := ad
    dsimp only at hs ho hb
    subst hs; subst ho
    exact .inr ⟨b, cap, e, els, tail, rfl, h1, hl, hb, (Array.getElem?_eq_some_iff.1 hb).1⟩
theorem sort_holds {w : World} {key : τ → κ} {enc : κ → Value} (hc : ∀ x : τ, GT.cells x = [enc (key x)]) {b : Nat} {e : TypeId} {els : List τ} {tail : List Value} (hb : w.heap[b]? = some (.cells (rowCells els ++ tail).toArray e (0, 0))) : Sort.Holds enc w b 0 (els.map key).toArray := by
  intro j hj
  have hj' : j < els.length := by simpa using hj
  refine ⟨?_, by simp [World.frozen?, hb]⟩
  simp only [World.cell?, hb, Nat.zero_add]
  simp only [Option.isSome_none, Bool.false_eq_true, if_false]
  rw [List.getElem?_toArray, List.getElem?_append_left (by rw [rowCells_key hc]; simpa using hj'), rowCells_key hc]
  simp [hj']
theorem Spec.sort {P : Program} {f : FuncId} {w : World} {a0 : TL τ} {key : τ → κ} {enc : κ → Value} (hc : ∀ x : τ, GT.cells x = [enc (key x)]) (hfp : ∀ x : τ, GT.fp x = []) (how : ∀ (w : World) (x : τ), GT.ow w x) (ys : List τ) (hlen : ys.length = a0.els.length)
    (h : ∀ (b cap : Nat) (w : World), Sort.Holds enc w b 0 (a0.els.map key).toArray → b < w.heap.size → (a0.els.map key).length < 4611686018427387904 → Calls P f #[.slice (some ⟨b, 0, none⟩) (a0.els.map key).length cap] w fun e w' => e = .returned (.tuple #[]) ∧ ∃ n os, w' = Sort.grow (Sort.putRow enc (Sort.ahead w n) b 0 (ys.map key).toArray) os)
    (h0 : ∀ (p : Option Addr) (cap : Nat) (w : World), Calls P f #[.slice p 0 cap] w fun e w' => e = .returned (.tuple #[]) ∧ w' = w) (hsz : a0.els.length ≤ 4294967296) :
    Spec P f #[a0.hdr] w [treeH a0] (fun v M => ∃ y0 : TL τ, v = .tuple #[] ∧ GT.dat y0 = ys.map GT.dat ∧ M = [treeH y0] ∧ y0.hdr = a0.hdr) := by
  intro hh
  rcases own_cases hh with ⟨e, tail, rfl⟩ | ⟨b, cap, e, els, tail, rfl, h1, hl, hb, hbl⟩
  · have hy : ys = [] := List.length_eq_zero_iff.1 hlen
    subst hy
    refine (h0 none 0 w).mono fun e' w' ⟨he, hw⟩ => ?_
    subst hw
    exact ⟨_, _, he, ⟨⟨none, 0, e, [], tail⟩, rfl, rfl, rfl, rfl⟩, hh⟩
  · dsimp only at hlen h hsz
    have hlm : (els.map key).length = els.length := List.length_map ..
    have := h b cap w (sort_holds hc hb) hbl (by omega)
    rw [hlm] at this
    refine this.mono fun e' w' ⟨he, n, os, hw⟩ => ⟨_, _, he, ⟨⟨some ⟨b, 0, none⟩, cap, e, ys, tail⟩, rfl, rfl, rfl, ?_⟩, put_holds hc hfp how hh (by rw [List.length_map, hlen]) (by rw [rowCells_key hc, List.map_map]; rfl) (by rw [hlen]; exact h1) (by rw [hlen]; exact hl) hw⟩
    show Value.slice _ ys.length _ = Value.slice _ els.length _
    rw [hlen]
end
/-- The sort of numbers, on data. -/
def sortIP (l : List Int) : Option (List Int) := if l.length ≤ 4294967296 then some (l.mergeSort fun x y => decide (x ≤ y)) else none
theorem map_id' {α : Type} (l : List α) : l.map (fun x => x) = l := by simp
theorem Spec.sortI {P : Program} {f : FuncId} (w : World) (a0 : TL Int) (r : List Int) (hp : sortIP (GT.dat a0) = some r)
    (h : ∀ (b off cap : Nat) (zs : List Int) (w : World), Sort.Holds (Value.int .i64) w b off zs.toArray → b < w.heap.size → zs.length < 4611686018427387904 → Calls P f #[.slice (some ⟨b, off, none⟩) zs.length cap] w fun e w' => e = .returned (.tuple #[]) ∧ ∃ n os, w' = Sort.grow (Sort.putRow (Value.int .i64) (Sort.ahead w n) b off (zs.mergeSort fun x y => decide (x ≤ y)).toArray) os)
    (h0 : ∀ (p : Option Addr) (cap : Nat) (w : World), Calls P f #[.slice p 0 cap] w fun e w' => e = .returned (.tuple #[]) ∧ w' = w) :
    Spec P f #[a0.hdr] w [treeH a0] (fun v M => ∃ y0 : TL Int, v = .tuple #[] ∧ GT.dat y0 = r ∧ M = [treeH y0] ∧ y0.hdr = a0.hdr) := by
  unfold sortIP at hp
  have hd : GT.dat a0 = a0.els := by show a0.els.map (fun x => x) = _; simp
  rw [hd] at hp
  split at hp
  · rename_i hl
    obtain rfl := Option.some.inj hp
    have := Spec.sort (P := P) (f := f) (w := w) (a0 := a0) (key := fun x : Int => x) (enc := Value.int .i64) (fun _ => rfl) (fun _ => rfl) (fun _ _ => trivial) (a0.els.mergeSort fun x y => decide (x ≤ y)) (by simp) (by
      intro b cap w h1 h2 h3
      rw [map_id'] at h1 h3 ⊢
      rw [map_id']
      exact h b 0 cap a0.els w h1 h2 h3) h0 hl
    refine this.mono fun v M ⟨y0, h1, h2, h3⟩ => ⟨y0, h1, ?_, h3⟩
    rw [h2]
    exact map_id' _
  · cases hp
end Go.Proofs.SL
namespace Go.Proofs.SL
open Go
inductive EqS (P : Program) (d : Nat) (xs ys : Array Value) : List (TypeId × Nat) → Bool → Prop
  | nil : EqS P d xs ys [] true
  | cons {t : TypeId} {o : Nat} {a b : Value} {r r' : Bool} {fs : List (TypeId × Nat)} (ht : oneOf P t = true) (ha : xs[o]? = some a) (hb : ys[o]? = some b) (he : ∀ w, (Op.equalIn d t a b).run P w = .ok r w) (hs : EqS P d xs ys fs r') : EqS P d xs ys ((t, o) :: fs) (r && r')
end Go.Proofs.SL
namespace Go.Proofs.SL
open Go
section
variable {Γ : Cx} {l : Envl} {M : List HP} {K : Kont} {w0 w : World} {S0 : List Nat}
variable {rest : List Oper} {d : Nat} {ty : TypeId} {pos : String} {af : Array Edge}
end
section
variable {Γ : Cx} {rest : List Oper} {d : Nat} {ty : TypeId} {pos : String} {af : Array Edge}
variable {ops : Array Oper} {Msh pool : List HP} {E : Fl} {rs : List (Option Nat × Rel)} {cs0 : List Nat} {KD : List (Option Nat × Rel) → List Nat → List HP → Prop}
/-- A pointer to a new block. -/
def PtrNew (z : List Value) (T : TypeId) : Rel := fun v M => ∃ b, v = .pointer (some ⟨b, 0, none⟩) ∧ M = [blk b z T]
theorem D_alloc {T : TypeId} {z : List Value} (hz : zeroOf Γ.P T = some z)
    (hk : DV Γ ops Msh pool ((d, PtrNew z T) :: E) ((some d, PtrNew z T) :: rs) cs0 rest KD) :
    DV Γ ops Msh pool E rs cs0 ({ dst := some d, op := .alloc T, type := ty, pos := pos, after := af, guard := none } :: rest) KD := by
  refine DV.mk (PtrNew z T) [] pool [] (by simp) rfl ?_ (by rw [dropE_nil]; exact hk)
  intro a w F Mk _ _ hw hm hfa hcf
  have hMk : Mk = [] := hcf
  subst hMk
  rw [dropE_nil] at hfa
  simp only [List.nil_append] at hw ⊢
  rw [if_pos (by simp [Region.wanted])]
  have h1 : (execOp a.eval { dst := some d, op := .alloc T, type := ty, pos := pos, after := af, guard := none }).run Γ.P w = .ok (.value (.pointer (some ⟨w.heap.size, 0, none⟩))) (w.alloc (.cells z.toArray T (0, 0))) := by
    unfold zeroOf at hz
    split at hz <;> (try cases hz)
    rename_i i hi
    split at hz <;> cases hz
    rename_i z' hz'
    simp [execOp, Instr.alloc, zeroValue, typeInfo, hi, hz', newVar, newRow]
  rw [h1]
  exact ⟨[blk w.heap.size z T], ⟨_, rfl, rfl⟩, Holds.new (show Holds Γ.w0 Γ.S0 F w by simpa using hw) rfl⟩
end
end Go.Proofs.SL
namespace Go.Proofs.SL
open Go
instance : Mk Bool := ⟨fun _ => 1, fun k _ => decide (((k : Int)).tmod 3 = 0)⟩
instance : Bm Bool := ⟨1, fun x => by show 1 ≤ 1 * (1 + 0); omega⟩
end Go.Proofs.SL
namespace Go.Proofs.SL
open Go
variable {Γ : Cx} {l : Envl} {M M1 : List HP} {K : Kont} {w0 w : World} {S0 : List Nat}
variable {rest : List Oper} {d : Nat} {ty : TypeId} {pos : String} {af : Array Edge}
section
variable {τ δ : Type} [GT τ δ]
end
end Go.Proofs.SL
namespace Go.Proofs.SL
open Go
section
variable {Γ : Cx} {rest : List Oper} {d : Nat} {ty : TypeId} {pos : String} {af : Array Edge} {gd : Option (Nat × Bool)}
variable {ops : Array Oper} {Msh pool : List HP} {E : Fl} {rs : List (Option Nat × Rel)} {cs0 : List Nat} {KD : List (Option Nat × Rel) → List Nat → List HP → Prop}
end
end Go.Proofs.SL
namespace Go.Proofs.SL
open Go
/-- An array of ints, as loops and contracts hand it on. -/
structure AR where
  l : List Int
instance : GT AR (List Int) where
  sz := 1
  pos := by decide
  cells _ := [.int .i64 0]
  len _ := rfl
  one _ v hv := by simp at hv; subst hv; rfl
  rd _ _ _ := True
  fp _ := []
  ow _ _ := True
  dat t := t.l
  rd_mono h _ := h
  ow_st _ h := h
  ow_rd _ _ := trivial
theorem dat_ar (x : AR) : GT.dat x = x.l := rfl
def aC (k : IntKind) (l : List Int) : List Value := l.map (Value.int k)
variable {Γ : Cx} {l : Envl} {M : List HP} {K : Kont} {w0 w : World} {S0 : List Nat} {rest : List Oper} {d : Nat} {ty : TypeId} {pos : String} {af : Array Edge}
section
variable {k : IntKind} {A A' : List Int}
end
/-! A variable of the package that is only read: block g, ints. -/
structure GA (g : Nat) (k : IntKind) (A : List Int) where mk ::
instance (g : Nat) (k : IntKind) (A : List Int) : GT (GA g k A) Unit where
  sz := 1
  pos := by decide
  cells _ := [.int .i64 0]
  len _ := rfl
  one _ v hv := by simp at hv; subst hv; rfl
  rd w S _ := ∀ j v, (aC k A)[j]? = some v → Old w S ⟨g, j, none⟩ v
  fp _ := []
  ow _ _ := False
  dat _ := ()
  rd_mono h hm := fun j v hv => hm _ _ (h j v hv)
  ow_st _ h := h
  ow_rd h _ := h.elim
/-! In a drawn region -/
variable {ops : Array Oper} {Msh pool : List HP} {E : Fl} {rs : List (Option Nat × Rel)} {cs0 : List Nat} {KD : List (Option Nat × Rel) → List Nat → List HP → Prop} {gd : Option (Nat × Bool)}
section
variable {k : IntKind} {A A' : List Int} {c : Prop}
end
end Go.Proofs.SL
namespace Go.Proofs.SL
open Go
variable {Γ : Cx} {rest : List Oper} {d : Nat} {ty : TypeId} {pos : String} {af : Array Edge}
variable {ops : Array Oper} {Msh pool : List HP} {E : Fl} {rs : List (Option Nat × Rel)} {cs0 : List Nat} {KD : List (Option Nat × Rel) → List Nat → List HP → Prop}
end Go.Proofs.SL
namespace Go.Proofs.SL
open Go
variable {Γ : Cx} {rest : List Oper} {d : Nat} {ty : TypeId} {pos : String} {af : Array Edge}
variable {ops : Array Oper} {Msh pool pool' : List HP} {E : Fl} {rs : List (Option Nat × Rel)} {cs0 : List Nat} {KD : List (Option Nat × Rel) → List Nat → List HP → Prop}
variable {τ δ : Type} [GT τ δ]
theorem OpV.g0 {g : Nat} {c : Prop} : OpV E (.global g) c (.pointer (some ⟨g, 0, none⟩)) := rfl
end Go.Proofs.SL
namespace Go.Proofs.SL
open Go
variable {Γ : Cx} {rest : List Oper} {d : Nat} {ty : TypeId} {pos : String} {af : Array Edge} {l : Envl} {M : List HP} {K : Kont}
end Go.Proofs.SL
namespace Go.Proofs.SL
open Go
variable {Γ : Cx} {rest : List Oper} {d : Nat} {ty : TypeId} {pos : String} {af : Array Edge} {gd : Option (Nat × Bool)}
variable {ops : Array Oper} {Msh pool : List HP} {E : Fl} {rs : List (Option Nat × Rel)} {cs0 : List Nat} {KD : RKont}
end Go.Proofs.SL
namespace Go.Proofs.SL
open Go
section
variable {Γ : Cx} {rest : List Oper} {d : Nat} {ty : TypeId} {pos : String} {af : Array Edge}
variable {ops : Array Oper} {Msh pool : List HP} {E : Fl} {rs : List (Option Nat × Rel)} {cs0 : List Nat} {KD : RKont}
end
section
variable {Γ : Cx} {rest : List Oper} {d : Nat} {ty : TypeId} {pos : String} {af : Array Edge} {gd : Option (Nat × Bool)}
variable {ops : Array Oper} {Msh pool : List HP} {E : Fl} {rs : List (Option Nat × Rel)} {cs0 : List Nat} {KD : RKont}
end
end Go.Proofs.SL
namespace Go.Proofs.SL
open Go
section
variable {Γ : Cx} {l : Envl} {M M1 M2 F : List HP} {Q : Post} {K : Kont} {w0 w : World} {S0 : List Nat}
variable {rest : List Oper} {d : Nat} {ty : TypeId} {pos : String} {af : Array Edge}
variable {τ δ : Type} [GT τ δ]
end
section
variable {Γ : Cx} {rest : List Oper} {d : Nat} {ty : TypeId} {pos : String} {af : Array Edge}
variable {ops : Array Oper} {Msh pool pool' : List HP} {E : Fl} {rs : List (Option Nat × Rel)} {cs0 : List Nat} {KD : RKont}
variable {τ τ' δ δ' : Type} [GT τ δ] [GT τ' δ']
end
section
variable {Γ : Cx} {rest : List Oper} {d : Nat} {ty : TypeId} {pos : String} {af : Array Edge}
variable {ops : Array Oper} {Msh pool pool' : List HP} {E : Fl} {rs : List (Option Nat × Rel)} {cs0 : List Nat} {KD : RKont}
variable {τ δ : Type} [GT τ δ]
end
section
variable {Γ : Cx} {rest : List Oper} {d : Nat} {ty : TypeId} {pos : String} {af : Array Edge} {gd : Option (Nat × Bool)}
variable {ops : Array Oper} {Msh pool pool' : List HP} {E : Fl} {rs : List (Option Nat × Rel)} {cs0 : List Nat} {KD : RKont}
/-- A part that runs where the guard lets it; else a given answer. -/
def gm {α : Type} (g : Bool) (d : α) (o : Option α) : Option α := cond g o (some d)
@[simp] theorem gm_true {α : Type} {d : α} {o : Option α} : gm true d o = o := rfl
@[simp] theorem gm_false {α : Type} {d : α} {o : Option α} : gm false d o = some d := rfl
end
section
variable {Γ : Cx} {rest : List Oper} {d : Nat} {ty : TypeId} {pos : String} {af : Array Edge}
variable {ops : Array Oper} {Msh pool pool' : List HP} {E : Fl} {rs : List (Option Nat × Rel)} {cs0 : List Nat} {KD : RKont}
variable {τ δ : Type} [GT τ δ]
end
section
variable {Γ : Cx} {rest : List Oper} {d : Nat} {ty : TypeId} {pos : String} {af : Array Edge} {gd : Option (Nat × Bool)}
variable {ops : Array Oper} {Msh pool pool' : List HP} {E : Fl} {rs : List (Option Nat × Rel)} {cs0 : List Nat} {KD : RKont}
variable {τ δ : Type} [GT τ δ]
end
end Go.Proofs.SL
namespace Go.Proofs.SL
open Go
/-! Facts of a program's tables, found by their places -/
class FldF (P : Program) (T f : Nat) (o : outParam Nat) : Prop where h : fldOf P T f = some o
class OneF (P : Program) (T : Nat) : Prop where h : oneOf P T = true
class AggF (P : Program) (T : Nat) (n : outParam Nat) : Prop where h : aggOf P T = some n
class ElF (P : Program) (T : Nat) (e sz by_ : outParam Nat) (z : outParam (List Value)) : Prop where h : elOf P T = some (e, sz, by_, z)
class ZerF (P : Program) (T : Nat) (z : outParam (List Value)) : Prop where h : zeroOf P T = some z
class StrF (P : Program) (T : Nat) : Prop where h : isStr P T = true
class FnF (P : Program) (f : Nat) : Prop where h : IsFn P f
class BldF (P : Program) (T : Nat) (pl : outParam (List (Nat × Nat))) (z : outParam (List Value)) : Prop where h : bldOf P T = some (pl, z)
class UndF (P : Program) (T : Nat) (d : outParam TypeDesc) : Prop where h : P.underlying T = some d
/-! Parts and slots -/
theorem ba {α β : Type} {o : Option α} {k : α → Option β} {r : β} (h : Option.bind o k = some r) : ∃ y, o = some y ∧ k y = some r := bind_any h
theorem pk {h : HP} {M M' : List HP} (p : Pick h M M' := by first | (with_reducible repeat (first | exact Pick.here _ | apply Pick.there)); done | (repeat (first | exact Pick.here _ | apply Pick.there))) : Pick h M M' := p
theorem mm {h : HP} {M : List HP} (p : h ∈ M := by first | (with_reducible repeat (first | exact List.Mem.head _ | apply List.Mem.tail)); done | (repeat (first | exact List.Mem.head _ | apply List.Mem.tail))) : h ∈ M := p
theorem sb {l' l : Envl} (h : Sub l' l := by repeat (first | exact Sub.nil _ | (apply Sub.cons; (· exact rfl)))) : Sub l' l := h
theorem ms {M' M : List HP} (h : MSub M' M := by repeat (first | exact MSub.nil _ | (apply MSub.cons; (· exact pk)))) : MSub M' M := h
theorem pc {M Ms R : List HP} (h : List.Perm M (Ms ++ R) := by repeat (first | exact perm_nil_left _ | (apply perm_cons; (· exact pk)))) : List.Perm M (Ms ++ R) := h
theorem bv {P : Program} {op : BinOp} {T : TypeId} {x y : Operand} {u v r : Value} (h : BinV P op T x y u v r := by
  first
    | (with_reducible first | exact bv_add | exact bv_eql | exact bv_lss | exact bv_sub | exact bv_neq | exact bv_geq | exact bv_gtr | exact bv_leq | exact bv_seql | exact bv_sneq | exact bv_slss | exact bv_sgeq | exact bv_sgtr | exact bv_sleq | exact bv_mul | exact bv_and | exact bv_or | exact bv_xor)
    | ((with_reducible refine bv_beql ?_); exact UndF.h) | ((with_reducible refine bv_bneq ?_); exact UndF.h) | ((with_reducible refine bv_quo ?_); decide) | ((with_reducible refine bv_rem ?_); decide)
    | ((with_reducible refine bv_shl ?_ ?_) <;> decide) | ((with_reducible refine bv_shr ?_ ?_) <;> decide)) : BinV P op T x y u v r := h
theorem ocs {cs : List Value} (h : ∀ v, v ∈ cs → v.oneCell' = true := by first | exact allOne rfl | exact fun v hv => GT.one _ v hv | (simp [Value.oneCell', TL.hdr, Value.cells]; done)) : ∀ v, v ∈ cs → v.oneCell' = true := h
section
variable {Γ : Cx} {l : Envl} {M M' : List HP} {Q : Post} {K : Kont} {rest : List Oper} {d : Nat} {ty : TypeId} {pos : String} {af : Array Edge}
inductive Kp : List Nat → Envl → Envl → Prop
  | nil (l : Envl) : Kp [] l []
  | cons {t : Nat} {v : Value} {ts : List Nat} {l l' : Envl} (h : l.lookup t = some v) (hk : Kp ts l l') : Kp (t :: ts) l ((t, v) :: l')
theorem Kp.sub {ts : List Nat} {l l' : Envl} (h : Kp ts l l') : Sub l' l := by
  induction h with
  | nil l => exact Sub.nil _
  | cons h _ ih => exact Sub.cons h ih
/-- Some slots are kept. -/
theorem kp (ts : List Nat) {c : Code} {l' : Envl} (k : W Γ c l' M Q) (h : Kp ts l l' := by repeat (first | exact Kp.nil _ | (apply Kp.cons; (· exact rfl)))) : W Γ c l M Q := W_weaken h.sub (MSub.refl _) k
theorem kq (ts : List Nat) {c : Code} {l' : Envl} (k : W Γ c l' M' Q) (h : Kp ts l l' := by repeat (first | exact Kp.nil _ | (apply Kp.cons; (· exact rfl)))) (hm : M = M' := by (try simp only [List.cons_append, List.nil_append]); exact rfl) : W Γ c l M Q := W_weaken h.sub (hm ▸ MSub.refl _) k
theorem al {T : TypeId} {z : List Value} [hz : ZerF Γ.P T z] (hk : ∀ b, L Γ rest ((d, .pointer (some ⟨b, 0, none⟩)) :: l) (blk b z T :: M) K) (hn : Nat.blt d Γ.n = true := by exact rfl) :
    L Γ ({ dst := some d, op := .alloc T, type := ty, pos, after := af, guard := none } :: rest) l M K := L_alloc hn hz.h hk
theorem bx {x : Operand} {T : TypeId} {v : Value} (hk : ∀ b, L Γ rest ((d, .pointer (some ⟨b, 0, none⟩)) :: l) (blk b v.cells.toList T :: M) K) (hn : Nat.blt d Γ.n = true := by exact rfl) (hx : ev l x = some v := by exact rfl) :
    L Γ ({ dst := some d, op := .box T x, type := ty, pos, after := af, guard := none } :: rest) l M K := L_box hn hx hk
end
section
variable {w0 w : World} {S0 : List Nat} {M M' M1 M2 : List HP}
/-- A tree made of parts that are there; what is left. -/
def Own {τ δ : Type} [GT τ δ] (M : List HP) (t : τ) (M' : List HP) : Prop := ∀ (w0 : World) (S0 : List Nat) (w : World) (F : List HP), Holds w0 S0 (M ++ F) w → Holds w0 S0 (treeH t :: (M' ++ F)) w
theorem own_pick {τ δ : Type} [GT τ δ] {t : τ} (p : Pick (treeH t) M M') : Own M t M' := fun _ _ _ F h => h.perm (p.perm.append_right F)
theorem own_flat {τ δ : Type} [GT τ δ] {t : τ} (p : Flat t) : Own M t M := fun _ _ _ _ h => h.addFlat p
theorem own_int {n : Int} : Own M n M := own_flat (flat_int trivial)
theorem own_bool {n : Bool} : Own M n M := own_flat (flat_bool _)
theorem own_str {n : ByteArray} : Own M n M := own_flat (flat_str trivial)
theorem own_nil {τ δ : Type} [GT τ δ] {e : TypeId} : Own M (TL.nil τ e) M := own_flat (flat_nil e)
theorem own_pair {α β δ ε : Type} [GT α δ] [GT β ε] {a : α} {b : β} (ha : Own M a M1) (hb : Own M1 b M2) : Own M (a, b) M2 := fun w0 S0 w F h => by
  have h1 := ha w0 S0 w F h
  have h2 : Holds w0 S0 (M1 ++ (treeH a :: F)) w := h1.perm List.perm_middle.symm
  have h3 := hb w0 S0 w _ h2
  have h4 : Holds w0 S0 (treeH a :: treeH b :: (M2 ++ F)) w := h3.perm ((List.perm_middle.cons _).trans (List.Perm.swap _ _ _))
  exact pair_tree h4
theorem ow {τ δ : Type} [GT τ δ] {t : τ} (o : Own M t M' := by repeat (first | (with_reducible exact own_int) | (with_reducible exact own_bool) | (with_reducible exact own_str) | (with_reducible exact own_nil) | (with_reducible apply own_pair) | ((with_reducible apply own_pick); exact pk))) : Own M t M' := o
theorem Own.h {τ δ : Type} [GT τ δ] {t : τ} (o : Own M t M') (h : Holds w0 S0 M w) : Holds w0 S0 (treeH t :: M') w := by
  have := o w0 S0 w [] (by simpa using h)
  simpa using this
/-- A tree taken apart. -/
def Exp {τ δ : Type} [GT τ δ] (t : τ) (M M' : List HP) : Prop := ∀ (w0 : World) (S0 : List Nat) (w : World) (F : List HP), Holds w0 S0 (treeH t :: (M ++ F)) w → Holds w0 S0 (M' ++ F) w
theorem exp_flat {τ δ : Type} [GT τ δ] {t : τ} : Exp t M M := fun _ _ _ F h => h.sub ⟨[treeH t], List.perm_append_comm (l₁ := [treeH t]) (l₂ := M ++ F)⟩
theorem exp_int {n : Int} : Exp n M M := exp_flat
theorem exp_bool {n : Bool} : Exp n M M := exp_flat
theorem exp_str {n : ByteArray} : Exp n M M := exp_flat
theorem exp_leaf {τ δ : Type} [GT τ δ] {t : TL τ} : Exp t M (treeH t :: M) := fun _ _ _ _ h => h
theorem exp_pair {α β δ ε : Type} [GT α δ] [GT β ε] {a : α} {b : β} (hb : Exp b M M1) (ha : Exp a M1 M2) : Exp (a, b) M M2 := fun w0 S0 w F h => by
  have h1 := tree_pair h
  have h2 : Holds w0 S0 (treeH b :: (M ++ (treeH a :: F))) w := h1.perm ((List.Perm.swap _ _ _).trans (List.perm_middle.symm.cons _))
  have h3 := hb w0 S0 w _ h2
  exact ha w0 S0 w F (h3.perm List.perm_middle)
theorem ex {τ δ : Type} [GT τ δ] {t : τ} (o : Exp t M M' := by repeat (first | (with_reducible exact exp_int) | (with_reducible exact exp_bool) | (with_reducible exact exp_str) | (with_reducible apply exp_pair) | (with_reducible exact exp_leaf))) : Exp t M M' := o
theorem Exp.h {τ δ : Type} [GT τ δ] {t : τ} (o : Exp t M1 M') (p : Pick (treeH t) M M1) (h : Holds w0 S0 M w) : Holds w0 S0 M' w := by
  have := o w0 S0 w [] (by simpa using h.perm p.perm)
  simpa using this
variable {Γ : Cx} {l : Envl} {Q : Post} {K : Kont} {c : Code} {r : List Oper}
theorem jW {τ δ : Type} [GT τ δ] (t : τ) (k : W Γ c l (treeH t :: M') Q) (o : Own M t M' := by exact ow) : W Γ c l M Q := W_conv (fun _ h => o.h h) k
theorem jL {τ δ : Type} [GT τ δ] (t : τ) (k : L Γ r l (treeH t :: M') K) (o : Own M t M' := by exact ow) : L Γ r l M K := L_conv (fun _ h => o.h h) k
theorem xW {τ δ : Type} [GT τ δ] (t : τ) (k : W Γ c l M' Q) (p : Pick (treeH t) M M1 := by exact pk) (o : Exp t M1 M' := by exact ex) : W Γ c l M Q := W_conv (fun _ h => o.h p h) k
theorem xL {τ δ : Type} [GT τ δ] (t : τ) (k : L Γ r l M' K) (p : Pick (treeH t) M M1 := by exact pk) (o : Exp t M1 M' := by exact ex) : L Γ r l M K := L_conv (fun _ h => o.h p h) k
end
theorem dd {a b : Prop} (h : a) (e : a → b := by (intro h; (try dsimp only [dat_pair, dat_int, dat_bool, dat_str, dat_ar] at h); exact h)) : b := e h
theorem sc {p q : Prop} (k : q) (e : q → p := by (intro k; (simp only [cells_pair, cells_int, cells_bool, cells_str, cells_TL, List.cons_append, List.nil_append]); exact k)) : p := e k
section
variable {ops : Array Oper} {E : Fl}
theorem gc {o : Oper} {c : Prop} (h : GC ops E o c := by first | exact GC.none | exact GC.some rfl rfl) : GC ops E o c := h
theorem ov {x : Operand} {c : Prop} {v : Value} (h : OpV E x c v := by first | exact OpV.c | exact OpV.t rfl | exact OpV.s rfl) : OpV E x c v := h
end
theorem L_extractL {Γ : Cx} {l : Envl} {M : List HP} {K : Kont} {rest : List Oper} {d : Nat} {ty : TypeId} {pos : String} {af : Array Edge} {x : Operand} {i : Nat} {vs : List Value} {v : Value} (hn : Nat.blt d Γ.n = true) (hx : ev l x = some (.tuple vs.toArray)) (hv : vs[i]? = some v) (hk : L Γ rest ((d, v) :: l) M K) :
    L Γ ({ dst := some d, op := .extract x i, type := ty, pos, after := af, guard := none } :: rest) l M K := L_extract hn hx (by simpa using hv) hk
theorem isLen {Γ : Cx} {l : Envl} {M : List HP} {K : Kont} {rest : List Oper} {d : Option Nat} {ty : TypeId} {pos : String} {af : Array Edge} {g : Option (Nat × Bool)} {x : Array Operand} {T : Array TypeId} (h : L Γ ({ dst := d, op := .call { callee := .builtin .len, args := x, argTypes := T }, type := ty, pos := pos, after := af, guard := g } :: rest) l M K) :
    L Γ ({ dst := d, op := .call { callee := .builtin .len, args := x, argTypes := T }, type := ty, pos := pos, after := af, guard := g } :: rest) l M K := h
section
variable {Γ : Cx} {l : Envl} {M : List HP} {K : Kont} {Q : Post} {c : Code} {r : List Oper} {ops : Array Oper} {Msh pool : List HP} {E : Fl} {rs : List (Option Nat × Rel)} {cs0 : List Nat} {KD : RKont}
theorem isL (h : L Γ r l M K) : L Γ r l M K := h
theorem isW (h : W Γ c l M Q) : W Γ c l M Q := h
theorem isD (h : DV Γ ops Msh pool E rs cs0 r KD) : DV Γ ops Msh pool E rs cs0 r KD := h
end
/-- One step that needs no word. -/
theorem s1 {p q : Prop} (k : q) (h : q → p := by
  intro k
  (first
    | (with_reducible refine isL ?_); (first
      | (with_reducible apply L_move); (· exact rfl); (· exact rfl)
      | (with_reducible apply L_assign); (· exact rfl); (· exact rfl)
      | (with_reducible refine L_nil ?_)
      | (with_reducible apply L_binV); (· exact rfl); (· exact rfl); (· exact rfl); (· exact bv)
      | (with_reducible apply L_fieldAddr); (· exact rfl); (· exact rfl); (· exact FldF.h)
      | (with_reducible apply L_load); (· exact rfl); (· exact rfl); (· exact RdC.blk mm); (· exact OneF.h); (· exact rfl)
      | (with_reducible apply L_loadW); (· exact rfl); (· exact rfl); (· exact RdC.blk mm); (· exact AggF.h)
      | (with_reducible apply L_extractL); (· exact rfl); (· exact rfl); (· exact rfl)
      | (with_reducible apply L_store); (· exact rfl); (· exact rfl); (· exact pk); (· exact OneF.h); (· exact rfl); (· exact rfl)
      | (with_reducible apply L_storeW); (· exact rfl); (· exact rfl); (· exact pk); (· exact AggF.h); (· exact rfl); (· exact ocs)
      | (with_reducible refine isLen ?_); (first | refine L_lenT rfl rfl StrF.h ?_ | refine L_lenP rfl rfl ElF.h ?_)
      | (with_reducible apply L_not); (· exact rfl); (· exact rfl)
      | (with_reducible apply L_nilCheck); (· exact rfl); (· exact rfl))
    | (with_reducible refine isW ?_); (first
      | (with_reducible refine W_seq ?_)
      | (with_reducible refine W_region ?_)
      | (with_reducible refine W_skip ?_)
      | (with_reducible refine W_block ?_)
      | (with_reducible refine W_ret ?_))
    | (with_reducible refine isD ?_); (first
      | (with_reducible apply D_move); (· exact gc); (· exact ov)
      | (with_reducible apply D_fieldAddr); (· exact gc); (· exact ov); (· exact FldF.h)
      | (with_reducible apply D_load); (· exact gc); (· exact ov); (· exact fun _ => RdC.blk mm); (· exact OneF.h); (· exact rfl)
      | (with_reducible apply D_bin); (· exact gc); (· exact ov); (· exact ov); (· exact fun _ => bv)
      | (with_reducible apply D_and); (· exact gc); (· exact ov); (· exact ov); (· exact fun h hb => ⟨h, hb⟩)
      | (with_reducible apply D_or); (· exact gc); (· exact ov); (· exact ov); (· exact fun h hb => ⟨h, hb⟩)
      | (with_reducible apply D_loadW); (· exact gc); (· exact ov); (· exact fun _ => RdC.blk mm); (· exact AggF.h)
      | (with_reducible apply D_assign); (· exact gc); (· exact ov)
      | (with_reducible apply D_not); (· exact gc); (· exact ov)
      | (with_reducible apply D_nilCheck); (· exact gc); (· exact ov)
      | (with_reducible refine DV_nil ?_))
    | (with_reducible refine Give_nil ?_)
    | (with_reducible apply Give_drop); (· exact rfl)
    | (with_reducible apply Give_is); (· exact rfl); (· exact rfl)
    | (with_reducible apply Give_cons); (· exact rfl)
    | (with_reducible apply Give_drop')
    | (with_reducible apply Give_st))
  exact k) : p := h k
theorem s2 {p q : Prop} (k : q) (h : q → p := by (intro k; (iterate 2 (refine s1 ?_)); exact k)) : p := h k
theorem s3 {p q : Prop} (k : q) (h : q → p := by (intro k; (iterate 3 (refine s1 ?_)); exact k)) : p := h k
theorem s4 {p q : Prop} (k : q) (h : q → p := by (intro k; (iterate 4 (refine s1 ?_)); exact k)) : p := h k
theorem s5 {p q : Prop} (k : q) (h : q → p := by (intro k; (iterate 5 (refine s1 ?_)); exact k)) : p := h k
theorem s6 {p q : Prop} (k : q) (h : q → p := by (intro k; (iterate 6 (refine s1 ?_)); exact k)) : p := h k
theorem s7 {p q : Prop} (k : q) (h : q → p := by (intro k; (iterate 7 (refine s1 ?_)); exact k)) : p := h k
theorem s8 {p q : Prop} (k : q) (h : q → p := by (intro k; (iterate 8 (refine s1 ?_)); exact k)) : p := h k
theorem s9 {p q : Prop} (k : q) (h : q → p := by (intro k; (iterate 9 (refine s1 ?_)); exact k)) : p := h k
theorem s10 {p q : Prop} (k : q) (h : q → p := by (intro k; (iterate 10 (refine s1 ?_)); exact k)) : p := h k
theorem s11 {p q : Prop} (k : q) (h : q → p := by (intro k; (iterate 11 (refine s1 ?_)); exact k)) : p := h k
theorem s12 {p q : Prop} (k : q) (h : q → p := by (intro k; (iterate 12 (refine s1 ?_)); exact k)) : p := h k
theorem s13 {p q : Prop} (k : q) (h : q → p := by (intro k; (iterate 13 (refine s1 ?_)); exact k)) : p := h k
theorem s14 {p q : Prop} (k : q) (h : q → p := by (intro k; (iterate 14 (refine s1 ?_)); exact k)) : p := h k
theorem s15 {p q : Prop} (k : q) (h : q → p := by (intro k; (iterate 15 (refine s1 ?_)); exact k)) : p := h k
theorem s16 {p q : Prop} (k : q) (h : q → p := by (intro k; (iterate 16 (refine s1 ?_)); exact k)) : p := h k
theorem s17 {p q : Prop} (k : q) (h : q → p := by (intro k; (iterate 17 (refine s1 ?_)); exact k)) : p := h k
theorem s18 {p q : Prop} (k : q) (h : q → p := by (intro k; (iterate 18 (refine s1 ?_)); exact k)) : p := h k
theorem s19 {p q : Prop} (k : q) (h : q → p := by (intro k; (iterate 19 (refine s1 ?_)); exact k)) : p := h k
theorem s20 {p q : Prop} (k : q) (h : q → p := by (intro k; (iterate 20 (refine s1 ?_)); exact k)) : p := h k
end Go.Proofs.SL
namespace Go.Proofs.SL
open Go
set_option maxHeartbeats 2000000
instance el34 : ElF Try.prog 34 3 1 8 [.int .i64 0] := ⟨by kernel_rfl⟩
instance one3 : OneF Try.prog 3 := ⟨by kernel_rfl⟩
instance el22 : ElF Try.prog 22 5 1 1 [.int .u8 0] := ⟨by kernel_rfl⟩
instance und22 : UndF Try.prog 22 (.slice 5) := ⟨by kernel_rfl⟩
instance und5 : UndF Try.prog 5 (.int .u8) := ⟨by kernel_rfl⟩
instance und9 : UndF Try.prog 9 (.string) := ⟨by kernel_rfl⟩
theorem mix : Try.prog.follows .mixedOrders = true := by kernel_rfl
instance und3 : UndF Try.prog 3 (.int .i64) := ⟨by kernel_rfl⟩
theorem eqIntS_spec (w : World) (t1 t2 : TL Int) (h1 : GT.rd w [] t1) (h2 : GT.rd w [] t2) : Spec Try.prog 173 [t1.hdr, t2.hdr].toArray w [] (IsV (.bool (eqB (GT.dat t1) (GT.dat t2)))) := by
  obtain ⟨a1, c1, e1, x1, y1⟩ := t1
  obtain ⟨a2, c2, e2, x2, y2⟩ := t2
  have hm1 : x1.length ≤ 9223372036854775807 := rd_len h1
  have hm2 : x2.length ≤ 9223372036854775807 := rd_len h2
  dsimp only [TL.hdr]
  refine Spec.intro Try.func173 rfl Try.ntmps173 rfl ?_
  refine s8 ?_
  refine L_lenS rfl rfl el34.h ?_
  refine s1 ?_
  refine L_lenS rfl rfl el34.h ?_
  refine s2 ?_
  refine kp [0, 1, 10] ?_
  refine W_cond rfl (fun hc1 => ?_) (fun hc1 => ?_)
  · refine s5 ?_
    -- return 1 (R2)
    refine res1 rfl (ResOK.tmp rfl) ⟨?_, rfl⟩ ms
    refine congrArg Value.bool (Eq.symm (eqB_false.2 fun e => ?_))
    simp at hc1
    exact hc1 (by have := congrArg List.length e; simp [dat_TL] at this; omega)
  · have hl : x1.length = x2.length := by simp at hc1; omega
    refine s7 ?_
    refine W_loopC (σ := Nat) 0 (fun (k : Nat) => [(5, .int .i64 (k : Int))]) (fun (k : Nat) => []) (fun (k : Nat) => k ≤ x1.length ∧ (x1.map GT.dat).take k = (x2.map GT.dat).take k) (fun (k : Nat) => x1.length - k) [(0, _), (1, _)] [] ?_ sb ms ?_
    · exact ⟨Nat.zero_le _, rfl⟩
    · rintro k ⟨hk, ht⟩
      refine kq [0, 1, 5] ?_
      refine s5 ?_
      refine L_lenS rfl rfl el34.h ?_
      refine s2 ?_
      refine kp [0, 1, 5, 14] ?_
      refine W_cond rfl (fun hc4 => ?_) (fun hc4 => ?_)
      · have hk1 : k < x1.length := by simpa using hc4
        obtain ⟨g1, o1, rfl⟩ := rd_addr h1 hk1
        obtain ⟨g2, o2, rfl⟩ := rd_addr (k := k) h2 (show k < x2.length by omega)
        obtain ⟨u1, hu1⟩ := getEl hk1
        obtain ⟨u2, hu2⟩ := getEl (show k < x2.length by omega)
        refine s4 ?_
        refine W_D0 [25] mix (by kernel_rfl) rfl ?_
        refine s2 ?_
        refine D_indexAddr _ GC.none (OpV.t rfl) (OpV.t rfl) el34.h (fun hg => ⟨rfl, by (try dsimp only); omega⟩) ?_
        refine D_load0 GC.none (OpV.t rfl) (fun hg => (by first | exact RdC.blk mm | exact RdC.old (Cells.el h1 rfl hu1) | exact RdC.old (Cells.el h2 rfl hu2))) one3.h rfl ?_
        refine s2 ?_
        refine D_indexAddr _ GC.none (OpV.t rfl) (OpV.t rfl) el34.h (fun hg => ⟨rfl, by (try dsimp only); omega⟩) ?_
        refine D_load0 GC.none (OpV.t rfl) (fun hg => (by first | exact RdC.blk mm | exact RdC.old (Cells.el h1 rfl hu1) | exact RdC.old (Cells.el h2 rfl hu2))) one3.h rfl ?_
        refine s12 ?_
        refine kp [0, 1, 5, 25] ?_
        refine W_cond rfl (fun hc6 => ?_) (fun hc6 => ?_)
        · refine s5 ?_
          -- return 2 (R7)
          refine res1 rfl (ResOK.tmp rfl) ⟨?_, rfl⟩ ms
          refine congrArg Value.bool (Eq.symm (eqB_false.2 fun e => ?_))
          simp at hc6
          replace e : x1.map GT.dat = x2.map GT.dat := e
          have e2 := congrArg (fun l => l[k]?) e
          simp only [List.getElem?_map, hu1, hu2, Option.map_some, Option.some.injEq] at e2
          exact hc6 (by simpa [dat_int, dat_str, dat_bool] using e2)
        · refine s3 ?_
          refine L_binV rfl rfl rfl (bv_addR (by unfold inR; omega)) ?_
          refine s2 ?_
          refine ⟨k + 1, sb, ms, ?_, ?_⟩
          · exact ⟨by omega, take_succ_eq ht (by rw [List.getElem?_map, hu1]; rfl) (by rw [List.getElem?_map, hu2]; rfl) (by simpa [dat_int, dat_str, dat_bool] using hc6)⟩
          · (try dsimp only); omega
      · refine W_exit ?_
        refine s5 ?_
        -- return 3 (R8)
        refine res1 rfl (ResOK.tmp rfl) ⟨?_, rfl⟩ ms
        refine congrArg Value.bool (Eq.symm (eqB_true.2 ?_))
        have hk2 : x1.length ≤ k := by simpa using hc4
        have h3 := ht
        rw [List.take_of_length_le (by simp; omega), List.take_of_length_le (by simp; omega)] at h3
        exact h3
theorem szIntS_spec (w : World) (t1 : TL Int) (left : Int) (hl : 0 ≤ left) (hm : left ≤ 1048576) (h1 : GT.rd w [] t1) (ho : Ok.ok (GT.dat t1)) : Spec Try.prog 171 [t1.hdr, .int .i64 left].toArray w [] (IsV (.int .i64 (if (Bk.bulk t1 : Int) ≤ left then left - (Bk.bulk t1 : Int) else -1))) := by
  obtain ⟨a1, c1, e1, x1, y1⟩ := t1
  have hm1 : x1.length ≤ 9223372036854775807 := rd_len h1
  rw [bulk_TL]
  dsimp only [TL.hdr]
  have hz : bulks x1 = 0 := by
    clear hm1 h1 ho
    induction x1 with
    | nil => rfl
    | cons y ys ih => simp only [bulks, ih]; rfl
  refine Spec.intro Try.func171 rfl Try.ntmps171 rfl ?_
  refine s8 ?_
  refine L_lenS rfl rfl el34.h ?_
  refine L_binV rfl rfl rfl (bv_subR (by unfold inR; omega)) ?_
  refine s8 ?_
  refine kp [1, 10] ?_
  refine W_cond rfl (fun hc2 => ?_) (fun hc2 => ?_)
  · have hb0 : left - (x1.length : Int) < 0 := by simpa using hc2
    refine s5 ?_
    -- return 1 (R3)
    refine res1 rfl (ResOK.tmp rfl) ⟨?_, rfl⟩ ms
    simp only [hz, Nat.add_zero]
    first
      | (rw [if_pos (by omega)]; done)
      | (rw [if_neg (by omega)])
  · have hb0 : ¬ (left - (x1.length : Int) < 0) := by simpa using hc2
    skip
    refine s7 ?_
    -- return 2 (R4)
    refine res1 rfl (ResOK.tmp rfl) ⟨?_, rfl⟩ ms
    simp only [hz, Nat.add_zero]
    first
      | (rw [if_pos (by omega)]; done)
      | (rw [if_neg (by omega)])
theorem toIntS_spec (w : World) (t1 : TL Int) (h1 : GT.rd w [] t1) (hb : Bk.bulk t1 ≤ 1048576) : Spec Try.prog 172 [t1.hdr].toArray w [] (fun v M => ∃ t2 : TL Int, v = t2.hdr ∧ GT.dat t2 = GT.dat t1 ∧ M = [treeH t2]) := by
  obtain ⟨a1, c1, e1, x1, y1⟩ := t1
  rw [bulk_TL] at hb
  dsimp only [TL.hdr]
  refine Spec.intro Try.func172 rfl Try.ntmps172 rfl ?_
  refine s7 ?_
  refine L_lenS rfl rfl el34.h ?_
  refine L_make (τ := Int) (0 : Int) rfl rfl rfl el34.h rfl rfl (flat_int trivial) (by omega) (by unfold maxLen; omega) (fun g => ?_)
  refine s8 ?_
  refine W_loopC (σ := Nat × List Int) (0, List.replicate x1.length (0 : Int)) (fun (p : Nat × List Int) => [(4, .int .i64 (p.1 : Int))]) (fun (p : Nat × List Int) => [treeH (⟨some ⟨g, 0, none⟩, x1.length, 3, p.2, []⟩ : TL Int)]) (fun (p : Nat × List Int) => p.1 ≤ x1.length ∧ p.2.length = x1.length ∧ (p.2.take p.1).map GT.dat = (x1.take p.1).map GT.dat) (fun (p : Nat × List Int) => x1.length - p.1) [(0, _), (3, _)] [] ?_ sb ms ?_
  · exact ⟨Nat.zero_le _, by simp, by simp⟩
  · rintro ⟨k, cur⟩ ⟨hk, hlen, hdat⟩
    dsimp only at hk hlen hdat
    refine kq [0, 3, 4] ?_
    refine s5 ?_
    refine L_lenS rfl rfl el34.h ?_
    refine s2 ?_
    refine kp [0, 3, 4, 11] ?_
    refine W_cond rfl (fun hc3 => ?_) (fun hc3 => ?_)
    · have hk1 : k < x1.length := by simpa using hc3
      obtain ⟨g1, o1, rfl⟩ := rd_addr h1 hk1
      obtain ⟨u1, hu1⟩ := getEl hk1
      have hub : Bk.bulk u1 ≤ 1048576 := by have := bulk_mem (List.mem_of_getElem? hu1); omega
      refine s8 ?_
      refine L_indexAddr rfl rfl rfl el34.h rfl (by omega) ?_
      refine L_load0 rfl rfl (by first | exact RdC.blk mm | exact RdC.old (Cells.el h1 rfl hu1)) one3.h rfl ?_
      refine L_indexAddr rfl rfl rfl el34.h rfl (by omega) ?_
      obtain ⟨u0, hu0⟩ := getEl (show k < cur.length by omega)
      refine L_storeElV u1 rfl rfl pk rfl hu0 rfl (flat_int (h1.2.2.1 _ (List.mem_of_getElem? hu1))) (.inr ⟨one3.h, rfl⟩) ?_
      refine s3 ?_
      refine L_binV rfl rfl rfl (bv_addR (by unfold inR; omega)) ?_
      refine s2 ?_
      refine ⟨(k + 1, cur.set k u1), sb, ms, ?_, ?_⟩
      · exact ⟨by dsimp only; omega, by simpa using hlen, map_take_set GT.dat GT.dat hdat (by omega) hu1 rfl⟩
      · dsimp only; omega
    · refine W_exit ?_
      refine s6 ?_
      -- return 1 (R6)
      refine res1 rfl (ResOK.tmp rfl) ⟨⟨some ⟨g, 0, none⟩, x1.length, 3, cur, []⟩, ?_, ?_, rfl⟩ ms
      · show _ = Value.slice _ cur.length _
        rw [hlen]
      · have hk2 : x1.length ≤ k := by simpa using hc3
        rw [List.take_of_length_le (by omega), List.take_of_length_le (by omega)] at hdat
        exact hdat
theorem markText_spec (w : World) (k0 : Nat) (hk0 : 0 < k0) (hm : k0 < 9223372036854775807) : Spec Try.prog 155 [.int .i64 (k0 : Int)].toArray w [] (IsV (.string (mtx k0))) := by
  refine Spec.intro Try.func155 rfl Try.ntmps155 rfl ?_
  refine s10 ?_
  refine kp [0, 5] ?_
  refine W_cond rfl (fun hc1 => ?_) (fun hc1 => ?_)
  · refine s5 ?_
    -- return 1 (R2)
    refine res1 rfl (ResOK.tmp rfl) ⟨?_, rfl⟩ ms
    exfalso; simp at hc1; omega
  · refine s7 ?_
    refine W_loopC (σ := Nat × ByteArray) (k0, ByteArray.mk #[]) (fun (p : Nat × ByteArray) => [(0, .int .i64 (p.1 : Int)), (3, .string p.2)]) (fun (p : Nat × ByteArray) => []) (fun (p : Nat × ByteArray) => mtxN p.1 p.2 = mtxN k0 (ByteArray.mk #[]) ∧ p.2.size + p.1 ≤ k0) (fun (p : Nat × ByteArray) => p.1) [] [] ?_ sb ms ?_
    · refine ⟨rfl, ?_⟩
      show (ByteArray.mk #[]).size + k0 ≤ k0
      have : (ByteArray.mk #[]).size = 0 := rfl
      omega
    · rintro ⟨k, s⟩ ⟨hs, hz⟩
      refine kq [0, 3] ?_
      refine s6 ?_
      refine kp [0, 3, 7] ?_
      refine W_cond rfl (fun hc4 => ?_) (fun hc4 => ?_)
      · have hkp : 0 < k := by simpa using hc4
        refine s5 ?_
        refine L_binV rfl rfl rfl (bv_remN k 10 (by omega)) ?_
        refine L_binV rfl rfl rfl (bv_addR (by unfold inR; omega)) ?_
        refine L_convInt rfl rfl und5.h (by rw [und3.h]; rfl) ?_
        refine L_buildSlice1 rfl rfl el22.h rfl (by decide) (by decide) rfl (fun bb => ?_)
        refine L_bytesToStr (ns := [IntKind.u8.wrap (48 + ((k % 10 : Nat) : Int))]) rfl rfl und22.h und5.h und9.h (RdC.blk mm) rfl rfl ?_
        refine s1 ?_
        refine L_binV rfl rfl rfl (bv_sadd (by rw [strOf_size1]; omega)) ?_
        refine s4 ?_
        refine L_binV rfl rfl rfl (bv_quoN k 10 (by omega) (by omega)) ?_
        refine s2 ?_
        refine ⟨(k / 10, dg k ++ s), sb, ms, ?_, ?_⟩
        · refine ⟨?_, ?_⟩
          · rw [← hs]; exact (mtxN_step s hkp).symm
          · dsimp only at hz ⊢
            rw [ByteArray.size_append, dg_size]; omega
        · dsimp only; omega
      · refine W_exit ?_
        refine s1 ?_
        have hd1 : ({ data := #[109] } : ByteArray).size = 1 := rfl
        dsimp only at hz
        refine s2 ?_
        refine L_binV rfl rfl rfl (bv_sadd (by (try dsimp only); omega)) ?_
        refine s3 ?_
        -- return 2 (R7)
        refine res1 rfl (ResOK.tmp rfl) ⟨?_, rfl⟩ ms
        have hk2 : k = 0 := by simp at hc4; omega
        subst hk2
        dsimp only at hs
        rw [mtxN_zero] at hs
        exact congrArg Value.string (by rw [hs]; rfl)
theorem markIntS_spec (w : World) (t1 : TL Int) (k0 : Nat) (hk0 : 0 < k0) (hb : k0 + Mk.cnt t1 < 9223372036854775807) : Spec Try.prog 156 [t1.hdr, .int .i64 (k0 : Int)].toArray w [treeH t1] (fun v M => v = .int .i64 ((k0 + Mk.cnt t1 : Nat) : Int) ∧ M = [treeH (Mk.mkd k0 t1)]) := by
  obtain ⟨a1, c1, e1, x1, y1⟩ := t1
  replace hb : k0 + cnts x1 < 9223372036854775807 := hb
  dsimp only [TL.hdr]
  refine Spec.intro Try.func156 rfl Try.ntmps156 rfl ?_
  refine W_fact (fun w h => ow_facts (h.prs _ (List.mem_cons_self ..))) fun hF => ?_
  replace hF : x1.length ≤ 9223372036854775807 ∧ (0 < x1.length → ∃ g, a1 = some ⟨g, 0, none⟩) := hF
  refine s10 ?_
  refine W_conv (M' := [treeH (⟨a1, c1, e1, half k0 0 x1, y1⟩ : TL Int)]) (fun w h => by rw [half_zero]; exact h) ?_
  refine W_loopC (σ := Nat) 0 (fun (i : Nat) => [(1, .int .i64 ((k0 + cnts (x1.take i) : Nat) : Int)), (5, .int .i64 (i : Int))]) (fun (i : Nat) => [treeH (⟨a1, c1, e1, half k0 i x1, y1⟩ : TL Int)]) (fun (i : Nat) => i ≤ x1.length) (fun (i : Nat) => x1.length - i) [(0, _)] [] ?_ sb ms ?_
  · exact Nat.zero_le _
  · rintro i hi
    refine kq [0, 1, 5] ?_
    refine s5 ?_
    refine L_lenS rfl rfl el34.h ?_
    refine s2 ?_
    refine kp [0, 1, 5, 9] ?_
    refine W_cond rfl (fun hc2 => ?_) (fun hc2 => ?_)
    · have hk1 : i < x1.length := by simpa using hc2
      obtain ⟨g, rfl⟩ := hF.2 (by omega)
      obtain ⟨u, hu⟩ := getEl hk1
      have hs := cnts_take_succ hu
      have hle := cnts_take_le x1 (i + 1)
      have hlh := half_length k0 i x1
      try simp only [cnt_int, cnt_str] at hs
      refine s8 ?_
      refine L_indexAddr rfl rfl rfl el34.h rfl (by omega) ?_
      refine L_storeElV (((k0 + cnts (x1.take i)) : Nat) : Int) rfl rfl pk rfl (show ((half k0 i x1) : List Int)[i]? = some (u : Int) from half_get (k := k0) hu) rfl (flat_int trivial) (.inr ⟨one3.h, rfl⟩) ?_
      refine s3 ?_
      refine L_binV rfl rfl rfl (bv_addR (by unfold inR; omega)) ?_
      refine s2 ?_
      rw [show (((k0 + cnts (x1.take i)) : Nat) : Int) + 1 = (((k0 + cnts (x1.take i)) + 1 : Nat) : Int) from rfl]
      have hfin : ((half k0 i x1).set i (((k0 + cnts (x1.take i)) : Nat) : Int)) = half k0 (i + 1) x1 := by
        have h9 := half_set (k := k0) hu
        try simp only [mk_pair, mk_int, mk_str, cnt_pair, cnt_int, cnt_str, ← Nat.add_assoc] at h9
        try simp only [List.set_set]
        exact h9
      refine W_conv (M' := treeH (⟨some ⟨g, 0, none⟩, c1, e1, (half k0 (i + 1) x1), y1⟩ : TL Int) :: _) (fun w h => by rw [← hfin]; exact h) ?_
      have hE : ((k0 + cnts (x1.take i)) + 1) = k0 + cnts (x1.take (i + 1)) := by rw [hs]; (try simp only [cnt_pair, cnt_int, cnt_str]); omega
      rw [hE]
      refine s2 ?_
      refine L_binV rfl rfl rfl (bv_addR (by unfold inR; omega)) ?_
      refine s2 ?_
      refine ⟨i + 1, sb, ms, ?_, ?_⟩
      · show i + 1 ≤ x1.length
        omega
      · show x1.length - (i + 1) < x1.length - i
        omega
    · refine W_exit ?_
      refine s6 ?_
      -- return 1 (R6)
      have hk2 : x1.length ≤ i := by simpa using hc2
      rw [half_all k0 hk2]
      refine res1 rfl (ResOK.tmp rfl) ⟨?_, rfl⟩ ms
      have hk2 : x1.length ≤ i := by simpa using hc2
      rw [List.take_of_length_le hk2]; rfl
theorem heldIntS_spec (w : World) (t1 : TL Int) (k0 : Nat) (hk0 : 0 < k0) (hb : k0 + Mk.cnt t1 < 9223372036854775807) (h1 : GT.rd w [] (Mk.mkd k0 t1)) : Spec Try.prog 157 [(Mk.mkd k0 t1).hdr, .int .i64 (k0 : Int)].toArray w [] (IsV (.int .i64 ((k0 + Mk.cnt t1 : Nat) : Int))) := by
  obtain ⟨a1, c1, e1, x1, y1⟩ := t1
  replace hb : k0 + cnts x1 < 9223372036854775807 := hb
  have hml := mks_length x1 k0
  have hm1 : (mks k0 x1).length ≤ 9223372036854775807 := rd_len h1
  rw [mk_TL] at h1 ⊢
  dsimp only [TL.hdr]
  refine Spec.intro Try.func157 rfl Try.ntmps157 rfl ?_
  refine s10 ?_
  refine W_loopC (σ := Nat) 0 (fun (i : Nat) => [(1, .int .i64 ((k0 + cnts (x1.take i) : Nat) : Int)), (5, .int .i64 (i : Int))]) (fun (i : Nat) => []) (fun (i : Nat) => i ≤ x1.length) (fun (i : Nat) => x1.length - i) [(0, _)] [] ?_ sb ms ?_
  · exact Nat.zero_le _
  · rintro i hi
    refine kq [0, 1, 5] ?_
    refine s5 ?_
    refine L_lenS rfl rfl el34.h ?_
    refine s2 ?_
    refine kp [0, 1, 5, 9] ?_
    refine W_cond rfl (fun hc2 => ?_) (fun hc2 => ?_)
    · have hk1 : i < (mks k0 x1).length := by simpa using hc2
      obtain ⟨g, o1, rfl⟩ := rd_addr h1 hk1
      obtain ⟨u, hu⟩ := getEl (show i < x1.length by omega)
      have hs := cnts_take_succ hu
      have hle := cnts_take_le x1 (i + 1)
      have hu2 := mks_get (k := k0) hu
      try simp only [cnt_int, cnt_str] at hs
      refine s8 ?_
      refine L_indexAddr rfl rfl rfl el34.h rfl (by omega) ?_
      refine L_load0 rfl rfl (by first | exact RdC.blk mm | exact RdC.old (Cells.el h1 rfl hu2)) one3.h rfl ?_
      refine s3 ?_
      refine kp [0, 1, 5, 17] ?_
      refine W_cond rfl (fun hc4 => ?_) (fun hc4 => ?_)
      · refine s5 ?_
        -- return 1 (R5)
        refine res1 rfl (ResOK.tmp rfl) ⟨?_, rfl⟩ ms
        exfalso; simp [mk_int, mk_str] at hc4
      · refine s3 ?_
        refine L_binV rfl rfl rfl (bv_addR (by unfold inR; omega)) ?_
        refine s2 ?_
        rw [show (((k0 + cnts (x1.take i)) : Nat) : Int) + 1 = (((k0 + cnts (x1.take i)) + 1 : Nat) : Int) from rfl]
        have hE : ((k0 + cnts (x1.take i)) + 1) = k0 + cnts (x1.take (i + 1)) := by rw [hs]; (try simp only [cnt_pair, cnt_int, cnt_str]); omega
        rw [hE]
        refine s2 ?_
        refine L_binV rfl rfl rfl (bv_addR (by unfold inR; omega)) ?_
        refine s2 ?_
        refine ⟨i + 1, sb, ms, ?_, ?_⟩
        · show i + 1 ≤ x1.length
          omega
        · show x1.length - (i + 1) < x1.length - i
          omega
    · refine W_exit ?_
      refine s6 ?_
      -- return 2 (R7)
      refine res1 rfl (ResOK.tmp rfl) ⟨?_, rfl⟩ ms
      have hk2 : (mks k0 x1).length ≤ i := by simpa using hc2
      rw [List.take_of_length_le (by omega)]; rfl
end Go.Proofs.SL
namespace Go.Proofs.SL
open Go
set_option maxHeartbeats 2000000
instance fn73 : FnF Try.prog 73 := ⟨⟨_, Try.func73, by kernel_rfl, rfl⟩⟩
noncomputable def s_l1In (a0 : Int) (a1 : Int) (a2 : Int) : Option Bool :=
  some ((decide (a1 ≤ a0)) && (decide (a0 ≤ a2)))
theorem s_l1In_walk (w : World) (a0 : Int) (a1 : Int) (a2 : Int)  (r : Bool) (hp : s_l1In a0 a1 a2 = some r) : Spec Try.prog 77 [.int .i64 a0, .int .i64 a1, .int .i64 a2].toArray w [] (IsV (.bool r)) := by
  refine Spec.intro Try.func77 rfl Try.ntmps77 rfl ?_
  unfold s_l1In at hp
  replace hp := dd hp
  refine s5 ?_
  refine W_D0 [6] mix (by kernel_rfl) rfl ?_
  refine s20 ?_
  obtain rfl := Option.some.inj hp
  refine s1 ?_
  refine res1 rfl (ResOK.tmp rfl) ⟨rfl, rfl⟩ ms
noncomputable def i_within (a0 : Int) (a1 : Int) (a2 : Int) : Option Bool :=
  some ((decide (a1 ≤ a0)) && (decide (a0 ≤ a2)))
theorem i_within_walk (w : World) (a0 : Int) (a1 : Int) (a2 : Int)  (r : Bool) (hp : i_within a0 a1 a2 = some r) : Spec Try.prog 73 [.int .i64 a0, .int .i64 a1, .int .i64 a2].toArray w [] (IsV (.bool r)) := by
  refine Spec.intro Try.func73 rfl Try.ntmps73 rfl ?_
  unfold i_within at hp
  replace hp := dd hp
  refine s5 ?_
  refine W_D0 [6] mix (by kernel_rfl) rfl ?_
  refine s20 ?_
  obtain rfl := Option.some.inj hp
  refine s1 ?_
  refine res1 rfl (ResOK.tmp rfl) ⟨rfl, rfl⟩ ms
noncomputable def s_l9Node (a0 : Int) : Option Bool :=
  some ((decide (0 ≤ a0)) && (decide (a0 < 3)))
theorem s_l9Node_walk (w : World) (a0 : Int)  (r : Bool) (hp : s_l9Node a0 = some r) : Spec Try.prog 104 [.int .i64 a0].toArray w [] (IsV (.bool r)) := by
  refine Spec.intro Try.func104 rfl Try.ntmps104 rfl ?_
  unfold s_l9Node at hp
  replace hp := dd hp
  refine s5 ?_
  refine W_D0 [2] mix (by kernel_rfl) rfl ?_
  refine s16 ?_
  obtain rfl := Option.some.inj hp
  refine s1 ?_
  refine res1 rfl (ResOK.tmp rfl) ⟨rfl, rfl⟩ ms
noncomputable def i_isRep (a0 : Int) : Option Bool :=
  Option.bind (i_within a0 0 2) (fun y1 => some y1)
theorem i_isRep_walk (w : World) (a0 : Int)  (r : Bool) (hp : i_isRep a0 = some r) : Spec Try.prog 137 [.int .i64 a0].toArray w [] (IsV (.bool r)) := by
  refine Spec.intro Try.func137 rfl Try.ntmps137 rfl ?_
  unfold i_isRep at hp
  replace hp := dd hp
  refine s7 ?_
  replace hp := ba hp; obtain ⟨y1, hy1, hp⟩ := hp
  refine L_callX rfl fn73.h rfl (by exact fun w hw => i_within_walk w a0 0 2  _ hy1) ?_
  refine s2 ?_
  obtain rfl := Option.some.inj hp
  refine s1 ?_
  refine res1 rfl (ResOK.tmp rfl) ⟨rfl, rfl⟩ ms
end Go.Proofs.SL
namespace Go.Proofs.SL
open Go
theorem l1In_eq (x a b : Int) : s_l1In x a b = some (decide (a ≤ x ∧ x ≤ b)) := by
  unfold s_l1In; rw [Bool.decide_and]
theorem within_eq (x a b : Int) : i_within x a b = some (decide (a ≤ x ∧ x ≤ b)) := by
  unfold i_within; rw [Bool.decide_and]
theorem gbs {α β : Type} [Inhabited α] (g : Bool) (a : α) (k : α → Option β) : gb g (some a) k = if g then k a else k default := by cases g <;> rfl
theorem prev_idx' {δ : Type} {l : List δ} {k : Nat} (hk : k < l.length) (hl : l.length ≤ 9223372036854775807) (h0 : 0 < k) : ∃ r, l[k - 1]? = some r ∧ idx l (IntKind.wrap .i64 ((k : Int) - 1)) = some r := by
  refine ⟨l[k - 1], List.getElem?_eq_getElem (by omega), ?_⟩
  rw [wrap64_in (by unfold inR; omega), show ((k : Int) - 1) = ((k - 1 : Nat) : Int) by omega, idx_nat]
  exact List.getElem?_eq_getElem (by omega)
theorem gb_none {α β : Type} [Inhabited α] (g : Bool) (o : Option α) (k : α → Option β) (h : g = false) : gb g o k = k default := by subst h; rfl
theorem gb_yes {α β : Type} [Inhabited α] (g : Bool) (o : Option α) (k : α → Option β) (h : g = true) : gb g o k = o.bind k := by subst h; rfl
theorem bds_int (xs : List Int) : bds Int xs = 0 := by
  induction xs with
  | nil => rfl
  | cons x xs ih => simp only [bds, ih]; rfl
end Go.Proofs.SL
namespace Go.Proofs.SL
open Go
theorem bl_irrefl : ∀ l : List UInt8, Op.bytesLess l l = false
  | [] => rfl
  | a :: l => by simp [Op.bytesLess, bl_irrefl l]
theorem bl_trans : ∀ {a b c : List UInt8}, Op.bytesLess a b = true → Op.bytesLess b c = true → Op.bytesLess a c = true
  | _, _, [], h1, h2 => by
    rename_i b
    cases b <;> simp [Op.bytesLess] at h2
  | [], b, c :: cs1, h1, h2 => by simp [Op.bytesLess]
  | a :: as1, [], c :: cs1, h1, h2 => by simp [Op.bytesLess] at h1
  | a :: as1, b :: bs1, c :: cs1, h1, h2 => by
    simp only [Op.bytesLess, Bool.or_eq_true, decide_eq_true_eq, Bool.and_eq_true, beq_iff_eq] at h1 h2 ⊢
    rcases h1 with h1 | ⟨rfl, h1⟩
    · rcases h2 with h2 | ⟨rfl, h2⟩
      · exact .inl (UInt8.lt_trans h1 h2)
      · exact .inl h1
    · rcases h2 with h2 | ⟨rfl, h2⟩
      · exact .inl h2
      · exact .inr ⟨rfl, bl_trans h1 h2⟩
theorem sLt_irrefl (a : ByteArray) : sLt a a = false := bl_irrefl _
theorem sLt_trans {a b c : ByteArray} (h1 : sLt a b = true) (h2 : sLt b c = true) : sLt a c = true := bl_trans h1 h2
theorem toList_inj {a b : ByteArray} (h : a.toList = b.toList) : a = b := by
  rw [ByteArray.toList_eq, ByteArray.toList_eq] at h
  cases a; cases b
  congr 1
  exact Array.toList_inj.1 h
theorem sLt_ne {a b : ByteArray} (h : sLt a b = true) : a ≠ b := by
  intro e; subst e; rw [sLt_irrefl] at h; cases h
theorem pairwise_of_step {α : Type} {R : α → α → Prop} (tr : ∀ a b c, R a b → R b c → R a c) : ∀ (l : List α), (∀ k (h : k + 1 < l.length), R l[k] l[k + 1]) → l.Pairwise R
  | [], _ => List.Pairwise.nil
  | [a], _ => List.pairwise_singleton _ _
  | a :: b :: l, h => by
    have ih := pairwise_of_step tr (b :: l) (fun k hk => h (k + 1) (by simp at hk ⊢; omega))
    refine List.pairwise_cons.2 ⟨fun x hx => ?_, ih⟩
    have h0 : R a b := h 0 (by simp)
    rcases List.mem_cons.1 hx with rfl | hx
    · exact h0
    · exact tr _ _ _ h0 (List.rel_of_pairwise_cons ih hx)
end Go.Proofs.SL
namespace Go.Proofs.SL
open Go
set_option maxHeartbeats 2000000
abbrev T_Up := ByteArray × (TL Int) × Int
abbrev T_Ups := Int × (TL T_Up)
instance el69 : ElF Try.prog 69 129 3 48 [.string ByteArray.empty, .slice none 0 0, .int .i64 0] := ⟨by kernel_rfl⟩
instance agg129 : AggF Try.prog 129 3 := ⟨by kernel_rfl⟩
instance one9 : OneF Try.prog 9 := ⟨by kernel_rfl⟩
instance fn156 : FnF Try.prog 156 := ⟨⟨_, Try.func156, by kernel_rfl, rfl⟩⟩
instance fn118 : FnF Try.prog 118 := ⟨⟨_, Try.func118, by kernel_rfl, rfl⟩⟩
instance fld129_0 : FldF Try.prog 129 0 0 := ⟨by kernel_rfl⟩
instance fld129_1 : FldF Try.prog 129 1 1 := ⟨by kernel_rfl⟩
instance one34 : OneF Try.prog 34 := ⟨by kernel_rfl⟩
instance fn173 : FnF Try.prog 173 := ⟨⟨_, Try.func173, by kernel_rfl, rfl⟩⟩
instance fld129_2 : FldF Try.prog 129 2 2 := ⟨by kernel_rfl⟩
instance fld169_0 : FldF Try.prog 169 0 0 := ⟨by kernel_rfl⟩
instance str9 : StrF Try.prog 9 := ⟨by kernel_rfl⟩
instance fld169_1 : FldF Try.prog 169 1 1 := ⟨by kernel_rfl⟩
instance fn171 : FnF Try.prog 171 := ⟨⟨_, Try.func171, by kernel_rfl, rfl⟩⟩
instance zero129 : ZerF Try.prog 129 [.string ByteArray.empty, .slice none 0 0, .int .i64 0] := ⟨by kernel_rfl⟩
instance fn172 : FnF Try.prog 172 := ⟨⟨_, Try.func172, by kernel_rfl, rfl⟩⟩
instance fld169_2 : FldF Try.prog 169 2 2 := ⟨by kernel_rfl⟩
instance fn154 : FnF Try.prog 154 := ⟨⟨_, Try.func154, by kernel_rfl, rfl⟩⟩
instance el84 : ElF Try.prog 84 169 3 48 [.string ByteArray.empty, .slice none 0 0, .int .i64 0] := ⟨by kernel_rfl⟩
instance agg169 : AggF Try.prog 169 3 := ⟨by kernel_rfl⟩
instance fn152 : FnF Try.prog 152 := ⟨⟨_, Try.func152, by kernel_rfl, rfl⟩⟩
instance fn153 : FnF Try.prog 153 := ⟨⟨_, Try.func153, by kernel_rfl, rfl⟩⟩
instance fld71_0 : FldF Try.prog 71 0 0 := ⟨by kernel_rfl⟩
instance fld71_1 : FldF Try.prog 71 1 1 := ⟨by kernel_rfl⟩
instance one69 : OneF Try.prog 69 := ⟨by kernel_rfl⟩
instance fn117 : FnF Try.prog 117 := ⟨⟨_, Try.func117, by kernel_rfl, rfl⟩⟩
instance fld86_1 : FldF Try.prog 86 1 1 := ⟨by kernel_rfl⟩
instance one84 : OneF Try.prog 84 := ⟨by kernel_rfl⟩
instance fn115 : FnF Try.prog 115 := ⟨⟨_, Try.func115, by kernel_rfl, rfl⟩⟩
instance zero71 : ZerF Try.prog 71 [.int .i64 0, .slice none 0 0] := ⟨by kernel_rfl⟩
instance fld86_0 : FldF Try.prog 86 0 0 := ⟨by kernel_rfl⟩
instance fn116 : FnF Try.prog 116 := ⟨⟨_, Try.func116, by kernel_rfl, rfl⟩⟩
instance agg71 : AggF Try.prog 71 2 := ⟨by kernel_rfl⟩
instance fn155 : FnF Try.prog 155 := ⟨⟨_, Try.func155, by kernel_rfl, rfl⟩⟩
instance fn157 : FnF Try.prog 157 := ⟨⟨_, Try.func157, by kernel_rfl, rfl⟩⟩
instance fn119 : FnF Try.prog 119 := ⟨⟨_, Try.func119, by kernel_rfl, rfl⟩⟩
theorem eqUp_spec (w : World) (t1 t2 : T_Up) (h1 : GT.rd w [] t1) (h2 : GT.rd w [] t2) : Spec Try.prog 154 [.agg (GT.cells t1).toArray, .agg (GT.cells t2).toArray].toArray w [] (IsV (.bool (eqB (GT.dat t1) (GT.dat t2)))) := by
  obtain ⟨a1, a2, a3⟩ := t1
  obtain ⟨b1, b2, b3⟩ := t2
  change Spec _ _ [Value.agg #[.string a1, a2.hdr, .int .i64 a3], Value.agg #[.string b1, b2.hdr, .int .i64 b3]].toArray w [] _
  refine Spec.intro Try.func154 rfl Try.ntmps154 rfl ?_
  refine s2 ?_
  refine bx fun bk2 => ?_
  refine bx fun bk3 => ?_
  refine s6 ?_
  refine L_load rfl rfl (by first | exact RdC.blk mm) one9.h rfl ?_
  refine s1 ?_
  refine L_load rfl rfl (by first | exact RdC.blk mm) one9.h rfl ?_
  refine s2 ?_
  refine kp [2, 3, 9] ?_
  refine W_cond rfl (fun hc1 => ?_) (fun hc1 => ?_)
  · refine s5 ?_
    -- return 1 (R2)
    refine res1 rfl (ResOK.tmp rfl) ⟨?_, rfl⟩ ms
    clear h1 h2
    first
      | (refine congrArg Value.bool (Eq.symm (eqB_false.2 fun e => ?_)); try simp only [dat_pair, dat_int, dat_bool, dat_str, Prod.mk.injEq] at e; simp_all; done)
      | (refine congrArg Value.bool (Eq.symm (eqB_true.2 ?_)); try simp only [dat_pair, dat_int, dat_bool, dat_str, Prod.mk.injEq]; simp_all; done)
  · refine s5 ?_
    refine L_load rfl rfl (by first | exact RdC.blk mm) one34.h rfl ?_
    refine s1 ?_
    refine L_load rfl rfl (by first | exact RdC.blk mm) one34.h rfl ?_
    refine L_callX rfl fn173.h rfl (by exact fun w hw => eqIntS_spec w _ _ (rd_carry (h1.2.1) hw) (rd_carry (h2.2.1) hw)) ?_
    refine s2 ?_
    refine kp [2, 3, 15] ?_
    refine W_cond rfl (fun hc3 => ?_) (fun hc3 => ?_)
    · refine s5 ?_
      -- return 2 (R4)
      refine res1 rfl (ResOK.tmp rfl) ⟨?_, rfl⟩ ms
      clear h1 h2
      first
        | (refine congrArg Value.bool (Eq.symm (eqB_false.2 fun e => ?_)); try simp only [dat_pair, dat_int, dat_bool, dat_str, Prod.mk.injEq] at e; simp_all; done)
        | (refine congrArg Value.bool (Eq.symm (eqB_true.2 ?_)); try simp only [dat_pair, dat_int, dat_bool, dat_str, Prod.mk.injEq]; simp_all; done)
    · refine s5 ?_
      refine L_load rfl rfl (by first | exact RdC.blk mm) one3.h rfl ?_
      refine s1 ?_
      refine L_load rfl rfl (by first | exact RdC.blk mm) one3.h rfl ?_
      refine s2 ?_
      refine kp [20] ?_
      refine W_cond rfl (fun hc5 => ?_) (fun hc5 => ?_)
      · refine s5 ?_
        -- return 3 (R6)
        refine res1 rfl (ResOK.tmp rfl) ⟨?_, rfl⟩ ms
        clear h1 h2
        first
          | (refine congrArg Value.bool (Eq.symm (eqB_false.2 fun e => ?_)); try simp only [dat_pair, dat_int, dat_bool, dat_str, Prod.mk.injEq] at e; simp_all; done)
          | (refine congrArg Value.bool (Eq.symm (eqB_true.2 ?_)); try simp only [dat_pair, dat_int, dat_bool, dat_str, Prod.mk.injEq]; simp_all; done)
      · refine s6 ?_
        -- return 4 (R7)
        refine res1 rfl (ResOK.tmp rfl) ⟨?_, rfl⟩ ms
        clear h1 h2
        first
          | (refine congrArg Value.bool (Eq.symm (eqB_false.2 fun e => ?_)); try simp only [dat_pair, dat_int, dat_bool, dat_str, Prod.mk.injEq] at e; simp_all; done)
          | (refine congrArg Value.bool (Eq.symm (eqB_true.2 ?_)); try simp only [dat_pair, dat_int, dat_bool, dat_str, Prod.mk.injEq]; simp_all; done)
theorem szUp_spec (w : World) (t1 : T_Up) (left : Int) (hl : 0 ≤ left) (hm : left ≤ 1048576) (h1 : GT.rd w [] t1) (ho : Ok.ok (GT.dat t1)) : Spec Try.prog 152 [.agg (GT.cells t1).toArray, .int .i64 left].toArray w [] (IsV (.int .i64 (if (Bk.bulk t1 : Int) ≤ left then left - (Bk.bulk t1 : Int) else -1))) := by
  obtain ⟨a1, a2, a3⟩ := t1
  have hs0 : a1.size ≤ 9223372036854775807 := ho.1
  change Spec _ _ [Value.agg #[.string a1, a2.hdr, .int .i64 a3], .int .i64 left].toArray w [] _
  refine Spec.intro Try.func152 rfl Try.ntmps152 rfl ?_
  refine s2 ?_
  refine bx fun bk2 => ?_
  refine s6 ?_
  refine L_load rfl rfl (by first | exact RdC.blk mm) one9.h rfl ?_
  refine s1 ?_
  refine L_binV rfl rfl rfl (bv_subR (by unfold inR; omega)) ?_
  refine s8 ?_
  refine kp [1, 2, 11] ?_
  refine W_cond rfl (fun hc2 => ?_) (fun hc2 => ?_)
  · have hb0 : left - (a1.size : Int) < 0 := by simpa using hc2
    refine s5 ?_
    -- return 1 (R3)
    refine res1 rfl (ResOK.tmp rfl) ⟨?_, rfl⟩ ms
    try simp only [bulk_pair, bulk_int, bulk_bool, bulk_str, Int.natCast_add, Int.natCast_zero] at *
    all_goals first
      | rfl
      | (rw [if_pos (by omega)] <;> (congr 1 <;> omega))
      | (rw [if_neg (by omega)])
  · have hb0 : ¬ (left - (a1.size : Int) < 0) := by simpa using hc2
    refine s4 ?_
    refine L_load rfl rfl (by first | exact RdC.blk mm) one34.h rfl ?_
    refine s1 ?_
    refine L_callX rfl fn171.h rfl (by exact fun w hw => szIntS_spec w _ (left - (a1.size : Int)) (by omega) (by omega) (rd_carry (h1.2.1) hw) ho.2.1) ?_
    refine s8 ?_
    refine kp [1, 17] ?_
    refine W_cond rfl (fun hc5 => ?_) (fun hc5 => ?_)
    · have hb1 : ¬ ((Bk.bulk a2 : Int) ≤ left - (a1.size : Int)) := by
        intro hn
        rw [if_pos hn] at hc5; simp at hc5; omega
      refine s5 ?_
      -- return 2 (R6)
      refine res1 rfl (ResOK.tmp rfl) ⟨?_, rfl⟩ ms
      try simp only [bulk_pair, bulk_int, bulk_bool, bulk_str, Int.natCast_add, Int.natCast_zero] at *
      all_goals first
        | rfl
        | (rw [if_pos (by omega)] <;> (congr 1 <;> omega))
        | (rw [if_neg (by omega)])
    · have hb1 : (Bk.bulk a2 : Int) ≤ left - (a1.size : Int) := by
        rcases Int.decLt (left - (a1.size : Int)) (Bk.bulk a2 : Int) with hn | hn
        · omega
        · rw [if_neg (by omega)] at hc5; simp at hc5
      rw [if_pos hb1]
      refine s7 ?_
      -- return 3 (R7)
      refine res1 rfl (ResOK.tmp rfl) ⟨?_, rfl⟩ ms
      try simp only [bulk_pair, bulk_int, bulk_bool, bulk_str, Int.natCast_add, Int.natCast_zero] at *
      all_goals first
        | rfl
        | (rw [if_pos (by omega)] <;> (congr 1 <;> omega))
        | (rw [if_neg (by omega)])
theorem toUp_spec (w : World) (t1 : T_Up) (h1 : GT.rd w [] t1) (hb : Bk.bulk t1 ≤ 1048576) : Spec Try.prog 153 [.agg (GT.cells t1).toArray].toArray w [] (fun v M => ∃ t2 : T_Up, v = .agg (GT.cells t2).toArray ∧ GT.dat t2 = GT.dat t1 ∧ M = [treeH t2]) := by
  obtain ⟨a1, a2, a3⟩ := t1
  have hbk_1 : Bk.bulk a2 ≤ 1048576 := by (try simp only [bulk_pair, bulk_int, bulk_bool, bulk_str] at hb ⊢); omega
  change Spec _ _ [Value.agg #[.string a1, a2.hdr, .int .i64 a3]].toArray w [] _
  refine Spec.intro Try.func153 rfl Try.ntmps153 rfl ?_
  refine s2 ?_
  refine bx fun bk1 => ?_
  refine al fun bk2 => ?_
  refine s3 ?_
  refine al fun bk3 => ?_
  refine s4 ?_
  refine L_load rfl rfl (by first | exact RdC.blk mm) one9.h rfl ?_
  refine s6 ?_
  refine L_load rfl rfl (by first | exact RdC.blk mm) one34.h rfl ?_
  refine L_callR rfl fn172.h rfl (by exact fun w hw => toIntS_spec w _ (rd_carry (h1.2.1) hw) hbk_1) ?_
  rintro v M1 ⟨n2t, hv, hd1, rfl⟩
  subst hv
  simp only [List.cons_append, List.nil_append]
  refine s6 ?_
  refine L_load rfl rfl (by first | exact RdC.blk mm) one3.h rfl ?_
  refine s5 ?_
  refine L_loadW rfl rfl (by first | exact RdC.blk mm) (by exact agg129.h) ?_
  refine L_storeW rfl rfl pk (by exact agg129.h) (by rfl) (by first | (simp [Value.oneCell', TL.hdr]; done) | (simp [Value.oneCell', TL.hdr, Value.cells]; done) | exact fun v hv => GT.one _ v hv) ?_
  refine s1 ?_
  refine W_conv (M' := treeH ((a1, n2t, a3) : T_Up) :: _) (fun w h => (tree_snd (flat_str (h1.1)) (pairPick pk (h.addFlat (flat_int (h1.2.2)))))) ?_
  refine s1 ?_
  -- return 1 (R5)
  refine res1 rfl (ResOK.cell rfl mm (by exact agg129.h)) ⟨(a1, n2t, a3), rfl, by simp only [dat_pair, hd1], rfl⟩ ms
theorem eqUpS_spec (w : World) (t1 t2 : TL T_Up) (h1 : GT.rd w [] t1) (h2 : GT.rd w [] t2) : Spec Try.prog 117 [t1.hdr, t2.hdr].toArray w [] (IsV (.bool (eqB (GT.dat t1) (GT.dat t2)))) := by
  obtain ⟨a1, c1, e1, x1, y1⟩ := t1
  obtain ⟨a2, c2, e2, x2, y2⟩ := t2
  have hm1 : x1.length ≤ 9223372036854775807 := rd_len h1
  have hm2 : x2.length ≤ 9223372036854775807 := rd_len h2
  dsimp only [TL.hdr]
  refine Spec.intro Try.func117 rfl Try.ntmps117 rfl ?_
  refine s8 ?_
  refine L_lenS rfl rfl el69.h ?_
  refine s1 ?_
  refine L_lenS rfl rfl el69.h ?_
  refine s2 ?_
  refine kp [0, 1, 10] ?_
  refine W_cond rfl (fun hc1 => ?_) (fun hc1 => ?_)
  · refine s5 ?_
    -- return 1 (R2)
    refine res1 rfl (ResOK.tmp rfl) ⟨?_, rfl⟩ ms
    refine congrArg Value.bool (Eq.symm (eqB_false.2 fun e => ?_))
    simp at hc1
    exact hc1 (by have := congrArg List.length e; simp [dat_TL] at this; omega)
  · have hl : x1.length = x2.length := by simp at hc1; omega
    refine s7 ?_
    refine W_loopC (σ := Nat) 0 (fun (k : Nat) => [(5, .int .i64 (k : Int))]) (fun (k : Nat) => []) (fun (k : Nat) => k ≤ x1.length ∧ (x1.map GT.dat).take k = (x2.map GT.dat).take k) (fun (k : Nat) => x1.length - k) [(0, _), (1, _)] [] ?_ sb ms ?_
    · exact ⟨Nat.zero_le _, rfl⟩
    · rintro k ⟨hk, ht⟩
      refine kq [0, 1, 5] ?_
      refine s5 ?_
      refine L_lenS rfl rfl el69.h ?_
      refine s2 ?_
      refine kp [0, 1, 5, 14] ?_
      refine W_cond rfl (fun hc4 => ?_) (fun hc4 => ?_)
      · have hk1 : k < x1.length := by simpa using hc4
        obtain ⟨g1, o1, rfl⟩ := rd_addr h1 hk1
        obtain ⟨g2, o2, rfl⟩ := rd_addr (k := k) h2 (show k < x2.length by omega)
        obtain ⟨u1, hu1⟩ := getEl hk1
        obtain ⟨u2, hu2⟩ := getEl (show k < x2.length by omega)
        refine s4 ?_
        refine W_D0 [26] mix (by kernel_rfl) rfl ?_
        refine s2 ?_
        refine D_indexAddr _ GC.none (OpV.t rfl) (OpV.t rfl) el69.h (fun hg => ⟨rfl, by (try dsimp only); omega⟩) ?_
        refine D_loadW GC.none (OpV.t rfl) (fun hg => (by first | exact RdC.blk mm | exact RdC.old (Cells.el h1 rfl hu1) | exact RdC.old (Cells.el h2 rfl hu2))) (by exact agg129.h) ?_
        refine s2 ?_
        refine D_indexAddr _ GC.none (OpV.t rfl) (OpV.t rfl) el69.h (fun hg => ⟨rfl, by (try dsimp only); omega⟩) ?_
        refine D_loadW GC.none (OpV.t rfl) (fun hg => (by first | exact RdC.blk mm | exact RdC.old (Cells.el h1 rfl hu1) | exact RdC.old (Cells.el h2 rfl hu2))) (by exact agg129.h) ?_
        refine D_callX GC.none fn154.h (OpVs.cons (OpV.t rfl) (OpVs.cons (OpV.t rfl) (OpVs.nil))) (by exact fun hg w F hF hM => (fun w hw => eqUp_spec w _ _ (rd_carry (h1.2.2.1 _ (List.mem_of_getElem? hu1)) hw) (rd_carry (h2.2.2.1 _ (List.mem_of_getElem? hu2)) hw)) w hF) ?_
        refine s13 ?_
        refine kp [0, 1, 5, 26] ?_
        refine W_cond rfl (fun hc6 => ?_) (fun hc6 => ?_)
        · refine s5 ?_
          -- return 2 (R7)
          refine res1 rfl (ResOK.tmp rfl) ⟨?_, rfl⟩ ms
          refine congrArg Value.bool (Eq.symm (eqB_false.2 fun e => ?_))
          simp at hc6
          replace e : x1.map GT.dat = x2.map GT.dat := e
          have e2 := congrArg (fun l => l[k]?) e
          simp only [List.getElem?_map, hu1, hu2, Option.map_some, Option.some.injEq] at e2
          exact hc6 (by simpa [dat_int, dat_str, dat_bool] using e2)
        · refine s3 ?_
          refine L_binV rfl rfl rfl (bv_addR (by unfold inR; omega)) ?_
          refine s2 ?_
          refine ⟨k + 1, sb, ms, ?_, ?_⟩
          · exact ⟨by omega, take_succ_eq ht (by rw [List.getElem?_map, hu1]; rfl) (by rw [List.getElem?_map, hu2]; rfl) (by simpa [dat_int, dat_str, dat_bool] using hc6)⟩
          · (try dsimp only); omega
      · refine W_exit ?_
        refine s5 ?_
        -- return 3 (R8)
        refine res1 rfl (ResOK.tmp rfl) ⟨?_, rfl⟩ ms
        refine congrArg Value.bool (Eq.symm (eqB_true.2 ?_))
        have hk2 : x1.length ≤ k := by simpa using hc4
        have h3 := ht
        rw [List.take_of_length_le (by simp; omega), List.take_of_length_le (by simp; omega)] at h3
        exact h3
theorem szUpS_spec (w : World) (t1 : TL T_Up) (left : Int) (hl : 0 ≤ left) (hm : left ≤ 1048576) (h1 : GT.rd w [] t1) (ho : Ok.ok (GT.dat t1)) : Spec Try.prog 115 [t1.hdr, .int .i64 left].toArray w [] (IsV (.int .i64 (if (Bk.bulk t1 : Int) ≤ left then left - (Bk.bulk t1 : Int) else -1))) := by
  obtain ⟨a1, c1, e1, x1, y1⟩ := t1
  have hm1 : x1.length ≤ 9223372036854775807 := rd_len h1
  rw [bulk_TL]
  dsimp only [TL.hdr]
  refine Spec.intro Try.func115 rfl Try.ntmps115 rfl ?_
  refine s8 ?_
  refine L_lenS rfl rfl el84.h ?_
  refine L_binV rfl rfl rfl (bv_subR (by unfold inR; omega)) ?_
  refine s8 ?_
  refine kp [0, 1, 11] ?_
  refine W_cond rfl (fun hc2 => ?_) (fun hc2 => ?_)
  · have hb0 : left - (x1.length : Int) < 0 := by simpa using hc2
    refine s5 ?_
    -- return 1 (R3)
    refine res1 rfl (ResOK.tmp rfl) ⟨?_, rfl⟩ ms
    first
      | (rw [if_neg (by simp only [Int.natCast_add]; omega)]; done)
      | (rw [if_neg (by have := bulks_take_le x1 (k + 1); simp only [Int.natCast_add]; omega)]; done)
      | (have hk2 : x1.length ≤ k := by simpa using hc5
         rw [List.take_of_length_le hk2] at ht ⊢
         rw [if_pos (by simp only [Int.natCast_add]; omega)]; congr 1; simp only [Int.natCast_add]; omega)
  · have hb0 : ¬ (left - (x1.length : Int) < 0) := by simpa using hc2
    refine s7 ?_
    have h0 : left - (x1.length : Int) = left - (x1.length : Int) - (bulks (x1.take 0) : Int) := by simp [bulks]
    rw [h0]
    refine W_loopC (σ := Nat) 0 (fun (k : Nat) => [(1, .int .i64 (left - (x1.length : Int) - (bulks (x1.take k) : Int))), (5, .int .i64 (k : Int))]) (fun (k : Nat) => []) (fun (k : Nat) => k ≤ x1.length ∧ 0 ≤ (left - (x1.length : Int) - (bulks (x1.take k) : Int))) (fun (k : Nat) => x1.length - k) [(0, _)] [] ?_ sb ms ?_
    · exact ⟨Nat.zero_le _, by simp [bulks]; omega⟩
    · rintro k ⟨hk, ht⟩
      refine kq [0, 1, 5] ?_
      refine s5 ?_
      refine L_lenS rfl rfl el84.h ?_
      refine s2 ?_
      refine kp [0, 1, 5, 15] ?_
      refine W_cond rfl (fun hc5 => ?_) (fun hc5 => ?_)
      · have hk1 : k < x1.length := by simpa using hc5
        obtain ⟨g1, o1, rfl⟩ := rd_addr h1 hk1
        obtain ⟨u1, hu1⟩ := getEl hk1
        have hbs := bulks_take_succ hu1
        have hble := bulks_take_le x1 (k + 1)
        refine s7 ?_
        refine L_indexAddr rfl rfl rfl el84.h rfl (by omega) ?_
        refine L_loadW rfl rfl (by first | exact RdC.blk mm | exact RdC.old (Cells.el h1 rfl hu1)) (by exact agg169.h) ?_
        refine s1 ?_
        refine L_callX rfl fn152.h rfl (by exact fun w hw => szUp_spec w _ _ (by omega) (by omega) (rd_carry (h1.2.2.1 _ (List.mem_of_getElem? hu1)) hw) (ho.2 _ (List.mem_map.2 ⟨u1, List.mem_of_getElem? hu1, rfl⟩))) ?_
        refine s7 ?_
        refine kp [0, 1, 5, 25] ?_
        refine W_cond rfl (fun hc8 => ?_) (fun hc8 => ?_)
        · have hb1 : ¬ ((Bk.bulk u1 : Int) ≤ (left - (x1.length : Int) - (bulks (x1.take k) : Int))) := by
            intro hn
            rw [if_pos hn] at hc8; simp at hc8; omega
          refine s5 ?_
          -- return 2 (R9)
          refine res1 rfl (ResOK.tmp rfl) ⟨?_, rfl⟩ ms
          first
            | (rw [if_neg (by simp only [Int.natCast_add]; omega)]; done)
            | (rw [if_neg (by have := bulks_take_le x1 (k + 1); simp only [Int.natCast_add]; omega)]; done)
            | (have hk2 : x1.length ≤ k := by simpa using hc5
               rw [List.take_of_length_le hk2] at ht ⊢
               rw [if_pos (by simp only [Int.natCast_add]; omega)]; congr 1; simp only [Int.natCast_add]; omega)
        · have hb1 : (Bk.bulk u1 : Int) ≤ (left - (x1.length : Int) - (bulks (x1.take k) : Int)) := by
            rcases Int.decLt (left - (x1.length : Int) - (bulks (x1.take k) : Int)) (Bk.bulk u1 : Int) with hn | hn
            · omega
            · rw [if_neg (by omega)] at hc8; simp at hc8
          rw [if_pos hb1]
          have hnx : (left - (x1.length : Int) - (bulks (x1.take k) : Int)) - (Bk.bulk u1 : Int) = left - (x1.length : Int) - (bulks (x1.take (k + 1)) : Int) := by rw [hbs]; omega
          rw [hnx]
          refine s3 ?_
          refine L_binV rfl rfl rfl (bv_addR (by unfold inR; omega)) ?_
          refine s2 ?_
          refine ⟨k + 1, sb, ms, ?_, ?_⟩
          · exact ⟨by omega, by omega⟩
          · (try dsimp only); omega
      · refine W_exit ?_
        refine s6 ?_
        -- return 3 (R10)
        refine res1 rfl (ResOK.tmp rfl) ⟨?_, rfl⟩ ms
        first
          | (rw [if_neg (by simp only [Int.natCast_add]; omega)]; done)
          | (rw [if_neg (by have := bulks_take_le x1 (k + 1); simp only [Int.natCast_add]; omega)]; done)
          | (have hk2 : x1.length ≤ k := by simpa using hc5
             rw [List.take_of_length_le hk2] at ht ⊢
             rw [if_pos (by simp only [Int.natCast_add]; omega)]; congr 1; simp only [Int.natCast_add]; omega)
theorem toUpS_spec (w : World) (t1 : TL T_Up) (h1 : GT.rd w [] t1) (hb : Bk.bulk t1 ≤ 1048576) : Spec Try.prog 116 [t1.hdr].toArray w [] (fun v M => ∃ t2 : TL T_Up, v = t2.hdr ∧ GT.dat t2 = GT.dat t1 ∧ M = [treeH t2]) := by
  obtain ⟨a1, c1, e1, x1, y1⟩ := t1
  rw [bulk_TL] at hb
  dsimp only [TL.hdr]
  refine Spec.intro Try.func116 rfl Try.ntmps116 rfl ?_
  refine s7 ?_
  refine L_lenS rfl rfl el84.h ?_
  refine L_make (τ := T_Up) (ByteArray.empty, (TL.nil Int 0), (0 : Int)) rfl rfl rfl el69.h rfl rfl (flat_pair (flat_str trivial) (flat_pair (flat_nil 0) (flat_int trivial))) (by omega) (by unfold maxLen; omega) (fun g => ?_)
  refine s8 ?_
  refine W_loopC (σ := Nat × List T_Up) (0, List.replicate x1.length (ByteArray.empty, (TL.nil Int 0), (0 : Int))) (fun (p : Nat × List T_Up) => [(4, .int .i64 (p.1 : Int))]) (fun (p : Nat × List T_Up) => [treeH (⟨some ⟨g, 0, none⟩, x1.length, 129, p.2, []⟩ : TL T_Up)]) (fun (p : Nat × List T_Up) => p.1 ≤ x1.length ∧ p.2.length = x1.length ∧ (p.2.take p.1).map GT.dat = (x1.take p.1).map GT.dat) (fun (p : Nat × List T_Up) => x1.length - p.1) [(0, _), (3, _)] [] ?_ sb ms ?_
  · exact ⟨Nat.zero_le _, by simp, by simp⟩
  · rintro ⟨k, cur⟩ ⟨hk, hlen, hdat⟩
    dsimp only at hk hlen hdat
    refine kq [0, 3, 4] ?_
    refine s5 ?_
    refine L_lenS rfl rfl el84.h ?_
    refine s2 ?_
    refine kp [0, 3, 4, 11] ?_
    refine W_cond rfl (fun hc3 => ?_) (fun hc3 => ?_)
    · have hk1 : k < x1.length := by simpa using hc3
      obtain ⟨g1, o1, rfl⟩ := rd_addr h1 hk1
      obtain ⟨u1, hu1⟩ := getEl hk1
      have hub : Bk.bulk u1 ≤ 1048576 := by have := bulk_mem (List.mem_of_getElem? hu1); omega
      refine s8 ?_
      refine L_indexAddr rfl rfl rfl el84.h rfl (by omega) ?_
      refine L_loadW rfl rfl (by first | exact RdC.blk mm | exact RdC.old (Cells.el h1 rfl hu1)) (by exact agg169.h) ?_
      refine L_callR rfl fn153.h rfl (by exact fun w hw => toUp_spec w _ (rd_carry (h1.2.2.1 _ (List.mem_of_getElem? hu1)) hw) hub) ?_
      rintro v M1 ⟨u2, hv, hd, rfl⟩
      subst hv
      simp only [List.cons_append, List.nil_append]
      refine L_indexAddr rfl rfl rfl el69.h rfl (by omega) ?_
      obtain ⟨u0, hu0⟩ := getEl (show k < cur.length by omega)
      refine L_storeEl u2 rfl rfl pk rfl hu0 rfl pk (.inl agg129.h) ?_
      refine s3 ?_
      refine L_binV rfl rfl rfl (bv_addR (by unfold inR; omega)) ?_
      refine s2 ?_
      refine ⟨(k + 1, cur.set k u2), sb, ms, ?_, ?_⟩
      · exact ⟨by dsimp only; omega, by simpa using hlen, map_take_set GT.dat GT.dat hdat (by omega) hu1 hd⟩
      · dsimp only; omega
    · refine W_exit ?_
      refine s6 ?_
      -- return 1 (R6)
      refine res1 rfl (ResOK.tmp rfl) ⟨⟨some ⟨g, 0, none⟩, x1.length, 129, cur, []⟩, ?_, ?_, rfl⟩ ms
      · show _ = Value.slice _ cur.length _
        rw [hlen]
      · have hk2 : x1.length ≤ k := by simpa using hc3
        rw [List.take_of_length_le (by omega), List.take_of_length_le (by omega)] at hdat
        exact hdat
theorem eqUps_spec (w : World) (t1 t2 : T_Ups) (h1 : GT.rd w [] t1) (h2 : GT.rd w [] t2) : Spec Try.prog 55 [.agg (GT.cells t1).toArray, .agg (GT.cells t2).toArray].toArray w [] (IsV (.bool (eqB (GT.dat t1) (GT.dat t2)))) := by
  obtain ⟨a1, a2⟩ := t1
  obtain ⟨b1, b2⟩ := t2
  change Spec _ _ [Value.agg #[.int .i64 a1, a2.hdr], Value.agg #[.int .i64 b1, b2.hdr]].toArray w [] _
  refine Spec.intro Try.func55 rfl Try.ntmps55 rfl ?_
  refine s2 ?_
  refine bx fun bk2 => ?_
  refine bx fun bk3 => ?_
  refine s6 ?_
  refine L_load rfl rfl (by first | exact RdC.blk mm) one3.h rfl ?_
  refine s1 ?_
  refine L_load rfl rfl (by first | exact RdC.blk mm) one3.h rfl ?_
  refine s2 ?_
  refine kp [2, 3, 9] ?_
  refine W_cond rfl (fun hc1 => ?_) (fun hc1 => ?_)
  · refine s5 ?_
    -- return 1 (R2)
    refine res1 rfl (ResOK.tmp rfl) ⟨?_, rfl⟩ ms
    clear h1 h2
    first
      | (refine congrArg Value.bool (Eq.symm (eqB_false.2 fun e => ?_)); try simp only [dat_pair, dat_int, dat_bool, dat_str, Prod.mk.injEq] at e; simp_all; done)
      | (refine congrArg Value.bool (Eq.symm (eqB_true.2 ?_)); try simp only [dat_pair, dat_int, dat_bool, dat_str, Prod.mk.injEq]; simp_all; done)
  · refine s5 ?_
    refine L_load rfl rfl (by first | exact RdC.blk mm) one69.h rfl ?_
    refine s1 ?_
    refine L_load rfl rfl (by first | exact RdC.blk mm) one69.h rfl ?_
    refine L_callX rfl fn117.h rfl (by exact fun w hw => eqUpS_spec w _ _ (rd_carry (h1.2) hw) (rd_carry (h2.2) hw)) ?_
    refine s2 ?_
    refine kp [15] ?_
    refine W_cond rfl (fun hc3 => ?_) (fun hc3 => ?_)
    · refine s5 ?_
      -- return 2 (R4)
      refine res1 rfl (ResOK.tmp rfl) ⟨?_, rfl⟩ ms
      clear h1 h2
      first
        | (refine congrArg Value.bool (Eq.symm (eqB_false.2 fun e => ?_)); try simp only [dat_pair, dat_int, dat_bool, dat_str, Prod.mk.injEq] at e; simp_all; done)
        | (refine congrArg Value.bool (Eq.symm (eqB_true.2 ?_)); try simp only [dat_pair, dat_int, dat_bool, dat_str, Prod.mk.injEq]; simp_all; done)
    · refine s6 ?_
      -- return 3 (R5)
      refine res1 rfl (ResOK.tmp rfl) ⟨?_, rfl⟩ ms
      clear h1 h2
      first
        | (refine congrArg Value.bool (Eq.symm (eqB_false.2 fun e => ?_)); try simp only [dat_pair, dat_int, dat_bool, dat_str, Prod.mk.injEq] at e; simp_all; done)
        | (refine congrArg Value.bool (Eq.symm (eqB_true.2 ?_)); try simp only [dat_pair, dat_int, dat_bool, dat_str, Prod.mk.injEq]; simp_all; done)
theorem szUps_spec (w : World) (t1 : T_Ups) (left : Int) (hl : 0 ≤ left) (hm : left ≤ 1048576) (h1 : GT.rd w [] t1) (ho : Ok.ok (GT.dat t1)) : Spec Try.prog 53 [.agg (GT.cells t1).toArray, .int .i64 left].toArray w [] (IsV (.int .i64 (if (Bk.bulk t1 : Int) ≤ left then left - (Bk.bulk t1 : Int) else -1))) := by
  obtain ⟨a1, a2⟩ := t1
  change Spec _ _ [Value.agg #[.int .i64 a1, a2.hdr], .int .i64 left].toArray w [] _
  refine Spec.intro Try.func53 rfl Try.ntmps53 rfl ?_
  refine s2 ?_
  refine bx fun bk2 => ?_
  refine s5 ?_
  refine L_load rfl rfl (by first | exact RdC.blk mm) one84.h rfl ?_
  refine s1 ?_
  refine L_callX rfl fn115.h rfl (by exact fun w hw => szUpS_spec w _ (left) (by omega) (by omega) (rd_carry (h1.2) hw) ho.2) ?_
  refine s8 ?_
  refine kp [1, 10] ?_
  refine W_cond rfl (fun hc2 => ?_) (fun hc2 => ?_)
  · have hb1 : ¬ ((Bk.bulk a2 : Int) ≤ left) := by
      intro hn
      rw [if_pos hn] at hc2; simp at hc2; omega
    refine s5 ?_
    -- return 1 (R3)
    refine res1 rfl (ResOK.tmp rfl) ⟨?_, rfl⟩ ms
    try simp only [bulk_pair, bulk_int, bulk_bool, bulk_str, Int.natCast_add, Int.natCast_zero] at *
    all_goals first
      | rfl
      | (rw [if_pos (by omega)] <;> (congr 1 <;> omega))
      | (rw [if_neg (by omega)])
  · have hb1 : (Bk.bulk a2 : Int) ≤ left := by
      rcases Int.decLt (left) (Bk.bulk a2 : Int) with hn | hn
      · omega
      · rw [if_neg (by omega)] at hc2; simp at hc2
    rw [if_pos hb1]
    refine s7 ?_
    -- return 2 (R4)
    refine res1 rfl (ResOK.tmp rfl) ⟨?_, rfl⟩ ms
    try simp only [bulk_pair, bulk_int, bulk_bool, bulk_str, Int.natCast_add, Int.natCast_zero] at *
    all_goals first
      | rfl
      | (rw [if_pos (by omega)] <;> (congr 1 <;> omega))
      | (rw [if_neg (by omega)])
theorem toUps_spec (w : World) (t1 : T_Ups) (h1 : GT.rd w [] t1) (hb : Bk.bulk t1 ≤ 1048576) : Spec Try.prog 54 [.agg (GT.cells t1).toArray].toArray w [] (fun v M => ∃ t2 : T_Ups, v = .agg (GT.cells t2).toArray ∧ GT.dat t2 = GT.dat t1 ∧ M = [treeH t2]) := by
  obtain ⟨a1, a2⟩ := t1
  have hbk_1 : Bk.bulk a2 ≤ 1048576 := by (try simp only [bulk_pair, bulk_int, bulk_bool, bulk_str] at hb ⊢); omega
  change Spec _ _ [Value.agg #[.int .i64 a1, a2.hdr]].toArray w [] _
  refine Spec.intro Try.func54 rfl Try.ntmps54 rfl ?_
  refine s2 ?_
  refine bx fun bk1 => ?_
  refine al fun bk2 => ?_
  refine s3 ?_
  refine al fun bk3 => ?_
  refine s4 ?_
  refine L_load rfl rfl (by first | exact RdC.blk mm) one3.h rfl ?_
  refine s6 ?_
  refine L_load rfl rfl (by first | exact RdC.blk mm) one84.h rfl ?_
  refine L_callR rfl fn116.h rfl (by exact fun w hw => toUpS_spec w _ (rd_carry (h1.2) hw) hbk_1) ?_
  rintro v M1 ⟨n2t, hv, hd1, rfl⟩
  subst hv
  simp only [List.cons_append, List.nil_append]
  refine s5 ?_
  refine L_loadW rfl rfl (by first | exact RdC.blk mm) (by exact agg71.h) ?_
  refine L_storeW rfl rfl pk (by exact agg71.h) (by rfl) (by first | (simp [Value.oneCell', TL.hdr]; done) | (simp [Value.oneCell', TL.hdr, Value.cells]; done) | exact fun v hv => GT.one _ v hv) ?_
  refine s1 ?_
  refine W_conv (M' := treeH ((a1, n2t) : T_Ups) :: _) (fun w h => (tree_snd (flat_int (h1.1)) (frontPick pk h))) ?_
  refine s1 ?_
  -- return 1 (R4)
  refine res1 rfl (ResOK.cell rfl mm (by exact agg71.h)) ⟨(a1, n2t), rfl, by simp only [dat_pair, hd1], rfl⟩ ms
theorem markUpS_spec (w : World) (t1 : TL T_Up) (k0 : Nat) (hk0 : 0 < k0) (hb : k0 + Mk.cnt t1 < 9223372036854775807) : Spec Try.prog 118 [t1.hdr, .int .i64 (k0 : Int)].toArray w [treeH t1] (fun v M => v = .int .i64 ((k0 + Mk.cnt t1 : Nat) : Int) ∧ M = [treeH (Mk.mkd k0 t1)]) := by
  obtain ⟨a1, c1, e1, x1, y1⟩ := t1
  replace hb : k0 + cnts x1 < 9223372036854775807 := hb
  dsimp only [TL.hdr]
  refine Spec.intro Try.func118 rfl Try.ntmps118 rfl ?_
  refine W_fact (fun w h => ow_facts (h.prs _ (List.mem_cons_self ..))) fun hF => ?_
  replace hF : x1.length ≤ 9223372036854775807 ∧ (0 < x1.length → ∃ g, a1 = some ⟨g, 0, none⟩) := hF
  refine s10 ?_
  refine W_conv (M' := [treeH (⟨a1, c1, e1, half k0 0 x1, y1⟩ : TL T_Up)]) (fun w h => by rw [half_zero]; exact h) ?_
  refine W_loopC (σ := Nat) 0 (fun (i : Nat) => [(1, .int .i64 ((k0 + cnts (x1.take i) : Nat) : Int)), (5, .int .i64 (i : Int))]) (fun (i : Nat) => [treeH (⟨a1, c1, e1, half k0 i x1, y1⟩ : TL T_Up)]) (fun (i : Nat) => i ≤ x1.length) (fun (i : Nat) => x1.length - i) [(0, _)] [] ?_ sb ms ?_
  · exact Nat.zero_le _
  · rintro i hi
    refine kq [0, 1, 5] ?_
    refine s5 ?_
    refine L_lenS rfl rfl el69.h ?_
    refine s2 ?_
    refine kp [0, 1, 5, 9] ?_
    refine W_cond rfl (fun hc2 => ?_) (fun hc2 => ?_)
    · have hk1 : i < x1.length := by simpa using hc2
      obtain ⟨g, rfl⟩ := hF.2 (by omega)
      obtain ⟨u, hu⟩ := getEl hk1
      have hs := cnts_take_succ hu
      have hle := cnts_take_le x1 (i + 1)
      have hlh := half_length k0 i x1
      obtain ⟨b1, b2, b3⟩ := u
      simp only [cnt_pair, cnt_int, cnt_str] at hs
      refine s8 ?_
      refine L_callX rfl fn155.h rfl (by exact fun w hw => markText_spec w (k0 + cnts (x1.take i)) (by omega) (by omega)) ?_
      refine L_indexAddr rfl rfl rfl el69.h rfl (by omega) ?_
      refine s1 ?_
      refine L_storeElF (fo := 0) (x' := (((mtx (k0 + cnts (x1.take i))), b2, b3) : T_Up)) rfl rfl pk rfl (show ((half k0 i x1) : List T_Up)[i]? = some ((b1, b2, b3) : T_Up) from half_get (k := k0) hu) rfl rfl (by decide) rfl (fun w h => by exact ⟨(by exact trivial), h.2.1, h.2.2⟩) one9.h ?_
      refine s4 ?_
      refine L_binV rfl rfl rfl (bv_addR (by unfold inR; omega)) ?_
      refine s2 ?_
      rw [show (((k0 + cnts (x1.take i)) : Nat) : Int) + 1 = (((k0 + cnts (x1.take i)) + 1 : Nat) : Int) from rfl]
      refine s4 ?_
      refine L_indexAddr rfl rfl rfl el69.h rfl (by omega) ?_
      refine s1 ?_
      refine L_load rfl rfl (by exact RdC.el (L := (⟨some ⟨g, 0, none⟩, c1, e1, ((half k0 i x1).set i (((mtx (k0 + cnts (x1.take i))), b2, b3) : T_Up)), y1⟩ : TL T_Up)) mm rfl (show (((half k0 i x1).set i (((mtx (k0 + cnts (x1.take i))), b2, b3) : T_Up)) : List T_Up)[i]? = some (((mtx (k0 + cnts (x1.take i))), b2, b3) : T_Up) from set_get (half_get (k := k0) hu))) one34.h rfl ?_
      refine s1 ?_
      refine L_conv (fun w h => (tree_pair (frontPick (Pick.there _ (Pick.here _)) (tree_pair (el_out (L := (⟨some ⟨g, 0, none⟩, c1, e1, ((half k0 i x1).set i (((mtx (k0 + cnts (x1.take i))), b2, b3) : T_Up)), y1⟩ : TL T_Up)) (show (((half k0 i x1).set i (((mtx (k0 + cnts (x1.take i))), b2, b3) : T_Up)) : List T_Up)[i]? = some (((mtx (k0 + cnts (x1.take i))), b2, b3) : T_Up) from set_get (half_get (k := k0) hu)) (frontPick pk h)))))) ?_
      refine L_call1 rfl fn156.h rfl (Pick.here _) (by exact fun w hw => markIntS_spec w b2 ((k0 + cnts (x1.take i)) + 1) (by omega) (by omega)) ?_
      rintro v M1 ⟨hv, rfl⟩
      subst hv
      simp only [List.cons_append, List.nil_append]
      refine L_conv (M' := treeH (⟨some ⟨g, 0, none⟩, c1, e1, (((half k0 i x1).set i (((mtx (k0 + cnts (x1.take i))), b2, b3) : T_Up)).set i (((mtx (k0 + cnts (x1.take i))), (Mk.mkd ((k0 + cnts (x1.take i)) + 1) b2), b3) : T_Up)), y1⟩ : TL T_Up) :: _) (fun w h => el_in (L := (⟨some ⟨g, 0, none⟩, c1, e1, ((half k0 i x1).set i (((mtx (k0 + cnts (x1.take i))), b2, b3) : T_Up)), y1⟩ : TL T_Up)) (show (((half k0 i x1).set i (((mtx (k0 + cnts (x1.take i))), b2, b3) : T_Up)) : List T_Up)[i]? = some (((mtx (k0 + cnts (x1.take i))), b2, b3) : T_Up) from set_get (half_get (k := k0) hu)) (by simp only [cells_pair, cells_mkTL]) (pairPick (Pick.here _) (pairFront (Pick.here _) h))) ?_
      refine s7 ?_
      refine L_indexAddr rfl rfl rfl el69.h rfl (by omega) ?_
      refine s1 ?_
      refine L_storeElF (fo := 2) (x' := (((mtx (k0 + cnts (x1.take i))), (Mk.mkd ((k0 + cnts (x1.take i)) + 1) b2), (((((k0 + cnts (x1.take i)) + 1) + Mk.cnt b2) : Nat) : Int)) : T_Up)) rfl rfl pk rfl (show ((((half k0 i x1).set i (((mtx (k0 + cnts (x1.take i))), b2, b3) : T_Up)).set i (((mtx (k0 + cnts (x1.take i))), (Mk.mkd ((k0 + cnts (x1.take i)) + 1) b2), b3) : T_Up)) : List T_Up)[i]? = some (((mtx (k0 + cnts (x1.take i))), (Mk.mkd ((k0 + cnts (x1.take i)) + 1) b2), b3) : T_Up) from set_get (set_get (half_get (k := k0) hu))) rfl rfl (by decide) rfl (fun w h => by exact ⟨h.1, h.2.1, (by exact trivial)⟩) one3.h ?_
      refine s3 ?_
      refine L_binV rfl rfl rfl (bv_addR (by unfold inR; omega)) ?_
      refine s2 ?_
      rw [show (((((k0 + cnts (x1.take i)) + 1) + Mk.cnt b2) : Nat) : Int) + 1 = (((((k0 + cnts (x1.take i)) + 1) + Mk.cnt b2) + 1 : Nat) : Int) from rfl]
      have hfin : ((((half k0 i x1).set i (((mtx (k0 + cnts (x1.take i))), b2, b3) : T_Up)).set i (((mtx (k0 + cnts (x1.take i))), (Mk.mkd ((k0 + cnts (x1.take i)) + 1) b2), b3) : T_Up)).set i (((mtx (k0 + cnts (x1.take i))), (Mk.mkd ((k0 + cnts (x1.take i)) + 1) b2), (((((k0 + cnts (x1.take i)) + 1) + Mk.cnt b2) : Nat) : Int)) : T_Up)) = half k0 (i + 1) x1 := by
        have h9 := half_set (k := k0) hu
        try simp only [mk_pair, mk_int, mk_str, cnt_pair, cnt_int, cnt_str, ← Nat.add_assoc] at h9
        try simp only [List.set_set]
        exact h9
      refine W_conv (M' := treeH (⟨some ⟨g, 0, none⟩, c1, e1, (half k0 (i + 1) x1), y1⟩ : TL T_Up) :: _) (fun w h => by rw [← hfin]; exact h) ?_
      have hE : ((((k0 + cnts (x1.take i)) + 1) + Mk.cnt b2) + 1) = k0 + cnts (x1.take (i + 1)) := by rw [hs]; (try simp only [cnt_pair, cnt_int, cnt_str]); omega
      rw [hE]
      refine s2 ?_
      refine L_binV rfl rfl rfl (bv_addR (by unfold inR; omega)) ?_
      refine s2 ?_
      refine ⟨i + 1, sb, ms, ?_, ?_⟩
      · show i + 1 ≤ x1.length
        omega
      · show x1.length - (i + 1) < x1.length - i
        omega
    · refine W_exit ?_
      refine s6 ?_
      -- return 1 (R9)
      have hk2 : x1.length ≤ i := by simpa using hc2
      rw [half_all k0 hk2]
      refine res1 rfl (ResOK.tmp rfl) ⟨?_, rfl⟩ ms
      have hk2 : x1.length ≤ i := by simpa using hc2
      rw [List.take_of_length_le hk2]; rfl
theorem heldUpS_spec (w : World) (t1 : TL T_Up) (k0 : Nat) (hk0 : 0 < k0) (hb : k0 + Mk.cnt t1 < 9223372036854775807) (h1 : GT.rd w [] (Mk.mkd k0 t1)) : Spec Try.prog 119 [(Mk.mkd k0 t1).hdr, .int .i64 (k0 : Int)].toArray w [] (IsV (.int .i64 ((k0 + Mk.cnt t1 : Nat) : Int))) := by
  obtain ⟨a1, c1, e1, x1, y1⟩ := t1
  replace hb : k0 + cnts x1 < 9223372036854775807 := hb
  have hml := mks_length x1 k0
  have hm1 : (mks k0 x1).length ≤ 9223372036854775807 := rd_len h1
  rw [mk_TL] at h1 ⊢
  dsimp only [TL.hdr]
  refine Spec.intro Try.func119 rfl Try.ntmps119 rfl ?_
  refine s10 ?_
  refine W_loopC (σ := Nat) 0 (fun (i : Nat) => [(1, .int .i64 ((k0 + cnts (x1.take i) : Nat) : Int)), (5, .int .i64 (i : Int))]) (fun (i : Nat) => []) (fun (i : Nat) => i ≤ x1.length) (fun (i : Nat) => x1.length - i) [(0, _)] [] ?_ sb ms ?_
  · exact Nat.zero_le _
  · rintro i hi
    refine kq [0, 1, 5] ?_
    refine s5 ?_
    refine L_lenS rfl rfl el69.h ?_
    refine s2 ?_
    refine kp [0, 1, 5, 9] ?_
    refine W_cond rfl (fun hc2 => ?_) (fun hc2 => ?_)
    · have hk1 : i < (mks k0 x1).length := by simpa using hc2
      obtain ⟨g, o1, rfl⟩ := rd_addr h1 hk1
      obtain ⟨u, hu⟩ := getEl (show i < x1.length by omega)
      have hs := cnts_take_succ hu
      have hle := cnts_take_le x1 (i + 1)
      have hu2 := mks_get (k := k0) hu
      obtain ⟨b1, b2, b3⟩ := u
      simp only [mk_pair, mk_int, mk_str, cnt_pair, cnt_int, cnt_str, ← Nat.add_assoc] at hs hu2
      refine s5 ?_
      refine W_D0 [19] mix (by kernel_rfl) rfl ?_
      refine s2 ?_
      refine D_indexAddr _ GC.none (OpV.t rfl) (OpV.t rfl) el69.h (fun hg => ⟨rfl, by (try dsimp only); omega⟩) ?_
      refine s1 ?_
      refine D_load GC.none (OpV.t rfl) (fun hg => (by first | exact RdC.blk mm | exact RdC.old (Cells.el h1 rfl hu2))) one9.h rfl ?_
      refine s1 ?_
      refine D_callX GC.none fn155.h (OpVs.cons (OpV.t rfl) (OpVs.nil)) (by exact fun hg w F hF hM => (fun w hw => markText_spec w (k0 + cnts (x1.take i)) (by omega) (by omega)) w hF) ?_
      refine s11 ?_
      refine kp [0, 1, 5, 19] ?_
      refine W_cond rfl (fun hc4 => ?_) (fun hc4 => ?_)
      · refine s5 ?_
        -- return 1 (R5)
        refine res1 rfl (ResOK.tmp rfl) ⟨?_, rfl⟩ ms
        exfalso; simp [mk_int, mk_str] at hc4
      · refine s4 ?_
        refine L_binV rfl rfl rfl (bv_addR (by unfold inR; omega)) ?_
        refine s2 ?_
        rw [show (((k0 + cnts (x1.take i)) : Nat) : Int) + 1 = (((k0 + cnts (x1.take i)) + 1 : Nat) : Int) from rfl]
        refine s4 ?_
        refine L_indexAddr rfl rfl rfl el69.h rfl (by omega) ?_
        refine s1 ?_
        refine L_load rfl rfl (by first | exact RdC.blk mm | exact RdC.old (Cells.el h1 rfl hu2)) one34.h rfl ?_
        refine s1 ?_
        refine L_callX rfl fn157.h rfl (by exact fun w hw => heldIntS_spec w b2 ((k0 + cnts (x1.take i)) + 1) (by omega) (by omega) (rd_carry (show GT.rd _ _ (Mk.mkd ((k0 + cnts (x1.take i)) + 1) b2) from by have h9 := h1.2.2.1 _ (List.mem_of_getElem? hu2); (try simp only [mk_pair, mk_int, mk_str, cnt_pair, cnt_int, cnt_str, ← Nat.add_assoc] at h9); exact h9.2.1) hw)) ?_
        refine s8 ?_
        refine kp [0, 1, 5, 30] ?_
        refine W_cond rfl (fun hc8 => ?_) (fun hc8 => ?_)
        · refine s5 ?_
          -- return 2 (R9)
          refine res1 rfl (ResOK.tmp rfl) ⟨?_, rfl⟩ ms
          exfalso; simp at hc8; omega
        · refine s6 ?_
          refine L_indexAddr rfl rfl rfl el69.h rfl (by omega) ?_
          refine s1 ?_
          refine L_load rfl rfl (by first | exact RdC.blk mm | exact RdC.old (Cells.el h1 rfl hu2)) one3.h rfl ?_
          refine s3 ?_
          refine kp [0, 1, 5, 37] ?_
          refine W_cond rfl (fun hc10 => ?_) (fun hc10 => ?_)
          · refine s5 ?_
            -- return 3 (R11)
            refine res1 rfl (ResOK.tmp rfl) ⟨?_, rfl⟩ ms
            exfalso; simp [mk_int, mk_str] at hc10
          · refine s3 ?_
            refine L_binV rfl rfl rfl (bv_addR (by unfold inR; omega)) ?_
            refine s2 ?_
            rw [show (((((k0 + cnts (x1.take i)) + 1) + Mk.cnt b2) : Nat) : Int) + 1 = (((((k0 + cnts (x1.take i)) + 1) + Mk.cnt b2) + 1 : Nat) : Int) from rfl]
            have hE : ((((k0 + cnts (x1.take i)) + 1) + Mk.cnt b2) + 1) = k0 + cnts (x1.take (i + 1)) := by rw [hs]; (try simp only [cnt_pair, cnt_int, cnt_str]); omega
            rw [hE]
            refine s2 ?_
            refine L_binV rfl rfl rfl (bv_addR (by unfold inR; omega)) ?_
            refine s2 ?_
            refine ⟨i + 1, sb, ms, ?_, ?_⟩
            · show i + 1 ≤ x1.length
              omega
            · show x1.length - (i + 1) < x1.length - i
              omega
    · refine W_exit ?_
      refine s6 ?_
      -- return 4 (R13)
      refine res1 rfl (ResOK.tmp rfl) ⟨?_, rfl⟩ ms
      have hk2 : (mks k0 x1).length ≤ i := by simpa using hc2
      rw [List.take_of_length_le (by omega)]; rfl
theorem markUps_spec (w : World) (t1 : T_Ups) (k0 : Nat) (hk0 : 0 < k0) (hb : k0 + Mv.cnt t1 < 9223372036854775807) : Spec Try.prog 56 [.agg (GT.cells t1).toArray, .int .i64 (k0 : Int)].toArray w [treeH t1] (fun v M => v = .int .i64 ((k0 + Mv.cnt t1 : Nat) : Int) ∧ M = [treeH (Mv.mkd k0 t1)]) := by
  obtain ⟨a1, a2⟩ := t1
  simp only [mv_cnt_pair, mv_cnt_int, mv_cnt_bool, mv_cnt_str, mv_cnt_TL, mv_pair, mv_int, mv_bool, mv_str, mv_TL, Nat.zero_add, Nat.add_zero, ← Nat.add_assoc] at hb ⊢
  change Spec _ _ [Value.agg #[.int .i64 a1, a2.hdr], .int .i64 (k0 : Int)].toArray w _ _
  refine Spec.intro Try.func56 rfl Try.ntmps56 rfl ?_
  refine s2 ?_
  refine bx fun bk2 => ?_
  refine s5 ?_
  refine L_load rfl rfl (by first | exact RdC.blk mm) one69.h rfl ?_
  refine s1 ?_
  refine L_conv (fun w h => show Holds _ _ _ w from (frontPick (Pick.there _ (Pick.here _)) (tree_pair (frontPick (x := treeH ((a1, a2) : T_Ups)) pk h)))) ?_
  refine L_call1 rfl fn118.h rfl (Pick.here _) (by exact fun w hw => markUpS_spec w a2 (k0) (by omega) (by omega)) ?_
  rintro v M1 ⟨hv, rfl⟩
  subst hv
  simp only [List.cons_append, List.nil_append]
  refine L_conv (M' := treeH ((a1, (Mk.mkd k0 a2)) : T_Ups) :: _) (fun w h => (pairPick (Pick.here _) h)) ?_
  refine s8 ?_
  -- return 1 (R2)
  refine res1 rfl (ResOK.tmp rfl) ⟨rfl, rfl⟩ ms
theorem heldUps_spec (w : World) (t1 : T_Ups) (k0 : Nat) (hk0 : 0 < k0) (hb : k0 + Mv.cnt t1 < 9223372036854775807) (h1 : GT.rd w [] (Mv.mkd k0 t1)) : Spec Try.prog 57 [.agg (GT.cells (Mv.mkd k0 t1)).toArray, .int .i64 (k0 : Int)].toArray w [] (IsV (.int .i64 ((k0 + Mv.cnt t1 : Nat) : Int))) := by
  obtain ⟨a1, a2⟩ := t1
  simp only [mv_cnt_pair, mv_cnt_int, mv_cnt_bool, mv_cnt_str, mv_cnt_TL, mv_pair, mv_int, mv_bool, mv_str, mv_TL, Nat.zero_add, Nat.add_zero, ← Nat.add_assoc] at hb h1 ⊢
  refine Spec.intro Try.func57 rfl Try.ntmps57 rfl ?_
  refine s2 ?_
  refine bx fun bk2 => ?_
  refine s5 ?_
  refine L_load rfl rfl (by first | exact RdC.blk mm) one69.h rfl ?_
  refine s1 ?_
  refine L_callX rfl fn119.h rfl (by exact fun w hw => heldUpS_spec w a2 (k0) (by omega) (by omega) (rd_carry h1.2 hw)) ?_
  refine s8 ?_
  refine kp [1, 10] ?_
  refine W_cond rfl (fun hc2 => ?_) (fun hc2 => ?_)
  · refine s5 ?_
    -- return 1 (R3)
    refine res1 rfl (ResOK.tmp rfl) ⟨?_, rfl⟩ ms
    exfalso; simp at hc2; omega
  · refine s7 ?_
    -- return 2 (R4)
    refine res1 rfl (ResOK.tmp rfl) ⟨?_, rfl⟩ ms
    rfl
end Go.Proofs.SL
namespace Go.Proofs.SL
open Go
set_option maxHeartbeats 2000000
abbrev D_Up := ByteArray × (List Int) × Int
abbrev D_Ups := Int × (List D_Up)
instance fn77 : FnF Try.prog 77 := ⟨⟨_, Try.func77, by kernel_rfl, rfl⟩⟩
instance fn104 : FnF Try.prog 104 := ⟨⟨_, Try.func104, by kernel_rfl, rfl⟩⟩
instance fn137 : FnF Try.prog 137 := ⟨⟨_, Try.func137, by kernel_rfl, rfl⟩⟩
instance fn140 : FnF Try.prog 140 := ⟨⟨_, Try.func140, by kernel_rfl, rfl⟩⟩
instance fn139 : FnF Try.prog 139 := ⟨⟨_, Try.func139, by kernel_rfl, rfl⟩⟩
instance fn98 : FnF Try.prog 98 := ⟨⟨_, Try.func98, by kernel_rfl, rfl⟩⟩
instance fn100 : FnF Try.prog 100 := ⟨⟨_, Try.func100, by kernel_rfl, rfl⟩⟩
instance fn48 : FnF Try.prog 48 := ⟨⟨_, Try.func48, by kernel_rfl, rfl⟩⟩
instance fn94 : FnF Try.prog 94 := ⟨⟨_, Try.func94, by kernel_rfl, rfl⟩⟩
instance fn97 : FnF Try.prog 97 := ⟨⟨_, Try.func97, by kernel_rfl, rfl⟩⟩
instance bld71 : BldF Try.prog 71 [(0, 1), (1, 1)] [.int .i64 0, .slice none 0 0] := ⟨by kernel_rfl⟩
instance bld129 : BldF Try.prog 129 [(0, 1), (1, 1), (2, 1)] [.string ByteArray.empty, .slice none 0 0, .int .i64 0] := ⟨by kernel_rfl⟩
instance fn109 : FnF Try.prog 109 := ⟨⟨_, Try.func109, by kernel_rfl, rfl⟩⟩
instance fn144 : FnF Try.prog 144 := ⟨⟨_, Try.func144, by kernel_rfl, rfl⟩⟩
instance fn143 : FnF Try.prog 143 := ⟨⟨_, Try.func143, by kernel_rfl, rfl⟩⟩
noncomputable def s_UpsOk (a0 : D_Ups) : Option Bool :=
  Option.bind (s_l1In a0.1 0 1000) (fun y1 => cond ((!y1) || (decide (20 < (a0.2.length : Int)))) (some false) (whileP (fun s3 : Int => cond (decide (s3 < (a0.2.length : Int))) (Option.bind (idx a0.2 s3) (fun y5 => gb ((!(!decide ((y5.1.size : Int) = 8))) && (decide (0 < s3))) (idx a0.2 (IntKind.wrap .i64 (s3 - 1))) (fun y6 => gb (!(((!decide ((y5.1.size : Int) = 8)) || ((decide (0 < s3)) && (!sLt y6.1 y5.1))) || (decide ((y5.2.1.length : Int) = 0)))) (s_l1In y5.2.2 0 a0.1) (fun y7 => cond ((((!decide ((y5.1.size : Int) = 8)) || ((decide (0 < s3)) && (!sLt y6.1 y5.1))) || (decide ((y5.2.1.length : Int) = 0))) || (!y7)) (Option.map .inr (some false)) (whileP (fun s10 : Int => cond (decide (s10 < (y5.2.1.length : Int))) (Option.bind (idx y5.2.1 s10) (fun y12 => Option.bind (s_l9Node y12) (fun y13 => gb ((!(!y13)) && (decide (0 < s10))) (idx y5.2.1 (IntKind.wrap .i64 (s10 - 1))) (fun y14 => gb ((!(!y13)) && (decide (0 < s10))) (idx y5.2.1 s10) (fun y15 => cond ((!y13) || ((decide (0 < s10)) && (decide (y15 ≤ y14)))) (Option.map .inr (Option.map .inr (some false))) (some (.inl (IntKind.wrap .i64 (s10 + 1))))))))) (Option.map .inr (some (.inl (IntKind.wrap .i64 (s3 + 1)))))) 0))))) (Option.map .inr (some true))) 0))
theorem s_UpsOk_walk (w : World) (a0 : T_Ups) (h0 : GT.rd w [] a0) (r : Bool) (hp : s_UpsOk (GT.dat a0) = some r) : Spec Try.prog 48 [.agg (GT.cells a0).toArray].toArray w [] (IsV (.bool r)) := by
  obtain ⟨a0_1, a0_2⟩ := a0
  change Spec _ _ ([Value.agg #[.int .i64 a0_1, (TL.hdr a0_2)]] : List Value).toArray w [] _
  refine Spec.intro Try.func48 rfl Try.ntmps48 rfl ?_
  unfold s_UpsOk at hp
  replace hp := dd hp
  refine s2 ?_
  refine bx fun bk1 => ?_
  refine s4 ?_
  replace hp := ba hp; obtain ⟨y1, hy1, hp⟩ := hp
  refine W_D0 [15] mix (by kernel_rfl) rfl ?_
  refine s2 ?_
  refine D_callX GC.none fn77.h (OpVs.cons (OpV.t rfl) (OpVs.cons OpV.c (OpVs.cons OpV.c (OpVs.nil)))) (by exact fun hg w F hF hM => s_l1In_walk w a0_1 0 1000  _ hy1) ?_
  refine s4 ?_
  refine D_lenP (X := a0_2) (GC.some rfl rfl) (OpV.s rfl) el69.h ?_
  refine s14 ?_
  refine kp [1, 15] ?_
  refine W_cond rfl (fun hc2 => ?_) (fun hc2 => ?_)
  · replace hp := cond_t hc2 hp
    refine s4 ?_
    obtain rfl := Option.some.inj hp
    refine s1 ?_
    refine res1 rfl (ResOK.tmp rfl) ⟨rfl, rfl⟩ ms
  · replace hp := cond_f hc2 hp
    refine s7 ?_
    refine W_while (σ := Int) GT.dat (fun (v3_0 : Int) => [(3, .int .i64 v3_0)]) (fun (v3_0 : Int) => []) [(1, _)] [blk bk1 _ _] 0 hp sb ms ?_
    clear hp
    rintro v3_0 x3 hp hx3
    replace hp := dd hp
    refine kq [1, 3] ?_
    refine s9 ?_
    refine kp [1, 3, 20] ?_
    refine W_cond rfl (fun hc4 => ?_) (fun hc4 => ?_)
    · replace hp := cond_t hc4 hp
      refine s8 ?_
      replace hp := idx_bind hp; obtain ⟨⟨u5_1, u5_2, u5_3⟩, hy5, hp⟩ := hp
      refine L_idxA (X := a0_2) rfl rfl rfl el69.h (RdT.old h0.2) hy5 ?_
      refine L_loadW rfl rfl (RdT.at (RdT.old h0.2) (hy5).2) (by exact agg129.h) ?_
      refine al fun bk4 => ?_
      refine s4 ?_
      replace hp := idx_gb hp; obtain ⟨⟨u6_1, u6_2, u6_3⟩, hy6, hp⟩ := hp
      replace hp := gb_any hp; obtain ⟨y7, hy7, hp⟩ := hp
      refine W_D0 [61] mix (by kernel_rfl) rfl ?_
      refine s2 ?_
      refine D_lenT GC.none (OpV.t rfl) str9.h ?_
      refine s9 ?_
      refine D_idxA (X := a0_2) (GC.some rfl rfl) (OpV.s rfl) (OpV.s rfl) el69.h (RdT.old h0.2) (fun hg => hy6 (gand (gnot hg.1.2) hg.2)) ?_
      refine s1 ?_
      refine D_load (GC.some rfl rfl) (OpV.s rfl) (fun hg => RdT.at (RdT.old h0.2) (hy6 (gand (gnot hg.1.2) hg.2)).2) one9.h rfl ?_
      refine s8 ?_
      refine D_lenP (X := u5_2) (GC.some rfl rfl) (OpV.s rfl) el34.h ?_
      refine s7 ?_
      refine D_callX (GC.some rfl rfl) fn77.h (OpVs.cons (OpV.s rfl) (OpVs.cons OpV.c (OpVs.cons (OpV.s rfl) (OpVs.nil)))) (by exact fun hg w F hF hM => s_l1In_walk w u5_3 0 a0_1  _ (hy7 (gnot hg.2))) ?_
      refine s20 ?_
      refine s18 ?_
      refine kp [1, 3, 4, 61] ?_
      refine W_cond rfl (fun hc8 => ?_) (fun hc8 => ?_)
      · replace hp := cond_t hc8 hp
        refine s4 ?_
        replace hp := map_any hp; obtain ⟨a9, hp, hx_a9⟩ := hp
        obtain rfl := hx3 _ hx_a9
        obtain rfl := Option.some.inj hp
        refine s1 ?_
        refine res1 rfl (ResOK.tmp rfl) ⟨rfl, rfl⟩ ms
      · replace hp := cond_f hc8 hp
        refine s6 ?_
        refine W_while (σ := Int) GT.dat (fun (v10_0 : Int) => [(5, .int .i64 v10_0)]) (fun (v10_0 : Int) => []) [(1, _), (3, _), (4, _)] [blk bk1 _ _, blk bk4 _ _] 0 hp sb ms ?_
        clear hp
        rintro v10_0 x10 hp hx10
        replace hp := dd hp
        refine kq [1, 3, 4, 5] ?_
        refine s9 ?_
        refine kp [1, 3, 4, 5, 66] ?_
        refine W_cond rfl (fun hc11 => ?_) (fun hc11 => ?_)
        · replace hp := cond_t hc11 hp
          refine s4 ?_
          replace hp := idx_bind hp; obtain ⟨u12, hy12, hp⟩ := hp
          replace hp := ba hp; obtain ⟨y13, hy13, hp⟩ := hp
          replace hp := idx_gb hp; obtain ⟨u14, hy14, hp⟩ := hp
          replace hp := idx_gb hp; obtain ⟨u15, hy15, hp⟩ := hp
          refine W_D0 [93] mix (by kernel_rfl) rfl ?_
          refine s3 ?_
          refine D_idxA (X := u5_2) GC.none (OpV.t rfl) (OpV.t rfl) el34.h (RdT.fst (RdT.snd (RdT.of (RdT.old h0.2) (hy5).2))) (fun _ => hy12) ?_
          refine D_load0 GC.none (OpV.t rfl) (fun hg => RdT.at (RdT.fst (RdT.snd (RdT.of (RdT.old h0.2) (hy5).2))) (hy12).2) one3.h rfl ?_
          refine D_callX GC.none fn104.h (OpVs.cons (OpV.t rfl) (OpVs.nil)) (by exact fun hg w F hF hM => s_l9Node_walk w u12  _ hy13) ?_
          refine s9 ?_
          refine D_idxA (X := u5_2) (GC.some rfl rfl) (OpV.s rfl) (OpV.s rfl) el34.h (RdT.fst (RdT.snd (RdT.of (RdT.old h0.2) (hy5).2))) (fun hg => hy14 (gand (gnot hg.1.2) hg.2)) ?_
          refine D_load0 (GC.some rfl rfl) (OpV.s rfl) (fun hg => RdT.at (RdT.fst (RdT.snd (RdT.of (RdT.old h0.2) (hy5).2))) (hy14 (gand (gnot hg.1.2) hg.2)).2) one3.h rfl ?_
          refine s3 ?_
          refine D_idxA (X := u5_2) (GC.some rfl rfl) (OpV.s rfl) (OpV.s rfl) el34.h (RdT.fst (RdT.snd (RdT.of (RdT.old h0.2) (hy5).2))) (fun hg => hy15 (gand (gnot hg.1.2) hg.2)) ?_
          refine D_load0 (GC.some rfl rfl) (OpV.s rfl) (fun hg => RdT.at (RdT.fst (RdT.snd (RdT.of (RdT.old h0.2) (hy5).2))) (hy15 (gand (gnot hg.1.2) hg.2)).2) one3.h rfl ?_
          refine s20 ?_
          refine s10 ?_
          refine kp [1, 3, 4, 5, 93] ?_
          refine W_cond rfl (fun hc16 => ?_) (fun hc16 => ?_)
          · replace hp := cond_t hc16 hp
            refine s4 ?_
            replace hp := map_any hp; obtain ⟨a17, hp, hx_a17⟩ := hp
            obtain rfl := hx10 _ hx_a17
            replace hp := map_any hp; obtain ⟨a18, hp, hx_a18⟩ := hp
            obtain rfl := hx3 _ hx_a18
            obtain rfl := Option.some.inj hp
            refine s1 ?_
            refine res1 rfl (ResOK.tmp rfl) ⟨rfl, rfl⟩ ms
          · replace hp := cond_f hc16 hp
            refine s6 ?_
            exact ⟨IntKind.wrap .i64 (v10_0 + 1), sb, (.sub ms), some_eq hp⟩
        · replace hp := cond_f hc11 hp
          refine W_exit ?_
          replace hp := map_any hp; obtain ⟨a19, hp, hx_a19⟩ := hp
          obtain rfl := hx10 _ hx_a19
          refine s5 ?_
          exact ⟨IntKind.wrap .i64 (v3_0 + 1), sb, (.sub ms), some_eq hp⟩
    · replace hp := cond_f hc4 hp
      refine W_exit ?_
      replace hp := map_any hp; obtain ⟨a20, hp, hx_a20⟩ := hp
      obtain rfl := hx3 _ hx_a20
      refine s4 ?_
      obtain rfl := Option.some.inj hp
      refine s1 ?_
      refine res1 rfl (ResOK.tmp rfl) ⟨rfl, rfl⟩ ms
noncomputable def i_UpsOk (a0 : D_Ups) : Option Bool :=
  whileP (fun s1 : Int => cond (decide (s1 < (a0.2.length : Int))) (Option.bind (idx a0.2 s1) (fun y3 => gb ((!(!decide ((y3.1.size : Int) = 8))) && (decide (0 < s1))) (idx a0.2 (IntKind.wrap .i64 (s1 - 1))) (fun y4 => gb (!(((!decide ((y3.1.size : Int) = 8)) || ((decide (0 < s1)) && (!sLt y4.1 y3.1))) || (decide ((y3.2.1.length : Int) = 0)))) (i_within y3.2.2 0 a0.1) (fun y5 => cond ((((!decide ((y3.1.size : Int) = 8)) || ((decide (0 < s1)) && (!sLt y4.1 y3.1))) || (decide ((y3.2.1.length : Int) = 0))) || (!y5)) (Option.map .inr (some false)) (whileP (fun s8 : Int => cond (decide (s8 < (y3.2.1.length : Int))) (Option.bind (idx y3.2.1 s8) (fun y10 => Option.bind (i_isRep y10) (fun y11 => gb ((!(!y11)) && (decide (0 < s8))) (idx y3.2.1 (IntKind.wrap .i64 (s8 - 1))) (fun y12 => cond ((!y11) || ((decide (0 < s8)) && (decide (y10 ≤ y12)))) (Option.map .inr (Option.map .inr (some false))) (some (.inl (IntKind.wrap .i64 (s8 + 1)))))))) (Option.map .inr (some (.inl (IntKind.wrap .i64 (s1 + 1)))))) 0))))) (Option.map .inr (Option.bind (i_within a0.1 0 1000) (fun y18 => some (y18 && (decide ((a0.2.length : Int) ≤ 20))))))) 0
theorem i_UpsOk_walk (w : World) (a0 : T_Ups) (h0 : GT.rd w [] a0) (r : Bool) (hp : i_UpsOk (GT.dat a0) = some r) : Spec Try.prog 94 [.agg (GT.cells a0).toArray].toArray w [] (IsV (.bool r)) := by
  obtain ⟨a0_1, a0_2⟩ := a0
  change Spec _ _ ([Value.agg #[.int .i64 a0_1, (TL.hdr a0_2)]] : List Value).toArray w [] _
  refine Spec.intro Try.func94 rfl Try.ntmps94 rfl ?_
  unfold i_UpsOk at hp
  replace hp := dd hp
  refine s2 ?_
  refine bx fun bk1 => ?_
  refine s11 ?_
  refine W_while (σ := Int) GT.dat (fun (v1_0 : Int) => [(10, .int .i64 v1_0)]) (fun (v1_0 : Int) => []) [(1, _), (8, _), (9, _)] [blk bk1 _ _] 0 hp sb ms ?_
  clear hp
  rintro v1_0 x1 hp hx1
  replace hp := dd hp
  refine kq [1, 8, 9, 10] ?_
  refine s5 ?_
  refine kp [1, 8, 9, 10, 11] ?_
  refine W_cond rfl (fun hc2 => ?_) (fun hc2 => ?_)
  · replace hp := cond_t hc2 hp
    refine s6 ?_
    replace hp := idx_bind hp; obtain ⟨⟨u3_1, u3_2, u3_3⟩, hy3, hp⟩ := hp
    refine L_idxA (X := a0_2) rfl rfl rfl el69.h (RdT.old h0.2) hy3 ?_
    refine L_loadW rfl rfl (RdT.at (RdT.old h0.2) (hy3).2) (by exact agg129.h) ?_
    refine al fun bk4 => ?_
    refine s5 ?_
    replace hp := idx_gb hp; obtain ⟨⟨u4_1, u4_2, u4_3⟩, hy4, hp⟩ := hp
    replace hp := gb_any hp; obtain ⟨y5, hy5, hp⟩ := hp
    refine W_D0 [48] mix (by kernel_rfl) rfl ?_
    refine s2 ?_
    refine D_lenT GC.none (OpV.t rfl) str9.h ?_
    refine s9 ?_
    refine D_idxA (X := a0_2) (GC.some rfl rfl) (OpV.s rfl) (OpV.s rfl) el69.h (RdT.old h0.2) (fun hg => hy4 (gand (gnot hg.1.2) hg.2)) ?_
    refine s1 ?_
    refine D_load (GC.some rfl rfl) (OpV.s rfl) (fun hg => RdT.at (RdT.old h0.2) (hy4 (gand (gnot hg.1.2) hg.2)).2) one9.h rfl ?_
    refine s8 ?_
    refine D_lenP (X := u3_2) (GC.some rfl rfl) (OpV.s rfl) el34.h ?_
    refine s7 ?_
    refine D_callX (GC.some rfl rfl) fn73.h (OpVs.cons (OpV.s rfl) (OpVs.cons OpV.c (OpVs.cons (OpV.s rfl) (OpVs.nil)))) (by exact fun hg w F hF hM => i_within_walk w u3_3 0 a0_1  _ (hy5 (gnot hg.2))) ?_
    refine s20 ?_
    refine s18 ?_
    refine kp [1, 4, 8, 9, 10, 48] ?_
    refine W_cond rfl (fun hc6 => ?_) (fun hc6 => ?_)
    · replace hp := cond_t hc6 hp
      refine s4 ?_
      replace hp := map_any hp; obtain ⟨a7, hp, hx_a7⟩ := hp
      obtain rfl := hx1 _ hx_a7
      obtain rfl := Option.some.inj hp
      refine s1 ?_
      refine res1 rfl (ResOK.tmp rfl) ⟨rfl, rfl⟩ ms
    · replace hp := cond_f hc6 hp
      refine s9 ?_
      refine W_while (σ := Int) GT.dat (fun (v8_0 : Int) => [(52, .int .i64 v8_0)]) (fun (v8_0 : Int) => []) [(1, _), (4, _), (8, _), (9, _), (10, _), (50, _), (51, _)] [blk bk1 _ _, blk bk4 _ _] 0 hp sb ms ?_
      clear hp
      rintro v8_0 x8 hp hx8
      replace hp := dd hp
      refine kq [1, 4, 8, 9, 10, 50, 51, 52] ?_
      refine s5 ?_
      refine kp [1, 4, 8, 9, 10, 50, 51, 52, 53] ?_
      refine W_cond rfl (fun hc9 => ?_) (fun hc9 => ?_)
      · replace hp := cond_t hc9 hp
        refine s6 ?_
        replace hp := idx_bind hp; obtain ⟨u10, hy10, hp⟩ := hp
        refine L_idxA (X := u3_2) rfl rfl rfl el34.h (RdT.fst (RdT.snd (RdT.of (RdT.old h0.2) (hy3).2))) hy10 ?_
        refine L_load0 rfl rfl (RdT.at (RdT.fst (RdT.snd (RdT.of (RdT.old h0.2) (hy3).2))) (hy10).2) one3.h rfl ?_
        refine s4 ?_
        replace hp := ba hp; obtain ⟨y11, hy11, hp⟩ := hp
        replace hp := idx_gb hp; obtain ⟨u12, hy12, hp⟩ := hp
        refine W_D0 [73] mix (by kernel_rfl) rfl ?_
        refine s1 ?_
        refine D_callX GC.none fn137.h (OpVs.cons (OpV.t rfl) (OpVs.nil)) (by exact fun hg w F hF hM => i_isRep_walk w u10  _ hy11) ?_
        refine s9 ?_
        refine D_idxA (X := u3_2) (GC.some rfl rfl) (OpV.s rfl) (OpV.s rfl) el34.h (RdT.fst (RdT.snd (RdT.of (RdT.old h0.2) (hy3).2))) (fun hg => hy12 (gand (gnot hg.1.2) hg.2)) ?_
        refine D_load0 (GC.some rfl rfl) (OpV.s rfl) (fun hg => RdT.at (RdT.fst (RdT.snd (RdT.of (RdT.old h0.2) (hy3).2))) (hy12 (gand (gnot hg.1.2) hg.2)).2) one3.h rfl ?_
        refine s20 ?_
        refine s3 ?_
        refine kp [1, 4, 8, 9, 10, 50, 51, 52, 73] ?_
        refine W_cond rfl (fun hc13 => ?_) (fun hc13 => ?_)
        · replace hp := cond_t hc13 hp
          refine s4 ?_
          replace hp := map_any hp; obtain ⟨a14, hp, hx_a14⟩ := hp
          obtain rfl := hx8 _ hx_a14
          replace hp := map_any hp; obtain ⟨a15, hp, hx_a15⟩ := hp
          obtain rfl := hx1 _ hx_a15
          obtain rfl := Option.some.inj hp
          refine s1 ?_
          refine res1 rfl (ResOK.tmp rfl) ⟨rfl, rfl⟩ ms
        · replace hp := cond_f hc13 hp
          refine s5 ?_
          exact ⟨IntKind.wrap .i64 (v8_0 + 1), sb, (.sub ms), some_eq hp⟩
      · replace hp := cond_f hc9 hp
        refine W_exit ?_
        replace hp := map_any hp; obtain ⟨a16, hp, hx_a16⟩ := hp
        obtain rfl := hx8 _ hx_a16
        refine s4 ?_
        exact ⟨IntKind.wrap .i64 (v1_0 + 1), sb, (.sub ms), some_eq hp⟩
  · replace hp := cond_f hc2 hp
    refine W_exit ?_
    replace hp := map_any hp; obtain ⟨a17, hp, hx_a17⟩ := hp
    obtain rfl := hx1 _ hx_a17
    refine s1 ?_
    replace hp := ba hp; obtain ⟨y18, hy18, hp⟩ := hp
    refine W_D0 [2] mix (by kernel_rfl) rfl ?_
    refine s2 ?_
    refine D_callX GC.none fn73.h (OpVs.cons (OpV.t rfl) (OpVs.cons OpV.c (OpVs.cons OpV.c (OpVs.nil)))) (by exact fun hg w F hF hM => i_within_walk w a0_1 0 1000  _ hy18) ?_
    refine s3 ?_
    refine D_lenP (X := a0_2) (GC.some rfl rfl) (OpV.s rfl) el69.h ?_
    refine s15 ?_
    obtain rfl := Option.some.inj hp
    refine s1 ?_
    refine res1 rfl (ResOK.tmp rfl) ⟨rfl, rfl⟩ ms
noncomputable def s_l18At (a0 : D_Ups) (a1 : ByteArray) : Option Int :=
  whileP (fun s1 : Int => cond (decide (s1 < (a0.2.length : Int))) (Option.bind (idx a0.2 s1) (fun y3 => cond (decide (y3.1 = a1)) (Option.map .inr (some s1)) (some (.inl (IntKind.wrap .i64 (s1 + 1)))))) (Option.map .inr (some (-1)))) 0
theorem s_l18At_walk (w : World) (a0 : T_Ups) (a1 : ByteArray) (h0 : GT.rd w [] a0) (r : Int) (hp : s_l18At (GT.dat a0) a1 = some r) : Spec Try.prog 100 [.agg (GT.cells a0).toArray, .string a1].toArray w [] (IsV (.int .i64 r)) := by
  obtain ⟨a0_1, a0_2⟩ := a0
  change Spec _ _ ([Value.agg #[.int .i64 a0_1, (TL.hdr a0_2)], .string a1] : List Value).toArray w [] _
  refine Spec.intro Try.func100 rfl Try.ntmps100 rfl ?_
  unfold s_l18At at hp
  replace hp := dd hp
  refine s2 ?_
  refine bx fun bk2 => ?_
  refine s8 ?_
  refine W_while (σ := Int) GT.dat (fun (v1_0 : Int) => [(5, .int .i64 v1_0)]) (fun (v1_0 : Int) => []) [(1, _), (2, _)] [blk bk2 _ _] 0 hp sb ms ?_
  clear hp
  rintro v1_0 x1 hp hx1
  replace hp := dd hp
  refine kq [1, 2, 5] ?_
  refine s9 ?_
  refine kp [1, 2, 5, 10] ?_
  refine W_cond rfl (fun hc2 => ?_) (fun hc2 => ?_)
  · replace hp := cond_t hc2 hp
    refine s8 ?_
    replace hp := idx_bind hp; obtain ⟨⟨u3_1, u3_2, u3_3⟩, hy3, hp⟩ := hp
    refine L_idxA (X := a0_2) rfl rfl rfl el69.h (RdT.old h0.2) hy3 ?_
    refine s1 ?_
    refine L_load rfl rfl (RdT.at (RdT.old h0.2) (hy3).2) one9.h rfl ?_
    refine s3 ?_
    refine kp [1, 2, 5, 20] ?_
    refine W_cond rfl (fun hc4 => ?_) (fun hc4 => ?_)
    · replace hp := cond_t hc4 hp
      refine s5 ?_
      replace hp := map_any hp; obtain ⟨a5, hp, hx_a5⟩ := hp
      obtain rfl := hx1 _ hx_a5
      obtain rfl := Option.some.inj hp
      refine s1 ?_
      refine res1 rfl (ResOK.tmp rfl) ⟨rfl, rfl⟩ ms
    · replace hp := cond_f hc4 hp
      refine s6 ?_
      exact ⟨IntKind.wrap .i64 (v1_0 + 1), sb, (.sub ms), some_eq hp⟩
  · replace hp := cond_f hc2 hp
    refine W_exit ?_
    replace hp := map_any hp; obtain ⟨a6, hp, hx_a6⟩ := hp
    obtain rfl := hx1 _ hx_a6
    refine s4 ?_
    obtain rfl := Option.some.inj hp
    refine s1 ?_
    refine res1 rfl (ResOK.tmp rfl) ⟨rfl, rfl⟩ ms
noncomputable def i_Ups_at_c1 (a0 : D_Up) (c0 : ByteArray) : Option Bool :=
  some (decide (a0.1 = c0))
theorem i_Ups_at_c1_walk (w : World) (a0 : T_Up) (b0 : Nat) (c0 : ByteArray) (h0 : GT.rd w [] a0) (hb0 : Cells w [] b0 0 (GT.cells c0)) (hc0 : GT.rd w [] c0) (r : Bool) (hp : i_Ups_at_c1 (GT.dat a0) c0 = some r) : Spec Try.prog 140 ([(.agg (GT.cells a0).toArray : Value)] ++ [Value.pointer (some ⟨b0, 0, none⟩)]).toArray w [] (IsV (.bool r)) := by
  obtain ⟨a0_1, a0_2, a0_3⟩ := a0
  change Spec _ _ ([Value.agg #[.string a0_1, (TL.hdr a0_2), .int .i64 a0_3], Value.pointer (some ⟨b0, 0, none⟩)] : List Value).toArray w [] _
  refine Spec.intro Try.func140 rfl Try.ntmps140 rfl ?_
  unfold i_Ups_at_c1 at hp
  replace hp := dd hp
  refine s2 ?_
  refine bx fun bk2 => ?_
  refine s6 ?_
  refine L_load0 rfl rfl (RdC.old hb0) one9.h rfl ?_
  refine s3 ?_
  obtain rfl := Option.some.inj hp
  refine s1 ?_
  refine res1 rfl (ResOK.tmp rfl) ⟨rfl, rfl⟩ ms
noncomputable def sl_IndexFunc_implUpimplUp (a0 : List D_Up) (a1 : D_Up → Option Bool) : Option Int :=
  whileP (fun s1 : Int => cond (decide (s1 < (a0.length : Int))) (Option.bind (idx a0 s1) (fun y3 => Option.bind (a1 (y3.1, y3.2.1, y3.2.2)) (fun y4 => cond y4 (Option.map .inr (some s1)) (some (.inl (IntKind.wrap .i64 (s1 + 1))))))) (Option.map .inr (some (-1)))) 0
theorem sl_IndexFunc_implUpimplUp_walk (w : World) (a0 : TL T_Up) (f1 : Nat) (cs1 : List Value) (a1 : D_Up → Option Bool) (h0 : GT.rd w [] a0) (hf1 : IsFn Try.prog f1) (hk1 : ∀ (w' : World) (F : List HP) (u0 : T_Up) (v : Bool), Holds w [] F w' → GT.rd w' [] u0 → a1 (GT.dat u0) = some v → Spec Try.prog f1 ([Value.agg (GT.cells u0).toArray] ++ cs1).toArray w' [] (IsV (.bool v))) (r : Int) (hp : sl_IndexFunc_implUpimplUp (GT.dat a0) a1 = some r) : Spec Try.prog 139 [(TL.hdr a0), .func (.func f1) #[] cs1.toArray].toArray w [] (IsV (.int .i64 r)) := by
  refine Spec.intro Try.func139 rfl Try.ntmps139 rfl ?_
  unfold sl_IndexFunc_implUpimplUp at hp
  replace hp := dd hp
  refine s12 ?_
  refine W_while (σ := Int) GT.dat (fun (v1_0 : Int) => [(8, .int .i64 v1_0)]) (fun (v1_0 : Int) => []) [(0, _), (1, _), (7, _)] [] 0 hp sb ms ?_
  clear hp
  rintro v1_0 x1 hp hx1
  replace hp := dd hp
  refine kq [0, 1, 7, 8] ?_
  refine s5 ?_
  refine kp [0, 1, 7, 8, 9] ?_
  refine W_cond rfl (fun hc2 => ?_) (fun hc2 => ?_)
  · replace hp := cond_t hc2 hp
    refine s13 ?_
    replace hp := idx_bind hp; obtain ⟨⟨u3_1, u3_2, u3_3⟩, hy3, hp⟩ := hp
    refine L_idxA (X := a0) rfl rfl rfl el69.h (RdT.old h0) hy3 ?_
    refine L_loadW rfl rfl (RdT.at (RdT.old h0) (hy3).2) (by exact agg129.h) ?_
    replace hp := ba hp; obtain ⟨y4, hy4, hp⟩ := hp
    refine L_callVX rfl rfl hf1 rfl (by exact fun w hw => hk1 w _ (u3_1, u3_2, u3_3) y4 hw (RdT.now (RdT.pair RdT.str (RdT.pair (RdT.fst (RdT.snd (RdT.of (RdT.old h0) (hy3).2))) RdT.int)) hw) hy4) ?_
    refine s1 ?_
    refine kp [0, 1, 5, 7, 8, 16] ?_
    refine W_cond rfl (fun hc5 => ?_) (fun hc5 => ?_)
    · replace hp := cond_t hc5 hp
      refine s5 ?_
      replace hp := map_any hp; obtain ⟨a6, hp, hx_a6⟩ := hp
      obtain rfl := hx1 _ hx_a6
      obtain rfl := Option.some.inj hp
      refine s1 ?_
      refine res1 rfl (ResOK.tmp rfl) ⟨rfl, rfl⟩ ms
    · replace hp := cond_f hc5 hp
      refine s5 ?_
      exact ⟨IntKind.wrap .i64 (v1_0 + 1), sb, (.sub ms), some_eq hp⟩
  · replace hp := cond_f hc2 hp
    refine W_exit ?_
    replace hp := map_any hp; obtain ⟨a7, hp, hx_a7⟩ := hp
    obtain rfl := hx1 _ hx_a7
    refine s4 ?_
    obtain rfl := Option.some.inj hp
    refine s1 ?_
    refine res1 rfl (ResOK.tmp rfl) ⟨rfl, rfl⟩ ms
noncomputable def i_Ups_at (a0 : D_Ups) (a1 : ByteArray) : Option Int :=
  Option.bind (sl_IndexFunc_implUpimplUp a0.2 (fun z0 => i_Ups_at_c1 z0 a1)) (fun y1 => some y1)
theorem i_Ups_at_walk (w : World) (a0 : T_Ups) (a1 : ByteArray) (h0 : GT.rd w [] a0) (r : Int) (hp : i_Ups_at (GT.dat a0) a1 = some r) : Spec Try.prog 98 [.agg (GT.cells a0).toArray, .string a1].toArray w [] (IsV (.int .i64 r)) := by
  obtain ⟨a0_1, a0_2⟩ := a0
  change Spec _ _ ([Value.agg #[.int .i64 a0_1, (TL.hdr a0_2)], .string a1] : List Value).toArray w [] _
  refine Spec.intro Try.func98 rfl Try.ntmps98 rfl ?_
  unfold i_Ups_at at hp
  replace hp := dd hp
  refine s2 ?_
  refine bx fun bk2 => ?_
  refine bx fun bk3 => ?_
  refine s6 ?_
  refine L_makeFunc (fs := []) (cs := [.tmp 3]) rfl rfl rfl ?_
  replace hp := ba hp; obtain ⟨y1, hy1, hp⟩ := hp
  refine L_callX rfl fn139.h rfl (by exact fun w hw => sl_IndexFunc_implUpimplUp_walk w a0_2 140 [Value.pointer (some ⟨bk3, 0, none⟩)] (fun z0 => i_Ups_at_c1 z0 a1) (RdT.now (RdT.old h0.2) hw) fn140.h (fun w' F u0 v hF hu0 hv => i_Ups_at_c1_walk w' u0 bk3 a1 hu0 ((cells_of_blk mm hw.sees).carry hF) (rd_carry (RdT.now RdT.str hw) hF) v hv) _ hy1) ?_
  refine s2 ?_
  obtain rfl := Option.some.inj hp
  refine s1 ?_
  refine res1 rfl (ResOK.tmp rfl) ⟨rfl, rfl⟩ ms
noncomputable def i_Ups_nodes (a0 : D_Ups) (a1 : ByteArray) : Option (List Int) :=
  Option.bind (i_Ups_at (a0.1, a0.2) a1) (fun y1 => cond (decide (0 ≤ y1)) (Option.bind (idx a0.2 y1) (fun y3 => some y3.2.1)) (some ([] : List Int)))
theorem i_Ups_nodes_walk (w : World) (a0 : T_Ups) (a1 : ByteArray) (h0 : GT.rd w [] a0) (r : (List Int)) (hp : i_Ups_nodes (GT.dat a0) a1 = some r) : Spec Try.prog 97 [.agg (GT.cells a0).toArray, .string a1].toArray w [] (fun v M => ∃ (x0 : TL Int), v = (TL.hdr x0) ∧ GT.dat x0 = r ∧ M = [] ∧ (∀ (w' : World) (S : List Nat), GT.rd w' S a0 → GT.rd w' S x0)) := by
  obtain ⟨a0_1, a0_2⟩ := a0
  change Spec _ _ ([Value.agg #[.int .i64 a0_1, (TL.hdr a0_2)], .string a1] : List Value).toArray w [] _
  refine Spec.intro Try.func97 rfl Try.ntmps97 rfl ?_
  unfold i_Ups_nodes at hp
  replace hp := dd hp
  refine s2 ?_
  refine bx fun bk2 => ?_
  refine L_assign (v := (TL.hdr (TL.nil Int 0))) rfl rfl ?_
  refine s6 ?_
  replace hp := ba hp; obtain ⟨y1, hy1, hp⟩ := hp
  refine L_callX rfl fn98.h rfl (by exact fun w hw => i_Ups_at_walk w (a0_1, a0_2) a1 (RdT.now (RdT.pair RdT.int (RdT.old h0.2)) hw) _ hy1) ?_
  refine s7 ?_
  refine kp [2, 5, 10] ?_
  refine W_cond rfl (fun hc2 => ?_) (fun hc2 => ?_)
  · replace hp := cond_t hc2 hp
    refine s5 ?_
    replace hp := idx_bind hp; obtain ⟨⟨u3_1, u3_2, u3_3⟩, hy3, hp⟩ := hp
    refine L_idxA (X := a0_2) rfl rfl rfl el69.h (RdT.old h0.2) hy3 ?_
    refine s1 ?_
    refine L_load rfl rfl (RdT.at (RdT.old h0.2) (hy3).2) one34.h rfl ?_
    refine s2 ?_
    obtain rfl := Option.some.inj hp
    refine s1 ?_
    refine res1 rfl (ResOK.tmp rfl) ⟨u3_2, rfl, rfl, rfl, (fun w' S h0 => (RdO.fst (RdO.snd (RdO.of (RdO.old h0.2) (hy3).2))))⟩ ms
  · replace hp := cond_f hc2 hp
    refine s3 ?_
    refine L_assign (v := (TL.hdr (TL.nil Int 0))) rfl rfl ?_
    refine s1 ?_
    obtain rfl := Option.some.inj hp
    refine s1 ?_
    refine res1 rfl (ResOK.tmp rfl) ⟨(TL.nil Int 0), rfl, rfl, rfl, (fun w' S h0 => (RdO.nil 0))⟩ ms
noncomputable def i_copyUps (a0 : D_Ups) : Option D_Ups :=
  whileP (fun s1 : Int × (List D_Up) => cond (decide (s1.1 < (a0.2.length : Int))) (Option.bind (idx a0.2 s1.1) (fun y3 => Option.bind (appP ([] : List Int) y3.2.1) (fun y4 => Option.bind (appP s1.2 [(y3.1, y4, y3.2.2)]) (fun y7 => some (.inl ((IntKind.wrap .i64 (s1.1 + 1), y7))))))) (Option.map .inr (some (a0.1, s1.2)))) (0, ([] : List D_Up))
theorem i_copyUps_walk (w : World) (a0 : T_Ups) (h0 : GT.rd w [] a0) (r : D_Ups) (hp : i_copyUps (GT.dat a0) = some r) : Spec Try.prog 95 [.agg (GT.cells a0).toArray].toArray w [] (fun v M => ∃ (x0 : T_Ups), v = .agg (GT.cells x0).toArray ∧ GT.dat x0 = r ∧ M = [treeH x0]) := by
  obtain ⟨a0_1, a0_2⟩ := a0
  change Spec _ _ ([Value.agg #[.int .i64 a0_1, (TL.hdr a0_2)]] : List Value).toArray w [] _
  refine Spec.intro Try.func95 rfl Try.ntmps95 rfl ?_
  unfold i_copyUps at hp
  replace hp := dd hp
  refine s2 ?_
  refine bx fun bk1 => ?_
  refine al fun bk2 => ?_
  refine s5 ?_
  refine L_build (xs := [(0, .tmp 7)]) (cs := [.int .i64 a0_1, (TL.hdr (TL.nil T_Up 0))]) rfl rfl bld71.h rfl ?_
  refine al fun bk3 => ?_
  refine s11 ?_
  refine W_conv (M' := treeH (TL.nil T_Up 0) :: _) (fun w h => addNilT (τ := T_Up) 0 h) ?_
  refine W_while (σ := Int × (TL T_Up)) GT.dat (fun ((v1_0, v1_1) : Int × (TL T_Up)) => [(12, .int .i64 v1_0)]) (fun ((v1_0, v1_1) : Int × (TL T_Up)) => [blk bk3 [.int .i64 a0_1, (TL.hdr v1_1)] 71, treeH v1_1]) [(2, _), (3, _), (10, _), (11, _)] [blk bk2 _ _] (0, (TL.nil T_Up 0)) hp sb ms ?_
  clear hp
  rintro ⟨v1_0, v1_1⟩ x1 hp hx1
  replace hp := dd hp
  refine kq [2, 3, 10, 11, 12] ?_
  refine s5 ?_
  refine kp [2, 3, 10, 11, 12, 13] ?_
  refine W_cond rfl (fun hc2 => ?_) (fun hc2 => ?_)
  · replace hp := cond_t hc2 hp
    refine s5 ?_
    replace hp := idx_bind hp; obtain ⟨⟨u3_1, u3_2, u3_3⟩, hy3, hp⟩ := hp
    refine L_idxA (X := a0_2) rfl rfl rfl el69.h (RdT.old h0.2) hy3 ?_
    refine L_loadW rfl rfl (RdT.at (RdT.old h0.2) (hy3).2) (by exact agg129.h) ?_
    refine al fun bk5 => ?_
    refine s2 ?_
    refine W_conv (M' := treeH (TL.nil Int 0) :: _) (fun w h => addNilT (τ := Int) 0 h) ?_
    replace hp := ba hp; obtain ⟨y4, hy4, hp⟩ := hp
    refine W_DS (pre := [_, _, _, _, _, _, _, _, _, _, _]) (suf := [_, _, _]) [17, 26] [treeH (TL.nil Int 0)] _ pc mix (by kernel_rfl) (by kernel_rfl) rfl ?_
    refine s6 ?_
    refine D_appT (X := (TL.nil Int 0)) (Y := u3_2) (OpV.c (v := (TL.hdr (TL.nil Int 0)))) (OpV.t rfl) el34.h rfl rfl pk (RdT.fst (RdT.snd (RdT.of (RdT.old h0.2) (hy3).2))) hy4 (by decide) ?_
    refine s2 ?_
    refine D_buildO (τ := Int) (t := 22) (xs := [(0, .tmp 19), (1, .tmp 22), (2, .tmp 24)]) (ps := fun u => [(0, .string u3_1), (1, u), (2, .int .i64 u3_3)]) (cs := fun u => [.string u3_1, u, .int .i64 u3_3]) rfl (fun u => (OpVp.cons (OpV.t rfl) (OpVp.cons (OpV.t rfl) (OpVp.cons (OpV.t rfl) (OpVp.nil))))) bld129.h (fun X => rfl) (by kernel_rfl) ?_
    refine D_bs1O (t := 25) rfl el69.h rfl (by decide) (by decide) (fun X => rfl) (by kernel_rfl) ?_
    refine s1 ?_
    refine Give_R rfl rfl ?_
    rintro _ _ ⟨X5, bb26, rfl, rfl, rfl⟩
    simp only [List.cons_append, List.nil_append]
    refine s11 ?_
    replace hp := ba hp; obtain ⟨y7, hy7, hp⟩ := hp
    refine jL ((u3_1, X5, u3_3) : T_Up) ?_
    refine L_app1 (X := v1_1) ((u3_1, X5, u3_3) : T_Up) rfl rfl rfl el69.h rfl rfl pk mm pk hy7 (by decide) (fun X6 hdX6 => ?_)
    subst hdX6
    refine s7 ?_
    exact ⟨(IntKind.wrap .i64 (v1_0 + 1), X6), sb, (.sub ms), some_eq hp⟩
  · replace hp := cond_f hc2 hp
    refine W_exit ?_
    replace hp := map_any hp; obtain ⟨a8, hp, hx_a8⟩ := hp
    obtain rfl := hx1 _ hx_a8
    refine s5 ?_
    obtain rfl := Option.some.inj hp
    refine jW ((a0_1, v1_1) : T_Ups) ?_
    refine s1 ?_
    refine res1 rfl (ResOK.cell rfl mm (by exact agg71.h)) ⟨(a0_1, v1_1), rfl, rfl, rfl⟩ ms
noncomputable def s_l18Has (a0 : List Int) (a1 : Int) : Option Bool :=
  whileP (fun s1 : Int => cond (decide (s1 < (a0.length : Int))) (Option.bind (idx a0 s1) (fun y3 => cond (decide (y3 = a1)) (Option.map .inr (some true)) (some (.inl (IntKind.wrap .i64 (s1 + 1)))))) (Option.map .inr (some false))) 0
theorem s_l18Has_walk (w : World) (a0 : TL Int) (a1 : Int) (h0 : GT.rd w [] a0) (r : Bool) (hp : s_l18Has (GT.dat a0) a1 = some r) : Spec Try.prog 109 [(TL.hdr a0), .int .i64 a1].toArray w [] (IsV (.bool r)) := by
  refine Spec.intro Try.func109 rfl Try.ntmps109 rfl ?_
  unfold s_l18Has at hp
  replace hp := dd hp
  refine s10 ?_
  refine W_while (σ := Int) GT.dat (fun (v1_0 : Int) => [(5, .int .i64 v1_0)]) (fun (v1_0 : Int) => []) [(0, _), (1, _)] [] 0 hp sb ms ?_
  clear hp
  rintro v1_0 x1 hp hx1
  replace hp := dd hp
  refine kq [0, 1, 5] ?_
  refine s8 ?_
  refine kp [0, 1, 5, 9] ?_
  refine W_cond rfl (fun hc2 => ?_) (fun hc2 => ?_)
  · replace hp := cond_t hc2 hp
    refine s7 ?_
    replace hp := idx_bind hp; obtain ⟨u3, hy3, hp⟩ := hp
    refine L_idxA (X := a0) rfl rfl rfl el34.h (RdT.old h0) hy3 ?_
    refine L_load0 rfl rfl (RdT.at (RdT.old h0) (hy3).2) one3.h rfl ?_
    refine s3 ?_
    refine kp [0, 1, 5, 17] ?_
    refine W_cond rfl (fun hc4 => ?_) (fun hc4 => ?_)
    · replace hp := cond_t hc4 hp
      refine s4 ?_
      replace hp := map_any hp; obtain ⟨a5, hp, hx_a5⟩ := hp
      obtain rfl := hx1 _ hx_a5
      obtain rfl := Option.some.inj hp
      refine s1 ?_
      refine res1 rfl (ResOK.tmp rfl) ⟨rfl, rfl⟩ ms
    · replace hp := cond_f hc4 hp
      refine s6 ?_
      exact ⟨IntKind.wrap .i64 (v1_0 + 1), sb, (.sub ms), some_eq hp⟩
  · replace hp := cond_f hc2 hp
    refine W_exit ?_
    replace hp := map_any hp; obtain ⟨a6, hp, hx_a6⟩ := hp
    obtain rfl := hx1 _ hx_a6
    refine s4 ?_
    obtain rfl := Option.some.inj hp
    refine s1 ?_
    refine res1 rfl (ResOK.tmp rfl) ⟨rfl, rfl⟩ ms
noncomputable def s_l18With (a0 : List Int) (a1 : Int) (a2 : Bool) : Option (List Int) :=
  Option.bind (some ([] : List Int)) (fun y2 => whileP (fun s3 : (List Int) × Int => cond (decide (s3.2 < 3)) (gb ((!((decide (s3.2 = a1)) && a2)) && (!decide (s3.2 = a1))) (s_l18Has a0 s3.2) (fun y5 => cond (((decide (s3.2 = a1)) && a2) || ((!decide (s3.2 = a1)) && y5)) (Option.bind (appP s3.1 [s3.2]) (fun y8 => some (.inl ((y8, IntKind.wrap .i64 (s3.2 + 1)))))) (some (.inl ((s3.1, IntKind.wrap .i64 (s3.2 + 1))))))) (Option.map .inr (some s3.1))) (y2, 0))
theorem s_l18With_walk (w : World) (a0 : TL Int) (a1 : Int) (a2 : Bool) (h0 : GT.rd w [] a0) (r : (List Int)) (hp : s_l18With (GT.dat a0) a1 a2 = some r) : Spec Try.prog 101 [(TL.hdr a0), .int .i64 a1, .bool a2].toArray w [] (fun v M => ∃ (x0 : TL Int), v = (TL.hdr x0) ∧ GT.dat x0 = r ∧ M = [treeH x0]) := by
  refine Spec.intro Try.func101 rfl Try.ntmps101 rfl ?_
  unfold s_l18With at hp
  replace hp := dd hp
  refine s2 ?_
  refine L_assign (v := (TL.hdr (TL.nil Int 0))) rfl rfl ?_
  refine s3 ?_
  replace hp := ba hp; obtain ⟨y2, hy2, hp⟩ := hp
  refine L_mk0 Int rfl el34.h (fun X1 hdX1 => ?_)
  obtain rfl : GT.dat X1 = y2 := hdX1.trans (Option.some.inj hy2)
  clear hy2 hdX1
  refine s8 ?_
  refine W_while (σ := (TL Int) × Int) GT.dat (fun ((v3_0, v3_1) : (TL Int) × Int) => [(7, (TL.hdr v3_0)), (8, .int .i64 v3_1)]) (fun ((v3_0, v3_1) : (TL Int) × Int) => [treeH v3_0]) [(0, _), (1, _), (2, _)] [] (X1, 0) hp sb ms ?_
  clear hp
  rintro ⟨v3_0, v3_1⟩ x3 hp hx3
  replace hp := dd hp
  refine kq [0, 1, 2, 7, 8] ?_
  refine s6 ?_
  refine kp [0, 1, 2, 7, 8, 11] ?_
  refine W_cond rfl (fun hc4 => ?_) (fun hc4 => ?_)
  · replace hp := cond_t hc4 hp
    refine s4 ?_
    replace hp := gb_any hp; obtain ⟨y5, hy5, hp⟩ := hp
    refine W_D0 [29] mix (by kernel_rfl) rfl ?_
    refine s13 ?_
    refine D_callX (GC.some rfl rfl) fn109.h (OpVs.cons (OpV.s rfl) (OpVs.cons (OpV.s rfl) (OpVs.nil))) (by exact fun hg w F hF hM => s_l18Has_walk w a0 v3_1 (RdT.nowS (RdT.old h0) hF hM) _ (hy5 (gand (gnot hg.1.2) hg.2))) ?_
    refine s20 ?_
    refine kp [0, 1, 2, 7, 8, 29] ?_
    refine W_cond rfl (fun hc6 => ?_) (fun hc6 => ?_)
    · replace hp := cond_t hc6 hp
      refine s3 ?_
      refine L_buildSlice1 rfl rfl el34.h rfl (by decide) (by decide) rfl (fun bb32 => ?_)
      replace hp := ba hp; obtain ⟨y8, hy8, hp⟩ := hp
      refine L_app1F (X := v3_0) (v3_1 : Int) rfl rfl rfl el34.h rfl rfl pk mm  hy8 (by decide) (fun X7 hdX7 => ?_)
      subst hdX7
      refine s7 ?_
      exact ⟨(X7, IntKind.wrap .i64 (v3_1 + 1)), sb, (.sub ms), some_eq hp⟩
    · replace hp := cond_f hc6 hp
      refine s6 ?_
      exact ⟨(v3_0, IntKind.wrap .i64 (v3_1 + 1)), sb, (.sub ms), some_eq hp⟩
  · replace hp := cond_f hc4 hp
    refine W_exit ?_
    replace hp := map_any hp; obtain ⟨a9, hp, hx_a9⟩ := hp
    obtain rfl := hx3 _ hx_a9
    refine s5 ?_
    obtain rfl := Option.some.inj hp
    refine s1 ?_
    refine res1 rfl (ResOK.tmp rfl) ⟨v3_0, rfl, rfl, rfl⟩ ms
noncomputable def s_l18Copy (a0 : D_Ups) : Option D_Ups :=
  whileP (fun s1 : Int × (List D_Up) => cond (decide (s1.1 < (a0.2.length : Int))) (Option.bind (idx a0.2 s1.1) (fun y3 => Option.bind (some ([] : List Int)) (fun y5 => Option.bind (appP y5 y3.2.1) (fun y7 => Option.bind (appP s1.2 [(y3.1, y7, y3.2.2)]) (fun y9 => some (.inl ((IntKind.wrap .i64 (s1.1 + 1), y9)))))))) (Option.map .inr (some (a0.1, s1.2)))) (0, ([] : List D_Up))
theorem s_l18Copy_walk (w : World) (a0 : T_Ups) (h0 : GT.rd w [] a0) (r : D_Ups) (hp : s_l18Copy (GT.dat a0) = some r) : Spec Try.prog 103 [.agg (GT.cells a0).toArray].toArray w [] (fun v M => ∃ (x0 : T_Ups), v = .agg (GT.cells x0).toArray ∧ GT.dat x0 = r ∧ M = [treeH x0]) := by
  obtain ⟨a0_1, a0_2⟩ := a0
  change Spec _ _ ([Value.agg #[.int .i64 a0_1, (TL.hdr a0_2)]] : List Value).toArray w [] _
  refine Spec.intro Try.func103 rfl Try.ntmps103 rfl ?_
  unfold s_l18Copy at hp
  replace hp := dd hp
  refine s2 ?_
  refine bx fun bk1 => ?_
  refine al fun bk2 => ?_
  refine s5 ?_
  refine L_build (xs := [(0, .tmp 7)]) (cs := [.int .i64 a0_1, (TL.hdr (TL.nil T_Up 0))]) rfl rfl bld71.h rfl ?_
  refine al fun bk3 => ?_
  refine s8 ?_
  refine W_conv (M' := treeH (TL.nil T_Up 0) :: _) (fun w h => addNilT (τ := T_Up) 0 h) ?_
  refine W_while (σ := Int × (TL T_Up)) GT.dat (fun ((v1_0, v1_1) : Int × (TL T_Up)) => [(4, .int .i64 v1_0)]) (fun ((v1_0, v1_1) : Int × (TL T_Up)) => [blk bk3 [.int .i64 a0_1, (TL.hdr v1_1)] 71, treeH v1_1]) [(1, _), (2, _), (3, _)] [blk bk1 _ _, blk bk2 _ _] (0, (TL.nil T_Up 0)) hp sb ms ?_
  clear hp
  rintro ⟨v1_0, v1_1⟩ x1 hp hx1
  replace hp := dd hp
  refine kq [1, 2, 3, 4] ?_
  refine s9 ?_
  refine kp [1, 2, 3, 4, 13] ?_
  refine W_cond rfl (fun hc2 => ?_) (fun hc2 => ?_)
  · replace hp := cond_t hc2 hp
    refine s8 ?_
    replace hp := idx_bind hp; obtain ⟨⟨u3_1, u3_2, u3_3⟩, hy3, hp⟩ := hp
    refine L_idxA (X := a0_2) rfl rfl rfl el69.h (RdT.old h0.2) hy3 ?_
    refine L_loadW rfl rfl (RdT.at (RdT.old h0.2) (hy3).2) (by exact agg129.h) ?_
    refine al fun bk5 => ?_
    refine s4 ?_
    replace hp := ba hp; obtain ⟨y5, hy5, hp⟩ := hp
    refine L_mk0 Int rfl el34.h (fun X4 hdX4 => ?_)
    obtain rfl : GT.dat X4 = y5 := hdX4.trans (Option.some.inj hy5)
    clear hy5 hdX4
    refine s2 ?_
    replace hp := ba hp; obtain ⟨y7, hy7, hp⟩ := hp
    refine L_appT (X := X4) (Y := u3_2) rfl rfl rfl el34.h rfl rfl pk (RdT.fst (RdT.snd (RdT.of (RdT.old h0.2) (hy3).2))) hy7 (by decide) (fun X6 hdX6 => ?_)
    subst hdX6
    refine s7 ?_
    refine L_buildSlice1 rfl rfl el69.h rfl (by decide) (by decide) rfl (fun bb29 => ?_)
    replace hp := ba hp; obtain ⟨y9, hy9, hp⟩ := hp
    refine jL ((u3_1, X6, u3_3) : T_Up) ?_
    refine L_app1 (X := v1_1) ((u3_1, X6, u3_3) : T_Up) rfl rfl rfl el69.h rfl rfl pk mm pk hy9 (by decide) (fun X8 hdX8 => ?_)
    subst hdX8
    refine s8 ?_
    exact ⟨(IntKind.wrap .i64 (v1_0 + 1), X8), sb, (.sub ms), some_eq hp⟩
  · replace hp := cond_f hc2 hp
    refine W_exit ?_
    replace hp := map_any hp; obtain ⟨a10, hp, hx_a10⟩ := hp
    obtain rfl := hx1 _ hx_a10
    refine s5 ?_
    obtain rfl := Option.some.inj hp
    refine jW ((a0_1, v1_1) : T_Ups) ?_
    refine s1 ?_
    refine res1 rfl (ResOK.cell rfl mm (by exact agg71.h)) ⟨(a0_1, v1_1), rfl, rfl, rfl⟩ ms
noncomputable def s_l18Set (a0 : D_Ups) (a1 : D_Up) : Option D_Ups :=
  whileP (fun s1 : Bool × Int × (List D_Up) => cond (decide (s1.2.1 < (a0.2.length : Int))) (jbind (gb (!s1.1) (idx a0.2 s1.2.1) (fun y4 => cond ((!s1.1) && (!sLt y4.1 a1.1)) (Option.bind (appP s1.2.2 [(a1.1, a1.2.1, a1.2.2)]) (fun y7 => some (.inl ((true, y7))))) (some (.inl ((s1.1, s1.2.2)))))) (fun s3 : Bool × (List D_Up) => Option.bind (idx a0.2 s1.2.1) (fun y8 => cond (!decide (y8.1 = a1.1)) (Option.bind (idx a0.2 s1.2.1) (fun y10 => Option.bind (appP s3.2 [(y10.1, y10.2.1, y10.2.2)]) (fun y12 => some (.inl ((s3.1, IntKind.wrap .i64 (s1.2.1 + 1), y12)))))) (some (.inl ((s3.1, IntKind.wrap .i64 (s1.2.1 + 1), s3.2))))))) (Option.map .inr (cond (!s1.1) (Option.bind (appP s1.2.2 [(a1.1, a1.2.1, a1.2.2)]) (fun y16 => some (a0.1, y16))) (some (a0.1, s1.2.2))))) (decide ((a1.2.1.length : Int) = 0), 0, ([] : List D_Up))
theorem s_l18Set_walk (w : World) (a0 : T_Ups) (a1 : T_Up)  (r : D_Ups) (hp : s_l18Set (GT.dat a0) (GT.dat a1) = some r) : Spec Try.prog 102 [.agg (GT.cells a0).toArray, .agg (GT.cells a1).toArray].toArray w [treeH a0.2, treeH a1.2.1] (fun v M => ∃ (x0 : T_Ups), v = .agg (GT.cells x0).toArray ∧ GT.dat x0 = r ∧ M = [treeH x0]) := by
  obtain ⟨a0_1, a0_2⟩ := a0
  obtain ⟨a1_1, a1_2, a1_3⟩ := a1
  change Spec _ _ ([Value.agg #[.int .i64 a0_1, (TL.hdr a0_2)], Value.agg #[.string a1_1, (TL.hdr a1_2), .int .i64 a1_3]] : List Value).toArray w _ _
  refine Spec.intro Try.func102 rfl Try.ntmps102 rfl ?_
  unfold s_l18Set at hp
  replace hp := dd hp
  refine s2 ?_
  refine bx fun bk2 => ?_
  refine bx fun bk3 => ?_
  refine al fun bk4 => ?_
  refine s5 ?_
  refine L_build (xs := [(0, .tmp 9)]) (cs := [.int .i64 a0_1, (TL.hdr (TL.nil T_Up 0))]) rfl rfl bld71.h rfl ?_
  refine al fun bk5 => ?_
  refine s16 ?_
  refine W_conv (M' := rowH a0_2 :: elsT (a0_2.els.drop 0) :: _) (fun w h => els_start pk h) ?_
  refine W_conv (M' := condH (decide (((GT.dat a1_2).length : Int) = 0)) (treeH a1_2) :: _) (fun w h => cond_in pk h) ?_
  refine W_conv (M' := treeH (TL.nil T_Up 0) :: _) (fun w h => addNilT (τ := T_Up) 0 h) ?_
  refine W_while (σ := Bool × Int × (TL T_Up)) GT.dat (fun ((v1_0, v1_1, v1_2) : Bool × Int × (TL T_Up)) => [(6, .bool v1_0), (7, .int .i64 v1_1)]) (fun ((v1_0, v1_1, v1_2) : Bool × Int × (TL T_Up)) => [blk bk5 [.int .i64 a0_1, (TL.hdr v1_2)] 71, treeH v1_2, elsT (a0_2.els.drop (v1_1.toNat)), condH v1_0 (treeH a1_2)]) [(2, _), (3, _), (4, _), (5, _)] [blk bk2 _ _, blk bk3 _ _, blk bk4 _ _, rowH a0_2] (decide (((GT.dat a1_2).length : Int) = 0), 0, (TL.nil T_Up 0)) hp sb ms ?_
  clear hp
  rintro ⟨v1_0, v1_1, v1_2⟩ x1 hp hx1
  replace hp := dd hp
  refine kq [2, 3, 4, 5, 6, 7] ?_
  refine s9 ?_
  refine kp [2, 3, 4, 5, 6, 7, 19] ?_
  refine W_cond rfl (fun hc2 => ?_) (fun hc2 => ?_)
  · replace hp := cond_t hc2 hp
    refine s3 ?_
    refine W_jn (σ := Bool × (TL T_Up)) GT.dat (fun ((v3_0, v3_1) : Bool × (TL T_Up)) => [(6, .bool v3_0)]) (fun ((v3_0, v3_1) : Bool × (TL T_Up)) => [blk bk5 [.int .i64 a0_1, (TL.hdr v3_1)] 71, treeH v3_1, elsT (a0_2.els.drop (v1_1.toNat)), condH v3_0 (treeH a1_2)]) [(2, .pointer (some ⟨bk2, 0, none⟩)), (3, .pointer (some ⟨bk3, 0, none⟩)), (4, .pointer (some ⟨bk4, 0, none⟩)), (5, .pointer (some ⟨bk5, 0, none⟩)), (7, .int .i64 v1_1)] [blk bk2 [.int .i64 a0_1, (TL.hdr a0_2)] 71, blk bk3 [.string a1_1, (TL.hdr a1_2), .int .i64 a1_3] 129, blk bk4 [.int .i64 0, (TL.hdr (TL.nil T_Up 0))] 71, rowH a0_2] hp ?_ ?_
    · clear hp
      intro x3 hp hx3
      refine s1 ?_
      replace hp := idx_gb hp; obtain ⟨⟨u4_1, u4_2, u4_3⟩, hy4, hp⟩ := hp
      refine W_D0 [34] mix (by kernel_rfl) rfl ?_
      refine s6 ?_
      refine D_idxR (X := a0_2) (GC.some rfl rfl) (OpV.s rfl) (OpV.s rfl) el69.h mm (fun hg => hy4 hg.2) ?_
      refine s1 ?_
      refine D_load (GC.some rfl rfl) (OpV.s rfl) (fun hg => RdC.row (X := a0_2) mm (hy4 hg.2).2) one9.h rfl ?_
      refine s19 ?_
      refine kp [2, 3, 4, 5, 6, 7, 34] ?_
      refine W_cond rfl (fun hc5 => ?_) (fun hc5 => ?_)
      · replace hp := cond_t hc5 hp
        refine s5 ?_
        refine L_buildSlice1 rfl rfl el69.h rfl (by decide) (by decide) rfl (fun bb38 => ?_)
        replace hp := ba hp; obtain ⟨y7, hy7, hp⟩ := hp
        refine L_conv (M' := treeH a1_2 :: _) (fun w h => cond_out pk (by first | exact bf1 hc2 | exact bf2 hc2 | exact bf1 hc5 | exact bf2 hc5) h) ?_
        refine jL ((a1_1, a1_2, a1_3) : T_Up) ?_
        refine L_app1 (X := v1_2) ((a1_1, a1_2, a1_3) : T_Up) rfl rfl rfl el69.h rfl rfl pk mm pk hy7 (by decide) (fun X6 hdX6 => ?_)
        subst hdX6
        refine s6 ?_
        exact ⟨(true, X6), sb, ⟨_, fun w h => (condH_true (h := treeH a1_2) h), ms⟩, some_eq hp⟩
      · replace hp := cond_f hc5 hp
        refine s1 ?_
        exact ⟨(v1_0, v1_2), sb, (.sub ms), some_eq hp⟩
    · clear hp
      rintro ⟨v3_0, v3_1⟩ hp
      replace hp := dd hp
      refine kq [2, 3, 4, 5, 6, 7] ?_
      refine s1 ?_
      replace hp := idx_bind hp; obtain ⟨⟨u8_1, u8_2, u8_3⟩, hy8, hp⟩ := hp
      refine W_D0 [49] mix (by kernel_rfl) rfl ?_
      refine s3 ?_
      refine D_idxR (X := a0_2) GC.none (OpV.t rfl) (OpV.t rfl) el69.h mm (fun hg => hy8) ?_
      refine s1 ?_
      refine D_load GC.none (OpV.t rfl) (fun hg => RdC.row (X := a0_2) mm (hy8).2) one9.h rfl ?_
      refine s14 ?_
      refine kp [2, 3, 4, 5, 6, 7, 49] ?_
      refine W_cond rfl (fun hc9 => ?_) (fun hc9 => ?_)
      · replace hp := cond_t hc9 hp
        replace hp := idx_bind hp; obtain ⟨u10, hy10, hp⟩ := hp
        obtain rfl : (u8_1, u8_2, u8_3) = u10 := Option.some.inj (hy8.2.symm.trans hy10.2)
        refine W_conv (M' := treeH (u8_1, u8_2, u8_3) :: elsT (a0_2.els.drop (v1_1.toNat + 1)) :: _) (fun w h => els_next hy8.2 pk h) ?_
        refine xW ((u8_1, u8_2, u8_3) : T_Up) ?_
        refine W_DS (pre := [_, _, _, _, _, _, _, _]) (suf := [_, _, _]) [51, 57] [] _ pc mix (by kernel_rfl) (by kernel_rfl) rfl ?_
        refine s5 ?_
        refine D_idxR (X := a0_2) GC.none (OpV.t rfl) (OpV.t rfl) el69.h mm (fun hg => hy8) ?_
        refine D_loadW GC.none (OpV.t rfl) (fun hg => RdC.row (X := a0_2) mm hy8.2) (by exact agg129.h) ?_
        refine D_bs1 (OpV.t rfl) el69.h rfl (by decide) (by decide) rfl ?_
        refine s1 ?_
        refine Give_R rfl rfl ?_
        rintro _ _ ⟨bb57, rfl, rfl⟩
        simp only [List.cons_append, List.nil_append]
        refine s8 ?_
        replace hp := ba hp; obtain ⟨y12, hy12, hp⟩ := hp
        refine jL ((u8_1, u8_2, u8_3) : T_Up) ?_
        refine L_app1 (X := v3_1) ((u8_1, u8_2, u8_3) : T_Up) rfl rfl rfl el69.h rfl rfl pk mm pk hy12 (by decide) (fun X11 hdX11 => ?_)
        subst hdX11
        refine s8 ?_
        exact ⟨(v3_0, IntKind.wrap .i64 (v1_1 + 1), X11), sb, ⟨_, fun w h => (els_step hy8 mm pk h), ms⟩, some_eq hp⟩
      · replace hp := cond_f hc9 hp
        refine s6 ?_
        exact ⟨(v3_0, IntKind.wrap .i64 (v1_1 + 1), v3_1), sb, ⟨_, fun w h => (els_skip hy8 mm pk h), ms⟩, some_eq hp⟩
  · replace hp := cond_f hc2 hp
    refine W_exit ?_
    replace hp := map_any hp; obtain ⟨a13, hp, hx_a13⟩ := hp
    obtain rfl := hx1 _ hx_a13
    refine s6 ?_
    refine kp [3, 4, 5, 61] ?_
    refine W_cond rfl (fun hc14 => ?_) (fun hc14 => ?_)
    · replace hp := cond_t hc14 hp
      refine s4 ?_
      refine L_buildSlice1 rfl rfl el69.h rfl (by decide) (by decide) rfl (fun bb65 => ?_)
      replace hp := ba hp; obtain ⟨y16, hy16, hp⟩ := hp
      refine L_conv (M' := treeH a1_2 :: _) (fun w h => cond_out pk (by first | exact bf1 hc14 | exact bf2 hc14) h) ?_
      refine jL ((a1_1, a1_2, a1_3) : T_Up) ?_
      refine L_app1 (X := v1_2) ((a1_1, a1_2, a1_3) : T_Up) rfl rfl rfl el69.h rfl rfl pk mm pk hy16 (by decide) (fun X15 hdX15 => ?_)
      subst hdX15
      refine s8 ?_
      obtain rfl := Option.some.inj hp
      refine jW ((a0_1, X15) : T_Ups) ?_
      refine s1 ?_
      refine res1 rfl (ResOK.cell rfl mm (by exact agg71.h)) ⟨(a0_1, X15), rfl, rfl, rfl⟩ ms
    · replace hp := cond_f hc14 hp
      refine s6 ?_
      obtain rfl := Option.some.inj hp
      refine jW ((a0_1, v1_2) : T_Ups) ?_
      refine s1 ?_
      refine res1 rfl (ResOK.cell rfl mm (by exact agg71.h)) ⟨(a0_1, v1_2), rfl, rfl, rfl⟩ ms
noncomputable def sl_Index_intint (a0 : List Int) (a1 : Int) : Option Int :=
  whileP (fun s1 : Int => cond (decide (s1 < (a0.length : Int))) (Option.bind (idx a0 s1) (fun y3 => cond (decide (a1 = y3)) (Option.map .inr (some s1)) (some (.inl (IntKind.wrap .i64 (s1 + 1)))))) (Option.map .inr (some (-1)))) 0
theorem sl_Index_intint_walk (w : World) (a0 : TL Int) (a1 : Int) (h0 : GT.rd w [] a0) (r : Int) (hp : sl_Index_intint (GT.dat a0) a1 = some r) : Spec Try.prog 143 [(TL.hdr a0), .int .i64 a1].toArray w [] (IsV (.int .i64 r)) := by
  refine Spec.intro Try.func143 rfl Try.ntmps143 rfl ?_
  unfold sl_Index_intint at hp
  replace hp := dd hp
  refine s12 ?_
  refine W_while (σ := Int) GT.dat (fun (v1_0 : Int) => [(8, .int .i64 v1_0)]) (fun (v1_0 : Int) => []) [(0, _), (1, _), (7, _)] [] 0 hp sb ms ?_
  clear hp
  rintro v1_0 x1 hp hx1
  replace hp := dd hp
  refine kq [0, 1, 7, 8] ?_
  refine s5 ?_
  refine kp [0, 1, 7, 8, 9] ?_
  refine W_cond rfl (fun hc2 => ?_) (fun hc2 => ?_)
  · replace hp := cond_t hc2 hp
    refine s13 ?_
    replace hp := idx_bind hp; obtain ⟨u3, hy3, hp⟩ := hp
    refine L_idxA (X := a0) rfl rfl rfl el34.h (RdT.old h0) hy3 ?_
    refine L_load0 rfl rfl (RdT.at (RdT.old h0) (hy3).2) one3.h rfl ?_
    refine s2 ?_
    refine kp [0, 1, 5, 7, 8, 16] ?_
    refine W_cond rfl (fun hc4 => ?_) (fun hc4 => ?_)
    · replace hp := cond_t hc4 hp
      refine s5 ?_
      replace hp := map_any hp; obtain ⟨a5, hp, hx_a5⟩ := hp
      obtain rfl := hx1 _ hx_a5
      obtain rfl := Option.some.inj hp
      refine s1 ?_
      refine res1 rfl (ResOK.tmp rfl) ⟨rfl, rfl⟩ ms
    · replace hp := cond_f hc4 hp
      refine s5 ?_
      exact ⟨IntKind.wrap .i64 (v1_0 + 1), sb, (.sub ms), some_eq hp⟩
  · replace hp := cond_f hc2 hp
    refine W_exit ?_
    replace hp := map_any hp; obtain ⟨a6, hp, hx_a6⟩ := hp
    obtain rfl := hx1 _ hx_a6
    refine s4 ?_
    obtain rfl := Option.some.inj hp
    refine s1 ?_
    refine res1 rfl (ResOK.tmp rfl) ⟨rfl, rfl⟩ ms
noncomputable def sl_Contains_intint (a0 : List Int) (a1 : Int) : Option Bool :=
  Option.bind (sl_Index_intint a0 a1) (fun y1 => some (decide (0 ≤ y1)))
theorem sl_Contains_intint_walk (w : World) (a0 : TL Int) (a1 : Int) (h0 : GT.rd w [] a0) (r : Bool) (hp : sl_Contains_intint (GT.dat a0) a1 = some r) : Spec Try.prog 105 [(TL.hdr a0), .int .i64 a1].toArray w [] (IsV (.bool r)) := by
  refine Spec.intro Try.func105 rfl Try.ntmps105 rfl ?_
  unfold sl_Contains_intint at hp
  replace hp := dd hp
  refine s8 ?_
  replace hp := ba hp; obtain ⟨y1, hy1, hp⟩ := hp
  refine L_callX rfl fn143.h rfl (by exact fun w hw => sl_Index_intint_walk w a0 a1 (RdT.now (RdT.old h0) hw) _ hy1) ?_
  refine s3 ?_
  obtain rfl := Option.some.inj hp
  refine s1 ?_
  refine res1 rfl (ResOK.tmp rfl) ⟨rfl, rfl⟩ ms
end Go.Proofs.SL
namespace Go.Proofs.SL
open Go
theorem isRep_eq (x : Int) : i_isRep x = some (decide (0 ≤ x ∧ x < 3)) := by
  unfold i_isRep
  rw [within_eq, show decide (0 ≤ x ∧ x ≤ 2) = decide (0 ≤ x ∧ x < 3) by rw [Bool.eq_iff_iff]; simp; omega]; rfl
theorem l9Node_eq (x : Int) : s_l9Node x = some (decide (0 ≤ x ∧ x < 3)) := by unfold s_l9Node; rw [Bool.decide_and]
def nodeOk (ns : List Int) (k : Nat) : Bool := match ns[k]? with
  | none => false
  | some n => decide (0 ≤ n ∧ n < 3) && (decide (k = 0) || (ns[k - 1]?).all fun r => decide (r < n))
def nodesOk (ns : List Int) : Bool := (List.range ns.length).all (nodeOk ns)
theorem firstI_any {α : Type} (p : α → Bool) (l : List α) : decide (0 ≤ firstI p l) = l.any p := by
  rcases firstI_find p l with ⟨h1, h2⟩ | ⟨k, x, h1, h2, h3, _⟩
  · rw [h1]
    cases h : l.any p with
    | false => rfl
    | true =>
      obtain ⟨x, hx, hp⟩ := List.any_eq_true.1 h
      exact absurd hp (List.find?_eq_none.1 h2 x hx)
  · rw [h1, show decide (0 ≤ (k : Int)) = true by simp]
    symm
    exact List.any_eq_true.2 ⟨x, List.mem_of_getElem? h2, List.find?_some h3⟩
theorem foldl_filter' {β : Type} (p : β → Bool) : ∀ (xs acc : List β), xs.foldl (fun t x => if p x then t ++ [x] else t) acc = acc ++ xs.filter p
  | [], acc => by simp
  | x :: xs, acc => by
    rw [List.foldl_cons]
    cases hp : p x with
    | true => simp only [if_true]; rw [foldl_filter' p xs]; simp [hp]
    | false => simp only [Bool.false_eq_true, if_false]; rw [foldl_filter' p xs]; simp [hp]
/-- What right uploads hold. -/
theorem nodesOk_facts {ns : List Int} (h : nodesOk ns = true) : (∀ n, n ∈ ns → 0 ≤ n ∧ n < 3) ∧ ns.Pairwise (· < ·) := by
  unfold nodesOk at h
  simp only [List.all_eq_true, List.mem_range] at h
  have h1 : ∀ n, n ∈ ns → 0 ≤ n ∧ n < 3 := fun n hn => by
    obtain ⟨k, hk⟩ := List.getElem?_of_mem hn
    have := h k (List.getElem?_eq_some_iff.1 hk).1
    unfold nodeOk at this
    rw [hk] at this
    simp only [Bool.and_eq_true, decide_eq_true_eq] at this
    exact this.1
  refine ⟨h1, pairwise_of_step (R := (· < ·)) (fun a b c => Int.lt_trans) ns fun k hk => ?_⟩
  have := h (k + 1) hk
  unfold nodeOk at this
  rw [List.getElem?_eq_getElem hk] at this
  simp only [Bool.and_eq_true, decide_eq_true_eq, Bool.or_eq_true, Nat.add_sub_cancel, List.getElem?_eq_getElem (show k < ns.length by omega), Option.all_some] at this
  rcases this.2 with h2 | h2
  · omega
  · exact h2
theorem sorted_le : ∀ {l : List Int} {a b : Int}, l.Pairwise (· < ·) → (∀ n, n ∈ l → a ≤ n ∧ n < b) → (l.length : Int) ≤ max 0 (b - a)
  | [], a, b, _, _ => by simp; omega
  | x :: l, a, b, h1, h2 => by
    obtain ⟨h3, h4⟩ := List.pairwise_cons.1 h1
    have hx := h2 x (List.mem_cons_self ..)
    have := sorted_le (a := x + 1) (b := b) h4 (fun n hn => ⟨by have := h3 n hn; omega, (h2 n (List.mem_cons_of_mem _ hn)).2⟩)
    simp only [List.length_cons]
    omega
theorem nodes_le {l : List Int} (h1 : ∀ n, n ∈ l → 0 ≤ n ∧ n < 3) (h2 : l.Pairwise (· < ·)) : l.length ≤ 3 := by
  have := sorted_le h2 h1
  omega
end Go.Proofs.SL
namespace Go.Proofs.SL
open Go
def upOk (e : Int) (l : List D_Up) (k : Nat) : Bool := match l[k]? with
  | none => false
  | some x => decide ((x.1.size : Int) = 8) && (decide (k = 0) || (l[k - 1]?).all fun r => sLt r.1 x.1) && !decide ((x.2.1.length : Int) = 0) && decide (0 ≤ x.2.2 ∧ x.2.2 ≤ e) && nodesOk x.2.1
def upsOkB (u : D_Ups) : Bool := decide (0 ≤ u.1 ∧ u.1 ≤ 1000) && decide (u.2.length ≤ 20) && (List.range u.2.length).all (upOk u.1 u.2)
theorem s_UpsOk_eq {u : D_Ups} (ho : Ok.ok u) : s_UpsOk u = some (upsOkB u) := by
  obtain ⟨e, l⟩ := u
  have hl : l.length ≤ 9223372036854775807 := ho.2.1
  have hl2 : ∀ x, x ∈ l → Ok.ok x := ho.2.2
  unfold s_UpsOk upsOkB
  simp only [l1In_eq, l9Node_eq, Option.bind_some]
  rw [whileP_all (n := l.length) (upOk e l) (some false) (some true)]
  · have h9 : decide (20 < (l.length : Int)) = !decide (l.length ≤ 20) := by rw [Bool.eq_iff_iff]; simp; omega
    rw [h9]
    cases decide (0 ≤ e ∧ e ≤ 1000) <;> cases decide (l.length ≤ 20) <;> cases (List.range l.length).all (upOk e l) <;> rfl
  · intro k hk
    have hx : l[k]? = some l[k] := List.getElem?_eq_getElem hk
    generalize l[k] = x at hx
    have hn : x.2.1.length ≤ 9223372036854775807 := (hl2 x (List.mem_of_getElem? hx)).2.1.1
    simp only [lt_dec hk, cond_true, idx_nat, hx, Option.bind_some, gbs]
    rw [whileP_all (n := x.2.1.length) (nodeOk x.2.1) (some (.inr false)) (some (.inl ((k + 1 : Nat) : Int)))]
    · have hno : (List.range x.2.1.length).all (nodeOk x.2.1) = nodesOk x.2.1 := rfl
      unfold upOk
      simp only [hx, hno]
      rcases Nat.eq_zero_or_pos k with h0 | h0
      · subst h0
        rw [gb_none _ _ _ (by simp)]
        cases decide ((x.1.size : Int) = 8) <;> cases decide ((x.2.1.length : Int) = 0) <;> cases decide (0 ≤ x.2.2 ∧ x.2.2 ≤ e) <;> cases nodesOk x.2.1 <;> simp
      · obtain ⟨r, hr1, hr2⟩ := prev_idx' hk hl h0
        have h5 : decide (0 < (k : Int)) = true := by simp; omega
        have h6 : decide (k = 0) = false := by simp; omega
        rw [hr1, hr2, h5, h6, gbs]
        simp only [Option.all_some]
        by_cases h7 : sLt r.1 x.1 = true <;> cases decide ((x.1.size : Int) = 8) <;> cases decide ((x.2.1.length : Int) = 0) <;> cases decide (0 ≤ x.2.2 ∧ x.2.2 ≤ e) <;> cases nodesOk x.2.1 <;> simp [h7]
    · intro j hj
      have hy : x.2.1[j]? = some x.2.1[j] := List.getElem?_eq_getElem hj
      generalize x.2.1[j] = y at hy
      simp only [lt_dec hj, cond_true, idx_nat, hy, Option.bind_some, gbs, wrap_succ (show j < 9223372036854775807 by omega)]
      unfold nodeOk
      simp only [hy]
      rcases Nat.eq_zero_or_pos j with h0 | h0
      · subst h0
        rw [gb_none _ _ _ (by simp)]
        cases decide (0 ≤ y ∧ y < 3) <;> simp
      · obtain ⟨r, hr1, hr2⟩ := prev_idx' hj hn h0
        have h5 : decide (0 < (j : Int)) = true := by simp; omega
        have h6 : decide (j = 0) = false := by simp; omega
        rw [hr1, hr2, h5, h6, gbs]
        simp only [Option.all_some]
        by_cases h7 : r < y
        · have h8 : decide (y ≤ r) = false := by simp; omega
          cases decide (0 ≤ y ∧ y < 3) <;> simp [h7, h8]
        · have h8 : decide (y ≤ r) = true := by simp; omega
          cases decide (0 ≤ y ∧ y < 3) <;> simp [h7, h8]
    · simp only [ge_dec, cond_false, wrap_succ (show k < 9223372036854775807 by omega)]
  · simp only [ge_dec]; rfl
theorem i_UpsOk_eq {u : D_Ups} (ho : Ok.ok u) : i_UpsOk u = some (upsOkB u) := by
  obtain ⟨e, l⟩ := u
  have hl : l.length ≤ 9223372036854775807 := ho.2.1
  have hl2 : ∀ x, x ∈ l → Ok.ok x := ho.2.2
  unfold i_UpsOk upsOkB
  simp only [within_eq, isRep_eq, Option.bind_some]
  rw [whileP_all (n := l.length) (upOk e l) (some false) (some (decide (0 ≤ e ∧ e ≤ 1000) && decide (l.length ≤ 20)))]
  · cases decide (0 ≤ e ∧ e ≤ 1000) <;> cases decide (l.length ≤ 20) <;> cases (List.range l.length).all (upOk e l) <;> rfl
  · intro k hk
    have hx : l[k]? = some l[k] := List.getElem?_eq_getElem hk
    generalize l[k] = x at hx
    have hn : x.2.1.length ≤ 9223372036854775807 := (hl2 x (List.mem_of_getElem? hx)).2.1.1
    simp only [lt_dec hk, cond_true, idx_nat, hx, Option.bind_some, gbs]
    rw [whileP_all (n := x.2.1.length) (nodeOk x.2.1) (some (.inr false)) (some (.inl ((k + 1 : Nat) : Int)))]
    · have hno : (List.range x.2.1.length).all (nodeOk x.2.1) = nodesOk x.2.1 := rfl
      unfold upOk
      simp only [hx, hno]
      rcases Nat.eq_zero_or_pos k with h0 | h0
      · subst h0
        rw [gb_none _ _ _ (by simp)]
        cases decide ((x.1.size : Int) = 8) <;> cases decide ((x.2.1.length : Int) = 0) <;> cases decide (0 ≤ x.2.2 ∧ x.2.2 ≤ e) <;> cases nodesOk x.2.1 <;> simp
      · obtain ⟨r, hr1, hr2⟩ := prev_idx' hk hl h0
        have h5 : decide (0 < (k : Int)) = true := by simp; omega
        have h6 : decide (k = 0) = false := by simp; omega
        rw [hr1, hr2, h5, h6, gbs]
        simp only [Option.all_some]
        by_cases h7 : sLt r.1 x.1 = true <;> cases decide ((x.1.size : Int) = 8) <;> cases decide ((x.2.1.length : Int) = 0) <;> cases decide (0 ≤ x.2.2 ∧ x.2.2 ≤ e) <;> cases nodesOk x.2.1 <;> simp [h7]
    · intro j hj
      have hy : x.2.1[j]? = some x.2.1[j] := List.getElem?_eq_getElem hj
      generalize x.2.1[j] = y at hy
      simp only [lt_dec hj, cond_true, idx_nat, hy, Option.bind_some, gbs, wrap_succ (show j < 9223372036854775807 by omega)]
      unfold nodeOk
      simp only [hy]
      rcases Nat.eq_zero_or_pos j with h0 | h0
      · subst h0
        rw [gb_none _ _ _ (by simp)]
        cases decide (0 ≤ y ∧ y < 3) <;> simp
      · obtain ⟨r, hr1, hr2⟩ := prev_idx' hj hn h0
        have h5 : decide (0 < (j : Int)) = true := by simp; omega
        have h6 : decide (j = 0) = false := by simp; omega
        rw [hr1, hr2, h5, h6, gbs]
        simp only [Option.all_some]
        by_cases h7 : r < y
        · have h8 : decide (y ≤ r) = false := by simp; omega
          cases decide (0 ≤ y ∧ y < 3) <;> simp [h7, h8]
        · have h8 : decide (y ≤ r) = true := by simp; omega
          cases decide (0 ≤ y ∧ y < 3) <;> simp [h7, h8]
    · simp only [ge_dec, cond_false, wrap_succ (show k < 9223372036854775807 by omega)]
  · have h9 : decide ((l.length : Int) ≤ 20) = decide (l.length ≤ 20) := by rw [Bool.eq_iff_iff]; simp; omega
    simp only [ge_dec, cond_false, h9]
/-- The first upload of a chunk. -/
def upFind (u : D_Ups) (c : ByteArray) : Option D_Up := u.2.find? fun x => decide (x.1 = c)
theorem s_l18At_eq {u : D_Ups} {c : ByteArray} (h : u.2.length ≤ 9223372036854775807) : s_l18At u c = some (firstI (fun x : D_Up => decide (x.1 = c)) u.2) := by
  unfold s_l18At
  rw [whileP_find (fun x : D_Up => decide (x.1 = c)) some h]
  · intro k x hx
    simp only [lt_dec (List.getElem?_eq_some_iff.1 hx).1, cond_true, idx_nat, hx, Option.bind_some]
    cases decide (x.1 = c) <;> rfl
  · simp only [ge_dec]; rfl
theorem i_Ups_at_eq {u : D_Ups} {c : ByteArray} (h : u.2.length ≤ 9223372036854775807) : i_Ups_at u c = some (firstI (fun x : D_Up => decide (x.1 = c)) u.2) := by
  unfold i_Ups_at sl_IndexFunc_implUpimplUp i_Ups_at_c1
  rw [whileP_find (fun x : D_Up => decide (x.1 = c)) some h]
  · rfl
  · intro k x hx
    simp only [lt_dec (List.getElem?_eq_some_iff.1 hx).1, cond_true, idx_nat, hx, Option.bind_some]
    cases decide (x.1 = c) <;> rfl
  · simp only [ge_dec]; rfl
def upNodes (u : D_Ups) (c : ByteArray) : List Int := match upFind u c with
  | some x => x.2.1
  | none => []
theorem i_Ups_nodes_eq {u : D_Ups} {c : ByteArray} (h : u.2.length ≤ 9223372036854775807) : i_Ups_nodes u c = some (upNodes u c) := by
  unfold i_Ups_nodes upNodes upFind
  simp only [Prod.eta, i_Ups_at_eq h, Option.bind_some]
  rcases firstI_find (fun x : D_Up => decide (x.1 = c)) u.2 with ⟨h1, h2⟩ | ⟨k, x, h1, h2, h3, _⟩
  · rw [h1, h2]; rfl
  · rw [h1, h3]
    simp only [show decide (0 ≤ (k : Int)) = true by simp, cond_true, idx_nat, h2, Option.bind_some]
end Go.Proofs.SL
namespace Go.Proofs.SL
open Go
theorem l18Has_eq {l : List Int} {n : Int} (h : l.length ≤ 9223372036854775807) : s_l18Has l n = some (l.any fun x => decide (x = n)) := by
  unfold s_l18Has
  rw [whileP_find (fun x => decide (x = n)) (fun i => some (decide (0 ≤ i))) h, firstI_any]
  · intro k x hx
    simp only [lt_dec (List.getElem?_eq_some_iff.1 hx).1, cond_true, idx_nat, hx, Option.bind_some]
    cases decide (x = n) <;> simp
  · simp only [ge_dec]; rfl
theorem contains_eq {l : List Int} {n : Int} (h : l.length ≤ 9223372036854775807) : sl_Contains_intint l n = some (l.any fun x => decide (x = n)) := by
  unfold sl_Contains_intint sl_Index_intint
  rw [whileP_find (fun x => decide (x = n)) some h]
  · rw [Option.bind_some, firstI_any]
  · intro k x hx
    simp only [lt_dec (List.getElem?_eq_some_iff.1 hx).1, cond_true, idx_nat, hx, Option.bind_some, eq_comm (a := n)]
    cases decide (x = n) <;> rfl
  · simp only [ge_dec]; rfl
/-- The nodes that have it, and one more, or one less. -/
def withL (l : List Int) (n : Int) (b : Bool) : List Int := [0, 1, 2].filter fun k => (decide (k = n) && b) || (!decide (k = n) && l.any fun x => decide (x = k))
theorem l18With_eq {l : List Int} {n : Int} {b : Bool} (h : l.length ≤ 9223372036854775807) : s_l18With l n b = some (withL l n b) := by
  unfold s_l18With
  simp only [Option.bind_some]
  rw [whileP_for (l := [0, 1, 2]) (fun k (t : List Int) => (t, (k : Int))) (fun t x => .inl (if ((decide (x = n) && b) || (!decide (x = n) && l.any fun y => decide (y = x))) then t ++ [x] else t)) (fun t => some t) (fun k t => t.length ≤ k) [] (s0 := ([], 0)) rfl (Nat.le_refl _), goE_fold, foldl_filter']
  · rfl
  · intro k t x hx hI
    have hk : k < 3 ∧ x = (k : Int) := by
      match k, hx with
      | 0, hx => cases hx; simp
      | 1, hx => cases hx; simp
      | 2, hx => cases hx; simp
    obtain ⟨hk, rfl⟩ := hk
    refine .inl ⟨_, rfl, ?_, ?_⟩
    · simp only [show decide ((k : Int) < 3) = true by simp; omega, cond_true, l18Has_eq h, wrap_succ (show k < 9223372036854775807 by omega)]
      rw [appP_ok (by simp; omega)]
      cases decide ((k : Int) = n) <;> cases b <;> cases (l.any fun y => decide (y = (k : Int))) <;> rfl
    · split
      · simp; omega
      · omega
  · intro t ht
    rfl
theorem s_l18Copy_eq {d : D_Ups} (h1 : d.2.length ≤ 1000) (h2 : ∀ s, s ∈ d.2 → s.2.1.length ≤ 1000) : s_l18Copy d = some d := by
  obtain ⟨a, l⟩ := d
  unfold s_l18Copy
  rw [whileP_for (l := l) (fun k (t : List D_Up) => ((k : Int), t)) (fun t x => .inl (t ++ [x])) (fun t => some (a, t)) (fun k t => t.length = k) [] (s0 := (0, [])) rfl rfl, goE_app]
  · rfl
  · intro k t x hx ht
    have hlt := (List.getElem?_eq_some_iff.1 hx).1
    have hm := h2 x (List.mem_of_getElem? hx)
    dsimp only at h1 hm ht
    refine .inl ⟨t ++ [x], rfl, ?_, by simp [ht]⟩
    simp only [lt_dec hlt, cond_true, idx_nat, hx, Option.bind_some, appP_ok (a := ([] : List Int)) (b := x.2.1) (by simp; omega), List.nil_append, wrap_succ (show k < 9223372036854775807 by omega)]
    rw [appP_ok (by simp; omega)]; rfl
  · intro t ht
    simp
theorem i_copyUps_eq {d : D_Ups} (h1 : d.2.length ≤ 1000) (h2 : ∀ s, s ∈ d.2 → s.2.1.length ≤ 1000) : i_copyUps d = some d := by
  obtain ⟨a, l⟩ := d
  unfold i_copyUps
  rw [whileP_for (l := l) (fun k (t : List D_Up) => ((k : Int), t)) (fun t x => .inl (t ++ [x])) (fun t => some (a, t)) (fun k t => t.length = k) [] (s0 := (0, [])) rfl rfl, goE_app]
  · rfl
  · intro k t x hx ht
    have hlt := (List.getElem?_eq_some_iff.1 hx).1
    have hm := h2 x (List.mem_of_getElem? hx)
    dsimp only at h1 hm ht
    refine .inl ⟨t ++ [x], rfl, ?_, by simp [ht]⟩
    simp only [lt_dec hlt, cond_true, idx_nat, hx, Option.bind_some, appP_ok (a := ([] : List Int)) (b := x.2.1) (by simp; omega), List.nil_append, wrap_succ (show k < 9223372036854775807 by omega)]
    rw [appP_ok (by simp; omega)]; rfl
  · intro t ht
    simp
theorem upsOk_facts {d : D_Ups} (h : upsOkB d = true) : (0 ≤ d.1 ∧ d.1 ≤ 1000) ∧ d.2.length ≤ 20 ∧ (∀ x, x ∈ d.2 → x.1.size = 8 ∧ x.2.1.length ≠ 0 ∧ (0 ≤ x.2.2 ∧ x.2.2 ≤ d.1) ∧ nodesOk x.2.1 = true) ∧ d.2.Pairwise (fun a b => sLt a.1 b.1 = true) := by
  unfold upsOkB at h
  simp only [Bool.and_eq_true, decide_eq_true_eq, List.all_eq_true, List.mem_range] at h
  refine ⟨h.1.1, h.1.2, fun x hx => ?_, pairwise_of_step (R := fun a b : D_Up => sLt a.1 b.1 = true) (fun a b c => sLt_trans) d.2 fun k hk => ?_⟩
  · obtain ⟨k, hk⟩ := List.getElem?_of_mem hx
    have := h.2 k (List.getElem?_eq_some_iff.1 hk).1
    unfold upOk at this
    rw [hk] at this
    simp only [Bool.and_eq_true, decide_eq_true_eq, Bool.not_eq_true', decide_eq_false_iff_not] at this
    exact ⟨by omega, by omega, this.1.2, this.2⟩
  · have := h.2 (k + 1) hk
    unfold upOk at this
    rw [List.getElem?_eq_getElem hk] at this
    simp only [Bool.and_eq_true, decide_eq_true_eq, Bool.or_eq_true, Nat.add_sub_cancel, List.getElem?_eq_getElem (show k < d.2.length by omega), Option.all_some] at this
    rcases this.1.1.1.2 with h2 | h2
    · omega
    · exact h2
end Go.Proofs.SL
namespace Go.Proofs.SL
open Go
/-- Setting the upload of a chunk. -/
def setU (x : D_Up) : List D_Up → List D_Up
  | [] => [x]
  | y :: ys => if sLt y.1 x.1 then y :: setU x ys else x :: (y :: ys).filter fun z => !decide (z.1 = x.1)
def setStep (x : D_Up) (t : Bool × List D_Up) (y : D_Up) : Bool × List D_Up :=
  let t1 := if !t.1 && !sLt y.1 x.1 then (true, t.2 ++ [x]) else t
  if decide (y.1 = x.1) then t1 else (t1.1, t1.2 ++ [y])
theorem setStep_put (x : D_Up) : ∀ (ys acc : List D_Up), ys.foldl (setStep x) (true, acc) = (true, acc ++ ys.filter fun z => !decide (z.1 = x.1))
  | [], acc => by simp
  | y :: ys, acc => by
    rw [List.foldl_cons]
    unfold setStep
    simp only [Bool.not_true, Bool.false_and, Bool.false_eq_true, if_false]
    cases h : decide (y.1 = x.1) with
    | true => simp only [if_true]; rw [show (true, acc) = ((true, acc) : Bool × List D_Up) from rfl]; have := setStep_put x ys acc; unfold setStep at this; simp only at this ⊢; rw [this]; simp [h]
    | false => have := setStep_put x ys (acc ++ [y]); unfold setStep at this; simp only [Bool.false_eq_true, if_false] at this ⊢; rw [this]; simp [h]
theorem setStep_false (x : D_Up) : ∀ (ys acc : List D_Up), (let t := ys.foldl (setStep x) (false, acc); if !t.1 then t.2 ++ [x] else t.2) = acc ++ setU x ys
  | [], acc => by simp [setU]
  | y :: ys, acc => by
    rw [List.foldl_cons]
    cases h : sLt y.1 x.1 with
    | true =>
      have h1 : decide (y.1 = x.1) = false := decide_eq_false (sLt_ne h)
      have : setStep x (false, acc) y = (false, acc ++ [y]) := by unfold setStep; simp [h, h1]
      rw [this, setStep_false x ys (acc ++ [y])]
      simp [setU, h]
    | false =>
      have : setStep x (false, acc) y = setStep x (true, acc ++ [x]) y := by unfold setStep; simp [h]
      rw [this, ← List.foldl_cons, setStep_put]
      simp [setU, h]
theorem l18Set_eq {d : D_Ups} {x : D_Up} (h : d.2.length ≤ 1000) : s_l18Set d x = some (d.1, if x.2.1.length = 0 then d.2.filter (fun z => !decide (z.1 = x.1)) else setU x d.2) := by
  obtain ⟨e, l⟩ := d
  unfold s_l18Set
  rw [whileP_for (l := l) (fun k (t : Bool × List D_Up) => (t.1, (k : Int), t.2)) (fun t y => .inl (setStep x t y)) (fun t => some (e, if !t.1 then t.2 ++ [x] else t.2)) (fun k t => t.2.length ≤ 2 * k) (decide ((x.2.1.length : Int) = 0), []) (s0 := (decide ((x.2.1.length : Int) = 0), 0, [])) rfl (Nat.le_refl _), goE_fold]
  · by_cases h0 : x.2.1.length = 0
    · rw [if_pos h0, show decide ((x.2.1.length : Int) = 0) = true by simp [h0], setStep_put]; simp
    · rw [if_neg h0, show decide ((x.2.1.length : Int) = 0) = false by simp [h0]]
      have := setStep_false x l []
      rw [List.nil_append] at this
      exact congrArg (fun q => some (e, q)) this
  · intro k t y hy hI
    have hlt := (List.getElem?_eq_some_iff.1 hy).1
    dsimp only at h hI
    refine .inl ⟨_, rfl, ?_, ?_⟩
    · simp only [lt_dec hlt, cond_true, idx_nat, hy, Option.bind_some, wrap_succ (show k < 9223372036854775807 by omega), appP_ok (a := t.2) (b := [(x.1, x.2.1, x.2.2)]) (by simp; omega), gbs]
      unfold setStep
      obtain ⟨b, acc⟩ := t
      dsimp only at hI ⊢
      cases b <;> cases hs : sLt y.1 x.1 <;> cases hd : decide (y.1 = x.1) <;> (simp [jbind, gb, hs]; try rw [appP_ok (by simp; omega)]; try simp)
    · unfold setStep
      dsimp only
      split <;> split <;> (try simp) <;> omega
  · intro t ht
    dsimp only at h ht
    simp only [ge_dec, cond_false]
    obtain ⟨b, acc⟩ := t
    dsimp only at ht ⊢
    cases b
    · simp only [Bool.not_false, cond_true, if_true]
      rw [appP_ok (by simp; omega)]; rfl
    · rfl
end Go.Proofs.SL
namespace Go.Proofs.SL
open Go
set_option maxHeartbeats 2000000
end Go.Proofs.SL
namespace Go.Proofs.SL
open Go
variable {Γ : Cx} {l : Envl} {M M' M1 M2 F : List HP} {Q : Post} {K : Kont} {w0 w : World} {S0 : List Nat} {P : Program}
variable {rest : List Oper} {d : Nat} {ty : TypeId} {pos : String} {af : Array Edge}
def insP {δ : Type} (l : List δ) (i : Int) (x : δ) : Option (List δ) := if 0 ≤ i ∧ i ≤ l.length ∧ l.length + 1 ≤ 1048576 then some (l.take i.toNat ++ [x] ++ l.drop i.toNat) else none
theorem insP_some {δ : Type} {l r : List δ} {i : Int} {x : δ} (h : insP l i x = some r) : 0 ≤ i ∧ i ≤ l.length ∧ l.length + 1 ≤ 1048576 ∧ r = l.take i.toNat ++ [x] ++ l.drop i.toNat := by
  unfold insP at h
  split at h
  · rename_i hb; cases h; exact ⟨hb.1, hb.2.1, hb.2.2, rfl⟩
  · cases h
theorem L_capS {x : Operand} {T : TypeId} {e : TypeId × Nat × Nat × List Value} {a : Option Addr} {n c : Nat} (hn : Nat.blt d Γ.n = true) (hx : ev l x = some (.slice a n c)) (ht : elOf Γ.P T = some e)
    (hk : L Γ rest ((d, .int .i64 c) :: l) M K) :
    L Γ ({ dst := some d, op := .call { callee := .builtin .cap, args := #[x], argTypes := #[T] }, type := ty, pos := pos, after := af, guard := none } :: rest) l M K :=
  L_pure hn (fun a' w ha _ => by
    have : (Builtin.cap_ #[T] ty #[.slice a n c]).run Γ.P w = .ok (.int .i64 c) w := by
      unfold elOf at ht
      split at ht <;> (try cases ht)
      rename_i e' he
      simp [Builtin.cap_, underlying, he, goInt]
    simp [execOp, resolve, invoke, builtin, ha.eval hx, this]) hk
theorem elOf_parts {T e sz by_ : Nat} {z : List Value} (ht : elOf P T = some (e, sz, by_, z)) : P.underlying T = some (.slice e) ∧ ∃ i z', P.info? e = some i ∧ i.size = sz ∧ i.bytes = by_ ∧ i.zero = some z' ∧ z'.cells.toList = z := by
  unfold elOf at ht
  split at ht <;> (try cases ht)
  rename_i e' het
  split at ht <;> (try cases ht)
  rename_i i' hi'
  split at ht <;> cases ht
  rename_i z' hz'
  exact ⟨het, i', z', hi', rfl, rfl, hz', rfl⟩
/-- copy into a block of one's own. -/
theorem L_cpRaw {x y : Operand} {T e sz by_ g o n c m c2 q : Nat} {ad : Addr} {z cs vs : List Value} {e2 : TypeId} (hx : ev l x = some (.slice (some ⟨g, o, none⟩) n c)) (hy : ev l y = some (.slice (some ad) m c2))
    (hn : Nat.blt d Γ.n = true) (ht : elOf Γ.P T = some (e, sz, by_, z)) (hp : Pick (blk g cs e2) M M1) (hq : q = min m n) (hl : vs.length = q * sz)
    (hsrc : ∀ w, Sees Γ.w0 Γ.S0 M w → ∀ j v, vs[j]? = some v → w.cell? (ad.add j) = some v) (h1 : o + vs.length ≤ cs.length) (hone : ∀ u, u ∈ vs → u.oneCell' = true)
    (hk : L Γ rest ((d, goInt q) :: l) (blk g (cs.take o ++ vs ++ cs.drop (o + vs.length)) e2 :: M1) K) :
    L Γ ({ dst := some d, op := .call { callee := .builtin .copy, args := #[x, y], argTypes := #[T, T] }, type := ty, pos := pos, after := af, guard := none } :: rest) l M K := by
  refine L_step rfl rfl (Nat.le_of_ble_eq_true hn) (fun a w ha hw => ?_) hk
  obtain ⟨het, i', z', hi', rfl, rfl, hz', rfl⟩ := elOf_parts ht
  have hs := hsrc w hw.sees
  have hw1 := hw.perm hp.perm
  have hh : w.heap[g]? = some (.cells cs.toArray e2 (0, 0)) := hw1.prs (blk g cs e2) (List.mem_cons_self ..)
  have hld := run_loadCells_list (P := Γ.P) (w := w) ad vs hs
  have hst := run_store_blk (P := Γ.P) (fo := o) (vs := vs) (ty := 0) hh h1 hone
  subst hq
  rw [hl] at hld
  refine ⟨_, ?_, setRow_blk hw1⟩
  have hr : (Builtin.copy_ #[T, T] ty #[.slice (some ⟨g, o, none⟩) n c, .slice (some ad) m c2]).run Γ.P w = .ok (goInt (min m n)) (w.setRow g (cs.take o ++ vs ++ cs.drop (o + vs.length)).toArray) := by
    simp [Builtin.copy_, run_underlying het, Builtin.lenOf, Builtin.firstCells, sizeOf, typeInfo, hi', hld, hst]
    show goInt ((min m n : Nat) : Int) = _
    congr 1; omega
  simp [execOp, resolve, invoke, builtin, ha.eval hx, ha.eval hy, hr]
  first | done | rfl | (congr 1; rw [Nat.min_def]; omega) | (congr 1; omega) | skip
/-- append of a make where there is no room: a new row. -/
theorem L_appMk {s x : Operand} {T TI e sz by_ g n c k : Nat} {z cs : List Value} {e2 : TypeId} (hn : Nat.blt d Γ.n = true) (hs : ev l s = some (.slice (some ⟨g, 0, none⟩) n c)) (hx : ev l x = some (.int .i64 k))
    (ht : elOf Γ.P T = some (e, sz, by_, z)) (hti : Γ.P.underlying TI = some (.int .i64)) (hm : blk g cs e2 ∈ M) (hzl : z.length = sz) (hsz : 0 < sz) (hb : by_ ≤ 32768) (hk0 : 0 < k) (hroom : c < n + k) (hbd : n + k ≤ 4294967296) (hc : n * sz ≤ cs.length)
    (hk : ∀ b cp, n + k ≤ cp → cp ≤ maxLen → L Γ rest ((d, .slice (some ⟨b, 0, none⟩) (n + k) cp) :: l) (blk b (cs.take (n * sz) ++ (List.replicate (cp - n) z).flatten) e :: M) K) :
    L Γ ({ dst := some d, op := .call { callee := .builtin .append, args := #[s, x], argTypes := #[T, TI] }, type := ty, pos := pos, after := af, guard := none } :: rest) l M K := by
  refine L_stepR (fun v M' => ∃ b cp, n + k ≤ cp ∧ cp ≤ maxLen ∧ v = .slice (some ⟨b, 0, none⟩) (n + k) cp ∧ M' = blk b (cs.take (n * sz) ++ (List.replicate (cp - n) z).flatten) e :: M) rfl rfl (Nat.le_of_ble_eq_true hn)
    (fun a w ha hw => ?_) (fun v M' ⟨b, cp, h0, h1, h2, h3⟩ => by subst h2; subst h3; exact hk b cp h0 h1)
  obtain ⟨het, i', z', hi', rfl, rfl, hz', rfl⟩ := elOf_parts ht
  have hh : w.heap[g]? = some (.cells cs.toArray e2 (0, 0)) := hw.prs _ hm
  have hl : (cs.take (n * i'.size)).length = n * i'.size := by rw [List.length_take]; omega
  have hold : (Builtin.firstCells i'.size n (.slice (some ⟨g, 0, none⟩) n c)).run Γ.P w.drew = .ok (cs.take (n * i'.size)).toArray w.drew := by
    have := run_loadCells_list (P := Γ.P) (w := w.drew) ⟨g, 0, none⟩ (cs.take (n * i'.size)) (fun j v hj => by
      rw [addr_add]
      exact cells_at (w := w.drew) hh 0 (n * i'.size) j v (by simpa using hj))
    rw [hl] at this
    exact this
  have hby : (n + k) * i'.bytes ≤ 140737488355328 := by
    have := Nat.mul_le_mul hbd hb
    omega
  have hby2 : k * i'.bytes ≤ 140737488355328 := Nat.le_trans (Nat.mul_le_mul_right _ (by omega)) hby
  have hrun := Lib.run_append_grow_zeros (P := Γ.P) w T TI ty e i' z' .i64 .i64 het hti hi' hz' (some ⟨g, 0, none⟩) n c _ hold k hk0 hsz hroom (by omega) (by omega) (growslice_fits hroom hby)
  have hge := grownCap_ge w (n + k) c e
  have hcm : grownCap w (n + k) c e ≤ maxLen := grownCap_le_maxLen w (n + k) c e (by simp only [maxLen]; omega)
  have hzc : ∀ q, (Builtin.zeroCells z'.cells q).toList = (List.replicate q z'.cells.toList).flatten := fun q => flatten_rep z'.cells.toList q
  have ecs : ((cs.take (n * i'.size)).toArray ++ Builtin.zeroCells z'.cells k ++ Builtin.zeroCells z'.cells (grownCap w (n + k) c e - (n + k))) = (cs.take (n * i'.size) ++ (List.replicate (grownCap w (n + k) c e - n) z'.cells.toList).flatten).toArray := by
    apply Array.ext'
    simp only [Array.toList_append, hzc]
    rw [List.append_assoc, ← List.flatten_append, List.replicate_append_replicate]
    congr 4; omega
  refine ⟨_, _, w.drew.alloc (.cells (cs.take (n * i'.size) ++ (List.replicate (grownCap w (n + k) c e - n) z'.cells.toList).flatten).toArray e (0, 0)), ⟨w.heap.size, grownCap w (n + k) c e, hge, hcm, rfl, rfl⟩, ?_, ?_⟩
  · rw [ecs] at hrun
    simp [execOp, resolve, invoke, builtin, ha.eval hs, ha.eval hx, hrun]
  · exact hw.drew.new rfl
/-- Two slices of two blocks do not overlap. -/
theorem L_ovl {f : Nat} {fn : Func} {x y : Operand} {ats : Array TypeId} {T TB e sz by_ b g o m c lb cb : Nat} {z cs ds : List Value} {e1 e2 : TypeId} (hn : Nat.blt d Γ.n = true)
    (hx : ev l x = some (.slice (some ⟨b, 0, none⟩) m c)) (hy : ev l y = some (.slice (some ⟨g, o, none⟩) lb cb))
    (hf : Γ.P.funcs[f]? = some fn) (hname : (fn.name == "runtime.NumGoroutine") = false) (hb : fn.body.isNone = true) (hnx : Extern.findNext fn = none) (he : Extern.find fn = some (Extern.SlicesOverlaps.overlaps #[T, T] #[TB]))
    (ht : elOf Γ.P T = some (e, sz, by_, z)) (h1 : blk b cs e1 ∈ M) (h2 : blk g ds e2 ∈ M) (hne : b ≠ g) (hd : ds.length ≠ 0) (hk : L Γ rest ((d, .bool false) :: l) M K) :
    L Γ ({ dst := some d, op := .call { callee := .value (.func f), args := #[x, y], argTypes := ats }, type := ty, pos := pos, after := af, guard := none } :: rest) l M K := by
  refine L_step rfl rfl (Nat.le_of_ble_eq_true hn) (fun a w ha hw => ⟨w, ?_, hw⟩) hk
  obtain ⟨het, i', z', hi', rfl, rfl, hz', rfl⟩ := elOf_parts ht
  have hh1 : w.heap[b]? = some (.cells cs.toArray e1 (0, 0)) := hw.prs _ h1
  have hh2 : w.heap[g]? = some (.cells ds.toArray e2 (0, 0)) := hw.prs _ h2
  have hs1 : w.shape? b = some (e1, cs.length) := by unfold World.shape?; rw [hh1]; rfl
  have hs2 : w.shape? g = some (e2, ds.length) := by unfold World.shape?; rw [hh2]; rfl
  have hfz : ∀ j, w.frozen? ⟨b, j, none⟩ = false := fun j => by unfold World.frozen?; rw [hh1]; simp
  have ho := Lib.run_overlaps_apart (P := Γ.P) w T TB e het i'.size (fun w => by simp [sizeOf, typeInfo, hi']) ⟨b, 0, none⟩ ⟨g, o, none⟩ m c lb cb hne e1 e2 cs.length ds.length hs1 hs2 hd (hfz 0) (hfz _)
  have hc := run_callFunc_extern hf hname hb hnx he #[.slice (some ⟨b, 0, none⟩) m c, .slice (some ⟨g, o, none⟩) lb cb] w
  rw [ho] at hc
  have h3 : execOp a.eval { dst := some d, op := .call { callee := .value (.func f), args := #[x, y], argTypes := ats }, type := ty, pos := pos, after := af, guard := none } = callFunc f (#[] ++ #[x, y].map a.eval ++ #[]) := by unfold execOp; rfl
  have h4 : (#[] ++ #[x, y].map a.eval ++ #[] : Array Value) = #[.slice (some ⟨b, 0, none⟩) m c, .slice (some ⟨g, o, none⟩) lb cb] := by simp [ha.eval hx, ha.eval hy]
  rw [h3, h4, hc]
  rfl
theorem els_ins {τ δ : Type} [GT τ δ] {xs : List τ} {x : τ} (i : Nat) (p : Pick (elsT xs) M M1) (q : Pick (treeH x) M1 M2) (h : Holds w0 S0 M w) : Holds w0 S0 (elsT (xs.take i ++ [x] ++ xs.drop i) :: M2) w := by
  have h1 := h.perm (p.perm.trans (q.perm.cons _))
  have h2 := elsT_app ((elsT_one (h1.perm (List.Perm.swap _ _ _))).perm (List.Perm.swap _ _ _))
  refine h2.reFp ?_ fun y hy => ?_
  · simp only [fps_cons]
    refine List.Perm.append_right _ ?_
    show List.Perm ((xs ++ [x]).flatMap GT.fp) ((xs.take i ++ [x] ++ xs.drop i).flatMap GT.fp)
    refine List.Perm.flatMap_right _ ?_
    conv => lhs; rw [← List.take_append_drop i xs]
    rw [List.append_assoc, List.append_assoc]
    exact List.perm_append_comm.append_left _
  · rcases List.mem_cons.1 hy with rfl | hy
    · intro z hz
      refine h2.prs (elsT (xs ++ [x])) (List.mem_cons_self ..) z ?_
      rcases List.mem_append.1 hz with hz | hz
      · rcases List.mem_append.1 hz with hz | hz
        · exact List.mem_append_left _ (List.mem_of_mem_take hz)
        · exact List.mem_append_right _ hz
      · exact List.mem_append_left _ (List.mem_of_mem_drop hz)
    · exact h2.prs _ (List.mem_cons_of_mem _ hy)
/-- The cells of a row with one element put in. -/
theorem ins_cells {τ δ : Type} [GT τ δ] (xs : List τ) (x : τ) {i : Nat} (hi : i ≤ xs.length) (t : List Value) :
    rowCells (xs.take i ++ [x] ++ xs.drop i) ++ t = rowCells (xs.take i) ++ GT.cells x ++ rowCells (xs.drop i) ++ t := by
  rw [rowCells_append, rowCells_append]
  simp [rowCells]
theorem ins_take {τ δ : Type} [GT τ δ] (xs : List τ) {i : Nat} (hi : i ≤ xs.length) (t : List Value) : (rowCells xs ++ t).take (i * GT.sz τ) = rowCells (xs.take i) := by
  have h1 : rowCells xs = rowCells (xs.take i) ++ rowCells (xs.drop i) := by rw [← rowCells_append, List.take_append_drop]
  have h2 : (rowCells (xs.take i)).length = i * GT.sz τ := by rw [length_rowCells, List.length_take, Nat.min_eq_left hi]
  rw [h1, List.append_assoc, ← h2, List.take_left]
theorem ins_drop {τ δ : Type} [GT τ δ] (xs : List τ) {i : Nat} (hi : i ≤ xs.length) (t : List Value) : (rowCells xs ++ t).drop (i * GT.sz τ) = rowCells (xs.drop i) ++ t := by
  have h1 : rowCells xs = rowCells (xs.take i) ++ rowCells (xs.drop i) := by rw [← rowCells_append, List.take_append_drop]
  have h2 : (rowCells (xs.take i)).length = i * GT.sz τ := by rw [length_rowCells, List.length_take, Nat.min_eq_left hi]
  rw [h1, List.append_assoc, ← h2, List.drop_left]
theorem take_len {α : Type} {A B : List α} {k : Nat} (h : A.length = k) : (A ++ B).take k = A := by subst h; exact List.take_left
theorem drop_len {α : Type} {A B : List α} {k : Nat} (h : A.length = k) : (A ++ B).drop k = B := by subst h; exact List.drop_left
theorem splice {α : Type} {A B V : List α} {k : Nat} (h : A.length = k) : (A ++ B).take k ++ V ++ (A ++ B).drop (k + V.length) = A ++ V ++ B.drop V.length := by
  rw [take_len h, ← List.drop_drop, drop_len h]
theorem len_take {τ δ : Type} [GT τ δ] (xs : List τ) {i : Nat} (hi : i ≤ xs.length) : (rowCells (xs.take i)).length = i * GT.sz τ := by rw [length_rowCells, List.length_take, Nat.min_eq_left hi]
/-- The new row of an insertion that finds no room. -/
theorem ins_new {τ δ : Type} [GT τ δ] (xs : List τ) (x : τ) {i : Nat} (hi : i ≤ xs.length) (t Z cs1 cs2 : List Value) (h1 : cs1 = (rowCells xs ++ t).take (i * GT.sz τ) ++ Z) (h2 : cs2 = cs1.take (i * GT.sz τ) ++ GT.cells x ++ cs1.drop (i * GT.sz τ + (GT.cells x).length)) :
    cs2.take ((i + 1) * GT.sz τ) ++ rowCells (xs.drop i) ++ cs2.drop ((i + 1) * GT.sz τ + (rowCells (xs.drop i)).length) = rowCells (xs.take i ++ [x] ++ xs.drop i) ++ (Z.drop (GT.sz τ)).drop (rowCells (xs.drop i)).length := by
  rw [ins_take xs hi] at h1
  rw [h1, splice (len_take xs hi)] at h2
  rw [h2, splice (A := rowCells (xs.take i) ++ GT.cells x) (by rw [List.length_append, len_take xs hi, GT.len, Nat.add_mul, Nat.one_mul]), GT.len, ins_cells xs x hi]
/-- The row of an insertion in place. -/
theorem ins_shift {τ δ : Type} [GT τ δ] (xs : List τ) (x : τ) {i : Nat} (hi : i < xs.length) (t cs1 : List Value) (ht : GT.sz τ ≤ t.length)
    (h1 : cs1 = (rowCells xs ++ t).take ((i + 1) * GT.sz τ) ++ rowCells (xs.drop i) ++ (rowCells xs ++ t).drop ((i + 1) * GT.sz τ + (rowCells (xs.drop i)).length)) :
    cs1.take (i * GT.sz τ) ++ GT.cells x ++ cs1.drop (i * GT.sz τ + (GT.cells x).length) = rowCells (xs.take i ++ [x] ++ xs.drop i) ++ t.drop (GT.sz τ) := by
  have hl : (rowCells (xs.drop i)).length = (xs.length - i) * GT.sz τ := by rw [length_rowCells, List.length_drop]
  have e1 : (i + 1) * GT.sz τ + (rowCells (xs.drop i)).length = xs.length * GT.sz τ + GT.sz τ := by
    rw [hl, Nat.add_mul, Nat.one_mul, Nat.add_right_comm, ← Nat.add_mul]; congr 2; omega
  have e2 : (rowCells xs ++ t).drop (xs.length * GT.sz τ + GT.sz τ) = t.drop (GT.sz τ) := by
    rw [← List.drop_drop, drop_len (length_rowCells xs)]
  have e3 : (rowCells xs ++ t).take ((i + 1) * GT.sz τ) = rowCells (xs.take (i + 1)) := ins_take xs (by omega) t
  have e4 : xs.take (i + 1) = xs.take i ++ [xs[i]] := by rw [List.take_append_getElem]
  rw [e1, e2, e3, e4, rowCells_append] at h1
  have e5 : rowCells [xs[i]] = GT.cells xs[i] := by simp [rowCells]
  rw [e5] at h1
  have h1' : cs1 = rowCells (xs.take i) ++ (GT.cells xs[i] ++ (rowCells (xs.drop i) ++ t.drop (GT.sz τ))) := by rw [h1]; simp only [List.append_assoc]
  rw [h1', splice (len_take xs (by omega)), GT.len, drop_len (GT.len xs[i]), ins_cells xs x (by omega)]
  simp only [List.append_assoc]
theorem row_seg {τ δ : Type} [GT τ δ] (xs : List τ) {i : Nat} (hi : i ≤ xs.length) (t : List Value) : ((rowCells xs ++ t).drop (i * GT.sz τ)).take ((xs.length - i) * GT.sz τ) = rowCells (xs.drop i) := by
  rw [ins_drop xs hi, take_len]
  rw [length_rowCells, List.length_drop]
theorem cells_blk {b o n : Nat} {cs vs : List Value} {T : TypeId} (hm : blk b cs T ∈ M) (hv : (cs.drop o).take n = vs) (w : World) (hw : Sees w0 S0 M w) (j : Nat) (v : Value) (h : vs[j]? = some v) : w.cell? ((⟨b, o, none⟩ : Addr).add j) = some v := by
  subst hv
  rw [addr_add]
  exact cells_at (hw.prs _ hm) o n j v h
theorem blk_ne {b g : Nat} {cs ds : List Value} {T U : TypeId} (p : Pick (blk b cs T) M M1) (q : Pick (blk g ds U) M1 M2) (h : Holds w0 S0 M w) : b ≠ g := by
  have h1 := (h.perm (p.perm.trans (q.perm.cons _))).nodup
  intro e; subst e
  rw [fps_cons, fps_cons] at h1
  simp [blk] at h1
theorem Spec.pre {f : FuncId} {args : Array Value} {R : Value → List HP → Prop} (hc : ∀ w1 S, Holds w1 S M w → Holds w1 S M' w) (h : Spec P f args w M' R) : Spec P f args w M R := fun hw => by
  have h2 : Holds w (fps M) (M' ++ []) w := by simpa using hc _ _ hw
  exact (h (Holds.split h2)).mono fun e w'' ⟨v, M'', h3, h4, h5⟩ => ⟨v, M'', h3, h4, by simpa using Holds.frame h2 h5⟩
section
variable {ops : Array Oper} {Msh pool pool' : List HP} {E : Fl} {rs : List (Option Nat × Rel)} {cs0 : List Nat} {KD : RKont}
/-- A call that takes over what an operation of the region has made. -/
theorem D_callC {t f : Nat} {xs : List Operand} {ats : Array TypeId} (Rt R : Rel) (M1 : List HP) (vsf : Value → List Value) (hp : List.Perm pool (M1 ++ pool')) (ht : E.lookup t = some Rt)
    (hf : IsFn Γ.P f) (hx : ∀ u, OpVs ((t, FC True u) :: dropE [t] E) True xs (vsf u))
    (hc : ∀ w F v Mt, Rt v Mt → Holds Γ.w0 Γ.S0 (Mt ++ M1 ++ F) w → (∀ h, h ∈ Msh → h ∈ F) → Spec Γ.P f (vsf v).toArray w (Mt ++ M1) R)
    (hlin : linB ops { dst := some d, op := .call { callee := .value (.func f), args := xs.toArray, argTypes := ats }, type := ty, pos := pos, after := af, guard := none } [t] = true)
    (hk : DV Γ ops Msh pool' ((d, R) :: dropE [t] E) ((some d, R) :: rs) ([t] ++ cs0) rest KD) :
    DV Γ ops Msh pool E rs cs0 ({ dst := some d, op := .call { callee := .value (.func f), args := xs.toArray, argTypes := ats }, type := ty, pos := pos, after := af, guard := none } :: rest) KD := by
  refine DV.mk R M1 pool' [t] hp hlin ?_ hk
  intro a w F Mk _ _ hw hm hfa hcf
  obtain ⟨Mx, Mk', rfl, hRR, hnil⟩ := hcf
  have hnil : Mk' = [] := hnil
  subst hnil
  have h1 := hRR _ ht
  rw [if_pos (by simp [Region.wanted])]
  generalize hv : a.tmps.getD t undef = u at h1
  have hf2 : Facts ((t, FC True u) :: dropE [t] E) (Oper.looksAt ops { dst := some d, op := .call { callee := .value (.func f), args := xs.toArray, argTypes := ats }, type := ty, pos := pos, after := af, guard := none }) F a := by
    intro t' R' h1 h2
    rw [List.lookup_cons] at h2
    cases hb : t' == t with
    | true =>
      rw [hb] at h2
      cases h2
      have : t' = t := by simpa using hb
      subst this
      exact ⟨[], ⟨rfl, fun _ => hv, fun hn => (hn trivial).elim⟩, fun _ h => by cases h⟩
    | false => rw [hb] at h2; exact hfa t' R' h1 h2
  have h2 : (#[] ++ xs.toArray.map a.eval ++ #[] : Array Value) = (vsf u).toArray := by
    simp [OpVs.evals (o := { dst := some d, op := .call { callee := .value (.func f), args := xs.toArray, argTypes := ats }, type := ty, pos := pos, after := af, guard := none }) trivial hf2 xs (vsf u) (hx u) (fun x hx => by simp [Op.operands, Call.operands, hx])]
  rw [execOp_call_go, h2, hf.run]
  have hw2 : Holds Γ.w0 Γ.S0 ((Mx ++ M1) ++ F) w := hw.perm (by
    simp only [List.append_nil]
    rw [← List.append_assoc]
    exact List.perm_append_comm.append_right F)
  exact (hc w F u Mx h1 hw2 hm (Holds.split hw2)).mono fun e w'' ⟨v, M', h1, h3, h4⟩ => ⟨v, M', h1, h3, Holds.frame hw2 h4⟩
end
end Go.Proofs.SL
