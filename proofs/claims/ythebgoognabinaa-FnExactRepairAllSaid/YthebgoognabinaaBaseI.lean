/- append without the kind that a block bears; slices of slices; elements by data. -/
import Derived.Test.YthebgoognabinaaBaseH
namespace Go.Proofs.SL
open Go

variable {Γ : Cx} {l : Envl} {M M1 M2 F : List HP} {Q : Post} {K : Kont} {w0 w : World} {S0 : List Nat}
variable {rest : List Oper} {d : Nat} {ty : TypeId} {pos : String} {af : Array Edge}

theorem run_append_roomE {P : Program} (w : World) (t ty e e2 : TypeId) (i : TypeInfo) (ht : P.underlying t = some (.slice e)) (hi : P.info? e = some i)
    (g sLen sCap : Nat) (cur : Array Value) (hg : w.heap[g]? = some (.cells cur e2 (0, 0)))
    (a : Addr) (m c : Nat) (news : List Value) (hl : news.length = m * i.size) (hnews : ∀ j u, news[j]? = some u → w.cell? (a.add j) = some u) (h1 : ∀ u ∈ news, u.oneCell' = true)
    (hroom : sLen + m ≤ sCap) (hfit : sLen * i.size + news.length ≤ cur.size) :
    (Builtin.append_ #[t, t] ty #[.slice (some ⟨g, 0, none⟩) sLen sCap, .slice (some a) m c]).run P w =
      .ok (.slice (some ⟨g, 0, none⟩) (sLen + m) sCap) (w.setRow g (cur.toList.take (sLen * i.size) ++ news ++ cur.toList.drop (sLen * i.size + news.length)).toArray) := by
  have hf := run_firstCells_some (P := P) w i.size m a m c news hl hnews
  have hst := run_storeCells_at P g (sLen * i.size) e2 news 0 cur w hg (by simpa using hfit) h1
  simp only [Nat.add_zero] at hst
  simp [Builtin.append_, run_underlying ht, sizeOf, typeInfo, hi, Builtin.lenOf, hroom, hf, Addr.add_lit, hst]

section
variable {τ δ : Type} [GT τ δ]

/-- append to a row of our own of what can be read. -/
theorem append_rowE {P : Program} {T e sz by_ : Nat} {z : List Value} {L : TL τ} {ys : List τ} (ht : elOf P T = some (e, sz, by_, z)) (hsz : GT.sz τ = sz) (hz : z.length = sz) (hw : Holds w0 S0 (rowH L :: F) w)
    {a : Addr} {c : Nat} (hsrc : ∀ j v, (rowCells ys)[j]? = some v → w.cell? (a.add j) = some v) (hm : L.els.length + ys.length ≤ 4294967296) (hb : by_ ≤ 32768) (ty : TypeId) :
    ∃ a' c' e' tl w', (Builtin.append_ #[T, T] ty #[L.hdr, .slice (some a) ys.length c]).run P w = .ok (.slice a' (L.els ++ ys).length c') w' ∧ Holds w0 S0 (rowH (⟨a', c', e', L.els ++ ys, tl⟩ : TL τ) :: F) w' := by
  unfold elOf at ht
  split at ht <;> (try cases ht)
  rename_i e' het
  split at ht <;> (try cases ht)
  rename_i i' hi'
  split at ht <;> cases ht
  rename_i z' hz'
  have hzs : z'.cells.size = i'.size := by rw [← Array.length_toList]; exact hz
  have hpos : 0 < i'.size := hsz ▸ GT.pos (τ := τ)
  obtain ⟨La, Lc, Le, Lx, Lt⟩ := L
  have hr := hw.prs (rowH _) (List.mem_cons_self ..)
  obtain ⟨hr1, hr2, hr3, hr4⟩ := hr
  dsimp only at hr1 hr2 hr3 hr4 hm ⊢
  have hlx : (rowCells Lx).length = Lx.length * i'.size := by rw [length_rowCells, hsz]
  have hly : (rowCells ys).length = ys.length * i'.size := by rw [length_rowCells, hsz]
  have hby : (Lx.length + ys.length) * i'.bytes ≤ 140737488355328 := by
    have := Nat.mul_le_mul hm hb
    omega
  have hone : ∀ u, u ∈ rowCells ys → u.oneCell' = true := fun u hu => rowCells_one ys u hu
  have hgrow : ∀ (old : Nat) (h : HP), h = rowH (⟨La, Lc, Le, Lx, Lt⟩ : TL τ) → Holds w0 S0 (rowH (⟨some ⟨w.heap.size, 0, none⟩, grownCap w (Lx.length + ys.length) old e, e, Lx ++ ys, (Builtin.zeroCells z'.cells (grownCap w (Lx.length + ys.length) old e - (Lx.length + ys.length))).toList⟩ : TL τ) :: F)
      (w.drew.alloc (.cells ((rowCells Lx).toArray ++ (rowCells ys).toArray ++ Builtin.zeroCells z'.cells (grownCap w (Lx.length + ys.length) old e - (Lx.length + ys.length))) e)) := by
    intro old h hh
    have hge := grownCap_ge w (Lx.length + ys.length) old e
    have hcm : grownCap w (Lx.length + ys.length) old e ≤ maxLen := grownCap_le_maxLen w (Lx.length + ys.length) old e (by simp only [maxLen]; omega)
    refine Holds.swap (w' := w.drew.alloc _) (hh ▸ hw : Holds w0 S0 (h :: F) w) rfl rfl rfl (by simp) (fun k hk _ => ?_) (fun k hk => ?_) (by simp [rowH]) ?_
    · rw [heap_alloc_old _ _ (by simpa using hk)]; rfl
    · simp [rowH] at hk; subst hk; exact ⟨.inr (Nat.le_refl _), by simp⟩
    · refine ⟨by simpa using hge, hcm, fun h => (by cases h), fun a ha => ?_⟩
      cases ha
      refine ⟨rfl, rfl, ?_, ?_⟩
      · have := heap_alloc_new w.drew (.cells ((rowCells Lx).toArray ++ (rowCells ys).toArray ++ Builtin.zeroCells z'.cells (grownCap w (Lx.length + ys.length) old e - (Lx.length + ys.length))) e)
        simp only [World.size_drew] at this
        rw [this]
        congr 2
        apply Array.ext'
        simp [rowCells_append]
      · simp only [Array.length_toList, size_zc, hzs, List.length_append, hsz]
        rw [← Nat.add_mul]; congr 1; omega
  cases La with
  | none =>
    obtain ⟨hx0, hc0⟩ := hr3 rfl
    subst hx0; subst hc0
    by_cases hy0 : ys = []
    · subst hy0
      refine ⟨none, 0, e, [], w, ?_, Holds.swap hw rfl rfl rfl (Nat.le_refl _) (fun _ _ _ => rfl) (fun k hk => by simp [rowH] at hk) (by simp [rowH]) ⟨by simp, by simp [maxLen], fun _ => ⟨rfl, rfl⟩, fun a ha => by cases ha⟩⟩
      simp [TL.hdr, Builtin.append_, run_underlying het, sizeOf, typeInfo, hi', Builtin.lenOf, Builtin.firstCells, loadCells, loadCellsFrom]
    · have hyl : 0 < ys.length := List.length_pos_iff.2 hy0
      have hrun := run_append_nil (P := P) w T ty e i' z' het hi' hz' a ys.length c (rowCells ys) hly hsrc hyl (by omega) (by simp at hby; omega)
      have := hgrow 0 _ rfl
      simp only [List.length_nil, Nat.zero_add, List.nil_append] at this ⊢
      have e0 : (rowCells ([] : List τ)).toArray = #[] := rfl
      rw [e0, Array.empty_append] at this
      exact ⟨_, _, _, _, _, hrun, this⟩
  | some La =>
    obtain ⟨h1, h2, h3, h4⟩ := hr4 La rfl
    obtain ⟨g, o, s⟩ := La
    dsimp only at h1 h2 h3
    subst h1; subst h2
    have hhd : TL.hdr (⟨some ⟨g, 0, none⟩, Lc, Le, Lx, Lt⟩ : TL τ) = .slice (some ⟨g, 0, none⟩) Lx.length Lc := rfl
    rw [hhd]
    rw [hsz] at h4
    have hsize : ((rowCells Lx ++ Lt).toArray).size = Lc * i'.size := by simp [hlx]; omega
    by_cases hroom : Lx.length + ys.length ≤ Lc
    · have hfit : Lx.length * i'.size + (rowCells ys).length ≤ ((rowCells Lx ++ Lt).toArray).size := by rw [hsize, hly, ← Nat.add_mul]; exact Nat.mul_le_mul_right _ hroom
      have hrun := run_append_roomE (P := P) w T ty e Le i' het hi' g Lx.length Lc _ h3 a ys.length c (rowCells ys) hly hsrc hone hroom hfit
      refine ⟨some ⟨g, 0, none⟩, Lc, Le, Lt.drop (rowCells ys).length, _, by rw [List.length_append]; exact hrun, ?_⟩
      have e1 : (List.take (Lx.length * i'.size) (rowCells Lx ++ Lt).toArray.toList ++ rowCells ys ++ List.drop (Lx.length * i'.size + (rowCells ys).length) (rowCells Lx ++ Lt).toArray.toList) = rowCells (Lx ++ ys) ++ Lt.drop (rowCells ys).length := by
        simp only []
        rw [← hlx, List.take_left, List.drop_append, List.drop_of_length_le (by omega), List.nil_append, Nat.add_sub_cancel_left, rowCells_append]
      rw [e1]
      refine Holds.swap hw rfl rfl rfl (by simp) (fun k hk hn => ?_) (fun k hk => ?_) (by simp [rowH]) ?_
      · exact setRow_other _ _ _ _ (fun e => hn (by simp [rowH, e]))
      · simp [rowH] at hk; subst hk; exact ⟨.inl (by simp [rowH]), by simp; exact (Array.getElem?_eq_some_iff.1 h3).1⟩
      · refine ⟨by simpa using hroom, hr2, fun h => (by cases h), fun a ha => ?_⟩
        cases ha
        refine ⟨rfl, rfl, setRow_heap _ _ _ _ _ _ h3, ?_⟩
        simp only [List.length_append, List.length_drop, hsz, hly]
        have := Nat.mul_le_mul_right i'.size hroom
        rw [Nat.add_mul] at this ⊢
        omega
    · have holds : ∀ j v, (rowCells Lx)[j]? = some v → w.cell? ((⟨g, 0, none⟩ : Addr).add j) = some v := fun j v hv => by
        rw [addr_add, Nat.zero_add, cell_of_row _ _ _ _ _ _ h3]
        simp only [List.getElem?_toArray]
        rw [List.getElem?_append_left (List.getElem?_eq_some_iff.1 hv).1]; exact hv
      have hrun := run_append_grow (P := P) w T ty e i' z' het hi' hz' ⟨g, 0, none⟩ Lx.length Lc (rowCells Lx) hlx holds a ys.length c (rowCells ys) hly hsrc (by omega) (by omega) (growslice_fits (by omega) hby)
      refine ⟨_, _, _, _, _, by rw [List.length_append]; exact hrun, hgrow Lc _ rfl⟩


/-- append of what can be read to a slice of one's own. -/
theorem L_appA {s x : Operand} {T e sz by_ m c : Nat} {ad : Addr} {z : List Value} {X : TL τ} {ys : List τ} (hn : Nat.blt d Γ.n = true)
    (hs : ev l s = some X.hdr) (hx : ev l x = some (.slice (some ad) m c)) (ht : elOf Γ.P T = some (e, sz, by_, z)) (hsz : GT.sz τ = sz) (hz : z.length = sz)
    (hp : Pick (treeH X) M M1) (hmy : m = ys.length) (hsrc : ∀ w, Sees Γ.w0 Γ.S0 M w → ∀ j v, (rowCells ys)[j]? = some v → w.cell? (ad.add j) = some v)
    (hown : ∀ w R, Holds Γ.w0 Γ.S0 (M1 ++ R) w → Holds Γ.w0 Γ.S0 (elsT ys :: (M2 ++ R)) w)
    (hlen : X.els.length + ys.length ≤ 4294967296) (hb : by_ ≤ 32768)
    (hk : ∀ X' : TL τ, X'.els = X.els ++ ys → L Γ rest ((d, X'.hdr) :: l) (treeH X' :: M2) K) :
    L Γ ({ dst := some d, op := .call { callee := .builtin .append, args := #[s, x], argTypes := #[T, T] }, type := ty, pos, after := af, guard := none } :: rest) l M K := by
  subst hmy
  refine L_stepR (fun v M' => ∃ X' : TL τ, X'.els = X.els ++ ys ∧ v = X'.hdr ∧ M' = treeH X' :: M2) rfl rfl (Nat.le_of_ble_eq_true hn)
    (fun a w ha hw => ?_) (fun v M' ⟨X', h0, h1, h2⟩ => by subst h1; subst h2; exact hk X' h0)
  have hw1 := tree_row (hw.perm hp.perm)
  have hsr := hsrc w hw.sees
  obtain ⟨a', c', e', tl, w', h1, h2⟩ := append_rowE (P := Γ.P) (c := c) ht hsz hz hw1 hsr hlen hb ty
  refine ⟨_, _, w', ⟨⟨a', c', e', X.els ++ ys, tl⟩, rfl, rfl, rfl⟩, ?_, ?_⟩
  · have h1' : (Builtin.append_ #[T, T] ty #[X.hdr, .slice (some ad) ys.length c]).run Γ.P w = .ok (TL.hdr (⟨a', c', e', X.els ++ ys, tl⟩ : TL τ)) w' := h1
    generalize TL.hdr (⟨a', c', e', X.els ++ ys, tl⟩ : TL τ) = vv at *
    generalize X.hdr = uu at *
    simp [execOp, resolve, invoke, builtin, ha.eval hs, ha.eval hx, h1']
  · have h3 : Holds Γ.w0 Γ.S0 (M1 ++ [elsT X.els, rowH (⟨a', c', e', X.els ++ ys, tl⟩ : TL τ)]) w' :=
      h2.perm ((List.Perm.swap _ _ _).trans (List.perm_append_comm (l₁ := [elsT X.els, rowH (⟨a', c', e', X.els ++ ys, tl⟩ : TL τ)]) (l₂ := M1)))
    have h4 := hown w' _ h3
    refine row_tree ?_
    have h5 : Holds Γ.w0 Γ.S0 (elsT X.els :: elsT ys :: rowH (⟨a', c', e', X.els ++ ys, tl⟩ : TL τ) :: M2) w' := h4.perm
      (((List.perm_append_comm (l₁ := M2) (l₂ := [elsT X.els, rowH (⟨a', c', e', X.els ++ ys, tl⟩ : TL τ)])).cons _).trans (List.Perm.swap _ _ _))
    exact (elsT_app h5).perm (List.Perm.swap _ _ _)
end

/-! What can be read, by data -/
def TL.g {τ : Type} (X : TL τ) : Nat := (X.a.map Addr.block).getD 0
def TL.o {τ : Type} (X : TL τ) : Nat := (X.a.map Addr.off).getD 0
section
variable {τ δ : Type} [GT τ δ]
theorem rd_adr {X : TL τ} {j : Nat} {u : τ} (h : GT.rd w0 S0 X) (hi : X.els[j]? = some u) : X.a = some ⟨X.g, X.o, none⟩ := by
  have hlt := (List.getElem?_eq_some_iff.1 hi).1
  obtain ⟨g, o, ha⟩ := rd_addr h hlt
  unfold TL.g TL.o
  rw [ha]; rfl
theorem hdr_adr {X : TL τ} {j : Nat} {u : τ} (h : GT.rd w0 S0 X) (hi : X.els[j]? = some u) : X.hdr = .slice (some ⟨X.g, X.o, none⟩) X.els.length X.cap := by
  show Value.slice X.a X.els.length X.cap = _
  rw [rd_adr h hi]
theorem RdT.at {X : TL τ} {j : Nat} {x : τ} (h : RdT Γ M X) (hi : X.els[j]? = some x) : RdC Γ M X.g (X.o + j * GT.sz τ) (GT.cells x) := fun w hw =>
  (RdT.cells (Γ := Γ) (M := M) h (rd_adr (h w hw) hi) hi) w hw
theorem RdT.of {X : TL τ} {j : Nat} {x : τ} (h : RdT Γ M X) (hi : X.els[j]? = some x) : RdT Γ M x := h.el (List.mem_of_getElem? hi)
theorem RdT.pair {α β δ ε : Type} [GT α δ] [GT β ε] {a : α} {b : β} (h1 : RdT Γ M a) (h2 : RdT Γ M b) : RdT Γ M (a, b) := fun w hw => ⟨h1 w hw, h2 w hw⟩
theorem RdT.int {n : Int} : RdT Γ M n := fun _ _ => trivial
theorem RdT.bool {n : Bool} : RdT Γ M n := fun _ _ => trivial
theorem RdT.str {n : ByteArray} : RdT Γ M n := fun _ _ => trivial
theorem RdT.u8 {n : UInt8} : RdT Γ M n := fun _ _ => trivial
theorem RdT.nil (e : TypeId) : RdT Γ M (TL.nil τ e) := fun _ _ => ⟨Nat.le_refl _, by simp [TL.nil, maxLen], fun x hx => by simp [TL.nil] at hx, fun _ => rfl, fun a ha => by simp [TL.nil] at ha⟩

theorem dat_els (X : TL τ) : GT.dat X = X.els.map GT.dat := rfl
theorem idx_dat {X : TL τ} {i : Int} {y : δ} (h : idx (GT.dat X) i = some y) : ∃ u : τ, (0 ≤ i ∧ X.els[i.toNat]? = some u) ∧ GT.dat u = y := by
  obtain ⟨h1, h2⟩ := idx_some.1 h
  rw [dat_els, List.getElem?_map] at h2
  obtain ⟨u, h3, h4⟩ := Option.map_eq_some_iff.1 h2
  exact ⟨u, ⟨h1, h3⟩, h4⟩
theorem idx_bind {β : Type} {X : TL τ} {i : Int} {k : δ → Option β} {r : β} (h : Option.bind (idx (GT.dat X) i) k = some r) : ∃ u : τ, (0 ≤ i ∧ X.els[i.toNat]? = some u) ∧ k (GT.dat u) = some r := by
  obtain ⟨y, h1, h2⟩ := bind_any h
  obtain ⟨u, h3, rfl⟩ := idx_dat h1
  exact ⟨u, h3, h2⟩
/-- The data of nothing is the data of some tree. -/
class Df (τ : Type) {δ : outParam Type} [GT τ δ] [Inhabited δ] : Prop where
  df : ∃ t : τ, GT.dat t = default
instance : Df Int := ⟨0, rfl⟩
instance : Df Bool := ⟨false, rfl⟩
instance : Df UInt8 := ⟨default, rfl⟩
instance : Df ByteArray := ⟨default, rfl⟩
instance {τ δ : Type} [GT τ δ] : Df (TL τ) := ⟨TL.nil τ 0, rfl⟩
instance {α β δ ε : Type} [GT α δ] [GT β ε] [Inhabited δ] [Inhabited ε] [Df α] [Df β] : Df (α × β) := ⟨by
  obtain ⟨a, ha⟩ := Df.df (τ := α)
  obtain ⟨b, hb⟩ := Df.df (τ := β)
  exact ⟨(a, b), by rw [dat_pair, ha, hb]; rfl⟩⟩
theorem idx_gb [Inhabited δ] [Df τ] {β : Type} {X : TL τ} {g : Bool} {i : Int} {k : δ → Option β} {r : β} (h : gb g (idx (GT.dat X) i) k = some r) : ∃ u : τ, (g = true → 0 ≤ i ∧ X.els[i.toNat]? = some u) ∧ k (GT.dat u) = some r := by
  cases g with
  | true => obtain ⟨u, h1, h2⟩ := idx_bind h; exact ⟨u, fun _ => h1, h2⟩
  | false =>
    obtain ⟨t, ht⟩ := Df.df (τ := τ)
    exact ⟨t, (fun h => (by cases h)), by rw [ht]; exact h⟩
end

/-! Rules, in a region that is carried out as it stands -/
section
variable {τ δ : Type} [GT τ δ]
theorem L_lenP {x : Operand} {T : TypeId} {e : TypeId × Nat × Nat × List Value} {X : TL τ} (hn : Nat.blt d Γ.n = true) (hx : ev l x = some X.hdr) (ht : elOf Γ.P T = some e)
    (hk : L Γ rest ((d, .int .i64 ((GT.dat X).length : Int)) :: l) M K) :
    L Γ ({ dst := some d, op := .call { callee := .builtin .len, args := #[x], argTypes := #[T] }, type := ty, pos := pos, after := af, guard := none } :: rest) l M K :=
  L_lenS (a := X.a) (n := X.els.length) (c := X.cap) hn hx ht (by rw [dat_els, List.length_map] at hk; exact hk)
theorem L_idxA {x y : Operand} {T e sz by_ : Nat} {z : List Value} {k : IntKind} {i : Int} {X : TL τ} {u : τ} (hn : Nat.blt d Γ.n = true) (hx : ev l x = some X.hdr) (hy : ev l y = some (.int k i))
    (ht : elOf Γ.P T = some (e, sz, by_, z)) (hr : RdT Γ M X) (hi : 0 ≤ i ∧ X.els[i.toNat]? = some u) (hk : L Γ rest ((d, .pointer (some ⟨X.g, X.o + i.toNat * sz, none⟩)) :: l) M K) :
    L Γ ({ dst := some d, op := .indexAddr T x y, type := ty, pos := pos, after := af, guard := none } :: rest) l M K :=
  L_pure hn (fun a' w ha hw => by
    have h1 := ha.eval hx
    rw [hdr_adr (hr w hw.sees) hi.2] at h1
    simp [execOp, h1, ha.eval hy, run_indexAt ht X.g X.o X.els.length X.cap k i i.toNat (by omega) (List.getElem?_eq_some_iff.1 hi.2).1 w]) hk
theorem L_idxS {x y : Operand} {T : TypeId} {s : ByteArray} {k : IntKind} {i n : Int} (hn : Nat.blt d Γ.n = true) (hx : ev l x = some (.string s)) (hy : ev l y = some (.int k i))
    (ht : isStr Γ.P T = true) (hi : sidx s i = some n) (hk : L Γ rest ((d, .int .u8 n) :: l) M K) :
    L Γ ({ dst := some d, op := .index T x y, type := ty, pos := pos, after := af, guard := none } :: rest) l M K := by
  obtain ⟨⟨h1, h2⟩, rfl⟩ := sidx_some hi
  exact L_index (j := i.toNat) hn hx hy ht (by omega) h2 hk
theorem L_negW {x : Operand} {T : TypeId} {k : IntKind} {n : Int} (hn : Nat.blt d Γ.n = true) (hx : ev l x = some (.int k n)) (hk : L Γ rest ((d, .int k (k.wrap (-n))) :: l) M K) :
    L Γ ({ dst := some d, op := .unOp .neg T x, type := ty, pos := pos, after := af, guard := none } :: rest) l M K :=
  L_pure hn (fun a w ha _ => by simp [execOp, ha.eval hx, Op.unary, Op.intArith]) hk
end

/-! In a drawn region -/
variable {ops : Array Oper} {Msh pool : List HP} {E : Fl} {rs : List (Option Nat × Rel)} {cs0 : List Nat} {KD : List (Option Nat × Rel) → List Nat → List HP → Prop} {gd : Option (Nat × Bool)}
section
variable {τ δ : Type} [GT τ δ]
theorem D_lenP {x : Operand} {T : TypeId} {e : TypeId × Nat × Nat × List Value} {X : TL τ} {c : Prop} (hg : GC ops E { dst := some d, op := .call { callee := .builtin .len, args := #[x], argTypes := #[T] }, type := ty, pos := pos, after := af, guard := gd } c)
    (hx : OpV E x c X.hdr) (ht : elOf Γ.P T = some e)
    (hk : DV Γ ops Msh pool ((d, FC c (.int .i64 ((GT.dat X).length : Int))) :: E) ((some d, FC c (.int .i64 ((GT.dat X).length : Int))) :: rs) cs0 rest KD) :
    DV Γ ops Msh pool E rs cs0 ({ dst := some d, op := .call { callee := .builtin .len, args := #[x], argTypes := #[T] }, type := ty, pos := pos, after := af, guard := gd } :: rest) KD :=
  D_lenS (a := X.a) (n := X.els.length) (cp := X.cap) hg hx ht (by rw [dat_els, List.length_map] at hk; exact hk)
theorem D_idxA {x y : Operand} {T e sz by_ : Nat} {z : List Value} {k : IntKind} {i : Int} {X : TL τ} {u : τ} {c : Prop} (hg : GC ops E { dst := some d, op := .indexAddr T x y, type := ty, pos := pos, after := af, guard := gd } c)
    (hx : OpV E x c X.hdr) (hy : OpV E y c (.int k i)) (ht : elOf Γ.P T = some (e, sz, by_, z)) (hr : RdT Γ Msh X) (hi : c → 0 ≤ i ∧ X.els[i.toNat]? = some u)
    (hk : DV Γ ops Msh pool ((d, FC c (.pointer (some ⟨X.g, X.o + i.toNat * sz, none⟩))) :: E) ((some d, FC c (.pointer (some ⟨X.g, X.o + i.toNat * sz, none⟩))) :: rs) cs0 rest KD) :
    DV Γ ops Msh pool E rs cs0 ({ dst := some d, op := .indexAddr T x y, type := ty, pos := pos, after := af, guard := gd } :: rest) KD :=
  DV_pure c _ hg (fun a w F hc hf hs => by
    have e1 := hx.eval hf (by simp [Op.operands]) hc
    have e2 := hy.eval hf (by simp [Op.operands]) hc
    obtain ⟨h0, h1⟩ := hi hc
    rw [hdr_adr (hr w hs) h1] at e1
    simp [execOp, e1, e2, run_indexAt ht X.g X.o X.els.length X.cap k i i.toNat (by omega) (List.getElem?_eq_some_iff.1 h1).1 w]) hk
theorem D_idxS {x y : Operand} {T : TypeId} {s : ByteArray} {k : IntKind} {i n : Int} {c : Prop} (hg : GC ops E { dst := some d, op := .index T x y, type := ty, pos := pos, after := af, guard := gd } c)
    (hx : OpV E x c (.string s)) (hy : OpV E y c (.int k i)) (ht : isStr Γ.P T = true) (hi : c → sidx s i = some n)
    (hk : DV Γ ops Msh pool ((d, FC c (.int .u8 n)) :: E) ((some d, FC c (.int .u8 n)) :: rs) cs0 rest KD) :
    DV Γ ops Msh pool E rs cs0 ({ dst := some d, op := .index T x y, type := ty, pos := pos, after := af, guard := gd } :: rest) KD :=
  DV_pure c _ hg (fun a w F hc hf hs => by
    have e1 := hx.eval hf (by simp [Op.operands]) hc
    have e2 := hy.eval hf (by simp [Op.operands]) hc
    obtain ⟨⟨h1, h2⟩, h3⟩ := sidx_some (hi hc)
    have h4 : Γ.P.underlying T = some .string := by unfold isStr at ht; split at ht <;> simp_all
    obtain ⟨j, rfl⟩ := Int.eq_ofNat_of_zero_le h1
    simp only [Int.toNat_natCast] at h2 h3
    simp [execOp, e1, e2, Instr.index, asIntOf, underlying, h4, h2, h3]) hk
theorem D_negW {x : Operand} {T : TypeId} {k : IntKind} {n : Int} {c : Prop} (hg : GC ops E { dst := some d, op := .unOp .neg T x, type := ty, pos := pos, after := af, guard := gd } c)
    (hx : OpV E x c (.int k n)) (hk : DV Γ ops Msh pool ((d, FC c (.int k (k.wrap (-n)))) :: E) ((some d, FC c (.int k (k.wrap (-n)))) :: rs) cs0 rest KD) :
    DV Γ ops Msh pool E rs cs0 ({ dst := some d, op := .unOp .neg T x, type := ty, pos := pos, after := af, guard := gd } :: rest) KD :=
  DV_pure c _ hg (fun a w F hc hf hs => by
    have e1 := hx.eval hf (by simp [Op.operands]) hc
    simp [execOp, e1, Op.unary, Op.intArith]) hk
end
end Go.Proofs.SL
