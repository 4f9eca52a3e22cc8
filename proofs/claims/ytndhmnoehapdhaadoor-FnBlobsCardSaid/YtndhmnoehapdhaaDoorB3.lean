/- Stores of a struct into a part of a block. -/
import Derived.Test.YtndhmnoehapdhaaDoorB2
import Derived.OpenShut
import Derived.OpenVars
import Derived.Lay
import Derived.MakeChecks
import Derived.SevenTiedAt
import Derived.Shelf.SlSortCmp.NoneTotal
namespace Go.Proofs.SL
open Go
section
variable {Γ : Cx} {l : Envl} {M : List HP} {K : Kont} {w0 w : World} {S0 : List Nat}
variable {rest : List Oper} {d : Nat} {ty : TypeId} {pos : String} {af : Array Edge}
theorem L_storeA {x y : Operand} {T b fo : Nat} {T' : TypeId} {cs cs' r : List Value} {M' : List HP} (hx : ev l x = some (.pointer (some ⟨b, fo, none⟩))) (hy : ev l y = some (.agg cs'.toArray)) (hp : Pick (blk b cs T') M M')
    (ht : aggOf Γ.P T = some cs'.length) (hl : fo + cs'.length ≤ cs.length) (h1 : ∀ v, v ∈ cs' → v.oneCell' = true) (hr : cs.take fo ++ cs' ++ cs.drop (fo + cs'.length) = r) (hk : L Γ rest l (blk b r T' :: M') K) :
    L Γ ({ dst := none, op := .store T x y, type := ty, pos, after := af, guard := none } :: rest) l M K :=
  L_skip rfl rfl (fun a w ha hw => by
    subst hr
    have hw' := hw.perm hp.perm
    have hh : w.heap[b]? = some (.cells cs.toArray T' (0, 0)) := hw'.prs (blk b cs T') (by simp)
    have hs := run_store_blk (P := Γ.P) (fo := fo) (vs := cs') (ty := T) hh hl h1
    refine ⟨_, ?_, setRow_blk (cs' := cs.take fo ++ cs' ++ cs.drop (fo + cs'.length)) hw'⟩
    simp [execOp, ha.eval hx, ha.eval hy, Instr.storeAt, Instr.sureAddr, storeVar, run_isAgg_agg ht, Value.cells, hs]) hk
end
section
variable {Γ : Cx} {rest : List Oper} {d : Nat} {ty : TypeId} {pos : String} {af : Array Edge}
variable {ops : Array Oper} {Msh pool : List HP} {E : Fl} {rs : List (Option Nat × Rel)} {cs0 : List Nat} {KD : List (Option Nat × Rel) → List Nat → List HP → Prop}
theorem D_storeA {x y : Operand} {T b fo : Nat} {T' : TypeId} {cs cs' r : List Value} {pool' : List HP} (hx : OpV E x True (.pointer (some ⟨b, fo, none⟩))) (hy : OpV E y True (.agg cs'.toArray)) (hp : Pick (blk b cs T') pool pool')
    (ht : aggOf Γ.P T = some cs'.length) (hl : fo + cs'.length ≤ cs.length) (h1 : ∀ v, v ∈ cs' → v.oneCell' = true) (hr : cs.take fo ++ cs' ++ cs.drop (fo + cs'.length) = r)
    (hk : DV Γ ops Msh pool' E ((none, fun _ M => M = [blk b r T']) :: rs) cs0 rest KD) :
    DV Γ ops Msh pool E rs cs0 ({ dst := none, op := .store T x y, type := ty, pos, after := af, guard := none } :: rest) KD := by
  subst hr
  refine DV.mk (fun _ M => M = [blk b (cs.take fo ++ cs' ++ cs.drop (fo + cs'.length)) T']) ([blk b cs T']) pool' [] hp.perm rfl ?_ (by rw [dropE_nil]; exact hk)
  intro a w F Mk _ _ hw hm hfa hcf
  have hMk : Mk = [] := hcf
  subst hMk
  rw [dropE_nil] at hfa
  simp only [List.nil_append] at hw
  rw [if_pos (by simp [Region.wanted])]
  have e1 := hx.eval hfa (by simp [Op.operands]) trivial
  have e2 := hy.eval hfa (by simp [Op.operands]) trivial
  have hh : w.heap[b]? = some (.cells cs.toArray T' (0, 0)) := hw.prs (blk b cs T') (by simp)
  have hs := run_store_blk (P := Γ.P) (fo := fo) (vs := cs') (ty := T) hh hl h1
  have hrun : (execOp a.eval { dst := none, op := .store T x y, type := ty, pos, after := af, guard := none }).run Γ.P w = .ok .skip (w.setRow b (cs.take fo ++ cs' ++ cs.drop (fo + cs'.length)).toArray) := by
    simp [execOp, e1, e2, Instr.storeAt, Instr.sureAddr, storeVar, run_isAgg_agg ht, Value.cells, hs]
  rw [hrun]
  exact ⟨_, rfl, setRow_blk (cs' := cs.take fo ++ cs' ++ cs.drop (fo + cs'.length)) hw⟩
/-- A pointer to a new block. -/
def PtrNew (z : List Value) (T : TypeId) : Rel := fun v M => ∃ b, v = .pointer (some ⟨b, 0, none⟩) ∧ M = [blk b z T]
theorem D_alloc {T : TypeId} {z : List Value} (hz : zeroOf Γ.P T = some z)
    (hk : DV Γ ops Msh pool ((d, PtrNew z T) :: E) ((some d, PtrNew z T) :: rs) cs0 rest KD) :
    DV Γ ops Msh pool E rs cs0 ({ dst := some d, op := .alloc T, type := ty, pos := pos, after := af, guard := none } :: rest) KD := by
  refine DV.mk (PtrNew z T) [] pool [] (by simp) rfl ?_ (by rw [dropE_nil]; exact hk)
  intro a w F Mk _ _ hw hm hfa hcf
  have hMk : Mk = [] := hcf
  subst hMk
  rw [dropE_nil] at hfa
  simp only [List.nil_append] at hw ⊢
  rw [if_pos (by simp [Region.wanted])]
  have h1 : (execOp a.eval { dst := some d, op := .alloc T, type := ty, pos := pos, after := af, guard := none }).run Γ.P w = .ok (.value (.pointer (some ⟨w.heap.size, 0, none⟩))) (w.alloc (.cells z.toArray T (0, 0))) := by
    unfold zeroOf at hz
    split at hz <;> (try cases hz)
    rename_i i hi
    split at hz <;> cases hz
    rename_i z' hz'
    simp [execOp, Instr.alloc, zeroValue, typeInfo, hi, hz', newVar, newRow]
  rw [h1]
  exact ⟨[blk w.heap.size z T], ⟨_, rfl, rfl⟩, Holds.new (show Holds Γ.w0 Γ.S0 F w by simpa using hw) rfl⟩
end
theorem eqB_nf {α : Type} {a b : α} : ((!eqB a b) = false) ↔ a = b := by
  cases h : eqB a b with
  | true => simp [eqB_true.1 h]
  | false => simp [eqB_false.1 h]
theorem eqB_nt {α : Type} {a b : α} : ((!eqB a b) = true) ↔ ¬ a = b := by
  cases h : eqB a b with
  | true => simp [eqB_true.1 h]
  | false => simp [eqB_false.1 h]
end Go.Proofs.SL
namespace Go.Proofs.SL
open Go
instance : Mk Bool := ⟨fun _ => 1, fun k _ => decide (((k : Int)).tmod 3 = 0)⟩
instance : Bm Bool := ⟨1, fun x => by show 1 ≤ 1 * (1 + 0); omega⟩
theorem mk_bool (k : Nat) (a : Bool) : Mk.mkd k a = decide (((k : Int)).tmod 3 = 0) := rfl
theorem cnt_bool (a : Bool) : Mk.cnt a = 1 := rfl
theorem bulk_bools (t : TL Bool) : Bk.bulk t = (GT.dat t).length := by
  obtain ⟨a, c, e, x, y⟩ := t
  rw [bulk_TL, dat_els, List.length_map]
  have : bulks x = 0 := by
    clear a c e y
    induction x with
    | nil => rfl
    | cons y ys ih => simp only [bulks, ih]; rfl
  show x.length + bulks x = x.length
  omega
end Go.Proofs.SL
namespace Go.Proofs.SL
open Go
variable {Γ : Cx} {l : Envl} {M M1 : List HP} {K : Kont} {w0 w : World} {S0 : List Nat}
variable {rest : List Oper} {d : Nat} {ty : TypeId} {pos : String} {af : Array Edge}
section
variable {τ δ : Type} [GT τ δ]
theorem blk_own [FlatT τ] {b cap : Nat} {e : TypeId} {ts : List τ} {tail : List Value} (h1 : ts.length ≤ cap) (h2 : cap ≤ maxLen) (h3 : ts.length * GT.sz τ + tail.length = cap * GT.sz τ)
    (h : Holds w0 S0 (blk b (rowCells ts ++ tail) e :: M) w) : Holds w0 S0 (treeH (⟨some ⟨b, 0, none⟩, cap, e, ts, tail⟩ : TL τ) :: M) w := by
  have hb : w.heap[b]? = some (.cells (rowCells ts ++ tail).toArray e (0, 0)) := h.prs _ (List.mem_cons_self ..)
  have ef : fps (treeH (⟨some ⟨b, 0, none⟩, cap, e, ts, tail⟩ : TL τ) :: M) = fps (blk b (rowCells ts ++ tail) e :: M) := by
    simp only [fps_cons]
    show ([b] ++ ts.flatMap GT.fp) ++ fps M = [b] ++ fps M
    rw [fps_flat ts fun x _ => FlatT.flat x, List.append_nil]
  refine ⟨h.os, h.tape, h.output, h.size, h.old, fun x hx => ?_, by rw [ef]; exact h.nodup, fun k hk => h.rng k (by rw [← ef]; exact hk)⟩
  rcases List.mem_cons.1 hx with rfl | hx
  · exact ⟨h1, h2, fun x _ => (FlatT.flat x).ow w, fun hn => (by cases hn), fun a ha => by cases ha; exact ⟨rfl, rfl, hb, h3⟩⟩
  · exact h.prs x (List.mem_cons_of_mem _ hx)
/-- A slice of several parts of one kind. -/
theorem L_bsN [FlatT τ] (ts : List τ) {T e sz by_ n : Nat} {z : List Value} {xs : List (Nat × Operand)} {ps : List (Nat × Value)} {r : List δ} (hn : Nat.blt d Γ.n = true) (hx : evp l xs = some ps) (ht : elOf Γ.P T = some (e, sz, by_, z)) (hz : z.length = sz)
    (hsz : GT.sz τ = sz) (h0 : Nat.blt 0 sz = true) (hns : Nat.ble (n * sz) 65536 = true) (hn0 : Nat.blt 0 n = true) (hlen : ts.length = n) (hf : fillL (fun i => some (i * sz, sz)) ((List.range (n * sz)).map fun i => z.getD (i % sz) undef) ps = some (rowCells ts))
    (hr : some (ts.map GT.dat) = some r) (hk : ∀ X : TL τ, GT.dat X = r → L Γ rest ((d, X.hdr) :: l) (treeH X :: M) K) :
    L Γ ({ dst := some d, op := .buildSlice T n xs.toArray, type := ty, pos, after := af, guard := none } :: rest) l M K := by
  have h0' : 0 < sz := Nat.le_of_ble_eq_true h0
  have hns' : n * sz ≤ 65536 := Nat.le_of_ble_eq_true hns
  refine L_buildSlice hn hx ht hz h0' hns' (Nat.le_of_ble_eq_true hn0) hf fun b => ?_
  have hnl : n ≤ 65536 := Nat.le_trans (Nat.le_mul_of_pos_right n h0') hns'
  refine L_conv (M' := treeH (⟨some ⟨b, 0, none⟩, n, e, ts, []⟩ : TL τ) :: M) (fun w h => blk_own (by omega) (by simp only [maxLen]; omega) (by rw [hlen]; simp) (by rw [List.append_nil]; exact h)) ?_
  have := hk ⟨some ⟨b, 0, none⟩, n, e, ts, []⟩ (Option.some.inj hr)
  have eh : (⟨some ⟨b, 0, none⟩, n, e, ts, []⟩ : TL τ).hdr = .slice (some ⟨b, 0, none⟩) n n := by show Value.slice _ ts.length _ = _; rw [hlen]
  rw [eh] at this
  exact this
/-- A made slice, on data. -/
def mkP {δ : Type} (by_ : Nat) (n : Int) (z : δ) : Option (List δ) := if 0 ≤ n ∧ n ≤ 1048576 ∧ n.toNat * by_ ≤ 281474976710656 then some (List.replicate n.toNat z) else none
theorem L_mkP (t0 : τ) {x y : Operand} {T e sz by_ : Nat} {z : List Value} {k k' : IntKind} {n : Int} {r : List δ} (hn : Nat.blt d Γ.n = true) (hx : ev l x = some (.int k n)) (hy : ev l y = some (.int k' n)) (ht : elOf Γ.P T = some (e, sz, by_, z))
    (hz : GT.cells t0 = z) (hsz : GT.sz τ = sz) (hf : Flat t0) (hr : mkP by_ n (GT.dat t0) = some r)
    (hk : ∀ X : TL τ, GT.dat X = r → L Γ rest ((d, X.hdr) :: l) (treeH X :: M) K) :
    L Γ ({ dst := some d, op := .makeSlice T x y, type := ty, pos, after := af, guard := none } :: rest) l M K := by
  unfold mkP at hr
  split at hr
  rotate_left
  · cases hr
  rename_i hb
  obtain ⟨h1, h2, h3⟩ := hb
  obtain ⟨m, rfl⟩ := Int.eq_ofNat_of_zero_le h1
  obtain rfl := Option.some.inj hr
  simp only [Int.toNat_natCast] at *
  refine L_make (n := m) t0 hn hx hy ht hz hsz hf h3 (by simp only [maxLen]; omega) fun g => ?_
  have := hk ⟨some ⟨g, 0, none⟩, m, e, List.replicate m t0, []⟩ (by rw [dat_els]; simp)
  have eh : (⟨some ⟨g, 0, none⟩, m, e, List.replicate m t0, []⟩ : TL τ).hdr = .slice (some ⟨g, 0, none⟩) m m := by show Value.slice _ (List.replicate m t0).length _ = _; rw [List.length_replicate]
  rw [eh] at this
  exact this
end
/-- A byte out of a number. -/
def u8P (n : Int) : Option UInt8 := if 0 ≤ n ∧ n < 256 then some (UInt8.ofNat n.toNat) else none
theorem u8P_some {n : Int} {b : UInt8} (h : u8P n = some b) : n = (b.toNat : Int) := by
  unfold u8P at h
  split at h
  · rename_i hb
    obtain rfl := Option.some.inj h
    rw [UInt8.toNat_ofNat']
    omega
  · cases h
theorem u8P_nat (b : UInt8) : u8P (b.toNat : Int) = some b := by
  unfold u8P
  have := b.toNat_lt
  rw [if_pos (by omega)]
  simp
theorem strOf_bytes (xs : List UInt8) : strOf (xs.map fun b => (b.toNat : Int)) = ⟨xs.toArray⟩ := by
  have h : ∀ (xs : List UInt8) (s : ByteArray), (xs.map fun b => (b.toNat : Int)).foldl (fun r n => r.push (UInt8.ofNat n.toNat)) s = ⟨s.data ++ xs.toArray⟩ := by
    intro xs
    induction xs with
    | nil => intro s; simp
    | cons x xs ih =>
      intro s
      rw [List.map_cons, List.foldl_cons, ih]
      congr 1
      show (s.push _).data ++ _ = _
      simp [ByteArray.push]
  unfold strOf
  rw [h]
  simp
/-- The string of some bytes. -/
def strP (xs : List UInt8) : ByteArray := ⟨xs.toArray⟩
theorem run_bytesNone {P : Program} (w : World) (len cap : Nat) : (Conv.bytesToString (.slice none len cap)).run P w = .ok (.string ByteArray.empty) w := by
  simp [Conv.bytesToString]
theorem L_toStr {x : Operand} {S T e : Nat} {X : TL UInt8} (hn : Nat.blt d Γ.n = true) (hx : ev l x = some X.hdr) (hS : Γ.P.underlying S = some (.slice e)) (he : Γ.P.underlying e = some (.int .u8)) (hT : Γ.P.underlying T = some .string)
    (hR : RdT Γ M X) (hk : L Γ rest ((d, .string (strP (GT.dat X))) :: l) M K) :
    L Γ ({ dst := some d, op := .convert S T x, type := ty, pos := pos, after := af, guard := none } :: rest) l M K := by
  obtain ⟨a, cap, e', els, tail⟩ := X
  have hd : GT.dat (⟨a, cap, e', els, tail⟩ : TL UInt8) = els := map_id' els
  rw [hd] at hk
  cases a with
  | none =>
    refine L_pure hn (fun a' w ha hw => ?_) hk
    have h1 := hR w hw.sees
    have he0 : els = [] := h1.2.2.2.1 rfl
    subst he0
    have h2 := ha.eval hx
    simp only [execOp, h2, Sem.run_bind]
    show ((convert S T (.slice none _ _)).run Γ.P w).andThen _ = _
    rw [run_convert_bytes_string w S T e _ _ _ hS he hT, run_bytesNone]
    rfl
  | some ad =>
    refine L_pure hn (fun a' w ha hw => ?_) hk
    have h1 := hR w hw.sees
    have h2 := ha.eval hx
    obtain ⟨h3, h4⟩ := h1.2.2.2.2 ad rfl
    simp only [execOp, h2, Sem.run_bind]
    show ((convert S T (.slice (some ad) els.length cap)).run Γ.P w).andThen _ = _
    rw [run_convert_bytes_string w S T e _ _ _ hS he hT]
    have hrow : ∀ xs : List UInt8, rowCells xs = xs.map fun b => Value.int .u8 (b.toNat : Int) := by
      intro xs
      induction xs with
      | nil => rfl
      | cons x xs ih => rw [rowCells_cons, ih]; rfl
    have hl : (loadCells ad els.length).run Γ.P w = .ok ((els.map fun b => (b.toNat : Int)).map (Value.int .u8)).toArray w := by
      by_cases hz : els = []
      · subst hz
        simp [loadCells, loadCellsFrom]
      · have hs := h3 hz
        obtain ⟨blk, off, sp⟩ := ad
        dsimp only at hs
        subst hs
        have := run_loadCells_at (P := Γ.P) (g := blk) (off := off) (cs := rowCells els) (w := w) (fun j v hv => by
          have := h4 j v hv
          exact this.1)
        rw [length_rowCells, show GT.sz UInt8 = 1 from rfl, Nat.mul_one, hrow] at this
        rw [this, List.map_map]; rfl
    have hb := run_bytesToString (P := Γ.P) w ad els.length cap (els.map fun b => (b.toNat : Int)) hl
    have e1 := strOf_bytes els
    unfold strOf at e1
    rw [hb, e1]
    rfl
end Go.Proofs.SL
namespace Go.Proofs.SL
open Go
section
variable {Γ : Cx} {rest : List Oper} {d : Nat} {ty : TypeId} {pos : String} {af : Array Edge} {gd : Option (Nat × Bool)}
variable {ops : Array Oper} {Msh pool : List HP} {E : Fl} {rs : List (Option Nat × Rel)} {cs0 : List Nat} {KD : List (Option Nat × Rel) → List Nat → List HP → Prop}
theorem D_extract {x : Operand} {i : Nat} {vs : List Value} {v : Value} {c : Prop} (hg : GC ops E { dst := some d, op := .extract x i, type := ty, pos := pos, after := af, guard := gd } c)
    (hx : OpV E x c (.tuple vs.toArray)) (hi : vs[i]? = some v)
    (hk : DV Γ ops Msh pool ((d, FC c v) :: E) ((some d, FC c v) :: rs) cs0 rest KD) :
    DV Γ ops Msh pool E rs cs0 ({ dst := some d, op := .extract x i, type := ty, pos := pos, after := af, guard := gd } :: rest) KD :=
  DV_pure c _ hg (fun a' w F hc hf _ => by
    have e1 := hx.eval hf (by simp [Op.operands]) hc
    simp [execOp, e1, Instr.extract, hi]) hk
end
end Go.Proofs.SL
namespace Go.Proofs.SL
open Go

/-- An array of ints, as loops and contracts hand it on. -/
structure AR where
  l : List Int
instance : GT AR (List Int) where
  sz := 1
  pos := by decide
  cells _ := [.int .i64 0]
  len _ := rfl
  one _ v hv := by simp at hv; subst hv; rfl
  rd _ _ _ := True
  fp _ := []
  ow _ _ := True
  dat t := t.l
  rd_mono h _ := h
  ow_st _ h := h
  ow_rd _ _ := trivial
theorem dat_ar (x : AR) : GT.dat x = x.l := rfl
def aC (k : IntKind) (l : List Int) : List Value := l.map (Value.int k)
theorem aC_len (k : IntKind) (l : List Int) : (aC k l).length = l.length := List.length_map ..
theorem aC_one (k : IntKind) (l : List Int) : ∀ v, v ∈ aC k l → v.oneCell' = true := by
  intro v hv
  obtain ⟨i, _, rfl⟩ := List.mem_map.1 hv
  rfl
theorem aC_at {k : IntKind} {l : List Int} {j : Nat} {v : Int} (h : l[j]? = some v) : (aC k l)[j]? = some (.int k v) := by
  unfold aC; rw [List.getElem?_map, h]; rfl
/-- A place of an array. -/
def ack (n : Nat) (i : Int) : Option Nat := if 0 ≤ i ∧ i < n then some i.toNat else none
theorem ack_some {n j : Nat} {i : Int} (h : ack n i = some j) : i = (j : Int) ∧ j < n := by
  unfold ack at h
  split at h
  · cases h; omega
  · cases h
def aset (l : List Int) (j : Nat) (v : Int) : Option (List Int) := if j < l.length then some (l.set j v) else none
theorem aset_some {l l' : List Int} {j : Nat} {v : Int} (h : aset l j v = some l') : j < l.length ∧ l' = l.set j v := by
  unfold aset at h
  split at h
  · cases h; exact ⟨‹_›, rfl⟩
  · cases h
def alen (n : Nat) (l : List Int) : Option (List Int) := if l.length = n then some l else none
theorem alen_some {n : Nat} {l l' : List Int} (h : alen n l = some l') : l.length = n ∧ l' = l := by
  unfold alen at h
  split at h
  · cases h; exact ⟨‹_›, rfl⟩
  · cases h
def arOf (P : Program) (T : TypeId) : Option Nat :=
  match P.underlying T with
  | some (.array n e) => match P.info? e with
    | some i => if i.size = 1 ∧ oneOf P e = true then some n else none
    | none => none
  | _ => none
theorem run_indexArr {P : Program} {T n : Nat} (h : arOf P T = some n) (g o : Nat) (k : IntKind) (i : Int) (j : Nat) (hj : ack n i = some j) (w : World) :
    (Instr.indexAt T (.pointer (some ⟨g, o, none⟩)) (.int k i)).run P w = .ok (.pointer (some ⟨g, o + j, none⟩)) w := by
  unfold arOf at h
  split at h <;> (try cases h)
  rename_i n' e he
  split at h <;> (try cases h)
  rename_i i' hi'
  split at h <;> cases h
  rename_i hsz
  obtain ⟨rfl, hjn⟩ := ack_some hj
  have h0 : (0 : Int) ≤ (j : Int) ∧ ((j : Int) < (n : Int)) := by omega
  have h0' : ¬ n ≤ j := by omega
  simp [Instr.indexAt, asIntOf, underlying, he, Instr.sureAddr, h0, h0', sizeOf, typeInfo, hi', hsz, addr_add]

theorem run_buildA {P : Program} {T n : Nat} {z cs : List Value} {ps : List (Nat × Value)} {w : World} (ht : arOf P T = some n) (hz : zeroOf P T = some z) (hf : fillL (fun i => some (i * 1, 1)) z ps = some cs) :
    (Instr.build T ps.toArray).run P w = .ok (.agg cs.toArray) w := by
  unfold arOf at ht
  split at ht <;> (try cases ht)
  rename_i n' e he
  split at ht <;> (try cases ht)
  rename_i i' hi'
  split at ht <;> cases ht
  rename_i hsz
  unfold zeroOf at hz
  split at hz <;> (try cases hz)
  rename_i i hi
  split at hz <;> cases hz
  rename_i zz hzz
  have h2 := fill_eq (fun i => some (i * 1, 1)) ps zz.cells cs (by simpa using hf)
  simp only [Instr.build, zeroValue, typeInfo, underlying, sizeOf, Sem.run_bind, run_program, Result.andThen_ok, hi, hzz, he, hi', hsz.1, Sem.run_pure, h2]

variable {Γ : Cx} {l : Envl} {M : List HP} {K : Kont} {w0 w : World} {S0 : List Nat} {rest : List Oper} {d : Nat} {ty : TypeId} {pos : String} {af : Array Edge}
section
variable {k : IntKind} {A A' : List Int}
theorem L_idxAr {x y : Operand} {T n g j : Nat} {k' : IntKind} {i : Int} (hn : Nat.blt d Γ.n = true) (hx : ev l x = some (.pointer (some ⟨g, 0, none⟩))) (hy : ev l y = some (.int k' i)) (ht : arOf Γ.P T = some n) (hj : ack n i = some j)
    (hk : L Γ rest ((d, .pointer (some ⟨g, 0 + j, none⟩)) :: l) M K) :
    L Γ ({ dst := some d, op := .indexAddr T x y, type := ty, pos := pos, after := af, guard := none } :: rest) l M K :=
  L_pure hn (fun a' w ha _ => by simp [execOp, ha.eval hx, ha.eval hy, run_indexArr ht g 0 k' i j hj w]) hk
theorem L_ldAr {x : Operand} {T g j : Nat} {v : Int} (hn : Nat.blt d Γ.n = true) (hx : ev l x = some (.pointer (some ⟨g, 0 + j, none⟩))) (hc : RdC Γ M g 0 (aC k A)) (ht : oneOf Γ.P T = true)
    (hv : A[j]? = some v) (hk : L Γ rest ((d, .int k v) :: l) M K) :
    L Γ ({ dst := some d, op := .load T x, type := ty, pos := pos, after := af, guard := none } :: rest) l M K :=
  L_load hn hx hc ht (aC_at hv) hk
theorem L_ldArW {x : Operand} {T g n : Nat} (hn : Nat.blt d Γ.n = true) (hx : ev l x = some (.pointer (some ⟨g, 0, none⟩))) (hc : RdC Γ M g 0 (aC k A)) (ht : aggOf Γ.P T = some n) (hl : alen n A = some A')
    (hk : L Γ rest ((d, .agg (aC k A).toArray) :: l) M K) :
    L Γ ({ dst := some d, op := .load T x, type := ty, pos := pos, after := af, guard := none } :: rest) l M K :=
  L_loadW hn hx hc (by rw [aC_len, (alen_some hl).1]; exact ht) hk
theorem L_stAr {x y : Operand} {T b j : Nat} {T' : TypeId} {v : Int} {M' : List HP} (hx : ev l x = some (.pointer (some ⟨b, 0 + j, none⟩))) (hy : ev l y = some (.int k v)) (hp : Pick (blk b (aC k A) T') M M')
    (ht : oneOf Γ.P T = true) (hs : aset A j v = some A') (hk : L Γ rest l (blk b (aC k A') T' :: M') K) :
    L Γ ({ dst := none, op := .store T x y, type := ty, pos, after := af, guard := none } :: rest) l M K := by
  obtain ⟨h1, rfl⟩ := aset_some hs
  have e : aC k (A.set j v) = (aC k A).set j (.int k v) := List.map_set ..
  rw [e] at hk
  exact L_store hx hy hp ht rfl (Nat.ble_eq_true_of_le (by rw [aC_len]; exact h1)) hk
theorem L_stArW {x y : Operand} {T b n : Nat} {T' : TypeId} {B B' : List Int} {M' : List HP} (hx : ev l x = some (.pointer (some ⟨b, 0, none⟩))) (hy : ev l y = some (.agg (aC k B).toArray)) (hp : Pick (blk b (aC k A) T') M M')
    (ht : aggOf Γ.P T = some n) (h1 : alen n A = some A') (h2 : alen n B = some B') (hk : L Γ rest l (blk b (aC k B) T' :: M') K) :
    L Γ ({ dst := none, op := .store T x y, type := ty, pos, after := af, guard := none } :: rest) l M K :=
  L_storeW hx hy hp (by rw [aC_len, (alen_some h2).1]; exact ht) (by rw [aC_len, aC_len, (alen_some h1).1, (alen_some h2).1]) (aC_one k B) hk
theorem L_boxAr {x : Operand} {T : TypeId} (hn : Nat.blt d Γ.n = true) (hx : ev l x = some (.agg (aC k A).toArray))
    (hk : ∀ b, L Γ rest ((d, .pointer (some ⟨b, 0, none⟩)) :: l) (blk b (aC k A) T :: M) K) : L Γ ({ dst := some d, op := .box T x, type := ty, pos := pos, after := af, guard := none } :: rest) l M K :=
  L_box hn hx (fun b => by simpa [Value.cells] using hk b)
theorem L_buildAr {T n : Nat} {z : List Value} {xs : List (Nat × Operand)} {ps : List (Nat × Value)} (hn : Nat.blt d Γ.n = true) (hx : evp l xs = some ps) (ht : arOf Γ.P T = some n) (hz : zeroOf Γ.P T = some z)
    (hf : fillL (fun i => some (i * 1, 1)) z ps = some (aC k A)) (hk : L Γ rest ((d, .agg (aC k A).toArray) :: l) M K) :
    L Γ ({ dst := some d, op := .build T xs.toArray, type := ty, pos, after := af, guard := none } :: rest) l M K :=
  L_pure hn (fun a w ha _ => by
    have h1 : xs.toArray.map (fun (i, x) => (i, a.eval x)) = ps.toArray := by simp [ha.evalp xs ps hx]
    simp only [execOp, h1]
    simp [run_buildA ht hz hf]) hk
theorem L_idxArV {x y : Operand} {T n j : Nat} {k' : IntKind} {i v : Int} (hn : Nat.blt d Γ.n = true) (hx : ev l x = some (.agg (aC k A).toArray)) (hy : ev l y = some (.int k' i)) (ht : arOf Γ.P T = some n) (hj : ack n i = some j) (hv : A[j]? = some v)
    (hk : L Γ rest ((d, .int k v) :: l) M K) :
    L Γ ({ dst := some d, op := .index T x y, type := ty, pos := pos, after := af, guard := none } :: rest) l M K :=
  L_pure hn (fun a' w ha _ => by
    unfold arOf at ht
    split at ht <;> (try cases ht)
    rename_i n' e he
    split at ht <;> (try cases ht)
    rename_i i' hi'
    split at ht <;> cases ht
    rename_i hsz
    obtain ⟨rfl, hjn⟩ := ack_some hj
    have h2 := aC_at (k := k) hv
    have h3 := (List.getElem?_eq_some_iff.1 h2).1
    have h0' : ¬ n ≤ j := by omega
    have h4 : (aC k A)[j] = .int k v := by rw [List.getElem?_eq_getElem h3] at h2; exact Option.some.inj h2
    have h5 : (part e (aC k A).toArray j).run Γ.P w = .ok (.int k v) w := by simp [part, run_isAgg_one hsz.2, h3, h4]
    simp [execOp, ha.eval hx, ha.eval hy, Instr.index, asIntOf, underlying, he, h0', hjn, sizeOf, typeInfo, hi', hsz, h5]) hk
theorem ResOK.cellAr {P : Program} {n t ty b m : Nat} {T : TypeId} (h : l.lookup t = some (.pointer (some ⟨b, 0, none⟩))) (hm : blk b (aC k A) T ∈ M)
    (ht : aggOf P ty = some m) (hl : alen m A = some A') : ResOK P n w0 S0 l M (.cell t ty) (.agg (aC k A).toArray) :=
  ResOK.cell h hm (by rw [aC_len, (alen_some hl).1]; exact ht)
theorem L_xorU {x : Operand} {T : TypeId} {n : Int} (hn : Nat.blt d Γ.n = true) (hx : ev l x = some (.int k n)) (hk : L Γ rest ((d, .int k (bits .xor k (if k.signed then -1 else k.max) n)) :: l) M K) :
    L Γ ({ dst := some d, op := .unOp .xor T x, type := ty, pos := pos, after := af, guard := none } :: rest) l M K :=
  L_pure hn (fun a w ha _ => by simp [execOp, ha.eval hx, Op.unary, intBits_xor]) hk
end
/-! A variable of the package that is only read: block g, ints. -/
structure GA (g : Nat) (k : IntKind) (A : List Int) where mk ::
instance (g : Nat) (k : IntKind) (A : List Int) : GT (GA g k A) Unit where
  sz := 1
  pos := by decide
  cells _ := [.int .i64 0]
  len _ := rfl
  one _ v hv := by simp at hv; subst hv; rfl
  rd w S _ := ∀ j v, (aC k A)[j]? = some v → Old w S ⟨g, j, none⟩ v
  fp _ := []
  ow _ _ := False
  dat _ := ()
  rd_mono h hm := fun j v hv => hm _ _ (h j v hv)
  ow_st _ h := h
  ow_rd h _ := h.elim
theorem RdC.ga {g : Nat} {k : IntKind} {A : List Int} (h : RdT Γ M (GA.mk (g := g) (k := k) (A := A))) : RdC Γ M g 0 (aC k A) := fun w hw j v hv => by
  rw [Nat.zero_add]
  exact ((h w hw) j v hv).1

/-! In a drawn region -/
variable {ops : Array Oper} {Msh pool : List HP} {E : Fl} {rs : List (Option Nat × Rel)} {cs0 : List Nat} {KD : List (Option Nat × Rel) → List Nat → List HP → Prop} {gd : Option (Nat × Bool)}
section
variable {k : IntKind} {A A' : List Int} {c : Prop}
theorem D_idxAr {x y : Operand} {T n g j : Nat} {k' : IntKind} {i : Int} (hg : GC ops E { dst := some d, op := .indexAddr T x y, type := ty, pos := pos, after := af, guard := gd } c)
    (hx : OpV E x c (.pointer (some ⟨g, 0, none⟩))) (hy : OpV E y c (.int k' i)) (ht : arOf Γ.P T = some n) (hj : c → ack n i = some j)
    (hk : DV Γ ops Msh pool ((d, FC c (.pointer (some ⟨g, 0 + j, none⟩))) :: E) ((some d, FC c (.pointer (some ⟨g, 0 + j, none⟩))) :: rs) cs0 rest KD) :
    DV Γ ops Msh pool E rs cs0 ({ dst := some d, op := .indexAddr T x y, type := ty, pos := pos, after := af, guard := gd } :: rest) KD :=
  DV_pure c _ hg (fun a w F hc hf hs => by
    have e1 := hx.eval hf (by simp [Op.operands]) hc
    have e2 := hy.eval hf (by simp [Op.operands]) hc
    simp [execOp, e1, e2, run_indexArr ht g 0 k' i j (hj hc) w]) hk
theorem D_ldAr {x : Operand} {T g j : Nat} {v : Int} (hg : GC ops E { dst := some d, op := .load T x, type := ty, pos := pos, after := af, guard := gd } c)
    (hx : OpV E x c (.pointer (some ⟨g, 0 + j, none⟩))) (hr : RdC Γ Msh g 0 (aC k A)) (ht : oneOf Γ.P T = true) (hv : c → A[j]? = some v)
    (hk : DV Γ ops Msh pool ((d, FC c (.int k v)) :: E) ((some d, FC c (.int k v)) :: rs) cs0 rest KD) :
    DV Γ ops Msh pool E rs cs0 ({ dst := some d, op := .load T x, type := ty, pos := pos, after := af, guard := gd } :: rest) KD :=
  DV_pure c _ hg (fun a w F hc hf hs => by
    have e1 := hx.eval hf (by simp [Op.operands]) hc
    have h2 := hr w hs j _ (aC_at (hv hc))
    rw [Nat.zero_add] at e1 h2
    simp [execOp, e1, Instr.loadAt, Instr.sureAddr, loadVar, run_isAgg_one ht, h2]) hk
theorem D_ldArW {x : Operand} {T g n : Nat} (hg : GC ops E { dst := some d, op := .load T x, type := ty, pos := pos, after := af, guard := gd } c)
    (hx : OpV E x c (.pointer (some ⟨g, 0, none⟩))) (hr : RdC Γ Msh g 0 (aC k A)) (ht : aggOf Γ.P T = some n) (hl : c → alen n A = some A')
    (hk : DV Γ ops Msh pool ((d, FC c (.agg (aC k A).toArray)) :: E) ((some d, FC c (.agg (aC k A).toArray)) :: rs) cs0 rest KD) :
    DV Γ ops Msh pool E rs cs0 ({ dst := some d, op := .load T x, type := ty, pos := pos, after := af, guard := gd } :: rest) KD :=
  DV_pure c _ hg (fun a w F hc hf hs => by
    have e1 := hx.eval hf (by simp [Op.operands]) hc
    have hl2 := run_loadCells_at (P := Γ.P) (hr w hs)
    have ht2 : aggOf Γ.P T = some (aC k A).length := by rw [aC_len, (alen_some (hl hc)).1]; exact ht
    simp [execOp, e1, Instr.loadAt, Instr.sureAddr, loadVar, run_isAgg_agg ht2, hl2]) hk
theorem D_xorU {x : Operand} {T : TypeId} {n : Int} (hg : GC ops E { dst := some d, op := .unOp .xor T x, type := ty, pos := pos, after := af, guard := gd } c)
    (hx : OpV E x c (.int k n)) (hk : DV Γ ops Msh pool ((d, FC c (.int k (bits .xor k (if k.signed then -1 else k.max) n))) :: E) ((some d, FC c (.int k (bits .xor k (if k.signed then -1 else k.max) n))) :: rs) cs0 rest KD) :
    DV Γ ops Msh pool E rs cs0 ({ dst := some d, op := .unOp .xor T x, type := ty, pos := pos, after := af, guard := gd } :: rest) KD :=
  DV_pure c _ hg (fun a w F hc hf hs => by
    have e1 := hx.eval hf (by simp [Op.operands]) hc
    simp [execOp, e1, Op.unary, intBits_xor]) hk
end
end Go.Proofs.SL
namespace Go.Proofs.SL
open Go
theorem run_makeP {P : Program} {τ δ : Type} [GT τ δ] {w0 w : World} {S0 : List Nat} {F : List HP} {T e sz by_ : Nat} {z : List Value} {k k' : IntKind} {n : Int} {r : List δ} (t0 : τ) (ht : elOf P T = some (e, sz, by_, z))
    (hz : GT.cells t0 = z) (hsz : GT.sz τ = sz) (hf : Flat t0) (hr : mkP by_ n (GT.dat t0) = some r) (hw : Holds w0 S0 F w) :
    ∃ (X : TL τ) (w' : World), (Instr.makeSlice T (.int k n) (.int k' n)).run P w = .ok X.hdr w' ∧ GT.dat X = r ∧ Holds w0 S0 (treeH X :: F) w' := by
  unfold mkP at hr
  split at hr
  rotate_left
  · cases hr
  rename_i hb
  obtain ⟨hb1, hb2, hb3⟩ := hb
  obtain ⟨m, rfl⟩ := Int.eq_ofNat_of_zero_le hb1
  obtain rfl := Option.some.inj hr
  simp only [Int.toNat_natCast] at *
  unfold elOf at ht
  split at ht <;> (try cases ht)
  rename_i e' he
  split at ht <;> (try cases ht)
  rename_i i' hi'
  split at ht <;> cases ht
  rename_i z' hz'
  have hrow := made_row m i'.size z'.cells t0 hz.symm hsz
  have hrun : (Instr.makeSlice T (.int k m) (.int k' m)).run P w = .ok (.slice (some ⟨w.heap.size, 0, none⟩) m m) (w.alloc (.cells (rowCells (List.replicate m t0)).toArray e (0, 0))) := by
    have hm' : (m : Int) ≤ 9223372036854775807 := by omega
    have hb' : (i'.bytes : Int) * (m : Int) ≤ 281474976710656 := by
      have h : ((i'.bytes * m : Nat) : Int) ≤ 281474976710656 := by rw [Nat.mul_comm]; omega
      rwa [Int.natCast_mul] at h
    have hr := run_make (P := P) w T e i' z' he hi' hz' k k' m m (by omega) (Int.le_refl _) hb' hm'
    simp only [Int.toNat_natCast] at hr
    rw [hr]
    have : madeCells z'.cells (m * i'.size) = (rowCells (List.replicate m t0)).toArray := by
      apply Array.toList_inj.1; unfold madeCells; rw [hrow]
    rw [this]
  have eh : (⟨some ⟨w.heap.size, 0, none⟩, m, e, List.replicate m t0, []⟩ : TL τ).hdr = .slice (some ⟨w.heap.size, 0, none⟩) m m := by show Value.slice _ (List.replicate m t0).length _ = _; rw [List.length_replicate]
  refine ⟨⟨some ⟨w.heap.size, 0, none⟩, m, e, List.replicate m t0, []⟩, _, by rw [hrun, eh], by rw [dat_els]; simp, ?_⟩
  have h1 := hw.new (b := w.heap.size) (cs := rowCells (List.replicate m t0)) (T := e) rfl
  have hp := h1.prs (blk w.heap.size (rowCells (List.replicate m t0)) e) (List.mem_cons_self ..)
  have hff : ∀ x, x ∈ List.replicate m t0 → Flat x := fun x hx => by rw [List.eq_of_mem_replicate hx]; exact hf
  refine ⟨h1.os, h1.tape, h1.output, h1.size, h1.old, fun x hx => ?_, ?_, fun k hk => h1.rng k ?_⟩
  · rcases List.mem_cons.1 hx with rfl | hx
    · refine ⟨by simp, by simp only [maxLen]; omega, fun y hy => (hff y hy).ow _, fun h => (by cases h), fun a ha => ?_⟩
      cases ha
      exact ⟨rfl, rfl, by rw [List.append_nil]; exact hp, by simp⟩
    · exact h1.prs x (List.mem_cons_of_mem _ hx)
  · have h2 := h1.nodup
    rw [fps_cons] at h2 ⊢
    show (([w.heap.size] ++ (List.replicate m t0).flatMap GT.fp) ++ fps F).Nodup
    rw [fps_flat _ hff]; exact h2
  · rw [fps_cons] at hk ⊢
    have hk' : k ∈ ([w.heap.size] ++ (List.replicate m t0).flatMap GT.fp) ++ fps F := hk
    rw [fps_flat _ hff] at hk'; exact hk'
theorem run_toStr {P : Program} {S T e : Nat} {X : TL UInt8} {w : World} (hS : P.underlying S = some (.slice e)) (he : P.underlying e = some (.int .u8)) (hT : P.underlying T = some .string) (h1 : GT.rd w [] X) :
    (convert S T X.hdr).run P w = .ok (.string (strP (GT.dat X))) w := by
  obtain ⟨a, cap, e', els, tail⟩ := X
  have hd : GT.dat (⟨a, cap, e', els, tail⟩ : TL UInt8) = els := map_id' els
  rw [hd]
  cases a with
  | none =>
    have he0 : els = [] := h1.2.2.2.1 rfl
    subst he0
    show (convert S T (.slice none _ _)).run P w = _
    rw [run_convert_bytes_string w S T e _ _ _ hS he hT, run_bytesNone]
    rfl
  | some ad =>
    obtain ⟨h3, h4⟩ := h1.2.2.2.2 ad rfl
    show (convert S T (.slice (some ad) els.length cap)).run P w = _
    rw [run_convert_bytes_string w S T e _ _ _ hS he hT]
    have hrow : ∀ xs : List UInt8, rowCells xs = xs.map fun b => Value.int .u8 (b.toNat : Int) := by
      intro xs
      induction xs with
      | nil => rfl
      | cons x xs ih => rw [rowCells_cons, ih]; rfl
    have hl : (loadCells ad els.length).run P w = .ok ((els.map fun b => (b.toNat : Int)).map (Value.int .u8)).toArray w := by
      by_cases hz : els = []
      · subst hz
        simp [loadCells, loadCellsFrom]
      · have hs := h3 hz
        obtain ⟨blk, off, sp⟩ := ad
        dsimp only at hs
        subst hs
        have := run_loadCells_at (P := P) (g := blk) (off := off) (cs := rowCells els) (w := w) (fun j v hv => by
          have := h4 j v hv
          exact this.1)
        rw [length_rowCells, show GT.sz UInt8 = 1 from rfl, Nat.mul_one, hrow] at this
        rw [this, List.map_map]; rfl
    have hb := run_bytesToString (P := P) w ad els.length cap (els.map fun b => (b.toNat : Int)) hl
    have e1 := strOf_bytes els
    unfold strOf at e1
    rw [hb, e1]
    rfl

variable {Γ : Cx} {rest : List Oper} {d : Nat} {ty : TypeId} {pos : String} {af : Array Edge}
variable {ops : Array Oper} {Msh pool : List HP} {E : Fl} {rs : List (Option Nat × Rel)} {cs0 : List Nat} {KD : List (Option Nat × Rel) → List Nat → List HP → Prop}
theorem D_mkP {τ δ : Type} [GT τ δ] (t0 : τ) {x y : Operand} {T e sz by_ : Nat} {z : List Value} {k k' : IntKind} {n : Int} {r : List δ} (hx : OpV E x True (.int k n)) (hy : OpV E y True (.int k' n)) (ht : elOf Γ.P T = some (e, sz, by_, z))
    (hz : GT.cells t0 = z) (hsz : GT.sz τ = sz) (hf : Flat t0) (hr : mkP by_ n (GT.dat t0) = some r)
    (hk : DV Γ ops Msh pool ((d, OwnV (τ := τ) r) :: E) ((some d, OwnV (τ := τ) r) :: rs) cs0 rest KD) :
    DV Γ ops Msh pool E rs cs0 ({ dst := some d, op := .makeSlice T x y, type := ty, pos := pos, after := af, guard := none } :: rest) KD := by
  refine DV.mk (OwnV (τ := τ) r) [] pool [] (by simp) rfl ?_ (by rw [dropE_nil]; exact hk)
  intro a w F Mk _ _ hw hm hfa hcf
  have hMk : Mk = [] := hcf
  subst hMk
  rw [dropE_nil] at hfa
  simp only [List.nil_append] at hw ⊢
  rw [if_pos (by simp [Region.wanted])]
  have e1 := hx.eval hfa (by simp [Op.operands]) trivial
  have e2 := hy.eval hfa (by simp [Op.operands]) trivial
  obtain ⟨X, w', h1, h2, h3⟩ := run_makeP (k := k) (k' := k') t0 ht hz hsz hf hr (show Holds Γ.w0 Γ.S0 F w by simpa using hw)
  have h4 : (execOp a.eval { dst := some d, op := .makeSlice T x y, type := ty, pos := pos, after := af, guard := none }).run Γ.P w = .ok (.value X.hdr) w' := by
    generalize X.hdr = u at *
    simp [execOp, e1, e2, h1]
  rw [h4]
  exact ⟨[treeH X], ⟨X, rfl, h2, rfl⟩, h3⟩
theorem D_toStrO {t S T e : Nat} {r : List UInt8} (hR : E.lookup t = some (OwnV (τ := UInt8) r)) (hS : Γ.P.underlying S = some (.slice e)) (he : Γ.P.underlying e = some (.int .u8)) (hT : Γ.P.underlying T = some .string)
    (hlin : linB ops { dst := some d, op := .convert S T (.tmp t), type := ty, pos := pos, after := af, guard := none } [t] = true)
    (hk : DV Γ ops Msh pool ((d, FC True (.string (strP r))) :: dropE [t] E) ((some d, FC True (.string (strP r))) :: rs) ([t] ++ cs0) rest KD) :
    DV Γ ops Msh pool E rs cs0 ({ dst := some d, op := .convert S T (.tmp t), type := ty, pos := pos, after := af, guard := none } :: rest) KD := by
  refine DV.mk (FC True (.string (strP r))) [] pool ([t]) (by simp) hlin ?_ hk
  intro a w F Mk _ _ hw hm hfa hcf
  obtain ⟨Mx, Mk', rfl, hRR, hnil⟩ := hcf
  have hnil : Mk' = [] := hnil
  subst hnil
  obtain ⟨X, hv, hd, rfl⟩ := hRR _ hR
  rw [if_pos (by simp [Region.wanted])]
  have hw1 : Holds Γ.w0 Γ.S0 (treeH X :: F) w := by simpa using hw
  have h1 := run_toStr (P := Γ.P) hS he hT (rd_of_tree (List.mem_cons_self ..) hw1.sees)
  have hv' : a.eval (.tmp t) = X.hdr := hv
  have h3 : (execOp a.eval { dst := some d, op := .convert S T (.tmp t), type := ty, pos := pos, after := af, guard := none }).run Γ.P w = .ok (.value (.string (strP r))) w := by
    rw [← hd]
    generalize X.hdr = u at *
    simp [execOp, hv', h1]
  rw [h3]
  exact ⟨[], ⟨rfl, fun _ => rfl, fun hn => (hn trivial).elim⟩, by simpa using hw1.sub ⟨[treeH X], by
    show List.Perm (treeH X :: F) (F ++ [treeH X])
    exact (List.perm_append_comm (l₁ := [treeH X]) (l₂ := F))⟩⟩
end Go.Proofs.SL
namespace Go.Proofs.SL
open Go
variable {Γ : Cx} {rest : List Oper} {d : Nat} {ty : TypeId} {pos : String} {af : Array Edge}
variable {ops : Array Oper} {Msh pool pool' : List HP} {E : Fl} {rs : List (Option Nat × Rel)} {cs0 : List Nat} {KD : List (Option Nat × Rel) → List Nat → List HP → Prop}
variable {τ δ : Type} [GT τ δ]
theorem OpV.g0 {g : Nat} {c : Prop} : OpV E (.global g) c (.pointer (some ⟨g, 0, none⟩)) := rfl
theorem D_bsN [FlatT τ] (ts : List τ) {T e sz by_ n : Nat} {z : List Value} {xs : List (Nat × Operand)} {ps : List (Nat × Value)} {r : List δ} (hx : OpVp E xs ps) (ht : elOf Γ.P T = some (e, sz, by_, z)) (hz : z.length = sz)
    (hsz : GT.sz τ = sz) (h0 : Nat.blt 0 sz = true) (hns : Nat.ble (n * sz) 65536 = true) (hn0 : Nat.blt 0 n = true) (hlen : ts.length = n) (hf : fillL (fun i => some (i * sz, sz)) ((List.range (n * sz)).map fun i => z.getD (i % sz) undef) ps = some (rowCells ts))
    (hr : some (ts.map GT.dat) = some r) (hk : DV Γ ops Msh pool ((d, OwnV (τ := τ) r) :: E) ((some d, OwnV (τ := τ) r) :: rs) cs0 rest KD) :
    DV Γ ops Msh pool E rs cs0 ({ dst := some d, op := .buildSlice T n xs.toArray, type := ty, pos := pos, after := af, guard := none } :: rest) KD := by
  have h0' : 0 < sz := Nat.le_of_ble_eq_true h0
  have hns' : n * sz ≤ 65536 := Nat.le_of_ble_eq_true hns
  have hnl : n ≤ 65536 := Nat.le_trans (Nat.le_mul_of_pos_right n h0') hns'
  refine DV.mk (OwnV (τ := τ) r) [] pool [] (by simp) rfl ?_ (by rw [dropE_nil]; exact hk)
  intro a w F Mk _ _ hw hm hfa hcf
  have hMk : Mk = [] := hcf
  subst hMk
  rw [dropE_nil] at hfa
  simp only [List.nil_append] at hw ⊢
  rw [if_pos (by simp [Region.wanted])]
  have h1 : xs.toArray.map (fun (i, x) => (i, a.eval x)) = ps.toArray := by
    have := OpVp.evals (o := { dst := some d, op := .buildSlice T n xs.toArray, type := ty, pos := pos, after := af, guard := none }) hfa xs ps hx (fun x hx => by simp [Op.operands]; exact ⟨_, hx⟩)
    rw [← this]; simp
  have hrun := run_buildSlice (P := Γ.P) (w := w) ht hz h0' hns' (Nat.le_of_ble_eq_true hn0) hf
  have h3 : (execOp a.eval { dst := some d, op := .buildSlice T n xs.toArray, type := ty, pos := pos, after := af, guard := none }).run Γ.P w = .ok (.value (.slice (some ⟨w.heap.size, 0, none⟩) n n)) (w.alloc (.cells (rowCells ts).toArray e (0, 0))) := by
    simp only [execOp, h1]
    simp [hrun]
  rw [h3]
  have eh : (⟨some ⟨w.heap.size, 0, none⟩, n, e, ts, []⟩ : TL τ).hdr = .slice (some ⟨w.heap.size, 0, none⟩) n n := by show Value.slice _ ts.length _ = _; rw [hlen]
  have hw2 : Holds Γ.w0 Γ.S0 F w := by simpa using hw
  refine ⟨[treeH (⟨some ⟨w.heap.size, 0, none⟩, n, e, ts, []⟩ : TL τ)], ⟨_, eh.symm, Option.some.inj hr, rfl⟩, ?_⟩
  have h5 := hw2.new (b := w.heap.size) (cs := rowCells ts) (T := e) rfl
  exact blk_own (by omega) (by simp only [maxLen]; omega) (by rw [hlen]; simp) (by rw [List.append_nil]; exact h5)
theorem run_appT [FlatT τ] {P : Program} {w0 w : World} {S0 : List Nat} {F : List HP} {T e sz by_ : Nat} {z : List Value} {X Y : TL τ} (ht : elOf P T = some (e, sz, by_, z)) (hsz : GT.sz τ = sz) (hz : z.length = sz) (hw1 : Holds w0 S0 (treeH X :: F) w) (hY : GT.rd w [] Y)
    (hl : X.els.length + Y.els.length ≤ 4294967296) (hb : by_ ≤ 32768) (ty : TypeId) : ∃ (Z : TL τ) (w' : World), (Builtin.append_ #[T, T] ty #[X.hdr, Y.hdr]).run P w = .ok Z.hdr w' ∧ GT.dat Z = GT.dat X ++ GT.dat Y ∧ Holds w0 S0 (treeH Z :: F) w' := by
  cases hya : Y.a with
  | some ad =>
    have hsp : Y.els ≠ [] → ad.spot = none := fun hne => (hY.2.2.2.2 ad hya).1 hne
    have hsrc2 : ∀ j v, (rowCells Y.els)[j]? = some v → w.cell? (ad.add j) = some v := fun j v hv => by
      have hne : Y.els ≠ [] := fun e => by rw [e] at hv; simp [rowCells] at hv
      obtain ⟨b, o, sp⟩ := ad
      have h3 : sp = none := hsp hne
      subst h3
      rw [addr_add]; exact ((hY.2.2.2.2 _ hya).2 j v hv).1
    obtain ⟨a', c', e', tl, w', h1, h2⟩ := append_rowE (P := P) (c := Y.cap) ht hsz hz (tree_row hw1) hsrc2 hl hb ty
    have h1' : (Builtin.append_ #[T, T] ty #[X.hdr, Y.hdr]).run P w = .ok (TL.hdr (⟨a', c', e', X.els ++ Y.els, tl⟩ : TL τ)) w' := by
      have : Y.hdr = .slice (some ad) Y.els.length Y.cap := by show Value.slice Y.a _ _ = _; rw [hya]
      rw [this]; exact h1
    refine ⟨_, w', h1', ?_, ?_⟩
    · rw [dat_els, List.map_append, dat_els, dat_els]
    · refine row_tree ?_
      have h4 : Holds w0 S0 (elsT X.els :: elsT Y.els :: rowH (⟨a', c', e', X.els ++ Y.els, tl⟩ : TL τ) :: F) w' := by
        have h5 := elsT_flat (xs := Y.els) h2 (fun x _ => FlatT.flat x)
        exact h5.perm (((List.Perm.swap _ _ _).trans ((List.Perm.swap _ _ _).cons _)).trans (List.Perm.swap _ _ _ |>.trans ((List.Perm.refl _)))) |>.perm (by
          first
          | exact List.Perm.refl _
          | exact (List.Perm.swap _ _ _)
          | exact ((List.Perm.swap _ _ _).cons _)
          | exact (List.Perm.swap _ _ _).trans ((List.Perm.swap _ _ _).cons _)
          | exact ((List.Perm.swap _ _ _).cons _).trans (List.Perm.swap _ _ _))
      exact (elsT_app h4).perm (List.Perm.swap _ _ _)
  | none =>
    have hye : Y.els = [] := hY.2.2.2.1 hya
    have hr0 : GT.ow w X := hw1.prs _ (List.mem_cons_self ..)
    have h5 : (Builtin.append_ #[T, T] ty #[X.hdr, Y.hdr]).run P w = .ok X.hdr w := by
      have : Y.hdr = .slice none 0 Y.cap := by show Value.slice Y.a _ _ = _; rw [hya, hye]; rfl
      rw [this]; exact append_none (P := P) (w := w) (a := X.a) (n := X.els.length) (c := X.cap) (c2 := Y.cap) ht hr0.1 ty
    exact ⟨X, w, h5, by rw [dat_els Y, hye]; simp, hw1⟩
theorem D_appO [FlatT τ] {s : Operand} {t T e sz by_ : Nat} {z : List Value} {X : TL τ} {r2 r : List δ}
    (hs : OpV (dropE [t] E) s True X.hdr) (hx : E.lookup t = some (OwnV (τ := τ) r2)) (ht : elOf Γ.P T = some (e, sz, by_, z)) (hsz : GT.sz τ = sz) (hz : z.length = sz)
    (hp : Pick (treeH X) pool pool') (hr : appP (GT.dat X) r2 = some r) (hb : by_ ≤ 32768)
    (hlin : linB ops { dst := some d, op := .call { callee := .builtin .append, args := #[s, .tmp t], argTypes := #[T, T] }, type := ty, pos := pos, after := af, guard := none } [t] = true)
    (hk : DV Γ ops Msh pool' ((d, OwnV (τ := τ) r) :: dropE [t] E) ((some d, OwnV (τ := τ) r) :: rs) ([t] ++ cs0) rest KD) :
    DV Γ ops Msh pool E rs cs0 ({ dst := some d, op := .call { callee := .builtin .append, args := #[s, .tmp t], argTypes := #[T, T] }, type := ty, pos := pos, after := af, guard := none } :: rest) KD := by
  refine DV.mk (OwnV (τ := τ) r) ([treeH X]) pool' ([t]) hp.perm hlin ?_ hk
  intro a w F Mk _ _ hw hm hfa hcf
  obtain ⟨Mx, Mk', rfl, hRR, hnil⟩ := hcf
  have hnil : Mk' = [] := hnil
  subst hnil
  obtain ⟨Y, hv, hd, rfl⟩ := hRR _ hx
  rw [if_pos (by simp [Region.wanted])]
  have e1 := hs.eval hfa (by simp [Op.operands, Call.operands]) trivial
  have e2 : a.eval (.tmp t) = Y.hdr := hv
  have hw1 : Holds Γ.w0 Γ.S0 (treeH X :: treeH Y :: F) w := by simpa using hw
  subst hd
  obtain ⟨hl, rfl⟩ := appP_some hr
  simp only [dat_els, List.length_map] at hl
  have hY := rd_of_tree (t := Y) (F := treeH X :: treeH Y :: F) (List.mem_cons_of_mem _ (List.mem_cons_self ..)) hw1.sees
  obtain ⟨Z, w', h1, h2, h6⟩ := run_appT (P := Γ.P) ht hsz hz hw1 hY hl hb ty
  have h3 : (execOp a.eval { dst := some d, op := .call { callee := .builtin .append, args := #[s, .tmp t], argTypes := #[T, T] }, type := ty, pos := pos, after := af, guard := none }).run Γ.P w = .ok (.value Z.hdr) w' := by
    generalize Z.hdr = vv at *
    generalize X.hdr = uu at *
    generalize Y.hdr = yy at *
    simp [execOp, resolve, invoke, builtin, e1, e2, h1]
  rw [h3]
  exact ⟨[treeH Z], ⟨Z, rfl, h2, rfl⟩, h6.sub ⟨[treeH Y], by
    show List.Perm (treeH Z :: treeH Y :: F) ((treeH Z :: F) ++ [treeH Y])
    exact (List.perm_append_comm (l₁ := [treeH Y]) (l₂ := F)).cons _⟩⟩
end Go.Proofs.SL
namespace Go.Proofs.SL
open Go
variable {Γ : Cx} {rest : List Oper} {d : Nat} {ty : TypeId} {pos : String} {af : Array Edge} {l : Envl} {M : List HP} {K : Kont}
def cxs (ns : List Int) : List (Nat × Operand) := ns.zipIdx.map fun q => (q.2, .const (.int .i64 q.1))
def cps (ns : List Int) : List (Nat × Value) := ns.zipIdx.map fun q => (q.2, .int .i64 q.1)
/-- A long slice of constants. -/
theorem L_bsNC (ns : List Int) {T e by_ n : Nat} {z : List Value} {o : Op} (hn : Nat.blt d Γ.n = true) (ho : o = .buildSlice T n (cxs ns).toArray) (hx : evp l (cxs ns) = some (cps ns)) (ht : elOf Γ.P T = some (e, 1, by_, z)) (hz : z.length = 1)
    (hns : Nat.ble (n * 1) 65536 = true) (hn0 : Nat.blt 0 n = true) (hlen : ns.length = n) (hf : fillL (fun i => some (i * 1, 1)) ((List.range (n * 1)).map fun i => z.getD (i % 1) undef) (cps ns) = some (rowCells ns))
    (hk : ∀ X : TL Int, GT.dat X = ns → L Γ rest ((d, X.hdr) :: l) (treeH X :: M) K) :
    L Γ ({ dst := some d, op := o, type := ty, pos, after := af, guard := none } :: rest) l M K := by
  subst ho
  exact L_bsN (τ := Int) ns hn hx ht hz rfl rfl hns hn0 hlen hf (congrArg some (show ns.map (fun x : Int => x) = ns from List.map_id' ns)) hk
end Go.Proofs.SL
namespace Go.Proofs.SL
open Go Go.RowKit
section
variable {H : Type} {enc : TypeId × Value → H} {P : Program} {w : World} {base : Nat} {spare : Nat → Bool} {held : Bool} {fuel : Nat} {t : TypeId} {cs : List Value}
theorem ar_of_trod {n : Nat} {e : TypeId} {k : IntKind} {A : List Int} {p : List MemPlace} (ht : P.underlying t = some (.array n e)) (he : P.underlying e = some (.int k)) (hc : P.cellsOf e = 1) (hct : P.cellsOf t = n)
    (h : DataW.trod enc P w base spare held fuel t cs = some (.agg (A.map fun a => .lit (.int k a)), p)) : cs = aC k A := by
  obtain ⟨xs, m, rfl, hx, hlen, hn, hel⟩ := DataW.trod_array ht h
  simp only [Prod.mk.injEq, DataW.agg.injEq] at hx
  have hA : A.length = n := by
    have := congrArg List.length hx.1
    simp at this; omega
  apply List.ext_getElem?
  intro i
  by_cases hi : i < n
  · have h1 := hel i hi
    rw [hc, Nat.mul_one] at h1
    have hxi : xs[i]? = some (xs[i]'(by omega)) := List.getElem?_eq_getElem (by omega)
    generalize xs[i]'(by omega) = x at hxi
    rw [hxi] at h1
    obtain ⟨k', e1, e2, _⟩ := DataW.trod_int he h1
    have h2 : cs[i]? = some (.int k k') := by
      have := congrArg (fun q => q[0]?) e1
      simpa [List.getElem?_take, List.getElem?_drop] using this
    have h3 : (A.map fun a => (DataW.lit (.int k a) : DataW H))[i]? = some (.lit (.int k k')) := by
      rw [hx.1, List.getElem?_map, hxi, e2]; rfl
    rw [List.getElem?_map] at h3
    have hAi : A[i]? = some (A[i]'(by omega)) := List.getElem?_eq_getElem (by omega)
    generalize A[i]'(by omega) = a at hAi
    rw [hAi] at h3
    simp only [Option.map_some, Option.some.injEq, DataW.lit.injEq, Lit.int.injEq, true_and] at h3
    rw [h2, aC_at hAi, h3]
  · rw [List.getElem?_eq_none (by omega), List.getElem?_eq_none (by rw [aC_len]; omega)]
theorem gv_of_laid {n g t : Nat} {e : TypeId} {k : IntKind} {A : List Int} {name : String} {d : DataW Unit} (hg : P.globalNamed name = some g) (ht0 : (P.globals[g]?).map (·.type) = some t)
    (ht : P.underlying t = some (.array n e)) (he : P.underlying e = some (.int k)) (hc : P.cellsOf e = 1) (hct : P.cellsOf t = n) (hd : d = .agg (A.map fun a => .lit (.int k a)))
    (hp : ([(name, d)].all fun x => x.2.handleName?.isNone) = true) (h : laidMetH P [(name, d)] w) : GT.rd w [] (GA.mk (g := g) (k := k) (A := A)) := by
  subst hd
  rw [MakeChecks.laidMetH_plain _ _ _ hp] at h
  obtain ⟨ps, ⟨g0, t0, cs0, f0, p0, q0, hg0, ht1, hv0, hd0, _⟩, _⟩ := h
  obtain rfl := Option.some.inj (hg.symm.trans hg0)
  obtain rfl := Option.some.inj (ht0.symm.trans ht1)
  have hcs := ar_of_trod ht he hc hct hd0
  intro j v hj
  refine ⟨?_, by simp⟩
  rw [World.var?_cell hg0 hv0 j, ← hj, ← hcs, Array.getElem?_toList]
end
end Go.Proofs.SL
namespace Go.Proofs.SL
open Go
section
variable {τ : Type} [Inhabited τ] [GT τ τ]
theorem rowCells_getK : ∀ (ys : List τ) (t : Nat), t < ys.length * GT.sz τ → (rowCells ys)[t]? = (GT.cells (ys.toArray[t / GT.sz τ]!))[t % GT.sz τ]?
  | [], t, h => by simp at h
  | y :: ys, t, h => by
    have hp : 0 < GT.sz τ := GT.pos
    have hl : (GT.cells y).length = GT.sz τ := GT.len y
    rw [rowCells_cons]
    rcases Nat.lt_or_ge t (GT.sz τ) with ht | ht
    · rw [List.getElem?_append_left (by omega), Nat.div_eq_of_lt ht, Nat.mod_eq_of_lt ht]; rfl
    · have h2 : t - GT.sz τ < ys.length * GT.sz τ := by rw [List.length_cons, Nat.add_mul] at h; omega
      rw [List.getElem?_append_right (by omega), hl, rowCells_getK ys _ h2, Nat.mod_eq_sub_mod ht, Nat.div_eq_sub_div hp ht]
      congr 2
      simp
theorem rowCells_flatK (ys : List τ) : Sort.flatK (fun x : τ => GT.cells x) (GT.sz τ) ys.toArray = (rowCells ys).toArray := by
  have hs : (Sort.flatK (fun x : τ => GT.cells x) (GT.sz τ) ys.toArray).size = (rowCells ys).toArray.size := by rw [Sort.size_flatK]; simp [length_rowCells]
  refine Sort.ext_get! hs fun t ht => ?_
  have ht' : t < ys.toArray.size * GT.sz τ := by simpa using ht
  have ht2 : t < ys.length * GT.sz τ := by simpa using ht'
  rw [Sort.get_flatK _ _ _ _ ht']
  have h1 := rowCells_getK ys t ht2
  simp only [Array.getElem!_eq_getD, Array.getD_eq_getD_getElem?, List.getElem?_toArray, List.getElem!_eq_getElem?_getD] at h1 ⊢
  rw [h1]
theorem sort_holdsK {w : World} {b : Nat} {e : TypeId} {els : List τ} {tail : List Value} (hb : w.heap[b]? = some (.cells (rowCells els ++ tail).toArray e (0, 0))) : Sort.HoldsK (fun x : τ => GT.cells x) (GT.sz τ) w b 0 els.toArray := by
  unfold Sort.HoldsK
  rw [rowCells_flatK]
  intro j hj
  have hj' : j < (rowCells els).length := by simpa using hj
  refine ⟨?_, by simp [World.frozen?, hb]⟩
  simp only [World.cell?, hb, Nat.zero_add]
  simp only [Option.isSome_none, Bool.false_eq_true, if_false]
  rw [List.getElem?_toArray, List.getElem?_append_left hj', List.getElem?_eq_getElem hj']
  rw [show (rowCells els).toArray[j]! = (rowCells els)[j] by simp [List.getElem?_eq_getElem hj']]; rfl
variable [FlatT τ]
theorem put_holdsK {w w' : World} {b cap n : Nat} {e : TypeId} {els ys : List τ} {tail : List Value} {os : Array Obj}
    (hh : Holds w (fps [treeH (⟨some ⟨b, 0, none⟩, cap, e, els, tail⟩ : TL τ)]) [treeH (⟨some ⟨b, 0, none⟩, cap, e, els, tail⟩ : TL τ)] w) (hlen : ys.length = els.length)
    (hw : w' = Go.Proofs.sortWorldK (fun x : τ => GT.cells x) (GT.sz τ) w b 0 n ys.toArray os) :
    Holds w (fps [treeH (⟨some ⟨b, 0, none⟩, cap, e, els, tail⟩ : TL τ)]) [treeH (⟨some ⟨b, 0, none⟩, cap, e, ys, tail⟩ : TL τ)] w' := by
  have ht : GT.ow w (⟨some ⟨b, 0, none⟩, cap, e, els, tail⟩ : TL τ) := hh.prs _ (List.mem_cons_self ..)
  obtain ⟨h1, h2, h3, h4, h5⟩ := ht
  dsimp only at h1 h2 h3 h4
  obtain ⟨_, _, hb, hl⟩ := h5 _ rfl
  dsimp only at hb hl
  unfold Go.Proofs.sortWorldK Sort.putRowK at hw
  rw [rowCells_flatK] at hw
  have hbl : b < w.heap.size := (Array.getElem?_eq_some_iff.1 hb).1
  have hw' : w'.heap[b]? = some (.cells (rowCells ys ++ tail).toArray e (0, 0)) := by
    subst hw
    rw [Sort.heap_grow_old _ _ (by simpa [Sort.putRow, Sort.mapBlock, Sort.ahead] using hbl)]
    have hp := put_cells id (rowCells ys) (rowCells els) tail (by rw [length_rowCells, length_rowCells, hlen])
    simp only [Sort.putRow, Sort.mapBlock, Sort.ahead, Array.getElem?_modify, hb, Sort.onCells, if_true, Option.map_some]
    rw [hp, List.map_id]
  have hfps : ∀ xs : List τ, xs.flatMap GT.fp = [] := fun xs => fps_flat xs fun x _ => FlatT.flat x
  have efp : fps [treeH (⟨some ⟨b, 0, none⟩, cap, e, ys, tail⟩ : TL τ)] = fps [treeH (⟨some ⟨b, 0, none⟩, cap, e, els, tail⟩ : TL τ)] := by
    simp only [fps_cons]
    show ([b] ++ ys.flatMap GT.fp) ++ fps [] = ([b] ++ els.flatMap GT.fp) ++ fps []
    rw [hfps, hfps]
  refine ⟨by subst hw; rfl, by subst hw; rfl, by subst hw; rfl, by subst hw; simp [Sort.putRow, Sort.mapBlock, Sort.ahead], fun k hk hn => ?_, fun x hx => ?_, by rw [efp]; exact hh.nodup, fun k hk => ?_⟩
  · have hkb : b ≠ k := by
      intro e2; subst e2
      exact hn (by simp only [fps_cons]; show b ∈ ([b] ++ els.flatMap GT.fp) ++ fps []; simp)
    subst hw
    rw [Sort.heap_grow_old _ _ (by simpa [Sort.putRow, Sort.mapBlock, Sort.ahead] using hk)]
    simp [Sort.putRow, Sort.mapBlock, Sort.ahead, Array.getElem?_modify, hkb]
  · obtain rfl := List.mem_singleton.1 hx
    exact ⟨by dsimp only; omega, h2, fun x _ => (FlatT.flat x).ow w', fun h => (by cases h), fun a ha => by cases ha; exact ⟨rfl, rfl, hw', by dsimp only; rw [hlen]; exact hl⟩⟩
  · rw [efp] at hk
    refine ⟨(hh.rng k hk).1, Nat.lt_of_lt_of_le (hh.rng k hk).2 ?_⟩
    subst hw; simp [Sort.putRow, Sort.mapBlock, Sort.ahead]
/-- The sort by a comparing function, on data. -/
def sortFP (lt : τ → τ → Bool) (l : List τ) : Option (List τ) := if l.length ≤ 4294967296 then some (Sort.pdq lt l.toArray 0 l.length (Lib.bitLen l.length) true true).toList else none
theorem Spec.sortK {P : Program} {f : FuncId} {fv : Value} (w : World) (a0 : TL τ) (lt : τ → τ → Bool) (hO : Sort.SWO lt) (hid : ∀ x : τ, GT.dat x = x) (r : List τ) (hp : sortFP lt (GT.dat a0) = some r)
    (h : ∀ (b off cap : Nat) (d : Array τ) (w : World), Sort.HoldsK (fun x : τ => GT.cells x) (GT.sz τ) w b off d → b < w.heap.size → d.size < 4611686018427387904 → Calls P f #[.slice (some ⟨b, off, none⟩) d.size cap, fv] w fun e w' => e = .returned (.tuple #[]) ∧ ∃ n os, w' = Go.Proofs.sortWorldK (fun x : τ => GT.cells x) (GT.sz τ) w b off n (Sort.pdq lt d 0 d.size (Lib.bitLen d.size) true true) os)
    (h0 : ∀ (p : Option Addr) (cap : Nat) (w : World), Calls P f #[.slice p 0 cap, fv] w fun e w' => e = .returned (.tuple #[]) ∧ w' = w) :
    Spec P f #[a0.hdr, fv] w [treeH a0] (fun v M => ∃ y0 : TL τ, v = .tuple #[] ∧ GT.dat y0 = r ∧ M = [treeH y0] ∧ y0.hdr = a0.hdr) := by
  intro hh
  have hm : ∀ xs : List τ, xs.map (fun x => (GT.dat x : τ)) = xs := fun xs => by
    rw [show (fun x : τ => (GT.dat x : τ)) = id from funext hid, List.map_id]
  have hd : GT.dat a0 = a0.els := hm _
  unfold sortFP at hp
  rw [hd] at hp
  split at hp
  rotate_left
  · cases hp
  rename_i hsz
  obtain rfl := Option.some.inj hp
  have hps : (Sort.pdq lt a0.els.toArray 0 a0.els.length (Lib.bitLen a0.els.length) true true).toList.length = a0.els.length := by
    have := (Sort.pdq_sorts lt hO a0.els.toArray 0 a0.els.toArray.size (Lib.bitLen a0.els.length) true true (Nat.zero_le _) (Nat.le_refl _) (Or.inl rfl)).1.1
    simpa using this
  rcases own_cases hh with ⟨e, tail, rfl⟩ | ⟨b, cap, e, els, tail, rfl, h1, hl, hb, hbl⟩
  · have hy : (Sort.pdq lt (#[] : Array τ) 0 0 (Lib.bitLen 0) true true).toList = [] := List.length_eq_zero_iff.1 hps
    refine (h0 none 0 w).mono fun e' w' ⟨he, hw⟩ => ?_
    subst hw
    refine ⟨_, _, he, ⟨⟨none, 0, e, [], tail⟩, rfl, ?_, rfl, rfl⟩, hh⟩
    exact hy.symm
  · dsimp only at hsz hps
    have := h b 0 cap els.toArray w (sort_holdsK hb) hbl (by simp; omega)
    rw [List.size_toArray] at this
    generalize Sort.pdq lt els.toArray 0 els.length (Lib.bitLen els.length) true true = ys at this hps
    refine this.mono fun e' w' ⟨he, n, os, hw⟩ => ⟨_, _, he, ⟨⟨some ⟨b, 0, none⟩, cap, e, ys.toList, tail⟩, rfl, hm _, rfl, ?_⟩, put_holdsK (n := n) (os := os) hh hps hw⟩
    show Value.slice _ ys.toList.length _ = Value.slice _ els.length _
    rw [hps]
end
end Go.Proofs.SL
namespace Go.Proofs.SL
open Go
variable {Γ : Cx} {rest : List Oper} {d : Nat} {ty : TypeId} {pos : String} {af : Array Edge} {gd : Option (Nat × Bool)}
variable {ops : Array Oper} {Msh pool : List HP} {E : Fl} {rs : List (Option Nat × Rel)} {cs0 : List Nat} {KD : RKont}
/-- What is handed back where the guard lets the call run. -/
def GR (c : Prop) (R : Rel) : Rel := fun v M => (c → R v M) ∧ (¬ c → v = undef ∧ M = [])
theorem D_callGV {f : Nat} {xs : List Operand} {ats : Array TypeId} {vs : List Value} {c : Prop} (R : Rel)
    (hg : GC ops E { dst := some d, op := .call { callee := .value (.func f), args := xs.toArray, argTypes := ats }, type := ty, pos := pos, after := af, guard := gd } c)
    (hf : IsFn Γ.P f) (hx : OpVs E c xs vs) (hc : c → ∀ w F, Holds Γ.w0 Γ.S0 F w → (∀ h, h ∈ Msh → h ∈ F) → Spec Γ.P f vs.toArray w [] R)
    (hk : DV Γ ops Msh pool ((d, GR c R) :: E) ((some d, GR c R) :: rs) cs0 rest KD) :
    DV Γ ops Msh pool E rs cs0 ({ dst := some d, op := .call { callee := .value (.func f), args := xs.toArray, argTypes := ats }, type := ty, pos := pos, after := af, guard := gd } :: rest) KD := by
  refine DV.mk (GR c R) [] pool [] (by simp) rfl ?_ (by rw [dropE_nil]; exact hk)
  intro a w F Mk _ _ hw hm hfa hcf
  have hMk : Mk = [] := hcf
  subst hMk
  rw [dropE_nil] at hfa
  simp only [List.nil_append] at hw ⊢
  have hgc := hg a F hfa
  split
  · rename_i hwt
    have hcc := hgc.1 hwt
    have hw' : Holds Γ.w0 Γ.S0 F w := by simpa using hw
    have h2 : (#[] ++ xs.toArray.map a.eval ++ #[] : Array Value) = vs.toArray := by
      simp [OpVs.evals (o := { dst := some d, op := .call { callee := .value (.func f), args := xs.toArray, argTypes := ats }, type := ty, pos := pos, after := af, guard := gd }) hcc hfa xs vs hx (fun x hx => by simp [Op.operands, Call.operands, hx])]
    rw [execOp_call_go, h2, hf.run]
    exact (hc hcc w F hw' hm (Holds.split (M1 := []) (M2 := F) hw)).mono fun e w'' ⟨v, M', h1, h3, h4⟩ => ⟨v, M', h1, ⟨fun _ => h3, fun hn => (hn hcc).elim⟩, Holds.frame (M1 := []) (M2 := F) hw h4⟩
  · rename_i hwt
    exact ⟨fun hc => (hwt (hgc.2 hc)).elim, fun _ => ⟨rfl, rfl⟩⟩
theorem D_callGR {f : Nat} {xs : List Operand} {ats : Array TypeId} (Rs : List Rel) {c : Prop} {x : Value}
    (hg : GC ops E { dst := some d, op := .call { callee := .value (.func f), args := xs.toArray, argTypes := ats }, type := ty, pos := pos, after := af, guard := gd } c)
    (hf : IsFn Γ.P f) (hx : OpRs E xs Rs) (hc : c → ∀ w F vs, Holds Γ.w0 Γ.S0 F w → (∀ h, h ∈ Msh → h ∈ F) → AllR F Rs vs → Spec Γ.P f vs.toArray w [] (IsV x))
    (hk : DV Γ ops Msh pool ((d, FC c x) :: E) ((some d, FC c x) :: rs) cs0 rest KD) :
    DV Γ ops Msh pool E rs cs0 ({ dst := some d, op := .call { callee := .value (.func f), args := xs.toArray, argTypes := ats }, type := ty, pos := pos, after := af, guard := gd } :: rest) KD := by
  refine DV.mk (FC c x) [] pool [] (by simp) rfl ?_ (by rw [dropE_nil]; exact hk)
  intro a w F Mk _ _ hw hm hfa hcf
  have hMk : Mk = [] := hcf
  subst hMk
  rw [dropE_nil] at hfa
  simp only [List.nil_append] at hw ⊢
  have hgc := hg a F hfa
  split
  · rename_i hwt
    have hcc := hgc.1 hwt
    have hw' : Holds Γ.w0 Γ.S0 F w := by simpa using hw
    have h1 := OpRs.evals (o := { dst := some d, op := .call { callee := .value (.func f), args := xs.toArray, argTypes := ats }, type := ty, pos := pos, after := af, guard := gd }) hfa xs Rs hx (fun x hx => by simp [Op.operands, Call.operands, hx])
    have h2 : (#[] ++ xs.toArray.map a.eval ++ #[] : Array Value) = (xs.map a.eval).toArray := by simp
    rw [execOp_call_go, h2, hf.run]
    exact (hc hcc w F _ hw' hm h1 (Holds.split (M1 := []) (M2 := F) hw)).mono fun e w'' ⟨v, M', h1, h3, h4⟩ => ⟨v, M', h1, ⟨h3.2, fun _ => h3.1, fun hn => (hn hcc).elim⟩, Holds.frame (M1 := []) (M2 := F) hw h4⟩
  · rename_i hwt
    exact ⟨rfl, fun hc => (hwt (hgc.2 hc)).elim, fun _ => rfl⟩
end Go.Proofs.SL
namespace Go.Proofs.SL
open Go
section
variable {Γ : Cx} {rest : List Oper} {d : Nat} {ty : TypeId} {pos : String} {af : Array Edge}
variable {ops : Array Oper} {Msh pool : List HP} {E : Fl} {rs : List (Option Nat × Rel)} {cs0 : List Nat} {KD : RKont}
/-- A struct that one owns. -/
def AggV {τ δ : Type} [GT τ δ] (r : δ) : Rel := fun v M => ∃ x : τ, v = .agg (GT.cells x).toArray ∧ GT.dat x = r ∧ M = [treeH x]
/-- A pointer to a block that holds a struct that one owns. -/
def BoxV {τ δ : Type} [GT τ δ] (T : TypeId) (r : δ) : Rel := fun v M => ∃ (b : Nat) (x : τ), v = .pointer (some ⟨b, 0, none⟩) ∧ GT.dat x = r ∧ M = [blk b (GT.cells x) T, treeH x]
def BoxS {τ δ : Type} [Inhabited τ] [GT τ δ] (T : TypeId) (r : List δ) : Rel := fun v M => ∃ (b : Nat) (x : TL τ), v = .pointer (some ⟨b, 0, none⟩) ∧ GT.dat x = r ∧ M = [blk b [x.hdr] T, treeH x]
theorem D_moveC {t : Nat} {R : Rel} (hR : E.lookup t = some R)
    (hlin : linB ops { dst := some d, op := .move (.tmp t), type := ty, pos := pos, after := af, guard := none } [t] = true)
    (hk : DV Γ ops Msh pool ((d, R) :: dropE [t] E) ((some d, R) :: rs) ([t] ++ cs0) rest KD) :
    DV Γ ops Msh pool E rs cs0 ({ dst := some d, op := .move (.tmp t), type := ty, pos := pos, after := af, guard := none } :: rest) KD := by
  refine DV.mk R [] pool [t] (by simp) hlin ?_ hk
  intro a w F Mk _ _ hw hm hfa hcf
  obtain ⟨Mx, Mk', rfl, hRR, hnil⟩ := hcf
  have hnil : Mk' = [] := hnil
  subst hnil
  have h1 := hRR _ hR
  rw [if_pos (by simp [Region.wanted])]
  have h2 : (execOp a.eval { dst := some d, op := .move (.tmp t), type := ty, pos := pos, after := af, guard := none }).run Γ.P w = .ok (.value (a.tmps.getD t undef)) w := by
    simp [execOp, Act.eval]
  rw [h2]
  exact ⟨Mx, h1, by simpa using hw⟩
theorem D_extractC {t i : Nat} {R : Rel} (R' : Rel) (hR : E.lookup t = some R) (hh : ∀ v M, R v M → ∃ vs u, v = .tuple vs ∧ vs[i]? = some u ∧ R' u M)
    (hlin : linB ops { dst := some d, op := .extract (.tmp t) i, type := ty, pos := pos, after := af, guard := none } [t] = true)
    (hk : DV Γ ops Msh pool ((d, R') :: dropE [t] E) ((some d, R') :: rs) ([t] ++ cs0) rest KD) :
    DV Γ ops Msh pool E rs cs0 ({ dst := some d, op := .extract (.tmp t) i, type := ty, pos := pos, after := af, guard := none } :: rest) KD := by
  refine DV.mk R' [] pool [t] (by simp) hlin ?_ hk
  intro a w F Mk _ _ hw hm hfa hcf
  obtain ⟨Mx, Mk', rfl, hRR, hnil⟩ := hcf
  have hnil : Mk' = [] := hnil
  subst hnil
  obtain ⟨vs, u, hv, hu, h1⟩ := hh _ _ (hRR _ hR)
  rw [if_pos (by simp [Region.wanted])]
  have e1 : a.eval (.tmp t) = .tuple vs := hv
  have h2 : (execOp a.eval { dst := some d, op := .extract (.tmp t) i, type := ty, pos := pos, after := af, guard := none }).run Γ.P w = .ok (.value u) w := by
    simp [execOp, e1, Instr.extract, hu]
  rw [h2]
  exact ⟨Mx, h1, by simpa using hw⟩
theorem D_extractW {t i : Nat} {R : Rel} (u : Value) (hR : E.lookup t = some R) (hh : ∀ v M, R v M → ∃ vs, v = .tuple vs ∧ vs[i]? = some u)
    (hk : DV Γ ops Msh pool ((d, FC True u) :: E) ((some d, FC True u) :: rs) cs0 rest KD) :
    DV Γ ops Msh pool E rs cs0 ({ dst := some d, op := .extract (.tmp t) i, type := ty, pos := pos, after := af, guard := none } :: rest) KD :=
  DV_pure True u GC.none (fun a w F _ hf _ => by
    obtain ⟨M, h1, _⟩ := hf t R (List.mem_append_left _ (by simp [Op.operands])) hR
    obtain ⟨vs, hv, hu⟩ := hh _ _ h1
    have e1 : a.eval (.tmp t) = .tuple vs := hv
    simp [execOp, e1, Instr.extract, hu]) hk
theorem D_storeK {τ δ : Type} [GT τ δ] {p x : Nat} {T : TypeId} {T' : TypeId} {z : List Value} {r : δ} (hp : E.lookup p = some (PtrNew z T')) (hx : E.lookup x = some (AggV (τ := τ) r))
    (ht : aggOf Γ.P T = some (GT.sz τ)) (hl : z.length = GT.sz τ)
    (hlin : linB ops { dst := none, op := .store T (.tmp p) (.tmp x), type := ty, pos := pos, after := af, guard := none } [p, x] = true)
    (hk : DV Γ ops Msh pool (dropE [p, x] E) ((some p, BoxV (τ := τ) T' r) :: rs) ([x] ++ cs0) rest KD) :
    DV Γ ops Msh pool E rs cs0 ({ dst := none, op := .store T (.tmp p) (.tmp x), type := ty, pos := pos, after := af, guard := none } :: rest) KD := by
  refine DV.mkK (BoxV (τ := τ) T' r) [] pool p [x] rfl (by simp) hlin ?_ hk
  intro a w F Mk _ _ hw hm hfa hcf
  obtain ⟨M1, Mk', rfl, hR1, M2, Mk'', rfl, hR2, hnil⟩ := hcf
  have hnil : Mk'' = [] := hnil
  subst hnil
  obtain ⟨b, hb, rfl⟩ := hR1 _ hp
  obtain ⟨y, hv, hd, rfl⟩ := hR2 _ hx
  rw [if_pos (by simp [Region.wanted])]
  have e1 : a.eval (.tmp p) = .pointer (some ⟨b, 0, none⟩) := hb
  have e2 : a.eval (.tmp x) = .agg (GT.cells y).toArray := hv
  have hw' : Holds Γ.w0 Γ.S0 (blk b z T' :: (treeH y :: F)) w := by simpa using hw
  have hh : w.heap[b]? = some (.cells z.toArray T' (0, 0)) := hw'.prs (blk b z T') (by simp)
  have hly : (GT.cells y).length = GT.sz τ := GT.len y
  have hs := run_store_blk (P := Γ.P) (fo := 0) (vs := GT.cells y) (ty := T) hh (by omega) (fun v hv => GT.one y v hv)
  have e : (z.take 0 ++ GT.cells y ++ z.drop (0 + (GT.cells y).length)) = GT.cells y := by simp [hl, hly]
  rw [e] at hs
  have hrun : (execOp a.eval { dst := none, op := .store T (.tmp p) (.tmp x), type := ty, pos := pos, after := af, guard := none }).run Γ.P w = .ok .skip (w.setRow b (GT.cells y).toArray) := by
    simp [execOp, e1, e2, Instr.storeAt, Instr.sureAddr, storeVar, run_isAgg_agg ht, Value.cells, hs, hly]
  rw [hrun]
  exact ⟨[blk b (GT.cells y) T', treeH y], ⟨b, y, hb, hd, rfl⟩, by simpa using setRow_blk (cs' := GT.cells y) hw'⟩
theorem D_storeKS {τ δ : Type} [Inhabited τ] [GT τ δ] {p x : Nat} {T : TypeId} {T' : TypeId} {z : Value} {r : List δ} (hp : E.lookup p = some (PtrNew [z] T')) (hx : E.lookup x = some (OwnV (τ := τ) r))
    (ht : oneOf Γ.P T = true)
    (hlin : linB ops { dst := none, op := .store T (.tmp p) (.tmp x), type := ty, pos := pos, after := af, guard := none } [p, x] = true)
    (hk : DV Γ ops Msh pool (dropE [p, x] E) ((some p, BoxS (τ := τ) T' r) :: rs) ([x] ++ cs0) rest KD) :
    DV Γ ops Msh pool E rs cs0 ({ dst := none, op := .store T (.tmp p) (.tmp x), type := ty, pos := pos, after := af, guard := none } :: rest) KD := by
  refine DV.mkK (BoxS (τ := τ) T' r) [] pool p [x] rfl (by simp) hlin ?_ hk
  intro a w F Mk _ _ hw hm hfa hcf
  obtain ⟨M1, Mk', rfl, hR1, M2, Mk'', rfl, hR2, hnil⟩ := hcf
  have hnil : Mk'' = [] := hnil
  subst hnil
  obtain ⟨b, hb, rfl⟩ := hR1 _ hp
  obtain ⟨y, hv, hd, rfl⟩ := hR2 _ hx
  rw [if_pos (by simp [Region.wanted])]
  have e1 : a.eval (.tmp p) = .pointer (some ⟨b, 0, none⟩) := hb
  have e2 : a.eval (.tmp x) = y.hdr := hv
  have hw' : Holds Γ.w0 Γ.S0 (blk b [z] T' :: (treeH y :: F)) w := by simpa using hw
  have hh : w.heap[b]? = some (.cells [z].toArray T' (0, 0)) := hw'.prs (blk b [z] T') (by simp)
  have hs := run_store_blk (P := Γ.P) (fo := 0) (vs := [y.hdr]) (ty := T) hh (by simp) (fun v hv => by obtain rfl := List.mem_singleton.1 hv; rfl)
  have hrun : (execOp a.eval { dst := none, op := .store T (.tmp p) (.tmp x), type := ty, pos := pos, after := af, guard := none }).run Γ.P w = .ok .skip (w.setRow b [y.hdr].toArray) := by
    have hc : (y.hdr : Value).cells = #[y.hdr] := rfl
    simp only [List.take_zero, List.nil_append, List.length_singleton, Nat.zero_add, List.drop_one, List.tail_cons, List.append_nil] at hs
    simp [execOp, e1, e2, Instr.storeAt, Instr.sureAddr, storeVar, run_isAgg_one ht, hc, hs]
  rw [hrun]
  exact ⟨[blk b [y.hdr] T', treeH y], ⟨b, y, hb, hd, rfl⟩, by simpa using setRow_blk (cs' := [y.hdr]) hw'⟩
/-- A value that is known, stored in a new block. -/
theorem D_storeKF {p : Nat} {y : Operand} {T : TypeId} {T' : TypeId} {z cs' : List Value} (hp : E.lookup p = some (PtrNew z T')) (hy : OpV (dropE [p] E) y True (.agg cs'.toArray))
    (ht : aggOf Γ.P T = some cs'.length) (hl : z.length = cs'.length) (h1 : ∀ v, v ∈ cs' → v.oneCell' = true)
    (hlin : linB ops { dst := none, op := .store T (.tmp p) y, type := ty, pos := pos, after := af, guard := none } [p] = true)
    (hk : DV Γ ops Msh pool (dropE [p] E) ((some p, PtrNew cs' T') :: rs) ([] ++ cs0) rest KD) :
    DV Γ ops Msh pool E rs cs0 ({ dst := none, op := .store T (.tmp p) y, type := ty, pos := pos, after := af, guard := none } :: rest) KD := by
  refine DV.mkK (PtrNew cs' T') [] pool p [] rfl (by simp) hlin ?_ hk
  intro a w F Mk _ _ hw hm hfa hcf
  obtain ⟨M1, Mk', rfl, hR1, hnil⟩ := hcf
  have hnil : Mk' = [] := hnil
  subst hnil
  obtain ⟨b, hb, rfl⟩ := hR1 _ hp
  rw [if_pos (by simp [Region.wanted])]
  have e1 : a.eval (.tmp p) = .pointer (some ⟨b, 0, none⟩) := hb
  have e2 : a.eval y = .agg cs'.toArray := hy.eval hfa (by simp [Op.operands]) trivial
  have hw' : Holds Γ.w0 Γ.S0 (blk b z T' :: F) w := by simpa using hw
  have hh : w.heap[b]? = some (.cells z.toArray T' (0, 0)) := hw'.prs (blk b z T') (by simp)
  have hs := run_store_blk (P := Γ.P) (fo := 0) (vs := cs') (ty := T) hh (by omega) h1
  have e : (z.take 0 ++ cs' ++ z.drop (0 + cs'.length)) = cs' := by simp [hl]
  rw [e] at hs
  have hrun : (execOp a.eval { dst := none, op := .store T (.tmp p) y, type := ty, pos := pos, after := af, guard := none }).run Γ.P w = .ok .skip (w.setRow b cs'.toArray) := by
    simp [execOp, e1, e2, Instr.storeAt, Instr.sureAddr, storeVar, run_isAgg_agg ht, Value.cells, hs]
  rw [hrun]
  exact ⟨[blk b cs' T'], ⟨b, hb, rfl⟩, by simpa using setRow_blk (cs' := cs') hw'⟩
theorem D_storeK1 {p : Nat} {y : Operand} {T : TypeId} {T' : TypeId} {z v : Value} (hp : E.lookup p = some (PtrNew [z] T')) (hy : OpV (dropE [p] E) y True v)
    (ht : oneOf Γ.P T = true) (h1 : v.oneCell' = true)
    (hlin : linB ops { dst := none, op := .store T (.tmp p) y, type := ty, pos := pos, after := af, guard := none } [p] = true)
    (hk : DV Γ ops Msh pool (dropE [p] E) ((some p, PtrNew [v] T') :: rs) ([] ++ cs0) rest KD) :
    DV Γ ops Msh pool E rs cs0 ({ dst := none, op := .store T (.tmp p) y, type := ty, pos := pos, after := af, guard := none } :: rest) KD := by
  refine DV.mkK (PtrNew [v] T') [] pool p [] rfl (by simp) hlin ?_ hk
  intro a w F Mk _ _ hw hm hfa hcf
  obtain ⟨M1, Mk', rfl, hR1, hnil⟩ := hcf
  have hnil : Mk' = [] := hnil
  subst hnil
  obtain ⟨b, hb, rfl⟩ := hR1 _ hp
  rw [if_pos (by simp [Region.wanted])]
  have e1 : a.eval (.tmp p) = .pointer (some ⟨b, 0, none⟩) := hb
  have e2 : a.eval y = v := hy.eval hfa (by simp [Op.operands]) trivial
  have hw' : Holds Γ.w0 Γ.S0 (blk b [z] T' :: F) w := by simpa using hw
  have hh : w.heap[b]? = some (.cells [z].toArray T' (0, 0)) := hw'.prs (blk b [z] T') (by simp)
  have hc : v.cells = #[v] := by cases v <;> first | rfl | cases h1
  have hs := run_store_blk (P := Γ.P) (fo := 0) (vs := [v]) (ty := T) hh (by simp) (fun u hu => by obtain rfl := List.mem_singleton.1 hu; exact h1)
  have hrun : (execOp a.eval { dst := none, op := .store T (.tmp p) y, type := ty, pos := pos, after := af, guard := none }).run Γ.P w = .ok .skip (w.setRow b [v].toArray) := by
    simp only [List.take_zero, List.nil_append, List.length_singleton, Nat.zero_add, List.drop_one, List.tail_cons, List.append_nil] at hs
    simp [execOp, e1, e2, Instr.storeAt, Instr.sureAddr, storeVar, run_isAgg_one ht, hc, hs]
  rw [hrun]
  exact ⟨[blk b [v] T'], ⟨b, hb, rfl⟩, by simpa using setRow_blk (cs' := [v]) hw'⟩
/-- A call that is given parts of memory, its operands known by relations. -/
theorem D_callMR {pool' : List HP} {f : Nat} {xs : List Operand} {ats : Array TypeId} (Rs : List Rel) (R : Rel) (M1 : List HP) (hp : List.Perm pool (M1 ++ pool'))
    (hf : IsFn Γ.P f) (hx : OpRs E xs Rs) (hc : ∀ w F vs, Holds Γ.w0 Γ.S0 (M1 ++ F) w → (∀ h, h ∈ Msh → h ∈ F) → AllR F Rs vs → Spec Γ.P f vs.toArray w M1 R)
    (hk : DV Γ ops Msh pool' ((d, R) :: E) ((some d, R) :: rs) cs0 rest KD) :
    DV Γ ops Msh pool E rs cs0 ({ dst := some d, op := .call { callee := .value (.func f), args := xs.toArray, argTypes := ats }, type := ty, pos := pos, after := af, guard := none } :: rest) KD := by
  refine DV.mk R M1 pool' [] hp rfl ?_ (by rw [dropE_nil]; exact hk)
  intro a w F Mk _ _ hw hm hfa hcf
  have hMk : Mk = [] := hcf
  subst hMk
  rw [dropE_nil] at hfa
  simp only [List.nil_append] at hw ⊢
  rw [if_pos (by simp [Region.wanted])]
  have h1 := OpRs.evals (o := { dst := some d, op := .call { callee := .value (.func f), args := xs.toArray, argTypes := ats }, type := ty, pos := pos, after := af, guard := none }) hfa xs Rs hx (fun x hx => by simp [Op.operands, Call.operands, hx])
  have h2 : (#[] ++ xs.toArray.map a.eval ++ #[] : Array Value) = (xs.map a.eval).toArray := by simp
  rw [execOp_call_go, h2, hf.run]
  exact (hc w F _ hw hm h1 (Holds.split hw)).mono fun e w'' ⟨v, M', h1, h3, h4⟩ => ⟨v, M', h1, h3, Holds.frame hw h4⟩
end
theorem gb_anyD {α β : Type} [Inhabited α] {g : Bool} {o : Option α} {k : α → Option β} {r : β} (h : gb g o k = some r) : ∃ y, (g = true → o = some y) ∧ (g = false → y = default) ∧ k y = some r := by
  cases g with
  | true => obtain ⟨y, h1, h2⟩ := Option.bind_eq_some_iff.1 h; exact ⟨y, fun _ => h1, (fun hh => (by cases hh)), h2⟩
  | false => exact ⟨default, (fun hh => (by cases hh)), fun _ => rfl, h⟩
section
variable {Γ : Cx} {rest : List Oper} {d : Nat} {ty : TypeId} {pos : String} {af : Array Edge} {gd : Option (Nat × Bool)}
variable {ops : Array Oper} {Msh pool : List HP} {E : Fl} {rs : List (Option Nat × Rel)} {cs0 : List Nat} {KD : RKont}
theorem D_max {x y : Operand} {ats : Array TypeId} {k : IntKind} {a b : Int} {c : Prop} (hg : GC ops E { dst := some d, op := .call { callee := .builtin .max, args := #[x, y], argTypes := ats }, type := ty, pos := pos, after := af, guard := gd } c)
    (hx : OpV E x c (.int k a)) (hy : OpV E y c (.int k b))
    (hk : DV Γ ops Msh pool ((d, FC c (.int k (if a < b then b else a))) :: E) ((some d, FC c (.int k (if a < b then b else a))) :: rs) cs0 rest KD) :
    DV Γ ops Msh pool E rs cs0 ({ dst := some d, op := .call { callee := .builtin .max, args := #[x, y], argTypes := ats }, type := ty, pos := pos, after := af, guard := gd } :: rest) KD :=
  DV_pure c _ hg (fun a' w F hc hf _ => by
    have e1 := hx.eval hf (by simp [Op.operands, Call.operands]) hc
    have e2 := hy.eval hf (by simp [Op.operands, Call.operands]) hc
    simp [execOp, resolve, invoke, builtin, e1, e2, run_max_int2]) hk
/-- A part of a slice, under a guard. -/
theorem D_slcG {τ δ : Type} [Inhabited τ] [GT τ δ] {x : Operand} {lo hi : Option Operand} {T e sz by_ : Nat} {z : List Value} {X : TL τ} {a b : Int} {r : List δ} {cc : Prop} (hg : GC ops E { dst := some d, op := .slice T x lo hi none, type := ty, pos := pos, after := af, guard := gd } cc)
    (hx : OpV E x cc X.hdr) (hlo : optD E lo cc 0 a) (hhi : optD E hi cc ((GT.dat X).length : Int) b)
    (ht : elOf Γ.P T = some (e, sz, by_, z)) (hsz : GT.sz τ = sz) (hR : RdT Γ Msh X) (hr : cc → slcP (GT.dat X) a b = some r) (hn : ¬ cc → r = [])
    (hk : ∀ X' : TL τ, GT.dat X' = r → (∀ w S, GT.rd w S X → GT.rd w S X') → DV Γ ops Msh pool ((d, FC cc X'.hdr) :: E) ((some d, FC cc X'.hdr) :: rs) cs0 rest KD) :
    DV Γ ops Msh pool E rs cs0 ({ dst := some d, op := .slice T x lo hi none, type := ty, pos := pos, after := af, guard := gd } :: rest) KD := by
  by_cases hcc : cc
  · have hr := hr hcc
    unfold slcP at hr
    split at hr
    · rename_i hb
      cases hr
      rw [dat_els, List.length_map] at hb
      rw [dat_els, List.length_map] at hhi
      obtain ⟨h0, h1, h2⟩ := hb
      have h1' : a.toNat ≤ b.toNat := by omega
      have h2' : b.toNat ≤ X.els.length := by omega
      refine DV_pure cc (slc X a.toNat b.toNat).hdr hg (fun a' w F hc hf hs => ?_) (hk (slc X a.toNat b.toNat) (by rw [dat_els, dat_els]; simp [slc, List.map_take, List.map_drop]) (fun w S h => slc_rd h h1' h2'))
      have hcap : X.els.length ≤ X.cap := (hR w hs).1
      unfold elOf at ht
      split at ht <;> (try cases ht)
      rename_i e' het
      split at ht <;> (try cases ht)
      rename_i i' hi'
      split at ht <;> cases ht
      have hlen : ((X.els.drop a.toNat).take (b.toNat - a.toNat)).length = b.toNat - a.toNat := by simp; omega
      have hv : (slc X a.toNat b.toNat).hdr = .slice (if X.cap = a.toNat then X.a else X.a.map (·.add (a.toNat * i'.size))) (b.toNat - a.toNat) (X.cap - a.toNat) := by
        show Value.slice _ ((X.els.drop a.toNat).take (b.toNat - a.toNat)).length _ = _
        rw [hlen]; simp only [slc, hsz]
      rw [hv]
      have e1 : a'.eval x = .slice X.a X.els.length X.cap := hx.eval hf (by simp [Op.operands]) hc
      cases lo with
      | none =>
        cases hlo
        cases hi with
        | none =>
          cases hhi
          simp only [execOp, Option.map_none, e1, Instr.sliceAt, Instr.slice, underlying, Sem.run_bind, run_program, Result.andThen_ok, het, Instr.sliceBounds, Sem.run_pure, sizeOf, typeInfo, hi']
          simp
        | some o =>
          obtain ⟨k, h5⟩ := hhi
          have e2 := h5.eval hf (by simp [Op.operands]) hc
          have e4 := fun w => run_sliceBound (P := Γ.P) (k := k) (code := .sliceAcap) (show 0 ≤ b by omega) (show b ≤ ((X.cap : Nat) : Int) by omega) w
          simp [execOp, e1, e2, Instr.sliceAt, Instr.slice, underlying, het, Instr.sliceBounds, sizeOf, typeInfo, hi', e4]
      | some o1 =>
        obtain ⟨k1, h6⟩ := hlo
        have e3 := h6.eval hf (by simp [Op.operands]) hc
        cases hi with
        | none =>
          cases hhi
          have e5 := fun w => run_sliceBound (P := Γ.P) (k := k1) (code := .sliceB) (show 0 ≤ a by omega) (show a ≤ ((X.els.length : Nat) : Int) by omega) w
          simp [execOp, e1, e3, Instr.sliceAt, Instr.slice, underlying, het, Instr.sliceBounds, sizeOf, typeInfo, hi', e5]
        | some o =>
          obtain ⟨k, h5⟩ := hhi
          have e2 := h5.eval hf (by simp [Op.operands]) hc
          have e4 := fun w => run_sliceBound (P := Γ.P) (k := k) (code := .sliceAcap) (show 0 ≤ b by omega) (show b ≤ ((X.cap : Nat) : Int) by omega) w
          have e5 := fun w => run_sliceBound (P := Γ.P) (k := k1) (code := .sliceB) (show 0 ≤ a by omega) (show a ≤ ((b.toNat : Nat) : Int) by omega) w
          simp [execOp, e1, e2, e3, Instr.sliceAt, Instr.slice, underlying, het, Instr.sliceBounds, sizeOf, typeInfo, hi', e4, e5]
    · cases hr
  · refine DV_pure cc (slc X 0 0).hdr hg (fun a' w F hc hf hs => (hcc hc).elim) (hk (slc X 0 0) ?_ (fun w S h => slc_rd h (Nat.le_refl _) (Nat.zero_le _)))
    rw [hn hcc, dat_els]; simp [slc]
end
end Go.Proofs.SL
