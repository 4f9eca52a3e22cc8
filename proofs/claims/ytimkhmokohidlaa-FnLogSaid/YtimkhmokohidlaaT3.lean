/- The texts of the proof, part 3: the base, walks of functions, plain Lean. -/
import Derived.OrdersHeld
import Derived.Test.YtimkhmokohidlaaT2
namespace Go.Proofs.SL
open Go
variable {Γ : Cx} {l l' : Envl} {M M' M1 M2 F A : List HP} {Qp : Post} {K : Kont} {w0 w : World} {S0 : List Nat}
variable {ops : Array Oper} {fuel : Nat} {listed : Array Bool} {i d : Nat} {o : Oper}
theorem wp_put {P : Program} {a : Act} {next : Act → World → Prop} {Q1 Q2 : Exit → Act → World → Prop} (h1 : ∀ e a w, e ≠ .normal → ¬ Q1 e a w) (hd : ∀ a w, next a w → a.defers = [])
    (h : o.wp P a w next Q1) : o.wp P a w (fun a' w' => (∃ u, a' = a.put o.dst u) ∧ next a' w') Q2 := by
  unfold Oper.wp at h ⊢
  generalize (execOp a.eval o).run P w = r at h ⊢
  cases r with
  | ok n w' =>
    cases n <;> simp only [Oper.upon] at h ⊢
    case value u => exact ⟨⟨u, rfl⟩, h⟩
    case skip => exact ⟨⟨_, rfl⟩, h⟩
    case defer df =>
      have := hd _ _ h
      cases hh : o.dst <;> simp [Act.put, hh] at this
    case enter f args =>
      refine Calls.mono h fun e w'' he => ?_
      cases e with
      | returned u => exact ⟨⟨u, rfl⟩, he⟩
      | panicked c => exact (h1 _ _ _ (by simp) he).elim
      | outgrown =>
        obtain ⟨a, w, hq⟩ := he
        exact (h1 _ _ _ (by simp) hq).elim
    case row row args => exact Rows.mono h fun u w'' he => ⟨⟨u, rfl⟩, he⟩
  | halt x w' =>
    cases x <;> simp only [Oper.upon] at h ⊢
    case panic v => exact (h1 _ _ _ (by simp) h).elim
theorem L_one (h : L Γ [o] l M K) (hg : o.guard = none) {a : Act} (ha : Env a Γ.n l) (hw : Holds Γ.w0 Γ.S0 M w) {Q2 : Exit → Act → World → Prop} :
    o.wp Γ.P a w (fun a' w' => (∃ u, a' = a.put o.dst u) ∧ ∃ l' M', Env a' Γ.n l' ∧ Holds Γ.w0 Γ.S0 M' w' ∧ K l' M') Q2 := by
  have h1 := h #[] a w (fun e a' w' => e = .normal ∧ ∃ l' M', Env a' Γ.n l' ∧ Holds Γ.w0 Γ.S0 M' w' ∧ K l' M') ha hw (fun a' w' l' M' q1 q2 q3 => ⟨rfl, l', M', q1, q2, q3⟩)
  unfold wpList at h1
  simp only [Region.wanted, hg, if_true] at h1
  rcases h1 with h1 | ⟨_, a, w, h1⟩
  · refine Oper.wp_mono (fun a' w' h2 => ⟨h2.1, h2.2.2⟩) (wp_put (fun e a w he hq => he hq.1) (fun a w hq => ?_) h1)
    obtain ⟨_, l', M', h3, _⟩ := hq
    exact h3.defers
  · cases h1.1
def AllIn : List HP → List HP → Prop
  | [], _ => True
  | h :: hs, M => h ∈ M ∧ AllIn hs M
theorem AllIn.mem : ∀ {A M : List HP}, AllIn A M → ∀ x, x ∈ A → x ∈ M
  | _ :: _, _, h, x, hx => by
    rcases List.mem_cons.1 hx with rfl | hx
    · exact h.1
    · exact AllIn.mem h.2 x hx
/-- An operation that yields a value, in whatever world bears the parts A, and does nothing else. -/
structure Pu (Γ : Cx) (A : List HP) (l : Envl) (o : Oper) (d : Nat) (v : Value) : Prop where
  dst : o.dst = some d
  lt : d < Γ.n
  gd : o.guard = none
  pu : ∀ a w, Env a Γ.n l → Sees Γ.w0 Γ.S0 A w → (execOp a.eval o).run Γ.P w = .ok (.value v) w
def AH (Γ : Cx) (ops : Array Oper) (A : List HP) (Qp : Post) (fuel : Nat) (listed : Array Bool) (l : Envl) (M : List HP) : Prop :=
  ∀ a w, Env a Γ.n l → Holds Γ.w0 Γ.S0 M w → wpAnyH Γ.P .any ops (liftQ Γ Qp) (Sees Γ.w0 Γ.S0 A) fuel listed a w
theorem W_AH (A : List HP) {id : Nat} (hm : Γ.P.follows .mixedOrders = true) (h : AH Γ ops A Qp ops.size (Array.replicate ops.size false) l M) : W Γ (.region id ops true) l M Qp := fun a w ha hw =>
  wp_region_held hm (h a w.drew ha hw.drew)
theorem AH_done (hr : Region.ready .any ops listed = []) (h : Qp .normal l M) : AH Γ ops A Qp fuel listed l M := fun _ _ ha hw => wpAnyH_done hr ⟨l, M, ha, hw, h⟩ fuel
theorem AH_take {v : Value} (i : Nat) (hi : ops[i]? = some o) (hp : Pu Γ A l o d v) (hs : Region.noSelect ops = true) (hf : Region.free .any ops listed i = true) (hr : (Region.ready .any ops listed).contains i = true)
    (hA : AllIn A M) (hk : AH Γ ops A Qp fuel (listed.setIfInBounds i true) ((d, v) :: l) M) : AH Γ ops A Qp (fuel + 1) listed l M := fun a w ha hw =>
  wpAnyH_take hi hs hf hr (fun _ _ _ h => h) (.inl ⟨by simp [Region.wanted, hp.gd], fun w hw => hp.pu a w ha hw⟩) (hw.seesSub hA.mem) (hk _ w (by rw [hp.dst]; exact ha.put hp.lt) hw)
theorem drop_get {α : Type} {xs : Array α} {i : Nat} {o : α} {rest : List α} (h : xs.toList.drop i = o :: rest) : xs[i]? = some o := by
  rw [← Array.getElem?_toList]
  have := congrArg (fun l => l[0]?) h
  simpa [List.getElem?_drop] using this
theorem AH_one (i : Nat) {rest' : List Oper} (hi : ops.toList.drop i = o :: rest') (hg : o.guard = none) (hr : Region.ready .any ops listed = [i])
    (h : L Γ [o] l M (fun l' M' => AllIn A M' ∧ AH Γ ops A Qp fuel (listed.setIfInBounds i true) l' M')) : AH Γ ops A Qp (fuel + 1) listed l M := fun a w ha hw =>
  wpAnyH_all hr (by simp) fun j hj => by
    rw [List.mem_singleton.1 hj]
    unfold wpOp
    rw [drop_get hi]
    simp only [Region.wanted, hg, if_true]
    refine .inl (Oper.wp_mono (fun a' w' h1 => ?_) (L_one h hg ha hw))
    obtain ⟨_, l', M', h1, h2, h3, h4⟩ := h1
    exact ⟨h2.seesSub h3.mem, h4 a' w' h1 h2⟩
variable {al da : Nat} {z : List Value} {T : TypeId}
/-! Small steps that may be taken first -/
section
variable {ty : TypeId} {pos : String} {af : Array Edge} {P : Program}
theorem PU_pure {op : Op} {v : Value} (hn : Nat.blt d Γ.n = true) (he : ∀ a w, Env a Γ.n l → Sees Γ.w0 Γ.S0 A w → (execOp a.eval { dst := some d, op, type := ty, pos, after := af, guard := none }).run Γ.P w = .ok (.value v) w) :
    Pu Γ A l { dst := some d, op, type := ty, pos, after := af, guard := none } d v := ⟨rfl, Nat.le_of_ble_eq_true hn, rfl, he⟩
theorem PU_move {x : Operand} {v : Value} (hn : Nat.blt d Γ.n = true) (hx : ev l x = some v) : Pu Γ A l { dst := some d, op := .move x, type := ty, pos, after := af, guard := none } d v :=
  PU_pure hn fun a w ha _ => by simp [execOp, ha.eval hx]
theorem PU_binV {op : BinOp} {T U : TypeId} {x y : Operand} {u v r : Value} (hn : Nat.blt d Γ.n = true) (hx : ev l x = some u) (hy : ev l y = some v) (h : BinV Γ.P op T x y u v r) :
    Pu Γ A l { dst := some d, op := .binOp op T x y U, type := ty, pos, after := af, guard := none } d r :=
  PU_pure hn fun a w ha _ => by
    simp only [execOp, ha.eval hx, ha.eval hy]
    rw [Sem.run_bind, h w]; rfl
theorem PU_extract {x : Operand} {i : Nat} {vs : Array Value} {v : Value} (hn : Nat.blt d Γ.n = true) (hx : ev l x = some (.tuple vs)) (hv : vs[i]? = some v) :
    Pu Γ A l { dst := some d, op := .extract x i, type := ty, pos, after := af, guard := none } d v :=
  PU_pure hn fun a w ha _ => by simp [execOp, ha.eval hx, Instr.extract, hv]
theorem PU_fieldAddr {x : Operand} {T f fo g o : Nat} (hn : Nat.blt d Γ.n = true) (hx : ev l x = some (.pointer (some ⟨g, o, none⟩))) (ht : fldOf Γ.P T f = some fo) :
    Pu Γ A l { dst := some d, op := .fieldAddr T x f, type := ty, pos := pos, after := af, guard := none } d (.pointer (some ⟨g, o + fo, none⟩)) :=
  PU_pure hn fun a w ha hw => by
    unfold fldOf at ht
    split at ht <;> (try cases ht)
    rename_i fs hfs
    split at ht <;> (try cases ht)
    rename_i x' hx'
    split at ht <;> (try cases ht)
    rename_i i hi
    split at ht <;> cases ht
    rename_i hsz
    simp [execOp, ha.eval hx, Instr.fieldAt, underlying, hfs, hx', Instr.sureAddr, fieldPlace, sizeOf, typeInfo, hi, hsz, addr_add]
theorem PU_load {x : Operand} {T g off fo : Nat} {cs : List Value} {v : Value} (hn : Nat.blt d Γ.n = true) (hx : ev l x = some (.pointer (some ⟨g, off + fo, none⟩))) (hc : RdC Γ A g off cs) (ht : oneOf Γ.P T = true)
    (hv : cs[fo]? = some v) : Pu Γ A l { dst := some d, op := .load T x, type := ty, pos := pos, after := af, guard := none } d v :=
  PU_pure hn fun a' w ha hw => by simp [execOp, ha.eval hx, Instr.loadAt, Instr.sureAddr, loadVar, run_isAgg_one ht, hc w hw fo v hv]
theorem PU_convInt {x : Operand} {S T : TypeId} {k k' : IntKind} {n : Int} (hn : Nat.blt d Γ.n = true) (hx : ev l x = some (.int k n)) (ht : Γ.P.underlying T = some (.int k')) (hs : (Γ.P.underlying S).isSome = true) :
    Pu Γ A l { dst := some d, op := .convert S T x, type := ty, pos := pos, after := af, guard := none } d (.int k' (k'.wrap n)) :=
  PU_pure hn fun a' w ha hw => by
    obtain ⟨u, hu⟩ := Option.isSome_iff_exists.1 hs
    simp [execOp, ha.eval hx, convert, underlying, hu, ht, Conv.intToInt]
section
variable {τ δ : Type} [GT τ δ]
theorem PU_slcE {x : Operand} {lo hi : Option Operand} {T e sz by_ : Nat} {z : List Value} {X : TL τ} {a b : Int} {r : List δ} (hn : Nat.blt d Γ.n = true) (hx : ev l x = some X.hdr) (hlo : optI l lo 0 = some a) (hhi : optI l hi ((GT.dat X).length : Int) = some b)
    (ht : elOf Γ.P T = some (e, sz, by_, z)) (hsz : GT.sz τ = sz) (hR : RdT Γ A X) (hr : slcP (GT.dat X) a b = some r) :
    Pu Γ A l { dst := some d, op := .slice T x lo hi none, type := ty, pos := pos, after := af, guard := none } d (slc X a.toNat b.toNat).hdr := by
  unfold slcP at hr
  split at hr
  · rename_i hb
    cases hr
    rw [dat_els, List.length_map] at hb hhi
    obtain ⟨h0, h1, h2⟩ := hb
    have h1' : a.toNat ≤ b.toNat := by omega
    have h2' : b.toNat ≤ X.els.length := by omega
    refine PU_pure hn (v := (slc X a.toNat b.toNat).hdr) (fun a' w ha hw => ?_)
    have hcap : X.els.length ≤ X.cap := (hR w hw).1
    unfold elOf at ht
    split at ht <;> (try cases ht)
    rename_i e' het
    split at ht <;> (try cases ht)
    rename_i i' hi'
    split at ht <;> cases ht
    have hlen : ((X.els.drop a.toNat).take (b.toNat - a.toNat)).length = b.toNat - a.toNat := by simp; omega
    have hv : (slc X a.toNat b.toNat).hdr = .slice (if X.cap = a.toNat then X.a else X.a.map (·.add (a.toNat * i'.size))) (b.toNat - a.toNat) (X.cap - a.toNat) := by
      show Value.slice _ ((X.els.drop a.toNat).take (b.toNat - a.toNat)).length _ = _
      rw [hlen]; simp only [slc, hsz]
    rw [hv]
    have e1 : a'.eval x = .slice X.a X.els.length X.cap := ha.eval hx
    cases lo with
    | none =>
      cases hlo
      cases hi with
      | none =>
        cases hhi
        simp only [execOp, Option.map_none, e1, Instr.sliceAt, Instr.slice, underlying, Sem.run_bind, run_program, Result.andThen_ok, het, Instr.sliceBounds, Sem.run_pure, sizeOf, typeInfo, hi']
        simp
      | some o =>
        obtain ⟨k, h5⟩ := optI_some hhi
        have e2 := ha.eval h5
        have e4 := fun w => run_sliceBound (P := Γ.P) (k := k) (code := .sliceAcap) (show 0 ≤ b by omega) (show b ≤ ((X.cap : Nat) : Int) by omega) w
        simp [execOp, e1, e2, Instr.sliceAt, Instr.slice, underlying, het, Instr.sliceBounds, sizeOf, typeInfo, hi', e4]
    | some o1 =>
      obtain ⟨k1, h6⟩ := optI_some hlo
      have e3 := ha.eval h6
      cases hi with
      | none =>
        cases hhi
        have e4 := fun w => run_sliceBound (P := Γ.P) (k := k1) (code := .sliceB) h0 (show a ≤ ((X.els.length : Nat) : Int) by omega) w
        simp [execOp, e1, e3, Instr.sliceAt, Instr.slice, underlying, het, Instr.sliceBounds, sizeOf, typeInfo, hi', e4]
      | some o =>
        obtain ⟨k, h5⟩ := optI_some hhi
        have e2 := ha.eval h5
        have e4 := fun w => run_sliceBound (P := Γ.P) (k := k) (code := .sliceAcap) (show 0 ≤ b by omega) (show b ≤ ((X.cap : Nat) : Int) by omega) w
        have e5 := fun w => run_sliceBound (P := Γ.P) (k := k1) (code := .sliceB) h0 (show a ≤ ((b.toNat : Nat) : Int) by omega) w
        simp [execOp, e1, e2, e3, Instr.sliceAt, Instr.slice, underlying, het, Instr.sliceBounds, sizeOf, typeInfo, hi', e4, e5]
  · cases hr
theorem slc_ex {X : TL τ} {a b : Int} {r : List δ} (hr : slcP (GT.dat X) a b = some r) : ∃ X' : TL τ, X' = slc X a.toNat b.toNat ∧ GT.dat X' = r := by
  obtain ⟨s0, s1, s2, s3⟩ := slcP_some hr
  exact ⟨_, rfl, by rw [s3, dat_els, dat_els]; simp [slc, List.map_take, List.map_drop]⟩
end
theorem PU_toStr {x : Operand} {S T e : Nat} {X : TL UInt8} (hn : Nat.blt d Γ.n = true) (hx : ev l x = some X.hdr) (hS : Γ.P.underlying S = some (.slice e)) (he : Γ.P.underlying e = some (.int .u8)) (hT : Γ.P.underlying T = some .string)
    (hR : RdT Γ A X) :
    Pu Γ A l { dst := some d, op := .convert S T x, type := ty, pos := pos, after := af, guard := none } d (.string (strP (GT.dat X))) := by
  obtain ⟨a, cap, e', els, tail⟩ := X
  have hd : GT.dat (⟨a, cap, e', els, tail⟩ : TL UInt8) = els := map_id' els
  rw [hd]
  cases a with
  | none =>
    refine PU_pure hn (fun a' w ha hw => ?_)
    have h1 := hR w hw
    have he0 : els = [] := h1.2.2.2.1 rfl
    subst he0
    have h2 := ha.eval hx
    simp only [execOp, h2, Sem.run_bind]
    show ((convert S T (.slice none _ _)).run Γ.P w).andThen _ = _
    rw [run_convert_bytes_string w S T e _ _ _ hS he hT, run_bytesNone]
    rfl
  | some ad =>
    refine PU_pure hn (fun a' w ha hw => ?_)
    have h1 := hR w hw
    have h2 := ha.eval hx
    obtain ⟨h3, h4⟩ := h1.2.2.2.2 ad rfl
    simp only [execOp, h2, Sem.run_bind]
    show ((convert S T (.slice (some ad) els.length cap)).run Γ.P w).andThen _ = _
    rw [run_convert_bytes_string w S T e _ _ _ hS he hT]
    have hrow : ∀ xs : List UInt8, rowCells xs = xs.map fun b => Value.int .u8 (b.toNat : Int) := by
      intro xs
      induction xs with
      | nil => rfl
      | cons x xs ih => rw [rowCells_cons, ih]; rfl
    have hl : (loadCells ad els.length).run Γ.P w = .ok ((els.map fun b => (b.toNat : Int)).map (Value.int .u8)).toArray w := by
      by_cases hz : els = []
      · subst hz
        simp [loadCells, loadCellsFrom]
      · have hs := h3 hz
        obtain ⟨blk, off, sp⟩ := ad
        dsimp only at hs
        subst hs
        have := run_loadCells_at (P := Γ.P) (g := blk) (off := off) (cs := rowCells els) (w := w) (fun j v hv => by
          have := h4 j v hv
          exact this.1)
        rw [length_rowCells, show GT.sz UInt8 = 1 from rfl, Nat.mul_one, hrow] at this
        rw [this, List.map_map]; rfl
    have hb := run_bytesToString (P := Γ.P) w ad els.length cap (els.map fun b => (b.toNat : Int)) hl
    have e1 := strOf_bytes els
    unfold strOf at e1
    rw [hb, e1]
    rfl
theorem PU_ssl {x : Operand} {lo hi : Option Operand} {T : TypeId} {s r : ByteArray} {a b : Int} (hn : Nat.blt d Γ.n = true) (hx : ev l x = some (.string s)) (hlo : optI l lo 0 = some a) (hhi : optI l hi (s.size : Int) = some b)
    (ht : isStr Γ.P T = true) (hr : sslP s a b = some r) :
    Pu Γ A l { dst := some d, op := .slice T x lo hi none, type := ty, pos := pos, after := af, guard := none } d (.string r) :=
  PU_pure hn (fun a' w ha hw => by
    have e0 := ha.eval hx
    have h1 := run_sslO (P := Γ.P) (T := T) (s := s) (r := r) (vlo := lo.map a'.eval) (vhi := hi.map a'.eval) (a := a) (b := b) ht (by
      cases lo with
      | none => cases hlo; exact .inl ⟨rfl, rfl⟩
      | some o => obtain ⟨k, h⟩ := optI_some hlo; exact .inr ⟨k, by simp [ha.eval h]⟩) (by
      cases hi with
      | none => cases hhi; exact .inl ⟨rfl, rfl⟩
      | some o => obtain ⟨k, h⟩ := optI_some hhi; exact .inr ⟨k, by simp [ha.eval h]⟩) hr w
    simp [execOp, e0, h1])
theorem PU_lenT {x : Operand} {T : TypeId} {s : ByteArray} (hn : Nat.blt d Γ.n = true) (hx : ev l x = some (.string s)) (ht : isStr Γ.P T = true) :
    Pu Γ A l { dst := some d, op := .call { callee := .builtin .len, args := #[x], argTypes := #[T] }, type := ty, pos := pos, after := af, guard := none } d (.int .i64 s.size) :=
  PU_pure hn fun a' w ha _ => by
    have h2 : Γ.P.underlying T = some .string := by unfold isStr at ht; split at ht <;> simp_all
    simp [execOp, resolve, invoke, builtin, ha.eval hx, Builtin.len_, underlying, h2, goInt]
end
/-- From here on more is to be kept for the small steps. -/
theorem wpAnyH_S {P : Program} {Q : Exit → Act → World → Prop} {S S' : World → Prop} (hs : ∀ w, S' w → S w) : ∀ (fuel : Nat) (listed : Array Bool) (a : Act) (w : World), wpAnyH P .any ops Q S' fuel listed a w → wpAnyH P .any ops Q S fuel listed a w
  | 0, _, _, _, h => h
  | fuel + 1, _, _, _, h => ⟨h.1, fun i hi => wpOp_mono (fun a' w' h' => ⟨hs _ h'.1, wpAnyH_S hs fuel _ a' w' h'.2⟩) (h.2 i hi)⟩
theorem AH_A (A' : List HP) (hs : AllIn A A') (h : AH Γ ops A' Qp fuel listed l M) : AH Γ ops A Qp fuel listed l M := fun a w ha hw =>
  wpAnyH_S (fun w h => ⟨h.old, fun x hx => h.prs x (hs.mem x hx)⟩) _ _ _ _ (h a w ha hw)
end Go.Proofs.SL
namespace Go.Proofs.SL
open Go
variable {Γ : Cx} {l l' : Envl} {M M' M1 M2 F A : List HP} {Qp : Post} {K : Kont} {w0 w : World} {S0 : List Nat}
variable {ops : Array Oper} {fuel : Nat} {listed : Array Bool} {i d : Nat} {o : Oper}
theorem g_of_hdr {τ : Type} {X Y : TL τ} (h : Y.hdr = X.hdr) : Y.g = X.g := by
  unfold TL.hdr at h; injection h with h1 h2 h3
  unfold TL.g; rw [h1]
theorem o_of_hdr {τ : Type} {X Y : TL τ} (h : Y.hdr = X.hdr) : Y.o = X.o := by
  unfold TL.hdr at h; injection h with h1 h2 h3
  unfold TL.o; rw [h1]
/-- What has come up has had all that it waits for. -/
def Closed (ops : Array Oper) (listed : Array Bool) : Prop := ∀ k o, ops[k]? = some o → listed.getD k false = true → ∀ e, e ∈ o.after → Region.binds .any e = true → listed.getD e.on false = true
theorem Closed.set (hc : Closed ops listed) {j : Nat} (hj : j ∈ Region.ready .any ops listed) : Closed ops (listed.setIfInBounds j true) := fun k o hk hl e he hb => by
  by_cases h : j = k
  · subst h
    obtain ⟨_, o', ho', hall⟩ := mem_ready.1 hj
    rw [hk] at ho'; cases ho'
    exact getD_set_true (hall e he hb)
  · rw [getD_set_ne false h] at hl
    exact getD_set_true (hc k o hk hl e he hb)
variable {last : Nat}
section
variable {ty : TypeId} {pos : String} {af : Array Edge}
theorem PU_max {x y : Operand} {ats : Array TypeId} {k : IntKind} {a b : Int} (hn : Nat.blt d Γ.n = true) (hx : ev l x = some (.int k a)) (hy : ev l y = some (.int k b)) :
    Pu Γ A l { dst := some d, op := .call { callee := .builtin .max, args := #[x, y], argTypes := ats }, type := ty, pos, after := af, guard := none } d (.int k (if b > a then b else a)) :=
  PU_pure hn fun a' w ha _ => by simp [execOp, resolve, invoke, builtin, ha.eval hx, ha.eval hy, run_max_int2]
theorem PU_min {x y : Operand} {ats : Array TypeId} {k : IntKind} {a b : Int} (hn : Nat.blt d Γ.n = true) (hx : ev l x = some (.int k a)) (hy : ev l y = some (.int k b)) :
    Pu Γ A l { dst := some d, op := .call { callee := .builtin .min, args := #[x, y], argTypes := ats }, type := ty, pos, after := af, guard := none } d (.int k (if b < a then b else a)) :=
  PU_pure hn fun a' w ha _ => by simp [execOp, resolve, invoke, builtin, ha.eval hx, ha.eval hy, run_min_int2]
theorem PU_nilCheck {x : Operand} {a : Addr} (hn : Nat.blt d Γ.n = true) (hx : ev l x = some (.pointer (some a))) :
    Pu Γ A l { dst := some d, op := .nilCheck x, type := ty, pos, after := af, guard := none } d (.pointer (some a)) :=
  PU_pure hn fun a' w ha _ => by simp [execOp, ha.eval hx]
end
end Go.Proofs.SL
namespace Go.Proofs.SL
open Go
set_option maxHeartbeats 2000000
abbrev D_Seg := Int × ByteArray
abbrev D_Log := (List D_Seg) × Int × Int
instance zero50 : ZerF Try.prog 50 [.slice none 0 0, .int .i64 0, .int .i64 0] := ⟨by kernel_rfl⟩
instance bld113 : BldF Try.prog 113 [(0, 1), (1, 1)] [.int .i64 0, .string ByteArray.empty] := ⟨by kernel_rfl⟩
instance el48 : ElF Try.prog 48 113 2 24 [.int .i64 0, .string ByteArray.empty] := ⟨by kernel_rfl⟩
instance bld50 : BldF Try.prog 50 [(0, 1), (1, 1), (2, 1)] [.slice none 0 0, .int .i64 0, .int .i64 0] := ⟨by kernel_rfl⟩
instance agg50 : AggF Try.prog 50 3 := ⟨by kernel_rfl⟩
instance fld50_0 : FldF Try.prog 50 0 0 := ⟨by kernel_rfl⟩
instance one48 : OneF Try.prog 48 := ⟨by kernel_rfl⟩
instance fld113_0 : FldF Try.prog 113 0 0 := ⟨by kernel_rfl⟩
instance agg113 : AggF Try.prog 113 2 := ⟨by kernel_rfl⟩
instance zero113 : ZerF Try.prog 113 [.int .i64 0, .string ByteArray.empty] := ⟨by kernel_rfl⟩
instance fld113_1 : FldF Try.prog 113 1 1 := ⟨by kernel_rfl⟩
instance fn11 : FnF Try.prog 11 := ⟨⟨_, Try.func11, by kernel_rfl, rfl⟩⟩
instance fld50_2 : FldF Try.prog 50 2 2 := ⟨by kernel_rfl⟩
instance fld50_1 : FldF Try.prog 50 1 1 := ⟨by kernel_rfl⟩
instance fn79 : FnF Try.prog 79 := ⟨⟨_, Try.func79, by kernel_rfl, rfl⟩⟩
instance fn80 : FnF Try.prog 80 := ⟨⟨_, Try.func80, by kernel_rfl, rfl⟩⟩
instance fn81 : FnF Try.prog 81 := ⟨⟨_, Try.func81, by kernel_rfl, rfl⟩⟩
instance fn12 : FnF Try.prog 12 := ⟨⟨_, Try.func12, by kernel_rfl, rfl⟩⟩
instance fn82 : FnF Try.prog 82 := ⟨⟨_, Try.func82, by kernel_rfl, rfl⟩⟩
instance fn83 : FnF Try.prog 83 := ⟨⟨_, Try.func83, by kernel_rfl, rfl⟩⟩
instance fn30 : FnF Try.prog 30 := ⟨⟨_, Try.func30, by kernel_rfl, rfl⟩⟩
instance fn85 : FnF Try.prog 85 := ⟨⟨_, Try.func85, by kernel_rfl, rfl⟩⟩
instance fn86 : FnF Try.prog 86 := ⟨⟨_, Try.func86, by kernel_rfl, rfl⟩⟩
instance fn133 : FnF Try.prog 133 := ⟨⟨_, Try.func133, by kernel_rfl, rfl⟩⟩
instance fn34 : FnF Try.prog 34 := ⟨⟨_, Try.func34, by kernel_rfl, rfl⟩⟩
instance fn89 : FnF Try.prog 89 := ⟨⟨_, Try.func89, by kernel_rfl, rfl⟩⟩
instance fn134 : FnF Try.prog 134 := ⟨⟨_, Try.func134, by kernel_rfl, rfl⟩⟩
instance fn135 : FnF Try.prog 135 := ⟨⟨_, Try.func135, by kernel_rfl, rfl⟩⟩
instance fn61 : FnF Try.prog 61 := ⟨⟨_, Try.func61, by kernel_rfl, rfl⟩⟩
instance fn58 : FnF Try.prog 58 := ⟨⟨_, Try.func58, by kernel_rfl, rfl⟩⟩
instance fn84 : FnF Try.prog 84 := ⟨⟨_, Try.func84, by kernel_rfl, rfl⟩⟩
instance fn9 : FnF Try.prog 9 := ⟨⟨_, Try.func9, by kernel_rfl, rfl⟩⟩
instance fn26 : FnF Try.prog 26 := ⟨⟨_, Try.func26, by kernel_rfl, rfl⟩⟩
instance fn15 : FnF Try.prog 15 := ⟨⟨_, Try.func15, by kernel_rfl, rfl⟩⟩
instance fn27 : FnF Try.prog 27 := ⟨⟨_, Try.func27, by kernel_rfl, rfl⟩⟩
instance und4 : UndF Try.prog 4 (.bool) := ⟨by kernel_rfl⟩
instance fn31 : FnF Try.prog 31 := ⟨⟨_, Try.func31, by kernel_rfl, rfl⟩⟩
instance fn13 : FnF Try.prog 13 := ⟨⟨_, Try.func13, by kernel_rfl, rfl⟩⟩
instance fn28 : FnF Try.prog 28 := ⟨⟨_, Try.func28, by kernel_rfl, rfl⟩⟩
instance fn29 : FnF Try.prog 29 := ⟨⟨_, Try.func29, by kernel_rfl, rfl⟩⟩
instance fn32 : FnF Try.prog 32 := ⟨⟨_, Try.func32, by kernel_rfl, rfl⟩⟩
instance fn33 : FnF Try.prog 33 := ⟨⟨_, Try.func33, by kernel_rfl, rfl⟩⟩
noncomputable def i_LogNew  : Option D_Log :=
  Option.bind (some ([(1, ByteArray.empty)] : List D_Seg)) (fun y1 => some (y1, 1, 0))
theorem i_LogNew_walk (w : World)   (r : D_Log) (hp : i_LogNew  = some r) : Spec Try.prog 26 [].toArray w [] (fun v M => ∃ (x0 : T_Log), v = .agg (GT.cells x0).toArray ∧ GT.dat x0 = r ∧ M = [treeH x0]) := by
  refine Spec.intro Try.func26 rfl Try.ntmps26 rfl ?_
  unfold i_LogNew at hp
  replace hp := dd hp
  refine s2 ?_
  refine al fun bk0 => ?_
  refine s3 ?_
  refine L_build (xs := [(0, .const (.int .i64 1))]) (cs := [.int .i64 1, .string ByteArray.empty]) rfl rfl bld113.h rfl ?_
  replace hp := ba hp; obtain ⟨y1, hy1, hp⟩ := hp
  refine L_bsN ([(1, ByteArray.empty)] : List T_Seg) (xs := [(0, .tmp 1)]) rfl rfl el48.h rfl rfl rfl rfl rfl rfl rfl hy1 (fun X2 hdX2 => ?_)
  subst hdX2
  refine L_build (xs := [(0, .tmp 2), (1, .const (.int .i64 1))]) (cs := [(TL.hdr X2), .int .i64 1, .int .i64 0]) rfl rfl bld50.h rfl ?_
  refine s2 ?_
  obtain rfl := Option.some.inj hp
  refine jW ((X2, 1, 0) : T_Log) ?_
  refine s1 ?_
  refine res1 rfl (ResOK.cell rfl mm (by exact agg50.h)) ⟨(X2, 1, 0), rfl, rfl, rfl⟩ ms
noncomputable def i_LogOk (a0 : D_Log) : Option Bool :=
  Option.bind (i_within (a0.1.length : Int) 1 6) (fun y1 => gb (!(!y1)) (idx a0.1 0) (fun y2 => gb (!((!y1) || (decide (y2.1 < 1)))) (idx a0.1 0) (fun y3 => cond (((!y1) || (decide (y2.1 < 1))) || (decide (1000 < y3.1))) (some false) (Option.bind (idx a0.1 0) (fun y5 => whileP (fun s6 : Int × Int => cond (decide (s6.2 < (a0.1.length : Int))) (Option.bind (idx a0.1 s6.2) (fun y8 => Option.bind (i_Unframe y8.2) (fun y9 => cond (((!decide (y9.2 = (y8.2.size : Int))) || ((decide (60 < (y8.2.size : Int))) && (!decide ((y9.1.length : Int) = 1)))) || (!decide (y8.1 = s6.1))) (Option.map .inr (some false)) (cond ((decide (s6.2 < IntKind.wrap .i64 ((a0.1.length : Int) - 1))) && ((decide ((y9.1.length : Int) = 0)) || (decide (IntKind.wrap .i64 (IntKind.wrap .i64 (s6.1 + (y9.1.length : Int)) - 1) ≤ a0.2.2)))) (Option.map .inr (some false)) (some (.inl ((IntKind.wrap .i64 (s6.1 + (y9.1.length : Int)), IntKind.wrap .i64 (s6.2 + 1))))))))) (Option.map .inr (gb ((decide (a0.2.1 = s6.1)) && (decide (s6.1 ≤ 1000))) (i_within a0.2.2 0 (IntKind.wrap .i64 (s6.1 - 1))) (fun y15 => some (((decide (a0.2.1 = s6.1)) && (decide (s6.1 ≤ 1000))) && y15))))) (y5.1, 0))))))
theorem i_LogOk_walk (w : World) (a0 : T_Log) (h0 : GT.rd w [] a0) (r : Bool) (hp : i_LogOk (GT.dat a0) = some r) : Spec Try.prog 79 [.agg (GT.cells a0).toArray].toArray w [] (IsV (.bool r)) := by
  obtain ⟨a0_1, a0_2, a0_3⟩ := a0
  change Spec _ _ ([Value.agg #[(TL.hdr a0_1), .int .i64 a0_2, .int .i64 a0_3]] : List Value).toArray w [] _
  refine Spec.intro Try.func79 rfl Try.ntmps79 rfl ?_
  unfold i_LogOk at hp
  replace hp := dd hp
  refine s2 ?_
  refine bx fun bk1 => ?_
  refine s11 ?_
  replace hp := ba hp; obtain ⟨y1, hy1, hp⟩ := hp
  replace hp := idx_gb hp; obtain ⟨⟨u2_1, u2_2⟩, hy2, hp⟩ := hp
  replace hp := idx_gb hp; obtain ⟨⟨u3_1, u3_2⟩, hy3, hp⟩ := hp
  refine W_D0 [30] mix (by kernel_rfl) rfl ?_
  refine s1 ?_
  refine D_callX GC.none fn73.h (OpVs.cons (OpV.t rfl) (OpVs.cons OpV.c (OpVs.cons OpV.c (OpVs.nil)))) (by exact fun hg w F hF hM => i_within_walk w ((GT.dat a0_1).length : Int) 1 6  _ hy1) ?_
  refine s4 ?_
  refine D_idxA (X := a0_1) (GC.some rfl rfl) (OpV.s rfl) OpV.c el48.h (RdT.old h0.1) (fun hg => hy2 (gnot hg.2)) ?_
  refine s1 ?_
  refine D_load (GC.some rfl rfl) (OpV.s rfl) (fun hg => RdT.at (RdT.old h0.1) (hy2 (gnot hg.2)).2) one3.h rfl ?_
  refine s5 ?_
  refine D_idxA (X := a0_1) (GC.some rfl rfl) (OpV.s rfl) OpV.c el48.h (RdT.old h0.1) (fun hg => hy3 (gnot hg.2)) ?_
  refine s1 ?_
  refine D_load (GC.some rfl rfl) (OpV.s rfl) (fun hg => RdT.at (RdT.old h0.1) (hy3 (gnot hg.2)).2) one3.h rfl ?_
  refine s20 ?_
  refine s3 ?_
  refine kp [1, 3, 30] ?_
  refine W_cond rfl (fun hc4 => ?_) (fun hc4 => ?_)
  · replace hp := cond_t hc4 hp
    refine s4 ?_
    obtain rfl := Option.some.inj hp
    refine s1 ?_
    refine res1 rfl (ResOK.tmp rfl) ⟨rfl, rfl⟩ ms
  · replace hp := cond_f hc4 hp
    refine s5 ?_
    replace hp := idx_bind hp; obtain ⟨⟨u5_1, u5_2⟩, hy5, hp⟩ := hp
    refine L_idxA (X := a0_1) rfl rfl rfl el48.h (RdT.old h0.1) hy5 ?_
    refine s1 ?_
    refine L_load rfl rfl (RdT.at (RdT.old h0.1) (hy5).2) one3.h rfl ?_
    refine s11 ?_
    refine W_while (σ := Int × Int) GT.dat (fun ((v6_0, v6_1) : Int × Int) => [(4, .int .i64 v6_0), (39, .int .i64 v6_1)]) (fun ((v6_0, v6_1) : Int × Int) => []) [(1, _), (3, _), (37, _), (38, _)] [blk bk1 _ _] (u5_1, 0) hp sb ms ?_
    clear hp
    rintro ⟨v6_0, v6_1⟩ x6 hp hx6
    replace hp := dd hp
    refine kq [1, 3, 4, 37, 38, 39] ?_
    refine s5 ?_
    refine kp [1, 3, 4, 37, 38, 39, 40] ?_
    refine W_cond rfl (fun hc7 => ?_) (fun hc7 => ?_)
    · replace hp := cond_t hc7 hp
      refine s6 ?_
      replace hp := idx_bind hp; obtain ⟨⟨u8_1, u8_2⟩, hy8, hp⟩ := hp
      refine L_idxA (X := a0_1) rfl rfl rfl el48.h (RdT.old h0.1) hy8 ?_
      refine L_loadW rfl rfl (RdT.at (RdT.old h0.1) (hy8).2) (by exact agg113.h) ?_
      refine al fun bk6 => ?_
      refine s7 ?_
      replace hp := ba hp; obtain ⟨y9, hy9, hp⟩ := hp
      refine L_callR rfl fn11.h rfl (by exact fun w hw => i_Unframe_walk w u8_2  _ hy9) ?_
      rintro _ _ ⟨y9x0, y9x1, rfl, rfl, rfl⟩
      refine sc ?_
      replace hp := dd hp
      refine s8 ?_
      refine W_D0 [71] mix (by kernel_rfl) rfl ?_
      refine s3 ?_
      refine D_lenT GC.none (OpV.t rfl) str9.h ?_
      refine s4 ?_
      refine D_lenT (GC.some rfl rfl) (OpV.s rfl) str9.h ?_
      refine s3 ?_
      refine D_lenP (X := y9x0) (GC.some rfl rfl) (OpV.s rfl) el25.h ?_
      refine s20 ?_
      refine s13 ?_
      refine kp [1, 3, 4, 5, 7, 37, 38, 39, 71] ?_
      refine W_cond rfl (fun hc10 => ?_) (fun hc10 => ?_)
      · replace hp := cond_t hc10 hp
        refine s4 ?_
        replace hp := map_any hp; obtain ⟨a11, hp, hx_a11⟩ := hp
        obtain rfl := hx6 _ hx_a11
        obtain rfl := Option.some.inj hp
        refine s1 ?_
        refine res1 rfl (ResOK.tmp rfl) ⟨rfl, rfl⟩ ms
      · replace hp := cond_f hc10 hp
        refine s10 ?_
        refine W_D0 [91] mix (by kernel_rfl) rfl ?_
        refine s6 ?_
        refine D_lenP (X := y9x0) (GC.some rfl rfl) (OpV.s rfl) el25.h ?_
        refine s20 ?_
        refine s7 ?_
        refine kp [1, 3, 4, 37, 38, 39, 91] ?_
        refine W_cond rfl (fun hc12 => ?_) (fun hc12 => ?_)
        · replace hp := cond_t hc12 hp
          refine s4 ?_
          replace hp := map_any hp; obtain ⟨a13, hp, hx_a13⟩ := hp
          obtain rfl := hx6 _ hx_a13
          obtain rfl := Option.some.inj hp
          refine s1 ?_
          refine res1 rfl (ResOK.tmp rfl) ⟨rfl, rfl⟩ ms
        · replace hp := cond_f hc12 hp
          refine s5 ?_
          exact ⟨(IntKind.wrap .i64 (v6_0 + ((GT.dat y9x0).length : Int)), IntKind.wrap .i64 (v6_1 + 1)), sb, (.sub ms), some_eq hp⟩
    · replace hp := cond_f hc7 hp
      refine W_exit ?_
      replace hp := map_any hp; obtain ⟨a14, hp, hx_a14⟩ := hp
      obtain rfl := hx6 _ hx_a14
      refine s1 ?_
      replace hp := gb_any hp; obtain ⟨y15, hy15, hp⟩ := hp
      refine W_D0 [2] mix (by kernel_rfl) rfl ?_
      refine s13 ?_
      refine D_callX (GC.some rfl rfl) fn73.h (OpVs.cons (OpV.s rfl) (OpVs.cons OpV.c (OpVs.cons (OpV.s rfl) (OpVs.nil)))) (by exact fun hg w F hF hM => i_within_walk w a0_3 0 (IntKind.wrap .i64 (v6_0 - 1))  _ (hy15 hg.2)) ?_
      refine s20 ?_
      obtain rfl := Option.some.inj hp
      refine s1 ?_
      refine res1 rfl (ResOK.tmp rfl) ⟨rfl, rfl⟩ ms
noncomputable def i_copyLog (a0 : D_Log) : Option D_Log :=
  Option.bind (appP ([] : List D_Seg) a0.1) (fun y1 => some (y1, a0.2.1, a0.2.2))
theorem i_copyLog_walk (w : World) (a0 : T_Log) (h0 : GT.rd w [] a0) (r : D_Log) (hp : i_copyLog (GT.dat a0) = some r) : Spec Try.prog 80 [.agg (GT.cells a0).toArray].toArray w [] (fun v M => ∃ (x0 : T_Log), v = .agg (GT.cells x0).toArray ∧ GT.dat x0 = r ∧ M = [treeH x0]) := by
  obtain ⟨a0_1, a0_2, a0_3⟩ := a0
  change Spec _ _ ([Value.agg #[(TL.hdr a0_1), .int .i64 a0_2, .int .i64 a0_3]] : List Value).toArray w [] _
  refine Spec.intro Try.func80 rfl Try.ntmps80 rfl ?_
  unfold i_copyLog at hp
  replace hp := dd hp
  refine s2 ?_
  refine bx fun bk1 => ?_
  refine al fun bk2 => ?_
  refine s2 ?_
  refine W_conv (M' := treeH (TL.nil T_Seg 0) :: _) (fun w h => addNilT (τ := T_Seg) 0 h) ?_
  replace hp := ba hp; obtain ⟨y1, hy1, hp⟩ := hp
  refine W_DS (pre := [_, _, _, _, _, _, _]) (suf := [_, _]) [5, 7, 9] [treeH (TL.nil T_Seg 0)] _ pc mix (by kernel_rfl) (by kernel_rfl) rfl ?_
  refine s2 ?_
  refine D_appT (X := (TL.nil T_Seg 0)) (Y := a0_1) (OpV.c (v := (TL.hdr (TL.nil T_Seg 0)))) (OpV.t rfl) el48.h rfl rfl pk (RdT.old h0.1) hy1 (by decide) ?_
  refine s9 ?_
  refine Give_R rfl rfl ?_
  rintro _ _ ⟨X2, rfl, rfl, rfl⟩
  simp only [List.cons_append, List.nil_append]
  refine s3 ?_
  refine L_build (xs := [(0, .tmp 5), (1, .tmp 7), (2, .tmp 9)]) (cs := [(TL.hdr X2), .int .i64 a0_2, .int .i64 a0_3]) rfl rfl bld50.h rfl ?_
  refine s2 ?_
  obtain rfl := Option.some.inj hp
  refine jW ((X2, a0_2, a0_3) : T_Log) ?_
  refine s1 ?_
  refine res1 rfl (ResOK.cell rfl mm (by exact agg50.h)) ⟨(X2, a0_2, a0_3), rfl, rfl, rfl⟩ ms
noncomputable def i_Log_trimmed (a0 : D_Log) : Option D_Log :=
  whileP (fun s1 : (List D_Seg) => gb (decide (1 < (s1.length : Int))) (idx s1 1) (fun y2 => cond ((decide (1 < (s1.length : Int))) && (decide (IntKind.wrap .i64 (y2.1 - 1) ≤ a0.2.2))) (Option.bind (slcP s1 1 (s1.length : Int)) (fun y4 => Option.bind (appP ([] : List D_Seg) y4) (fun y7 => some (.inl (y7))))) (Option.map .inr (some (s1, a0.2.1, a0.2.2))))) a0.1
theorem i_Log_trimmed_walk (w : World) (b0_ : Nat) (a0 : T_Log)  (r : D_Log) (hp : i_Log_trimmed (GT.dat a0) = some r) : Spec Try.prog 81 [Value.pointer (some ⟨b0_, 0, none⟩)].toArray w [blk b0_ (GT.cells a0) 50, treeH a0.1] (fun v M => ∃ (y0 : T_Log), v = .tuple #[] ∧ GT.dat y0 = r ∧ M = [blk b0_ (GT.cells y0) 50, treeH y0.1]) := by
  obtain ⟨a0_1, a0_2, a0_3⟩ := a0
  change Spec _ _ ([Value.pointer (some ⟨b0_, 0, none⟩)] : List Value).toArray w _ _
  refine Spec.intro Try.func81 rfl Try.ntmps81 rfl ?_
  unfold i_Log_trimmed at hp
  replace hp := dd hp
  refine s1 ?_
  refine W_while (σ := (TL T_Seg)) GT.dat (fun (v1_0 : (TL T_Seg)) => []) (fun (v1_0 : (TL T_Seg)) => [blk b0_ [(TL.hdr v1_0), .int .i64 a0_2, .int .i64 a0_3] 50, treeH v1_0]) [(0, _)] [] a0_1 hp sb ms ?_
  clear hp
  rintro v1_0 x1 hp hx1
  replace hp := dd hp
  refine kq [0] ?_
  refine s2 ?_
  replace hp := idx_gb hp; obtain ⟨⟨u2_1, u2_2⟩, hy2, hp⟩ := hp
  refine W_D0 [22] mix (by kernel_rfl) rfl ?_
  refine s4 ?_
  refine D_lenP (X := v1_0) GC.none (OpV.t rfl) el48.h ?_
  refine s6 ?_
  refine D_idxA (X := v1_0) (GC.some rfl rfl) (OpV.s rfl) OpV.c el48.h (RdT.tree mm) (fun hg => hy2 hg.2) ?_
  refine s1 ?_
  refine D_load (GC.some rfl rfl) (OpV.s rfl) (fun hg => RdT.at (RdT.tree mm) (hy2 hg.2).2) one3.h rfl ?_
  refine s20 ?_
  refine s10 ?_
  refine kp [0, 22] ?_
  refine W_cond rfl (fun hc3 => ?_) (fun hc3 => ?_)
  · replace hp := cond_t hc3 hp
    refine s8 ?_
    replace hp := ba hp; obtain ⟨y4, hy4, hp⟩ := hp
    refine L_slcE (X := v1_0) rfl rfl rfl rfl el48.h rfl (RdT.tree mm) hy4 (fun X5 hdX5 heX5 => ?_)
    have hsX5 := hy4
    subst hdX5
    refine L_conv (M' := treeH (TL.nil T_Seg 0) :: _) (fun w h => addNilT _ h) ?_
    replace hp := ba hp; obtain ⟨y7, hy7, hp⟩ := hp
    refine L_appT (X := (TL.nil T_Seg 0)) (Y := X5) rfl rfl rfl el48.h rfl rfl pk (RdT.map (slcE_rd heX5 hsX5) (RdT.tree mm)) hy7 (by decide) (fun X6 hdX6 => ?_)
    subst hdX6
    refine s4 ?_
    exact ⟨X6, sb, (.sub ms), some_eq hp⟩
  · replace hp := cond_f hc3 hp
    refine W_exit ?_
    replace hp := map_any hp; obtain ⟨a8, hp, hx_a8⟩ := hp
    obtain rfl := hx1 _ hx_a8
    obtain rfl := Option.some.inj hp
    refine res0n rfl  ⟨(v1_0, a0_2, a0_3), rfl, rfl, rfl⟩ ms
noncomputable def i_LogMark (a0 : D_Log) (a1 : Int) : Option (D_Log × Bool) :=
  Option.bind (i_LogOk (a0.1, a0.2.1, a0.2.2)) (fun y1 => cond (!y1) (some ((([] : List D_Seg), 0, 0), false)) (Option.bind (i_copyLog (a0.1, a0.2.1, a0.2.2)) (fun y3 => Option.bind (i_within a1 a0.2.2 (IntKind.wrap .i64 (a0.2.1 - 1))) (fun y4 => cond (!y4) (some ((y3.1, y3.2.1, y3.2.2), false)) (Option.bind (i_Log_trimmed (y3.1, y3.2.1, a1)) (fun y6 => some ((y6.1, y6.2.1, y6.2.2), true)))))))
theorem i_LogMark_walk (w : World) (a0 : T_Log) (a1 : Int) (h0 : GT.rd w [] a0) (r : D_Log × Bool) (hp : i_LogMark (GT.dat a0) a1 = some r) : Spec Try.prog 27 [.agg (GT.cells a0).toArray, .int .i64 a1].toArray w [] (fun v M => ∃ (x0 : T_Log) (x1 : Bool), v = .tuple #[.agg (GT.cells x0).toArray, .bool x1] ∧ (GT.dat x0, GT.dat x1) = r ∧ M = [treeH x0]) := by
  obtain ⟨a0_1, a0_2, a0_3⟩ := a0
  change Spec _ _ ([Value.agg #[(TL.hdr a0_1), .int .i64 a0_2, .int .i64 a0_3], .int .i64 a1] : List Value).toArray w [] _
  refine Spec.intro Try.func27 rfl Try.ntmps27 rfl ?_
  unfold i_LogMark at hp
  replace hp := dd hp
  refine s2 ?_
  refine bx fun bk2 => ?_
  refine al fun bk4 => ?_
  refine s6 ?_
  replace hp := ba hp; obtain ⟨y1, hy1, hp⟩ := hp
  refine L_callX rfl fn79.h rfl (by exact fun w hw => i_LogOk_walk w (a0_1, a0_2, a0_3) (RdT.now (RdT.pair (RdT.old h0.1) (RdT.pair RdT.int RdT.int)) hw) _ hy1) ?_
  refine s2 ?_
  refine kp [1, 2, 4, 9] ?_
  refine W_cond rfl (fun hc2 => ?_) (fun hc2 => ?_)
  · replace hp := cond_t hc2 hp
    refine s2 ?_
    refine L_build (xs := []) (cs := [(TL.hdr (TL.nil T_Seg 0)), .int .i64 0, .int .i64 0]) rfl rfl bld50.h rfl ?_
    refine s3 ?_
    obtain rfl := Option.some.inj hp
    refine W_conv (M' := treeH (TL.nil T_Seg 0) :: _) (fun w h => addNilT (τ := T_Seg) 0 h) ?_
    refine jW (((TL.nil T_Seg 0), 0, 0) : T_Log) ?_
    refine s1 ?_
    refine res2 rfl (ResOK.cell rfl mm (by exact agg50.h)) (ResOK.tmp rfl) ⟨((TL.nil T_Seg 0), 0, 0), false, rfl, rfl, rfl⟩ ms
  · replace hp := cond_f hc2 hp
    refine s4 ?_
    replace hp := ba hp; obtain ⟨y3, hy3, hp⟩ := hp
    refine L_callR rfl fn80.h rfl (by exact fun w hw => i_copyLog_walk w (a0_1, a0_2, a0_3) (RdT.now (RdT.pair (RdT.old h0.1) (RdT.pair RdT.int RdT.int)) hw) _ hy3) ?_
    rintro _ _ ⟨⟨y3x0_1, y3x0_2, y3x0_3⟩, rfl, rfl, rfl⟩
    refine sc ?_
    replace hp := dd hp
    refine xL ((y3x0_1, y3x0_2, y3x0_3) : T_Log) ?_
    refine al fun bk6 => ?_
    refine s11 ?_
    replace hp := ba hp; obtain ⟨y4, hy4, hp⟩ := hp
    refine L_callX rfl fn73.h rfl (by exact fun w hw => i_within_walk w a1 a0_3 (IntKind.wrap .i64 (a0_2 - 1))  _ hy4) ?_
    refine s2 ?_
    refine kp [1, 4, 6, 20] ?_
    refine W_cond rfl (fun hc5 => ?_) (fun hc5 => ?_)
    · replace hp := cond_t hc5 hp
      refine s6 ?_
      obtain rfl := Option.some.inj hp
      refine jW ((y3x0_1, y3x0_2, y3x0_3) : T_Log) ?_
      refine s1 ?_
      refine res2 rfl (ResOK.cell rfl mm (by exact agg50.h)) (ResOK.tmp rfl) ⟨(y3x0_1, y3x0_2, y3x0_3), false, rfl, rfl, rfl⟩ ms
    · replace hp := cond_f hc5 hp
      refine s9 ?_
      replace hp := ba hp; obtain ⟨y6, hy6, hp⟩ := hp
      refine L_callM [blk bk6 _ _, treeH y3x0_1] _ rfl fn81.h rfl pc (by exact fun w hw => i_Log_trimmed_walk w bk6 (y3x0_1, y3x0_2, a1)  _ hy6) ?_
      rintro _ _ ⟨⟨y6y0_1, y6y0_2, y6y0_3⟩, rfl, rfl, rfl⟩
      refine sc ?_
      replace hp := dd hp
      refine s7 ?_
      obtain rfl := Option.some.inj hp
      refine jW ((y6y0_1, y6y0_2, y6y0_3) : T_Log) ?_
      refine s1 ?_
      refine res2 rfl (ResOK.cell rfl mm (by exact agg50.h)) (ResOK.tmp rfl) ⟨(y6y0_1, y6y0_2, y6y0_3), true, rfl, rfl, rfl⟩ ms
noncomputable def w_fresh (a0 : List UInt8) (a1 : Int) : Option (List UInt8) :=
  Option.bind (u8P (IntKind.wrap .u8 a1)) (fun y1 => Option.bind (some ([y1] : List UInt8)) (fun y2 => whileP (fun s4 : (List UInt8) × Int => cond ((decide (s4.2 < (a0.length : Int))) && (decide (s4.2 < 600))) (Option.bind (idx a0 s4.2) (fun y6 => Option.bind (u8P (IntKind.wrap .u8 (IntKind.wrap .i64 (IntKind.wrap .i64 (IntKind.wrap .i64 (y6.toNat : Int) * 3) + IntKind.wrap .i64 (a1 * IntKind.wrap .i64 ((s4.2).tmod 7 + 1)))))) (fun y7 => Option.bind (appP s4.1 [y7]) (fun y9 => some (.inl ((y9, IntKind.wrap .i64 (s4.2 + 1)))))))) (Option.map .inr (some s4.1))) (y2, 0)))
theorem w_fresh_walk (w : World) (a0 : TL UInt8) (a1 : Int) (h0 : GT.rd w [] a0) (r : (List UInt8)) (hp : w_fresh (GT.dat a0) a1 = some r) : Spec Try.prog 28 [(TL.hdr a0), .int .i64 a1].toArray w [] (fun v M => ∃ (x0 : TL UInt8), v = (TL.hdr x0) ∧ GT.dat x0 = r ∧ M = [treeH x0]) := by
  refine Spec.intro Try.func28 rfl Try.ntmps28 rfl ?_
  unfold w_fresh at hp
  replace hp := dd hp
  refine s2 ?_
  refine L_assign (v := (TL.hdr (TL.nil UInt8 0))) rfl rfl ?_
  refine s4 ?_
  refine L_convInt rfl rfl und5.h (by rw [und3.h]; rfl) ?_
  replace hp := ba hp; obtain ⟨y1, hy1, hp⟩ := hp
  have ey1 := u8P_some hy1
  try simp only [dat_u8] at ey1
  try simp only [ey1]
  replace hp := ba hp; obtain ⟨y2, hy2, hp⟩ := hp
  refine L_bsN ([y1] : List UInt8) (xs := [(0, .tmp 8)]) rfl rfl el22.h rfl rfl rfl rfl rfl rfl rfl hy2 (fun X3 hdX3 => ?_)
  subst hdX3
  refine s8 ?_
  refine W_while (σ := (TL UInt8) × Int) GT.dat (fun ((v4_0, v4_1) : (TL UInt8) × Int) => [(5, (TL.hdr v4_0)), (6, .int .i64 v4_1)]) (fun ((v4_0, v4_1) : (TL UInt8) × Int) => [treeH v4_0]) [(0, _), (1, _)] [] (X3, 0) hp sb ms ?_
  clear hp
  rintro ⟨v4_0, v4_1⟩ x4 hp hx4
  replace hp := dd hp
  refine kq [0, 1, 5, 6] ?_
  refine s2 ?_
  refine W_D0 [17] mix (by kernel_rfl) rfl ?_
  refine s2 ?_
  refine D_lenP (X := a0) GC.none (OpV.t rfl) el22.h ?_
  refine s15 ?_
  refine kp [0, 1, 5, 6, 17] ?_
  refine W_cond rfl (fun hc5 => ?_) (fun hc5 => ?_)
  · replace hp := cond_t hc5 hp
    refine s7 ?_
    replace hp := idx_bind hp; obtain ⟨u6, hy6, hp⟩ := hp
    refine L_idxA (X := a0) rfl rfl rfl el22.h (RdT.old h0) hy6 ?_
    refine L_load0 rfl rfl (RdT.at (RdT.old h0) (hy6).2) one5.h rfl ?_
    refine L_convInt rfl rfl und3.h (by rw [und5.h]; rfl) ?_
    refine s7 ?_
    refine L_convInt rfl rfl und5.h (by rw [und3.h]; rfl) ?_
    replace hp := ba hp; obtain ⟨y7, hy7, hp⟩ := hp
    have ey7 := u8P_some hy7
    try simp only [dat_u8] at ey7
    try simp only [ey7]
    refine L_buildSlice1 rfl rfl el22.h rfl (by decide) (by decide) rfl (fun bb34 => ?_)
    replace hp := ba hp; obtain ⟨y9, hy9, hp⟩ := hp
    refine L_app1F (X := v4_0) (y7 : UInt8) rfl rfl rfl el22.h rfl rfl pk mm  hy9 (by decide) (fun X8 hdX8 => ?_)
    subst hdX8
    refine s7 ?_
    exact ⟨(X8, IntKind.wrap .i64 (v4_1 + 1)), sb, (.sub ms), some_eq hp⟩
  · replace hp := cond_f hc5 hp
    refine W_exit ?_
    replace hp := map_any hp; obtain ⟨a10, hp, hx_a10⟩ := hp
    obtain rfl := hx4 _ hx_a10
    refine s5 ?_
    obtain rfl := Option.some.inj hp
    refine s1 ?_
    refine res1 rfl (ResOK.tmp rfl) ⟨v4_0, rfl, rfl, rfl⟩ ms
noncomputable def i_LogAdd (a0 : D_Log) (a1 : ByteArray) : Option (D_Log × Bool) :=
  Option.bind (i_LogOk (a0.1, a0.2.1, a0.2.2)) (fun y1 => cond (!y1) (some ((([] : List D_Seg), 0, 0), false)) (Option.bind (i_copyLog (a0.1, a0.2.1, a0.2.2)) (fun y3 => Option.bind (i_Frame a1) (fun y4 => Option.bind (idx y3.1 (IntKind.wrap .i64 ((y3.1.length : Int) - 1))) (fun y5 => jbind (cond ((decide (y5.2 = ByteArray.empty)) || (decide (IntKind.wrap .i64 ((y5.2.size : Int) + (y4.size : Int)) ≤ 60))) (Option.bind (catP y5.2 y4) (fun y8 => Option.bind (some (y3.1.set ((IntKind.wrap .i64 ((y3.1.length : Int) - 1)).toNat) (y5.1, y8))) (fun y9 => some (.inl ((y9, y3.2.1, y3.2.2)))))) (Option.bind (appP y3.1 [(a0.2.1, y4)]) (fun y12 => Option.bind (i_Log_trimmed (y12, y3.2.1, y3.2.2)) (fun y13 => some (.inl ((y13.1, y13.2.1, y13.2.2))))))) (fun s6 : (List D_Seg) × Int × Int => cond (((decide (y4 = ByteArray.empty)) || (decide (6 < (s6.1.length : Int)))) || (decide (1000 < IntKind.wrap .i64 (a0.2.1 + 1)))) (Option.bind (i_copyLog (a0.1, a0.2.1, a0.2.2)) (fun y15 => some ((y15.1, y15.2.1, y15.2.2), false))) (some ((s6.1, IntKind.wrap .i64 (a0.2.1 + 1), s6.2.2), true))))))))
theorem i_LogAdd_walk (w : World) (a0 : T_Log) (a1 : ByteArray) (h0 : GT.rd w [] a0) (r : D_Log × Bool) (hp : i_LogAdd (GT.dat a0) a1 = some r) : Spec Try.prog 29 [.agg (GT.cells a0).toArray, .string a1].toArray w [] (fun v M => ∃ (x0 : T_Log) (x1 : Bool), v = .tuple #[.agg (GT.cells x0).toArray, .bool x1] ∧ (GT.dat x0, GT.dat x1) = r ∧ M = [treeH x0]) := by
  obtain ⟨a0_1, a0_2, a0_3⟩ := a0
  change Spec _ _ ([Value.agg #[(TL.hdr a0_1), .int .i64 a0_2, .int .i64 a0_3], .string a1] : List Value).toArray w [] _
  refine Spec.intro Try.func29 rfl Try.ntmps29 rfl ?_
  unfold i_LogAdd at hp
  replace hp := dd hp
  refine s2 ?_
  refine bx fun bk2 => ?_
  refine al fun bk4 => ?_
  refine s6 ?_
  replace hp := ba hp; obtain ⟨y1, hy1, hp⟩ := hp
  refine L_callX rfl fn79.h rfl (by exact fun w hw => i_LogOk_walk w (a0_1, a0_2, a0_3) (RdT.now (RdT.pair (RdT.old h0.1) (RdT.pair RdT.int RdT.int)) hw) _ hy1) ?_
  refine s2 ?_
  refine kp [1, 2, 4, 11] ?_
  refine W_cond rfl (fun hc2 => ?_) (fun hc2 => ?_)
  · replace hp := cond_t hc2 hp
    refine s2 ?_
    refine L_build (xs := []) (cs := [(TL.hdr (TL.nil T_Seg 0)), .int .i64 0, .int .i64 0]) rfl rfl bld50.h rfl ?_
    refine s3 ?_
    obtain rfl := Option.some.inj hp
    refine W_conv (M' := treeH (TL.nil T_Seg 0) :: _) (fun w h => addNilT (τ := T_Seg) 0 h) ?_
    refine jW (((TL.nil T_Seg 0), 0, 0) : T_Log) ?_
    refine s1 ?_
    refine res2 rfl (ResOK.cell rfl mm (by exact agg50.h)) (ResOK.tmp rfl) ⟨((TL.nil T_Seg 0), 0, 0), false, rfl, rfl, rfl⟩ ms
  · replace hp := cond_f hc2 hp
    refine s4 ?_
    replace hp := ba hp; obtain ⟨y3, hy3, hp⟩ := hp
    refine L_callR rfl fn80.h rfl (by exact fun w hw => i_copyLog_walk w (a0_1, a0_2, a0_3) (RdT.now (RdT.pair (RdT.old h0.1) (RdT.pair RdT.int RdT.int)) hw) _ hy3) ?_
    rintro _ _ ⟨⟨y3x0_1, y3x0_2, y3x0_3⟩, rfl, rfl, rfl⟩
    refine sc ?_
    replace hp := dd hp
    refine xL ((y3x0_1, y3x0_2, y3x0_3) : T_Log) ?_
    refine al fun bk6 => ?_
    refine s5 ?_
    replace hp := ba hp; obtain ⟨y4, hy4, hp⟩ := hp
    refine L_callX rfl fn14.h rfl (by exact fun w hw => i_Frame_walk w a1  _ hy4) ?_
    refine s10 ?_
    replace hp := idx_bind hp; obtain ⟨⟨u5_1, u5_2⟩, hy5, hp⟩ := hp
    refine L_idxA (X := y3x0_1) rfl rfl rfl el48.h (RdT.tree mm) hy5 ?_
    refine s2 ?_
    refine W_jn (σ := (TL T_Seg) × Int × Int) GT.dat (fun ((v6_0, v6_1, v6_2) : (TL T_Seg) × Int × Int) => []) (fun ((v6_0, v6_1, v6_2) : (TL T_Seg) × Int × Int) => [blk bk6 [(TL.hdr v6_0), .int .i64 v6_1, .int .i64 v6_2] 50, treeH v6_0]) [(2, .pointer (some ⟨bk2, 0, none⟩)), (4, .pointer (some ⟨bk4, 0, none⟩)), (6, .pointer (some ⟨bk6, 0, none⟩)), (7, .string y4)] [blk bk2 [(TL.hdr a0_1), .int .i64 a0_2, .int .i64 a0_3] 50, blk bk4 [(TL.hdr (TL.nil T_Seg 0)), .int .i64 0, .int .i64 0] 50] hp ?_ ?_
    · clear hp
      intro x6 hp hx6
      refine s1 ?_
      refine W_D0 [39] mix (by kernel_rfl) rfl ?_
      refine s3 ?_
      refine D_load GC.none (OpV.t rfl) (fun hg => RdT.at (RdT.tree mm) (hy5).2) one9.h rfl ?_
      refine s5 ?_
      refine D_load (GC.some rfl rfl) (OpV.s rfl) (fun hg => RdT.at (RdT.tree mm) (hy5).2) one9.h rfl ?_
      refine D_lenT (GC.some rfl rfl) (OpV.s rfl) str9.h ?_
      refine s1 ?_
      refine D_lenT (GC.some rfl rfl) (OpV.s rfl) str9.h ?_
      refine s20 ?_
      refine s1 ?_
      refine kp [2, 4, 6, 7, 8, 39] ?_
      refine W_cond rfl (fun hc7 => ?_) (fun hc7 => ?_)
      · replace hp := cond_t hc7 hp
        refine s5 ?_
        refine L_load rfl rfl (RdT.at (RdT.tree mm) (hy5).2) one9.h rfl ?_
        refine s1 ?_
        replace hp := ba hp; obtain ⟨y8, hy8, hp⟩ := hp
        refine L_binV rfl rfl rfl (bv_saddP hy8) ?_
        refine s2 ?_
        refine L_conv (M' := treeH (u5_1, u5_2) :: holeH y3x0_1 ((IntKind.wrap .i64 (((GT.dat y3x0_1).length : Int) - 1)).toNat) (GT.cells (u5_1, u5_2)) :: _) (fun w h => hole_open hy5.2 pk h) ?_
        refine L_stH (X := y3x0_1) (i := (IntKind.wrap .i64 (((GT.dat y3x0_1).length : Int) - 1)).toNat) (sz := 2) (fo := 1) (n := 1) rfl rfl pk rfl (.inr ⟨one9.h, rfl⟩) rfl (allOne rfl) (Nat.le_of_ble_eq_true rfl) ?_
        refine L_conv (M' := treeH ((u5_1, y8) : T_Seg) :: _) (fun w h => addF ((u5_1, y8) : T_Seg) h) ?_
        replace hp := ba hp; obtain ⟨y9, hy9, hp⟩ := hp
        refine L_close (X := y3x0_1) ((u5_1, y8) : T_Seg) rfl pk pk hy9 (fun X10 hdX10 hhX10 => ?_)
        subst hdX10
        try rw [← hhX10]
        try rw [← g_of_hdr hhX10]
        try rw [← o_of_hdr hhX10]
        refine s1 ?_
        exact ⟨(X10, y3x0_2, y3x0_3), sb, (.sub ms), some_eq hp⟩
      · replace hp := cond_f hc7 hp
        refine s7 ?_
        refine L_build (xs := [(0, .tmp 52), (1, .tmp 53)]) (cs := [.int .i64 a0_2, .string y4]) rfl rfl bld113.h rfl ?_
        refine L_buildSlice1 rfl rfl el48.h rfl (by decide) (by decide) rfl (fun bb55 => ?_)
        replace hp := ba hp; obtain ⟨y12, hy12, hp⟩ := hp
        refine L_app1F (X := y3x0_1) ((a0_2, y4) : T_Seg) rfl rfl rfl el48.h rfl rfl pk mm  hy12 (by decide) (fun X11 hdX11 => ?_)
        subst hdX11
        refine s4 ?_
        replace hp := ba hp; obtain ⟨y13, hy13, hp⟩ := hp
        refine L_callM [blk bk6 _ _, treeH X11] _ rfl fn81.h rfl pc (by exact fun w hw => i_Log_trimmed_walk w bk6 (X11, y3x0_2, y3x0_3)  _ hy13) ?_
        rintro _ _ ⟨⟨y13y0_1, y13y0_2, y13y0_3⟩, rfl, rfl, rfl⟩
        refine sc ?_
        replace hp := dd hp
        refine s1 ?_
        exact ⟨(y13y0_1, y13y0_2, y13y0_3), sb, (.sub ms), some_eq hp⟩
    · clear hp
      rintro ⟨v6_0, v6_1, v6_2⟩ hp
      replace hp := dd hp
      refine kq [2, 4, 6, 7] ?_
      refine s10 ?_
      refine W_D0 [75] mix (by kernel_rfl) rfl ?_
      refine s5 ?_
      refine D_lenP (X := v6_0) (GC.some rfl rfl) (OpV.s rfl) el48.h ?_
      refine s20 ?_
      refine s2 ?_
      refine kp [2, 4, 6, 75] ?_
      refine W_cond rfl (fun hc14 => ?_) (fun hc14 => ?_)
      · replace hp := cond_t hc14 hp
        refine s3 ?_
        replace hp := ba hp; obtain ⟨y15, hy15, hp⟩ := hp
        refine L_callR rfl fn80.h rfl (by exact fun w hw => i_copyLog_walk w (a0_1, a0_2, a0_3) (RdT.now (RdT.pair (RdT.old h0.1) (RdT.pair RdT.int RdT.int)) hw) _ hy15) ?_
        rintro _ _ ⟨⟨y15x0_1, y15x0_2, y15x0_3⟩, rfl, rfl, rfl⟩
        refine sc ?_
        replace hp := dd hp
        refine xL ((y15x0_1, y15x0_2, y15x0_3) : T_Log) ?_
        refine s3 ?_
        obtain rfl := Option.some.inj hp
        refine jW ((y15x0_1, y15x0_2, y15x0_3) : T_Log) ?_
        refine s1 ?_
        refine res2 rfl (ResOK.cell rfl mm (by exact agg50.h)) (ResOK.tmp rfl) ⟨(y15x0_1, y15x0_2, y15x0_3), false, rfl, rfl, rfl⟩ ms
      · replace hp := cond_f hc14 hp
        refine s7 ?_
        obtain rfl := Option.some.inj hp
        refine jW ((v6_0, IntKind.wrap .i64 (a0_2 + 1), v6_2) : T_Log) ?_
        refine s1 ?_
        refine res2 rfl (ResOK.cell rfl mm (by exact agg50.h)) (ResOK.tmp rfl) ⟨(v6_0, IntKind.wrap .i64 (a0_2 + 1), v6_2), true, rfl, rfl, rfl⟩ ms
noncomputable def s_l6Count (a0 : ByteArray) : Option (Int × Bool) :=
  Option.bind (s_Unframe a0) (fun y1 => some ((y1.1.length : Int), decide (y1.2 = (a0.size : Int))))
theorem s_l6Count_walk (w : World) (a0 : ByteArray)  (r : Int × Bool) (hp : s_l6Count a0 = some r) : Spec Try.prog 82 [.string a0].toArray w [] (fun v M => ∃ (x0 : Int) (x1 : Bool), v = .tuple #[.int .i64 x0, .bool x1] ∧ (GT.dat x0, GT.dat x1) = r ∧ M = []) := by
  refine Spec.intro Try.func82 rfl Try.ntmps82 rfl ?_
  unfold s_l6Count at hp
  replace hp := dd hp
  refine s8 ?_
  replace hp := ba hp; obtain ⟨y1, hy1, hp⟩ := hp
  refine L_callR rfl fn12.h rfl (by exact fun w hw => s_Unframe_walk w a0  _ hy1) ?_
  rintro _ _ ⟨y1x0, y1x1, rfl, rfl, rfl⟩
  refine sc ?_
  replace hp := dd hp
  refine s17 ?_
  obtain rfl := Option.some.inj hp
  refine s1 ?_
  refine res2 rfl (ResOK.tmp rfl) (ResOK.tmp rfl) ⟨((GT.dat y1x0).length : Int), decide (y1x1 = (a0.size : Int)), rfl, rfl, rfl⟩ ms
noncomputable def s_LogOk (a0 : D_Log) : Option Bool :=
  Option.bind (s_l1In (a0.1.length : Int) 1 6) (fun y1 => gb (!(!y1)) (idx a0.1 0) (fun y2 => gb (!((!y1) || (decide (y2.1 < 1)))) (idx a0.1 0) (fun y3 => cond ((((!y1) || (decide (y2.1 < 1))) || (decide (1000 < y3.1))) || (decide (1000 < a0.2.1))) (some false) (Option.bind (idx a0.1 0) (fun y5 => whileP (fun s6 : Int × Int => cond (decide (s6.2 < (a0.1.length : Int))) (Option.bind (idx a0.1 s6.2) (fun y8 => Option.bind (s_l6Count y8.2) (fun y9 => cond (((!decide (y8.1 = s6.1)) || (!y9.2)) || ((decide (60 < (y8.2.size : Int))) && (!decide (y9.1 = 1)))) (Option.map .inr (some false)) (cond ((decide (s6.2 < IntKind.wrap .i64 ((a0.1.length : Int) - 1))) && ((decide (y9.1 = 0)) || (decide (IntKind.wrap .i64 (IntKind.wrap .i64 (s6.1 + y9.1) - 1) ≤ a0.2.2)))) (Option.map .inr (some false)) (some (.inl ((IntKind.wrap .i64 (s6.1 + y9.1), IntKind.wrap .i64 (s6.2 + 1))))))))) (Option.map .inr (gb (decide (a0.2.1 = s6.1)) (s_l1In a0.2.2 0 (IntKind.wrap .i64 (a0.2.1 - 1))) (fun y15 => some ((decide (a0.2.1 = s6.1)) && y15))))) (y5.1, 0))))))
theorem s_LogOk_walk (w : World) (a0 : T_Log) (h0 : GT.rd w [] a0) (r : Bool) (hp : s_LogOk (GT.dat a0) = some r) : Spec Try.prog 30 [.agg (GT.cells a0).toArray].toArray w [] (IsV (.bool r)) := by
  obtain ⟨a0_1, a0_2, a0_3⟩ := a0
  change Spec _ _ ([Value.agg #[(TL.hdr a0_1), .int .i64 a0_2, .int .i64 a0_3]] : List Value).toArray w [] _
  refine Spec.intro Try.func30 rfl Try.ntmps30 rfl ?_
  unfold s_LogOk at hp
  replace hp := dd hp
  refine s2 ?_
  refine bx fun bk1 => ?_
  refine s4 ?_
  replace hp := ba hp; obtain ⟨y1, hy1, hp⟩ := hp
  replace hp := idx_gb hp; obtain ⟨⟨u2_1, u2_2⟩, hy2, hp⟩ := hp
  replace hp := idx_gb hp; obtain ⟨⟨u3_1, u3_2⟩, hy3, hp⟩ := hp
  refine W_D0 [33] mix (by kernel_rfl) rfl ?_
  refine s2 ?_
  refine D_lenP (X := a0_1) GC.none (OpV.t rfl) el48.h ?_
  refine D_callX GC.none fn77.h (OpVs.cons (OpV.t rfl) (OpVs.cons OpV.c (OpVs.cons OpV.c (OpVs.nil)))) (by exact fun hg w F hF hM => s_l1In_walk w ((GT.dat a0_1).length : Int) 1 6  _ hy1) ?_
  refine s4 ?_
  refine D_idxA (X := a0_1) (GC.some rfl rfl) (OpV.s rfl) OpV.c el48.h (RdT.old h0.1) (fun hg => hy2 (gnot hg.2)) ?_
  refine s1 ?_
  refine D_load (GC.some rfl rfl) (OpV.s rfl) (fun hg => RdT.at (RdT.old h0.1) (hy2 (gnot hg.2)).2) one3.h rfl ?_
  refine s5 ?_
  refine D_idxA (X := a0_1) (GC.some rfl rfl) (OpV.s rfl) OpV.c el48.h (RdT.old h0.1) (fun hg => hy3 (gnot hg.2)) ?_
  refine s1 ?_
  refine D_load (GC.some rfl rfl) (OpV.s rfl) (fun hg => RdT.at (RdT.old h0.1) (hy3 (gnot hg.2)).2) one3.h rfl ?_
  refine s20 ?_
  refine s15 ?_
  refine kp [1, 33] ?_
  refine W_cond rfl (fun hc4 => ?_) (fun hc4 => ?_)
  · replace hp := cond_t hc4 hp
    refine s4 ?_
    obtain rfl := Option.some.inj hp
    refine s1 ?_
    refine res1 rfl (ResOK.tmp rfl) ⟨rfl, rfl⟩ ms
  · replace hp := cond_f hc4 hp
    refine s5 ?_
    replace hp := idx_bind hp; obtain ⟨⟨u5_1, u5_2⟩, hy5, hp⟩ := hp
    refine L_idxA (X := a0_1) rfl rfl rfl el48.h (RdT.old h0.1) hy5 ?_
    refine s1 ?_
    refine L_load rfl rfl (RdT.at (RdT.old h0.1) (hy5).2) one3.h rfl ?_
    refine s8 ?_
    refine W_while (σ := Int × Int) GT.dat (fun ((v6_0, v6_1) : Int × Int) => [(3, .int .i64 v6_0), (4, .int .i64 v6_1)]) (fun ((v6_0, v6_1) : Int × Int) => []) [(1, _)] [blk bk1 _ _] (u5_1, 0) hp sb ms ?_
    clear hp
    rintro ⟨v6_0, v6_1⟩ x6 hp hx6
    replace hp := dd hp
    refine kq [1, 3, 4] ?_
    refine s9 ?_
    refine kp [1, 3, 4, 43] ?_
    refine W_cond rfl (fun hc7 => ?_) (fun hc7 => ?_)
    · replace hp := cond_t hc7 hp
      refine s8 ?_
      replace hp := idx_bind hp; obtain ⟨⟨u8_1, u8_2⟩, hy8, hp⟩ := hp
      refine L_idxA (X := a0_1) rfl rfl rfl el48.h (RdT.old h0.1) hy8 ?_
      refine L_loadW rfl rfl (RdT.at (RdT.old h0.1) (hy8).2) (by exact agg113.h) ?_
      refine al fun bk5 => ?_
      refine s6 ?_
      replace hp := ba hp; obtain ⟨y9, hy9, hp⟩ := hp
      refine L_callR rfl fn82.h rfl (by exact fun w hw => s_l6Count_walk w u8_2  _ hy9) ?_
      rintro _ _ ⟨y9x0, y9x1, rfl, rfl, rfl⟩
      refine sc ?_
      replace hp := dd hp
      refine s8 ?_
      refine W_D0 [74] mix (by kernel_rfl) rfl ?_
      refine s11 ?_
      refine D_lenT (GC.some rfl rfl) (OpV.s rfl) str9.h ?_
      refine s20 ?_
      refine s6 ?_
      refine kp [1, 3, 4, 6, 74] ?_
      refine W_cond rfl (fun hc10 => ?_) (fun hc10 => ?_)
      · replace hp := cond_t hc10 hp
        refine s4 ?_
        replace hp := map_any hp; obtain ⟨a11, hp, hx_a11⟩ := hp
        obtain rfl := hx6 _ hx_a11
        obtain rfl := Option.some.inj hp
        refine s1 ?_
        refine res1 rfl (ResOK.tmp rfl) ⟨rfl, rfl⟩ ms
      · replace hp := cond_f hc10 hp
        refine s9 ?_
        refine W_D0 [94] mix (by kernel_rfl) rfl ?_
        refine s3 ?_
        refine D_lenP (X := a0_1) GC.none (OpV.t rfl) el48.h ?_
        refine s20 ?_
        refine s12 ?_
        refine kp [1, 3, 4, 94] ?_
        refine W_cond rfl (fun hc12 => ?_) (fun hc12 => ?_)
        · replace hp := cond_t hc12 hp
          refine s4 ?_
          replace hp := map_any hp; obtain ⟨a13, hp, hx_a13⟩ := hp
          obtain rfl := hx6 _ hx_a13
          obtain rfl := Option.some.inj hp
          refine s1 ?_
          refine res1 rfl (ResOK.tmp rfl) ⟨rfl, rfl⟩ ms
        · replace hp := cond_f hc12 hp
          refine s6 ?_
          exact ⟨(IntKind.wrap .i64 (v6_0 + y9x0), IntKind.wrap .i64 (v6_1 + 1)), sb, (.sub ms), some_eq hp⟩
    · replace hp := cond_f hc7 hp
      refine W_exit ?_
      replace hp := map_any hp; obtain ⟨a14, hp, hx_a14⟩ := hp
      obtain rfl := hx6 _ hx_a14
      refine s1 ?_
      replace hp := gb_any hp; obtain ⟨y15, hy15, hp⟩ := hp
      refine W_D0 [2] mix (by kernel_rfl) rfl ?_
      refine s10 ?_
      refine D_callX (GC.some rfl rfl) fn77.h (OpVs.cons (OpV.s rfl) (OpVs.cons OpV.c (OpVs.cons (OpV.s rfl) (OpVs.nil)))) (by exact fun hg w F hF hM => s_l1In_walk w a0_3 0 (IntKind.wrap .i64 (a0_2 - 1))  _ (hy15 hg.2)) ?_
      refine s17 ?_
      obtain rfl := Option.some.inj hp
      refine s1 ?_
      refine res1 rfl (ResOK.tmp rfl) ⟨rfl, rfl⟩ ms
noncomputable def i_LogRead (a0 : D_Log) : Option (List ByteArray) :=
  Option.bind (i_LogOk (a0.1, a0.2.1, a0.2.2)) (fun y1 => cond (!y1) (some ([] : List ByteArray)) (Option.bind (some ([] : List ByteArray)) (fun y4 => whileP (fun s5 : (List ByteArray) × Int => cond (decide (s5.2 < (a0.1.length : Int))) (Option.bind (idx a0.1 s5.2) (fun y7 => Option.bind (i_Unframe y7.2) (fun y8 => whileP (fun s9 : (List ByteArray) × Int => cond (decide (s9.2 < (y8.1.length : Int))) (Option.bind (idx y8.1 s9.2) (fun y11 => cond (decide (a0.2.2 < IntKind.wrap .i64 (y7.1 + s9.2))) (Option.bind (appP s9.1 [y11]) (fun y14 => some (.inl ((y14, IntKind.wrap .i64 (s9.2 + 1)))))) (some (.inl ((s9.1, IntKind.wrap .i64 (s9.2 + 1))))))) (Option.map .inr (some (.inl ((s9.1, IntKind.wrap .i64 (s5.2 + 1))))))) (s5.1, 0)))) (Option.map .inr (some s5.1))) (y4, 0))))
theorem i_LogRead_walk (w : World) (a0 : T_Log) (h0 : GT.rd w [] a0) (r : (List ByteArray)) (hp : i_LogRead (GT.dat a0) = some r) : Spec Try.prog 31 [.agg (GT.cells a0).toArray].toArray w [] (fun v M => ∃ (x0 : TL ByteArray), v = (TL.hdr x0) ∧ GT.dat x0 = r ∧ M = [treeH x0]) := by
  obtain ⟨a0_1, a0_2, a0_3⟩ := a0
  change Spec _ _ ([Value.agg #[(TL.hdr a0_1), .int .i64 a0_2, .int .i64 a0_3]] : List Value).toArray w [] _
  refine Spec.intro Try.func31 rfl Try.ntmps31 rfl ?_
  unfold i_LogRead at hp
  replace hp := dd hp
  refine s2 ?_
  refine bx fun bk1 => ?_
  refine L_assign (v := (TL.hdr (TL.nil ByteArray 0))) rfl rfl ?_
  refine s5 ?_
  replace hp := ba hp; obtain ⟨y1, hy1, hp⟩ := hp
  refine L_callX rfl fn79.h rfl (by exact fun w hw => i_LogOk_walk w (a0_1, a0_2, a0_3) (RdT.now (RdT.pair (RdT.old h0.1) (RdT.pair RdT.int RdT.int)) hw) _ hy1) ?_
  refine s2 ?_
  refine kp [1, 12] ?_
  refine W_cond rfl (fun hc2 => ?_) (fun hc2 => ?_)
  · replace hp := cond_t hc2 hp
    refine s2 ?_
    refine L_assign (v := (TL.hdr (TL.nil ByteArray 0))) rfl rfl ?_
    refine s1 ?_
    obtain rfl := Option.some.inj hp
    refine W_conv (M' := treeH (TL.nil ByteArray 0) :: _) (fun w h => addNilT (τ := ByteArray) 0 h) ?_
    refine s1 ?_
    refine res1 rfl (ResOK.tmp rfl) ⟨(TL.nil ByteArray 0), rfl, rfl, rfl⟩ ms
  · replace hp := cond_f hc2 hp
    refine s3 ?_
    replace hp := ba hp; obtain ⟨y4, hy4, hp⟩ := hp
    refine L_mk0 ByteArray rfl el25.h (fun X3 hdX3 => ?_)
    obtain rfl : GT.dat X3 = y4 := hdX3.trans (Option.some.inj hy4)
    clear hy4 hdX3
    refine s11 ?_
    refine W_while (σ := (TL ByteArray) × Int) GT.dat (fun ((v5_0, v5_1) : (TL ByteArray) × Int) => [(3, (TL.hdr v5_0)), (17, .int .i64 v5_1)]) (fun ((v5_0, v5_1) : (TL ByteArray) × Int) => [treeH v5_0]) [(1, _), (15, _), (16, _)] [blk bk1 _ _] (X3, 0) hp sb ms ?_
    clear hp
    rintro ⟨v5_0, v5_1⟩ x5 hp hx5
    replace hp := dd hp
    refine kq [1, 3, 15, 16, 17] ?_
    refine s5 ?_
    refine kp [1, 3, 15, 16, 17, 18] ?_
    refine W_cond rfl (fun hc6 => ?_) (fun hc6 => ?_)
    · replace hp := cond_t hc6 hp
      refine s5 ?_
      replace hp := idx_bind hp; obtain ⟨⟨u7_1, u7_2⟩, hy7, hp⟩ := hp
      refine L_idxA (X := a0_1) rfl rfl rfl el48.h (RdT.old h0.1) hy7 ?_
      refine L_loadW rfl rfl (RdT.at (RdT.old h0.1) (hy7).2) (by exact agg113.h) ?_
      refine al fun bk5 => ?_
      refine s6 ?_
      replace hp := ba hp; obtain ⟨y8, hy8, hp⟩ := hp
      refine L_callR rfl fn11.h rfl (by exact fun w hw => i_Unframe_walk w u7_2  _ hy8) ?_
      rintro _ _ ⟨y8x0, y8x1, rfl, rfl, rfl⟩
      refine sc ?_
      replace hp := dd hp
      refine s13 ?_
      refine W_while (σ := (TL ByteArray) × Int) GT.dat (fun ((v9_0, v9_1) : (TL ByteArray) × Int) => [(3, (TL.hdr v9_0)), (29, .int .i64 v9_1)]) (fun ((v9_0, v9_1) : (TL ByteArray) × Int) => [treeH v9_0]) [(1, _), (5, _), (15, _), (16, _), (17, _), (27, _), (28, _)] [blk bk1 _ _, blk bk5 _ _, treeH y8x0] (v5_0, 0) hp sb ms ?_
      clear hp
      rintro ⟨v9_0, v9_1⟩ x9 hp hx9
      replace hp := dd hp
      refine kq [1, 3, 5, 15, 16, 17, 27, 28, 29] ?_
      refine s5 ?_
      refine kp [1, 3, 5, 15, 16, 17, 27, 28, 29, 30] ?_
      refine W_cond rfl (fun hc10 => ?_) (fun hc10 => ?_)
      · replace hp := cond_t hc10 hp
        refine s6 ?_
        replace hp := idx_bind hp; obtain ⟨u11, hy11, hp⟩ := hp
        refine L_idxA (X := y8x0) rfl rfl rfl el25.h (RdT.tree mm) hy11 ?_
        refine L_load0 rfl rfl (RdT.at (RdT.tree mm) (hy11).2) one9.h rfl ?_
        refine s13 ?_
        refine kp [1, 3, 5, 9, 15, 16, 17, 27, 28, 29, 40] ?_
        refine W_cond rfl (fun hc12 => ?_) (fun hc12 => ?_)
        · replace hp := cond_t hc12 hp
          refine s3 ?_
          refine L_buildSlice1 rfl rfl el25.h rfl (by decide) (by decide) rfl (fun bb43 => ?_)
          replace hp := ba hp; obtain ⟨y14, hy14, hp⟩ := hp
          refine L_app1F (X := v9_0) (u11 : ByteArray) rfl rfl rfl el25.h rfl rfl pk mm  hy14 (by decide) (fun X13 hdX13 => ?_)
          subst hdX13
          refine s6 ?_
          exact ⟨(X13, IntKind.wrap .i64 (v9_1 + 1)), sb, (.sub ms), some_eq hp⟩
        · replace hp := cond_f hc12 hp
          refine s5 ?_
          exact ⟨(v9_0, IntKind.wrap .i64 (v9_1 + 1)), sb, (.sub ms), some_eq hp⟩
      · replace hp := cond_f hc10 hp
        refine W_exit ?_
        replace hp := map_any hp; obtain ⟨a15, hp, hx_a15⟩ := hp
        obtain rfl := hx9 _ hx_a15
        refine s4 ?_
        exact ⟨(v9_0, IntKind.wrap .i64 (v5_1 + 1)), sb, (.sub ms), some_eq hp⟩
    · replace hp := cond_f hc6 hp
      refine W_exit ?_
      replace hp := map_any hp; obtain ⟨a16, hp, hx_a16⟩ := hp
      obtain rfl := hx5 _ hx_a16
      refine s5 ?_
      obtain rfl := Option.some.inj hp
      refine s1 ?_
      refine res1 rfl (ResOK.tmp rfl) ⟨v5_0, rfl, rfl, rfl⟩ ms
noncomputable def i_Seg_records (a0 : D_Seg) : Option Int :=
  Option.bind (i_Unframe a0.2) (fun y1 => some (y1.1.length : Int))
theorem i_Seg_records_walk (w : World) (a0 : T_Seg) (h0 : GT.rd w [] a0) (r : Int) (hp : i_Seg_records (GT.dat a0) = some r) : Spec Try.prog 83 [.agg (GT.cells a0).toArray].toArray w [] (IsV (.int .i64 r)) := by
  obtain ⟨a0_1, a0_2⟩ := a0
  change Spec _ _ ([Value.agg #[.int .i64 a0_1, .string a0_2]] : List Value).toArray w [] _
  refine Spec.intro Try.func83 rfl Try.ntmps83 rfl ?_
  unfold i_Seg_records at hp
  replace hp := dd hp
  refine s2 ?_
  refine bx fun bk1 => ?_
  refine s6 ?_
  replace hp := ba hp; obtain ⟨y1, hy1, hp⟩ := hp
  refine L_callR rfl fn11.h rfl (by exact fun w hw => i_Unframe_walk w a0_2  _ hy1) ?_
  rintro _ _ ⟨y1x0, y1x1, rfl, rfl, rfl⟩
  refine sc ?_
  replace hp := dd hp
  refine s12 ?_
  obtain rfl := Option.some.inj hp
  refine s1 ?_
  refine res1 rfl (ResOK.tmp rfl) ⟨rfl, rfl⟩ ms
noncomputable def i_LogCut (a0 : D_Log) (a1 : Int) : Option (D_Log × Bool) :=
  Option.bind (i_LogOk (a0.1, a0.2.1, a0.2.2)) (fun y1 => cond (!y1) (some ((([] : List D_Seg), 0, 0), false)) (Option.bind (i_copyLog (a0.1, a0.2.1, a0.2.2)) (fun y3 => Option.bind (idx y3.1 (IntKind.wrap .i64 ((y3.1.length : Int) - 1))) (fun y4 => Option.bind (sslP y4.2 0 (if (y4.2.size : Int) < (if 0 > a1 then 0 else a1) then (y4.2.size : Int) else (if 0 > a1 then 0 else a1))) (fun y5 => Option.bind (i_Unframe y5) (fun y6 => Option.bind (sslP y4.2 0 y6.2) (fun y7 => Option.bind (some (y3.1.set ((IntKind.wrap .i64 ((y3.1.length : Int) - 1)).toNat) (y4.1, y7))) (fun y8 => Option.bind (idx y8 (IntKind.wrap .i64 ((y3.1.length : Int) - 1))) (fun y10 => Option.bind (idx y8 (IntKind.wrap .i64 ((y3.1.length : Int) - 1))) (fun y11 => Option.bind (i_Seg_records (y11.1, y11.2)) (fun y12 => some ((y8, IntKind.wrap .i64 (y10.1 + y12), (if IntKind.wrap .i64 (IntKind.wrap .i64 (y10.1 + y12) - 1) < y3.2.2 then IntKind.wrap .i64 (IntKind.wrap .i64 (y10.1 + y12) - 1) else y3.2.2)), true))))))))))))
theorem i_LogCut_walk (w : World) (a0 : T_Log) (a1 : Int) (h0 : GT.rd w [] a0) (r : D_Log × Bool) (hp : i_LogCut (GT.dat a0) a1 = some r) : Spec Try.prog 32 [.agg (GT.cells a0).toArray, .int .i64 a1].toArray w [] (fun v M => ∃ (x0 : T_Log) (x1 : Bool), v = .tuple #[.agg (GT.cells x0).toArray, .bool x1] ∧ (GT.dat x0, GT.dat x1) = r ∧ M = [treeH x0]) := by
  obtain ⟨a0_1, a0_2, a0_3⟩ := a0
  change Spec _ _ ([Value.agg #[(TL.hdr a0_1), .int .i64 a0_2, .int .i64 a0_3], .int .i64 a1] : List Value).toArray w [] _
  refine Spec.intro Try.func32 rfl Try.ntmps32 rfl ?_
  unfold i_LogCut at hp
  replace hp := dd hp
  refine s2 ?_
  refine bx fun bk2 => ?_
  refine al fun bk4 => ?_
  refine s6 ?_
  replace hp := ba hp; obtain ⟨y1, hy1, hp⟩ := hp
  refine L_callX rfl fn79.h rfl (by exact fun w hw => i_LogOk_walk w (a0_1, a0_2, a0_3) (RdT.now (RdT.pair (RdT.old h0.1) (RdT.pair RdT.int RdT.int)) hw) _ hy1) ?_
  refine s2 ?_
  refine kp [1, 2, 4, 12] ?_
  refine W_cond rfl (fun hc2 => ?_) (fun hc2 => ?_)
  · replace hp := cond_t hc2 hp
    refine s2 ?_
    refine L_build (xs := []) (cs := [(TL.hdr (TL.nil T_Seg 0)), .int .i64 0, .int .i64 0]) rfl rfl bld50.h rfl ?_
    refine s3 ?_
    obtain rfl := Option.some.inj hp
    refine W_conv (M' := treeH (TL.nil T_Seg 0) :: _) (fun w h => addNilT (τ := T_Seg) 0 h) ?_
    refine jW (((TL.nil T_Seg 0), 0, 0) : T_Log) ?_
    refine s1 ?_
    refine res2 rfl (ResOK.cell rfl mm (by exact agg50.h)) (ResOK.tmp rfl) ⟨((TL.nil T_Seg 0), 0, 0), false, rfl, rfl, rfl⟩ ms
  · replace hp := cond_f hc2 hp
    refine s4 ?_
    replace hp := ba hp; obtain ⟨y3, hy3, hp⟩ := hp
    refine L_callR rfl fn80.h rfl (by exact fun w hw => i_copyLog_walk w (a0_1, a0_2, a0_3) (RdT.now (RdT.pair (RdT.old h0.1) (RdT.pair RdT.int RdT.int)) hw) _ hy3) ?_
    rintro _ _ ⟨⟨y3x0_1, y3x0_2, y3x0_3⟩, rfl, rfl, rfl⟩
    refine sc ?_
    replace hp := dd hp
    refine xL ((y3x0_1, y3x0_2, y3x0_3) : T_Log) ?_
    refine al fun bk6 => ?_
    refine s10 ?_
    replace hp := idx_bind hp; obtain ⟨⟨u4_1, u4_2⟩, hy4, hp⟩ := hp
    refine L_idxA (X := y3x0_1) rfl rfl rfl el48.h (RdT.tree mm) hy4 ?_
    refine s3 ?_
    refine W_AH [] mix ?_
    refine AH_take 0 rfl (PU_move rfl rfl) (by kernel_rfl) (by kernel_rfl) (by kernel_rfl) trivial ?_
    refine AH_take 1 rfl (PU_nilCheck rfl rfl) (by kernel_rfl) (by kernel_rfl) (by kernel_rfl) trivial ?_
    refine AH_take 2 rfl (PU_fieldAddr rfl rfl fld113_1.h) (by kernel_rfl) (by kernel_rfl) (by kernel_rfl) trivial ?_
    refine AH_A [treeH y3x0_1] trivial ?_
    refine AH_take 3 rfl (PU_load rfl rfl (RdT.at (RdT.tree mm) (hy4).2) one9.h rfl) (by kernel_rfl) (by kernel_rfl) (by kernel_rfl) ⟨mm, trivial⟩ ?_
    refine AH_take 4 rfl (PU_move rfl rfl) (by kernel_rfl) (by kernel_rfl) (by kernel_rfl) ⟨mm, trivial⟩ ?_
    refine AH_take 5 rfl (PU_max rfl rfl rfl) (by kernel_rfl) (by kernel_rfl) (by kernel_rfl) ⟨mm, trivial⟩ ?_
    refine AH_take 6 rfl (PU_move rfl rfl) (by kernel_rfl) (by kernel_rfl) (by kernel_rfl) ⟨mm, trivial⟩ ?_
    refine AH_take 7 rfl (PU_nilCheck rfl rfl) (by kernel_rfl) (by kernel_rfl) (by kernel_rfl) ⟨mm, trivial⟩ ?_
    refine AH_take 8 rfl (PU_fieldAddr rfl rfl fld113_1.h) (by kernel_rfl) (by kernel_rfl) (by kernel_rfl) ⟨mm, trivial⟩ ?_
    refine AH_take 9 rfl (PU_load rfl rfl (RdT.at (RdT.tree mm) (hy4).2) one9.h rfl) (by kernel_rfl) (by kernel_rfl) (by kernel_rfl) ⟨mm, trivial⟩ ?_
    refine AH_take 10 rfl (PU_lenT rfl rfl str9.h) (by kernel_rfl) (by kernel_rfl) (by kernel_rfl) ⟨mm, trivial⟩ ?_
    refine AH_take 11 rfl (PU_min rfl rfl rfl) (by kernel_rfl) (by kernel_rfl) (by kernel_rfl) ⟨mm, trivial⟩ ?_
    replace hp := ba hp; obtain ⟨y5, hy5, hp⟩ := hp
    refine AH_take 12 rfl (PU_ssl rfl rfl rfl rfl str9.h hy5) (by kernel_rfl) (by kernel_rfl) (by kernel_rfl) ⟨mm, trivial⟩ ?_
    refine AH_one 13 rfl rfl (by kernel_rfl) ?_
    replace hp := ba hp; obtain ⟨y6, hy6, hp⟩ := hp
    refine L_callR rfl fn11.h rfl (by exact fun w hw => i_Unframe_walk w y5  _ hy6) ?_
    rintro _ _ ⟨y6x0, y6x1, rfl, rfl, rfl⟩
    refine sc ?_
    replace hp := dd hp
    refine L_nil ⟨⟨mm, trivial⟩, ?_⟩
    refine AH_take 14 rfl (PU_move rfl rfl) (by kernel_rfl) (by kernel_rfl) (by kernel_rfl) ⟨mm, trivial⟩ ?_
    refine AH_take 15 rfl (PU_extract rfl rfl rfl) (by kernel_rfl) (by kernel_rfl) (by kernel_rfl) ⟨mm, trivial⟩ ?_
    refine AH_take 16 rfl (PU_extract rfl rfl rfl) (by kernel_rfl) (by kernel_rfl) (by kernel_rfl) ⟨mm, trivial⟩ ?_
    refine AH_one 17 rfl rfl (by kernel_rfl) ?_
    refine s1 ?_
    refine L_nil ⟨⟨mm, trivial⟩, ?_⟩
    refine AH_one 18 rfl rfl (by kernel_rfl) ?_
    refine s1 ?_
    refine L_nil ⟨⟨mm, trivial⟩, ?_⟩
    refine AH_done (by kernel_rfl) ?_
    refine s6 ?_
    refine L_load rfl rfl (RdT.at (RdT.tree mm) (hy4).2) one9.h rfl ?_
    refine s1 ?_
    replace hp := ba hp; obtain ⟨y7, hy7, hp⟩ := hp
    refine L_ssl rfl rfl rfl rfl str9.h hy7 ?_
    refine s2 ?_
    refine L_conv (M' := treeH (u4_1, u4_2) :: holeH y3x0_1 ((IntKind.wrap .i64 (((GT.dat y3x0_1).length : Int) - 1)).toNat) (GT.cells (u4_1, u4_2)) :: _) (fun w h => hole_open hy4.2 pk h) ?_
    refine L_stH (X := y3x0_1) (i := (IntKind.wrap .i64 (((GT.dat y3x0_1).length : Int) - 1)).toNat) (sz := 2) (fo := 1) (n := 1) rfl rfl pk rfl (.inr ⟨one9.h, rfl⟩) rfl (allOne rfl) (Nat.le_of_ble_eq_true rfl) ?_
    refine L_conv (M' := treeH ((u4_1, y7) : T_Seg) :: _) (fun w h => addF ((u4_1, y7) : T_Seg) h) ?_
    replace hp := ba hp; obtain ⟨y8, hy8, hp⟩ := hp
    refine L_close (X := y3x0_1) ((u4_1, y7) : T_Seg) rfl pk pk hy8 (fun X9 hdX9 hhX9 => ?_)
    subst hdX9
    try rw [← hhX9]
    try rw [← g_of_hdr hhX9]
    try rw [← o_of_hdr hhX9]
    refine s2 ?_
    replace hp := idx_bind hp; obtain ⟨⟨u10_1, u10_2⟩, hy10, hp⟩ := hp
    replace hp := idx_bind hp; obtain ⟨u11, hy11, hp⟩ := hp
    obtain rfl : (u10_1, u10_2) = u11 := Option.some.inj (hy10.2.symm.trans hy11.2)
    replace hp := ba hp; obtain ⟨y12, hy12, hp⟩ := hp
    refine W_DS (pre := [_, _, _, _, _, _, _, _]) (suf := [_, _, _]) [52, 56] [] _ pc mix (by kernel_rfl) (by kernel_rfl) rfl ?_
    refine s3 ?_
    refine D_load GC.none (OpV.t rfl) (fun hg => RdT.at (RdT.tree mm) (hy10).2) one3.h rfl ?_
    refine s2 ?_
    refine D_loadW GC.none (OpV.t rfl) (fun hg => RdT.at (RdT.tree mm) (hy10).2) (by exact agg113.h) ?_
    refine D_callX GC.none fn83.h (OpVs.cons (OpV.t rfl) (OpVs.nil)) (by exact fun hg w F hF hM => i_Seg_records_walk w (u10_1, u10_2) (RdT.nowS (RdT.pair RdT.int RdT.str) hF hM) _ hy12) ?_
    refine s20 ?_
    refine s1 ?_
    refine L_min rfl rfl rfl ?_
    refine s9 ?_
    obtain rfl := Option.some.inj hp
    refine jW ((X9, IntKind.wrap .i64 (u10_1 + y12), (if IntKind.wrap .i64 (IntKind.wrap .i64 (u10_1 + y12) - 1) < y3x0_3 then IntKind.wrap .i64 (IntKind.wrap .i64 (u10_1 + y12) - 1) else y3x0_3)) : T_Log) ?_
    refine s1 ?_
    refine res2 rfl (ResOK.cell rfl mm (by exact agg50.h)) (ResOK.tmp rfl) ⟨(X9, IntKind.wrap .i64 (u10_1 + y12), (if IntKind.wrap .i64 (IntKind.wrap .i64 (u10_1 + y12) - 1) < y3x0_3 then IntKind.wrap .i64 (IntKind.wrap .i64 (u10_1 + y12) - 1) else y3x0_3)), true, rfl, rfl, rfl⟩ ms
noncomputable def s_LogNew  : Option D_Log :=
  Option.bind (some ([(1, ByteArray.empty)] : List D_Seg)) (fun y1 => some (y1, 1, 0))
theorem s_LogNew_walk (w : World)   (r : D_Log) (hp : s_LogNew  = some r) : Spec Try.prog 133 [].toArray w [] (fun v M => ∃ (x0 : T_Log), v = .agg (GT.cells x0).toArray ∧ GT.dat x0 = r ∧ M = [treeH x0]) := by
  refine Spec.intro Try.func133 rfl Try.ntmps133 rfl ?_
  unfold s_LogNew at hp
  replace hp := dd hp
  refine s2 ?_
  refine al fun bk0 => ?_
  refine s3 ?_
  refine L_build (xs := [(0, .const (.int .i64 1))]) (cs := [.int .i64 1, .string ByteArray.empty]) rfl rfl bld113.h rfl ?_
  replace hp := ba hp; obtain ⟨y1, hy1, hp⟩ := hp
  refine L_bsN ([(1, ByteArray.empty)] : List T_Seg) (xs := [(0, .tmp 1)]) rfl rfl el48.h rfl rfl rfl rfl rfl rfl rfl hy1 (fun X2 hdX2 => ?_)
  subst hdX2
  refine L_build (xs := [(0, .tmp 2), (1, .const (.int .i64 1))]) (cs := [(TL.hdr X2), .int .i64 1, .int .i64 0]) rfl rfl bld50.h rfl ?_
  refine s2 ?_
  obtain rfl := Option.some.inj hp
  refine jW ((X2, 1, 0) : T_Log) ?_
  refine s1 ?_
  refine res1 rfl (ResOK.cell rfl mm (by exact agg50.h)) ⟨(X2, 1, 0), rfl, rfl, rfl⟩ ms
noncomputable def s_l6Copy (a0 : D_Log) : Option D_Log :=
  Option.bind (some ([] : List D_Seg)) (fun y2 => Option.bind (appP y2 a0.1) (fun y4 => some (y4, a0.2.1, a0.2.2)))
theorem s_l6Copy_walk (w : World) (a0 : T_Log) (h0 : GT.rd w [] a0) (r : D_Log) (hp : s_l6Copy (GT.dat a0) = some r) : Spec Try.prog 85 [.agg (GT.cells a0).toArray].toArray w [] (fun v M => ∃ (x0 : T_Log), v = .agg (GT.cells x0).toArray ∧ GT.dat x0 = r ∧ M = [treeH x0]) := by
  obtain ⟨a0_1, a0_2, a0_3⟩ := a0
  change Spec _ _ ([Value.agg #[(TL.hdr a0_1), .int .i64 a0_2, .int .i64 a0_3]] : List Value).toArray w [] _
  refine Spec.intro Try.func85 rfl Try.ntmps85 rfl ?_
  unfold s_l6Copy at hp
  replace hp := dd hp
  refine s2 ?_
  refine bx fun bk1 => ?_
  refine al fun bk2 => ?_
  refine s3 ?_
  replace hp := ba hp; obtain ⟨y2, hy2, hp⟩ := hp
  refine L_mk0 T_Seg rfl el48.h (fun X1 hdX1 => ?_)
  obtain rfl : GT.dat X1 = y2 := hdX1.trans (Option.some.inj hy2)
  clear hy2 hdX1
  refine s2 ?_
  replace hp := ba hp; obtain ⟨y4, hy4, hp⟩ := hp
  refine L_appT (X := X1) (Y := a0_1) rfl rfl rfl el48.h rfl rfl pk (RdT.old h0.1) hy4 (by decide) (fun X3 hdX3 => ?_)
  subst hdX3
  refine s8 ?_
  obtain rfl := Option.some.inj hp
  refine jW ((X3, a0_2, a0_3) : T_Log) ?_
  refine s1 ?_
  refine res1 rfl (ResOK.cell rfl mm (by exact agg50.h)) ⟨(X3, a0_2, a0_3), rfl, rfl, rfl⟩ ms
noncomputable def s_l6Trim (a0 : D_Log) : Option D_Log :=
  whileP (fun s1 : (List D_Seg) => gb (decide (1 < (s1.length : Int))) (idx s1 1) (fun y2 => cond ((decide (1 < (s1.length : Int))) && (decide (IntKind.wrap .i64 (y2.1 - 1) ≤ a0.2.2))) (Option.bind (some ([] : List D_Seg)) (fun y5 => Option.bind (slcP s1 1 (s1.length : Int)) (fun y6 => Option.bind (appP y5 y6) (fun y9 => some (.inl (y9)))))) (Option.map .inr (some (s1, a0.2.1, a0.2.2))))) a0.1
theorem s_l6Trim_walk (w : World) (a0 : T_Log)  (r : D_Log) (hp : s_l6Trim (GT.dat a0) = some r) : Spec Try.prog 86 [.agg (GT.cells a0).toArray].toArray w [treeH a0.1] (fun v M => ∃ (x0 : T_Log), v = .agg (GT.cells x0).toArray ∧ GT.dat x0 = r ∧ M = [treeH x0]) := by
  obtain ⟨a0_1, a0_2, a0_3⟩ := a0
  change Spec _ _ ([Value.agg #[(TL.hdr a0_1), .int .i64 a0_2, .int .i64 a0_3]] : List Value).toArray w _ _
  refine Spec.intro Try.func86 rfl Try.ntmps86 rfl ?_
  unfold s_l6Trim at hp
  replace hp := dd hp
  refine s2 ?_
  refine bx fun bk1 => ?_
  refine al fun bk2 => ?_
  refine s3 ?_
  refine W_while (σ := (TL T_Seg)) GT.dat (fun (v1_0 : (TL T_Seg)) => []) (fun (v1_0 : (TL T_Seg)) => [blk bk1 [(TL.hdr v1_0), .int .i64 a0_2, .int .i64 a0_3] 50, treeH v1_0]) [(1, _), (2, _)] [blk bk2 _ _] a0_1 hp sb ms ?_
  clear hp
  rintro v1_0 x1 hp hx1
  replace hp := dd hp
  refine kq [1, 2] ?_
  refine s2 ?_
  replace hp := idx_gb hp; obtain ⟨⟨u2_1, u2_2⟩, hy2, hp⟩ := hp
  refine W_D0 [17] mix (by kernel_rfl) rfl ?_
  refine s2 ?_
  refine D_lenP (X := v1_0) GC.none (OpV.t rfl) el48.h ?_
  refine s4 ?_
  refine D_idxA (X := v1_0) (GC.some rfl rfl) (OpV.s rfl) OpV.c el48.h (RdT.tree mm) (fun hg => hy2 hg.2) ?_
  refine s1 ?_
  refine D_load (GC.some rfl rfl) (OpV.s rfl) (fun hg => RdT.at (RdT.tree mm) (hy2 hg.2).2) one3.h rfl ?_
  refine s20 ?_
  refine s2 ?_
  refine kp [1, 2, 17] ?_
  refine W_cond rfl (fun hc3 => ?_) (fun hc3 => ?_)
  · replace hp := cond_t hc3 hp
    refine s3 ?_
    replace hp := ba hp; obtain ⟨y5, hy5, hp⟩ := hp
    refine L_mk0 T_Seg rfl el48.h (fun X4 hdX4 => ?_)
    obtain rfl : GT.dat X4 = y5 := hdX4.trans (Option.some.inj hy5)
    clear hy5 hdX4
    refine s2 ?_
    replace hp := ba hp; obtain ⟨y6, hy6, hp⟩ := hp
    refine L_slcE (X := v1_0) rfl rfl rfl rfl el48.h rfl (RdT.tree mm) hy6 (fun X7 hdX7 heX7 => ?_)
    have hsX7 := hy6
    subst hdX7
    replace hp := ba hp; obtain ⟨y9, hy9, hp⟩ := hp
    refine L_appT (X := X4) (Y := X7) rfl rfl rfl el48.h rfl rfl pk (RdT.map (slcE_rd heX7 hsX7) (RdT.tree mm)) hy9 (by decide) (fun X8 hdX8 => ?_)
    subst hdX8
    refine s3 ?_
    exact ⟨X8, sb, (.sub ms), some_eq hp⟩
  · replace hp := cond_f hc3 hp
    refine W_exit ?_
    replace hp := map_any hp; obtain ⟨a10, hp, hx_a10⟩ := hp
    obtain rfl := hx1 _ hx_a10
    refine s5 ?_
    obtain rfl := Option.some.inj hp
    refine jW ((v1_0, a0_2, a0_3) : T_Log) ?_
    refine s1 ?_
    refine res1 rfl (ResOK.cell rfl mm (by exact agg50.h)) ⟨(v1_0, a0_2, a0_3), rfl, rfl, rfl⟩ ms
noncomputable def s_LogMark (a0 : D_Log) (a1 : Int) : Option (D_Log × Bool) :=
  Option.bind (s_LogOk (a0.1, a0.2.1, a0.2.2)) (fun y1 => cond (!y1) (some ((([] : List D_Seg), 0, 0), false)) (Option.bind (s_l6Copy (a0.1, a0.2.1, a0.2.2)) (fun y3 => cond ((decide (a1 < a0.2.2)) || (decide (a0.2.1 ≤ a1))) (some ((y3.1, y3.2.1, y3.2.2), false)) (Option.bind (s_l6Trim (y3.1, y3.2.1, a1)) (fun y5 => some ((y5.1, y5.2.1, y5.2.2), true))))))
theorem s_LogMark_walk (w : World) (a0 : T_Log) (a1 : Int) (h0 : GT.rd w [] a0) (r : D_Log × Bool) (hp : s_LogMark (GT.dat a0) a1 = some r) : Spec Try.prog 34 [.agg (GT.cells a0).toArray, .int .i64 a1].toArray w [] (fun v M => ∃ (x0 : T_Log) (x1 : Bool), v = .tuple #[.agg (GT.cells x0).toArray, .bool x1] ∧ (GT.dat x0, GT.dat x1) = r ∧ M = [treeH x0]) := by
  obtain ⟨a0_1, a0_2, a0_3⟩ := a0
  change Spec _ _ ([Value.agg #[(TL.hdr a0_1), .int .i64 a0_2, .int .i64 a0_3], .int .i64 a1] : List Value).toArray w [] _
  refine Spec.intro Try.func34 rfl Try.ntmps34 rfl ?_
  unfold s_LogMark at hp
  replace hp := dd hp
  refine s2 ?_
  refine bx fun bk2 => ?_
  refine al fun bk4 => ?_
  refine s6 ?_
  replace hp := ba hp; obtain ⟨y1, hy1, hp⟩ := hp
  refine L_callX rfl fn30.h rfl (by exact fun w hw => s_LogOk_walk w (a0_1, a0_2, a0_3) (RdT.now (RdT.pair (RdT.old h0.1) (RdT.pair RdT.int RdT.int)) hw) _ hy1) ?_
  refine s2 ?_
  refine kp [1, 2, 4, 9] ?_
  refine W_cond rfl (fun hc2 => ?_) (fun hc2 => ?_)
  · replace hp := cond_t hc2 hp
    refine s2 ?_
    refine L_build (xs := []) (cs := [(TL.hdr (TL.nil T_Seg 0)), .int .i64 0, .int .i64 0]) rfl rfl bld50.h rfl ?_
    refine s3 ?_
    obtain rfl := Option.some.inj hp
    refine W_conv (M' := treeH (TL.nil T_Seg 0) :: _) (fun w h => addNilT (τ := T_Seg) 0 h) ?_
    refine jW (((TL.nil T_Seg 0), 0, 0) : T_Log) ?_
    refine s1 ?_
    refine res2 rfl (ResOK.cell rfl mm (by exact agg50.h)) (ResOK.tmp rfl) ⟨((TL.nil T_Seg 0), 0, 0), false, rfl, rfl, rfl⟩ ms
  · replace hp := cond_f hc2 hp
    refine s4 ?_
    replace hp := ba hp; obtain ⟨y3, hy3, hp⟩ := hp
    refine L_callR rfl fn85.h rfl (by exact fun w hw => s_l6Copy_walk w (a0_1, a0_2, a0_3) (RdT.now (RdT.pair (RdT.old h0.1) (RdT.pair RdT.int RdT.int)) hw) _ hy3) ?_
    rintro _ _ ⟨⟨y3x0_1, y3x0_2, y3x0_3⟩, rfl, rfl, rfl⟩
    refine sc ?_
    replace hp := dd hp
    refine xL ((y3x0_1, y3x0_2, y3x0_3) : T_Log) ?_
    refine al fun bk6 => ?_
    refine s4 ?_
    refine W_D0 [22] mix (by kernel_rfl) rfl ?_
    refine s20 ?_
    refine s2 ?_
    refine kp [1, 4, 6, 22] ?_
    refine W_cond rfl (fun hc4 => ?_) (fun hc4 => ?_)
    · replace hp := cond_t hc4 hp
      refine s6 ?_
      obtain rfl := Option.some.inj hp
      refine jW ((y3x0_1, y3x0_2, y3x0_3) : T_Log) ?_
      refine s1 ?_
      refine res2 rfl (ResOK.cell rfl mm (by exact agg50.h)) (ResOK.tmp rfl) ⟨(y3x0_1, y3x0_2, y3x0_3), false, rfl, rfl, rfl⟩ ms
    · replace hp := cond_f hc4 hp
      refine s10 ?_
      replace hp := ba hp; obtain ⟨y5, hy5, hp⟩ := hp
      refine L_callM [treeH y3x0_1] _ rfl fn86.h rfl pc (by exact fun w hw => s_l6Trim_walk w (y3x0_1, y3x0_2, a1)  _ hy5) ?_
      rintro _ _ ⟨⟨y5x0_1, y5x0_2, y5x0_3⟩, rfl, rfl, rfl⟩
      refine sc ?_
      replace hp := dd hp
      refine xL ((y5x0_1, y5x0_2, y5x0_3) : T_Log) ?_
      refine s3 ?_
      obtain rfl := Option.some.inj hp
      refine jW ((y5x0_1, y5x0_2, y5x0_3) : T_Log) ?_
      refine s1 ?_
      refine res2 rfl (ResOK.cell rfl mm (by exact agg50.h)) (ResOK.tmp rfl) ⟨(y5x0_1, y5x0_2, y5x0_3), true, rfl, rfl, rfl⟩ ms
noncomputable def s_LogCut (a0 : D_Log) (a1 : Int) : Option (D_Log × Bool) :=
  Option.bind (s_LogOk (a0.1, a0.2.1, a0.2.2)) (fun y1 => cond (!y1) (some ((([] : List D_Seg), 0, 0), false)) (Option.bind (s_l6Copy (a0.1, a0.2.1, a0.2.2)) (fun y3 => Option.bind (idx y3.1 (IntKind.wrap .i64 ((y3.1.length : Int) - 1))) (fun y4 => jbind (cond (decide (a1 < 0)) (some (.inl (0))) (some (.inl (a1)))) (fun s5 : Int => cond (decide (s5 < (y4.2.size : Int))) (Option.bind (sslP y4.2 0 s5) (fun y8 => Option.bind (s_Unframe y8) (fun y9 => Option.bind (sslP y4.2 0 y9.2) (fun y10 => Option.bind (idx y3.1 (IntKind.wrap .i64 ((y3.1.length : Int) - 1))) (fun y11 => Option.bind (some (y3.1.set ((IntKind.wrap .i64 ((y3.1.length : Int) - 1)).toNat) (y11.1, y10))) (fun y12 => Option.bind (idx y12 (IntKind.wrap .i64 ((y3.1.length : Int) - 1))) (fun y14 => cond (decide (IntKind.wrap .i64 (y14.1 + (y9.1.length : Int)) ≤ y3.2.2)) (some ((y12, IntKind.wrap .i64 (y14.1 + (y9.1.length : Int)), IntKind.wrap .i64 (IntKind.wrap .i64 (y14.1 + (y9.1.length : Int)) - 1)), true)) (some ((y12, IntKind.wrap .i64 (y14.1 + (y9.1.length : Int)), y3.2.2), true))))))))) (cond (decide (y3.2.1 ≤ y3.2.2)) (some ((y3.1, y3.2.1, IntKind.wrap .i64 (y3.2.1 - 1)), true)) (some ((y3.1, y3.2.1, y3.2.2), true))))))))
theorem s_LogCut_walk (w : World) (a0 : T_Log) (a1 : Int) (h0 : GT.rd w [] a0) (r : D_Log × Bool) (hp : s_LogCut (GT.dat a0) a1 = some r) : Spec Try.prog 134 [.agg (GT.cells a0).toArray, .int .i64 a1].toArray w [] (fun v M => ∃ (x0 : T_Log) (x1 : Bool), v = .tuple #[.agg (GT.cells x0).toArray, .bool x1] ∧ (GT.dat x0, GT.dat x1) = r ∧ M = [treeH x0]) := by
  obtain ⟨a0_1, a0_2, a0_3⟩ := a0
  change Spec _ _ ([Value.agg #[(TL.hdr a0_1), .int .i64 a0_2, .int .i64 a0_3], .int .i64 a1] : List Value).toArray w [] _
  refine Spec.intro Try.func134 rfl Try.ntmps134 rfl ?_
  unfold s_LogCut at hp
  replace hp := dd hp
  refine s2 ?_
  refine bx fun bk2 => ?_
  refine al fun bk4 => ?_
  refine s6 ?_
  replace hp := ba hp; obtain ⟨y1, hy1, hp⟩ := hp
  refine L_callX rfl fn30.h rfl (by exact fun w hw => s_LogOk_walk w (a0_1, a0_2, a0_3) (RdT.now (RdT.pair (RdT.old h0.1) (RdT.pair RdT.int RdT.int)) hw) _ hy1) ?_
  refine s2 ?_
  refine kp [1, 2, 4, 13] ?_
  refine W_cond rfl (fun hc2 => ?_) (fun hc2 => ?_)
  · replace hp := cond_t hc2 hp
    refine s2 ?_
    refine L_build (xs := []) (cs := [(TL.hdr (TL.nil T_Seg 0)), .int .i64 0, .int .i64 0]) rfl rfl bld50.h rfl ?_
    refine s3 ?_
    obtain rfl := Option.some.inj hp
    refine W_conv (M' := treeH (TL.nil T_Seg 0) :: _) (fun w h => addNilT (τ := T_Seg) 0 h) ?_
    refine jW (((TL.nil T_Seg 0), 0, 0) : T_Log) ?_
    refine s1 ?_
    refine res2 rfl (ResOK.cell rfl mm (by exact agg50.h)) (ResOK.tmp rfl) ⟨((TL.nil T_Seg 0), 0, 0), false, rfl, rfl, rfl⟩ ms
  · replace hp := cond_f hc2 hp
    refine s4 ?_
    replace hp := ba hp; obtain ⟨y3, hy3, hp⟩ := hp
    refine L_callR rfl fn85.h rfl (by exact fun w hw => s_l6Copy_walk w (a0_1, a0_2, a0_3) (RdT.now (RdT.pair (RdT.old h0.1) (RdT.pair RdT.int RdT.int)) hw) _ hy3) ?_
    rintro _ _ ⟨⟨y3x0_1, y3x0_2, y3x0_3⟩, rfl, rfl, rfl⟩
    refine sc ?_
    replace hp := dd hp
    refine xL ((y3x0_1, y3x0_2, y3x0_3) : T_Log) ?_
    refine al fun bk6 => ?_
    refine s15 ?_
    replace hp := idx_bind hp; obtain ⟨⟨u4_1, u4_2⟩, hy4, hp⟩ := hp
    refine L_idxA (X := y3x0_1) rfl rfl rfl el48.h (RdT.tree mm) hy4 ?_
    refine s1 ?_
    refine L_load rfl rfl (RdT.at (RdT.tree mm) (hy4).2) one9.h rfl ?_
    refine s2 ?_
    refine W_jn (σ := Int) GT.dat (fun (v5_0 : Int) => [(1, .int .i64 v5_0)]) (fun (v5_0 : Int) => []) [(4, .pointer (some ⟨bk4, 0, none⟩)), (6, .pointer (some ⟨bk6, 0, none⟩)), (7, .int .i64 (IntKind.wrap .i64 (((GT.dat y3x0_1).length : Int) - 1))), (8, .string u4_2)] [blk bk4 [(TL.hdr (TL.nil T_Seg 0)), .int .i64 0, .int .i64 0] 50, blk bk6 [(TL.hdr y3x0_1), .int .i64 y3x0_2, .int .i64 y3x0_3] 50, treeH y3x0_1] hp ?_ ?_
    · clear hp
      intro x5 hp hx5
      refine s5 ?_
      refine kp [1, 4, 6, 7, 8, 28] ?_
      refine W_cond rfl (fun hc6 => ?_) (fun hc6 => ?_)
      · replace hp := cond_t hc6 hp
        refine s3 ?_
        exact ⟨0, sb, (.sub ms), some_eq hp⟩
      · replace hp := cond_f hc6 hp
        refine s1 ?_
        exact ⟨a1, sb, (.sub ms), some_eq hp⟩
    · clear hp
      rintro v5_0 hp
      replace hp := dd hp
      refine kq [1, 4, 6, 7, 8] ?_
      refine s8 ?_
      refine kp [1, 4, 6, 7, 8, 32] ?_
      refine W_cond rfl (fun hc7 => ?_) (fun hc7 => ?_)
      · replace hp := cond_t hc7 hp
        refine s4 ?_
        replace hp := ba hp; obtain ⟨y8, hy8, hp⟩ := hp
        refine L_ssl rfl rfl rfl rfl str9.h hy8 ?_
        replace hp := ba hp; obtain ⟨y9, hy9, hp⟩ := hp
        refine L_callR rfl fn12.h rfl (by exact fun w hw => s_Unframe_walk w y8  _ hy9) ?_
        rintro _ _ ⟨y9x0, y9x1, rfl, rfl, rfl⟩
        refine sc ?_
        replace hp := dd hp
        refine s7 ?_
        replace hp := ba hp; obtain ⟨y10, hy10, hp⟩ := hp
        refine W_DS (pre := [_, _, _, _, _, _]) (suf := [_, _, _]) [41, 42, 45] [] _ pc mix (by kernel_rfl) (by kernel_rfl) rfl ?_
        refine s5 ?_
        refine D_ssl GC.none (OpV.t rfl) optD.none (optD.some (OpV.t rfl)) str9.h (fun hg => hy10) ?_
        refine s8 ?_
        replace hp := idx_bind hp; obtain ⟨u11, hy11, hp⟩ := hp
        obtain rfl : (u4_1, u4_2) = u11 := Option.some.inj (hy4.2.symm.trans hy11.2)
        refine L_idxA (X := y3x0_1) rfl rfl rfl el48.h (RdT.tree mm) hy4 ?_
        refine s1 ?_
        refine L_conv (M' := treeH (u4_1, u4_2) :: holeH y3x0_1 ((IntKind.wrap .i64 (((GT.dat y3x0_1).length : Int) - 1)).toNat) (GT.cells (u4_1, u4_2)) :: _) (fun w h => hole_open hy4.2 pk h) ?_
        refine L_stH (X := y3x0_1) (i := (IntKind.wrap .i64 (((GT.dat y3x0_1).length : Int) - 1)).toNat) (sz := 2) (fo := 1) (n := 1) rfl rfl pk rfl (.inr ⟨one9.h, rfl⟩) rfl (allOne rfl) (Nat.le_of_ble_eq_true rfl) ?_
        refine L_conv (M' := treeH ((u4_1, y10) : T_Seg) :: _) (fun w h => addF ((u4_1, y10) : T_Seg) h) ?_
        replace hp := ba hp; obtain ⟨y12, hy12, hp⟩ := hp
        refine L_close (X := y3x0_1) ((u4_1, y10) : T_Seg) rfl pk pk hy12 (fun X13 hdX13 hhX13 => ?_)
        subst hdX13
        try rw [← hhX13]
        try rw [← g_of_hdr hhX13]
        try rw [← o_of_hdr hhX13]
        refine s5 ?_
        replace hp := idx_bind hp; obtain ⟨⟨u14_1, u14_2⟩, hy14, hp⟩ := hp
        refine L_idxA (X := X13) rfl rfl rfl el48.h (RdT.tree mm) hy14 ?_
        refine s1 ?_
        refine L_load rfl rfl (RdT.at (RdT.tree mm) (hy14).2) one3.h rfl ?_
        refine s15 ?_
        refine kp [4, 6, 62] ?_
        refine W_cond rfl (fun hc15 => ?_) (fun hc15 => ?_)
        · replace hp := cond_t hc15 hp
          refine s13 ?_
          obtain rfl := Option.some.inj hp
          refine jW ((X13, IntKind.wrap .i64 (u14_1 + ((GT.dat y9x0).length : Int)), IntKind.wrap .i64 (IntKind.wrap .i64 (u14_1 + ((GT.dat y9x0).length : Int)) - 1)) : T_Log) ?_
          refine s1 ?_
          refine res2 rfl (ResOK.cell rfl mm (by exact agg50.h)) (ResOK.tmp rfl) ⟨(X13, IntKind.wrap .i64 (u14_1 + ((GT.dat y9x0).length : Int)), IntKind.wrap .i64 (IntKind.wrap .i64 (u14_1 + ((GT.dat y9x0).length : Int)) - 1)), true, rfl, rfl, rfl⟩ ms
        · replace hp := cond_f hc15 hp
          refine s7 ?_
          obtain rfl := Option.some.inj hp
          refine jW ((X13, IntKind.wrap .i64 (u14_1 + ((GT.dat y9x0).length : Int)), y3x0_3) : T_Log) ?_
          refine s1 ?_
          refine res2 rfl (ResOK.cell rfl mm (by exact agg50.h)) (ResOK.tmp rfl) ⟨(X13, IntKind.wrap .i64 (u14_1 + ((GT.dat y9x0).length : Int)), y3x0_3), true, rfl, rfl, rfl⟩ ms
      · replace hp := cond_f hc7 hp
        refine s10 ?_
        refine kp [4, 6, 62] ?_
        refine W_cond rfl (fun hc16 => ?_) (fun hc16 => ?_)
        · replace hp := cond_t hc16 hp
          refine s13 ?_
          obtain rfl := Option.some.inj hp
          refine jW ((y3x0_1, y3x0_2, IntKind.wrap .i64 (y3x0_2 - 1)) : T_Log) ?_
          refine s1 ?_
          refine res2 rfl (ResOK.cell rfl mm (by exact agg50.h)) (ResOK.tmp rfl) ⟨(y3x0_1, y3x0_2, IntKind.wrap .i64 (y3x0_2 - 1)), true, rfl, rfl, rfl⟩ ms
        · replace hp := cond_f hc16 hp
          refine s7 ?_
          obtain rfl := Option.some.inj hp
          refine jW ((y3x0_1, y3x0_2, y3x0_3) : T_Log) ?_
          refine s1 ?_
          refine res2 rfl (ResOK.cell rfl mm (by exact agg50.h)) (ResOK.tmp rfl) ⟨(y3x0_1, y3x0_2, y3x0_3), true, rfl, rfl, rfl⟩ ms
noncomputable def s_LogAdd (a0 : D_Log) (a1 : ByteArray) : Option (D_Log × Bool) :=
  Option.bind (s_LogOk (a0.1, a0.2.1, a0.2.2)) (fun y1 => cond (!y1) (some ((([] : List D_Seg), 0, 0), false)) (Option.bind (s_l6Copy (a0.1, a0.2.1, a0.2.2)) (fun y3 => Option.bind (s_Frame a1) (fun y4 => cond ((decide (y4 = ByteArray.empty)) || (decide (1000 ≤ a0.2.1))) (some ((y3.1, y3.2.1, y3.2.2), false)) (jbind (Option.bind (idx y3.1 (IntKind.wrap .i64 ((y3.1.length : Int) - 1))) (fun y7 => gb (!(decide (y7.2 = ByteArray.empty))) (idx y3.1 (IntKind.wrap .i64 ((y3.1.length : Int) - 1))) (fun y8 => cond ((decide (y7.2 = ByteArray.empty)) || (decide (IntKind.wrap .i64 ((y8.2.size : Int) + (y4.size : Int)) ≤ 60))) (Option.bind (idx y3.1 (IntKind.wrap .i64 ((y3.1.length : Int) - 1))) (fun y10 => Option.bind (catP y10.2 y4) (fun y11 => Option.bind (idx y3.1 (IntKind.wrap .i64 ((y3.1.length : Int) - 1))) (fun y12 => Option.bind (some (y3.1.set ((IntKind.wrap .i64 ((y3.1.length : Int) - 1)).toNat) (y12.1, y11))) (fun y13 => some (.inl (y13))))))) (Option.bind (appP y3.1 [(y3.2.1, y4)]) (fun y16 => some (.inl (y16))))))) (fun s6 : (List D_Seg) => Option.bind (s_l6Trim (s6, IntKind.wrap .i64 (y3.2.1 + 1), y3.2.2)) (fun y17 => Option.bind (s_LogOk (y17.1, y17.2.1, y17.2.2)) (fun y18 => cond (!y18) (Option.bind (s_l6Copy (a0.1, a0.2.1, a0.2.2)) (fun y20 => some ((y20.1, y20.2.1, y20.2.2), false))) (some ((y17.1, y17.2.1, y17.2.2), true))))))))))
theorem s_LogAdd_walk (w : World) (a0 : T_Log) (a1 : ByteArray) (h0 : GT.rd w [] a0) (r : D_Log × Bool) (hp : s_LogAdd (GT.dat a0) a1 = some r) : Spec Try.prog 135 [.agg (GT.cells a0).toArray, .string a1].toArray w [] (fun v M => ∃ (x0 : T_Log) (x1 : Bool), v = .tuple #[.agg (GT.cells x0).toArray, .bool x1] ∧ (GT.dat x0, GT.dat x1) = r ∧ M = [treeH x0]) := by
  obtain ⟨a0_1, a0_2, a0_3⟩ := a0
  change Spec _ _ ([Value.agg #[(TL.hdr a0_1), .int .i64 a0_2, .int .i64 a0_3], .string a1] : List Value).toArray w [] _
  refine Spec.intro Try.func135 rfl Try.ntmps135 rfl ?_
  unfold s_LogAdd at hp
  replace hp := dd hp
  refine s2 ?_
  refine bx fun bk2 => ?_
  refine al fun bk4 => ?_
  refine s6 ?_
  replace hp := ba hp; obtain ⟨y1, hy1, hp⟩ := hp
  refine L_callX rfl fn30.h rfl (by exact fun w hw => s_LogOk_walk w (a0_1, a0_2, a0_3) (RdT.now (RdT.pair (RdT.old h0.1) (RdT.pair RdT.int RdT.int)) hw) _ hy1) ?_
  refine s2 ?_
  refine kp [1, 2, 4, 12] ?_
  refine W_cond rfl (fun hc2 => ?_) (fun hc2 => ?_)
  · replace hp := cond_t hc2 hp
    refine s2 ?_
    refine L_build (xs := []) (cs := [(TL.hdr (TL.nil T_Seg 0)), .int .i64 0, .int .i64 0]) rfl rfl bld50.h rfl ?_
    refine s3 ?_
    obtain rfl := Option.some.inj hp
    refine W_conv (M' := treeH (TL.nil T_Seg 0) :: _) (fun w h => addNilT (τ := T_Seg) 0 h) ?_
    refine jW (((TL.nil T_Seg 0), 0, 0) : T_Log) ?_
    refine s1 ?_
    refine res2 rfl (ResOK.cell rfl mm (by exact agg50.h)) (ResOK.tmp rfl) ⟨((TL.nil T_Seg 0), 0, 0), false, rfl, rfl, rfl⟩ ms
  · replace hp := cond_f hc2 hp
    refine s4 ?_
    replace hp := ba hp; obtain ⟨y3, hy3, hp⟩ := hp
    refine L_callR rfl fn85.h rfl (by exact fun w hw => s_l6Copy_walk w (a0_1, a0_2, a0_3) (RdT.now (RdT.pair (RdT.old h0.1) (RdT.pair RdT.int RdT.int)) hw) _ hy3) ?_
    rintro _ _ ⟨⟨y3x0_1, y3x0_2, y3x0_3⟩, rfl, rfl, rfl⟩
    refine sc ?_
    replace hp := dd hp
    refine xL ((y3x0_1, y3x0_2, y3x0_3) : T_Log) ?_
    refine al fun bk6 => ?_
    refine s5 ?_
    replace hp := ba hp; obtain ⟨y4, hy4, hp⟩ := hp
    refine L_callX rfl fn16.h rfl (by exact fun w hw => s_Frame_walk w a1  _ hy4) ?_
    refine s4 ?_
    refine W_D0 [24] mix (by kernel_rfl) rfl ?_
    refine s16 ?_
    refine kp [2, 4, 6, 7, 24] ?_
    refine W_cond rfl (fun hc5 => ?_) (fun hc5 => ?_)
    · replace hp := cond_t hc5 hp
      refine s6 ?_
      obtain rfl := Option.some.inj hp
      refine jW ((y3x0_1, y3x0_2, y3x0_3) : T_Log) ?_
      refine s1 ?_
      refine res2 rfl (ResOK.cell rfl mm (by exact agg50.h)) (ResOK.tmp rfl) ⟨(y3x0_1, y3x0_2, y3x0_3), false, rfl, rfl, rfl⟩ ms
    · replace hp := cond_f hc5 hp
      refine s9 ?_
      refine W_jn (σ := (TL T_Seg)) GT.dat (fun (v6_0 : (TL T_Seg)) => []) (fun (v6_0 : (TL T_Seg)) => [blk bk6 [(TL.hdr v6_0), .int .i64 y3x0_2, .int .i64 y3x0_3] 50, treeH v6_0]) [(2, .pointer (some ⟨bk2, 0, none⟩)), (4, .pointer (some ⟨bk4, 0, none⟩)), (6, .pointer (some ⟨bk6, 0, none⟩))] [blk bk2 [(TL.hdr a0_1), .int .i64 a0_2, .int .i64 a0_3] 50, blk bk4 [(TL.hdr (TL.nil T_Seg 0)), .int .i64 0, .int .i64 0] 50] hp ?_ ?_
      · clear hp
        intro x6 hp hx6
        refine s1 ?_
        replace hp := idx_bind hp; obtain ⟨⟨u7_1, u7_2⟩, hy7, hp⟩ := hp
        replace hp := idx_gb hp; obtain ⟨⟨u8_1, u8_2⟩, hy8, hp⟩ := hp
        refine W_D0 [49] mix (by kernel_rfl) rfl ?_
        refine s3 ?_
        refine D_idxA (X := y3x0_1) GC.none (OpV.t rfl) (OpV.t rfl) el48.h (RdT.tree mm) (fun _ => hy7) ?_
        refine s1 ?_
        refine D_load GC.none (OpV.t rfl) (fun hg => RdT.at (RdT.tree mm) (hy7).2) one9.h rfl ?_
        refine s5 ?_
        refine D_idxA (X := y3x0_1) (GC.some rfl rfl) (OpV.s rfl) (OpV.s rfl) el48.h (RdT.tree mm) (fun hg => hy8 (gnot hg.2)) ?_
        refine s1 ?_
        refine D_load (GC.some rfl rfl) (OpV.s rfl) (fun hg => RdT.at (RdT.tree mm) (hy8 (gnot hg.2)).2) one9.h rfl ?_
        refine D_lenT (GC.some rfl rfl) (OpV.s rfl) str9.h ?_
        refine s1 ?_
        refine D_lenT (GC.some rfl rfl) (OpV.s rfl) str9.h ?_
        refine s20 ?_
        refine s5 ?_
        refine kp [2, 4, 6, 7, 8, 49] ?_
        refine W_cond rfl (fun hc9 => ?_) (fun hc9 => ?_)
        · replace hp := cond_t hc9 hp
          replace hp := idx_bind hp; obtain ⟨u10, hy10, hp⟩ := hp
          obtain rfl : (u7_1, u7_2) = u10 := Option.some.inj (hy7.2.symm.trans hy10.2)
          replace hp := ba hp; obtain ⟨y11, hy11, hp⟩ := hp
          refine W_DS (pre := [_, _, _, _, _, _, _, _, _, _, _]) (suf := [_, _, _]) [51, 52, 60] [] _ pc mix (by kernel_rfl) (by kernel_rfl) rfl ?_
          refine s6 ?_
          refine D_idxA (X := y3x0_1) GC.none (OpV.t rfl) (OpV.t rfl) el48.h (RdT.tree mm) (fun _ => hy7) ?_
          refine s1 ?_
          refine D_load GC.none (OpV.t rfl) (fun hg => RdT.at (RdT.tree mm) (hy7).2) one9.h rfl ?_
          refine s1 ?_
          refine D_bin GC.none (OpV.t rfl) (OpV.t rfl) (fun hg => (bv_saddP hy11)) ?_
          refine s13 ?_
          replace hp := idx_bind hp; obtain ⟨u12, hy12, hp⟩ := hp
          obtain rfl : (u7_1, u7_2) = u12 := Option.some.inj (hy7.2.symm.trans hy12.2)
          refine L_idxA (X := y3x0_1) rfl rfl rfl el48.h (RdT.tree mm) hy7 ?_
          refine s1 ?_
          refine L_conv (M' := treeH (u7_1, u7_2) :: holeH y3x0_1 ((IntKind.wrap .i64 (((GT.dat y3x0_1).length : Int) - 1)).toNat) (GT.cells (u7_1, u7_2)) :: _) (fun w h => hole_open hy7.2 pk h) ?_
          refine L_stH (X := y3x0_1) (i := (IntKind.wrap .i64 (((GT.dat y3x0_1).length : Int) - 1)).toNat) (sz := 2) (fo := 1) (n := 1) rfl rfl pk rfl (.inr ⟨one9.h, rfl⟩) rfl (allOne rfl) (Nat.le_of_ble_eq_true rfl) ?_
          refine L_conv (M' := treeH ((u7_1, y11) : T_Seg) :: _) (fun w h => addF ((u7_1, y11) : T_Seg) h) ?_
          replace hp := ba hp; obtain ⟨y13, hy13, hp⟩ := hp
          refine L_close (X := y3x0_1) ((u7_1, y11) : T_Seg) rfl pk pk hy13 (fun X14 hdX14 hhX14 => ?_)
          subst hdX14
          try rw [← hhX14]
          try rw [← g_of_hdr hhX14]
          try rw [← o_of_hdr hhX14]
          refine s1 ?_
          exact ⟨X14, sb, (.sub ms), some_eq hp⟩
        · replace hp := cond_f hc9 hp
          refine s6 ?_
          refine L_build (xs := [(0, .tmp 66), (1, .tmp 67)]) (cs := [.int .i64 y3x0_2, .string y4]) rfl rfl bld113.h rfl ?_
          refine L_buildSlice1 rfl rfl el48.h rfl (by decide) (by decide) rfl (fun bb69 => ?_)
          replace hp := ba hp; obtain ⟨y16, hy16, hp⟩ := hp
          refine L_app1F (X := y3x0_1) ((y3x0_2, y4) : T_Seg) rfl rfl rfl el48.h rfl rfl pk mm  hy16 (by decide) (fun X15 hdX15 => ?_)
          subst hdX15
          refine s3 ?_
          exact ⟨X15, sb, (.sub ms), some_eq hp⟩
      · clear hp
        rintro v6_0 hp
        replace hp := dd hp
        refine kq [2, 4, 6] ?_
        refine s11 ?_
        replace hp := ba hp; obtain ⟨y17, hy17, hp⟩ := hp
        refine L_callM [treeH v6_0] _ rfl fn86.h rfl pc (by exact fun w hw => s_l6Trim_walk w (v6_0, IntKind.wrap .i64 (y3x0_2 + 1), y3x0_3)  _ hy17) ?_
        rintro _ _ ⟨⟨y17x0_1, y17x0_2, y17x0_3⟩, rfl, rfl, rfl⟩
        refine sc ?_
        replace hp := dd hp
        refine xL ((y17x0_1, y17x0_2, y17x0_3) : T_Log) ?_
        refine al fun bk9 => ?_
        refine s6 ?_
        replace hp := ba hp; obtain ⟨y18, hy18, hp⟩ := hp
        refine L_callX rfl fn30.h rfl (by exact fun w hw => s_LogOk_walk w (y17x0_1, y17x0_2, y17x0_3) (RdT.now (RdT.pair (RdT.tree mm) (RdT.pair RdT.int RdT.int)) hw) _ hy18) ?_
        refine s2 ?_
        refine kp [2, 4, 9, 80] ?_
        refine W_cond rfl (fun hc19 => ?_) (fun hc19 => ?_)
        · replace hp := cond_t hc19 hp
          refine s3 ?_
          replace hp := ba hp; obtain ⟨y20, hy20, hp⟩ := hp
          refine L_callR rfl fn85.h rfl (by exact fun w hw => s_l6Copy_walk w (a0_1, a0_2, a0_3) (RdT.now (RdT.pair (RdT.old h0.1) (RdT.pair RdT.int RdT.int)) hw) _ hy20) ?_
          rintro _ _ ⟨⟨y20x0_1, y20x0_2, y20x0_3⟩, rfl, rfl, rfl⟩
          refine sc ?_
          replace hp := dd hp
          refine xL ((y20x0_1, y20x0_2, y20x0_3) : T_Log) ?_
          refine s3 ?_
          obtain rfl := Option.some.inj hp
          refine jW ((y20x0_1, y20x0_2, y20x0_3) : T_Log) ?_
          refine s1 ?_
          refine res2 rfl (ResOK.cell rfl mm (by exact agg50.h)) (ResOK.tmp rfl) ⟨(y20x0_1, y20x0_2, y20x0_3), false, rfl, rfl, rfl⟩ ms
        · replace hp := cond_f hc19 hp
          refine s7 ?_
          obtain rfl := Option.some.inj hp
          refine jW ((y17x0_1, y17x0_2, y17x0_3) : T_Log) ?_
          refine s1 ?_
          refine res2 rfl (ResOK.cell rfl mm (by exact agg50.h)) (ResOK.tmp rfl) ⟨(y17x0_1, y17x0_2, y17x0_3), true, rfl, rfl, rfl⟩ ms
noncomputable def s_l6Some (a0 : D_l1Cur) : Option (D_Log × D_l1Cur) :=
  Option.bind (s_LogNew ) (fun y1 => Option.bind (s_l1Below (a0.1, a0.2.1, a0.2.2) 24) (fun y2 => whileP (fun s3 : Int × Int × Int × (List D_Seg) × Int × Int => cond (decide (0 < s3.1)) (Option.bind (s_l1Below (y2.2.1, s3.2.1, s3.2.2.1) 7) (fun y5 => cond (decide (y5.1 = 0)) (Option.bind (s_l1Below (y5.2.1, y5.2.2.1, y5.2.2.2) 4) (fun y7 => Option.bind (s_LogMark (s3.2.2.2.1, s3.2.2.2.2.1, s3.2.2.2.2.2) (IntKind.wrap .i64 (s3.2.2.2.2.2 + y7.1))) (fun y8 => some (.inl ((IntKind.wrap .i64 (s3.1 - 1), y7.2.2.1, y7.2.2.2, y8.1.1, y8.1.2.1, y8.1.2.2)))))) (cond (decide (y5.1 = 1)) (Option.bind (s_l1Once (y5.2.1, y5.2.2.1, y5.2.2.2) 3) (fun y11 => cond y11.1 (Option.bind (s_l1Below (y11.2.1, y11.2.2.1, y11.2.2.2) 70) (fun y13 => Option.bind (s_LogCut (s3.2.2.2.1, s3.2.2.2.2.1, s3.2.2.2.2.2) y13.1) (fun y14 => some (.inl ((IntKind.wrap .i64 (s3.1 - 1), y13.2.2.1, y13.2.2.2, y14.1.1, y14.1.2.1, y14.1.2.2)))))) (some (.inl ((IntKind.wrap .i64 (s3.1 - 1), y11.2.2.1, y11.2.2.2, s3.2.2.2.1, s3.2.2.2.2.1, s3.2.2.2.2.2)))))) (Option.bind (s_l1Text (y5.2.1, y5.2.2.1, y5.2.2.2) 20) (fun y16 => Option.bind (s_LogAdd (s3.2.2.2.1, s3.2.2.2.2.1, s3.2.2.2.2.2) y16.1) (fun y17 => some (.inl ((IntKind.wrap .i64 (s3.1 - 1), y16.2.2.1, y16.2.2.2, y17.1.1, y17.1.2.1, y17.1.2.2))))))))) (Option.map .inr (Option.bind (s_l1Once (y2.2.1, s3.2.1, s3.2.2.1) 10) (fun y20 => cond y20.1 (Option.bind (s_l1Below (y20.2.1, y20.2.2.1, y20.2.2.2) 4) (fun y22 => cond (decide (y22.1 = 0)) (some ((s3.2.2.2.1, IntKind.wrap .i64 (s3.2.2.2.2.1 + 1), s3.2.2.2.2.2), (y22.2.1, y22.2.2.1, y22.2.2.2))) (cond (decide (y22.1 = 1)) (Option.bind (s_l1Below (y22.2.1, y22.2.2.1, y22.2.2.2) 30) (fun y25 => some ((s3.2.2.2.1, s3.2.2.2.2.1, IntKind.wrap .i64 (y25.1 - 1)), (y25.2.1, y25.2.2.1, y25.2.2.2)))) (cond (decide (y22.1 = 2)) (Option.bind (idx s3.2.2.2.1 0) (fun y27 => Option.bind (s_l1Spoil (y22.2.1, y22.2.2.1, y22.2.2.2) y27.2) (fun y28 => Option.bind (idx s3.2.2.2.1 0) (fun y29 => Option.bind (some (s3.2.2.2.1.set ((0 : Int).toNat) (y29.1, y28.1))) (fun y30 => some ((y30, s3.2.2.2.2.1, s3.2.2.2.2.2), (y28.2.1, y28.2.2.1, y28.2.2.2))))))) (Option.bind (appP s3.2.2.2.1 [(s3.2.2.2.2.1, ByteArray.empty)]) (fun y33 => some ((y33, s3.2.2.2.2.1, s3.2.2.2.2.2), (y22.2.1, y22.2.2.1, y22.2.2.2)))))))) (some ((s3.2.2.2.1, s3.2.2.2.2.1, s3.2.2.2.2.2), (y20.2.1, y20.2.2.1, y20.2.2.2))))))) (y2.1, y2.2.2.1, y2.2.2.2, y1.1, y1.2.1, y1.2.2)))
theorem s_l6Some_walk (w : World) (b0_ : Nat) (a0 : T_l1Cur) (h0_0 : GT.rd w (fps [blk b0_ (GT.cells a0) 144]) a0.1) (r : D_Log × D_l1Cur) (hp : s_l6Some (GT.dat a0) = some r) : Spec Try.prog 84 [Value.pointer (some ⟨b0_, 0, none⟩)].toArray w [blk b0_ (GT.cells a0) 144] (fun v M => ∃ (x0 : T_Log) (y0 : T_l1Cur), v = .agg (GT.cells x0).toArray ∧ (GT.dat x0, GT.dat y0) = r ∧ M = [treeH x0, blk b0_ (GT.cells y0) 144] ∧ y0.1 = a0.1) := by
  obtain ⟨a0_1, a0_2, a0_3⟩ := a0
  change Spec _ _ ([Value.pointer (some ⟨b0_, 0, none⟩)] : List Value).toArray w _ _
  refine Spec.intro Try.func84 rfl Try.ntmps84 rfl ?_
  unfold s_l6Some at hp
  replace hp := dd hp
  refine s2 ?_
  refine al fun bk2 => ?_
  refine s3 ?_
  replace hp := ba hp; obtain ⟨y1, hy1, hp⟩ := hp
  refine L_callR rfl fn133.h rfl (by exact fun w hw => s_LogNew_walk w   _ hy1) ?_
  rintro _ _ ⟨⟨y1x0_1, y1x0_2, y1x0_3⟩, rfl, rfl, rfl⟩
  refine sc ?_
  replace hp := dd hp
  refine xL ((y1x0_1, y1x0_2, y1x0_3) : T_Log) ?_
  refine al fun bk3 => ?_
  refine s6 ?_
  replace hp := ba hp; obtain ⟨y2, hy2, hp⟩ := hp
  refine L_callM [blk b0_ _ _] _ rfl fn59.h rfl pc (by exact fun w hw => s_l1Below_walk w b0_ (a0_1, a0_2, a0_3) 24 ((RdX.old h0_0) w hw) _ hy2) ?_
  rintro _ _ ⟨y2x0, ⟨y2y0_1, y2y0_2, y2y0_3⟩, rfl, rfl, rfl, hey2_0⟩
  obtain rfl : a0_1 = y2y0_1 := hey2_0.symm
  refine sc ?_
  replace hp := dd hp
  refine s3 ?_
  refine W_while (σ := Int × Int × Int × (TL T_Seg) × Int × Int) GT.dat (fun ((v3_0, v3_1, v3_2, v3_3, v3_4, v3_5) : Int × Int × Int × (TL T_Seg) × Int × Int) => [(4, .int .i64 v3_0)]) (fun ((v3_0, v3_1, v3_2, v3_3, v3_4, v3_5) : Int × Int × Int × (TL T_Seg) × Int × Int) => [blk b0_ [(TL.hdr a0_1), .int .i64 v3_1, .int .i64 v3_2] 144, blk bk3 [(TL.hdr v3_3), .int .i64 v3_4, .int .i64 v3_5] 50, treeH v3_3]) [(0, _), (2, _), (3, _)] [blk bk2 _ _] (y2x0, y2y0_2, y2y0_3, y1x0_1, y1x0_2, y1x0_3) hp sb ms ?_
  clear hp
  rintro ⟨v3_0, v3_1, v3_2, v3_3, v3_4, v3_5⟩ x3 hp hx3
  replace hp := dd hp
  refine kq [0, 2, 3, 4] ?_
  refine s6 ?_
  refine kp [0, 2, 3, 4, 15] ?_
  refine W_cond rfl (fun hc4 => ?_) (fun hc4 => ?_)
  · replace hp := cond_t hc4 hp
    refine s6 ?_
    replace hp := ba hp; obtain ⟨y5, hy5, hp⟩ := hp
    refine L_callM [blk b0_ _ _] _ rfl fn59.h rfl pc (by exact fun w hw => s_l1Below_walk w b0_ (a0_1, v3_1, v3_2) 7 ((RdX.old h0_0) w hw) _ hy5) ?_
    rintro _ _ ⟨y5x0, ⟨y5y0_1, y5y0_2, y5y0_3⟩, rfl, rfl, rfl, hey5_0⟩
    obtain rfl : a0_1 = y5y0_1 := hey5_0.symm
    refine sc ?_
    replace hp := dd hp
    refine s7 ?_
    refine kp [0, 2, 3, 4, 19, 28] ?_
    refine W_cond rfl (fun hc6 => ?_) (fun hc6 => ?_)
    · replace hp := cond_t hc6 hp
      refine s1 ?_
      replace hp := ba hp; obtain ⟨y7, hy7, hp⟩ := hp
      replace hp := ba hp; obtain ⟨y8, hy8, hp⟩ := hp
      refine W_DS (pre := [_, _, _, _, _, _, _, _, _, _, _, _, _]) (suf := []) [5, 35] [blk b0_ _ 144] _ pc mix (by kernel_rfl) (by kernel_rfl) rfl ?_
      refine s4 ?_
      refine D_callM (fun v M => ∃ (x0 : Int) (y0 : T_l1Cur), v = .int .i64 x0 ∧ (GT.dat x0, GT.dat y0) = y7 ∧ M = [blk b0_ (GT.cells y0) 144] ∧ y0.1 = a0_1) [blk b0_ _ 144] pc fn59.h (OpVs.cons (OpV.t rfl) (OpVs.cons OpV.c (OpVs.nil))) (by exact fun w F hw hM => s_l1Below_walk w b0_ (a0_1, y5y0_2, y5y0_3) 4 ((RdX.old h0_0) w hw) _ hy7) ?_
      refine D_bin GC.none (OpV.t rfl) (show OpV _ _ _ (.int .i64 y7.1) from ⟨_, rfl, fun u M h hc => by obtain ⟨x0, z0, hv, hd, _⟩ := h; subst hd; exact hv⟩) (fun hg => bv_add) ?_
      refine D_call1R (fun v M => ∃ (x0 : T_Log) (x1 : Bool), v = .tuple #[.agg (GT.cells x0).toArray, .bool x1] ∧ (GT.dat x0, GT.dat x1) = y8 ∧ M = [treeH x0]) fn34.h (OpVs.cons (OpV.t rfl) (OpVs.cons (OpV.t rfl) (OpVs.nil))) (by exact fun w F hF hM => s_LogMark_walk w (v3_3, v3_4, v3_5) (IntKind.wrap .i64 (v3_5 + y7.1)) (RdT.nowS (RdT.pair (RdT.tree mm) (RdT.pair RdT.int RdT.int)) hF hM) _ hy8) ?_
      refine D_moveC (t := 37) rfl (by kernel_rfl) ?_
      refine D_extractC (t := 30) (AggV (τ := T_Log) y8.1) rfl (by rintro v M ⟨x0, x1, rfl, hd, rfl⟩; subst hd; exact ⟨_, _, rfl, rfl, x0, rfl, rfl, rfl⟩) (by kernel_rfl) ?_
      refine D_extractW (t := 30) (.bool y8.2) rfl (by rintro v M ⟨-, M', x0, x1, rfl, hd, -⟩; subst hd; exact ⟨_, rfl, rfl⟩) ?_
      refine D_alloc zero50.h ?_
      refine D_storeK (p := 5) (x := 38) rfl rfl (by exact agg50.h) rfl (by kernel_rfl) ?_
      refine s3 ?_
      refine Give_R rfl rfl ?_
      rintro _ _ ⟨bk5, X9, rfl, hdX9, rfl⟩
      try rw [← hdX9] at hp
      obtain ⟨X9_1, X9_2, X9_3⟩ := X9
      refine s6 ?_
      refine Give_R rfl rfl ?_
      rintro _ _ ⟨y7x0, ⟨y7y0_1, y7y0_2, y7y0_3⟩, rfl, rfl, rfl, hey7_0⟩
      obtain rfl : a0_1 = y7y0_1 := hey7_0.symm
      refine s5 ?_
      refine sc ?_
      replace hp := dd hp
      refine xL ((X9_1, X9_2, X9_3) : T_Log) ?_
      refine s10 ?_
      exact ⟨(IntKind.wrap .i64 (v3_0 - 1), y7y0_2, y7y0_3, X9_1, X9_2, X9_3), sb, (.sub ms), some_eq hp⟩
    · replace hp := cond_f hc6 hp
      refine s5 ?_
      refine kp [0, 2, 3, 4, 41] ?_
      refine W_cond rfl (fun hc10 => ?_) (fun hc10 => ?_)
      · replace hp := cond_t hc10 hp
        refine s3 ?_
        replace hp := ba hp; obtain ⟨y11, hy11, hp⟩ := hp
        refine L_callM [blk b0_ _ _] _ rfl fn89.h rfl pc (by exact fun w hw => s_l1Once_walk w b0_ (a0_1, y5y0_2, y5y0_3) 3 ((RdX.old h0_0) w hw) _ hy11) ?_
        rintro _ _ ⟨y11x0, ⟨y11y0_1, y11y0_2, y11y0_3⟩, rfl, rfl, rfl, hey11_0⟩
        obtain rfl : a0_1 = y11y0_1 := hey11_0.symm
        refine sc ?_
        replace hp := dd hp
        refine s1 ?_
        refine kp [0, 2, 3, 4, 44] ?_
        refine W_cond rfl (fun hc12 => ?_) (fun hc12 => ?_)
        · replace hp := cond_t hc12 hp
          refine s1 ?_
          replace hp := ba hp; obtain ⟨y13, hy13, hp⟩ := hp
          replace hp := ba hp; obtain ⟨y14, hy14, hp⟩ := hp
          refine W_DS (pre := [_, _, _, _, _, _, _, _, _, _]) (suf := []) [7, 48] [blk b0_ _ 144] _ pc mix (by kernel_rfl) (by kernel_rfl) rfl ?_
          refine s2 ?_
          refine D_callM (fun v M => ∃ (x0 : Int) (y0 : T_l1Cur), v = .int .i64 x0 ∧ (GT.dat x0, GT.dat y0) = y13 ∧ M = [blk b0_ (GT.cells y0) 144] ∧ y0.1 = a0_1) [blk b0_ _ 144] pc fn59.h (OpVs.cons (OpV.t rfl) (OpVs.cons OpV.c (OpVs.nil))) (by exact fun w F hw hM => s_l1Below_walk w b0_ (a0_1, y11y0_2, y11y0_3) 70 ((RdX.old h0_0) w hw) _ hy13) ?_
          refine D_call1R (fun v M => ∃ (x0 : T_Log) (x1 : Bool), v = .tuple #[.agg (GT.cells x0).toArray, .bool x1] ∧ (GT.dat x0, GT.dat x1) = y14 ∧ M = [treeH x0]) fn134.h (OpVs.cons (OpV.t rfl) (OpVs.cons (show OpV _ _ _ (.int .i64 y13.1) from ⟨_, rfl, fun u M h hc => by obtain ⟨x0, z0, hv, hd, _⟩ := h; subst hd; exact hv⟩) (OpVs.nil))) (by exact fun w F hF hM => s_LogCut_walk w (v3_3, v3_4, v3_5) y13.1 (RdT.nowS (RdT.pair (RdT.tree mm) (RdT.pair RdT.int RdT.int)) hF hM) _ hy14) ?_
          refine D_moveC (t := 49) rfl (by kernel_rfl) ?_
          refine D_extractC (t := 45) (AggV (τ := T_Log) y14.1) rfl (by rintro v M ⟨x0, x1, rfl, hd, rfl⟩; subst hd; exact ⟨_, _, rfl, rfl, x0, rfl, rfl, rfl⟩) (by kernel_rfl) ?_
          refine D_extractW (t := 45) (.bool y14.2) rfl (by rintro v M ⟨-, M', x0, x1, rfl, hd, -⟩; subst hd; exact ⟨_, rfl, rfl⟩) ?_
          refine D_alloc zero50.h ?_
          refine D_storeK (p := 7) (x := 50) rfl rfl (by exact agg50.h) rfl (by kernel_rfl) ?_
          refine s3 ?_
          refine Give_R rfl rfl ?_
          rintro _ _ ⟨bk7, X15, rfl, hdX15, rfl⟩
          try rw [← hdX15] at hp
          obtain ⟨X15_1, X15_2, X15_3⟩ := X15
          refine s5 ?_
          refine Give_R rfl rfl ?_
          rintro _ _ ⟨y13x0, ⟨y13y0_1, y13y0_2, y13y0_3⟩, rfl, rfl, rfl, hey13_0⟩
          obtain rfl : a0_1 = y13y0_1 := hey13_0.symm
          refine s3 ?_
          refine sc ?_
          replace hp := dd hp
          refine xL ((X15_1, X15_2, X15_3) : T_Log) ?_
          refine s10 ?_
          exact ⟨(IntKind.wrap .i64 (v3_0 - 1), y13y0_2, y13y0_3, X15_1, X15_2, X15_3), sb, (.sub ms), some_eq hp⟩
        · replace hp := cond_f hc12 hp
          refine s6 ?_
          exact ⟨(IntKind.wrap .i64 (v3_0 - 1), y11y0_2, y11y0_3, v3_3, v3_4, v3_5), sb, (.sub ms), some_eq hp⟩
      · replace hp := cond_f hc10 hp
        refine s1 ?_
        replace hp := ba hp; obtain ⟨y16, hy16, hp⟩ := hp
        replace hp := ba hp; obtain ⟨y17, hy17, hp⟩ := hp
        refine W_DS (pre := [_, _, _, _, _, _, _, _, _, _]) (suf := []) [9, 23] [blk b0_ _ 144] _ pc mix (by kernel_rfl) (by kernel_rfl) rfl ?_
        refine s2 ?_
        refine D_callM (fun v M => ∃ (x0 : ByteArray) (y0 : T_l1Cur), v = .string x0 ∧ (GT.dat x0, GT.dat y0) = y16 ∧ M = [blk b0_ (GT.cells y0) 144] ∧ y0.1 = a0_1) [blk b0_ _ 144] pc fn60.h (OpVs.cons (OpV.t rfl) (OpVs.cons OpV.c (OpVs.nil))) (by exact fun w F hw hM => s_l1Text_walk w b0_ (a0_1, y5y0_2, y5y0_3) 20 ((RdX.old h0_0) w hw) _ hy16) ?_
        refine D_call1R (fun v M => ∃ (x0 : T_Log) (x1 : Bool), v = .tuple #[.agg (GT.cells x0).toArray, .bool x1] ∧ (GT.dat x0, GT.dat x1) = y17 ∧ M = [treeH x0]) fn135.h (OpVs.cons (OpV.t rfl) (OpVs.cons (show OpV _ _ _ (.string y16.1) from ⟨_, rfl, fun u M h hc => by obtain ⟨x0, z0, hv, hd, _⟩ := h; subst hd; exact hv⟩) (OpVs.nil))) (by exact fun w F hF hM => s_LogAdd_walk w (v3_3, v3_4, v3_5) y16.1 (RdT.nowS (RdT.pair (RdT.tree mm) (RdT.pair RdT.int RdT.int)) hF hM) _ hy17) ?_
        refine D_moveC (t := 24) rfl (by kernel_rfl) ?_
        refine D_extractC (t := 20) (AggV (τ := T_Log) y17.1) rfl (by rintro v M ⟨x0, x1, rfl, hd, rfl⟩; subst hd; exact ⟨_, _, rfl, rfl, x0, rfl, rfl, rfl⟩) (by kernel_rfl) ?_
        refine D_extractW (t := 20) (.bool y17.2) rfl (by rintro v M ⟨-, M', x0, x1, rfl, hd, -⟩; subst hd; exact ⟨_, rfl, rfl⟩) ?_
        refine D_alloc zero50.h ?_
        refine D_storeK (p := 9) (x := 25) rfl rfl (by exact agg50.h) rfl (by kernel_rfl) ?_
        refine s3 ?_
        refine Give_R rfl rfl ?_
        rintro _ _ ⟨bk9, X18, rfl, hdX18, rfl⟩
        try rw [← hdX18] at hp
        obtain ⟨X18_1, X18_2, X18_3⟩ := X18
        refine s5 ?_
        refine Give_R rfl rfl ?_
        rintro _ _ ⟨y16x0, ⟨y16y0_1, y16y0_2, y16y0_3⟩, rfl, rfl, rfl, hey16_0⟩
        obtain rfl : a0_1 = y16y0_1 := hey16_0.symm
        refine s3 ?_
        refine sc ?_
        replace hp := dd hp
        refine xL ((X18_1, X18_2, X18_3) : T_Log) ?_
        refine s10 ?_
        exact ⟨(IntKind.wrap .i64 (v3_0 - 1), y16y0_2, y16y0_3, X18_1, X18_2, X18_3), sb, (.sub ms), some_eq hp⟩
  · replace hp := cond_f hc4 hp
    refine W_exit ?_
    replace hp := map_any hp; obtain ⟨a19, hp, hx_a19⟩ := hp
    obtain rfl := hx3 _ hx_a19
    refine s4 ?_
    replace hp := ba hp; obtain ⟨y20, hy20, hp⟩ := hp
    refine L_callM [blk b0_ _ _] _ rfl fn89.h rfl pc (by exact fun w hw => s_l1Once_walk w b0_ (a0_1, v3_1, v3_2) 10 ((RdX.old h0_0) w hw) _ hy20) ?_
    rintro _ _ ⟨y20x0, ⟨y20y0_1, y20y0_2, y20y0_3⟩, rfl, rfl, rfl, hey20_0⟩
    obtain rfl : a0_1 = y20y0_1 := hey20_0.symm
    refine sc ?_
    replace hp := dd hp
    refine s1 ?_
    refine kp [0, 2, 3, 54] ?_
    refine W_cond rfl (fun hc21 => ?_) (fun hc21 => ?_)
    · replace hp := cond_t hc21 hp
      refine s3 ?_
      replace hp := ba hp; obtain ⟨y22, hy22, hp⟩ := hp
      refine L_callM [blk b0_ _ _] _ rfl fn59.h rfl pc (by exact fun w hw => s_l1Below_walk w b0_ (a0_1, y20y0_2, y20y0_3) 4 ((RdX.old h0_0) w hw) _ hy22) ?_
      rintro _ _ ⟨y22x0, ⟨y22y0_1, y22y0_2, y22y0_3⟩, rfl, rfl, rfl, hey22_0⟩
      obtain rfl : a0_1 = y22y0_1 := hey22_0.symm
      refine sc ?_
      replace hp := dd hp
      refine s7 ?_
      refine kp [0, 2, 3, 56, 65] ?_
      refine W_cond rfl (fun hc23 => ?_) (fun hc23 => ?_)
      · replace hp := cond_t hc23 hp
        refine s12 ?_
        obtain rfl := Option.some.inj hp
        refine jW ((v3_3, IntKind.wrap .i64 (v3_4 + 1), v3_5) : T_Log) ?_
        refine s1 ?_
        refine res1 rfl (ResOK.cell rfl mm (by exact agg50.h)) ⟨(v3_3, IntKind.wrap .i64 (v3_4 + 1), v3_5), (a0_1, y22y0_2, y22y0_3), rfl, rfl, rfl, rfl⟩ ms
      · replace hp := cond_f hc23 hp
        refine s5 ?_
        refine kp [0, 2, 3, 56, 71] ?_
        refine W_cond rfl (fun hc24 => ?_) (fun hc24 => ?_)
        · replace hp := cond_t hc24 hp
          refine s2 ?_
          replace hp := ba hp; obtain ⟨y25, hy25, hp⟩ := hp
          refine L_callM [blk b0_ _ _] _ rfl fn59.h rfl pc (by exact fun w hw => s_l1Below_walk w b0_ (a0_1, y22y0_2, y22y0_3) 30 ((RdX.old h0_0) w hw) _ hy25) ?_
          rintro _ _ ⟨y25x0, ⟨y25y0_1, y25y0_2, y25y0_3⟩, rfl, rfl, rfl, hey25_0⟩
          obtain rfl : a0_1 = y25y0_1 := hey25_0.symm
          refine sc ?_
          replace hp := dd hp
          refine s9 ?_
          obtain rfl := Option.some.inj hp
          refine jW ((v3_3, v3_4, IntKind.wrap .i64 (y25x0 - 1)) : T_Log) ?_
          refine s1 ?_
          refine res1 rfl (ResOK.cell rfl mm (by exact agg50.h)) ⟨(v3_3, v3_4, IntKind.wrap .i64 (y25x0 - 1)), (a0_1, y25y0_2, y25y0_3), rfl, rfl, rfl, rfl⟩ ms
        · replace hp := cond_f hc24 hp
          refine s5 ?_
          refine kp [0, 2, 3, 77] ?_
          refine W_cond rfl (fun hc26 => ?_) (fun hc26 => ?_)
          · replace hp := cond_t hc26 hp
            replace hp := idx_bind hp; obtain ⟨⟨u27_1, u27_2⟩, hy27, hp⟩ := hp
            replace hp := ba hp; obtain ⟨y28, hy28, hp⟩ := hp
            refine W_DS (pre := [_, _, _, _, _, _, _, _, _]) (suf := [_, _, _]) [80, 87] [blk b0_ _ 144] _ pc mix (by kernel_rfl) (by kernel_rfl) rfl ?_
            refine s5 ?_
            refine D_idxA (X := v3_3) GC.none (OpV.t rfl) OpV.c el48.h (RdT.tree mm) (fun _ => hy27) ?_
            refine s1 ?_
            refine D_load GC.none (OpV.t rfl) (fun hg => RdT.at (RdT.tree mm) (hy27).2) one9.h rfl ?_
            refine D_callM (fun v M => ∃ (x0 : ByteArray) (y0 : T_l1Cur), v = .string x0 ∧ (GT.dat x0, GT.dat y0) = y28 ∧ M = [blk b0_ (GT.cells y0) 144] ∧ y0.1 = a0_1) [blk b0_ _ 144] pc fn61.h (OpVs.cons (OpV.t rfl) (OpVs.cons (OpV.t rfl) (OpVs.nil))) (by exact fun w F hw hM => s_l1Spoil_walk w b0_ (a0_1, y22y0_2, y22y0_3) u27_2 ((RdX.old h0_0) w hw) _ hy28) ?_
            refine s1 ?_
            refine Give_R rfl rfl ?_
            rintro _ _ ⟨y28x0, ⟨y28y0_1, y28y0_2, y28y0_3⟩, rfl, rfl, rfl, hey28_0⟩
            obtain rfl : a0_1 = y28y0_1 := hey28_0.symm
            refine s9 ?_
            refine sc ?_
            replace hp := dd hp
            replace hp := idx_bind hp; obtain ⟨u29, hy29, hp⟩ := hp
            obtain rfl : (u27_1, u27_2) = u29 := Option.some.inj (hy27.2.symm.trans hy29.2)
            refine L_idxA (X := v3_3) rfl rfl rfl el48.h (RdT.tree mm) hy27 ?_
            refine s1 ?_
            refine L_conv (M' := treeH (u27_1, u27_2) :: holeH v3_3 ((0 : Int).toNat) (GT.cells (u27_1, u27_2)) :: _) (fun w h => hole_open hy27.2 pk h) ?_
            refine L_stH (X := v3_3) (i := (0 : Int).toNat) (sz := 2) (fo := 1) (n := 1) rfl rfl pk rfl (.inr ⟨one9.h, rfl⟩) rfl (allOne rfl) (Nat.le_of_ble_eq_true rfl) ?_
            refine L_conv (M' := treeH ((u27_1, y28x0) : T_Seg) :: _) (fun w h => addF ((u27_1, y28x0) : T_Seg) h) ?_
            replace hp := ba hp; obtain ⟨y30, hy30, hp⟩ := hp
            refine L_close (X := v3_3) ((u27_1, y28x0) : T_Seg) rfl pk pk hy30 (fun X31 hdX31 hhX31 => ?_)
            subst hdX31
            try rw [← hhX31]
            try rw [← g_of_hdr hhX31]
            try rw [← o_of_hdr hhX31]
            refine s6 ?_
            obtain rfl := Option.some.inj hp
            refine jW ((X31, v3_4, v3_5) : T_Log) ?_
            refine s1 ?_
            refine res1 rfl (ResOK.cell rfl mm (by exact agg50.h)) ⟨(X31, v3_4, v3_5), (a0_1, y28y0_2, y28y0_3), rfl, rfl, rfl, rfl⟩ ms
          · replace hp := cond_f hc26 hp
            refine s5 ?_
            refine L_build (xs := [(0, .tmp 60)]) (cs := [.int .i64 v3_4, .string ByteArray.empty]) rfl rfl bld113.h rfl ?_
            refine L_buildSlice1 rfl rfl el48.h rfl (by decide) (by decide) rfl (fun bb62 => ?_)
            replace hp := ba hp; obtain ⟨y33, hy33, hp⟩ := hp
            refine L_app1F (X := v3_3) ((v3_4, ByteArray.empty) : T_Seg) rfl rfl rfl el48.h rfl rfl pk mm  hy33 (by decide) (fun X32 hdX32 => ?_)
            subst hdX32
            refine s8 ?_
            obtain rfl := Option.some.inj hp
            refine jW ((X32, v3_4, v3_5) : T_Log) ?_
            refine s1 ?_
            refine res1 rfl (ResOK.cell rfl mm (by exact agg50.h)) ⟨(X32, v3_4, v3_5), (a0_1, y22y0_2, y22y0_3), rfl, rfl, rfl, rfl⟩ ms
    · replace hp := cond_f hc21 hp
      refine s6 ?_
      obtain rfl := Option.some.inj hp
      refine jW ((v3_3, v3_4, v3_5) : T_Log) ?_
      refine s1 ?_
      refine res1 rfl (ResOK.cell rfl mm (by exact agg50.h)) ⟨(v3_3, v3_4, v3_5), (a0_1, y20y0_2, y20y0_3), rfl, rfl, rfl, rfl⟩ ms
noncomputable def s_DrawLogMark (a0 : List UInt8) : Option (D_Log × Int) :=
  Option.bind (s_l1New a0) (fun y1 => Option.bind (s_l6Some (y1.1, y1.2.1, y1.2.2)) (fun y2 => Option.bind (s_l1Below (y2.2.1, y2.2.2.1, y2.2.2.2) 8) (fun y3 => some ((y2.1.1, y2.1.2.1, y2.1.2.2), IntKind.wrap .i64 (IntKind.wrap .i64 (y2.1.2.2 + y3.1) - 1)))))
theorem s_DrawLogMark_walk (w : World) (a0 : TL UInt8) (h0 : GT.rd w [] a0) (r : D_Log × Int) (hp : s_DrawLogMark (GT.dat a0) = some r) : Spec Try.prog 33 [(TL.hdr a0)].toArray w [] (fun v M => ∃ (x0 : T_Log) (x1 : Int), v = .tuple #[.agg (GT.cells x0).toArray, .int .i64 x1] ∧ (GT.dat x0, GT.dat x1) = r ∧ M = [treeH x0]) := by
  refine Spec.intro Try.func33 rfl Try.ntmps33 rfl ?_
  unfold s_DrawLogMark at hp
  replace hp := dd hp
  refine s2 ?_
  refine al fun bk2 => ?_
  refine s5 ?_
  replace hp := ba hp; obtain ⟨y1, hy1, hp⟩ := hp
  refine L_callR rfl fn58.h rfl (by exact fun w hw => s_l1New_walk w a0 (RdT.now (RdT.old h0) hw) _ hy1) ?_
  rintro _ _ ⟨bky1, ⟨y1x_1, y1x_2, y1x_3⟩, rfl, rfl, rfl, hey1_0⟩
  obtain rfl : a0 = y1x_1 := hey1_0.symm
  refine sc ?_
  replace hp := dd hp
  refine s5 ?_
  replace hp := ba hp; obtain ⟨y2, hy2, hp⟩ := hp
  refine L_callM [blk bky1 _ _] _ rfl fn84.h rfl pc (by exact fun w hw => s_l6Some_walk w bky1 (a0, y1x_2, y1x_3) ((RdX.old h0) w hw) _ hy2) ?_
  rintro _ _ ⟨⟨y2x0_1, y2x0_2, y2x0_3⟩, ⟨y2y0_1, y2y0_2, y2y0_3⟩, rfl, rfl, rfl, hey2_0⟩
  obtain rfl : a0 = y2y0_1 := hey2_0.symm
  refine sc ?_
  replace hp := dd hp
  refine xL ((y2x0_1, y2x0_2, y2x0_3) : T_Log) ?_
  refine al fun bk5 => ?_
  refine s3 ?_
  replace hp := ba hp; obtain ⟨y3, hy3, hp⟩ := hp
  refine W_DS (pre := [_, _, _, _, _, _, _, _, _]) (suf := []) [3, 14] [blk bky1 _ 144, blk bk2 _ _] _ pc mix (by kernel_rfl) (by kernel_rfl) rfl ?_
  refine s4 ?_
  refine D_callM (fun v M => ∃ (x0 : Int) (y0 : T_l1Cur), v = .int .i64 x0 ∧ (GT.dat x0, GT.dat y0) = y3 ∧ M = [blk bky1 (GT.cells y0) 144] ∧ y0.1 = a0) [blk bky1 _ 144] pc fn59.h (OpVs.cons (OpV.t rfl) (OpVs.cons OpV.c (OpVs.nil))) (by exact fun w F hw hM => s_l1Below_walk w bky1 (a0, y2y0_2, y2y0_3) 8 ((RdX.old h0) w hw) _ hy3) ?_
  refine D_bin GC.none (OpV.t rfl) (show OpV _ _ _ (.int .i64 y3.1) from ⟨_, rfl, fun u M h hc => by obtain ⟨x0, z0, hv, hd, _⟩ := h; subst hd; exact hv⟩) (fun hg => bv_add) ?_
  refine s1 ?_
  refine D_storeW (OpV.t rfl) (OpV.t rfl) pk (by exact agg50.h) (by rfl) ocs ?_
  refine s6 ?_
  refine Give_R rfl rfl ?_
  rintro _ _ ⟨y3x0, ⟨y3y0_1, y3y0_2, y3y0_3⟩, rfl, rfl, rfl, hey3_0⟩
  obtain rfl : a0 = y3y0_1 := hey3_0.symm
  refine s5 ?_
  refine sc ?_
  replace hp := dd hp
  refine s1 ?_
  obtain rfl := Option.some.inj hp
  refine jW ((y2x0_1, y2x0_2, y2x0_3) : T_Log) ?_
  refine s1 ?_
  refine res2 rfl (ResOK.cell rfl mm (by exact agg50.h)) (ResOK.tmp rfl) ⟨(y2x0_1, y2x0_2, y2x0_3), IntKind.wrap .i64 (IntKind.wrap .i64 (y2x0_3 + y3x0) - 1), rfl, rfl, rfl⟩ ms
noncomputable def w_FnLog (a0 : List UInt8) : Option Bool :=
  Option.bind (w_big a0) (fun y1 => cond y1 (some true) (Option.bind (i_LogNew ) (fun y3 => Option.bind (some ([] : List ByteArray)) (fun y5 => whileP (fun s6 : (List ByteArray) × Int × (List D_Seg) × Int × Int => cond (decide (s6.2.1 < 30)) (Option.bind (w_at a0 s6.2.1) (fun y8 => cond (decide ((y8).tmod 6 = 0)) (Option.bind (w_at a0 (IntKind.wrap .i64 (s6.2.1 + 1))) (fun y10 => Option.bind (i_LogMark (s6.2.2.1, s6.2.2.2.1, s6.2.2.2.2) (IntKind.wrap .i64 (s6.2.2.2.2 + (y10).tmod 3))) (fun y11 => cond (!(y11.2 == (decide (IntKind.wrap .i64 (s6.2.2.2.2 + (y10).tmod 3) < s6.2.2.2.1)))) (Option.map .inr (some false)) (cond y11.2 (Option.bind (slcP s6.1 (IntKind.wrap .i64 (IntKind.wrap .i64 (s6.2.2.2.2 + (y10).tmod 3) - s6.2.2.2.2)) (s6.1.length : Int)) (fun y15 => Option.bind (s_LogOk (y11.1.1, y11.1.2.1, y11.1.2.2)) (fun y17 => gb (!(!y17)) (i_LogRead (y11.1.1, y11.1.2.1, y11.1.2.2)) (fun y18 => gb (!(!y17)) (w_sameTexts y18 y15) (fun y19 => cond ((!y17) || (!y19)) (Option.map .inr (some false)) (some (.inl ((y15, IntKind.wrap .i64 (s6.2.1 + 1), y11.1.1, y11.1.2.1, y11.1.2.2))))))))) (Option.bind (s_LogOk (y11.1.1, y11.1.2.1, y11.1.2.2)) (fun y22 => gb (!(!y22)) (i_LogRead (y11.1.1, y11.1.2.1, y11.1.2.2)) (fun y23 => gb (!(!y22)) (w_sameTexts y23 s6.1) (fun y24 => cond ((!y22) || (!y24)) (Option.map .inr (some false)) (some (.inl ((s6.1, IntKind.wrap .i64 (s6.2.1 + 1), y11.1.1, y11.1.2.1, y11.1.2.2)))))))))))) (Option.bind (w_fresh a0 s6.2.1) (fun y27 => Option.bind (slcP y27 0 1) (fun y28 => Option.bind (w_at a0 (IntKind.wrap .i64 (s6.2.1 + 2))) (fun y30 => Option.bind (u8P (IntKind.wrap .u8 y30)) (fun y31 => Option.bind (some ([y31] : List UInt8)) (fun y32 => Option.bind (catP (strP y28) (strP y32)) (fun y34 => Option.bind (i_LogAdd (s6.2.2.1, s6.2.2.2.1, s6.2.2.2.2) y34) (fun y35 => cond y35.2 (Option.bind (some ([] : List ByteArray)) (fun y38 => Option.bind (appP y38 s6.1) (fun y40 => Option.bind (appP y40 [y34]) (fun y42 => Option.bind (s_LogOk (y35.1.1, y35.1.2.1, y35.1.2.2)) (fun y43 => gb (!(!y43)) (i_LogRead (y35.1.1, y35.1.2.1, y35.1.2.2)) (fun y44 => gb (!(!y43)) (w_sameTexts y44 y42) (fun y45 => cond ((!y43) || (!y45)) (Option.map .inr (some false)) (some (.inl ((y42, IntKind.wrap .i64 (s6.2.1 + 1), y35.1.1, y35.1.2.1, y35.1.2.2))))))))))) (Option.bind (s_LogOk (y35.1.1, y35.1.2.1, y35.1.2.2)) (fun y48 => gb (!(!y48)) (i_LogRead (y35.1.1, y35.1.2.1, y35.1.2.2)) (fun y49 => gb (!(!y48)) (w_sameTexts y49 s6.1) (fun y50 => cond ((!y48) || (!y50)) (Option.map .inr (some false)) (some (.inl ((s6.1, IntKind.wrap .i64 (s6.2.1 + 1), y35.1.1, y35.1.2.1, y35.1.2.2)))))))))))))))))) (Option.map .inr (Option.bind (w_at a0 3) (fun y54 => Option.bind (i_LogCut (s6.2.2.1, s6.2.2.2.1, s6.2.2.2.2) ((y54).tmod 70)) (fun y55 => Option.bind (i_LogRead (y55.1.1, y55.1.2.1, y55.1.2.2)) (fun y57 => gb (!(!y55.2)) (s_LogOk (y55.1.1, y55.1.2.1, y55.1.2.2)) (fun y58 => gb (!(((!y55.2) || (!y58)) || (decide ((s6.1.length : Int) < (y57.length : Int))))) (slcP s6.1 0 (y57.length : Int)) (fun y60 => gb (!(((!y55.2) || (!y58)) || (decide ((s6.1.length : Int) < (y57.length : Int))))) (w_sameTexts y57 y60) (fun y61 => cond ((((!y55.2) || (!y58)) || (decide ((s6.1.length : Int) < (y57.length : Int)))) || (!y61)) (some false) (Option.bind (s_DrawLogMark a0) (fun y63 => Option.bind (i_LogMark (y63.1.1, y63.1.2.1, y63.1.2.2) y63.2) (fun y64 => Option.bind (s_LogMark (y63.1.1, y63.1.2.1, y63.1.2.2) y63.2) (fun y65 => some (y64.2 == y65.2)))))))))))))) (y5, 0, y3.1, y3.2.1, y3.2.2)))))
theorem w_FnLog_walk (w : World) (a0 : TL UInt8) (h0 : GT.rd w [] a0) (r : Bool) (hp : w_FnLog (GT.dat a0) = some r) : Spec Try.prog 5 [(TL.hdr a0)].toArray w [] (IsV (.bool r)) := by
  refine Spec.intro Try.func5 rfl Try.ntmps5 rfl ?_
  unfold w_FnLog at hp
  replace hp := dd hp
  refine s8 ?_
  replace hp := ba hp; obtain ⟨y1, hy1, hp⟩ := hp
  refine L_callX rfl fn9.h rfl (by exact fun w hw => w_big_walk w a0 (RdT.now (RdT.old h0) hw) _ hy1) ?_
  refine s1 ?_
  refine kp [0, 22] ?_
  refine W_cond rfl (fun hc2 => ?_) (fun hc2 => ?_)
  · replace hp := cond_t hc2 hp
    refine s4 ?_
    obtain rfl := Option.some.inj hp
    refine s1 ?_
    refine res1 rfl (ResOK.tmp rfl) ⟨rfl, rfl⟩ ms
  · replace hp := cond_f hc2 hp
    refine s3 ?_
    replace hp := ba hp; obtain ⟨y3, hy3, hp⟩ := hp
    refine L_callR rfl fn26.h rfl (by exact fun w hw => i_LogNew_walk w   _ hy3) ?_
    rintro _ _ ⟨⟨y3x0_1, y3x0_2, y3x0_3⟩, rfl, rfl, rfl⟩
    refine sc ?_
    replace hp := dd hp
    refine xL ((y3x0_1, y3x0_2, y3x0_3) : T_Log) ?_
    refine al fun bk3 => ?_
    refine s4 ?_
    replace hp := ba hp; obtain ⟨y5, hy5, hp⟩ := hp
    refine L_mk0 ByteArray rfl el25.h (fun X4 hdX4 => ?_)
    obtain rfl : GT.dat X4 = y5 := hdX4.trans (Option.some.inj hy5)
    clear hy5 hdX4
    refine s8 ?_
    refine W_conv (M' := flH X4 :: _) (fun w h => fl_of_tree pk h) ?_
    refine W_while (σ := (TL ByteArray) × Int × (TL T_Seg) × Int × Int) GT.dat (fun ((v6_0, v6_1, v6_2, v6_3, v6_4) : (TL ByteArray) × Int × (TL T_Seg) × Int × Int) => [(4, (TL.hdr v6_0)), (5, .int .i64 v6_1)]) (fun ((v6_0, v6_1, v6_2, v6_3, v6_4) : (TL ByteArray) × Int × (TL T_Seg) × Int × Int) => [blk bk3 [(TL.hdr v6_2), .int .i64 v6_3, .int .i64 v6_4] 50, flH v6_0, treeH v6_2]) [(0, _), (3, _)] [] (X4, 0, y3x0_1, y3x0_2, y3x0_3) hp sb ms ?_
    clear hp
    rintro ⟨v6_0, v6_1, v6_2, v6_3, v6_4⟩ x6 hp hx6
    replace hp := dd hp
    refine kq [0, 3, 4, 5] ?_
    refine s6 ?_
    refine kp [0, 3, 4, 5, 26] ?_
    refine W_cond rfl (fun hc7 => ?_) (fun hc7 => ?_)
    · replace hp := cond_t hc7 hp
      refine s8 ?_
      replace hp := ba hp; obtain ⟨y8, hy8, hp⟩ := hp
      refine L_callX rfl fn15.h rfl (by exact fun w hw => w_at_walk w a0 v6_1 (RdT.now (RdT.old h0) hw) _ hy8) ?_
      refine s8 ?_
      refine kp [0, 3, 4, 5, 60] ?_
      refine W_cond rfl (fun hc9 => ?_) (fun hc9 => ?_)
      · replace hp := cond_t hc9 hp
        refine s1 ?_
        replace hp := ba hp; obtain ⟨y10, hy10, hp⟩ := hp
        refine W_D0 [6] mix (by kernel_rfl) rfl ?_
        refine s5 ?_
        refine D_callX GC.none fn15.h (OpVs.cons (OpV.t rfl) (OpVs.cons (OpV.t rfl) (OpVs.nil))) (by exact fun hg w F hF hM => w_at_walk w a0 (IntKind.wrap .i64 (v6_1 + 1)) (RdT.nowS (RdT.old h0) hF hM) _ hy10) ?_
        refine s18 ?_
        replace hp := ba hp; obtain ⟨y11, hy11, hp⟩ := hp
        refine L_callR rfl fn27.h rfl (by exact fun w hw => i_LogMark_walk w (v6_2, v6_3, v6_4) (IntKind.wrap .i64 (v6_4 + (y10).tmod 3)) (RdT.now (RdT.pair (RdT.tree mm) (RdT.pair RdT.int RdT.int)) hw) _ hy11) ?_
        rintro _ _ ⟨⟨y11x0_1, y11x0_2, y11x0_3⟩, y11x1, rfl, rfl, rfl⟩
        refine sc ?_
        replace hp := dd hp
        refine xL ((y11x0_1, y11x0_2, y11x0_3) : T_Log) ?_
        refine s3 ?_
        refine al fun bk7 => ?_
        refine s13 ?_
        refine kp [0, 3, 4, 5, 6, 7, 8, 81] ?_
        refine W_cond rfl (fun hc12 => ?_) (fun hc12 => ?_)
        · replace hp := cond_t hc12 hp
          refine s4 ?_
          replace hp := map_any hp; obtain ⟨a13, hp, hx_a13⟩ := hp
          obtain rfl := hx6 _ hx_a13
          obtain rfl := Option.some.inj hp
          refine s1 ?_
          refine res1 rfl (ResOK.tmp rfl) ⟨rfl, rfl⟩ ms
        · replace hp := cond_f hc12 hp
          refine s6 ?_
          refine kp [0, 3, 4, 5, 6, 7, 82] ?_
          refine W_cond rfl (fun hc14 => ?_) (fun hc14 => ?_)
          · replace hp := cond_t hc14 hp
            refine s6 ?_
            replace hp := ba hp; obtain ⟨y15, hy15, hp⟩ := hp
            refine L_slcE (X := v6_0) rfl rfl rfl rfl el25.h rfl (RdT.fl mm) hy15 (fun X16 hdX16 heX16 => ?_)
            have hsX16 := hy15
            subst hdX16
            refine s7 ?_
            replace hp := ba hp; obtain ⟨y17, hy17, hp⟩ := hp
            replace hp := gb_any hp; obtain ⟨y18, hy18, hp⟩ := hp
            replace hp := gb_any hp; obtain ⟨y19, hy19, hp⟩ := hp
            refine W_D0 [99] mix (by kernel_rfl) rfl ?_
            refine s1 ?_
            refine D_callX GC.none fn30.h (OpVs.cons (OpV.t rfl) (OpVs.nil)) (by exact fun hg w F hF hM => s_LogOk_walk w (y11x0_1, y11x0_2, y11x0_3) (RdT.nowS (RdT.pair (RdT.tree mm) (RdT.pair RdT.int RdT.int)) hF hM) _ hy17) ?_
            refine s3 ?_
            refine D_callGV (fun v M => ∃ (x0 : TL ByteArray), v = (TL.hdr x0) ∧ GT.dat x0 = y18 ∧ M = [treeH x0]) (GC.some rfl rfl) fn31.h (OpVs.cons (OpV.s rfl) (OpVs.nil)) (by exact fun hg w F hF hM => i_LogRead_walk w (y11x0_1, y11x0_2, y11x0_3) (RdT.nowS (RdT.pair (RdT.tree mm) (RdT.pair RdT.int RdT.int)) hF hM) _ (hy18 (gnot hg.2))) ?_
            refine s1 ?_
            refine D_callGR [_, _] (GC.some rfl rfl) fn13.h ⟨⟨_, rfl, fun _ _ h => h⟩, ⟨⟨_, rfl, fun _ _ h => h⟩, trivial⟩⟩ (by rintro hg w F vs hF hM ⟨v0, u0, M0, rfl, g0, hin0, ⟨v1, u1, M1, rfl, g1, hin1, rfl⟩⟩; obtain ⟨m0, rfl, hd0, rfl⟩ := g0.1 hg; subst hd0; obtain rfl := g1.2.1 hg; exact w_sameTexts_walk w m0 X16 (rd_of_tree (hin0 _ (List.mem_singleton.2 rfl)) hF.sees) (RdT.nowS (RdT.map (slcE_rd heX16 hsX16) (RdT.fl mm)) hF hM) _ (hy19 (gnot hg.2))) ?_
            refine s14 ?_
            refine kp [0, 3, 4, 5, 99] ?_
            refine W_cond rfl (fun hc20 => ?_) (fun hc20 => ?_)
            · replace hp := cond_t hc20 hp
              refine s4 ?_
              replace hp := map_any hp; obtain ⟨a21, hp, hx_a21⟩ := hp
              obtain rfl := hx6 _ hx_a21
              obtain rfl := Option.some.inj hp
              refine s1 ?_
              refine res1 rfl (ResOK.tmp rfl) ⟨rfl, rfl⟩ ms
            · replace hp := cond_f hc20 hp
              refine s6 ?_
              exact ⟨(X16, IntKind.wrap .i64 (v6_1 + 1), y11x0_1, y11x0_2, y11x0_3), sb, ⟨_, fun w h => (fl_slc heX16 hsX16 pk h), ms⟩, some_eq hp⟩
          · replace hp := cond_f hc14 hp
            refine s6 ?_
            replace hp := ba hp; obtain ⟨y22, hy22, hp⟩ := hp
            replace hp := gb_any hp; obtain ⟨y23, hy23, hp⟩ := hp
            replace hp := gb_any hp; obtain ⟨y24, hy24, hp⟩ := hp
            refine W_D0 [99] mix (by kernel_rfl) rfl ?_
            refine s1 ?_
            refine D_callX GC.none fn30.h (OpVs.cons (OpV.t rfl) (OpVs.nil)) (by exact fun hg w F hF hM => s_LogOk_walk w (y11x0_1, y11x0_2, y11x0_3) (RdT.nowS (RdT.pair (RdT.tree mm) (RdT.pair RdT.int RdT.int)) hF hM) _ hy22) ?_
            refine s3 ?_
            refine D_callGV (fun v M => ∃ (x0 : TL ByteArray), v = (TL.hdr x0) ∧ GT.dat x0 = y23 ∧ M = [treeH x0]) (GC.some rfl rfl) fn31.h (OpVs.cons (OpV.s rfl) (OpVs.nil)) (by exact fun hg w F hF hM => i_LogRead_walk w (y11x0_1, y11x0_2, y11x0_3) (RdT.nowS (RdT.pair (RdT.tree mm) (RdT.pair RdT.int RdT.int)) hF hM) _ (hy23 (gnot hg.2))) ?_
            refine s1 ?_
            refine D_callGR [_, _] (GC.some rfl rfl) fn13.h ⟨⟨_, rfl, fun _ _ h => h⟩, ⟨⟨_, rfl, fun _ _ h => h⟩, trivial⟩⟩ (by rintro hg w F vs hF hM ⟨v0, u0, M0, rfl, g0, hin0, ⟨v1, u1, M1, rfl, g1, hin1, rfl⟩⟩; obtain ⟨m0, rfl, hd0, rfl⟩ := g0.1 hg; subst hd0; obtain rfl := g1.2.1 hg; exact w_sameTexts_walk w m0 v6_0 (rd_of_tree (hin0 _ (List.mem_singleton.2 rfl)) hF.sees) (RdT.nowS (RdT.fl mm) hF hM) _ (hy24 (gnot hg.2))) ?_
            refine s14 ?_
            refine kp [0, 3, 4, 5, 99] ?_
            refine W_cond rfl (fun hc25 => ?_) (fun hc25 => ?_)
            · replace hp := cond_t hc25 hp
              refine s4 ?_
              replace hp := map_any hp; obtain ⟨a26, hp, hx_a26⟩ := hp
              obtain rfl := hx6 _ hx_a26
              obtain rfl := Option.some.inj hp
              refine s1 ?_
              refine res1 rfl (ResOK.tmp rfl) ⟨rfl, rfl⟩ ms
            · replace hp := cond_f hc25 hp
              refine s6 ?_
              exact ⟨(v6_0, IntKind.wrap .i64 (v6_1 + 1), y11x0_1, y11x0_2, y11x0_3), sb, (.sub ms), some_eq hp⟩
      · replace hp := cond_f hc9 hp
        refine s1 ?_
        refine W_AH [] mix ?_
        refine AH_take 0 rfl (PU_move rfl rfl) (by kernel_rfl) (by kernel_rfl) (by kernel_rfl) trivial ?_
        refine AH_take 1 rfl (PU_move rfl rfl) (by kernel_rfl) (by kernel_rfl) (by kernel_rfl) trivial ?_
        refine AH_take 5 rfl (PU_move rfl rfl) (by kernel_rfl) (by kernel_rfl) (by kernel_rfl) trivial ?_
        refine AH_take 6 rfl (PU_move rfl rfl) (by kernel_rfl) (by kernel_rfl) (by kernel_rfl) trivial ?_
        refine AH_take 7 rfl (PU_binV rfl rfl rfl bv_add) (by kernel_rfl) (by kernel_rfl) (by kernel_rfl) trivial ?_
        refine AH_one 2 rfl rfl (by kernel_rfl) ?_
        replace hp := ba hp; obtain ⟨y27, hy27, hp⟩ := hp
        refine L_callR rfl fn28.h rfl (by exact fun w hw => w_fresh_walk w a0 v6_1 (RdT.now (RdT.old h0) hw) _ hy27) ?_
        rintro _ _ ⟨y27x0, rfl, rfl, rfl⟩
        refine sc ?_
        replace hp := dd hp
        refine L_nil ⟨trivial, ?_⟩
        refine AH_A [treeH y27x0] trivial ?_
        replace hp := ba hp; obtain ⟨y28, hy28, hp⟩ := hp
        refine AH_take 3 rfl (PU_slcE (X := y27x0) (a := (0 : Int)) (b := 1) rfl rfl rfl rfl el22.h rfl (RdT.tree mm) hy28) (by kernel_rfl) (by kernel_rfl) (by kernel_rfl) ⟨mm, trivial⟩ ?_
        obtain ⟨X29, heX29, hdX29⟩ := slc_ex hy28
        rw [← heX29]
        have hsX29 := hy28
        subst hdX29
        refine AH_take 4 rfl (PU_toStr (X := X29) rfl rfl und22.h und5.h und9.h (RdT.map (slcE_rd heX29 hsX29) (RdT.tree mm))) (by kernel_rfl) (by kernel_rfl) (by kernel_rfl) ⟨mm, trivial⟩ ?_
        refine AH_one 8 rfl rfl (by kernel_rfl) ?_
        replace hp := ba hp; obtain ⟨y30, hy30, hp⟩ := hp
        refine L_callX rfl fn15.h rfl (by exact fun w hw => w_at_walk w a0 (IntKind.wrap .i64 (v6_1 + 2)) (RdT.now (RdT.old h0) hw) _ hy30) ?_
        refine L_nil ⟨⟨mm, trivial⟩, ?_⟩
        refine AH_take 9 rfl (PU_convInt rfl rfl und5.h (by rw [und3.h]; rfl)) (by kernel_rfl) (by kernel_rfl) (by kernel_rfl) ⟨mm, trivial⟩ ?_
        refine AH_one 10 rfl rfl (by kernel_rfl) ?_
        replace hp := ba hp; obtain ⟨y31, hy31, hp⟩ := hp
        have ey31 := u8P_some hy31
        try simp only [dat_u8] at ey31
        try simp only [ey31]
        replace hp := ba hp; obtain ⟨y32, hy32, hp⟩ := hp
        refine L_bsN ([y31] : List UInt8) (xs := [(0, .tmp 42)]) rfl rfl el22.h rfl rfl rfl rfl rfl rfl rfl hy32 (fun X33 hdX33 => ?_)
        subst hdX33
        refine L_nil ⟨⟨mm, trivial⟩, ?_⟩
        refine AH_A [treeH X33, treeH y27x0] ⟨mm, trivial⟩ ?_
        refine AH_take 11 rfl (PU_toStr (X := X33) rfl rfl und22.h und5.h und9.h (RdT.tree mm)) (by kernel_rfl) (by kernel_rfl) (by kernel_rfl) ⟨mm, ⟨mm, trivial⟩⟩ ?_
        replace hp := ba hp; obtain ⟨y34, hy34, hp⟩ := hp
        refine AH_take 12 rfl (PU_binV rfl rfl rfl (bv_saddP hy34)) (by kernel_rfl) (by kernel_rfl) (by kernel_rfl) ⟨mm, ⟨mm, trivial⟩⟩ ?_
        refine AH_one 13 rfl rfl (by kernel_rfl) ?_
        refine s1 ?_
        refine L_nil ⟨⟨mm, ⟨mm, trivial⟩⟩, ?_⟩
        refine AH_done (by kernel_rfl) ?_
        refine s4 ?_
        replace hp := ba hp; obtain ⟨y35, hy35, hp⟩ := hp
        refine L_callR rfl fn29.h rfl (by exact fun w hw => i_LogAdd_walk w (v6_2, v6_3, v6_4) y34 (RdT.now (RdT.pair (RdT.tree mm) (RdT.pair RdT.int RdT.int)) hw) _ hy35) ?_
        rintro _ _ ⟨⟨y35x0_1, y35x0_2, y35x0_3⟩, y35x1, rfl, rfl, rfl⟩
        refine sc ?_
        replace hp := dd hp
        refine xL ((y35x0_1, y35x0_2, y35x0_3) : T_Log) ?_
        refine s3 ?_
        refine al fun bk10 => ?_
        refine s8 ?_
        refine kp [0, 3, 4, 5, 9, 10, 52] ?_
        refine W_cond rfl (fun hc36 => ?_) (fun hc36 => ?_)
        · replace hp := cond_t hc36 hp
          refine s1 ?_
          replace hp := ba hp; obtain ⟨y38, hy38, hp⟩ := hp
          refine L_mk0 ByteArray rfl el25.h (fun X37 hdX37 => ?_)
          obtain rfl : GT.dat X37 = y38 := hdX37.trans (Option.some.inj hy38)
          clear hy38 hdX37
          refine s1 ?_
          replace hp := ba hp; obtain ⟨y40, hy40, hp⟩ := hp
          refine L_appT (X := X37) (Y := v6_0) rfl rfl rfl el25.h rfl rfl pk (RdT.fl mm) hy40 (by decide) (fun X39 hdX39 => ?_)
          subst hdX39
          refine s1 ?_
          refine L_buildSlice1 rfl rfl el25.h rfl (by decide) (by decide) rfl (fun bb57 => ?_)
          replace hp := ba hp; obtain ⟨y42, hy42, hp⟩ := hp
          refine L_app1F (X := X39) (y34 : ByteArray) rfl rfl rfl el25.h rfl rfl pk mm  hy42 (by decide) (fun X41 hdX41 => ?_)
          subst hdX41
          refine s7 ?_
          replace hp := ba hp; obtain ⟨y43, hy43, hp⟩ := hp
          replace hp := gb_any hp; obtain ⟨y44, hy44, hp⟩ := hp
          replace hp := gb_any hp; obtain ⟨y45, hy45, hp⟩ := hp
          refine W_D0 [99] mix (by kernel_rfl) rfl ?_
          refine s1 ?_
          refine D_callX GC.none fn30.h (OpVs.cons (OpV.t rfl) (OpVs.nil)) (by exact fun hg w F hF hM => s_LogOk_walk w (y35x0_1, y35x0_2, y35x0_3) (RdT.nowS (RdT.pair (RdT.tree mm) (RdT.pair RdT.int RdT.int)) hF hM) _ hy43) ?_
          refine s3 ?_
          refine D_callGV (fun v M => ∃ (x0 : TL ByteArray), v = (TL.hdr x0) ∧ GT.dat x0 = y44 ∧ M = [treeH x0]) (GC.some rfl rfl) fn31.h (OpVs.cons (OpV.s rfl) (OpVs.nil)) (by exact fun hg w F hF hM => i_LogRead_walk w (y35x0_1, y35x0_2, y35x0_3) (RdT.nowS (RdT.pair (RdT.tree mm) (RdT.pair RdT.int RdT.int)) hF hM) _ (hy44 (gnot hg.2))) ?_
          refine s1 ?_
          refine D_callGR [_, _] (GC.some rfl rfl) fn13.h ⟨⟨_, rfl, fun _ _ h => h⟩, ⟨⟨_, rfl, fun _ _ h => h⟩, trivial⟩⟩ (by rintro hg w F vs hF hM ⟨v0, u0, M0, rfl, g0, hin0, ⟨v1, u1, M1, rfl, g1, hin1, rfl⟩⟩; obtain ⟨m0, rfl, hd0, rfl⟩ := g0.1 hg; subst hd0; obtain rfl := g1.2.1 hg; exact w_sameTexts_walk w m0 X41 (rd_of_tree (hin0 _ (List.mem_singleton.2 rfl)) hF.sees) (RdT.nowS (RdT.tree mm) hF hM) _ (hy45 (gnot hg.2))) ?_
          refine s14 ?_
          refine kp [0, 3, 4, 5, 99] ?_
          refine W_cond rfl (fun hc46 => ?_) (fun hc46 => ?_)
          · replace hp := cond_t hc46 hp
            refine s4 ?_
            replace hp := map_any hp; obtain ⟨a47, hp, hx_a47⟩ := hp
            obtain rfl := hx6 _ hx_a47
            obtain rfl := Option.some.inj hp
            refine s1 ?_
            refine res1 rfl (ResOK.tmp rfl) ⟨rfl, rfl⟩ ms
          · replace hp := cond_f hc46 hp
            refine s6 ?_
            exact ⟨(X41, IntKind.wrap .i64 (v6_1 + 1), y35x0_1, y35x0_2, y35x0_3), sb, ⟨_, fun w h => (fl_of_tree pk h), ms⟩, some_eq hp⟩
        · replace hp := cond_f hc36 hp
          refine s6 ?_
          replace hp := ba hp; obtain ⟨y48, hy48, hp⟩ := hp
          replace hp := gb_any hp; obtain ⟨y49, hy49, hp⟩ := hp
          replace hp := gb_any hp; obtain ⟨y50, hy50, hp⟩ := hp
          refine W_D0 [99] mix (by kernel_rfl) rfl ?_
          refine s1 ?_
          refine D_callX GC.none fn30.h (OpVs.cons (OpV.t rfl) (OpVs.nil)) (by exact fun hg w F hF hM => s_LogOk_walk w (y35x0_1, y35x0_2, y35x0_3) (RdT.nowS (RdT.pair (RdT.tree mm) (RdT.pair RdT.int RdT.int)) hF hM) _ hy48) ?_
          refine s3 ?_
          refine D_callGV (fun v M => ∃ (x0 : TL ByteArray), v = (TL.hdr x0) ∧ GT.dat x0 = y49 ∧ M = [treeH x0]) (GC.some rfl rfl) fn31.h (OpVs.cons (OpV.s rfl) (OpVs.nil)) (by exact fun hg w F hF hM => i_LogRead_walk w (y35x0_1, y35x0_2, y35x0_3) (RdT.nowS (RdT.pair (RdT.tree mm) (RdT.pair RdT.int RdT.int)) hF hM) _ (hy49 (gnot hg.2))) ?_
          refine s1 ?_
          refine D_callGR [_, _] (GC.some rfl rfl) fn13.h ⟨⟨_, rfl, fun _ _ h => h⟩, ⟨⟨_, rfl, fun _ _ h => h⟩, trivial⟩⟩ (by rintro hg w F vs hF hM ⟨v0, u0, M0, rfl, g0, hin0, ⟨v1, u1, M1, rfl, g1, hin1, rfl⟩⟩; obtain ⟨m0, rfl, hd0, rfl⟩ := g0.1 hg; subst hd0; obtain rfl := g1.2.1 hg; exact w_sameTexts_walk w m0 v6_0 (rd_of_tree (hin0 _ (List.mem_singleton.2 rfl)) hF.sees) (RdT.nowS (RdT.fl mm) hF hM) _ (hy50 (gnot hg.2))) ?_
          refine s14 ?_
          refine kp [0, 3, 4, 5, 99] ?_
          refine W_cond rfl (fun hc51 => ?_) (fun hc51 => ?_)
          · replace hp := cond_t hc51 hp
            refine s4 ?_
            replace hp := map_any hp; obtain ⟨a52, hp, hx_a52⟩ := hp
            obtain rfl := hx6 _ hx_a52
            obtain rfl := Option.some.inj hp
            refine s1 ?_
            refine res1 rfl (ResOK.tmp rfl) ⟨rfl, rfl⟩ ms
          · replace hp := cond_f hc51 hp
            refine s6 ?_
            exact ⟨(v6_0, IntKind.wrap .i64 (v6_1 + 1), y35x0_1, y35x0_2, y35x0_3), sb, (.sub ms), some_eq hp⟩
    · replace hp := cond_f hc7 hp
      refine W_exit ?_
      replace hp := map_any hp; obtain ⟨a53, hp, hx_a53⟩ := hp
      obtain rfl := hx6 _ hx_a53
      refine s1 ?_
      replace hp := ba hp; obtain ⟨y54, hy54, hp⟩ := hp
      replace hp := ba hp; obtain ⟨y55, hy55, hp⟩ := hp
      refine W_D0 [12, 13] mix (by kernel_rfl) rfl ?_
      refine s2 ?_
      refine D_callX GC.none fn15.h (OpVs.cons (OpV.t rfl) (OpVs.cons OpV.c (OpVs.nil))) (by exact fun hg w F hF hM => w_at_walk w a0 3 (RdT.nowS (RdT.old h0) hF hM) _ hy54) ?_
      refine s1 ?_
      refine D_call1R (fun v M => ∃ (x0 : T_Log) (x1 : Bool), v = .tuple #[.agg (GT.cells x0).toArray, .bool x1] ∧ (GT.dat x0, GT.dat x1) = y55 ∧ M = [treeH x0]) fn32.h (OpVs.cons (OpV.t rfl) (OpVs.cons (OpV.t rfl) (OpVs.nil))) (by exact fun w F hF hM => i_LogCut_walk w (v6_2, v6_3, v6_4) ((y54).tmod 70) (RdT.nowS (RdT.pair (RdT.tree mm) (RdT.pair RdT.int RdT.int)) hF hM) _ hy55) ?_
      refine D_moveC (t := 105) rfl (by kernel_rfl) ?_
      refine D_extractC (t := 100) (AggV (τ := T_Log) y55.1) rfl (by rintro v M ⟨x0, x1, rfl, hd, rfl⟩; subst hd; exact ⟨_, _, rfl, rfl, x0, rfl, rfl, rfl⟩) (by kernel_rfl) ?_
      refine D_extractW (t := 100) (.bool y55.2) rfl (by rintro v M ⟨-, M', x0, x1, rfl, hd, -⟩; subst hd; exact ⟨_, rfl, rfl⟩) ?_
      refine D_alloc zero50.h ?_
      refine D_storeK (p := 12) (x := 106) rfl rfl (by exact agg50.h) rfl (by kernel_rfl) ?_
      refine s3 ?_
      refine Give_R rfl rfl ?_
      rintro _ _ ⟨bk12, X56, rfl, hdX56, rfl⟩
      try rw [← hdX56] at hp
      obtain ⟨X56_1, X56_2, X56_3⟩ := X56
      refine s10 ?_
      refine sc ?_
      replace hp := dd hp
      refine xW ((X56_1, X56_2, X56_3) : T_Log) ?_
      refine s3 ?_
      replace hp := ba hp; obtain ⟨y57, hy57, hp⟩ := hp
      refine L_callR rfl fn31.h rfl (by exact fun w hw => i_LogRead_walk w (X56_1, X56_2, X56_3) (RdT.now (RdT.pair (RdT.tree mm) (RdT.pair RdT.int RdT.int)) hw) _ hy57) ?_
      rintro _ _ ⟨y57x0, rfl, rfl, rfl⟩
      refine sc ?_
      replace hp := dd hp
      refine s4 ?_
      replace hp := gb_any hp; obtain ⟨y58, hy58, hp⟩ := hp
      replace hp := gb_anyD hp; obtain ⟨y60, hy60, hny60, hp⟩ := hp
      replace hp := gb_any hp; obtain ⟨y61, hy61, hp⟩ := hp
      refine W_D0 [132] mix (by kernel_rfl) rfl ?_
      refine s4 ?_
      refine D_callX (GC.some rfl rfl) fn30.h (OpVs.cons (OpV.s rfl) (OpVs.nil)) (by exact fun hg w F hF hM => s_LogOk_walk w (X56_1, X56_2, X56_3) (RdT.nowS (RdT.pair (RdT.tree mm) (RdT.pair RdT.int RdT.int)) hF hM) _ (hy58 (gnot hg.2))) ?_
      refine s4 ?_
      refine D_lenP (X := y57x0) (GC.some rfl rfl) (OpV.s rfl) el25.h ?_
      refine s1 ?_
      refine D_lenP (X := v6_0) (GC.some rfl rfl) (OpV.s rfl) el25.h ?_
      refine s6 ?_
      refine D_lenP (X := y57x0) (GC.some rfl rfl) (OpV.s rfl) el25.h ?_
      refine D_slcG (X := v6_0) (GC.some rfl rfl) (OpV.s rfl) optD.none (optD.some (OpV.s rfl)) el25.h rfl (RdT.fl mm) (fun hg => hy60 (gnot hg.2)) (fun hn => hny60 (by simpa using hn)) (fun X59 hdX59 hRX59 => ?_)
      subst hdX59
      refine D_callX (GC.some rfl rfl) fn13.h (OpVs.cons (OpV.s rfl) (OpVs.cons (OpV.s rfl) (OpVs.nil))) (by exact fun hg w F hF hM => w_sameTexts_walk w y57x0 X59 (RdT.nowS (RdT.tree mm) hF hM) (RdT.nowS (RdT.map hRX59 (RdT.fl mm)) hF hM) _ (hy61 (gnot hg.2))) ?_
      refine s20 ?_
      refine s7 ?_
      refine kp [0, 132] ?_
      refine W_cond rfl (fun hc62 => ?_) (fun hc62 => ?_)
      · replace hp := cond_t hc62 hp
        refine s4 ?_
        obtain rfl := Option.some.inj hp
        refine s1 ?_
        refine res1 rfl (ResOK.tmp rfl) ⟨rfl, rfl⟩ ms
      · replace hp := cond_f hc62 hp
        refine s4 ?_
        replace hp := ba hp; obtain ⟨y63, hy63, hp⟩ := hp
        refine L_callR rfl fn33.h rfl (by exact fun w hw => s_DrawLogMark_walk w a0 (RdT.now (RdT.old h0) hw) _ hy63) ?_
        rintro _ _ ⟨⟨y63x0_1, y63x0_2, y63x0_3⟩, y63x1, rfl, rfl, rfl⟩
        refine sc ?_
        replace hp := dd hp
        refine xL ((y63x0_1, y63x0_2, y63x0_3) : T_Log) ?_
        refine s3 ?_
        refine al fun bk15 => ?_
        refine s7 ?_
        replace hp := ba hp; obtain ⟨y64, hy64, hp⟩ := hp
        refine L_callR rfl fn27.h rfl (by exact fun w hw => i_LogMark_walk w (y63x0_1, y63x0_2, y63x0_3) y63x1 (RdT.now (RdT.pair (RdT.tree mm) (RdT.pair RdT.int RdT.int)) hw) _ hy64) ?_
        rintro _ _ ⟨⟨y64x0_1, y64x0_2, y64x0_3⟩, y64x1, rfl, rfl, rfl⟩
        refine sc ?_
        replace hp := dd hp
        refine xL ((y64x0_1, y64x0_2, y64x0_3) : T_Log) ?_
        refine s3 ?_
        refine al fun bk17 => ?_
        refine s7 ?_
        replace hp := ba hp; obtain ⟨y65, hy65, hp⟩ := hp
        refine L_callR rfl fn34.h rfl (by exact fun w hw => s_LogMark_walk w (y63x0_1, y63x0_2, y63x0_3) y63x1 (RdT.now (RdT.pair (RdT.tree mm) (RdT.pair RdT.int RdT.int)) hw) _ hy65) ?_
        rintro _ _ ⟨⟨y65x0_1, y65x0_2, y65x0_3⟩, y65x1, rfl, rfl, rfl⟩
        refine sc ?_
        replace hp := dd hp
        refine xL ((y65x0_1, y65x0_2, y65x0_3) : T_Log) ?_
        refine s3 ?_
        refine al fun bk19 => ?_
        refine s10 ?_
        obtain rfl := Option.some.inj hp
        refine s1 ?_
        refine res1 rfl (ResOK.tmp rfl) ⟨rfl, rfl⟩ ms
end Go.Proofs.SL
namespace Go.Proofs.SL
open Go
def tl (s : ByteArray) : Bs := s.data.toList
theorem tl_eq (s : ByteArray) : strP (tl s) = s := by unfold strP tl; simp
theorem tl_str (l : Bs) : tl (strP l) = l := by unfold strP tl; simp
theorem tl_len (s : ByteArray) : (tl s).length = s.size := by unfold tl; simp
open Classical in
noncomputable def unL (t : Bs) : List Bs := if h : ∃ ts e, Un t ts e then h.choose else []
open Classical in
noncomputable def unE (t : Bs) : Nat := if h : ∃ ts e, Un t ts e then h.choose_spec.choose else 0
theorem un_of {t : Bs} (h : ∃ ts e, Un t ts e) : Un t (unL t) (unE t) := by
  unfold unL unE; rw [dif_pos h, dif_pos h]; exact h.choose_spec.choose_spec
theorem un_spec {t : Bs} (ht : t.length ≤ 1000000000) : Un t (unL t) (unE t) := un_of (by obtain ⟨ts, e, _, h⟩ := i_Unframe_eq ht; exact ⟨ts, e, h⟩)
noncomputable def recs (s : ByteArray) : List Bs := unL (tl s)
noncomputable def endd (s : ByteArray) : Nat := unE (tl s)
theorem i_un {s : ByteArray} (h : s.size ≤ 1000000000) : i_Unframe s = some ((recs s).map strP, ((endd s : Nat) : Int)) := by
  obtain ⟨ts, e, h1, h2⟩ := i_Unframe_eq (t := tl s) (by rw [tl_len]; exact h)
  obtain ⟨rfl, rfl⟩ := Un_uniq h2 (un_spec (by rw [tl_len]; exact h))
  rw [tl_eq] at h1; exact h1
theorem s_un {s : ByteArray} (h : s.size ≤ 1000000000) : s_Unframe s = some ((recs s).map strP, ((endd s : Nat) : Int)) := by
  obtain ⟨ts, e, h1, h2⟩ := s_Unframe_eq (t := tl s) (by rw [tl_len]; exact h)
  obtain ⟨rfl, rfl⟩ := Un_uniq h2 (un_spec (by rw [tl_len]; exact h))
  rw [tl_eq] at h1; exact h1
theorem flat_len {r : List Bs} (h : ∀ x, x ∈ r → x.length ≤ 200) : 5 * r.length ≤ (r.flatMap frL).length := by
  induction r with
  | nil => simp
  | cons x r ih =>
    have h1 := (frL_len (h x (List.mem_cons_self))).1
    have h2 := ih fun y hy => h y (List.mem_cons_of_mem _ hy)
    rw [List.flatMap_cons, List.length_append, List.length_cons]; omega
theorem recs_len {s : ByteArray} (h : s.size ≤ 1000000000) : 5 * (recs s).length ≤ s.size := by
  have h1 := un_spec (t := tl s) (by rw [tl_len]; exact h)
  have h2 := flat_len h1.1
  rw [h1.2.1, List.length_take, tl_len] at h2
  unfold recs; omega
/-- A text that is frames and nothing else. -/
theorem un_flat {r : List Bs} (h : ∀ x, x ∈ r → x.length ≤ 200) : Un (r.flatMap frL) r (r.flatMap frL).length := by
  refine ⟨h, by rw [List.take_length], Nat.le_refl _, fun x hx => ?_⟩
  rw [List.drop_length] at hx
  have h1 := hx.2.length_le
  have h2 := (frL_len hx.1).1
  rw [List.length_nil] at h1; omega
theorem recs_flat {r : List Bs} (h : ∀ x, x ∈ r → x.length ≤ 200) : recs (strP (r.flatMap frL)) = r ∧ endd (strP (r.flatMap frL)) = (r.flatMap frL).length := by
  unfold recs endd; rw [tl_str]
  exact Un_uniq (un_of ⟨_, _, un_flat h⟩) (un_flat h)
theorem whole_flat {s : ByteArray} (h : s.size ≤ 1000000000) (he : endd s = s.size) : s = strP ((recs s).flatMap frL) ∧ ∀ x, x ∈ recs s → x.length ≤ 200 := by
  have h1 := un_spec (t := tl s) (by rw [tl_len]; exact h)
  refine ⟨?_, h1.1⟩
  have h2 := h1.2.1
  rw [show unE (tl s) = (tl s).length by rw [tl_len]; exact he, List.take_length] at h2
  unfold recs; rw [h2, tl_eq]
/-- A segment in its place. -/
noncomputable def segOk (mark next : Int) (s : D_Seg) (last : Bool) : Bool := decide (endd s.2 = s.2.size) && (decide (s.2.size ≤ 60) || decide ((recs s.2).length = 1)) && decide (s.1 = next) && (last || (decide ((recs s.2).length ≠ 0) && decide (mark < next + (recs s.2).length - 1)))
noncomputable def segsOk (mark : Int) : Int → List D_Seg → Option Int
  | next, [] => some next
  | next, s :: l => if segOk mark next s l.isEmpty then segsOk mark (next + (recs s.2).length) l else none
noncomputable def logOkD (d : D_Log) : Bool := decide (1 ≤ d.1.length ∧ d.1.length ≤ 6) && (match d.1 with
  | [] => false
  | s :: l => decide (1 ≤ s.1 ∧ s.1 ≤ 1000) && (match segsOk d.2.2 s.1 (s :: l) with
    | none => false
    | some e => decide (d.2.1 = e) && decide (e ≤ 1000) && decide (0 ≤ d.2.2 ∧ d.2.2 ≤ e - 1)))
theorem segs_loop {l : List D_Seg} {mark : Int} {f : Int × Int → Option ((Int × Int) ⊕ Bool)} {fin : Int → Option Bool}
    (hf : ∀ (next : Int) (k : Nat) (s : D_Seg), l[k]? = some s → 0 ≤ next ∧ next ≤ 1000 + 1000000000 * k → f (next, (k : Int)) = if segOk mark next s (decide (k + 1 = l.length)) then some (.inl (next + (recs s.2).length, ((k + 1 : Nat) : Int))) else some (.inr false))
    (hs : ∀ s, s ∈ l → s.2.size ≤ 1000000000) (hn : ∀ next : Int, 0 ≤ next ∧ next ≤ 1000 + 1000000000 * l.length → f (next, (l.length : Int)) = (fin next).map .inr) :
    ∀ (m k : Nat) (next : Int), k + m = l.length → 0 ≤ next ∧ next ≤ 1000 + 1000000000 * k → whileP f (next, (k : Int)) = match segsOk mark next (l.drop k) with
      | none => some false
      | some e => fin e
  | 0, k, next, hk, hb => by
    obtain rfl : k = l.length := by omega
    rw [whileP_eq, hn next hb, List.drop_length]
    simp only [segsOk]
    cases fin next <;> rfl
  | m + 1, k, next, hk, hb => by
    have hlt : k < l.length := by omega
    have hx : l[k]? = some l[k] := List.getElem?_eq_getElem hlt
    have hd : l.drop k = l[k] :: l.drop (k + 1) := List.drop_eq_getElem_cons hlt
    have hm : l[k] ∈ l := List.getElem_mem hlt
    rw [hd]
    generalize l[k] = s at hx hm
    have he : (l.drop (k + 1)).isEmpty = decide (k + 1 = l.length) := by
      rw [Bool.eq_iff_iff, List.isEmpty_iff, List.drop_eq_nil_iff, decide_eq_true_eq]; omega
    rw [whileP_eq, hf next k s hx hb]
    unfold segsOk
    rw [he]
    cases hc : segOk mark next s (decide (k + 1 = l.length)) with
    | false => rfl
    | true =>
      have := recs_len (hs s hm)
      have := hs s hm
      simp only [if_true]
      exact segs_loop hf hs hn m (k + 1) _ (by omega) (by omega)
def LFit (d : D_Log) : Prop := d.1.length ≤ 1000 ∧ (∀ s, s ∈ d.1 → s.2.size ≤ 1000000000) ∧ (inR d.2.1 ∧ inR d.2.2)
theorem segOk_false {mark next : Int} {s : D_Seg} {b : Bool} : segOk mark next s b = (((decide (endd s.2 = s.2.size)) && (decide (s.2.size ≤ 60) || decide ((recs s.2).length = 1)) && decide (s.1 = next)) && (b || (decide ((recs s.2).length ≠ 0) && decide (mark < next + (recs s.2).length - 1)))) := rfl
theorem i_LogOk_eq {d : D_Log} (h : LFit d) : i_LogOk d = some (logOkD d) := by
  obtain ⟨segs, nx, mark⟩ := d
  obtain ⟨h1, h2, h3, h4⟩ := h
  dsimp only at h1 h2 h3 h4
  unfold i_LogOk logOkD
  simp only [within_eq, Option.bind_some]
  cases segs with
  | nil => rfl
  | cons s l =>
    have hx : idx (s :: l) 0 = some s := by rw [show (0 : Int) = ((0 : Nat) : Int) from rfl, idx_nat]; rfl
    rw [hx]
    simp only [gbs, Option.bind_some]
    by_cases c1 : (s :: l).length ≤ 6
    · have e1 : decide (1 ≤ ((s :: l).length : Int) ∧ ((s :: l).length : Int) ≤ 6) = true := decide_eq_true ⟨by simp; omega, by omega⟩
      have e2 : decide (1 ≤ (s :: l).length ∧ (s :: l).length ≤ 6) = true := decide_eq_true ⟨by simp, c1⟩
      rw [e1, e2]
      simp only [Bool.not_true, Bool.not_false, if_true, Bool.false_or, Bool.true_and]
      by_cases c2 : 1 ≤ s.1
      · by_cases c3 : s.1 ≤ 1000
        · have e3 : decide (s.1 < 1) = false := by simp; omega
          have e4 : decide (1000 < s.1) = false := by simp; omega
          have e5 : decide (1 ≤ s.1 ∧ s.1 ≤ 1000) = true := decide_eq_true ⟨c2, c3⟩
          simp only [e3, e4, e5, Bool.not_false, if_true, Bool.or_self, cond_false, Bool.true_and]
          rw [show ((s.1, (0 : Int)) : Int × Int) = (s.1, ((0 : Nat) : Int)) from rfl]
          rw [segs_loop (l := s :: l) (mark := mark) (fin := fun next => some (decide (nx = next) && decide (next ≤ 1000) && decide (0 ≤ mark ∧ mark ≤ next - 1))) ?_ h2 ?_ (s :: l).length 0 s.1 (by omega) (by omega)]
          · rw [List.drop_zero]; cases segsOk mark s.1 (s :: l) <;> rfl
          · intro next k t ht hb
            have hlt := (List.getElem?_eq_some_iff.1 ht).1
            have hsz := h2 t (List.mem_of_getElem? ht)
            have hrl := recs_len hsz
            have w0 : IntKind.wrap .i64 (((s :: l).length : Int) - 1) = ((s :: l).length : Int) - 1 := wrap64_in (by unfold inR; omega)
            have w1 : IntKind.wrap .i64 (next + ((recs t.2).length : Int)) = next + ((recs t.2).length : Int) := wrap64_in (by unfold inR; omega)
            have w2 : IntKind.wrap .i64 (next + ((recs t.2).length : Int) - 1) = next + ((recs t.2).length : Int) - 1 := wrap64_in (by unfold inR; omega)
            simp only [lt_dec hlt, cond_true, idx_nat, ht, Option.bind_some, i_un hsz, List.length_map, w0, w1, w2, wrap_succ (show k < 9223372036854775807 by omega)]
            rw [segOk_false]
            have q1 : decide (((endd t.2 : Nat) : Int) = (t.2.size : Int)) = decide (endd t.2 = t.2.size) := by rw [Bool.eq_iff_iff]; simp only [decide_eq_true_eq, Bool.not_eq_true', decide_eq_false_iff_not]; omega
            have q2 : decide (60 < (t.2.size : Int)) = !decide (t.2.size ≤ 60) := by rw [Bool.eq_iff_iff]; simp only [decide_eq_true_eq, Bool.not_eq_true', decide_eq_false_iff_not]; omega
            have q3 : decide (((recs t.2).length : Int) = 1) = decide ((recs t.2).length = 1) := by rw [Bool.eq_iff_iff]; simp only [decide_eq_true_eq, Bool.not_eq_true', decide_eq_false_iff_not]; omega
            have q4 : decide ((k : Int) < ((s :: l).length : Int) - 1) = !decide (k + 1 = (s :: l).length) := by rw [Bool.eq_iff_iff]; simp only [decide_eq_true_eq, Bool.not_eq_true', decide_eq_false_iff_not]; omega
            have q5 : decide (((recs t.2).length : Int) = 0) = !decide ((recs t.2).length ≠ 0) := by rw [Bool.eq_iff_iff]; simp only [decide_eq_true_eq, Bool.not_eq_true', decide_eq_false_iff_not]; omega
            have q6 : decide (next + ((recs t.2).length : Int) - 1 ≤ mark) = !decide (mark < next + ((recs t.2).length : Int) - 1) := by rw [Bool.eq_iff_iff]; simp only [decide_eq_true_eq, Bool.not_eq_true', decide_eq_false_iff_not]; omega
            rw [q1, q2, q3, q4, q5, q6]
            cases decide (endd t.2 = t.2.size) <;> cases decide (t.2.size ≤ 60) <;> cases decide ((recs t.2).length = 1) <;> cases decide (t.1 = next) <;> cases decide (k + 1 = (s :: l).length) <;> cases decide ((recs t.2).length ≠ 0) <;> cases decide (mark < next + ((recs t.2).length : Int) - 1) <;> rfl
          · intro next hb
            have w2 : IntKind.wrap .i64 (next - 1) = next - 1 := wrap64_in (by unfold inR; omega)
            simp only [ge_dec, cond_false, w2]
            cases decide (nx = next) <;> cases decide (next ≤ 1000) <;> rfl
        · have e4 : decide (1000 < s.1) = true := by simp; omega
          have e5 : decide (1 ≤ s.1 ∧ s.1 ≤ 1000) = false := by simp; omega
          have e3 : decide (s.1 < 1) = false := by simp; omega
          simp [e3, e4, e5]
      · have e3 : decide (s.1 < 1) = true := by simp; omega
        have e5 : decide (1 ≤ s.1 ∧ s.1 ≤ 1000) = false := by simp; omega
        simp [e3, e5]
    · have e1 : decide (1 ≤ ((s :: l).length : Int) ∧ ((s :: l).length : Int) ≤ 6) = false := decide_eq_false (by omega)
      have e2 : decide (1 ≤ (s :: l).length ∧ (s :: l).length ≤ 6) = false := decide_eq_false (by omega)
      rw [e1, e2]; simp
end Go.Proofs.SL
namespace Go.Proofs.SL
open Go
theorem toList_inj {a b : ByteArray} (h : a.toList = b.toList) : a = b := by
  rw [ByteArray.toList_eq, ByteArray.toList_eq] at h
  cases a; cases b
  congr 1
  exact Array.toList_inj.1 h
end Go.Proofs.SL
namespace Go.Proofs.SL
open Go
theorem s_LogOk_eq {d : D_Log} (h : LFit d) : s_LogOk d = some (logOkD d) := by
  obtain ⟨segs, nx, mark⟩ := d
  obtain ⟨h1, h2, h3, h4⟩ := h
  dsimp only at h1 h2 h3 h4
  unfold s_LogOk logOkD s_l6Count
  simp only [l1In_eq, Option.bind_some]
  cases segs with
  | nil => rfl
  | cons s l =>
    have hx : idx (s :: l) 0 = some s := by rw [show (0 : Int) = ((0 : Nat) : Int) from rfl, idx_nat]; rfl
    rw [hx]
    simp only [gbs, Option.bind_some]
    by_cases c1 : (s :: l).length ≤ 6
    · have e1 : decide (1 ≤ ((s :: l).length : Int) ∧ ((s :: l).length : Int) ≤ 6) = true := decide_eq_true ⟨by simp; omega, by omega⟩
      have e2 : decide (1 ≤ (s :: l).length ∧ (s :: l).length ≤ 6) = true := decide_eq_true ⟨by simp, c1⟩
      rw [e1, e2]
      simp only [Bool.not_true, Bool.not_false, if_true, Bool.false_or, Bool.true_and]
      by_cases c2 : 1 ≤ s.1
      · by_cases c3 : s.1 ≤ 1000
        · have e3 : decide (s.1 < 1) = false := by simp; omega
          have e4 : decide (1000 < s.1) = false := by simp; omega
          have e5 : decide (1 ≤ s.1 ∧ s.1 ≤ 1000) = true := decide_eq_true ⟨c2, c3⟩
          simp only [e3, e4, e5, Bool.not_false, if_true, Bool.or_self, Bool.false_or, Bool.true_and]
          by_cases c4 : nx ≤ 1000
          · rw [decide_eq_false (show ¬ 1000 < nx by omega), cond_false]
            rw [show ((s.1, (0 : Int)) : Int × Int) = (s.1, ((0 : Nat) : Int)) from rfl]
            rw [segs_loop (l := s :: l) (mark := mark) (fin := fun next => some (decide (nx = next) && decide (next ≤ 1000) && decide (0 ≤ mark ∧ mark ≤ next - 1))) ?_ h2 ?_ (s :: l).length 0 s.1 (by omega) (by omega)]
            · rw [List.drop_zero]; cases segsOk mark s.1 (s :: l) <;> rfl
            · intro next k t ht hb
              have hlt := (List.getElem?_eq_some_iff.1 ht).1
              have hsz := h2 t (List.mem_of_getElem? ht)
              have hrl := recs_len hsz
              have w0 : IntKind.wrap .i64 (((s :: l).length : Int) - 1) = ((s :: l).length : Int) - 1 := wrap64_in (by unfold inR; omega)
              have w1 : IntKind.wrap .i64 (next + ((recs t.2).length : Int)) = next + ((recs t.2).length : Int) := wrap64_in (by unfold inR; omega)
              have w2 : IntKind.wrap .i64 (next + ((recs t.2).length : Int) - 1) = next + ((recs t.2).length : Int) - 1 := wrap64_in (by unfold inR; omega)
              simp only [lt_dec hlt, cond_true, idx_nat, ht, Option.bind_some, s_un hsz, List.length_map, w0, w1, w2, wrap_succ (show k < 9223372036854775807 by omega)]
              rw [segOk_false]
              have q1 : decide (((endd t.2 : Nat) : Int) = (t.2.size : Int)) = decide (endd t.2 = t.2.size) := by rw [Bool.eq_iff_iff]; simp only [decide_eq_true_eq, Bool.not_eq_true', decide_eq_false_iff_not]; omega
              have q2 : decide (60 < (t.2.size : Int)) = !decide (t.2.size ≤ 60) := by rw [Bool.eq_iff_iff]; simp only [decide_eq_true_eq, Bool.not_eq_true', decide_eq_false_iff_not]; omega
              have q3 : decide (((recs t.2).length : Int) = 1) = decide ((recs t.2).length = 1) := by rw [Bool.eq_iff_iff]; simp only [decide_eq_true_eq, Bool.not_eq_true', decide_eq_false_iff_not]; omega
              have q4 : decide ((k : Int) < ((s :: l).length : Int) - 1) = !decide (k + 1 = (s :: l).length) := by rw [Bool.eq_iff_iff]; simp only [decide_eq_true_eq, Bool.not_eq_true', decide_eq_false_iff_not]; omega
              have q5 : decide (((recs t.2).length : Int) = 0) = !decide ((recs t.2).length ≠ 0) := by rw [Bool.eq_iff_iff]; simp only [decide_eq_true_eq, Bool.not_eq_true', decide_eq_false_iff_not]; omega
              have q6 : decide (next + ((recs t.2).length : Int) - 1 ≤ mark) = !decide (mark < next + ((recs t.2).length : Int) - 1) := by rw [Bool.eq_iff_iff]; simp only [decide_eq_true_eq, Bool.not_eq_true', decide_eq_false_iff_not]; omega
              rw [q1, q2, q3, q4, q5, q6]
              cases decide (endd t.2 = t.2.size) <;> cases decide (t.2.size ≤ 60) <;> cases decide ((recs t.2).length = 1) <;> cases decide (t.1 = next) <;> cases decide (k + 1 = (s :: l).length) <;> cases decide ((recs t.2).length ≠ 0) <;> cases decide (mark < next + ((recs t.2).length : Int) - 1) <;> rfl
            · intro next hb
              simp only [ge_dec, cond_false]
              by_cases hz : nx = next
              · subst hz; rw [decide_eq_true rfl, decide_eq_true c4, wrap64_in (n := nx - 1) (by unfold inR; omega)]; rfl
              · rw [decide_eq_false hz]; rfl
          · rw [decide_eq_true (show 1000 < nx by omega), cond_true]
            cases segsOk mark s.1 (s :: l) with
            | none => rfl
            | some e =>
              dsimp only
              by_cases hz : nx = e
              · rw [decide_eq_false (show ¬ e ≤ 1000 by omega)]; simp
              · rw [decide_eq_false hz]; rfl
        · have e4 : decide (1000 < s.1) = true := by simp; omega
          have e5 : decide (1 ≤ s.1 ∧ s.1 ≤ 1000) = false := by simp; omega
          have e3 : decide (s.1 < 1) = false := by simp; omega
          simp [e3, e4, e5]
      · have e3 : decide (s.1 < 1) = true := by simp; omega
        have e5 : decide (1 ≤ s.1 ∧ s.1 ≤ 1000) = false := by simp; omega
        simp [e3, e5]
    · have e1 : decide (1 ≤ ((s :: l).length : Int) ∧ ((s :: l).length : Int) ≤ 6) = false := decide_eq_false (by omega)
      have e2 : decide (1 ≤ (s :: l).length ∧ (s :: l).length ≤ 6) = false := decide_eq_false (by omega)
      rw [e1, e2]; simp
/-- A segment of given records. -/
def SegR (next : Int) (s : D_Seg) (r : List Bs) : Prop := s = (next, strP (r.flatMap frL)) ∧ (∀ x, x ∈ r → x.length ≤ 200) ∧ (s.2.size ≤ 60 ∨ r.length = 1)
/-- The segments ahead of the last one. -/
def SGn (mark : Int) : Int → List D_Seg → List (List Bs) → Prop
  | _, [], [] => True
  | next, s :: l, r :: rs => SegR next s r ∧ r ≠ [] ∧ mark < next + r.length - 1 ∧ SGn mark (next + r.length) l rs
  | _, _, _ => False
/-- A right log: its segments ahead of the last, the last, and their records. -/
structure LI (d : D_Log) (n0 : Int) (l : List D_Seg) (s : D_Seg) (rs : List (List Bs)) (r : List Bs) : Prop where
  segs : d.1 = l ++ [s]
  few : l.length ≤ 5
  first : 1 ≤ n0 ∧ n0 ≤ 1000
  front : SGn d.2.2 n0 l rs
  last : SegR (n0 + rs.flatten.length) s r
  next : d.2.1 = n0 + rs.flatten.length + r.length
  next2 : d.2.1 ≤ 1000
  mark : 0 ≤ d.2.2 ∧ d.2.2 ≤ d.2.1 - 1
theorem SegR.size {next : Int} {s : D_Seg} {r : List Bs} (h : SegR next s r) : s.2.size ≤ 211 ∧ s.1 = next ∧ recs s.2 = r ∧ endd s.2 = s.2.size := by
  obtain ⟨rfl, h2, h3⟩ := h
  dsimp only at h3 ⊢
  obtain ⟨e1, e2⟩ := recs_flat h2
  refine ⟨?_, rfl, e1, e2⟩
  rcases h3 with h3 | h3
  · omega
  · match r, h3 with
    | [x], _ =>
      have := (frL_len (h2 x (List.mem_singleton.2 rfl))).2
      rw [strP_size, List.flatMap_cons, List.flatMap_nil, List.append_nil]; exact this
theorem segR_of {mark next : Int} {s : D_Seg} {b : Bool} (hs : s.2.size ≤ 1000000000) (h : segOk mark next s b = true) : SegR next s (recs s.2) ∧ (b = false → recs s.2 ≠ [] ∧ mark < next + (recs s.2).length - 1) := by
  rw [segOk_false] at h
  simp only [Bool.and_eq_true, Bool.or_eq_true, decide_eq_true_eq] at h
  obtain ⟨⟨⟨h1, h2⟩, h3⟩, h4⟩ := h
  obtain ⟨w1, w2⟩ := whole_flat hs h1
  refine ⟨⟨by rw [← w1, ← h3], w2, h2⟩, fun hb => ?_⟩
  rw [hb] at h4
  rcases h4 with h4 | h4
  · cases h4
  · exact ⟨fun e => h4.1 (by rw [e]; rfl), h4.2⟩
theorem segOk_of {mark next : Int} {s : D_Seg} {r : List Bs} {b : Bool} (h : SegR next s r) (hb : b = false → r ≠ [] ∧ mark < next + r.length - 1) : segOk mark next s b = true := by
  obtain ⟨h1, h2, h3, h4⟩ := h.size
  rw [segOk_false, h3, h4, h2]
  simp only [Bool.and_eq_true, Bool.or_eq_true, decide_eq_true_eq]
  refine ⟨⟨⟨trivial, h.2.2⟩, trivial⟩, ?_⟩
  cases b with
  | true => exact .inl rfl
  | false => exact .inr ⟨fun e => (hb rfl).1 (List.length_eq_zero_iff.1 e), (hb rfl).2⟩
theorem segsOk_some {mark : Int} : ∀ {l : List D_Seg} {next e : Int}, (∀ s, s ∈ l → s.2.size ≤ 1000000000) → l ≠ [] → segsOk mark next l = some e → ∃ l0 s rs r, l = l0 ++ [s] ∧ SGn mark next l0 rs ∧ SegR (next + rs.flatten.length) s r ∧ e = next + rs.flatten.length + r.length
  | [], _, _, _, h, _ => (h rfl).elim
  | s :: l, next, e, hs, _, h => by
    unfold segsOk at h
    split at h
    · rename_i hc
      obtain ⟨g1, g2⟩ := segR_of (hs s (List.mem_cons_self)) hc
      cases l with
      | nil =>
        simp only [segsOk, Option.some.injEq] at h
        exact ⟨[], s, [], recs s.2, rfl, trivial, by simpa using g1, by simp; omega⟩
      | cons t l =>
        obtain ⟨g3, g4⟩ := g2 rfl
        obtain ⟨l0, s', rs, r, e1, e2, e3, e4⟩ := segsOk_some (fun x hx => hs x (List.mem_cons_of_mem _ hx)) (by simp) h
        refine ⟨s :: l0, s', recs s.2 :: rs, r, by rw [e1]; rfl, ⟨g1, g3, g4, e2⟩, ?_, ?_⟩
        · rw [List.flatten_cons, List.length_append, show next + (((recs s.2).length + rs.flatten.length : Nat) : Int) = next + (recs s.2).length + rs.flatten.length by omega]; exact e3
        · rw [List.flatten_cons, List.length_append]; omega
    · cases h
theorem segsOk_of {mark : Int} : ∀ {l0 : List D_Seg} {rs : List (List Bs)} {next : Int} {s : D_Seg} {r : List Bs}, SGn mark next l0 rs → SegR (next + rs.flatten.length) s r → segsOk mark next (l0 ++ [s]) = some (next + rs.flatten.length + r.length)
  | [], [], next, s, r, _, h => by
    have h0 : SegR next s r := by simpa using h
    simp only [List.nil_append, segsOk, List.isEmpty_nil]
    rw [if_pos (segOk_of (b := true) h0 (fun h => by cases h)), h0.size.2.2.1]; simp
  | t :: l, q :: rs, next, s, r, ⟨h1, h2, h3, h4⟩, h => by
    rw [List.flatten_cons, List.length_append] at h ⊢
    have := segsOk_of h4 (s := s) (r := r) (by rw [show next + (q.length : Int) + rs.flatten.length = next + ((q.length + rs.flatten.length : Nat) : Int) by omega]; exact h)
    rw [List.cons_append]
    unfold segsOk
    rw [if_pos (segOk_of h1 (fun _ => ⟨h2, h3⟩)), h1.size.2.2.1, this]
    congr 1; omega
  | [], _ :: _, _, _, _, h, _ => h.elim
  | _ :: _, [], _, _, _, h, _ => h.elim
theorem li_of {d : D_Log} (hf : LFit d) (h : logOkD d = true) : ∃ n0 l s rs r, LI d n0 l s rs r := by
  obtain ⟨segs, nx, mark⟩ := d
  unfold logOkD at h
  rw [Bool.and_eq_true, decide_eq_true_eq] at h
  obtain ⟨h1, h2⟩ := h
  cases segs with
  | nil => cases h2
  | cons t l =>
    dsimp only at h1 h2
    rw [Bool.and_eq_true, decide_eq_true_eq] at h2
    obtain ⟨h3, h4⟩ := h2
    cases hs : segsOk mark t.1 (t :: l) with
    | none => rw [hs] at h4; cases h4
    | some e =>
      rw [hs] at h4
      simp only [Bool.and_eq_true, decide_eq_true_eq] at h4
      obtain ⟨l0, s, rs, r, e1, e2, e3, e4⟩ := segsOk_some hf.2.1 (by simp) hs
      refine ⟨t.1, l0, s, rs, r, e1, ?_, h3, e2, e3, by dsimp only; omega, by dsimp only; omega, by dsimp only; omega⟩
      have e1 : t :: l = l0 ++ [s] := e1
      have : (t :: l).length = l0.length + 1 := by rw [e1]; simp
      omega
theorem SGn.head {mark : Int} {l : List D_Seg} {rs : List (List Bs)} {next : Int} {s : D_Seg} {r : List Bs} (h : SGn mark next l rs) (h2 : SegR (next + rs.flatten.length) s r) : ∃ t l', l ++ [s] = t :: l' ∧ t.1 = next := by
  match l, rs, h with
  | [], [], _ => exact ⟨s, [], rfl, by have := h2.size.2.1; simpa using this⟩
  | t :: l, q :: rs, h => exact ⟨t, l ++ [s], rfl, h.1.size.2.1⟩
theorem LI.ok {d : D_Log} {n0 : Int} {l : List D_Seg} {s : D_Seg} {rs : List (List Bs)} {r : List Bs} (h : LI d n0 l s rs r) : logOkD d = true := by
  obtain ⟨segs, nx, mark⟩ := d
  obtain ⟨h1, h2, h3, h4, h5, h6, h7, h8⟩ := h
  dsimp only at h1 h4 h6 h7 h8
  obtain ⟨t, l', e1, e2⟩ := h4.head h5
  have e3 := segsOk_of h4 h5
  unfold logOkD
  rw [h1]
  dsimp only
  rw [e1] at e3 ⊢
  rw [Bool.and_eq_true, decide_eq_true_eq]
  refine ⟨?_, ?_⟩
  · have := congrArg List.length e1
    rw [List.length_append, List.length_singleton] at this
    omega
  · dsimp only
    rw [e2, e3, Bool.and_eq_true, decide_eq_true_eq]
    refine ⟨h3, ?_⟩
    simp only [Bool.and_eq_true, decide_eq_true_eq]
    omega
theorem SGn.sizes {mark : Int} : ∀ {l : List D_Seg} {rs : List (List Bs)} {next : Int}, SGn mark next l rs → ∀ s, s ∈ l → s.2.size ≤ 211
  | [], [], _, _, s, hs => by cases hs
  | t :: l, q :: rs, next, ⟨h1, _, _, h4⟩, s, hs => by
    rcases List.mem_cons.1 hs with rfl | hs
    · exact h1.size.1
    · exact h4.sizes s hs
theorem LI.sz {d : D_Log} {n0 : Int} {l : List D_Seg} {s : D_Seg} {rs : List (List Bs)} {r : List Bs} (h : LI d n0 l s rs r) : ∀ t, t ∈ d.1 → t.2.size ≤ 211 := fun t ht => by
  rw [h.segs] at ht
  rcases List.mem_append.1 ht with ht | ht
  · exact h.front.sizes t ht
  · obtain rfl := List.mem_singleton.1 ht; exact h.last.size.1
theorem LI.fit {d : D_Log} {n0 : Int} {l : List D_Seg} {s : D_Seg} {rs : List (List Bs)} {r : List Bs} (h : LI d n0 l s rs r) : LFit d := by
  refine ⟨?_, fun t ht => by have := h.sz t ht; omega, ?_, ?_⟩
  · rw [h.segs, List.length_append, List.length_singleton]; have := h.few; omega
  · have := h.next2; have := h.next; have := h.first; unfold inR; omega
  · have := h.mark; have := h.next2; unfold inR; omega
end Go.Proofs.SL
namespace Go.Proofs.SL
open Go
def trimD (mark : Int) : List D_Seg → List D_Seg
  | [] => []
  | [s] => [s]
  | s :: t :: l => if t.1 - 1 ≤ mark then trimD mark (t :: l) else s :: t :: l
theorem trim_loop {mark : Int} {α : Type} {f : List D_Seg → Option (List D_Seg ⊕ α)} {fin : List D_Seg → α} {P : List D_Seg → Prop}
    (h1 : ∀ s t l, P (s :: t :: l) → P (t :: l) ∧ f (s :: t :: l) = if t.1 - 1 ≤ mark then some (.inl (t :: l)) else some (.inr (fin (s :: t :: l)))) (h2 : ∀ s, f [s] = some (.inr (fin [s]))) : ∀ (l : List D_Seg) (s : D_Seg), P (s :: l) → whileP f (s :: l) = some (fin (trimD mark (s :: l)))
  | [], s, _ => by rw [whileP_eq, h2]; rfl
  | t :: l, s, hp => by
    obtain ⟨g1, g2⟩ := h1 s t l hp
    by_cases h : t.1 - 1 ≤ mark
    · rw [if_pos h] at g2
      rw [whileP_eq, g2]
      unfold trimD
      rw [if_pos h]; exact trim_loop h1 h2 l t g1
    · rw [if_neg h] at g2
      rw [whileP_eq, g2]
      unfold trimD
      rw [if_neg h]
def TFit (l : List D_Seg) : Prop := l.length ≤ 1000 ∧ ∀ s, s ∈ l → -1000000000 ≤ s.1 ∧ s.1 ≤ 1000000000
theorem tfit_tail {s : D_Seg} {l : List D_Seg} (h : TFit (s :: l)) : TFit l := ⟨by have := h.1; simp at this; omega, fun t ht => h.2 t (List.mem_cons_of_mem _ ht)⟩
theorem slc_tail {s : D_Seg} {l : List D_Seg} : slcP (s :: l) 1 ((s :: l).length : Int) = some l := by
  unfold slcP; rw [if_pos ⟨by omega, by simp; omega, by omega⟩]
  simp
theorem i_trim_eq {d : D_Log} (h : TFit d.1) (h0 : d.1 ≠ []) : i_Log_trimmed d = some (trimD d.2.2 d.1, d.2.1, d.2.2) := by
  obtain ⟨segs, nx, mark⟩ := d
  unfold i_Log_trimmed
  cases segs with
  | nil => exact (h0 rfl).elim
  | cons s l =>
    refine trim_loop (mark := mark) (fin := fun l => (l, nx, mark)) (P := TFit) (fun s t l hp => ⟨tfit_tail hp, ?_⟩) (fun s => rfl) l s h
    have hb := hp.2 t (by simp)
    have hl := hp.1
    have e1 : decide (1 < ((s :: t :: l).length : Int)) = true := decide_eq_true (by simp; omega)
    have e2 : idx (s :: t :: l) 1 = some t := by rw [show (1 : Int) = ((1 : Nat) : Int) from rfl, idx_nat]; rfl
    rw [e1, e2]
    simp only [gbs, if_true, Bool.true_and, slc_tail, Option.bind_some]
    rw [wrap64_in (n := t.1 - 1) (by unfold inR; omega), appP_ok (by simp at hl ⊢; omega)]
    by_cases hc : t.1 - 1 ≤ mark
    · rw [decide_eq_true hc, if_pos hc]; rfl
    · rw [decide_eq_false hc, if_neg hc]; rfl
theorem s_trim_eq {d : D_Log} (h : TFit d.1) (h0 : d.1 ≠ []) : s_l6Trim d = some (trimD d.2.2 d.1, d.2.1, d.2.2) := by
  obtain ⟨segs, nx, mark⟩ := d
  unfold s_l6Trim
  cases segs with
  | nil => exact (h0 rfl).elim
  | cons s l =>
    refine trim_loop (mark := mark) (fin := fun l => (l, nx, mark)) (P := TFit) (fun s t l hp => ⟨tfit_tail hp, ?_⟩) (fun s => rfl) l s h
    have hb := hp.2 t (by simp)
    have hl := hp.1
    have e1 : decide (1 < ((s :: t :: l).length : Int)) = true := decide_eq_true (by simp; omega)
    have e2 : idx (s :: t :: l) 1 = some t := by rw [show (1 : Int) = ((1 : Nat) : Int) from rfl, idx_nat]; rfl
    rw [e1, e2]
    simp only [gbs, if_true, Bool.true_and, slc_tail, Option.bind_some]
    rw [wrap64_in (n := t.1 - 1) (by unfold inR; omega), appP_ok (by simp at hl ⊢; omega)]
    by_cases hc : t.1 - 1 ≤ mark
    · rw [decide_eq_true hc, if_pos hc]; rfl
    · rw [decide_eq_false hc, if_neg hc]; rfl
theorem SGn.up {m m' : Int} : ∀ {l : List D_Seg} {rs : List (List Bs)} {next : Int}, m' < next → SGn m next l rs → SGn m' next l rs
  | [], [], _, _, _ => trivial
  | s :: l, r :: rs, next, h, ⟨h1, h2, h3, h4⟩ => by
    have : 1 ≤ r.length := by cases r with | nil => exact (h2 rfl).elim | cons _ _ => simp
    exact ⟨h1, h2, by omega, h4.up (by omega)⟩
theorem SGn.low {m m' : Int} (hm : m' ≤ m) : ∀ {l : List D_Seg} {rs : List (List Bs)} {next : Int}, SGn m next l rs → SGn m' next l rs
  | [], [], _, _ => trivial
  | s :: l, r :: rs, next, ⟨h1, h2, h3, h4⟩ => ⟨h1, h2, by omega, h4.low hm⟩
/-- What is left out: segments at the front whose records are read. -/
theorem trim_parts {mark m0 : Int} : ∀ {l : List D_Seg} {rs : List (List Bs)} {next : Int} {s : D_Seg} {r : List Bs}, SGn m0 next l rs → SegR (next + rs.flatten.length) s r → ∃ l' rs' n' k, trimD mark (l ++ [s]) = l' ++ [s] ∧ SGn mark n' l' rs' ∧ l'.length ≤ l.length ∧
    n' = next + (k : Nat) ∧ k + rs'.flatten.length = rs.flatten.length ∧ rs'.flatten = rs.flatten.drop k ∧ (k = 0 ∨ n' ≤ mark + 1)
  | [], [], next, s, r, _, h => ⟨[], [], next, 0, rfl, trivial, Nat.le_refl _, by simp, rfl, rfl, .inl rfl⟩
  | t :: l, q :: rs, next, s, r, ⟨h1, h2, h3, h4⟩, h => by
    rw [List.flatten_cons, List.length_append] at h
    have h' : SegR (next + (q.length : Int) + rs.flatten.length) s r := by rw [show next + (q.length : Int) + rs.flatten.length = next + ((q.length + rs.flatten.length : Nat) : Int) by omega]; exact h
    obtain ⟨u, l2, e1, e2⟩ := h4.head h'
    have hq : 1 ≤ q.length := by cases q with | nil => exact (h2 rfl).elim | cons _ _ => simp
    rw [List.cons_append, e1]
    unfold trimD
    rw [e2]
    split
    · rename_i hc
      obtain ⟨l', rs', n', k, g1, g2, g3, g4, g5, g6, g7⟩ := trim_parts (mark := mark) h4 h'
      rw [e1] at g1
      refine ⟨l', rs', n', q.length + k, g1, g2, by simp; omega, by omega, by rw [List.flatten_cons, List.length_append]; omega, ?_, .inr (by omega)⟩
      rw [List.flatten_cons, g6, ← List.drop_drop, List.drop_left]
    · rename_i hc
      refine ⟨t :: l, q :: rs, next, 0, by rw [List.cons_append, e1], ⟨h1, h2, by omega, h4.up (by omega)⟩, Nat.le_refl _, by simp, by simp, by simp, .inl rfl⟩
theorem LI.tfit {d : D_Log} {n0 : Int} {l : List D_Seg} {s : D_Seg} {rs : List (List Bs)} {r : List Bs} (h : LI d n0 l s rs r) : TFit d.1 ∧ d.1 ≠ [] := by
  have key : ∀ {l : List D_Seg} {rs : List (List Bs)} {next : Int}, SGn d.2.2 next l rs → ∀ t, t ∈ l → next ≤ t.1 ∧ t.1 ≤ next + rs.flatten.length := by
    intro l
    induction l with
    | nil => intro rs next _ t ht; cases ht
    | cons u l ih =>
      intro rs next h t ht
      match rs, h with
      | q :: rs, ⟨h1, h2, h3, h4⟩ =>
        rw [List.flatten_cons, List.length_append]
        rcases List.mem_cons.1 ht with rfl | ht
        · have := h1.size.2.1; omega
        · have := ih h4 t ht; omega
  refine ⟨⟨h.fit.1, fun t ht => ?_⟩, by rw [h.segs]; simp⟩
  rw [h.segs] at ht
  have := h.next; have := h.next2; have := h.first
  rcases List.mem_append.1 ht with ht | ht
  · have := key h.front t ht; omega
  · obtain rfl := List.mem_singleton.1 ht
    have := h.last.size.2.1; omega
noncomputable def markD (d : D_Log) (n : Int) : D_Log × Bool := if logOkD d then (if d.2.2 ≤ n ∧ n ≤ d.2.1 - 1 then ((trimD n d.1, d.2.1, n), true) else (d, false)) else (([], 0, 0), false)
theorem i_copyLog_eq {d : D_Log} (h : d.1.length ≤ 1000) : i_copyLog d = some d := by
  unfold i_copyLog; rw [appP_ok (by simp; omega)]; rfl
theorem s_l6Copy_eq {d : D_Log} (h : d.1.length ≤ 1000) : s_l6Copy d = some d := by
  unfold s_l6Copy; rw [Option.bind_some, appP_ok (by simp; omega)]; rfl
theorem i_LogMark_eq {d : D_Log} {n : Int} (h : LFit d) : i_LogMark d n = some (markD d n) := by
  unfold i_LogMark markD
  simp only [Prod.eta, i_LogOk_eq h, Option.bind_some]
  cases hk : logOkD d with
  | false => rfl
  | true =>
    obtain ⟨n0, l, s, rs, r, hL⟩ := li_of h hk
    have hb := hL.next2; have hm := hL.mark
    obtain ⟨t1, t2⟩ := hL.tfit
    simp only [Bool.not_true, cond_false, i_copyLog_eq h.1, Option.bind_some, within_eq, if_true]
    rw [wrap64_in (n := d.2.1 - 1) (by unfold inR; omega)]
    by_cases hc : d.2.2 ≤ n ∧ n ≤ d.2.1 - 1
    · rw [decide_eq_true hc, if_pos hc, i_trim_eq (d := (d.1, d.2.1, n)) t1 t2]; rfl
    · rw [decide_eq_false hc, if_neg hc]; rfl
theorem s_LogMark_eq {d : D_Log} {n : Int} (h : LFit d) : s_LogMark d n = some (markD d n) := by
  unfold s_LogMark markD
  simp only [Prod.eta, s_LogOk_eq h, Option.bind_some]
  cases hk : logOkD d with
  | false => rfl
  | true =>
    obtain ⟨n0, l, s, rs, r, hL⟩ := li_of h hk
    obtain ⟨t1, t2⟩ := hL.tfit
    simp only [Bool.not_true, cond_false, s_l6Copy_eq h.1, Option.bind_some, if_true]
    by_cases hc : d.2.2 ≤ n ∧ n ≤ d.2.1 - 1
    · rw [decide_eq_false (show ¬ n < d.2.2 by omega), decide_eq_false (show ¬ d.2.1 ≤ n by omega), if_pos hc, s_trim_eq (d := (d.1, d.2.1, n)) t1 t2]; rfl
    · rw [if_neg hc]
      have : (decide (n < d.2.2) || decide (d.2.1 ≤ n)) = true := by simp; omega
      rw [this]; rfl
/-- All records of a right log that are not read yet. -/
def left (d : D_Log) (n0 : Int) (rs : List (List Bs)) (r : List Bs) : List Bs := (rs ++ [r]).flatten.drop (d.2.2 + 1 - n0).toNat
theorem mark_li {d : D_Log} {n : Int} {n0 : Int} {l : List D_Seg} {s : D_Seg} {rs : List (List Bs)} {r : List Bs} (h : LI d n0 l s rs r) (h0 : n0 ≤ d.2.2 + 1) (hc : d.2.2 ≤ n ∧ n ≤ d.2.1 - 1) :
    ∃ n0' l' rs', LI (trimD n d.1, d.2.1, n) n0' l' s rs' r ∧ n0' ≤ n + 1 ∧ left (trimD n d.1, d.2.1, n) n0' rs' r = (left d n0 rs r).drop (n - d.2.2).toNat := by
  obtain ⟨l', rs', n', k, g1, g2, g3, g4, g5, g6, g7⟩ := trim_parts (mark := n) h.front h.last
  have hn := h.next; have hn2 := h.next2; have hm := h.mark; have hf := h.first
  have hl := h.last
  refine ⟨n', l', rs', ⟨by dsimp only; rw [h.segs]; exact g1, by have := h.few; omega, by omega, g2, ?_, ?_, hn2, by dsimp only; omega⟩, by omega, ?_⟩
  · rw [show n' + (rs'.flatten.length : Int) = n0 + rs.flatten.length by omega]; exact hl
  · dsimp only; omega
  · unfold left
    dsimp only
    simp only [List.flatten_append, List.flatten_cons, List.flatten_nil, List.append_nil]
    have e : rs'.flatten ++ r = (rs.flatten ++ r).drop k := by
      rw [List.drop_append_of_le_length (by omega), g6]
    rw [e, List.drop_drop, List.drop_drop]
    congr 1; omega
end Go.Proofs.SL
namespace Go.Proofs.SL
open Go
/-- The records of one segment that are not read yet. -/
theorem read_seg {β : Type} {r : List Bs} {mark first : Int} {f : List ByteArray × Int → Option ((List ByteArray × Int) ⊕ β)} {fin : List ByteArray → β}
    (h1 : ∀ (acc : List ByteArray) (k : Nat) (x : Bs), r[k]? = some x → acc.length ≤ 1000000 → f (acc, (k : Int)) = some (.inl (if mark < first + k then acc ++ [strP x] else acc, ((k + 1 : Nat) : Int)))) (h2 : ∀ acc, f (acc, (r.length : Int)) = some (.inr (fin acc))) :
    ∀ (m k : Nat) (acc : List ByteArray), k + m = r.length → acc.length + m ≤ 1000000 → whileP f (acc, (k : Int)) = some (fin (acc ++ (r.drop (max k (mark + 1 - first).toNat)).map strP))
  | 0, k, acc, hk, _ => by
    obtain rfl : k = r.length := by omega
    rw [whileP_eq, h2, List.drop_eq_nil_of_le (by omega)]; simp
  | m + 1, k, acc, hk, ha => by
    have hlt : k < r.length := by omega
    rw [whileP_eq, h1 acc k _ (List.getElem?_eq_getElem hlt) (by omega)]
    dsimp only
    by_cases hc : mark < first + k
    · rw [if_pos hc, read_seg h1 h2 m (k + 1) _ (by omega) (by simp; omega), Nat.max_eq_left (by omega), Nat.max_eq_left (by omega), List.drop_eq_getElem_cons hlt]
      simp only [List.map_cons, List.append_assoc, List.cons_append, List.nil_append]
    · rw [if_neg hc, read_seg h1 h2 m (k + 1) _ (by omega) (by omega), Nat.max_eq_right (by omega), Nat.max_eq_right (by omega)]
/-- Segments in a row, up to a number. -/
def SGa : Int → List D_Seg → List (List Bs) → Prop
  | _, [], [] => True
  | next, s :: l, r :: rs => SegR next s r ∧ SGa (next + r.length) l rs
  | _, _, _ => False
theorem SGn.all {mark : Int} : ∀ {l : List D_Seg} {rs : List (List Bs)} {next : Int} {s : D_Seg} {r : List Bs}, SGn mark next l rs → SegR (next + rs.flatten.length) s r → SGa next (l ++ [s]) (rs ++ [r])
  | [], [], next, s, r, _, h => ⟨by simpa using h, trivial⟩
  | t :: l, q :: rs, next, s, r, ⟨h1, _, _, h4⟩, h => ⟨h1, h4.all (by rw [List.flatten_cons, List.length_append] at h; rw [show next + (q.length : Int) + rs.flatten.length = next + ((q.length + rs.flatten.length : Nat) : Int) by omega]; exact h)⟩
theorem SGa.at {k : Nat} : ∀ {l : List D_Seg} {rs : List (List Bs)} {next : Int} {s : D_Seg}, SGa next l rs → l[k]? = some s → ∃ r, rs[k]? = some r ∧ SegR (next + (rs.take k).flatten.length) s r := by
  induction k with
  | zero =>
    intro l rs next s h hs
    match l, rs, h with
    | t :: l, q :: rs, h => obtain rfl : t = s := Option.some.inj hs; exact ⟨q, rfl, by simpa using h.1⟩
    | [], [], _ => cases hs
  | succ k ih =>
    intro l rs next s h hs
    match l, rs, h with
    | t :: l, q :: rs, h =>
      obtain ⟨r, h1, h2⟩ := ih h.2 hs
      refine ⟨r, h1, ?_⟩
      rw [List.take_succ_cons, List.flatten_cons, List.length_append, show next + ((q.length + (rs.take k).flatten.length : Nat) : Int) = next + q.length + (rs.take k).flatten.length by omega]; exact h2
    | [], [], _ => cases hs
theorem SGa.len : ∀ {l : List D_Seg} {rs : List (List Bs)} {next : Int}, SGa next l rs → l.length = rs.length
  | [], [], _, _ => rfl
  | _ :: _, _ :: _, _, h => by simp [h.2.len]
theorem flat_drop {rs : List (List Bs)} {k : Nat} {r : List Bs} (h : rs[k]? = some r) (q : Nat) : (rs.drop k).flatten.drop q = r.drop q ++ (rs.drop (k + 1)).flatten.drop (q - r.length) := by
  obtain ⟨hlt, rfl⟩ := List.getElem?_eq_some_iff.1 h
  rw [List.drop_eq_getElem_cons hlt, List.flatten_cons, List.drop_append]
theorem i_LogRead_eq {d : D_Log} {n0 : Int} {l : List D_Seg} {s : D_Seg} {rs : List (List Bs)} {r : List Bs} (h : LI d n0 l s rs r) : i_LogRead d = some ((left d n0 rs r).map strP) := by
  unfold i_LogRead
  simp only [Prod.eta, i_LogOk_eq h.fit, h.ok, Option.bind_some, Bool.not_true, cond_false]
  have hA := h.front.all h.last
  rw [← h.segs] at hA
  have hn := h.next; have hn2 := h.next2; have hm := h.mark; have hf := h.first
  have htot : (rs ++ [r]).flatten.length = rs.flatten.length + r.length := by simp
  have hlen : d.1.length ≤ 6 := by rw [h.segs]; have := h.few; simp; omega
  have hlen2 := hA.len
  obtain ⟨rss, hrss⟩ : ∃ x, x = rs ++ [r] := ⟨_, rfl⟩
  rw [← hrss] at hA htot hlen2
  have hleft : left d n0 rs r = rss.flatten.drop (d.2.2 + 1 - n0).toNat := by unfold left; rw [hrss]
  rw [hleft]
  have key : ∀ (k : Nat), (rss.take k).flatten.length ≤ rss.flatten.length ∧ (rss.take k).flatten.length + (rss.drop k).flatten.length = rss.flatten.length := fun k => by
    have : rss.flatten = (rss.take k).flatten ++ (rss.drop k).flatten := by rw [← List.flatten_append, List.take_append_drop]
    rw [this, List.length_append]; omega
  refine whileP_is (fun s : List ByteArray × Int => ∃ k : Nat, s.2 = (k : Int) ∧ k ≤ d.1.length ∧ s.1.length ≤ (rss.take k).flatten.length ∧ s.1 ++ ((rss.drop k).flatten.drop (d.2.2 + 1 - (n0 + (rss.take k).flatten.length)).toNat).map strP = (rss.flatten.drop (d.2.2 + 1 - n0).toNat).map strP) (fun s => d.1.length - s.2.toNat) (fun st hst => ?_) ⟨0, rfl, Nat.zero_le _, by simp, by simp⟩
  obtain ⟨acc, kk⟩ := st
  obtain ⟨k, rfl, hk, hacc, he⟩ := hst
  dsimp only at hacc he ⊢
  have hkk := key k
  by_cases hlt : k < d.1.length
  · left
    have hx : d.1[k]? = some d.1[k] := List.getElem?_eq_getElem hlt
    have hmem : d.1[k] ∈ d.1 := List.getElem_mem hlt
    generalize d.1[k] = t at hx hmem
    obtain ⟨q, hq, hR⟩ := hA.at hx
    obtain ⟨s1, s2, s3, s4⟩ := hR.size
    have hfl : (rss.take (k + 1)).flatten.length = (rss.take k).flatten.length + q.length := by
      rw [List.take_add_one, hq]; simp
    have hk1 := key (k + 1)
    simp only [lt_dec hlt, cond_true, idx_nat, hx, Option.bind_some, i_un (show t.2.size ≤ 1000000000 by omega), List.length_map, wrap_succ (show k < 9223372036854775807 by omega)]
    rw [s3]
    rw [show ((acc, (0 : Int)) : List ByteArray × Int) = (acc, ((0 : Nat) : Int)) from rfl]
    rw [read_seg (r := q) (mark := d.2.2) (first := t.1) (fin := fun acc => .inl (acc, ((k + 1 : Nat) : Int))) ?_ ?_ q.length 0 acc (by omega) (by omega)]
    · refine ⟨_, rfl, ⟨k + 1, rfl, hlt, ?_, ?_⟩, by dsimp only; omega⟩
      · dsimp only; rw [List.length_append, List.length_map, List.length_drop, hfl]; omega
      · dsimp only
        rw [← he, flat_drop hq, List.map_append, List.append_assoc, s2, hfl, Nat.zero_max]
        congr 4
        omega
    · intro acc2 j x hj ha
      have hj2 := (List.getElem?_eq_some_iff.1 hj).1
      have hm : (q.map strP)[j]? = some (strP x) := by rw [List.getElem?_map, hj]; rfl
      simp only [lt_dec hj2, cond_true, idx_nat, hm, Option.bind_some, wrap_succ (show j < 9223372036854775807 by omega)]
      rw [wrap64_in (n := t.1 + (j : Int)) (by rw [s2]; unfold inR; omega)]
      by_cases hc : d.2.2 < t.1 + (j : Int)
      · rw [decide_eq_true hc, if_pos hc, cond_true, appP_ok (by simp; omega)]; rfl
      · rw [decide_eq_false hc, if_neg hc, cond_false]
    · intro acc2
      simp only [ge_dec, cond_false]; rfl
  · right
    have hkk : k = d.1.length := by omega
    rw [hkk, ge_dec, cond_false]
    have e0 : rss.drop k = [] := List.drop_eq_nil_of_le (by omega)
    rw [e0] at he
    simp only [List.flatten_nil, List.drop_nil, List.map_nil, List.append_nil] at he
    rw [he]; rfl
end Go.Proofs.SL
namespace Go.Proofs.SL
open Go
theorem SGn.snoc {m : Int} : ∀ {l : List D_Seg} {rs : List (List Bs)} {next : Int} {s : D_Seg} {r : List Bs}, SGn m next l rs → SegR (next + rs.flatten.length) s r → r ≠ [] → m < next + rs.flatten.length + r.length - 1 → SGn m next (l ++ [s]) (rs ++ [r])
  | [], [], next, s, r, _, h, h2, h3 => ⟨by simpa using h, h2, by simpa using h3, trivial⟩
  | t :: l, q :: rs, next, s, r, ⟨h1, g2, g3, h4⟩, h, h2, h3 => by
    rw [List.flatten_cons, List.length_append] at h h3
    have e : next + ((q.length + rs.flatten.length : Nat) : Int) = next + (q.length : Int) + rs.flatten.length := by omega
    rw [e] at h h3
    exact ⟨h1, g2, g3, h4.snoc h h2 h3⟩
theorem frame_eq {x : Bs} (h : x.length ≤ 200) : i_Frame (strP x) = some (strP (frL x)) ∧ s_Frame (strP x) = some (strP (frL x)) := by
  have : frameL x = frL x := if_neg (by omega)
  rw [i_Frame_eq, s_Frame_eq, this]; exact ⟨rfl, rfl⟩
theorem frL_ne {x : Bs} (h : x.length ≤ 200) : strP (frL x) ≠ ByteArray.empty := fun e => by
  have := congrArg ByteArray.size e
  have h1 := (frL_len h).1
  rw [strP_size] at this
  have e0 : ByteArray.empty.size = 0 := rfl
  omega
theorem last_idx {α : Type} {l : List α} {s : α} (h : l.length ≤ 1000) : IntKind.wrap .i64 (((l ++ [s]).length : Int) - 1) = (l.length : Int) ∧ idx (l ++ [s]) (l.length : Int) = some s := by
  refine ⟨?_, by rw [idx_nat]; simp⟩
  rw [wrap64_in (by simp; unfold inR; omega)]; simp
theorem set_last {α : Type} (l : List α) (s t : α) : (l ++ [s]).set l.length t = l ++ [t] := by simp
theorem empty_recs {r : List Bs} (h : ∀ x, x ∈ r → x.length ≤ 200) (e : strP (r.flatMap frL) = ByteArray.empty) : r = [] := by
  have := flat_len h
  have e1 := congrArg ByteArray.size e
  rw [strP_size] at e1
  have e0 : ByteArray.empty.size = 0 := rfl
  exact List.length_eq_zero_iff.1 (by omega)
/-- One record more, in the last segment. -/
theorem add_a {d : D_Log} {n0 : Int} {l : List D_Seg} {s : D_Seg} {rs : List (List Bs)} {r : List Bs} {x : Bs} (h : LI d n0 l s rs r) (hx : x.length ≤ 200) (h0 : n0 ≤ d.2.2 + 1) (hc : s.2 = ByteArray.empty ∨ s.2.size + (frL x).length ≤ 60) (hn : d.2.1 + 1 ≤ 1000) :
    LI (l ++ [(s.1, s.2 ++ strP (frL x))], d.2.1 + 1, d.2.2) n0 l (s.1, s.2 ++ strP (frL x)) rs (r ++ [x]) ∧ left (l ++ [(s.1, s.2 ++ strP (frL x))], d.2.1 + 1, d.2.2) n0 rs (r ++ [x]) = left d n0 rs r ++ [x] := by
  obtain ⟨h1, h2, h3, h4, h5, h6, h7, h8⟩ := h
  obtain ⟨e1, e2, e3⟩ := h5
  refine ⟨⟨rfl, h2, h3, h4, ⟨?_, ?_, ?_⟩, by dsimp only; rw [List.length_append, List.length_singleton]; omega, hn, by dsimp only; omega⟩, ?_⟩
  · rw [e1, List.flatMap_append, List.flatMap_cons, List.flatMap_nil, List.append_nil, strP_app]
  · intro y hy
    rcases List.mem_append.1 hy with hy | hy
    · exact e2 y hy
    · obtain rfl := List.mem_singleton.1 hy; exact hx
  · dsimp only
    rcases hc with hc | hc
    · right
      rw [e1] at hc
      rw [empty_recs e2 hc]; rfl
    · left; rw [ByteArray.size_append, strP_size]; exact hc
  · unfold left
    dsimp only
    have hh : (d.2.2 + 1 - n0).toNat ≤ (rs ++ [r]).flatten.length := by
      simp only [List.flatten_append, List.flatten_cons, List.flatten_nil, List.append_nil, List.length_append]; omega
    rw [← List.drop_append_of_le_length hh]
    simp
/-- One record more, in a segment of its own. -/
theorem add_b {d : D_Log} {n0 : Int} {l : List D_Seg} {s : D_Seg} {rs : List (List Bs)} {r : List Bs} {x : Bs} (h : LI d n0 l s rs r) (hx : x.length ≤ 200) (h0 : n0 ≤ d.2.2 + 1) (hc : s.2 ≠ ByteArray.empty) :
    ∃ n0' l' rs', trimD d.2.2 (d.1 ++ [(d.2.1, strP (frL x))]) = l' ++ [(d.2.1, strP (frL x))] ∧ (l'.length ≤ 5 → d.2.1 + 1 ≤ 1000 → LI (l' ++ [(d.2.1, strP (frL x))], d.2.1 + 1, d.2.2) n0' l' (d.2.1, strP (frL x)) rs' [x] ∧ n0' ≤ d.2.2 + 1 ∧ left (l' ++ [(d.2.1, strP (frL x))], d.2.1 + 1, d.2.2) n0' rs' [x] = left d n0 rs r ++ [x]) := by
  obtain ⟨h1, h2, h3, h4, h5, h6, h7, h8⟩ := h
  have hr : r ≠ [] := fun e => hc (by rw [h5.1, e]; rfl)
  have hr1 : 1 ≤ r.length := by cases r with | nil => exact (hr rfl).elim | cons _ _ => simp
  have hS : SGn (-1) n0 (l ++ [s]) (rs ++ [r]) := (h4.low (by omega)).snoc h5 hr (by omega)
  have htot : (rs ++ [r]).flatten.length = rs.flatten.length + r.length := by simp
  have hx2 : SegR (n0 + ((rs ++ [r]).flatten.length : Nat)) (d.2.1, strP (frL x)) [x] := by
    refine ⟨by rw [htot, show n0 + ((rs.flatten.length + r.length : Nat) : Int) = d.2.1 by omega, List.flatMap_cons, List.flatMap_nil, List.append_nil], fun y hy => by obtain rfl := List.mem_singleton.1 hy; exact hx, .inr rfl⟩
  obtain ⟨l', rs', n', k, g1, g2, g3, g4, g5, g6, g7⟩ := trim_parts (mark := d.2.2) hS hx2
  rw [h1]
  refine ⟨n', l', rs', g1, fun q1 q2 => ⟨⟨rfl, q1, by omega, g2, ?_, ?_, q2, by dsimp only; omega⟩, by omega, ?_⟩⟩
  · rw [show n' + (rs'.flatten.length : Int) = n0 + ((rs ++ [r]).flatten.length : Nat) by omega]; exact hx2
  · dsimp only; simp only [List.length_singleton]; omega
  · unfold left
    dsimp only
    have hh : (d.2.2 + 1 - n0).toNat ≤ (rs ++ [r]).flatten.length := by rw [htot]; omega
    rw [List.flatten_append, List.flatten_cons, List.flatten_nil, List.append_nil, g6, ← List.drop_append_of_le_length (by omega), List.drop_drop, ← List.drop_append_of_le_length hh]
    congr 1; omega
theorem i_LogAdd_li {d : D_Log} {n0 : Int} {l : List D_Seg} {s : D_Seg} {rs : List (List Bs)} {r : List Bs} {x : Bs} (h : LI d n0 l s rs r) (hx : x.length ≤ 200) (h0 : n0 ≤ d.2.2 + 1) :
    i_LogAdd d (strP x) = some (d, false) ∨ ∃ d' n0' l' s' rs' r', i_LogAdd d (strP x) = some (d', true) ∧ LI d' n0' l' s' rs' r' ∧ n0' ≤ d'.2.2 + 1 ∧ left d' n0' rs' r' = left d n0 rs r ++ [x] := by
  have hn := h.next; have hn2 := h.next2; have hm := h.mark; have hf := h.first
  have hl := h.few
  obtain ⟨f1, f2⟩ := frL_len hx
  obtain ⟨z1, z2, z3, z4⟩ := h.last.size
  have hlen : d.1.length = l.length + 1 := by rw [h.segs]; simp
  obtain ⟨i1, i2⟩ := last_idx (l := l) (s := s) (by omega)
  rw [← h.segs] at i1 i2
  unfold i_LogAdd
  simp only [Prod.eta, i_LogOk_eq h.fit, h.ok, Option.bind_some, Bool.not_true, cond_false, i_copyLog_eq h.fit.1, (frame_eq hx).1, i1, i2]
  rw [wrap64_in (n := (s.2.size : Int) + ((strP (frL x)).size : Int)) (by rw [strP_size]; unfold inR; omega), wrap64_in (n := d.2.1 + 1) (by unfold inR; omega), decide_eq_false (frL_ne hx)]
  by_cases hc : s.2 = ByteArray.empty ∨ s.2.size + (frL x).length ≤ 60
  · have ec : (decide (s.2 = ByteArray.empty) || decide ((s.2.size : Int) + ((strP (frL x)).size : Int) ≤ 60)) = true := by
      rw [strP_size]; simp only [Bool.or_eq_true, decide_eq_true_eq]
      rcases hc with hc | hc
      · exact .inl hc
      · exact .inr (by omega)
    rw [ec, cond_true, catP_ok (by rw [strP_size]; omega)]
    simp only [Option.bind_some, jbind, Int.toNat_natCast]
    rw [h.segs, set_last]
    by_cases hq : d.2.1 + 1 ≤ 1000
    · right
      obtain ⟨a1, a2⟩ := add_a h hx h0 hc hq
      rw [h.segs] at hlen
      have e6 : decide (6 < ((l ++ [(s.1, s.2 ++ strP (frL x))]).length : Int)) = false := decide_eq_false (by rw [List.length_append, List.length_singleton]; omega)
      rw [e6, decide_eq_false (show ¬ 1000 < d.2.1 + 1 by omega)]
      exact ⟨_, n0, l, _, rs, _, rfl, a1, h0, a2⟩
    · left
      rw [decide_eq_true (show 1000 < d.2.1 + 1 by omega), Bool.or_true, cond_true]
  · have ec : (decide (s.2 = ByteArray.empty) || decide ((s.2.size : Int) + ((strP (frL x)).size : Int) ≤ 60)) = false := by
      rw [strP_size]; simp only [Bool.or_eq_false_iff, decide_eq_false_iff_not]
      exact ⟨fun e => hc (.inl e), fun e => hc (.inr (by omega))⟩
    obtain ⟨n0', l', rs', a1, a2⟩ := add_b h hx h0 (fun e => hc (.inl e))
    have htf : TFit (d.1 ++ [(d.2.1, strP (frL x))]) := by
      obtain ⟨t1, t2⟩ := h.tfit.1
      refine ⟨by simp; omega, fun t ht => ?_⟩
      rcases List.mem_append.1 ht with ht | ht
      · exact t2 t ht
      · obtain rfl := List.mem_singleton.1 ht; dsimp only; omega
    rw [ec, cond_false, appP_ok (by simp; omega), Option.bind_some, i_trim_eq (d := (d.1 ++ [(d.2.1, strP (frL x))], d.2.1, d.2.2)) htf (by simp)]
    dsimp only [Option.bind_some, jbind]
    rw [a1]
    by_cases hq : l'.length ≤ 5 ∧ d.2.1 + 1 ≤ 1000
    · right
      obtain ⟨b1, b2, b3⟩ := a2 hq.1 hq.2
      have e6 : decide (6 < ((l' ++ [(d.2.1, strP (frL x))]).length : Int)) = false := decide_eq_false (by rw [List.length_append, List.length_singleton]; omega)
      rw [e6, decide_eq_false (show ¬ 1000 < d.2.1 + 1 by omega)]
      exact ⟨_, n0', l', _, rs', _, rfl, b1, b2, b3⟩
    · left
      have e6 : (decide (6 < ((l' ++ [(d.2.1, strP (frL x))]).length : Int)) || decide (1000 < d.2.1 + 1)) = true := by
        simp only [Bool.or_eq_true, decide_eq_true_eq, List.length_append, List.length_singleton]; omega
      rw [Bool.false_or, e6, cond_true]
/-- What is left of a text that is cut. -/
theorem cut_text {r : List Bs} (h : ∀ x, x ∈ r → x.length ≤ 200) (c : Nat) (hl : (r.flatMap frL).length ≤ 1000000) : ∃ q e, i_Unframe (strP ((r.flatMap frL).take c)) = some (q.map strP, ((e : Nat) : Int)) ∧ s_Unframe (strP ((r.flatMap frL).take c)) = some (q.map strP, ((e : Nat) : Int)) ∧ q <+: r ∧ (r.flatMap frL).take e = q.flatMap frL ∧ e ≤ (r.flatMap frL).length ∧ e ≤ c := by
  have hz : (strP ((r.flatMap frL).take c)).size ≤ 1000000000 := by rw [strP_size, List.length_take]; omega
  have hU := un_spec (t := (r.flatMap frL).take c) (by rw [List.length_take]; omega)
  have h1 := i_un hz
  have h2 := s_un hz
  unfold recs endd at h1 h2
  rw [tl_str] at h1 h2
  refine ⟨_, _, h1, h2, Un_cut (un_flat h) hU, ?_, ?_, ?_⟩
  · rw [hU.2.1, List.take_take]
    have := hU.2.2.1
    rw [List.length_take] at this
    congr 1; omega
  · have := hU.2.2.1; rw [List.length_take] at this; omega
  · have := hU.2.2.1; rw [List.length_take] at this; omega
/-- A log cut to fewer records of the last segment. -/
theorem cut_li {d : D_Log} {n0 : Int} {l : List D_Seg} {s : D_Seg} {rs : List (List Bs)} {r q : List Bs} {mk : Int} (h : LI d n0 l s rs r) (hq : q <+: r) (hm : mk = if n0 + rs.flatten.length + q.length - 1 < d.2.2 then n0 + rs.flatten.length + q.length - 1 else d.2.2) :
    LI (l ++ [(s.1, strP (q.flatMap frL))], n0 + rs.flatten.length + q.length, mk) n0 l (s.1, strP (q.flatMap frL)) rs q ∧ left (l ++ [(s.1, strP (q.flatMap frL))], n0 + rs.flatten.length + q.length, mk) n0 rs q <+: left d n0 rs r := by
  obtain ⟨h1, h2, h3, h4, h5, h6, h7, h8⟩ := h
  obtain ⟨e1, e2, e3⟩ := h5
  have hle := hq.length_le
  obtain ⟨q2, rfl⟩ := hq
  rw [List.length_append] at hle h6
  have hmk : mk ≤ d.2.2 ∧ 0 ≤ mk ∧ mk ≤ n0 + rs.flatten.length + q.length - 1 := by
    rw [hm]; split <;> omega
  refine ⟨⟨rfl, h2, h3, h4.low hmk.1, ⟨by rw [e1], fun x hx => e2 x (List.mem_append_left _ hx), ?_⟩, rfl, by dsimp only; omega, ⟨hmk.2.1, hmk.2.2⟩⟩, ?_⟩
  · dsimp only
    rcases e3 with e3 | e3
    · left
      rw [e1] at e3
      dsimp only at e3
      rw [strP_size, List.flatMap_append, List.length_append] at e3
      rw [strP_size]; omega
    · rw [List.length_append] at e3
      by_cases hz : q.length = 1
      · exact .inr hz
      · left
        have : q = [] := List.length_eq_zero_iff.1 (by omega)
        subst this
        rw [strP_size]; simp
  · unfold left
    dsimp only
    by_cases hc : n0 + rs.flatten.length + q.length - 1 < d.2.2
    · rw [if_pos hc] at hm
      rw [List.drop_eq_nil_of_le (by simp only [List.flatten_append, List.flatten_cons, List.flatten_nil, List.append_nil, List.length_append]; omega)]
      exact List.nil_prefix
    · rw [if_neg hc] at hm
      rw [hm]
      refine ⟨q2, ?_⟩
      rw [← List.drop_append_of_le_length (by simp only [List.flatten_append, List.flatten_cons, List.flatten_nil, List.append_nil, List.length_append]; omega)]
      simp
end Go.Proofs.SL
namespace Go.Proofs.SL
open Go
def LOk (d : D_Log) : Prop := ∃ n0 l s rs r, LI d n0 l s rs r
theorem i_LogCut_li {d : D_Log} {n0 : Int} {l : List D_Seg} {s : D_Seg} {rs : List (List Bs)} {r : List Bs} {c : Int} (h : LI d n0 l s rs r) (h0 : 0 ≤ c) :
    ∃ d' s' q, i_LogCut d c = some (d', true) ∧ LI d' n0 l s' rs q ∧ left d' n0 rs q <+: left d n0 rs r := by
  have hn := h.next; have hn2 := h.next2; have hm := h.mark; have hf := h.first
  have hl := h.few
  obtain ⟨z1, z2, z3, z4⟩ := h.last.size
  have hlen : d.1.length = l.length + 1 := by rw [h.segs]; simp
  obtain ⟨i1, i2⟩ := last_idx (l := l) (s := s) (by omega)
  rw [← h.segs] at i1 i2
  have e1 : s.2 = strP (r.flatMap frL) := by rw [h.last.1]
  have hsz : (r.flatMap frL).length ≤ 211 := by rw [e1, strP_size] at z1; exact z1
  obtain ⟨k, hk1, hk2⟩ : ∃ k : Nat, (if (s.2.size : Int) < (if c < 0 then 0 else c) then (s.2.size : Int) else (if c < 0 then 0 else c)) = (k : Int) ∧ k ≤ (r.flatMap frL).length := by
    rw [if_neg (show ¬ c < 0 by omega), e1, strP_size]
    by_cases hc : ((r.flatMap frL).length : Int) < c
    · rw [if_pos hc]; exact ⟨_, rfl, Nat.le_refl _⟩
    · rw [if_neg hc]; exact ⟨c.toNat, by omega, by omega⟩
  obtain ⟨q, e, u1, u2, u3, u4, u5, u6⟩ := cut_text h.last.2.1 k (by omega)
  have hq : ∀ x, x ∈ q → x.length ≤ 200 := fun x hx => h.last.2.1 x (u3.subset hx)
  have hqz : (strP (q.flatMap frL)).size ≤ 1000000000 := by rw [strP_size, ← u4, List.length_take]; omega
  have hql := u3.length_le
  obtain ⟨j1, j2⟩ := last_idx (l := l) (s := ((s.1, strP (q.flatMap frL)) : D_Seg)) (by omega)
  obtain ⟨a1, a2⟩ := cut_li h u3 rfl
  refine ⟨_, _, q, ?_, a1, a2⟩
  unfold i_LogCut
  simp only [Prod.eta, i_LogOk_eq h.fit, h.ok, Option.bind_some, Bool.not_true, cond_false, i_copyLog_eq h.fit.1, i1, i2]
  rw [hk1, e1, ssl_take hk2, Option.bind_some, u1, Option.bind_some]
  dsimp only
  rw [ssl_take u5, Option.bind_some, u4]
  simp only [Int.toNat_natCast, h.segs, set_last, Option.bind_some, j2]
  unfold i_Seg_records
  rw [i_un hqz]
  simp only [Option.bind_some, List.length_map, (recs_flat hq).1]
  rw [z2, wrap64_in (n := n0 + (rs.flatten.length : Int) + (q.length : Int)) (by unfold inR; omega), wrap64_in (n := n0 + (rs.flatten.length : Int) + (q.length : Int) - 1) (by unfold inR; omega)]
theorem s_LogCut_ok {d : D_Log} {c : Int} (hd : LOk d) (h0 : 0 ≤ c) : ∃ d' b, s_LogCut d c = some (d', b) ∧ LOk d' := by
  obtain ⟨n0, l, s, rs, r, h⟩ := hd
  have hn := h.next; have hn2 := h.next2; have hm := h.mark; have hf := h.first
  have hl := h.few
  obtain ⟨z1, z2, z3, z4⟩ := h.last.size
  have hlen : d.1.length = l.length + 1 := by rw [h.segs]; simp
  obtain ⟨i1, i2⟩ := last_idx (l := l) (s := s) (by omega)
  rw [← h.segs] at i1 i2
  have e1 : s.2 = strP (r.flatMap frL) := by rw [h.last.1]
  have hsz : (r.flatMap frL).length ≤ 211 := by rw [e1, strP_size] at z1; exact z1
  unfold s_LogCut
  simp only [Prod.eta, s_LogOk_eq h.fit, h.ok, Option.bind_some, Bool.not_true, cond_false, s_l6Copy_eq h.fit.1, i1, i2, decide_eq_false (show ¬ c < 0 by omega), jbind]
  by_cases hc : c < (s.2.size : Int)
  · rw [decide_eq_true hc, cond_true]
    obtain ⟨k, rfl⟩ := Int.eq_ofNat_of_zero_le h0
    have hk2 : k ≤ (r.flatMap frL).length := by rw [e1, strP_size] at hc; omega
    obtain ⟨q, e, u1, u2, u3, u4, u5, u6⟩ := cut_text h.last.2.1 k (by omega)
    obtain ⟨j1, j2⟩ := last_idx (l := l) (s := ((s.1, strP (q.flatMap frL)) : D_Seg)) (by omega)
    have hql := u3.length_le
    rw [e1, ssl_take hk2, Option.bind_some, u2, Option.bind_some]
    dsimp only
    rw [ssl_take u5, Option.bind_some, u4]
    simp only [Int.toNat_natCast, h.segs, set_last, Option.bind_some, j2, List.length_map]
    rw [z2, wrap64_in (n := n0 + (rs.flatten.length : Int) + (q.length : Int)) (by unfold inR; omega), wrap64_in (n := n0 + (rs.flatten.length : Int) + (q.length : Int) - 1) (by unfold inR; omega)]
    by_cases hz : n0 + (rs.flatten.length : Int) + (q.length : Int) ≤ d.2.2
    · rw [decide_eq_true hz, cond_true]
      obtain ⟨a1, a2⟩ := cut_li (mk := n0 + (rs.flatten.length : Int) + (q.length : Int) - 1) h u3 (by rw [if_pos (by omega)])
      rw [z2] at a1
      exact ⟨_, _, rfl, _, _, _, _, _, a1⟩
    · rw [decide_eq_false hz, cond_false]
      obtain ⟨a1, a2⟩ := cut_li (mk := d.2.2) h u3 (by rw [if_neg (by omega)])
      rw [z2] at a1
      exact ⟨_, _, rfl, _, _, _, _, _, a1⟩
  · rw [decide_eq_false hc, cond_false, decide_eq_false (show ¬ d.2.1 ≤ d.2.2 by omega), cond_false]
    exact ⟨_, _, rfl, n0, l, s, rs, r, h⟩
theorem trim_sub {mark : Int} : ∀ {l : List D_Seg}, (trimD mark l).length ≤ l.length ∧ ∀ t, t ∈ trimD mark l → t ∈ l
  | [] => ⟨Nat.le_refl _, fun _ h => h⟩
  | [s] => ⟨Nat.le_refl _, fun _ h => h⟩
  | s :: t :: l => by
    unfold trimD
    split
    · obtain ⟨h1, h2⟩ := trim_sub (mark := mark) (l := t :: l)
      exact ⟨by simp only [List.length_cons] at h1 ⊢; omega, fun x hx => List.mem_cons_of_mem _ (h2 x hx)⟩
    · exact ⟨Nat.le_refl _, fun _ h => h⟩
/-- What follows an addition. -/
theorem add_end {d : D_Log} {segs : List D_Seg} {nx : Int} (hd : LOk d) (hf : LFit d) (h1 : TFit segs) (h2 : segs ≠ []) (h3 : ∀ t, t ∈ segs → t.2.size ≤ 1000000000) (h4 : inR nx ∧ inR d.2.2) :
    ∃ d' b, Option.bind (s_l6Trim (segs, nx, d.2.2)) (fun y17 => Option.bind (s_LogOk y17) (fun y18 => cond (!y18) (some (d, false)) (some (y17, true)))) = some (d', b) ∧ LOk d' := by
  have hfit : LFit (trimD d.2.2 segs, nx, d.2.2) := ⟨by have := (trim_sub (mark := d.2.2) (l := segs)).1; have := h1.1; dsimp only; omega, fun t ht => h3 t ((trim_sub (mark := d.2.2) (l := segs)).2 t ht), h4⟩
  rw [s_trim_eq (d := (segs, nx, d.2.2)) h1 h2, Option.bind_some]
  dsimp only
  rw [s_LogOk_eq hfit, Option.bind_some]
  cases hk : logOkD (trimD d.2.2 segs, nx, d.2.2) with
  | false => exact ⟨_, _, rfl, hd⟩
  | true => exact ⟨_, _, rfl, li_of hfit hk⟩
theorem s_LogAdd_ok {d : D_Log} {x : Bs} (hd : LOk d) (hx : x.length ≤ 200) : ∃ d' b, s_LogAdd d (strP x) = some (d', b) ∧ LOk d' := by
  have hd' := hd
  obtain ⟨n0, l, s, rs, r, h⟩ := hd
  have hn := h.next; have hn2 := h.next2; have hm := h.mark; have hf := h.first
  have hl := h.few
  obtain ⟨f1, f2⟩ := frL_len hx
  obtain ⟨z1, z2, z3, z4⟩ := h.last.size
  have hlen : d.1.length = l.length + 1 := by rw [h.segs]; simp
  obtain ⟨i1, i2⟩ := last_idx (l := l) (s := s) (by omega)
  rw [← h.segs] at i1 i2
  unfold s_LogAdd
  simp only [Prod.eta, s_LogOk_eq h.fit, h.ok, Option.bind_some, Bool.not_true, cond_false, (frame_eq hx).2, i1, i2]
  rw [s_l6Copy_eq h.fit.1, Option.bind_some]
  simp only [i1, i2, Option.bind_some]
  rw [decide_eq_false (frL_ne hx), Bool.false_or]
  by_cases hc : 1000 ≤ d.2.1
  · rw [decide_eq_true hc, cond_true]; exact ⟨_, _, rfl, hd'⟩
  · rw [decide_eq_false hc, cond_false, wrap64_in (n := d.2.1 + 1) (by unfold inR; omega)]
    obtain ⟨t1, t2⟩ := h.tfit
    have hA : ∃ d' b, Option.bind (s_l6Trim (l ++ [(s.1, s.2 ++ strP (frL x))], d.2.1 + 1, d.2.2)) (fun y17 => Option.bind (s_LogOk y17) (fun y18 => cond (!y18) (some (d, false)) (some (y17, true)))) = some (d', b) ∧ LOk d' := by
      refine add_end hd' h.fit ⟨by simp; omega, fun t ht => ?_⟩ (by simp) (fun t ht => ?_) ⟨by unfold inR; omega, h.fit.2.2.2⟩
      · rcases List.mem_append.1 ht with ht | ht
        · exact t1.2 t (by rw [h.segs]; exact List.mem_append_left _ ht)
        · obtain rfl := List.mem_singleton.1 ht
          exact t1.2 s (by rw [h.segs]; exact List.mem_append_right _ (List.mem_singleton.2 rfl))
      · rcases List.mem_append.1 ht with ht | ht
        · have := h.front.sizes t ht; omega
        · obtain rfl := List.mem_singleton.1 ht
          dsimp only; rw [ByteArray.size_append, strP_size]; omega
    have hB : ∃ d' b, Option.bind (s_l6Trim (d.1 ++ [(d.2.1, strP (frL x))], d.2.1 + 1, d.2.2)) (fun y17 => Option.bind (s_LogOk y17) (fun y18 => cond (!y18) (some (d, false)) (some (y17, true)))) = some (d', b) ∧ LOk d' := by
      refine add_end hd' h.fit ⟨by simp; omega, fun t ht => ?_⟩ (by simp) (fun t ht => ?_) ⟨by unfold inR; omega, h.fit.2.2.2⟩
      · rcases List.mem_append.1 ht with ht | ht
        · exact t1.2 t ht
        · obtain rfl := List.mem_singleton.1 ht; dsimp only; omega
      · rcases List.mem_append.1 ht with ht | ht
        · have := h.sz t ht; omega
        · obtain rfl := List.mem_singleton.1 ht
          dsimp only; rw [strP_size]; omega
    have hcat : catP s.2 (strP (frL x)) = some (s.2 ++ strP (frL x)) := catP_ok (by rw [strP_size]; omega)
    have hset : d.1.set (((l.length : Nat) : Int)).toNat (s.1, s.2 ++ strP (frL x)) = l ++ [(s.1, s.2 ++ strP (frL x))] := by rw [h.segs, Int.toNat_natCast, set_last]
    have happ : appP d.1 [(d.2.1, strP (frL x))] = some (d.1 ++ [(d.2.1, strP (frL x))]) := appP_ok (by simp; omega)
    rw [gbs]
    by_cases he : s.2 = ByteArray.empty
    · simp only [decide_eq_true he, Bool.not_true, Bool.false_eq_true, if_false, Bool.true_or, cond_true, hcat, Option.bind_some, hset, jbind]
      exact hA
    · simp only [decide_eq_false he, Bool.not_false, if_true, Bool.false_or]
      cases decide (IntKind.wrap .i64 ((s.2.size : Int) + ((strP (frL x)).size : Int)) ≤ 60) with
      | true =>
        simp only [cond_true, hcat, Option.bind_some, hset, jbind]
        exact hA
      | false =>
        simp only [cond_false, happ, Option.bind_some, jbind]
        exact hB
theorem mark_ok {d : D_Log} {n : Int} (hd : LOk d) : LOk (markD d n).1 := by
  have hd' := hd
  obtain ⟨n0, l, s, rs, r, h⟩ := hd
  unfold markD
  rw [if_pos h.ok]
  by_cases hc : d.2.2 ≤ n ∧ n ≤ d.2.1 - 1
  · rw [if_pos hc]
    obtain ⟨l', rs', n', k, g1, g2, g3, g4, g5, g6, g7⟩ := trim_parts (mark := n) h.front h.last
    have hn := h.next; have hn2 := h.next2; have hm := h.mark; have hf := h.first
    have hl := h.last
    refine ⟨n', l', s, rs', r, ⟨by dsimp only; rw [h.segs]; exact g1, by have := h.few; omega, by omega, g2, ?_, ?_, hn2, by dsimp only; omega⟩⟩
    · rw [show n' + (rs'.flatten.length : Int) = n0 + rs.flatten.length by omega]; exact hl
    · dsimp only; omega
  · rw [if_neg hc]; exact hd'
theorem new_lok : LOk ([(1, ByteArray.empty)], 1, 0) := ⟨1, [], (1, ByteArray.empty), [], [], ⟨rfl, by simp, by omega, trivial, ⟨rfl, fun x hx => (by cases hx), .inl (by simp)⟩, by simp, by simp, by simp⟩⟩
end Go.Proofs.SL
namespace Go.Proofs.SL
open Go
theorem whileP_to {σ α : Type} {f : σ → Option (σ ⊕ α)} {s : σ} (G : Option α → Prop) (I : σ → Prop) (μ : σ → Nat) (Q : α → Prop) (hg : ∀ a, Q a → G (some a)) (hs : I s)
    (h : ∀ s, I s → (∃ s', f s = some (.inl s') ∧ I s' ∧ μ s' < μ s) ∨ ∃ a, f s = some (.inr a) ∧ Q a) : G (whileP f s) := by
  obtain ⟨a, ha, hq⟩ := whileP_rule I μ Q h s hs
  rw [ha]; exact hg a hq
theorem LOk.fit {d : D_Log} (h : LOk d) : LFit d := by obtain ⟨n0, l, s, rs, r, h⟩ := h; exact h.fit
theorem once_ok' {d : D_l1Cur} (h : CurOk d) (n : Int) : ∃ x d', s_l1Once d n = some (x, d') ∧ CurOk d' ∧ d'.1 = d.1 := by
  unfold s_l1Once
  simp only [Prod.eta]
  obtain ⟨y, d1, e1, g1, c1, k1⟩ := below_ok' h n
  rw [e1, Option.bind_some]
  exact ⟨_, _, rfl, c1, k1⟩
theorem some_log_ok {c : D_l1Cur} (hc : CurOk c) : ∃ d c', s_l6Some c = some (d, c') ∧ LFit d ∧ CurOk c' := by
  unfold s_l6Some s_LogNew
  simp only [Prod.eta, Option.bind_some]
  obtain ⟨n, c1, e1, g1, hc1⟩ := below_ok hc 24
  rw [e1, Option.bind_some]
  dsimp only
  refine whileP_to (fun o => ∃ d c', o = some (d, c') ∧ LFit d ∧ CurOk c') (fun s : Int × Int × Int × (List D_Seg) × Int × Int => CurOk (c1.1, s.2.1, s.2.2.1) ∧ LOk (s.2.2.2.1, s.2.2.2.2.1, s.2.2.2.2.2) ∧ s.1 ≤ 24) (fun s => s.1.toNat) (fun r : D_Log × D_l1Cur => LFit r.1 ∧ CurOk r.2)
    (fun a ha => ⟨a.1, a.2, rfl, ha.1, ha.2⟩) ⟨hc1, new_lok, by have := g1.2.1 (by omega); dsimp only; omega⟩ ?_
  rintro ⟨n, p, q, segs, nx, mk⟩ ⟨hcur, hL, hn⟩
  dsimp only at hcur hL hn ⊢
  have hf := hL.fit
  have hb : 0 ≤ mk ∧ mk ≤ 1000 ∧ 1 ≤ nx ∧ nx ≤ 1000 := by
    obtain ⟨n0, l, s, rs, r, h⟩ := hL
    have := h.mark; have := h.next2; have := h.first; have := h.next
    dsimp only at *; omega
  have hne : segs ≠ [] := by
    obtain ⟨n0, l, s, rs, r, h⟩ := hL
    have := h.segs; dsimp only at this; rw [this]; simp
  by_cases h0 : 0 < n
  · left
    simp only [decide_eq_true h0, cond_true]
    have hw : IntKind.wrap .i64 (n - 1) = n - 1 := wrap64_in (by unfold inR; omega)
    have fin : ∀ (c' : D_l1Cur) (d : D_Log), CurOk c' → c'.1 = c1.1 → LOk d → ∃ s' : Int × Int × Int × (List D_Seg) × Int × Int, some (Sum.inl (IntKind.wrap .i64 (n - 1), c'.2.1, c'.2.2, d.1, d.2.1, d.2.2) : (Int × Int × Int × (List D_Seg) × Int × Int) ⊕ (D_Log × D_l1Cur)) = some (.inl s') ∧ (CurOk (c1.1, s'.2.1, s'.2.2.1) ∧ LOk (s'.2.2.2.1, s'.2.2.2.2.1, s'.2.2.2.2.2) ∧ s'.1 ≤ 24) ∧ s'.1.toNat < n.toNat := by
      intro c' d h1 h2 h3
      refine ⟨_, rfl, ⟨by rw [← h2]; exact h1, h3, ?_⟩, ?_⟩ <;> dsimp only <;> omega
    obtain ⟨x, c2, e2, g2, hc2, k2⟩ := below_ok' hcur 7
    rw [e2, Option.bind_some]
    dsimp only
    cases decide (x = 0) with
    | true =>
      rw [cond_true]
      obtain ⟨y, c3, e3, g3, hc3, k3⟩ := below_ok' hc2 4
      rw [e3, Option.bind_some, s_LogMark_eq hf, Option.bind_some]
      exact fin c3 _ hc3 (by rw [k3, k2]) (mark_ok hL)
    | false =>
      rw [cond_false]
      cases decide (x = 1) with
      | true =>
        rw [cond_true]
        obtain ⟨b, c3, e3, hc3, k3⟩ := once_ok' hc2 3
        rw [e3, Option.bind_some]
        dsimp only
        cases b with
        | true =>
          rw [cond_true]
          obtain ⟨y, c4, e4, g4, hc4, k4⟩ := below_ok' hc3 70
          obtain ⟨d', b', e5, h5⟩ := s_LogCut_ok hL g4.1
          rw [e4, Option.bind_some]
          dsimp only
          rw [e5, Option.bind_some]
          exact fin c4 d' hc4 (by rw [k4, k3, k2]) h5
        | false =>
          rw [cond_false]
          exact fin c3 (segs, nx, mk) hc3 (by rw [k3, k2]) hL
      | false =>
        rw [cond_false]
        obtain ⟨t, c4, e4, g4, hc4, k4⟩ := text_ok' hc2 (n := 20) (by omega) (by omega)
        rw [e4, Option.bind_some]
        dsimp only
        obtain ⟨x, rfl⟩ := str_list t
        obtain ⟨d', b', e5, h5⟩ := s_LogAdd_ok (x := x) hL (by rw [strP_size] at g4; omega)
        rw [e5, Option.bind_some]
        exact fin c4 d' hc4 (by rw [k4, k2]) h5
  · right
    simp only [decide_eq_false h0, cond_false]
    obtain ⟨b, c2, e2, hc2⟩ := once_ok hcur 10
    rw [e2, Option.bind_some]
    dsimp only
    cases b with
    | false => rw [cond_false]; exact ⟨_, rfl, hf, hc2⟩
    | true =>
      rw [cond_true]
      obtain ⟨x, c3, e3, g3, hc3⟩ := below_ok hc2 4
      rw [e3, Option.bind_some]
      dsimp only
      cases decide (x = 0) with
      | true =>
        rw [cond_true]
        refine ⟨_, rfl, ⟨hf.1, hf.2.1, ?_, hf.2.2.2⟩, hc3⟩
        dsimp only; rw [wrap64_in (n := nx + 1) (by unfold inR; omega)]; unfold inR; omega
      | false =>
        rw [cond_false]
        cases decide (x = 1) with
        | true =>
          rw [cond_true]
          obtain ⟨y, c4, e4, g4, hc4⟩ := below_ok hc3 30
          rw [e4, Option.bind_some]
          have := g4.2.1 (by omega)
          refine ⟨_, rfl, ⟨hf.1, hf.2.1, hf.2.2.1, ?_⟩, hc4⟩
          dsimp only; rw [wrap64_in (n := y - 1) (by unfold inR; omega)]; unfold inR; omega
        | false =>
          rw [cond_false]
          cases decide (x = 2) with
          | true =>
            rw [cond_true]
            match segs, hne with
            | s :: l, _ =>
              have hx : idx (s :: l) 0 = some s := by rw [show (0 : Int) = ((0 : Nat) : Int) from rfl, idx_nat]; rfl
              obtain ⟨n0, l0, s0, rs, r, hLL⟩ := hL
              have hsz := hLL.sz s (List.mem_cons_self)
              obtain ⟨t, c4, e4, g4, hc4⟩ := spoil_ok hc3 (s := s.2) (by omega)
              simp only [hx, Option.bind_some]
              rw [e4]
              simp only [Option.bind_some]
              refine ⟨_, rfl, ⟨hf.1, fun u hu => ?_, hf.2.2⟩, hc4⟩
              rcases List.mem_or_eq_of_mem_set hu with hu | rfl
              · exact hf.2.1 u hu
              · dsimp only; omega
          | false =>
            rw [cond_false]
            have hlen : segs.length ≤ 6 := by
              obtain ⟨n0, l, s, rs, r, h⟩ := hL
              have e := h.segs; have := h.few; dsimp only at e; rw [e]; simp; omega
            rw [appP_ok (by simp; omega), Option.bind_some]
            refine ⟨_, rfl, ⟨by dsimp only; simp; omega, fun u hu => ?_, hf.2.2⟩, hc3⟩
            rcases List.mem_append.1 hu with hu | hu
            · exact hf.2.1 u hu
            · obtain rfl := List.mem_singleton.1 hu
              show (0 : Nat) ≤ 1000000000
              omega
theorem fresh_ok {l : List UInt8} {i : Int} (h : l.length ≤ 1048576) (h0 : 0 ≤ i ∧ i ≤ 1000) : ∃ b r, w_fresh l i = some (b :: r) ∧ r.length ≤ 1000 := by
  unfold w_fresh
  obtain ⟨b, hb⟩ := u8P_wrap i
  rw [hb, Option.bind_some, Option.bind_some]
  refine whileP_to (fun o => ∃ b r, o = some (b :: r) ∧ r.length ≤ 1000) (fun s : List UInt8 × Int => ∃ b r, s.1 = b :: r ∧ 0 ≤ s.2 ∧ s.2 ≤ 600 ∧ (r.length : Int) ≤ s.2) (fun s => (600 - s.2).toNat) (fun a : List UInt8 => ∃ b r, a = b :: r ∧ r.length ≤ 1000) (fun a ha => by obtain ⟨b, r, h1, h2⟩ := ha; exact ⟨b, r, by rw [h1], h2⟩) ⟨b, [], rfl, by simp⟩ ?_
  rintro ⟨t, k⟩ ⟨b, r, rfl, hk0, hk1, hk2⟩
  dsimp only at hk0 hk1 hk2 ⊢
  by_cases hc : k < (l.length : Int) ∧ k < 600
  · left
    obtain ⟨j, rfl⟩ := Int.eq_ofNat_of_zero_le hk0
    have hj : l[j]? = some (l[j]'(by omega)) := List.getElem?_eq_getElem _
    generalize l[j]'(by omega) = y at hj
    obtain ⟨z, hz⟩ := u8P_wrap (IntKind.wrap .i64 (IntKind.wrap .i64 (IntKind.wrap .i64 (y.toNat : Int) * 3) + IntKind.wrap .i64 (i * IntKind.wrap .i64 (((j : Nat) : Int).tmod 7 + 1))))
    rw [decide_eq_true hc.1, decide_eq_true hc.2]
    simp only [Bool.and_self, cond_true, idx_nat, hj, Option.bind_some, hz]
    rw [appP_ok (by simp; omega), Option.bind_some]
    refine ⟨_, rfl, ⟨b, r ++ [z], rfl, ?_, ?_, ?_⟩, ?_⟩ <;> dsimp only <;> rw [wrap64_in (n := (j : Int) + 1) (by unfold inR; omega)] <;> (try simp only [List.length_append, List.length_singleton]) <;> omega
  · right
    have : (decide (k < (l.length : Int)) && decide (k < 600)) = false := by
      rw [Bool.and_eq_false_iff, decide_eq_false_iff_not, decide_eq_false_iff_not]; omega
    rw [this, cond_false]
    exact ⟨_, rfl, b, r, rfl, by omega⟩
theorem left_len {d : D_Log} {n0 : Int} {l : List D_Seg} {s : D_Seg} {rs : List (List Bs)} {r : List Bs} (h : LI d n0 l s rs r) (h0 : n0 ≤ d.2.2 + 1) : ((left d n0 rs r).length : Int) = d.2.1 - 1 - d.2.2 := by
  unfold left
  have := h.next; have := h.mark
  simp only [List.length_drop, List.flatten_append, List.flatten_cons, List.flatten_nil, List.append_nil, List.length_append]
  omega
/-- The look at the end of each round. -/
theorem round_end {σ : Type} {d : D_Log} {n0 : Int} {l : List D_Seg} {s : D_Seg} {rs : List (List Bs)} {r : List Bs} {want : List ByteArray} {no : Option (σ ⊕ Bool)} {st : σ} (h : LI d n0 l s rs r) (hw : want = (left d n0 rs r).map strP) :
    Option.bind (s_LogOk d) (fun y => gb (!(!y)) (i_LogRead d) (fun z => gb (!(!y)) (w_sameTexts z want) (fun u => cond ((!y) || (!u)) no (some (.inl st))))) = some (.inl st) := by
  have hs : w_sameTexts want want = some true := sameTexts_refl (by
    rw [hw, List.length_map]
    have := h.next; have := h.next2; have := h.first
    unfold left
    simp only [List.length_drop, List.flatten_append, List.flatten_cons, List.flatten_nil, List.append_nil, List.length_append]
    omega)
  rw [s_LogOk_eq h.fit, h.ok, Option.bind_some, i_LogRead_eq h, ← hw]
  simp only [gbs, Bool.not_true, Bool.not_false, if_true, hs, Bool.or_self, cond_false]
/-- All rounds: what is wanted is what is left. -/
abbrev SL6 : Type := List ByteArray × Int × List D_Seg × Int × Int
theorem fnLog_true (l : List UInt8) : w_FnLog l = some true := by
  unfold w_FnLog w_big i_LogNew
  simp only [Option.bind_some]
  by_cases hl : 1048576 < (l.length : Int)
  · rw [decide_eq_true hl, cond_true]
  rw [decide_eq_false hl, cond_false]
  have hl : l.length ≤ 1048576 := by omega
  refine whileP_is (fun s : SL6 => (∃ n0 ll sg rs r, LI (s.2.2.1, s.2.2.2.1, s.2.2.2.2) n0 ll sg rs r ∧ n0 ≤ s.2.2.2.2 + 1 ∧ s.1 = (left (s.2.2.1, s.2.2.2.1, s.2.2.2.2) n0 rs r).map strP) ∧ (0 ≤ s.2.1 ∧ s.2.1 ≤ 30)) (fun s => (30 - s.2.1).toNat) (fun s hs => ?_)
    ⟨⟨1, [], (1, ByteArray.empty), [], [], ⟨rfl, by simp, by omega, trivial, ⟨rfl, fun x hx => (by cases hx), .inl (by simp)⟩, by simp, by simp, by simp⟩, by simp, rfl⟩, by simp⟩
  obtain ⟨want, i, segs, nx, mk⟩ := s
  obtain ⟨⟨n0, ll, sg, rs, r, hL, hn0, hw⟩, hi⟩ := hs
  dsimp only at hL hn0 hw hi ⊢
  have hln := left_len hL hn0
  dsimp only at hln
  have hlw : (want.length : Int) = nx - 1 - mk := by rw [hw, List.length_map]; exact hln
  have hmk := hL.mark; have hn2 := hL.next2
  dsimp only at hmk hn2
  by_cases h1 : i < 30
  · left
    rw [decide_eq_true h1, cond_true]
    have wi : ∀ k : Int, 0 ≤ k → k ≤ 10 → IntKind.wrap .i64 (i + k) = i + k := fun k _ _ => wrap64_in (by unfold inR; omega)
    rw [wi 1 (by omega) (by omega), wi 2 (by omega) (by omega)]
    have fin : ∀ (want' : List ByteArray) (d' : D_Log) (n0' : Int) (ll' : List D_Seg) (sg' : D_Seg) (rs' : List (List Bs)) (r' : List Bs), LI d' n0' ll' sg' rs' r' → n0' ≤ d'.2.2 + 1 → want' = (left d' n0' rs' r').map strP → ∀ (no : Option (SL6 ⊕ Bool)), ∃ s' : SL6,
        Option.bind (s_LogOk d') (fun y => gb (!(!y)) (i_LogRead d') (fun z => gb (!(!y)) (w_sameTexts z want') (fun u => cond ((!y) || (!u)) no (some (.inl (want', i + 1, d'.1, d'.2.1, d'.2.2)))))) = some (.inl s') ∧
        ((∃ n0 ll sg rs r, LI (s'.2.2.1, s'.2.2.2.1, s'.2.2.2.2) n0 ll sg rs r ∧ n0 ≤ s'.2.2.2.2 + 1 ∧ s'.1 = (left (s'.2.2.1, s'.2.2.2.1, s'.2.2.2.2) n0 rs r).map strP) ∧ (0 ≤ s'.2.1 ∧ s'.2.1 ≤ 30)) ∧ (30 - s'.2.1).toNat < (30 - i).toNat := by
      intro want' d' n0' ll' sg' rs' r' h2 h3 h4 no
      refine ⟨_, round_end h2 h4, ⟨⟨n0', ll', sg', rs', r', h2, h3, h4⟩, ?_⟩, ?_⟩ <;> dsimp only <;> omega
    obtain ⟨y8, e8, g8⟩ := at_ok hl (show (0 : Int) ≤ i by omega) (by omega)
    rw [e8, Option.bind_some]
    cases decide (y8.tmod 6 = 0) with
    | true =>
      rw [cond_true]
      obtain ⟨y10, e10, g10⟩ := at_ok hl (show (0 : Int) ≤ i + 1 by omega) (by omega)
      have h10 := tmod_lt g10 (show (0 : Int) < 3 by omega)
      rw [e10, Option.bind_some, wrap64_in (n := mk + y10.tmod 3) (by unfold inR; omega), i_LogMark_eq hL.fit, Option.bind_some, wrap64_in (n := mk + y10.tmod 3 - mk) (by unfold inR; omega)]
      unfold markD
      rw [if_pos hL.ok]
      dsimp only
      by_cases hc : mk + y10.tmod 3 < nx
      · rw [if_pos ⟨by omega, by omega⟩, decide_eq_true hc]
        obtain ⟨n0', l', rs', a1, a2, a3⟩ := mark_li (n := mk + y10.tmod 3) hL hn0 ⟨by dsimp only; omega, by dsimp only; omega⟩
        dsimp only at a1 a2 a3
        have es : slcP want (mk + y10.tmod 3 - mk) (want.length : Int) = some (want.drop (mk + y10.tmod 3 - mk).toNat) := by
          unfold slcP; rw [if_pos ⟨by omega, by omega, by omega⟩, Int.toNat_natCast, List.take_of_length_le (by rw [List.length_drop]; omega)]
        simp only [beq_self_eq_true, Bool.not_true, cond_false, cond_true, es, Option.bind_some]
        exact fin _ (trimD (mk + y10.tmod 3) segs, nx, mk + y10.tmod 3) n0' l' sg rs' r a1 a2 (by rw [a3, hw, List.map_drop]) _
      · rw [if_neg (fun h => hc (by omega)), decide_eq_false hc]
        simp only [beq_self_eq_true, Bool.not_true, cond_false]
        exact fin want (segs, nx, mk) n0 ll sg rs r hL hn0 hw _
    | false =>
      rw [cond_false]
      obtain ⟨b, t, ef, hft⟩ := fresh_ok (i := i) hl ⟨by omega, by omega⟩
      obtain ⟨y30, e30, g30⟩ := at_ok hl (show (0 : Int) ≤ i + 2 by omega) (by omega)
      obtain ⟨c, ec⟩ := u8P_wrap y30
      have es : slcP (b :: t) 0 1 = some [b] := by
        unfold slcP; rw [if_pos ⟨by omega, by omega, by simp; omega⟩]; rfl
      have ecat : catP (strP [b]) (strP [c]) = some (strP [b, c]) := by
        rw [catP_ok (by rw [strP_size, strP_size]; simp), strP_app]; rfl
      rw [ef, Option.bind_some, es, Option.bind_some, e30, Option.bind_some, ec, Option.bind_some, ecat, Option.bind_some]
      rcases i_LogAdd_li (x := [b, c]) hL (by simp) hn0 with e | ⟨d', n0', l', s', rs', r', e, a1, a2, a3⟩
      · rw [e, Option.bind_some]
        dsimp only
        rw [cond_false]
        exact fin want (segs, nx, mk) n0 ll sg rs r hL hn0 hw _
      · rw [e, Option.bind_some]
        dsimp only
        rw [cond_true, appP_ok (by simp; omega), Option.bind_some, List.nil_append, appP_ok (by simp; omega), Option.bind_some]
        exact fin _ d' n0' l' s' rs' r' a1 a2 (by rw [a3, hw, List.map_append]; rfl) _
  · right
    rw [decide_eq_false h1, cond_false]
    obtain ⟨y54, e54, g54⟩ := at_ok hl (show (0 : Int) ≤ 3 by omega) (by omega)
    have h54 := tmod_lt g54 (show (0 : Int) < 70 by omega)
    obtain ⟨d', s', q, ec, a1, a2⟩ := i_LogCut_li (c := y54.tmod 70) hL h54.1
    obtain ⟨c0, en, hc0⟩ := new_ok hl
    obtain ⟨z, c1, e1, hz, hc1⟩ := some_log_ok (c := (c0.1, c0.2.1, c0.2.2)) hc0
    obtain ⟨x, c2, e2, g2, hc2⟩ := below_ok (d := (c1.1, c1.2.1, c1.2.2)) hc1 8
    have hle := a2.length_le
    rw [e54, Option.bind_some, ec, Option.bind_some]
    simp only [Prod.eta, i_LogRead_eq a1, Option.bind_some, s_LogOk_eq a1.fit, a1.ok, List.length_map]
    have hgt : decide ((want.length : Int) < ((left d' n0 rs q).length : Int)) = false := decide_eq_false (by rw [hw, List.length_map]; omega)
    have hsl : slcP want 0 ((left d' n0 rs q).length : Int) = some ((left d' n0 rs q).map strP) := by
      unfold slcP; rw [if_pos ⟨by omega, by omega, by rw [hw, List.length_map]; omega⟩, Int.toNat_natCast, hw, show Int.toNat 0 = 0 from rfl, List.drop_zero, Nat.sub_zero, ← List.map_take, ← List.prefix_iff_eq_take.1 a2]
    have hst : w_sameTexts ((left d' n0 rs q).map strP) ((left d' n0 rs q).map strP) = some true := sameTexts_refl (by rw [List.length_map]; omega)
    unfold s_DrawLogMark
    rw [en, Option.bind_some, e1, Option.bind_some]
    dsimp only
    rw [e2]
    simp only [hgt, gbs, Bool.not_true, Bool.not_false, if_true, Bool.or_self, hsl, hst, cond_false, Option.bind_some, Prod.eta, i_LogMark_eq hz, s_LogMark_eq hz, beq_self_eq_true]
    rfl
end Go.Proofs.SL
namespace Go.Proofs.SL
open Go
theorem lawFnLog (w : World) (t1 : TL UInt8) (h1 : GT.rd w [] t1) (ho1 : Ok.ok (GT.dat t1)) : Spec Try.prog 5 [t1.hdr].toArray w [] (IsV (.bool true)) := w_FnLog_walk w t1 h1 true (fnLog_true _)
end Go.Proofs.SL
