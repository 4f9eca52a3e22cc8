/- The texts of the proof, part 10: the base, walks of functions, plain Lean. -/
import Derived.Test.YtgeilkcgaepblaaGreatT9
import Derived.Test.YtgeilkcgaepblaaGreatT4
import Derived.Test.YtgeilkcgaepblaaGreatRows
namespace Go.Proofs.SL
open Go
/-- Whether a part may go on: all that it hangs on is in it or told. -/
def freeB (l : List D_Inst) (p told : List D_Id) : Bool := p.all fun x => (dpI l x).all fun d => decide (d ∈ p) || decide (d ∈ told)
theorem s_l12May_eq {l : List D_Inst} (h : instsOkB l = true) {p told : List D_Id} (hp : p.length ≤ 1000) (ht : told.length ≤ 1000) : s_l12May l p told = some (freeB l p told) := by
  unfold s_l12May freeB
  rw [each_loop (p := fun x => (dpI l x).all fun d => decide (d ∈ p) || decide (d ∈ told)) (no := some false) (yes := some true) (l := p) (by omega)]
  · cases p.all fun x => (dpI l x).all fun d => decide (d ∈ p) || decide (d ∈ told) <;> rfl
  · intro k x hx
    have hd := deps_len (dpI_facts h x)
    simp only [lt_dec (List.getElem?_eq_some_iff.1 hx).1, cond_true, idx_nat, hx, Option.bind_some]
    rw [show s_l12Deps l (x.1, x.2) = some (dpI l x) from s_l12Deps_eq h x, Option.bind_some]
    rw [each_loop (p := fun d => decide (d ∈ p) || decide (d ∈ told)) (no := some (.inr false)) (yes := some (.inl (IntKind.wrap .i64 ((k : Int) + 1)))) (l := dpI l x) (by omega)]
    · rfl
    · intro j d hd
      simp only [lt_dec (List.getElem?_eq_some_iff.1 hd).1, cond_true, idx_nat, hd, Option.bind_some]
      rw [has_dec hp, Option.bind_some]
      by_cases q : d ∈ p
      · rw [decide_eq_true q]; rfl
      · rw [decide_eq_false q]
        simp only [Bool.not_false, gb_true, Option.bind_some]
        rw [has_dec ht, Option.bind_some]
        by_cases q2 : d ∈ told
        · rw [decide_eq_true q2]; rfl
        · rw [decide_eq_false q2]; rfl
    · simp only [ge_dec]; rfl
  · simp only [ge_dec]; rfl
theorem i_isFree_eq {l : List D_Inst} (h : instsOkB l = true) (hs : smallL l) {p told : List D_Id} (hp : p.length ≤ 1000) (ht : told.length ≤ 1000) (hc : ∀ x, x ∈ p → comI l x = true) : i_isFree l p told = some (freeB l p told) := by
  have hl := insts_len h
  unfold i_isFree freeB
  rw [each_loop (p := fun x => (dpI l x).all fun d => decide (d ∈ p) || decide (d ∈ told)) (no := some false) (yes := some true) (l := p) (by omega)]
  · cases p.all fun x => (dpI l x).all fun d => decide (d ∈ p) || decide (d ∈ told) <;> rfl
  · intro k x hx
    have hd := deps_len (dpI_facts h x)
    simp only [lt_dec (List.getElem?_eq_some_iff.1 hx).1, cond_true, idx_nat, hx, Option.bind_some]
    rw [show i_InstAt l (x.1, x.2) = some (atI l x) from i_InstAt_eq (by omega) hs x, Option.bind_some, at_deps (hc x (List.mem_of_getElem? hx))]
    rw [each_loop (p := fun d => decide (d ∈ p) || decide (d ∈ told)) (no := some (.inr false)) (yes := some (.inl (IntKind.wrap .i64 ((k : Int) + 1)))) (l := dpI l x) (by omega)]
    · rfl
    · intro j d hd
      simp only [lt_dec (List.getElem?_eq_some_iff.1 hd).1, cond_true, idx_nat, hd, Option.bind_some]
      rw [contains_dec hp, Option.bind_some]
      by_cases q : d ∈ p
      · rw [decide_eq_true q]; rfl
      · rw [decide_eq_false q]
        simp only [Bool.not_false, gb_true, Option.bind_some]
        rw [contains_dec ht, Option.bind_some]
        by_cases q2 : d ∈ told
        · rw [decide_eq_true q2]; rfl
        · rw [decide_eq_false q2]; rfl
    · simp only [ge_dec]; rfl
  · simp only [ge_dec]; rfl
theorem idxF_eq {L : List (List D_Id)} {f : List D_Id → Option Bool} {p : List D_Id → Bool} (hL : L.length ≤ 1000) (hf : ∀ z, z ∈ L → f z = some (p z)) : sl_IndexFunc_implIdimplId L f = some (firstI p L) := by
  unfold sl_IndexFunc_implIdimplId
  rw [whileP_find (l := L) p some (by omega)]
  · intro k x hx
    simp only [lt_dec (List.getElem?_eq_some_iff.1 hx).1, cond_true, idx_nat, hx, Option.bind_some, hf x (List.mem_of_getElem? hx)]
    cases p x <;> rfl
  · simp only [ge_dec]; rfl
theorem conF_eq {L : List (List D_Id)} {f : List D_Id → Option Bool} {p : List D_Id → Bool} (hL : L.length ≤ 1000) (hf : ∀ z, z ∈ L → f z = some (p z)) : sl_ContainsFunc_implIdimplId L f = some (L.any p) := by
  unfold sl_ContainsFunc_implIdimplId
  rw [idxF_eq hL hf, Option.bind_some, firstI_any]
def idsI (l : List D_Inst) : List D_Id := l.map (·.1)
/-- The parts in their order. -/
def partsI (l : List D_Inst) : List (List D_Id) := Gr.parts (freeB l) (rdyI l) (partI l) (idsI l)
theorem part_len {l : List D_Inst} (h : instsOkB l = true) {x : D_Id} (hx : x ∈ idsI l) (hr : rdyI l x = true) : (partI l x).length ≤ 18 ∧ ∀ y, y ∈ partI l x → comI l y = true := by
  obtain ⟨p1, p2⟩ := part_iff h x
  refine ⟨nodup_len (Gr.up_nodup (lt2I_sto l) p1) fun y hy => ?_, fun y hy => InPart.id_of h hr ((p2 y).1 hy)⟩
  obtain ⟨z, hz, rfl⟩ := List.mem_map.1 (com_mem (InPart.id_of h hr ((p2 y).1 hy)))
  exact (instOk_facts ((instsOk_facts h).1 z hz)).1
theorem outs_len {l : List D_Inst} (h : instsOkB l = true) : ∀ {out : List (List D_Id)}, Gr.OutOk (rdyI l) (partI l) (idsI l) out → out.flatten.length ≤ 18 * out.length
  | [], _ => by simp
  | p :: out, ho => by
    have h1 := outs_len h (out := out) fun q hq => ho q (List.mem_cons_of_mem _ hq)
    obtain ⟨z, z1, z2, rfl⟩ := ho p (List.mem_cons_self ..)
    have h2 := (part_len h z1 z2).1
    simp only [List.flatten_cons, List.length_append, List.length_cons]
    omega
theorem comps_len {ι : Type} [DecidableEq ι] {rdy : ι → Bool} {part : ι → List ι} : ∀ (xs : List ι) (S : List (List ι)), (Gr.comps rdy part S xs).length ≤ xs.length
  | [], _ => Nat.le_refl _
  | x :: xs, S => by
    unfold Gr.comps
    split
    · have := comps_len (rdy := rdy) (part := part) xs (part x :: S); simp only [List.length_cons]; omega
    · have := comps_len (rdy := rdy) (part := part) xs S; simp only [List.length_cons]; omega
theorem comps_cons (l : List D_Inst) (S : List (List D_Id)) (x : D_Id) (xs : List D_Id) : Gr.comps (rdyI l) (partI l) S (x :: xs) = if (rdyI l x && !(S.any fun p => decide (x ∈ p))) = true then partI l x :: Gr.comps (rdyI l) (partI l) (partI l x :: S) xs else Gr.comps (rdyI l) (partI l) S xs := by
  conv => lhs; unfold Gr.comps
  exact ite_congr (propext (by simp only [Bool.and_eq_true, Bool.not_eq_true', List.any_eq_false, decide_eq_true_eq])) (fun _ => rfl) (fun _ => rfl)
def restI (l : List D_Inst) (out : List (List D_Id)) : List (List D_Id) := Gr.leftL (rdyI l) (partI l) (idsI l) out
theorem rest_len {l : List D_Inst} (h : instsOkB l = true) : (restI l []).length ≤ 18 := by
  have h1 : (restI l []).length ≤ _ := List.length_filter_le _ _
  have h2 := comps_len (rdy := rdyI l) (part := partI l) (idsI l) []
  have h3 := insts_len h
  unfold idsI at h1 h2
  rw [List.length_map] at h2
  omega
def nextI (l : List D_Inst) (out : List (List D_Id)) : Option D_Id := Gr.nextX (freeB l) (rdyI l) (partI l) (idsI l) out
theorem nextI_find (l : List D_Inst) (out : List (List D_Id)) : nextI l out = (l.find? fun x => !decide (x.1 ∈ out.flatten) && rdyI l x.1 && freeB l (partI l x.1) out.flatten).map (·.1) := by
  unfold nextI Gr.nextX idsI
  rw [List.find?_map]
  refine congrArg (fun f => Option.map (·.1) (l.find? f)) (funext fun x => ?_)
  rw [Bool.eq_iff_iff]
  simp only [Function.comp, Bool.and_eq_true, Bool.not_eq_true', decide_eq_false_iff_not]
/-- What each way of the program keeps. -/
def OJ (l : List D_Inst) (out : List (List D_Id)) : Prop := Gr.OI (freeB l) (rdyI l) (partI l) (idsI l) out ∧ out.length + (restI l out).length ≤ 18
theorem OJ.start {l : List D_Inst} (h : instsOkB l = true) : OJ l [] := ⟨Gr.OI.start _ _ _ _, by have := rest_len h; simpa using this⟩
theorem OJ.step {l : List D_Inst} (h : instsOkB l = true) {out : List (List D_Id)} (ho : OJ l out) {x : D_Id} (hx : nextI l out = some x) : OJ l (out ++ [partI l x]) ∧ (restI l (out ++ [partI l x])).length + 1 = (restI l out).length := by
  obtain ⟨h1, h2⟩ := Gr.OI.step (partOk h) ho.1 hx
  refine ⟨⟨h1, ?_⟩, h2⟩
  have := ho.2
  rw [List.length_append]
  have h2' : (restI l (out ++ [partI l x])).length + 1 = (restI l out).length := h2
  simp only [List.length_cons, List.length_nil]
  omega
theorem OJ.len {l : List D_Inst} (h : instsOkB l = true) {out : List (List D_Id)} (ho : OJ l out) : out.length ≤ 18 ∧ out.flatten.length ≤ 324 := by
  have h1 := outs_len h ho.1.1
  have h2 := ho.2
  omega
theorem gb2 {R : Type} (a b : Bool) (f : Option Bool) (x : Option D_Inst) (h : a = false → f = some b) (g : D_Inst → Option Bool) (hg : ∃ y, x = some y ∧ g y = f) (A B : Option R) : gb (!a) x (fun y12 => gb (!a) (g y12) (fun y13 => cond (a || (!y13)) A B)) = cond (!a && b) B A := by
  obtain ⟨y, rfl, h2⟩ := hg
  cases a with
  | true => simp [gb_false]
  | false => simp only [Bool.not_false, gb_true, Option.bind_some, h2, h rfl, Bool.false_or, Bool.true_and]; cases b <;> rfl
theorem s_round {l : List D_Inst} (ho : Ok.ok l) (h : instsOkB l = true) (out : List (List D_Id)) (told : List D_Id) (hI : OJ l out) (ht : told = out.flatten) :
    (whileP (fun s8 : (List (List D_Id)) × (List D_Id) × Bool × Int => cond ((decide (s8.2.2.2 < (l.length : Int))) && (!s8.2.2.1)) (Option.bind (idx l s8.2.2.2) (fun y10 => Option.bind (s_l8Has s8.2.1 (y10.1.1, y10.1.2)) (fun y11 => gb (!y11) (idx l s8.2.2.2) (fun y12 => gb (!y11) (s_l12Ready l (y12.1.1, y12.1.2)) (fun y13 => cond (y11 || (!y13)) (some (.inl ((s8.1, s8.2.1, s8.2.2.1, IntKind.wrap .i64 (s8.2.2.2 + 1))))) (Option.bind (idx l s8.2.2.2) (fun y15 => Option.bind (s_l12Part l (y15.1.1, y15.1.2)) (fun y16 => Option.bind (s_l12May l y16 s8.2.1) (fun y17 => cond y17 (Option.bind (appP s8.1 [y16]) (fun y20 => Option.bind (appP s8.2.1 y16) (fun y22 => some (.inl ((y20, y22, true, IntKind.wrap .i64 (s8.2.2.2 + 1))))))) (some (.inl ((s8.1, s8.2.1, s8.2.2.1, IntKind.wrap .i64 (s8.2.2.2 + 1)))))))))))))) (Option.map .inr (cond (!s8.2.2.1) (Option.map .inr (some s8.1)) (some (.inl ((s8.1, s8.2.1))))))) (out, told, false, 0) : Option (((List (List D_Id)) × (List D_Id)) ⊕ (List (List D_Id))))
    = some (match nextI l out with | none => .inr out | some x => .inl (out ++ [partI l x], told ++ partI l x)) := by
  have hl := insts_len h
  obtain ⟨l1, l2⟩ := hI.len h
  have htl : told.length ≤ 324 := by rw [ht]; exact l2
  have hn := nextI_find l out
  refine whileP_is (s := (out, told, false, (0 : Int))) (fun s : (List (List D_Id)) × (List D_Id) × Bool × Int => ∃ k : Nat, s.2.2.2 = (k : Int) ∧ k ≤ l.length ∧
      ((s.1 = out ∧ s.2.1 = told ∧ s.2.2.1 = false ∧ nextI l out = ((l.drop k).find? fun x => !decide (x.1 ∈ out.flatten) && rdyI l x.1 && freeB l (partI l x.1) out.flatten).map (·.1)) ∨
       (∃ x, nextI l out = some x ∧ s.1 = out ++ [partI l x] ∧ s.2.1 = told ++ partI l x ∧ s.2.2.1 = true))) (fun s => (l.length - s.2.2.2).toNat) ?_ ⟨0, rfl, Nat.zero_le _, .inl ⟨rfl, rfl, rfl, hn⟩⟩
  rintro ⟨o, t, m, k'⟩ ⟨k, g1, hk, g2⟩
  dsimp only at g1 g2 ⊢
  subst g1
  rcases g2 with ⟨rfl, rfl, rfl, g⟩ | ⟨x, g3, rfl, rfl, rfl⟩
  · by_cases hkl : k < l.length
    · left
      have hx : l[k]? = some l[k] := List.getElem?_eq_getElem hkl
      have hxm : l[k] ∈ l := List.getElem_mem _
      generalize l[k] = x at hx hxm
      rw [drop_cons hx] at g
      have w1 : IntKind.wrap .i64 ((k : Int) + 1) = ((k + 1 : Nat) : Int) := wrap_succ (by omega)
      have hxi : x.1 ∈ idsI l := List.mem_map.2 ⟨x, hxm, rfl⟩
      rw [show decide ((k : Int) < (l.length : Int)) = true from decide_eq_true (by omega)]
      simp only [Bool.not_false, Bool.and_self, cond_true, w1]
      rw [idx_nat, hx, Option.bind_some, show s_l8Has t (x.1.1, x.1.2) = _ from has_dec (x := x.1) (by omega), Option.bind_some]
      rw [gb2 (decide (x.1 ∈ t)) (rdyI l x.1) (s_l12Ready l (x.1.1, x.1.2)) (some x) (fun _ => s_l12Ready_eq h x.1) (fun y12 => s_l12Ready l (y12.1.1, y12.1.2)) ⟨x, rfl, rfl⟩]
      have no : (!decide (x.1 ∈ o.flatten) && rdyI l x.1 && freeB l (partI l x.1) o.flatten) = false → ∃ s' : (List (List D_Id)) × (List D_Id) × Bool × Int, (some (.inl (o, t, false, ((k + 1 : Nat) : Int))) : Option (_ ⊕ (((List (List D_Id)) × (List D_Id)) ⊕ (List (List D_Id))))) = some (.inl s') ∧ (∃ k : Nat, s'.2.2.2 = (k : Int) ∧ k ≤ l.length ∧
          ((s'.1 = o ∧ s'.2.1 = t ∧ s'.2.2.1 = false ∧ nextI l o = ((l.drop k).find? fun x => !decide (x.1 ∈ o.flatten) && rdyI l x.1 && freeB l (partI l x.1) o.flatten).map (·.1)) ∨
           (∃ x, nextI l o = some x ∧ s'.1 = o ++ [partI l x] ∧ s'.2.1 = t ++ partI l x ∧ s'.2.2.1 = true))) ∧ ((l.length : Int) - s'.2.2.2).toNat < ((l.length : Int) - (k : Int)).toNat := by
        intro hc
        refine ⟨_, rfl, ⟨k + 1, rfl, hkl, .inl ⟨rfl, rfl, rfl, ?_⟩⟩, by dsimp only; omega⟩
        rw [g, List.find?_cons_of_neg (by rw [hc]; simp)]
      cases hc : (!decide (x.1 ∈ t) && rdyI l x.1) with
      | false => rw [cond_false]; exact no (by rw [← ht, hc]; rfl)
      | true =>
        have hr : rdyI l x.1 = true := (Bool.and_eq_true _ _ ▸ hc).2
        obtain ⟨q1, q2⟩ := part_len h hxi hr
        rw [cond_true, Option.bind_some, show s_l12Part l (x.1.1, x.1.2) = some (partI l x.1) from s_l12Part_eq h x.1 hr, Option.bind_some, s_l12May_eq h (by omega) (by omega), Option.bind_some]
        cases hf : freeB l (partI l x.1) t with
        | false => rw [cond_false]; exact no (by rw [← ht, hc, hf]; rfl)
        | true =>
          rw [cond_true, appP_ok (by simp; omega), Option.bind_some, appP_ok (by omega), Option.bind_some]
          refine ⟨_, rfl, ⟨k + 1, rfl, hkl, .inr ⟨x.1, ?_, rfl, rfl, rfl⟩⟩, by dsimp only; omega⟩
          rw [g, List.find?_cons_of_pos (by rw [← ht, hc, hf]; rfl)]; rfl
    · right
      rw [show decide ((k : Int) < (l.length : Int)) = false from decide_eq_false (by omega)]
      simp only [Bool.false_and, cond_false, Bool.not_false, cond_true]
      rw [List.drop_of_length_le (by omega)] at g
      rw [g]; rfl
  · right
    simp only [Bool.not_true, Bool.and_false, cond_false]
    rw [g3]; rfl
theorem s_Parts_eq {l : List D_Inst} (ho : Ok.ok l) : s_Parts l = some (if instsOkB l then partsI l else []) := by
  unfold s_Parts
  rw [Option.bind_some, Option.bind_some]
  by_cases h : instsOkB l = true
  · rw [if_pos h]
    refine whileP_is (s := (([] : List (List D_Id)), ([] : List D_Id))) (fun s : (List (List D_Id)) × (List D_Id) => OJ l s.1 ∧ s.2 = s.1.flatten) (fun s => (restI l s.1).length) ?_ ⟨OJ.start h, rfl⟩
    rintro ⟨o, t⟩ ⟨g1, g2⟩
    dsimp only at g1 g2 ⊢
    rw [s_InstsOk_eq ho, h, Option.bind_some, cond_true, s_round ho h o t g1 g2]
    cases hn : nextI l o with
    | none => right; rw [g1.1.stop hn]; rfl
    | some x =>
      left
      obtain ⟨h1, h2⟩ := g1.step h hn
      refine ⟨_, rfl, ⟨h1, ?_⟩, by dsimp only; omega⟩
      dsimp only
      rw [g2]; simp
  · rw [if_neg h]
    refine whileP_is (s := (([] : List (List D_Id)), ([] : List D_Id))) (fun s : (List (List D_Id)) × (List D_Id) => s = ([], [])) (fun s => 0) ?_ rfl
    rintro _ rfl
    right
    rw [s_InstsOk_eq ho, (Bool.eq_false_iff.2 h), Option.bind_some, cond_false]; rfl
theorem i_Parts_eq {l : List D_Inst} (ho : Ok.ok l) (hs : smallL l) : i_Parts l = some (if instsOkB l then partsI l else []) := by
  unfold i_Parts
  rw [i_InstsOk_eq ho, Option.bind_some]
  by_cases h : instsOkB l = true
  · rw [if_pos h, h, Bool.not_true, cond_false, Option.bind_some]
    have hl := insts_len h
    refine whileP_is (s := (([] : List (List D_Id)), (0 : Int))) (fun s : (List (List D_Id)) × Int => ∃ k : Nat, s.2 = (k : Int) ∧ k ≤ l.length ∧ s.1.length ≤ k ∧ (∀ p, p ∈ s.1 → p.length ≤ 18) ∧ s.1 ++ Gr.comps (rdyI l) (partI l) s.1.reverse (idsI (l.drop k)) = Gr.comps (rdyI l) (partI l) [] (idsI l)) (fun s => (l.length - s.2).toNat) ?_ ⟨0, rfl, Nat.zero_le _, Nat.le_refl _, fun p hp => (by cases hp), rfl⟩
    rintro ⟨o, k'⟩ ⟨k, g1, hk, hol, hop, he⟩
    dsimp only at g1 hol hop he ⊢
    subst g1
    by_cases hkl : k < l.length
    · left
      have hx : l[k]? = some l[k] := List.getElem?_eq_getElem hkl
      have hxm : l[k] ∈ l := List.getElem_mem _
      generalize l[k] = x at hx hxm
      rw [drop_cons hx] at he
      have w1 : IntKind.wrap .i64 ((k : Int) + 1) = ((k + 1 : Nat) : Int) := wrap_succ (by omega)
      have hxi : x.1 ∈ idsI l := List.mem_map.2 ⟨x, hxm, rfl⟩
      rw [show idsI (x :: l.drop (k + 1)) = x.1 :: idsI (l.drop (k + 1)) from rfl] at he
      rw [comps_cons, List.any_reverse] at he
      rw [show decide ((k : Int) < (l.length : Int)) = true from decide_eq_true (by omega), cond_true, w1, idx_nat, hx, Option.bind_some]
      rw [conF_eq (p := fun z => decide (x.1 ∈ z)) (by omega) (fun z hz => by
        unfold i_Parts_c1
        rw [show sl_Contains_implIdimplId z _ = _ from contains_dec (x := x.1) (by have := hop z hz; omega)]; rfl), Option.bind_some]
      cases ha : o.any fun z => decide (x.1 ∈ z) with
      | true =>
        rw [ha] at he
        simp only [Bool.not_true, Bool.and_false, Bool.false_eq_true, if_false] at he
        exact ⟨_, rfl, ⟨k + 1, rfl, hkl, by dsimp only; omega, hop, he⟩, by dsimp only; omega⟩
      | false =>
        rw [ha] at he
        simp only [Bool.not_false, gb_true, Bool.true_and, Bool.and_true] at he ⊢
        rw [show i_Ready l (x.1.1, x.1.2) = some (rdyI l x.1) from i_Ready_eq ho h hs x.1, Option.bind_some]
        cases hr : rdyI l x.1 with
        | false =>
          rw [hr] at he
          simp only [Bool.false_eq_true, if_false] at he
          exact ⟨_, rfl, ⟨k + 1, rfl, hkl, by dsimp only; omega, hop, he⟩, by dsimp only; omega⟩
        | true =>
          rw [hr] at he
          simp only [if_true] at he
          rw [cond_true, show i_part l (x.1.1, x.1.2) = some (partI l x.1) from i_part_eq ho h hs x.1, Option.bind_some, appP_ok (by simp; omega), Option.bind_some]
          refine ⟨_, rfl, ⟨k + 1, rfl, hkl, by simp; omega, fun p hp => ?_, ?_⟩, by dsimp only; omega⟩
          · rcases List.mem_append.1 hp with hp | hp
            · exact hop p hp
            · rw [List.mem_singleton.1 hp]; exact (part_len h hxi hr).1
          · dsimp only
            rw [List.reverse_append]
            simpa using he
    · right
      have hkk : k = l.length := by omega
      subst hkk
      rw [show decide ((l.length : Int) < (l.length : Int)) = false from decide_eq_false (by omega), cond_false, Option.bind_some, Option.bind_some]
      rw [List.drop_of_length_le (Nat.le_refl _)] at he
      have he : o = restI l [] := by
        have e1 : o = Gr.comps (rdyI l) (partI l) [] (idsI l) := by rw [← he]; exact (List.append_nil _).symm
        rw [e1]
        unfold restI Gr.leftL
        exact (List.filter_eq_self.2 fun p _ => rfl).symm
      subst he
      have : whileP (fun s19 : (List (List D_Id)) × (List (List D_Id)) × (List D_Id) => cond (decide (0 < (s19.1.length : Int))) (Option.bind (sl_IndexFunc_implIdimplId s19.1 (fun z0 => i_Parts_c2 z0 l s19.2.2)) (fun y21 => cond (decide (y21 < 0)) (Option.map .inr (some s19.2.1)) (Option.bind (idx s19.1 y21) (fun y24 => Option.bind (appP s19.2.1 [y24]) (fun y26 => Option.bind (idx s19.1 y21) (fun y27 => Option.bind (appP s19.2.2 y24) (fun y29 => Option.bind (delP s19.1 y21 (IntKind.wrap .i64 (y21 + 1))) (fun y30 => some (.inl ((y30, y26, y29))))))))))) (Option.map .inr (some s19.2.1))) (restI l [], ([] : List (List D_Id)), ([] : List D_Id)) = some (partsI l) := by
        refine whileP_is (s := (restI l [], ([] : List (List D_Id)), ([] : List D_Id))) (fun s : (List (List D_Id)) × (List (List D_Id)) × (List D_Id) => OJ l s.2.1 ∧ s.1 = restI l s.2.1 ∧ s.2.2 = s.2.1.flatten) (fun s => s.1.length) ?_ ⟨OJ.start h, rfl, rfl⟩
        rintro ⟨r, o, t⟩ ⟨g1, g2, g3⟩
        dsimp only at g1 g2 g3 ⊢
        obtain ⟨l1, l2⟩ := g1.len h
        have htl : t.length ≤ 324 := by rw [g3]; exact l2
        have hrl : r.length ≤ 18 := by have := g1.2; rw [g2]; omega
        have hrm : ∀ p, p ∈ r → ∃ z, z ∈ idsI l ∧ rdyI l z = true ∧ p = partI l z := fun p hp => by
          rw [g2] at hp
          obtain ⟨z, z1, z2, z3, _⟩ := Gr.comps_mem _ _ _ (List.mem_filter.1 hp).1
          exact ⟨z, z1, z2, z3⟩
        have hb := Gr.step_both (free := freeB l) (partOk h) g1.1.1
        rw [show Gr.leftL (rdyI l) (partI l) (l.map (·.1)) o = r from g2.symm, ← g3] at hb
        cases hr0 : r with
        | nil =>
          right
          rw [show decide ((0 : Int) < ((([] : List (List D_Id)).length : Nat) : Int)) = false from rfl, cond_false]
          rcases hb with ⟨h1, _⟩ | ⟨x, k, _, h2, _⟩
          · rw [g1.1.stop h1]; rfl
          · rw [hr0] at h2; simp at h2
        | cons p0 r0 =>
          rw [← hr0]
          rw [show decide ((0 : Int) < (r.length : Int)) = true from decide_eq_true (by rw [hr0]; simp), cond_true]
          rw [idxF_eq (p := fun p => freeB l p t) (by omega) (fun z hz => by
            obtain ⟨y, y1, y2, rfl⟩ := hrm z hz
            obtain ⟨q1, q2⟩ := part_len h y1 y2
            unfold i_Parts_c2
            rw [i_isFree_eq h hs (by omega) (by omega) q2]; rfl), Option.bind_some]
          unfold firstI
          rcases hb with ⟨h1, h2⟩ | ⟨x, k, h1, h2, h3, h4, _, h6, h7⟩
          · right
            rw [h2, g1.1.stop h1]; rfl
          · left
            rw [h2]
            have hklt := (List.getElem?_eq_some_iff.1 h3).1
            obtain ⟨q1, q2⟩ := part_len h (show x ∈ idsI l from h6) h7
            dsimp only
            rw [show decide ((k : Int) < 0) = false from decide_eq_false (by omega), cond_false, idx_nat, h3, Option.bind_some, appP_ok (by simp; omega), Option.bind_some, Option.bind_some, appP_ok (by omega), Option.bind_some, wrap_succ (by omega)]
            unfold delP
            rw [if_pos (by omega), Option.bind_some]
            obtain ⟨s1, s2⟩ := g1.step h h1
            rw [show r.take (k : Int).toNat ++ r.drop (((k + 1 : Nat) : Int)).toNat = r.eraseIdx k from (List.eraseIdx_eq_take_drop_succ ..).symm]
            refine ⟨_, rfl, ⟨s1, h4, ?_⟩, ?_⟩
            · dsimp only; rw [g3]; simp
            · dsimp only; rw [h4]
              have s2' := s2
              rw [← g2] at s2'
              have e : (restI l (o ++ [partI l x])) = Gr.leftL (rdyI l) (partI l) (l.map (·.1)) (o ++ [partI l x]) := rfl
              rw [e] at s2'
              omega
      rw [this]; rfl
  · rw [if_neg h, (Bool.eq_false_iff.2 h), Bool.not_false, cond_true]
end Go.Proofs.SL
namespace Go.Proofs.SL
open Go
noncomputable def ordI (l : List D_Inst) : List D_Id := if instsOkB l then (partsI l).flatten else []
theorem OJ.nodup_step {l : List D_Inst} (h : instsOkB l = true) {out : List (List D_Id)} (ho : OJ l out) (hn : out.flatten.Nodup) {x : D_Id} (hx : nextI l out = some x) : (out ++ [partI l x]).flatten.Nodup := by
  have h1 := List.mem_of_find?_eq_some hx
  have h2 := List.find?_some hx
  simp only [Bool.and_eq_true, Bool.not_eq_true', decide_eq_false_iff_not] at h2
  rw [List.flatten_append, List.flatten_cons, List.flatten_nil, List.append_nil]
  refine List.nodup_append.2 ⟨hn, Gr.up_nodup (lt2I_sto l) (part_iff h x).1, fun a ha b hb e => ?_⟩
  subst e
  obtain ⟨p, hp, hap⟩ := List.mem_flatten.1 ha
  obtain ⟨z, z1, z2, rfl⟩ := ho.1.1 p hp
  have hk := partOk h
  have e1 := (hk.mem z z1 z2 a hap).2.2
  have e2 := (hk.mem x h1 h2.1.2 a hb).2.2
  refine h2.1.1 (List.mem_flatten.2 ⟨_, hp, ?_⟩)
  rw [← e1, e2]
  exact hk.self x h1 h2.1.2
theorem order_OJ {l : List D_Inst} (h : instsOkB l = true) : ∀ (n : Nat) (out : List (List D_Id)), OJ l out → out.flatten.Nodup → OJ l (Gr.orderS (freeB l) (rdyI l) (partI l) (idsI l) n out) ∧ (Gr.orderS (freeB l) (rdyI l) (partI l) (idsI l) n out).flatten.Nodup
  | 0, out, h1, h2 => ⟨h1, h2⟩
  | n + 1, out, h1, h2 => by
    unfold Gr.orderS
    cases hx : Gr.nextX (freeB l) (rdyI l) (partI l) (idsI l) out with
    | none => exact ⟨h1, h2⟩
    | some x => exact order_OJ h n _ (h1.step h hx).1 (h1.nodup_step h h2 hx)
theorem parts_OJ {l : List D_Inst} (h : instsOkB l = true) : OJ l (partsI l) ∧ (partsI l).flatten.Nodup := order_OJ h _ [] (OJ.start h) List.nodup_nil
theorem flat_take_le (P : List (List D_Id)) (k : Nat) : (P.take k).flatten.length ≤ P.flatten.length := by
  conv => rhs; rw [← List.take_append_drop k P, List.flatten_append, List.length_append]
  omega
theorem flat_loop {P : List (List D_Id)} (h : P.flatten.length ≤ 1000) (hP : P.length ≤ 1000) : whileP (fun s4 : (List D_Id) × Int => cond (decide (s4.2 < (P.length : Int))) (Option.bind (idx P s4.2) (fun y6 => Option.bind (appP s4.1 y6) (fun y8 => some (.inl ((y8, IntKind.wrap .i64 (s4.2 + 1))))))) (Option.map .inr (some s4.1))) (([] : List D_Id), 0) = some P.flatten := by
  refine whileP_is (s := (([] : List D_Id), (0 : Int))) (fun s : List D_Id × Int => ∃ k : Nat, s.2 = (k : Int) ∧ k ≤ P.length ∧ s.1 = (P.take k).flatten) (fun s => (P.length - s.2).toNat) ?_ ⟨0, rfl, Nat.zero_le _, rfl⟩
  rintro ⟨o, k'⟩ ⟨k, g1, hk, g2⟩
  dsimp only at g1 g2 ⊢
  subst g1
  by_cases hkl : k < P.length
  · left
    have hx : P[k]? = some P[k] := List.getElem?_eq_getElem hkl
    generalize P[k] = x at hx
    have e : (P.take (k + 1)).flatten = o ++ x := by rw [List.take_add_one, hx, List.flatten_append, ← g2]; simp
    have := flat_take_le P (k + 1)
    rw [e, List.length_append] at this
    rw [show decide ((k : Int) < (P.length : Int)) = true from decide_eq_true (by omega), cond_true, idx_nat, hx, Option.bind_some, appP_ok (by omega), Option.bind_some, wrap_succ (by omega)]
    exact ⟨_, rfl, ⟨k + 1, rfl, hkl, e.symm⟩, by dsimp only; omega⟩
  · right
    rw [show decide ((k : Int) < (P.length : Int)) = false from decide_eq_false (by omega), cond_false, g2, List.take_of_length_le (by omega)]; rfl
theorem partsB_len (l : List D_Inst) : (if instsOkB l then partsI l else []).flatten.length ≤ 324 ∧ (if instsOkB l then partsI l else []).length ≤ 18 := by
  split
  · rename_i h
    have := (parts_OJ h).1.len h
    exact ⟨this.2, this.1⟩
  · simp
theorem ordI_eq (l : List D_Inst) : (if instsOkB l then partsI l else []).flatten = ordI l := by
  unfold ordI
  split <;> rfl
theorem s_ExecOrder_eq {l : List D_Inst} (ho : Ok.ok l) : s_ExecOrder l = some (ordI l) := by
  unfold s_ExecOrder
  obtain ⟨h1, h2⟩ := partsB_len l
  rw [Option.bind_some, s_Parts_eq ho, Option.bind_some, flat_loop (by omega) (by omega), ordI_eq]
theorem i_ExecOrder_eq {l : List D_Inst} (ho : Ok.ok l) (hs : smallL l) : i_ExecOrder l = some (ordI l) := by
  unfold i_ExecOrder
  obtain ⟨h1, h2⟩ := partsB_len l
  rw [Option.bind_some, i_Parts_eq ho hs, Option.bind_some, flat_loop (by omega) (by omega), ordI_eq]
end Go.Proofs.SL
namespace Go.Proofs.SL
open Go
theorem s_l9Alike_eq {a b : List D_Id} (ha : a.length ≤ 9223372036854775807) : s_l9Alike a b = some (pB (a = b)) := by
  unfold s_l9Alike
  by_cases hl : a.length = b.length
  · rw [decide_eq_true (by omega), Bool.not_true, cond_false]
    rw [whileP_all (n := a.length) (fun k => decide (a[k]? = b[k]?)) (some false) (some true)]
    · by_cases h : a = b
      · subst h
        rw [if_pos (List.all_eq_true.2 fun k _ => by simp)]
        unfold pB; simp
      · rw [if_neg]
        · unfold pB; simp [h]
        · intro q
          refine h (List.ext_getElem? fun k => ?_)
          by_cases hk : k < a.length
          · exact of_decide_eq_true (List.all_eq_true.1 q k (List.mem_range.2 hk))
          · rw [List.getElem?_eq_none (by omega), List.getElem?_eq_none (by omega)]
    · intro k hk
      have hx : a[k]? = some a[k] := List.getElem?_eq_getElem hk
      have hy : b[k]? = some (b[k]'(by omega)) := List.getElem?_eq_getElem _
      generalize a[k] = x at hx
      generalize b[k]'(by omega) = y at hy
      have hq : (decide (x.1 = y.1) && (decide (x.2 = y.2) && true)) = decide (x = y) := idEq_dec x y
      rw [decide_eq_true (show (k : Int) < (a.length : Int) by omega), cond_true, idx_nat, hx, Option.bind_some, idx_nat, hy, Option.bind_some, hq, wrap_succ (by omega)]
      by_cases h : x = y
      · subst h; simp
      · rw [decide_eq_false h, if_neg (by simp [h])]; rfl
    · rw [decide_eq_false (by omega)]; rfl
  · rw [decide_eq_false (by omega), Bool.not_false, cond_true]
    have h : a ≠ b := fun e => hl (by rw [e])
    unfold pB
    simp [h]
theorem equalIds_eq {a b : List D_Id} (ha : a.length ≤ 9223372036854775807) : sl_Equal_implIdimplId a b = some (pB (a = b)) := s_l9Alike_eq ha
noncomputable def sameMB (a b : D_EMsg) : Bool := (s_SameMsg a b).getD false
theorem sameMsg_both {a b : D_EMsg} (ho : Ok.ok a) : s_SameMsg a b = some (sameMB a b) ∧ i_SameMsg a b = some (sameMB a b) := by
  have h : i_SameMsg a b = s_SameMsg a b ∧ ∃ r, s_SameMsg a b = some r := by
    unfold i_SameMsg s_SameMsg
    rw [show s_SameCmd _ _ = _ from s_SameCmd_eq (a := a.2.2.2.2.2.1) (b := b.2.2.2.2.2.1) ho.2.2.2.2.2.1, show i_SameCmd _ _ = _ from i_SameCmd_eq (a := a.2.2.2.2.2.1) (b := b.2.2.2.2.2.1) ho.2.2.2.2.2.1,
      s_l9Alike_eq (a := a.2.2.2.2.2.2.2.1) ho.2.2.2.2.2.2.2.1.1, equalIds_eq (a := a.2.2.2.2.2.2.2.1) ho.2.2.2.2.2.2.2.1.1]
    refine ⟨rfl, ?_⟩
    simp only [gbs]
    split <;> split <;> exact ⟨_, rfl⟩
  obtain ⟨h1, r, h2⟩ := h
  rw [h1]
  unfold sameMB
  rw [h2]
  exact ⟨rfl, rfl⟩
noncomputable def msgOkB (d : D_EMsg) : Bool := (s_EMsgOk d).getD false
theorem msgOk_both {d : D_EMsg} (ho : Ok.ok d) : s_EMsgOk d = some (msgOkB d) ∧ i_EMsgOk d = some (msgOkB d) := by
  have h : i_EMsgOk d = s_EMsgOk d ∧ ∃ r, s_EMsgOk d = some r := by
    have hd := ho.2.2.2.2.2.2.2.1.1
    unfold i_EMsgOk s_EMsgOk
    rw [show s_CmdOk _ = _ from s_CmdOk_eq (c := d.2.2.2.2.2.1) ho.2.2.2.2.2.1, show i_CmdOk _ = _ from i_CmdOk_eq (c := d.2.2.2.2.2.1) ho.2.2.2.2.2.1,
      show s_l8Id _ = _ from s_l8Id_eq d.2.2.2.1, show i_idOk _ = _ from i_idOk_eq d.2.2.2.1, s_IdsOk_eq hd, show s_l8Has _ _ = _ from s_l8Has_eq (l := d.2.2.2.2.2.2.2.1) (x := d.2.2.2.1) hd, show i_areDeps _ _ = _ from i_areDeps_eq (l := d.2.2.2.2.2.2.2.1) (x := d.2.2.2.1) hd]
    simp only [l1In_eq, within_eq, isRep_eq, l9Node_eq, Option.bind_some]
    generalize decide (1 ≤ d.1 ∧ d.1 ≤ 7) = v1
    generalize decide (0 ≤ d.2.1 ∧ d.2.1 < 3) = v2
    generalize decide (0 ≤ d.2.2.1 ∧ d.2.2.1 < 3) = v3
    generalize (!decide (d.2.1 = d.2.2.1)) = v0
    generalize idOkB d.2.2.2.1 = v4
    generalize decide (0 ≤ d.2.2.2.2.1 ∧ d.2.2.2.2.1 ≤ 600) = v5
    generalize cmdOkB d.2.2.2.2.2.1 = v6
    generalize decide (0 ≤ d.2.2.2.2.2.2.1 ∧ d.2.2.2.2.2.2.1 ≤ 60) = v7
    generalize idsOkB d.2.2.2.2.2.2.2.1 = v8
    generalize (d.2.2.2.2.2.2.2.1.any fun y => idEq y d.2.2.2.1) = v9
    generalize decide (0 ≤ d.2.2.2.2.2.2.2.2.1 ∧ d.2.2.2.2.2.2.2.2.1 ≤ 3) = v10
    generalize decide (-1 ≤ d.2.2.2.2.2.2.2.2.2.1 ∧ d.2.2.2.2.2.2.2.2.2.1 ≤ 600) = v11
    cases v1
    · exact ⟨rfl, _, rfl⟩
    simp only [gb_true, Bool.true_and, Option.bind_some]
    cases v2
    · exact ⟨rfl, _, rfl⟩
    simp only [gb_true, Bool.true_and, Option.bind_some]
    cases v3
    · exact ⟨rfl, _, rfl⟩
    simp only [gb_true, Bool.true_and, Option.bind_some]
    cases v0
    · exact ⟨rfl, _, rfl⟩
    simp only [gb_true, Bool.true_and, Option.bind_some]
    cases v4
    · exact ⟨rfl, _, rfl⟩
    simp only [gb_true, Bool.true_and, Option.bind_some]
    cases v5
    · exact ⟨rfl, _, rfl⟩
    simp only [gb_true, Bool.true_and, Option.bind_some]
    cases v6
    · exact ⟨rfl, _, rfl⟩
    simp only [gb_true, Bool.true_and, Option.bind_some]
    cases v7
    · exact ⟨rfl, _, rfl⟩
    simp only [gb_true, Bool.true_and, Option.bind_some]
    cases v8
    · exact ⟨rfl, _, rfl⟩
    simp only [gb_true, Bool.true_and, Option.bind_some]
    cases v9
    · simp only [gb_true, Bool.not_false, Option.bind_some]
      cases v10 <;> exact ⟨trivial, _, rfl⟩
    · exact ⟨trivial, _, rfl⟩
  obtain ⟨h1, r, h2⟩ := h
  rw [h1]
  unfold msgOkB
  rw [h2]
  exact ⟨rfl, rfl⟩
theorem s_l11Has_eq {L : List D_EMsg} {m : D_EMsg} (hL : Ok.ok L) : s_l11Has L m = some (L.any fun y => sameMB y m) := by
  unfold s_l11Has
  rw [whileP_find (l := L) (fun y => sameMB y m) (fun i => some (decide (0 ≤ i))) hL.1, firstI_any]
  · intro k x hx
    simp only [lt_dec (List.getElem?_eq_some_iff.1 hx).1, cond_true, idx_nat, hx, Option.bind_some]
    rw [show s_SameMsg _ _ = _ from (sameMsg_both (a := x) (b := m) (hL.2 x (List.mem_of_getElem? hx))).1, Option.bind_some]
    cases sameMB x m
    · rfl
    · rw [cond_true, if_pos rfl, decide_eq_true (by omega)]
  · simp only [ge_dec]; rfl
theorem i_hasMsg_eq {L : List D_EMsg} {m : D_EMsg} (hL : Ok.ok L) : i_hasMsg L m = some (L.any fun y => sameMB y m) := by
  unfold i_hasMsg sl_ContainsFunc_implEMsgimplEMsg sl_IndexFunc_implEMsgimplEMsg i_hasMsg_c1
  rw [whileP_find (l := L) (fun y => sameMB y m) some hL.1, Option.bind_some, Option.bind_some, firstI_any]
  · intro k x hx
    simp only [lt_dec (List.getElem?_eq_some_iff.1 hx).1, cond_true, idx_nat, hx, Option.bind_some]
    rw [show i_SameMsg _ _ = _ from (sameMsg_both (a := x) (b := m) (hL.2 x (List.mem_of_getElem? hx))).2, Option.bind_some, Option.bind_some]
    cases sameMB x m <;> rfl
  · simp only [ge_dec]; rfl
noncomputable def nodeAt (d : D_ENet) (k : Nat) : Bool := match d.1[k]? with | some n => nodeOkB n && decide (n.1 = (k : Int)) | none => false
noncomputable def msgAt (d : D_ENet) (k : Nat) : Bool := match d.2[k]? with | some m => msgOkB m && !((d.2.take k).any fun y => sameMB y m) | none => false
noncomputable def netOkB (d : D_ENet) : Bool := decide (d.1.length = 3) && decide (d.2.length ≤ 160) && (List.range 3).all (nodeAt d) && (List.range d.2.length).all (msgAt d)
theorem ok_take {L : List D_EMsg} (h : Ok.ok L) (k : Nat) : Ok.ok (L.take k) := ⟨Nat.le_trans (List.length_take_le' ..) h.1, fun x hx => h.2 x (List.mem_of_mem_take hx)⟩
theorem s_ENetOk_eq {d : D_ENet} (ho : Ok.ok d) : s_ENetOk d = some (netOkB d) := by
  unfold s_ENetOk netOkB
  by_cases h3 : d.1.length = 3
  case neg => rw [decide_eq_false (show ¬ (d.1.length : Int) = 3 by omega), decide_eq_false h3]; rfl
  by_cases h160 : d.2.length ≤ 160
  case neg => rw [decide_eq_true (show (160 : Int) < d.2.length by omega), decide_eq_false h160, decide_eq_true h3, decide_eq_true (show (d.1.length : Int) = 3 by omega)]; rfl
  rw [decide_eq_true (show (d.1.length : Int) = 3 by omega), decide_eq_false (show ¬ (160 : Int) < d.2.length by omega), decide_eq_true h3, decide_eq_true h160]
  simp only [Bool.not_true, Bool.or_self, cond_false, Bool.true_and]
  rw [whileP_all (n := 3) (nodeAt d) (some false) (some ((List.range d.2.length).all (msgAt d)))]
  · cases (List.range 3).all (nodeAt d) <;> rfl
  · intro k hk
    have hx : d.1[k]? = some (d.1[k]'(by omega)) := List.getElem?_eq_getElem _
    generalize d.1[k]'(by omega) = x at hx
    have e : nodeAt d k = (nodeOkB x && decide (x.1 = (k : Int))) := by unfold nodeAt; rw [hx]
    rw [e, decide_eq_true (show (k : Int) < 3 by omega), cond_true, idx_nat, hx, Option.bind_some, show s_ENodeOk _ = _ from s_ENodeOk_eq (d := x) (ho.1.2 x (List.mem_of_getElem? hx)), Option.bind_some, wrap_succ (by omega)]
    by_cases hb : nodeOkB x = true
    case neg => rw [Bool.eq_false_iff.2 hb]; rfl
    · simp only [hb, Bool.not_true, Bool.not_false, gb_true, Option.bind_some, Bool.false_or, Bool.true_and]
      cases decide (x.1 = (k : Int)) <;> rfl
  · rw [decide_eq_false (show ¬ ((3 : Nat) : Int) < 3 by omega), cond_false]
    rw [whileP_all (n := d.2.length) (msgAt d) (some false) (some true)]
    · cases (List.range d.2.length).all (msgAt d) <;> rfl
    · intro k hk
      have hx : d.2[k]? = some d.2[k] := List.getElem?_eq_getElem hk
      generalize d.2[k] = x at hx
      have e : msgAt d k = (msgOkB x && !((d.2.take k).any fun y => sameMB y x)) := by unfold msgAt; rw [hx]
      rw [e, decide_eq_true (show (k : Int) < (d.2.length : Int) by omega), cond_true, idx_nat, hx, Option.bind_some, show s_EMsgOk _ = _ from (msgOk_both (d := x) (ho.2.2 x (List.mem_of_getElem? hx))).1, Option.bind_some, wrap_succ (by omega), slcP_pos (by omega)]
      by_cases hb : msgOkB x = true
      case neg => rw [Bool.eq_false_iff.2 hb]; rfl
      · simp only [hb, Bool.not_true, Bool.not_false, gb_true, Option.bind_some, Bool.false_or, Bool.true_and]
        rw [show (List.drop (Int.toNat 0) d.2).take ((k : Int).toNat - Int.toNat 0) = d.2.take k from rfl, show s_l11Has _ _ = _ from s_l11Has_eq (L := d.2.take k) (m := x) (ok_take ho.2 k), Option.bind_some]
        cases (d.2.take k).any fun y => sameMB y x <;> rfl
    · rw [decide_eq_false (by omega)]; rfl
theorem i_ENetOk_eq {d : D_ENet} (ho : Ok.ok d) : i_ENetOk d = some (netOkB d) := by
  unfold i_ENetOk netOkB
  by_cases h3 : d.1.length = 3
  case neg => rw [decide_eq_false (show ¬ (d.1.length : Int) = 3 by omega), decide_eq_false h3]; rfl
  by_cases h160 : d.2.length ≤ 160
  case neg => rw [decide_eq_true (show (160 : Int) < d.2.length by omega), decide_eq_false h160, decide_eq_true h3, decide_eq_true (show (d.1.length : Int) = 3 by omega)]; rfl
  rw [decide_eq_true (show (d.1.length : Int) = 3 by omega), decide_eq_false (show ¬ (160 : Int) < d.2.length by omega), decide_eq_true h3, decide_eq_true h160]
  simp only [Bool.not_true, Bool.or_self, cond_false, Bool.true_and]
  rw [whileP_all (n := 3) (nodeAt d) (some false) (some ((List.range d.2.length).all (msgAt d)))]
  · cases (List.range 3).all (nodeAt d) <;> rfl
  · intro k hk
    have hx : d.1[k]? = some (d.1[k]'(by omega)) := List.getElem?_eq_getElem _
    generalize d.1[k]'(by omega) = x at hx
    have e : nodeAt d k = (nodeOkB x && decide (x.1 = (k : Int))) := by unfold nodeAt; rw [hx]
    rw [e, decide_eq_true (show (k : Int) < (d.1.length : Int) by omega), cond_true, idx_nat, hx, Option.bind_some, show i_ENodeOk _ = _ from i_ENodeOk_eq (d := x) (ho.1.2 x (List.mem_of_getElem? hx)), Option.bind_some, wrap_succ (by omega)]
    by_cases hb : nodeOkB x = true
    case neg => rw [Bool.eq_false_iff.2 hb]; rfl
    · simp only [hb, Bool.not_true, Bool.false_or, Bool.true_and]
      cases decide (x.1 = (k : Int)) <;> rfl
  · rw [decide_eq_false (show ¬ ((3 : Nat) : Int) < (d.1.length : Int) by omega), cond_false]
    rw [whileP_all (n := d.2.length) (msgAt d) (some false) (some true)]
    · cases (List.range d.2.length).all (msgAt d) <;> rfl
    · intro k hk
      have hx : d.2[k]? = some d.2[k] := List.getElem?_eq_getElem hk
      generalize d.2[k] = x at hx
      have e : msgAt d k = (msgOkB x && !((d.2.take k).any fun y => sameMB y x)) := by unfold msgAt; rw [hx]
      rw [e, decide_eq_true (show (k : Int) < (d.2.length : Int) by omega), cond_true, idx_nat, hx, Option.bind_some, show i_EMsgOk _ = _ from (msgOk_both (d := x) (ho.2.2 x (List.mem_of_getElem? hx))).2, Option.bind_some, wrap_succ (by omega), slcP_pos (by omega)]
      by_cases hb : msgOkB x = true
      case neg => rw [Bool.eq_false_iff.2 hb]; rfl
      · simp only [hb, Bool.not_true, Bool.not_false, gb_true, Option.bind_some, Bool.false_or, Bool.true_and]
        rw [show (List.drop (Int.toNat 0) d.2).take ((k : Int).toNat - Int.toNat 0) = d.2.take k from rfl, show i_hasMsg _ _ = _ from i_hasMsg_eq (L := d.2.take k) (m := x) (ok_take ho.2 k), Option.bind_some]
        cases (d.2.take k).any fun y => sameMB y x <;> rfl
    · rw [decide_eq_false (by omega)]; rfl
end Go.Proofs.SL
namespace Go.Proofs.SL
open Go
def smallD (d : D_ENet) : Prop := ∀ n, n ∈ d.1 → n.2.2.1.length ≤ 1048576 ∧ smallL n.2.2.1
theorem netOk_len {d : D_ENet} (h : netOkB d = true) : d.1.length = 3 := by
  unfold netOkB at h
  simp only [Bool.and_eq_true, decide_eq_true_eq] at h
  exact h.1.1.1
/-- How much each node knows. -/
noncomputable def knownD (d : D_ENet) : List Int := if netOkB d then d.1.map fun n => ((ordI n.2.2.1).length : Int) else []
theorem s_Known_eq {d : D_ENet} (ho : Ok.ok d) (hs : smallD d) : s_Known d = some (knownD d) := by
  unfold s_Known knownD
  rw [Option.bind_some]
  by_cases hn : netOkB d = true
  · have h3 := netOk_len hn
    rw [if_pos hn]
    refine whileP_is (s := (([] : List Int), (0 : Int))) (fun s : List Int × Int => ∃ k : Nat, s.2 = (k : Int) ∧ k ≤ 3 ∧ s.1 = (d.1.take k).map fun n => ((ordI n.2.2.1).length : Int)) (fun s => (3 - s.2).toNat) ?_ ⟨0, rfl, by omega, rfl⟩
    rintro ⟨o, k'⟩ ⟨k, g1, hk, g2⟩
    dsimp only at g1 g2 ⊢
    subst g1
    rw [show s_ENetOk _ = _ from s_ENetOk_eq ho, hn]
    by_cases hkl : k < 3
    · left
      have hx : d.1[k]? = some (d.1[k]'(by omega)) := List.getElem?_eq_getElem _
      generalize d.1[k]'(by omega) = n at hx
      have hol : o.length ≤ 3 := by rw [g2, List.length_map, List.length_take]; omega
      rw [decide_eq_true (show (k : Int) < 3 by omega), gb_true, Option.bind_some, Bool.and_self, cond_true, idx_nat, hx, Option.bind_some, s_ExecOrder_eq (ho.1.2 n (List.mem_of_getElem? hx)).2.2.1, Option.bind_some, appP_ok (by simp; omega), Option.bind_some, wrap_succ (by omega)]
      refine ⟨_, rfl, ⟨k + 1, rfl, hkl, ?_⟩, by dsimp only; omega⟩
      rw [List.take_add_one, hx, List.map_append, ← g2]; rfl
    · right
      rw [decide_eq_false (by omega), gb_false, Bool.false_and, cond_false, g2, List.take_of_length_le (by omega)]; rfl
  · rw [if_neg hn]
    refine whileP_is (s := (([] : List Int), (0 : Int))) (fun s : List Int × Int => s = ([], 0)) (fun s => 0) ?_ rfl
    rintro _ rfl
    right
    rw [show s_ENetOk _ = _ from s_ENetOk_eq ho, Bool.eq_false_iff.2 hn]
    rfl
theorem i_Known_eq {d : D_ENet} (ho : Ok.ok d) (hs : smallD d) : i_Known d = some (knownD d) := by
  unfold i_Known knownD
  rw [show i_ENetOk _ = _ from i_ENetOk_eq ho, Option.bind_some]
  by_cases hn : netOkB d = true
  · have h3 := netOk_len hn
    rw [if_pos hn, hn, Bool.not_true, cond_false, Option.bind_some]
    refine whileP_is (s := (([] : List Int), (0 : Int))) (fun s : List Int × Int => ∃ k : Nat, s.2 = (k : Int) ∧ k ≤ 3 ∧ s.1 = (d.1.take k).map fun n => ((ordI n.2.2.1).length : Int)) (fun s => (3 - s.2).toNat) ?_ ⟨0, rfl, by omega, rfl⟩
    rintro ⟨o, k'⟩ ⟨k, g1, hk, g2⟩
    dsimp only at g1 g2 ⊢
    subst g1
    by_cases hkl : k < 3
    · left
      have hx : d.1[k]? = some (d.1[k]'(by omega)) := List.getElem?_eq_getElem _
      generalize d.1[k]'(by omega) = n at hx
      have hnm := List.mem_of_getElem? hx
      have hol : o.length ≤ 3 := by rw [g2, List.length_map, List.length_take]; omega
      rw [decide_eq_true (show (k : Int) < (d.1.length : Int) by omega), cond_true, idx_nat, hx, Option.bind_some, i_ExecOrder_eq (ho.1.2 n hnm).2.2.1 (hs n hnm).2, Option.bind_some, appP_ok (by simp; omega), Option.bind_some, wrap_succ (by omega)]
      refine ⟨_, rfl, ⟨k + 1, rfl, hkl, ?_⟩, by dsimp only; omega⟩
      rw [List.take_add_one, hx, List.map_append, ← g2]; rfl
    · right
      rw [decide_eq_false (by omega), cond_false, g2, List.take_of_length_le (by omega)]; rfl
  · rw [if_neg hn, Bool.eq_false_iff.2 hn]; rfl
end Go.Proofs.SL
namespace Go.Proofs.SL
open Go
instance bdNet : Bd T_ENet := instBdProd
theorem bd_inst (x : D_Inst) : x.2.2.2.2.1.2.2.2.2.2.2.2.length + x.2.2.2.2.2.2.1.length ≤ Bd.bd (τ := T_Inst) x := by
  show _ ≤ ((0 + 0) + (0 + (0 + (0 + ((0 + (0 + (0 + (x.2.2.2.2.1.2.2.2.1.size + (x.2.2.2.2.1.2.2.2.2.1.size + (x.2.2.2.2.1.2.2.2.2.2.1.size + (0 + (x.2.2.2.2.1.2.2.2.2.2.2.2.length + bds ByteArray x.2.2.2.2.1.2.2.2.2.2.2.2)))))))) + (0 + ((x.2.2.2.2.2.2.1.length + bds T_Id x.2.2.2.2.2.2.1) + 0)))))))
  omega
theorem bd_node (d : D_ENode) : Bd.bd (τ := T_ENode) d = (d.2.2.1.length + bds T_Inst d.2.2.1) + (d.2.2.2.length + bds T_Lead d.2.2.2) := by
  show 0 + (0 + ((d.2.2.1.length + bds T_Inst d.2.2.1) + (d.2.2.2.length + bds T_Lead d.2.2.2))) = _
  omega
theorem small_net {d : D_ENet} (h : Bd.bd (τ := T_ENet) d ≤ 1048576) : smallD d := by
  have h0 : (d.1.length + bds T_ENode d.1) + (d.2.length + bds T_EMsg d.2) ≤ 1048576 := h
  intro n hn
  have h1 := bds_mem (τ := T_ENode) hn
  rw [bd_node] at h1
  refine ⟨by omega, fun x hx => ?_⟩
  have h2 := bds_mem (τ := T_Inst) hx
  have h3 := bd_inst x
  exact ⟨by omega, by omega⟩
theorem known_bd (d : D_ENet) (g : TL Int) (h : GT.dat g = knownD d) : Bk.bulk g ≤ 3 := by
  rw [Bd.eq, h]
  show (knownD d).length + bds Int (knownD d) ≤ 3
  rw [bds_int]
  unfold knownD
  split
  · rename_i hk
    rw [List.length_map, netOk_len hk]; omega
  · show 0 + 0 ≤ 3; omega
end Go.Proofs.SL
namespace Go.Proofs.SL
open Go
set_option maxHeartbeats 2000000
instance el125 : ElF Tryz.prog 125 5 1 1 [.int .u8 0] := ⟨by kernel_rfl⟩
instance und125 : UndF Tryz.prog 125 (.slice 5) := ⟨by kernel_rfl⟩
instance und5 : UndF Tryz.prog 5 (.int .u8) := ⟨by kernel_rfl⟩
instance und9 : UndF Tryz.prog 9 (.string) := ⟨by kernel_rfl⟩
theorem eqIntS_spec (w : World) (t1 t2 : TL Int) (h1 : GT.rd w [] t1) (h2 : GT.rd w [] t2) : Spec Tryz.prog 12 [t1.hdr, t2.hdr].toArray w [] (IsV (.bool (eqB (GT.dat t1) (GT.dat t2)))) := by
  obtain ⟨a1, c1, e1, x1, y1⟩ := t1
  obtain ⟨a2, c2, e2, x2, y2⟩ := t2
  have hm1 : x1.length ≤ 9223372036854775807 := rd_len h1
  have hm2 : x2.length ≤ 9223372036854775807 := rd_len h2
  dsimp only [TL.hdr]
  refine Spec.intro Tryz.func12 rfl Tryz.ntmps12 rfl ?_
  refine s8 ?_
  refine L_lenS rfl rfl el35.h ?_
  refine s1 ?_
  refine L_lenS rfl rfl el35.h ?_
  refine s2 ?_
  refine kp [0, 1, 10] ?_
  refine W_cond rfl (fun hc1 => ?_) (fun hc1 => ?_)
  · refine s5 ?_
    -- return 1 (R2)
    refine res1 rfl (ResOK.tmp rfl) ⟨?_, rfl⟩ ms
    refine congrArg Value.bool (Eq.symm (eqB_false.2 fun e => ?_))
    simp at hc1
    exact hc1 (by have := congrArg List.length e; simp [dat_TL] at this; omega)
  · have hl : x1.length = x2.length := by simp at hc1; omega
    refine s7 ?_
    refine W_loopC (σ := Nat) 0 (fun (k : Nat) => [(5, .int .i64 (k : Int))]) (fun (k : Nat) => []) (fun (k : Nat) => k ≤ x1.length ∧ (x1.map GT.dat).take k = (x2.map GT.dat).take k) (fun (k : Nat) => x1.length - k) [(0, _), (1, _)] [] ?_ sb ms ?_
    · exact ⟨Nat.zero_le _, rfl⟩
    · rintro k ⟨hk, ht⟩
      refine kq [0, 1, 5] ?_
      refine s5 ?_
      refine L_lenS rfl rfl el35.h ?_
      refine s2 ?_
      refine kp [0, 1, 5, 14] ?_
      refine W_cond rfl (fun hc4 => ?_) (fun hc4 => ?_)
      · have hk1 : k < x1.length := by simpa using hc4
        obtain ⟨g1, o1, rfl⟩ := rd_addr h1 hk1
        obtain ⟨g2, o2, rfl⟩ := rd_addr (k := k) h2 (show k < x2.length by omega)
        obtain ⟨u1, hu1⟩ := getEl hk1
        obtain ⟨u2, hu2⟩ := getEl (show k < x2.length by omega)
        refine s4 ?_
        refine W_D0 [25] mix (by kernel_rfl) rfl ?_
        refine s2 ?_
        refine D_indexAddr _ GC.none (OpV.t rfl) (OpV.t rfl) el35.h (fun hg => ⟨rfl, by (try dsimp only); omega⟩) ?_
        refine D_load0 GC.none (OpV.t rfl) (fun hg => (by first | exact RdC.blk mm | exact RdC.old (Cells.el h1 rfl hu1) | exact RdC.old (Cells.el h2 rfl hu2))) one3.h rfl ?_
        refine s2 ?_
        refine D_indexAddr _ GC.none (OpV.t rfl) (OpV.t rfl) el35.h (fun hg => ⟨rfl, by (try dsimp only); omega⟩) ?_
        refine D_load0 GC.none (OpV.t rfl) (fun hg => (by first | exact RdC.blk mm | exact RdC.old (Cells.el h1 rfl hu1) | exact RdC.old (Cells.el h2 rfl hu2))) one3.h rfl ?_
        refine s12 ?_
        refine kp [0, 1, 5, 25] ?_
        refine W_cond rfl (fun hc6 => ?_) (fun hc6 => ?_)
        · refine s5 ?_
          -- return 2 (R7)
          refine res1 rfl (ResOK.tmp rfl) ⟨?_, rfl⟩ ms
          refine congrArg Value.bool (Eq.symm (eqB_false.2 fun e => ?_))
          simp at hc6
          replace e : x1.map GT.dat = x2.map GT.dat := e
          have e2 := congrArg (fun l => l[k]?) e
          simp only [List.getElem?_map, hu1, hu2, Option.map_some, Option.some.injEq] at e2
          exact hc6 (by simpa [dat_int, dat_str, dat_bool] using e2)
        · refine s3 ?_
          refine L_binV rfl rfl rfl (bv_addR (by unfold inR; omega)) ?_
          refine s2 ?_
          refine ⟨k + 1, sb, ms, ?_, ?_⟩
          · exact ⟨by omega, take_succ_eq ht (by rw [List.getElem?_map, hu1]; rfl) (by rw [List.getElem?_map, hu2]; rfl) (by simpa [dat_int, dat_str, dat_bool] using hc6)⟩
          · (try dsimp only); omega
      · refine W_exit ?_
        refine s5 ?_
        -- return 3 (R8)
        refine res1 rfl (ResOK.tmp rfl) ⟨?_, rfl⟩ ms
        refine congrArg Value.bool (Eq.symm (eqB_true.2 ?_))
        have hk2 : x1.length ≤ k := by simpa using hc4
        have h3 := ht
        rw [List.take_of_length_le (by simp; omega), List.take_of_length_le (by simp; omega)] at h3
        exact h3
theorem szIntS_spec (w : World) (t1 : TL Int) (left : Int) (hl : 0 ≤ left) (hm : left ≤ 1048576) (h1 : GT.rd w [] t1) (ho : Ok.ok (GT.dat t1)) : Spec Tryz.prog 141 [t1.hdr, .int .i64 left].toArray w [] (IsV (.int .i64 (if (Bk.bulk t1 : Int) ≤ left then left - (Bk.bulk t1 : Int) else -1))) := by
  obtain ⟨a1, c1, e1, x1, y1⟩ := t1
  have hm1 : x1.length ≤ 9223372036854775807 := rd_len h1
  rw [bulk_TL]
  dsimp only [TL.hdr]
  have hz : bulks x1 = 0 := by
    clear hm1 h1 ho
    induction x1 with
    | nil => rfl
    | cons y ys ih => simp only [bulks, ih]; rfl
  refine Spec.intro Tryz.func141 rfl Tryz.ntmps141 rfl ?_
  refine s8 ?_
  refine L_lenS rfl rfl el35.h ?_
  refine L_binV rfl rfl rfl (bv_subR (by unfold inR; omega)) ?_
  refine s8 ?_
  refine kp [1, 10] ?_
  refine W_cond rfl (fun hc2 => ?_) (fun hc2 => ?_)
  · have hb0 : left - (x1.length : Int) < 0 := by simpa using hc2
    refine s5 ?_
    -- return 1 (R3)
    refine res1 rfl (ResOK.tmp rfl) ⟨?_, rfl⟩ ms
    simp only [hz, Nat.add_zero]
    first
      | (rw [if_pos (by omega)]; done)
      | (rw [if_neg (by omega)])
  · have hb0 : ¬ (left - (x1.length : Int) < 0) := by simpa using hc2
    skip
    refine s7 ?_
    -- return 2 (R4)
    refine res1 rfl (ResOK.tmp rfl) ⟨?_, rfl⟩ ms
    simp only [hz, Nat.add_zero]
    first
      | (rw [if_pos (by omega)]; done)
      | (rw [if_neg (by omega)])
theorem toIntS_spec (w : World) (t1 : TL Int) (h1 : GT.rd w [] t1) (hb : Bk.bulk t1 ≤ 1048576) : Spec Tryz.prog 144 [t1.hdr].toArray w [] (fun v M => ∃ t2 : TL Int, v = t2.hdr ∧ GT.dat t2 = GT.dat t1 ∧ M = [treeH t2]) := by
  obtain ⟨a1, c1, e1, x1, y1⟩ := t1
  rw [bulk_TL] at hb
  dsimp only [TL.hdr]
  refine Spec.intro Tryz.func144 rfl Tryz.ntmps144 rfl ?_
  refine s7 ?_
  refine L_lenS rfl rfl el35.h ?_
  refine L_make (τ := Int) (0 : Int) rfl rfl rfl el35.h rfl rfl (flat_int trivial) (by omega) (by unfold maxLen; omega) (fun g => ?_)
  refine s8 ?_
  refine W_loopC (σ := Nat × List Int) (0, List.replicate x1.length (0 : Int)) (fun (p : Nat × List Int) => [(4, .int .i64 (p.1 : Int))]) (fun (p : Nat × List Int) => [treeH (⟨some ⟨g, 0, none⟩, x1.length, 3, p.2, []⟩ : TL Int)]) (fun (p : Nat × List Int) => p.1 ≤ x1.length ∧ p.2.length = x1.length ∧ (p.2.take p.1).map GT.dat = (x1.take p.1).map GT.dat) (fun (p : Nat × List Int) => x1.length - p.1) [(0, _), (3, _)] [] ?_ sb ms ?_
  · exact ⟨Nat.zero_le _, by simp, by simp⟩
  · rintro ⟨k, cur⟩ ⟨hk, hlen, hdat⟩
    dsimp only at hk hlen hdat
    refine kq [0, 3, 4] ?_
    refine s5 ?_
    refine L_lenS rfl rfl el35.h ?_
    refine s2 ?_
    refine kp [0, 3, 4, 11] ?_
    refine W_cond rfl (fun hc3 => ?_) (fun hc3 => ?_)
    · have hk1 : k < x1.length := by simpa using hc3
      obtain ⟨g1, o1, rfl⟩ := rd_addr h1 hk1
      obtain ⟨u1, hu1⟩ := getEl hk1
      have hub : Bk.bulk u1 ≤ 1048576 := by have := bulk_mem (List.mem_of_getElem? hu1); omega
      refine s8 ?_
      refine L_indexAddr rfl rfl rfl el35.h rfl (by omega) ?_
      refine L_load0 rfl rfl (by first | exact RdC.blk mm | exact RdC.old (Cells.el h1 rfl hu1)) one3.h rfl ?_
      refine L_indexAddr rfl rfl rfl el35.h rfl (by omega) ?_
      obtain ⟨u0, hu0⟩ := getEl (show k < cur.length by omega)
      refine L_storeElV u1 rfl rfl pk rfl hu0 rfl (flat_int (h1.2.2.1 _ (List.mem_of_getElem? hu1))) (.inr ⟨one3.h, rfl⟩) ?_
      refine s3 ?_
      refine L_binV rfl rfl rfl (bv_addR (by unfold inR; omega)) ?_
      refine s2 ?_
      refine ⟨(k + 1, cur.set k u1), sb, ms, ?_, ?_⟩
      · exact ⟨by dsimp only; omega, by simpa using hlen, map_take_set GT.dat GT.dat hdat (by omega) hu1 rfl⟩
      · dsimp only; omega
    · refine W_exit ?_
      refine s6 ?_
      -- return 1 (R6)
      refine res1 rfl (ResOK.tmp rfl) ⟨⟨some ⟨g, 0, none⟩, x1.length, 3, cur, []⟩, ?_, ?_, rfl⟩ ms
      · show _ = Value.slice _ cur.length _
        rw [hlen]
      · have hk2 : x1.length ≤ k := by simpa using hc3
        rw [List.take_of_length_le (by omega), List.take_of_length_le (by omega)] at hdat
        exact hdat
theorem markText_spec (w : World) (k0 : Nat) (hk0 : 0 < k0) (hm : k0 < 9223372036854775807) : Spec Tryz.prog 52 [.int .i64 (k0 : Int)].toArray w [] (IsV (.string (mtx k0))) := by
  refine Spec.intro Tryz.func52 rfl Tryz.ntmps52 rfl ?_
  refine s10 ?_
  refine kp [0, 5] ?_
  refine W_cond rfl (fun hc1 => ?_) (fun hc1 => ?_)
  · refine s5 ?_
    -- return 1 (R2)
    refine res1 rfl (ResOK.tmp rfl) ⟨?_, rfl⟩ ms
    exfalso; simp at hc1; omega
  · refine s7 ?_
    refine W_loopC (σ := Nat × ByteArray) (k0, ByteArray.mk #[]) (fun (p : Nat × ByteArray) => [(0, .int .i64 (p.1 : Int)), (3, .string p.2)]) (fun (p : Nat × ByteArray) => []) (fun (p : Nat × ByteArray) => mtxN p.1 p.2 = mtxN k0 (ByteArray.mk #[]) ∧ p.2.size + p.1 ≤ k0) (fun (p : Nat × ByteArray) => p.1) [] [] ?_ sb ms ?_
    · refine ⟨rfl, ?_⟩
      show (ByteArray.mk #[]).size + k0 ≤ k0
      have : (ByteArray.mk #[]).size = 0 := rfl
      omega
    · rintro ⟨k, s⟩ ⟨hs, hz⟩
      refine kq [0, 3] ?_
      refine s6 ?_
      refine kp [0, 3, 7] ?_
      refine W_cond rfl (fun hc4 => ?_) (fun hc4 => ?_)
      · have hkp : 0 < k := by simpa using hc4
        refine s5 ?_
        refine L_binV rfl rfl rfl (bv_remN k 10 (by omega)) ?_
        refine L_binV rfl rfl rfl (bv_addR (by unfold inR; omega)) ?_
        refine L_convInt rfl rfl und5.h (by rw [und3.h]; rfl) ?_
        refine L_buildSlice1 rfl rfl el125.h rfl (by decide) (by decide) rfl (fun bb => ?_)
        refine L_bytesToStr (ns := [IntKind.u8.wrap (48 + ((k % 10 : Nat) : Int))]) rfl rfl und125.h und5.h und9.h (RdC.blk mm) rfl rfl ?_
        refine s1 ?_
        refine L_binV rfl rfl rfl (bv_sadd (by rw [strOf_size1]; omega)) ?_
        refine s4 ?_
        refine L_binV rfl rfl rfl (bv_quoN k 10 (by omega) (by omega)) ?_
        refine s2 ?_
        refine ⟨(k / 10, dg k ++ s), sb, ms, ?_, ?_⟩
        · refine ⟨?_, ?_⟩
          · rw [← hs]; exact (mtxN_step s hkp).symm
          · dsimp only at hz ⊢
            rw [ByteArray.size_append, dg_size]; omega
        · dsimp only; omega
      · refine W_exit ?_
        refine s1 ?_
        have hd1 : ({ data := #[109] } : ByteArray).size = 1 := rfl
        dsimp only at hz
        refine s2 ?_
        refine L_binV rfl rfl rfl (bv_sadd (by (try dsimp only); omega)) ?_
        refine s3 ?_
        -- return 2 (R7)
        refine res1 rfl (ResOK.tmp rfl) ⟨?_, rfl⟩ ms
        have hk2 : k = 0 := by simp at hc4; omega
        subst hk2
        dsimp only at hs
        rw [mtxN_zero] at hs
        exact congrArg Value.string (by rw [hs]; rfl)
theorem markIntS_spec (w : World) (t1 : TL Int) (k0 : Nat) (hk0 : 0 < k0) (hb : k0 + Mk.cnt t1 < 9223372036854775807) : Spec Tryz.prog 14 [t1.hdr, .int .i64 (k0 : Int)].toArray w [treeH t1] (fun v M => v = .int .i64 ((k0 + Mk.cnt t1 : Nat) : Int) ∧ M = [treeH (Mk.mkd k0 t1)]) := by
  obtain ⟨a1, c1, e1, x1, y1⟩ := t1
  replace hb : k0 + cnts x1 < 9223372036854775807 := hb
  dsimp only [TL.hdr]
  refine Spec.intro Tryz.func14 rfl Tryz.ntmps14 rfl ?_
  refine W_fact (fun w h => ow_facts (h.prs _ (List.mem_cons_self ..))) fun hF => ?_
  replace hF : x1.length ≤ 9223372036854775807 ∧ (0 < x1.length → ∃ g, a1 = some ⟨g, 0, none⟩) := hF
  refine s10 ?_
  refine W_conv (M' := [treeH (⟨a1, c1, e1, half k0 0 x1, y1⟩ : TL Int)]) (fun w h => by rw [half_zero]; exact h) ?_
  refine W_loopC (σ := Nat) 0 (fun (i : Nat) => [(1, .int .i64 ((k0 + cnts (x1.take i) : Nat) : Int)), (5, .int .i64 (i : Int))]) (fun (i : Nat) => [treeH (⟨a1, c1, e1, half k0 i x1, y1⟩ : TL Int)]) (fun (i : Nat) => i ≤ x1.length) (fun (i : Nat) => x1.length - i) [(0, _)] [] ?_ sb ms ?_
  · exact Nat.zero_le _
  · rintro i hi
    refine kq [0, 1, 5] ?_
    refine s5 ?_
    refine L_lenS rfl rfl el35.h ?_
    refine s2 ?_
    refine kp [0, 1, 5, 9] ?_
    refine W_cond rfl (fun hc2 => ?_) (fun hc2 => ?_)
    · have hk1 : i < x1.length := by simpa using hc2
      obtain ⟨g, rfl⟩ := hF.2 (by omega)
      obtain ⟨u, hu⟩ := getEl hk1
      have hs := cnts_take_succ hu
      have hle := cnts_take_le x1 (i + 1)
      have hlh := half_length k0 i x1
      try simp only [cnt_int, cnt_str] at hs
      refine s8 ?_
      refine L_indexAddr rfl rfl rfl el35.h rfl (by omega) ?_
      refine L_storeElV (((k0 + cnts (x1.take i)) : Nat) : Int) rfl rfl pk rfl (show ((half k0 i x1) : List Int)[i]? = some (u : Int) from half_get (k := k0) hu) rfl (flat_int trivial) (.inr ⟨one3.h, rfl⟩) ?_
      refine s3 ?_
      refine L_binV rfl rfl rfl (bv_addR (by unfold inR; omega)) ?_
      refine s2 ?_
      rw [show (((k0 + cnts (x1.take i)) : Nat) : Int) + 1 = ((((k0 + cnts (x1.take i)) + 1) : Nat) : Int) from rfl]
      have hfin : ((half k0 i x1).set i (((k0 + cnts (x1.take i)) : Nat) : Int)) = half k0 (i + 1) x1 := by
        have h9 := half_set (k := k0) hu
        try simp only [mk_pair, mk_int, mk_str, cnt_pair, cnt_int, cnt_str, ← Nat.add_assoc] at h9
        try simp only [List.set_set]
        exact h9
      refine W_conv (M' := treeH (⟨some ⟨g, 0, none⟩, c1, e1, (half k0 (i + 1) x1), y1⟩ : TL Int) :: _) (fun w h => by rw [← hfin]; exact h) ?_
      have hE : ((k0 + cnts (x1.take i)) + 1) = k0 + cnts (x1.take (i + 1)) := by rw [hs]; (try simp only [cnt_pair, cnt_int, cnt_str]); omega
      rw [hE]
      refine s2 ?_
      refine L_binV rfl rfl rfl (bv_addR (by unfold inR; omega)) ?_
      refine s2 ?_
      refine ⟨i + 1, sb, ms, ?_, ?_⟩
      · show i + 1 ≤ x1.length
        omega
      · show x1.length - (i + 1) < x1.length - i
        omega
    · refine W_exit ?_
      refine s6 ?_
      -- return 1 (R6)
      have hk2 : x1.length ≤ i := by simpa using hc2
      rw [half_all k0 hk2]
      refine res1 rfl (ResOK.tmp rfl) ⟨?_, rfl⟩ ms
      have hk2 : x1.length ≤ i := by simpa using hc2
      rw [List.take_of_length_le hk2]; rfl
theorem heldIntS_spec (w : World) (t1 : TL Int) (k0 : Nat) (hk0 : 0 < k0) (hb : k0 + Mk.cnt t1 < 9223372036854775807) (h1 : GT.rd w [] (Mk.mkd k0 t1)) : Spec Tryz.prog 15 [(Mk.mkd k0 t1).hdr, .int .i64 (k0 : Int)].toArray w [] (IsV (.int .i64 ((k0 + Mk.cnt t1 : Nat) : Int))) := by
  obtain ⟨a1, c1, e1, x1, y1⟩ := t1
  replace hb : k0 + cnts x1 < 9223372036854775807 := hb
  have hml := mks_length x1 k0
  have hm1 : (mks k0 x1).length ≤ 9223372036854775807 := rd_len h1
  rw [mk_TL] at h1 ⊢
  dsimp only [TL.hdr]
  refine Spec.intro Tryz.func15 rfl Tryz.ntmps15 rfl ?_
  refine s10 ?_
  refine W_loopC (σ := Nat) 0 (fun (i : Nat) => [(1, .int .i64 ((k0 + cnts (x1.take i) : Nat) : Int)), (5, .int .i64 (i : Int))]) (fun (i : Nat) => []) (fun (i : Nat) => i ≤ x1.length) (fun (i : Nat) => x1.length - i) [(0, _)] [] ?_ sb ms ?_
  · exact Nat.zero_le _
  · rintro i hi
    refine kq [0, 1, 5] ?_
    refine s5 ?_
    refine L_lenS rfl rfl el35.h ?_
    refine s2 ?_
    refine kp [0, 1, 5, 9] ?_
    refine W_cond rfl (fun hc2 => ?_) (fun hc2 => ?_)
    · have hk1 : i < (mks k0 x1).length := by simpa using hc2
      obtain ⟨g, o1, rfl⟩ := rd_addr h1 hk1
      obtain ⟨u, hu⟩ := getEl (show i < x1.length by omega)
      have hs := cnts_take_succ hu
      have hle := cnts_take_le x1 (i + 1)
      have hu2 := mks_get (k := k0) hu
      try simp only [cnt_int, cnt_str] at hs
      refine s8 ?_
      refine L_indexAddr rfl rfl rfl el35.h rfl (by omega) ?_
      refine L_load0 rfl rfl (by first | exact RdC.blk mm | exact RdC.old (Cells.el h1 rfl hu2)) one3.h rfl ?_
      refine s3 ?_
      refine kp [0, 1, 5, 17] ?_
      refine W_cond rfl (fun hc4 => ?_) (fun hc4 => ?_)
      · refine s5 ?_
        -- return 1 (R5)
        refine res1 rfl (ResOK.tmp rfl) ⟨?_, rfl⟩ ms
        exfalso; simp [mk_int, mk_str] at hc4
      · refine s3 ?_
        refine L_binV rfl rfl rfl (bv_addR (by unfold inR; omega)) ?_
        refine s2 ?_
        rw [show (((k0 + cnts (x1.take i)) : Nat) : Int) + 1 = (((k0 + cnts (x1.take i)) + 1 : Nat) : Int) from rfl]
        have hE : ((k0 + cnts (x1.take i)) + 1) = k0 + cnts (x1.take (i + 1)) := by rw [hs]; (try simp only [cnt_pair, cnt_int, cnt_str]); omega
        rw [hE]
        refine s2 ?_
        refine L_binV rfl rfl rfl (bv_addR (by unfold inR; omega)) ?_
        refine s2 ?_
        refine ⟨i + 1, sb, ms, ?_, ?_⟩
        · show i + 1 ≤ x1.length
          omega
        · show x1.length - (i + 1) < x1.length - i
          omega
    · refine W_exit ?_
      refine s6 ?_
      -- return 2 (R7)
      refine res1 rfl (ResOK.tmp rfl) ⟨?_, rfl⟩ ms
      have hk2 : (mks k0 x1).length ≤ i := by simpa using hc2
      rw [List.take_of_length_le (by omega)]; rfl
end Go.Proofs.SL
namespace Go.Proofs.SL
open Go
set_option maxHeartbeats 2000000
instance fld62_0 : FldF Tryz.prog 62 0 0 := ⟨by kernel_rfl⟩
instance fld62_1 : FldF Tryz.prog 62 1 1 := ⟨by kernel_rfl⟩
instance fn91 : FnF Tryz.prog 91 := ⟨⟨_, Tryz.func91, by kernel_rfl, rfl⟩⟩
instance el66 : ElF Tryz.prog 66 62 2 16 [.int .i64 0, .int .i64 0] := ⟨by kernel_rfl⟩
instance agg62 : AggF Tryz.prog 62 2 := ⟨by kernel_rfl⟩
instance fn72 : FnF Tryz.prog 72 := ⟨⟨_, Tryz.func72, by kernel_rfl, rfl⟩⟩
instance fn134 : FnF Tryz.prog 134 := ⟨⟨_, Tryz.func134, by kernel_rfl, rfl⟩⟩
instance fld65_3 : FldF Tryz.prog 65 3 3 := ⟨by kernel_rfl⟩
instance fld65_4 : FldF Tryz.prog 65 4 4 := ⟨by kernel_rfl⟩
instance fld65_5 : FldF Tryz.prog 65 5 5 := ⟨by kernel_rfl⟩
instance fld65_7 : FldF Tryz.prog 65 7 7 := ⟨by kernel_rfl⟩
instance fn108 : FnF Tryz.prog 108 := ⟨⟨_, Tryz.func108, by kernel_rfl, rfl⟩⟩
instance fld65_0 : FldF Tryz.prog 65 0 0 := ⟨by kernel_rfl⟩
instance fld65_1 : FldF Tryz.prog 65 1 1 := ⟨by kernel_rfl⟩
instance fld65_2 : FldF Tryz.prog 65 2 2 := ⟨by kernel_rfl⟩
instance fld65_6 : FldF Tryz.prog 65 6 6 := ⟨by kernel_rfl⟩
instance fn117 : FnF Tryz.prog 117 := ⟨⟨_, Tryz.func117, by kernel_rfl, rfl⟩⟩
instance fn52 : FnF Tryz.prog 52 := ⟨⟨_, Tryz.func52, by kernel_rfl, rfl⟩⟩
theorem eqId_spec (w : World) (t1 t2 : T_Id) (h1 : GT.rd w [] t1) (h2 : GT.rd w [] t2) : Spec Tryz.prog 91 [.agg (GT.cells t1).toArray, .agg (GT.cells t2).toArray].toArray w [] (IsV (.bool (eqB (GT.dat t1) (GT.dat t2)))) := by
  obtain ⟨a1, a2⟩ := t1
  obtain ⟨b1, b2⟩ := t2
  change Spec _ _ [Value.agg #[.int .i64 a1, .int .i64 a2], Value.agg #[.int .i64 b1, .int .i64 b2]].toArray w [] _
  refine Spec.intro Tryz.func91 rfl Tryz.ntmps91 rfl ?_
  refine s2 ?_
  refine bx fun bk2 => ?_
  refine bx fun bk3 => ?_
  refine s6 ?_
  refine L_load rfl rfl (by first | exact RdC.blk mm) one3.h rfl ?_
  refine s1 ?_
  refine L_load rfl rfl (by first | exact RdC.blk mm) one3.h rfl ?_
  refine s2 ?_
  refine kp [2, 3, 9] ?_
  refine W_cond rfl (fun hc1 => ?_) (fun hc1 => ?_)
  · refine s5 ?_
    -- return 1 (R2)
    refine res1 rfl (ResOK.tmp rfl) ⟨?_, rfl⟩ ms
    clear h1 h2
    first
      | (refine congrArg Value.bool (Eq.symm (eqB_false.2 fun e => ?_)); try simp only [dat_pair, dat_int, dat_bool, dat_str, Prod.mk.injEq] at e; simp_all; done)
      | (refine congrArg Value.bool (Eq.symm (eqB_true.2 ?_)); try simp only [dat_pair, dat_int, dat_bool, dat_str, Prod.mk.injEq]; simp_all; done)
  · refine s5 ?_
    refine L_load rfl rfl (by first | exact RdC.blk mm) one3.h rfl ?_
    refine s1 ?_
    refine L_load rfl rfl (by first | exact RdC.blk mm) one3.h rfl ?_
    refine s2 ?_
    refine kp [14] ?_
    refine W_cond rfl (fun hc3 => ?_) (fun hc3 => ?_)
    · refine s5 ?_
      -- return 2 (R4)
      refine res1 rfl (ResOK.tmp rfl) ⟨?_, rfl⟩ ms
      clear h1 h2
      first
        | (refine congrArg Value.bool (Eq.symm (eqB_false.2 fun e => ?_)); try simp only [dat_pair, dat_int, dat_bool, dat_str, Prod.mk.injEq] at e; simp_all; done)
        | (refine congrArg Value.bool (Eq.symm (eqB_true.2 ?_)); try simp only [dat_pair, dat_int, dat_bool, dat_str, Prod.mk.injEq]; simp_all; done)
    · refine s6 ?_
      -- return 3 (R5)
      refine res1 rfl (ResOK.tmp rfl) ⟨?_, rfl⟩ ms
      clear h1 h2
      first
        | (refine congrArg Value.bool (Eq.symm (eqB_false.2 fun e => ?_)); try simp only [dat_pair, dat_int, dat_bool, dat_str, Prod.mk.injEq] at e; simp_all; done)
        | (refine congrArg Value.bool (Eq.symm (eqB_true.2 ?_)); try simp only [dat_pair, dat_int, dat_bool, dat_str, Prod.mk.injEq]; simp_all; done)
theorem toId_spec (w : World) (t1 : T_Id) (h1 : GT.rd w [] t1) (hb : Bk.bulk t1 ≤ 1048576) : Spec Tryz.prog 72 [.agg (GT.cells t1).toArray].toArray w [] (fun v M => ∃ t2 : T_Id, v = .agg (GT.cells t2).toArray ∧ GT.dat t2 = GT.dat t1 ∧ M = [treeH t2]) := by
  obtain ⟨a1, a2⟩ := t1
  change Spec _ _ [Value.agg #[.int .i64 a1, .int .i64 a2]].toArray w [] _
  refine Spec.intro Tryz.func72 rfl Tryz.ntmps72 rfl ?_
  refine s2 ?_
  refine bx fun bk1 => ?_
  refine al fun bk2 => ?_
  refine s3 ?_
  refine al fun bk3 => ?_
  refine s4 ?_
  refine L_load rfl rfl (by first | exact RdC.blk mm) one3.h rfl ?_
  refine s6 ?_
  refine L_load rfl rfl (by first | exact RdC.blk mm) one3.h rfl ?_
  refine s5 ?_
  refine L_loadW rfl rfl (by first | exact RdC.blk mm) (by exact agg71.h) ?_
  refine L_storeW rfl rfl pk (by exact agg71.h) (by rfl) (by first | (simp [Value.oneCell', TL.hdr]; done) | (simp [Value.oneCell', TL.hdr, Value.cells]; done) | exact fun v hv => GT.one _ v hv) ?_
  refine s1 ?_
  refine W_conv (M' := treeH ((a1, a2) : T_Id) :: _) (fun w h => (tree_snd (flat_int (h1.1)) (h.addFlat (flat_int (h1.2))))) ?_
  refine s1 ?_
  -- return 1 (R4)
  refine res1 rfl (ResOK.cell rfl mm (by exact agg71.h)) ⟨(a1, a2), rfl, by simp only [dat_pair], rfl⟩ ms
theorem eqIdS_spec (w : World) (t1 t2 : TL T_Id) (h1 : GT.rd w [] t1) (h2 : GT.rd w [] t2) : Spec Tryz.prog 93 [t1.hdr, t2.hdr].toArray w [] (IsV (.bool (eqB (GT.dat t1) (GT.dat t2)))) := by
  obtain ⟨a1, c1, e1, x1, y1⟩ := t1
  obtain ⟨a2, c2, e2, x2, y2⟩ := t2
  have hm1 : x1.length ≤ 9223372036854775807 := rd_len h1
  have hm2 : x2.length ≤ 9223372036854775807 := rd_len h2
  dsimp only [TL.hdr]
  refine Spec.intro Tryz.func93 rfl Tryz.ntmps93 rfl ?_
  refine s8 ?_
  refine L_lenS rfl rfl el51.h ?_
  refine s1 ?_
  refine L_lenS rfl rfl el51.h ?_
  refine s2 ?_
  refine kp [0, 1, 10] ?_
  refine W_cond rfl (fun hc1 => ?_) (fun hc1 => ?_)
  · refine s5 ?_
    -- return 1 (R2)
    refine res1 rfl (ResOK.tmp rfl) ⟨?_, rfl⟩ ms
    refine congrArg Value.bool (Eq.symm (eqB_false.2 fun e => ?_))
    simp at hc1
    exact hc1 (by have := congrArg List.length e; simp [dat_TL] at this; omega)
  · have hl : x1.length = x2.length := by simp at hc1; omega
    refine s7 ?_
    refine W_loopC (σ := Nat) 0 (fun (k : Nat) => [(5, .int .i64 (k : Int))]) (fun (k : Nat) => []) (fun (k : Nat) => k ≤ x1.length ∧ (x1.map GT.dat).take k = (x2.map GT.dat).take k) (fun (k : Nat) => x1.length - k) [(0, _), (1, _)] [] ?_ sb ms ?_
    · exact ⟨Nat.zero_le _, rfl⟩
    · rintro k ⟨hk, ht⟩
      refine kq [0, 1, 5] ?_
      refine s5 ?_
      refine L_lenS rfl rfl el51.h ?_
      refine s2 ?_
      refine kp [0, 1, 5, 14] ?_
      refine W_cond rfl (fun hc4 => ?_) (fun hc4 => ?_)
      · have hk1 : k < x1.length := by simpa using hc4
        obtain ⟨g1, o1, rfl⟩ := rd_addr h1 hk1
        obtain ⟨g2, o2, rfl⟩ := rd_addr (k := k) h2 (show k < x2.length by omega)
        obtain ⟨u1, hu1⟩ := getEl hk1
        obtain ⟨u2, hu2⟩ := getEl (show k < x2.length by omega)
        refine s4 ?_
        refine W_D0 [26] mix (by kernel_rfl) rfl ?_
        refine s2 ?_
        refine D_indexAddr _ GC.none (OpV.t rfl) (OpV.t rfl) el51.h (fun hg => ⟨rfl, by (try dsimp only); omega⟩) ?_
        refine D_loadW GC.none (OpV.t rfl) (fun hg => (by first | exact RdC.blk mm | exact RdC.old (Cells.el h1 rfl hu1) | exact RdC.old (Cells.el h2 rfl hu2))) (by exact agg71.h) ?_
        refine s2 ?_
        refine D_indexAddr _ GC.none (OpV.t rfl) (OpV.t rfl) el51.h (fun hg => ⟨rfl, by (try dsimp only); omega⟩) ?_
        refine D_loadW GC.none (OpV.t rfl) (fun hg => (by first | exact RdC.blk mm | exact RdC.old (Cells.el h1 rfl hu1) | exact RdC.old (Cells.el h2 rfl hu2))) (by exact agg71.h) ?_
        refine D_callX GC.none fn91.h (OpVs.cons (OpV.t rfl) (OpVs.cons (OpV.t rfl) (OpVs.nil))) (by exact fun hg w F hF hM => (fun w hw => eqId_spec w _ _ (rd_carry (h1.2.2.1 _ (List.mem_of_getElem? hu1)) hw) (rd_carry (h2.2.2.1 _ (List.mem_of_getElem? hu2)) hw)) w hF) ?_
        refine s13 ?_
        refine kp [0, 1, 5, 26] ?_
        refine W_cond rfl (fun hc6 => ?_) (fun hc6 => ?_)
        · refine s5 ?_
          -- return 2 (R7)
          refine res1 rfl (ResOK.tmp rfl) ⟨?_, rfl⟩ ms
          refine congrArg Value.bool (Eq.symm (eqB_false.2 fun e => ?_))
          simp at hc6
          replace e : x1.map GT.dat = x2.map GT.dat := e
          have e2 := congrArg (fun l => l[k]?) e
          simp only [List.getElem?_map, hu1, hu2, Option.map_some, Option.some.injEq] at e2
          exact hc6 (by simpa [dat_int, dat_str, dat_bool] using e2)
        · refine s3 ?_
          refine L_binV rfl rfl rfl (bv_addR (by unfold inR; omega)) ?_
          refine s2 ?_
          refine ⟨k + 1, sb, ms, ?_, ?_⟩
          · exact ⟨by omega, take_succ_eq ht (by rw [List.getElem?_map, hu1]; rfl) (by rw [List.getElem?_map, hu2]; rfl) (by simpa [dat_int, dat_str, dat_bool] using hc6)⟩
          · (try dsimp only); omega
      · refine W_exit ?_
        refine s5 ?_
        -- return 3 (R8)
        refine res1 rfl (ResOK.tmp rfl) ⟨?_, rfl⟩ ms
        refine congrArg Value.bool (Eq.symm (eqB_true.2 ?_))
        have hk2 : x1.length ≤ k := by simpa using hc4
        have h3 := ht
        rw [List.take_of_length_le (by simp; omega), List.take_of_length_le (by simp; omega)] at h3
        exact h3
theorem szIdS_spec (w : World) (t1 : TL T_Id) (left : Int) (hl : 0 ≤ left) (hm : left ≤ 1048576) (h1 : GT.rd w [] t1) (ho : Ok.ok (GT.dat t1)) : Spec Tryz.prog 58 [t1.hdr, .int .i64 left].toArray w [] (IsV (.int .i64 (if (Bk.bulk t1 : Int) ≤ left then left - (Bk.bulk t1 : Int) else -1))) := by
  obtain ⟨a1, c1, e1, x1, y1⟩ := t1
  have hm1 : x1.length ≤ 9223372036854775807 := rd_len h1
  rw [bulk_TL]
  dsimp only [TL.hdr]
  have hz : bulks x1 = 0 := by
    clear hm1 h1 ho
    induction x1 with
    | nil => rfl
    | cons y ys ih => simp only [bulks, ih]; rfl
  refine Spec.intro Tryz.func58 rfl Tryz.ntmps58 rfl ?_
  refine s8 ?_
  refine L_lenS rfl rfl el66.h ?_
  refine L_binV rfl rfl rfl (bv_subR (by unfold inR; omega)) ?_
  refine s8 ?_
  refine kp [1, 10] ?_
  refine W_cond rfl (fun hc2 => ?_) (fun hc2 => ?_)
  · have hb0 : left - (x1.length : Int) < 0 := by simpa using hc2
    refine s5 ?_
    -- return 1 (R3)
    refine res1 rfl (ResOK.tmp rfl) ⟨?_, rfl⟩ ms
    simp only [hz, Nat.add_zero]
    first
      | (rw [if_pos (by omega)]; done)
      | (rw [if_neg (by omega)])
  · have hb0 : ¬ (left - (x1.length : Int) < 0) := by simpa using hc2
    skip
    refine s7 ?_
    -- return 2 (R4)
    refine res1 rfl (ResOK.tmp rfl) ⟨?_, rfl⟩ ms
    simp only [hz, Nat.add_zero]
    first
      | (rw [if_pos (by omega)]; done)
      | (rw [if_neg (by omega)])
theorem toIdS_spec (w : World) (t1 : TL T_Id) (h1 : GT.rd w [] t1) (hb : Bk.bulk t1 ≤ 1048576) : Spec Tryz.prog 74 [t1.hdr].toArray w [] (fun v M => ∃ t2 : TL T_Id, v = t2.hdr ∧ GT.dat t2 = GT.dat t1 ∧ M = [treeH t2]) := by
  obtain ⟨a1, c1, e1, x1, y1⟩ := t1
  rw [bulk_TL] at hb
  dsimp only [TL.hdr]
  refine Spec.intro Tryz.func74 rfl Tryz.ntmps74 rfl ?_
  refine s7 ?_
  refine L_lenS rfl rfl el66.h ?_
  refine L_make (τ := T_Id) ((0 : Int), (0 : Int)) rfl rfl rfl el51.h rfl rfl (flat_pair (flat_int trivial) (flat_int trivial)) (by omega) (by unfold maxLen; omega) (fun g => ?_)
  refine s8 ?_
  refine W_loopC (σ := Nat × List T_Id) (0, List.replicate x1.length ((0 : Int), (0 : Int))) (fun (p : Nat × List T_Id) => [(4, .int .i64 (p.1 : Int))]) (fun (p : Nat × List T_Id) => [treeH (⟨some ⟨g, 0, none⟩, x1.length, 71, p.2, []⟩ : TL T_Id)]) (fun (p : Nat × List T_Id) => p.1 ≤ x1.length ∧ p.2.length = x1.length ∧ (p.2.take p.1).map GT.dat = (x1.take p.1).map GT.dat) (fun (p : Nat × List T_Id) => x1.length - p.1) [(0, _), (3, _)] [] ?_ sb ms ?_
  · exact ⟨Nat.zero_le _, by simp, by simp⟩
  · rintro ⟨k, cur⟩ ⟨hk, hlen, hdat⟩
    dsimp only at hk hlen hdat
    refine kq [0, 3, 4] ?_
    refine s5 ?_
    refine L_lenS rfl rfl el66.h ?_
    refine s2 ?_
    refine kp [0, 3, 4, 11] ?_
    refine W_cond rfl (fun hc3 => ?_) (fun hc3 => ?_)
    · have hk1 : k < x1.length := by simpa using hc3
      obtain ⟨g1, o1, rfl⟩ := rd_addr h1 hk1
      obtain ⟨u1, hu1⟩ := getEl hk1
      have hub : Bk.bulk u1 ≤ 1048576 := by have := bulk_mem (List.mem_of_getElem? hu1); omega
      refine s8 ?_
      refine L_indexAddr rfl rfl rfl el66.h rfl (by omega) ?_
      refine L_loadW rfl rfl (by first | exact RdC.blk mm | exact RdC.old (Cells.el h1 rfl hu1)) (by exact agg62.h) ?_
      refine L_callR rfl fn72.h rfl (by exact fun w hw => toId_spec w _ (rd_carry (h1.2.2.1 _ (List.mem_of_getElem? hu1)) hw) hub) ?_
      rintro v M1 ⟨u2, hv, hd, rfl⟩
      subst hv
      simp only [List.cons_append, List.nil_append]
      refine L_indexAddr rfl rfl rfl el51.h rfl (by omega) ?_
      obtain ⟨u0, hu0⟩ := getEl (show k < cur.length by omega)
      refine L_storeEl u2 rfl rfl pk rfl hu0 rfl pk (.inl agg71.h) ?_
      refine s3 ?_
      refine L_binV rfl rfl rfl (bv_addR (by unfold inR; omega)) ?_
      refine s2 ?_
      refine ⟨(k + 1, cur.set k u2), sb, ms, ?_, ?_⟩
      · exact ⟨by dsimp only; omega, by simpa using hlen, map_take_set GT.dat GT.dat hdat (by omega) hu1 hd⟩
      · dsimp only; omega
    · refine W_exit ?_
      refine s6 ?_
      -- return 1 (R6)
      refine res1 rfl (ResOK.tmp rfl) ⟨⟨some ⟨g, 0, none⟩, x1.length, 71, cur, []⟩, ?_, ?_, rfl⟩ ms
      · show _ = Value.slice _ cur.length _
        rw [hlen]
      · have hk2 : x1.length ≤ k := by simpa using hc3
        rw [List.take_of_length_le (by omega), List.take_of_length_le (by omega)] at hdat
        exact hdat
theorem eqStringS_spec (w : World) (t1 t2 : TL ByteArray) (h1 : GT.rd w [] t1) (h2 : GT.rd w [] t2) : Spec Tryz.prog 134 [t1.hdr, t2.hdr].toArray w [] (IsV (.bool (eqB (GT.dat t1) (GT.dat t2)))) := by
  obtain ⟨a1, c1, e1, x1, y1⟩ := t1
  obtain ⟨a2, c2, e2, x2, y2⟩ := t2
  have hm1 : x1.length ≤ 9223372036854775807 := rd_len h1
  have hm2 : x2.length ≤ 9223372036854775807 := rd_len h2
  dsimp only [TL.hdr]
  refine Spec.intro Tryz.func134 rfl Tryz.ntmps134 rfl ?_
  refine s8 ?_
  refine L_lenS rfl rfl el63.h ?_
  refine s1 ?_
  refine L_lenS rfl rfl el63.h ?_
  refine s2 ?_
  refine kp [0, 1, 10] ?_
  refine W_cond rfl (fun hc1 => ?_) (fun hc1 => ?_)
  · refine s5 ?_
    -- return 1 (R2)
    refine res1 rfl (ResOK.tmp rfl) ⟨?_, rfl⟩ ms
    refine congrArg Value.bool (Eq.symm (eqB_false.2 fun e => ?_))
    simp at hc1
    exact hc1 (by have := congrArg List.length e; simp [dat_TL] at this; omega)
  · have hl : x1.length = x2.length := by simp at hc1; omega
    refine s7 ?_
    refine W_loopC (σ := Nat) 0 (fun (k : Nat) => [(5, .int .i64 (k : Int))]) (fun (k : Nat) => []) (fun (k : Nat) => k ≤ x1.length ∧ (x1.map GT.dat).take k = (x2.map GT.dat).take k) (fun (k : Nat) => x1.length - k) [(0, _), (1, _)] [] ?_ sb ms ?_
    · exact ⟨Nat.zero_le _, rfl⟩
    · rintro k ⟨hk, ht⟩
      refine kq [0, 1, 5] ?_
      refine s5 ?_
      refine L_lenS rfl rfl el63.h ?_
      refine s2 ?_
      refine kp [0, 1, 5, 14] ?_
      refine W_cond rfl (fun hc4 => ?_) (fun hc4 => ?_)
      · have hk1 : k < x1.length := by simpa using hc4
        obtain ⟨g1, o1, rfl⟩ := rd_addr h1 hk1
        obtain ⟨g2, o2, rfl⟩ := rd_addr (k := k) h2 (show k < x2.length by omega)
        obtain ⟨u1, hu1⟩ := getEl hk1
        obtain ⟨u2, hu2⟩ := getEl (show k < x2.length by omega)
        refine s4 ?_
        refine W_D0 [25] mix (by kernel_rfl) rfl ?_
        refine s2 ?_
        refine D_indexAddr _ GC.none (OpV.t rfl) (OpV.t rfl) el63.h (fun hg => ⟨rfl, by (try dsimp only); omega⟩) ?_
        refine D_load0 GC.none (OpV.t rfl) (fun hg => (by first | exact RdC.blk mm | exact RdC.old (Cells.el h1 rfl hu1) | exact RdC.old (Cells.el h2 rfl hu2))) one9.h rfl ?_
        refine s2 ?_
        refine D_indexAddr _ GC.none (OpV.t rfl) (OpV.t rfl) el63.h (fun hg => ⟨rfl, by (try dsimp only); omega⟩) ?_
        refine D_load0 GC.none (OpV.t rfl) (fun hg => (by first | exact RdC.blk mm | exact RdC.old (Cells.el h1 rfl hu1) | exact RdC.old (Cells.el h2 rfl hu2))) one9.h rfl ?_
        refine s12 ?_
        refine kp [0, 1, 5, 25] ?_
        refine W_cond rfl (fun hc6 => ?_) (fun hc6 => ?_)
        · refine s5 ?_
          -- return 2 (R7)
          refine res1 rfl (ResOK.tmp rfl) ⟨?_, rfl⟩ ms
          refine congrArg Value.bool (Eq.symm (eqB_false.2 fun e => ?_))
          simp at hc6
          replace e : x1.map GT.dat = x2.map GT.dat := e
          have e2 := congrArg (fun l => l[k]?) e
          simp only [List.getElem?_map, hu1, hu2, Option.map_some, Option.some.injEq] at e2
          exact hc6 (by simpa [dat_int, dat_str, dat_bool] using e2)
        · refine s3 ?_
          refine L_binV rfl rfl rfl (bv_addR (by unfold inR; omega)) ?_
          refine s2 ?_
          refine ⟨k + 1, sb, ms, ?_, ?_⟩
          · exact ⟨by omega, take_succ_eq ht (by rw [List.getElem?_map, hu1]; rfl) (by rw [List.getElem?_map, hu2]; rfl) (by simpa [dat_int, dat_str, dat_bool] using hc6)⟩
          · (try dsimp only); omega
      · refine W_exit ?_
        refine s5 ?_
        -- return 3 (R8)
        refine res1 rfl (ResOK.tmp rfl) ⟨?_, rfl⟩ ms
        refine congrArg Value.bool (Eq.symm (eqB_true.2 ?_))
        have hk2 : x1.length ≤ k := by simpa using hc4
        have h3 := ht
        rw [List.take_of_length_le (by simp; omega), List.take_of_length_le (by simp; omega)] at h3
        exact h3
theorem szStringS_spec (w : World) (t1 : TL ByteArray) (left : Int) (hl : 0 ≤ left) (hm : left ≤ 1048576) (h1 : GT.rd w [] t1) (ho : Ok.ok (GT.dat t1)) : Spec Tryz.prog 108 [t1.hdr, .int .i64 left].toArray w [] (IsV (.int .i64 (if (Bk.bulk t1 : Int) ≤ left then left - (Bk.bulk t1 : Int) else -1))) := by
  obtain ⟨a1, c1, e1, x1, y1⟩ := t1
  have hm1 : x1.length ≤ 9223372036854775807 := rd_len h1
  rw [bulk_TL]
  dsimp only [TL.hdr]
  refine Spec.intro Tryz.func108 rfl Tryz.ntmps108 rfl ?_
  refine s8 ?_
  refine L_lenS rfl rfl el63.h ?_
  refine L_binV rfl rfl rfl (bv_subR (by unfold inR; omega)) ?_
  refine s8 ?_
  refine kp [0, 1, 11] ?_
  refine W_cond rfl (fun hc2 => ?_) (fun hc2 => ?_)
  · have hb0 : left - (x1.length : Int) < 0 := by simpa using hc2
    refine s5 ?_
    -- return 1 (R3)
    refine res1 rfl (ResOK.tmp rfl) ⟨?_, rfl⟩ ms
    first
      | (rw [if_neg (by simp only [Int.natCast_add]; omega)]; done)
      | (rw [if_neg (by have := bulks_take_le x1 (k + 1); simp only [Int.natCast_add]; omega)]; done)
      | (have hk2 : x1.length ≤ k := by simpa using hc5
         rw [List.take_of_length_le hk2] at ht ⊢
         rw [if_pos (by simp only [Int.natCast_add]; omega)]; congr 1; simp only [Int.natCast_add]; omega)
  · have hb0 : ¬ (left - (x1.length : Int) < 0) := by simpa using hc2
    refine s7 ?_
    have h0 : left - (x1.length : Int) = left - (x1.length : Int) - (bulks (x1.take 0) : Int) := by simp [bulks]
    rw [h0]
    refine W_loopC (σ := Nat) 0 (fun (k : Nat) => [(1, .int .i64 (left - (x1.length : Int) - (bulks (x1.take k) : Int))), (5, .int .i64 (k : Int))]) (fun (k : Nat) => []) (fun (k : Nat) => k ≤ x1.length ∧ 0 ≤ (left - (x1.length : Int) - (bulks (x1.take k) : Int))) (fun (k : Nat) => x1.length - k) [(0, _)] [] ?_ sb ms ?_
    · exact ⟨Nat.zero_le _, by simp [bulks]; omega⟩
    · rintro k ⟨hk, ht⟩
      refine kq [0, 1, 5] ?_
      refine s5 ?_
      refine L_lenS rfl rfl el63.h ?_
      refine s2 ?_
      refine kp [0, 1, 5, 15] ?_
      refine W_cond rfl (fun hc5 => ?_) (fun hc5 => ?_)
      · have hk1 : k < x1.length := by simpa using hc5
        obtain ⟨g1, o1, rfl⟩ := rd_addr h1 hk1
        obtain ⟨u1, hu1⟩ := getEl hk1
        have hbs := bulks_take_succ hu1
        have hble := bulks_take_le x1 (k + 1)
        have hus : u1.size ≤ 9223372036854775807 := ho.2 _ (List.mem_map.2 ⟨u1, List.mem_of_getElem? hu1, rfl⟩)
        rw [bulk_str] at hbs
        refine s8 ?_
        refine L_indexAddr rfl rfl rfl el63.h rfl (by omega) ?_
        refine L_load0 rfl rfl (by first | exact RdC.blk mm | exact RdC.old (Cells.el h1 rfl hu1)) one9.h rfl ?_
        refine s1 ?_
        refine L_binV rfl rfl rfl (bv_subR (by unfold inR; omega)) ?_
        refine s7 ?_
        refine kp [0, 1, 5, 26] ?_
        refine W_cond rfl (fun hc8 => ?_) (fun hc8 => ?_)
        · have hb1 : (left - (x1.length : Int) - (bulks (x1.take k) : Int)) - (u1.size : Int) < 0 := by simpa using hc8
          refine s5 ?_
          -- return 2 (R9)
          refine res1 rfl (ResOK.tmp rfl) ⟨?_, rfl⟩ ms
          first
            | (rw [if_neg (by simp only [Int.natCast_add]; omega)]; done)
            | (rw [if_neg (by have := bulks_take_le x1 (k + 1); simp only [Int.natCast_add]; omega)]; done)
            | (have hk2 : x1.length ≤ k := by simpa using hc5
               rw [List.take_of_length_le hk2] at ht ⊢
               rw [if_pos (by simp only [Int.natCast_add]; omega)]; congr 1; simp only [Int.natCast_add]; omega)
        · have hb1 : ¬ ((left - (x1.length : Int) - (bulks (x1.take k) : Int)) - (u1.size : Int) < 0) := by simpa using hc8
          have hnx : (left - (x1.length : Int) - (bulks (x1.take k) : Int)) - (u1.size : Int) = left - (x1.length : Int) - (bulks (x1.take (k + 1)) : Int) := by rw [hbs]; omega
          rw [hnx]
          refine s3 ?_
          refine L_binV rfl rfl rfl (bv_addR (by unfold inR; omega)) ?_
          refine s2 ?_
          refine ⟨k + 1, sb, ms, ?_, ?_⟩
          · exact ⟨by omega, by omega⟩
          · (try dsimp only); omega
      · refine W_exit ?_
        refine s6 ?_
        -- return 3 (R10)
        refine res1 rfl (ResOK.tmp rfl) ⟨?_, rfl⟩ ms
        first
          | (rw [if_neg (by simp only [Int.natCast_add]; omega)]; done)
          | (rw [if_neg (by have := bulks_take_le x1 (k + 1); simp only [Int.natCast_add]; omega)]; done)
          | (have hk2 : x1.length ≤ k := by simpa using hc5
             rw [List.take_of_length_le hk2] at ht ⊢
             rw [if_pos (by simp only [Int.natCast_add]; omega)]; congr 1; simp only [Int.natCast_add]; omega)
theorem toStringS_spec (w : World) (t1 : TL ByteArray) (h1 : GT.rd w [] t1) (hb : Bk.bulk t1 ≤ 1048576) : Spec Tryz.prog 117 [t1.hdr].toArray w [] (fun v M => ∃ t2 : TL ByteArray, v = t2.hdr ∧ GT.dat t2 = GT.dat t1 ∧ M = [treeH t2]) := by
  obtain ⟨a1, c1, e1, x1, y1⟩ := t1
  rw [bulk_TL] at hb
  dsimp only [TL.hdr]
  refine Spec.intro Tryz.func117 rfl Tryz.ntmps117 rfl ?_
  refine s7 ?_
  refine L_lenS rfl rfl el63.h ?_
  refine L_make (τ := ByteArray) ByteArray.empty rfl rfl rfl el63.h rfl rfl (flat_str trivial) (by omega) (by unfold maxLen; omega) (fun g => ?_)
  refine s8 ?_
  refine W_loopC (σ := Nat × List ByteArray) (0, List.replicate x1.length ByteArray.empty) (fun (p : Nat × List ByteArray) => [(4, .int .i64 (p.1 : Int))]) (fun (p : Nat × List ByteArray) => [treeH (⟨some ⟨g, 0, none⟩, x1.length, 9, p.2, []⟩ : TL ByteArray)]) (fun (p : Nat × List ByteArray) => p.1 ≤ x1.length ∧ p.2.length = x1.length ∧ (p.2.take p.1).map GT.dat = (x1.take p.1).map GT.dat) (fun (p : Nat × List ByteArray) => x1.length - p.1) [(0, _), (3, _)] [] ?_ sb ms ?_
  · exact ⟨Nat.zero_le _, by simp, by simp⟩
  · rintro ⟨k, cur⟩ ⟨hk, hlen, hdat⟩
    dsimp only at hk hlen hdat
    refine kq [0, 3, 4] ?_
    refine s5 ?_
    refine L_lenS rfl rfl el63.h ?_
    refine s2 ?_
    refine kp [0, 3, 4, 11] ?_
    refine W_cond rfl (fun hc3 => ?_) (fun hc3 => ?_)
    · have hk1 : k < x1.length := by simpa using hc3
      obtain ⟨g1, o1, rfl⟩ := rd_addr h1 hk1
      obtain ⟨u1, hu1⟩ := getEl hk1
      have hub : Bk.bulk u1 ≤ 1048576 := by have := bulk_mem (List.mem_of_getElem? hu1); omega
      refine s8 ?_
      refine L_indexAddr rfl rfl rfl el63.h rfl (by omega) ?_
      refine L_load0 rfl rfl (by first | exact RdC.blk mm | exact RdC.old (Cells.el h1 rfl hu1)) one9.h rfl ?_
      refine L_indexAddr rfl rfl rfl el63.h rfl (by omega) ?_
      obtain ⟨u0, hu0⟩ := getEl (show k < cur.length by omega)
      refine L_storeElV u1 rfl rfl pk rfl hu0 rfl (flat_str (h1.2.2.1 _ (List.mem_of_getElem? hu1))) (.inr ⟨one9.h, rfl⟩) ?_
      refine s3 ?_
      refine L_binV rfl rfl rfl (bv_addR (by unfold inR; omega)) ?_
      refine s2 ?_
      refine ⟨(k + 1, cur.set k u1), sb, ms, ?_, ?_⟩
      · exact ⟨by dsimp only; omega, by simpa using hlen, map_take_set GT.dat GT.dat hdat (by omega) hu1 rfl⟩
      · dsimp only; omega
    · refine W_exit ?_
      refine s6 ?_
      -- return 1 (R6)
      refine res1 rfl (ResOK.tmp rfl) ⟨⟨some ⟨g, 0, none⟩, x1.length, 9, cur, []⟩, ?_, ?_, rfl⟩ ms
      · show _ = Value.slice _ cur.length _
        rw [hlen]
      · have hk2 : x1.length ≤ k := by simpa using hc3
        rw [List.take_of_length_le (by omega), List.take_of_length_le (by omega)] at hdat
        exact hdat
theorem eqCmd_spec (w : World) (t1 t2 : T_Cmd) (h1 : GT.rd w [] t1) (h2 : GT.rd w [] t2) : Spec Tryz.prog 92 [.agg (GT.cells t1).toArray, .agg (GT.cells t2).toArray].toArray w [] (IsV (.bool (eqB (GT.dat t1) (GT.dat t2)))) := by
  obtain ⟨a1, a2, a3, a4, a5, a6, a7, a8⟩ := t1
  obtain ⟨b1, b2, b3, b4, b5, b6, b7, b8⟩ := t2
  change Spec _ _ [Value.agg #[.int .i64 a1, .int .i64 a2, .int .i64 a3, .string a4, .string a5, .string a6, .int .i64 a7, a8.hdr], Value.agg #[.int .i64 b1, .int .i64 b2, .int .i64 b3, .string b4, .string b5, .string b6, .int .i64 b7, b8.hdr]].toArray w [] _
  refine Spec.intro Tryz.func92 rfl Tryz.ntmps92 rfl ?_
  refine s2 ?_
  refine bx fun bk2 => ?_
  refine bx fun bk3 => ?_
  refine s6 ?_
  refine L_load rfl rfl (by first | exact RdC.blk mm) one3.h rfl ?_
  refine s1 ?_
  refine L_load rfl rfl (by first | exact RdC.blk mm) one3.h rfl ?_
  refine s2 ?_
  refine kp [2, 3, 9] ?_
  refine W_cond rfl (fun hc1 => ?_) (fun hc1 => ?_)
  · refine s5 ?_
    -- return 1 (R2)
    refine res1 rfl (ResOK.tmp rfl) ⟨?_, rfl⟩ ms
    clear h1 h2
    first
      | (refine congrArg Value.bool (Eq.symm (eqB_false.2 fun e => ?_)); try simp only [dat_pair, dat_int, dat_bool, dat_str, Prod.mk.injEq] at e; simp_all; done)
      | (refine congrArg Value.bool (Eq.symm (eqB_true.2 ?_)); try simp only [dat_pair, dat_int, dat_bool, dat_str, Prod.mk.injEq]; simp_all; done)
  · refine s5 ?_
    refine L_load rfl rfl (by first | exact RdC.blk mm) one3.h rfl ?_
    refine s1 ?_
    refine L_load rfl rfl (by first | exact RdC.blk mm) one3.h rfl ?_
    refine s2 ?_
    refine kp [2, 3, 14] ?_
    refine W_cond rfl (fun hc3 => ?_) (fun hc3 => ?_)
    · refine s5 ?_
      -- return 2 (R4)
      refine res1 rfl (ResOK.tmp rfl) ⟨?_, rfl⟩ ms
      clear h1 h2
      first
        | (refine congrArg Value.bool (Eq.symm (eqB_false.2 fun e => ?_)); try simp only [dat_pair, dat_int, dat_bool, dat_str, Prod.mk.injEq] at e; simp_all; done)
        | (refine congrArg Value.bool (Eq.symm (eqB_true.2 ?_)); try simp only [dat_pair, dat_int, dat_bool, dat_str, Prod.mk.injEq]; simp_all; done)
    · refine s5 ?_
      refine L_load rfl rfl (by first | exact RdC.blk mm) one3.h rfl ?_
      refine s1 ?_
      refine L_load rfl rfl (by first | exact RdC.blk mm) one3.h rfl ?_
      refine s2 ?_
      refine kp [2, 3, 19] ?_
      refine W_cond rfl (fun hc5 => ?_) (fun hc5 => ?_)
      · refine s5 ?_
        -- return 3 (R6)
        refine res1 rfl (ResOK.tmp rfl) ⟨?_, rfl⟩ ms
        clear h1 h2
        first
          | (refine congrArg Value.bool (Eq.symm (eqB_false.2 fun e => ?_)); try simp only [dat_pair, dat_int, dat_bool, dat_str, Prod.mk.injEq] at e; simp_all; done)
          | (refine congrArg Value.bool (Eq.symm (eqB_true.2 ?_)); try simp only [dat_pair, dat_int, dat_bool, dat_str, Prod.mk.injEq]; simp_all; done)
      · refine s5 ?_
        refine L_load rfl rfl (by first | exact RdC.blk mm) one9.h rfl ?_
        refine s1 ?_
        refine L_load rfl rfl (by first | exact RdC.blk mm) one9.h rfl ?_
        refine s2 ?_
        refine kp [2, 3, 24] ?_
        refine W_cond rfl (fun hc7 => ?_) (fun hc7 => ?_)
        · refine s5 ?_
          -- return 4 (R8)
          refine res1 rfl (ResOK.tmp rfl) ⟨?_, rfl⟩ ms
          clear h1 h2
          first
            | (refine congrArg Value.bool (Eq.symm (eqB_false.2 fun e => ?_)); try simp only [dat_pair, dat_int, dat_bool, dat_str, Prod.mk.injEq] at e; simp_all; done)
            | (refine congrArg Value.bool (Eq.symm (eqB_true.2 ?_)); try simp only [dat_pair, dat_int, dat_bool, dat_str, Prod.mk.injEq]; simp_all; done)
        · refine s5 ?_
          refine L_load rfl rfl (by first | exact RdC.blk mm) one9.h rfl ?_
          refine s1 ?_
          refine L_load rfl rfl (by first | exact RdC.blk mm) one9.h rfl ?_
          refine s2 ?_
          refine kp [2, 3, 29] ?_
          refine W_cond rfl (fun hc9 => ?_) (fun hc9 => ?_)
          · refine s5 ?_
            -- return 5 (R10)
            refine res1 rfl (ResOK.tmp rfl) ⟨?_, rfl⟩ ms
            clear h1 h2
            first
              | (refine congrArg Value.bool (Eq.symm (eqB_false.2 fun e => ?_)); try simp only [dat_pair, dat_int, dat_bool, dat_str, Prod.mk.injEq] at e; simp_all; done)
              | (refine congrArg Value.bool (Eq.symm (eqB_true.2 ?_)); try simp only [dat_pair, dat_int, dat_bool, dat_str, Prod.mk.injEq]; simp_all; done)
          · refine s5 ?_
            refine L_load rfl rfl (by first | exact RdC.blk mm) one9.h rfl ?_
            refine s1 ?_
            refine L_load rfl rfl (by first | exact RdC.blk mm) one9.h rfl ?_
            refine s2 ?_
            refine kp [2, 3, 34] ?_
            refine W_cond rfl (fun hc11 => ?_) (fun hc11 => ?_)
            · refine s5 ?_
              -- return 6 (R12)
              refine res1 rfl (ResOK.tmp rfl) ⟨?_, rfl⟩ ms
              clear h1 h2
              first
                | (refine congrArg Value.bool (Eq.symm (eqB_false.2 fun e => ?_)); try simp only [dat_pair, dat_int, dat_bool, dat_str, Prod.mk.injEq] at e; simp_all; done)
                | (refine congrArg Value.bool (Eq.symm (eqB_true.2 ?_)); try simp only [dat_pair, dat_int, dat_bool, dat_str, Prod.mk.injEq]; simp_all; done)
            · refine s5 ?_
              refine L_load rfl rfl (by first | exact RdC.blk mm) one3.h rfl ?_
              refine s1 ?_
              refine L_load rfl rfl (by first | exact RdC.blk mm) one3.h rfl ?_
              refine s2 ?_
              refine kp [2, 3, 39] ?_
              refine W_cond rfl (fun hc13 => ?_) (fun hc13 => ?_)
              · refine s5 ?_
                -- return 7 (R14)
                refine res1 rfl (ResOK.tmp rfl) ⟨?_, rfl⟩ ms
                clear h1 h2
                first
                  | (refine congrArg Value.bool (Eq.symm (eqB_false.2 fun e => ?_)); try simp only [dat_pair, dat_int, dat_bool, dat_str, Prod.mk.injEq] at e; simp_all; done)
                  | (refine congrArg Value.bool (Eq.symm (eqB_true.2 ?_)); try simp only [dat_pair, dat_int, dat_bool, dat_str, Prod.mk.injEq]; simp_all; done)
              · refine s5 ?_
                refine L_load rfl rfl (by first | exact RdC.blk mm) one63.h rfl ?_
                refine s1 ?_
                refine L_load rfl rfl (by first | exact RdC.blk mm) one63.h rfl ?_
                refine L_callX rfl fn134.h rfl (by exact fun w hw => eqStringS_spec w _ _ (rd_carry (h1.2.2.2.2.2.2.2) hw) (rd_carry (h2.2.2.2.2.2.2.2) hw)) ?_
                refine s2 ?_
                refine kp [45] ?_
                refine W_cond rfl (fun hc15 => ?_) (fun hc15 => ?_)
                · refine s5 ?_
                  -- return 8 (R16)
                  refine res1 rfl (ResOK.tmp rfl) ⟨?_, rfl⟩ ms
                  clear h1 h2
                  first
                    | (refine congrArg Value.bool (Eq.symm (eqB_false.2 fun e => ?_)); try simp only [dat_pair, dat_int, dat_bool, dat_str, Prod.mk.injEq] at e; simp_all; done)
                    | (refine congrArg Value.bool (Eq.symm (eqB_true.2 ?_)); try simp only [dat_pair, dat_int, dat_bool, dat_str, Prod.mk.injEq]; simp_all; done)
                · refine s6 ?_
                  -- return 9 (R17)
                  refine res1 rfl (ResOK.tmp rfl) ⟨?_, rfl⟩ ms
                  clear h1 h2
                  first
                    | (refine congrArg Value.bool (Eq.symm (eqB_false.2 fun e => ?_)); try simp only [dat_pair, dat_int, dat_bool, dat_str, Prod.mk.injEq] at e; simp_all; done)
                    | (refine congrArg Value.bool (Eq.symm (eqB_true.2 ?_)); try simp only [dat_pair, dat_int, dat_bool, dat_str, Prod.mk.injEq]; simp_all; done)
theorem szCmd_spec (w : World) (t1 : T_Cmd) (left : Int) (hl : 0 ≤ left) (hm : left ≤ 1048576) (h1 : GT.rd w [] t1) (ho : Ok.ok (GT.dat t1)) : Spec Tryz.prog 57 [.agg (GT.cells t1).toArray, .int .i64 left].toArray w [] (IsV (.int .i64 (if (Bk.bulk t1 : Int) ≤ left then left - (Bk.bulk t1 : Int) else -1))) := by
  obtain ⟨a1, a2, a3, a4, a5, a6, a7, a8⟩ := t1
  have hs3 : a4.size ≤ 9223372036854775807 := ho.2.2.2.1
  have hs4 : a5.size ≤ 9223372036854775807 := ho.2.2.2.2.1
  have hs5 : a6.size ≤ 9223372036854775807 := ho.2.2.2.2.2.1
  change Spec _ _ [Value.agg #[.int .i64 a1, .int .i64 a2, .int .i64 a3, .string a4, .string a5, .string a6, .int .i64 a7, a8.hdr], .int .i64 left].toArray w [] _
  refine Spec.intro Tryz.func57 rfl Tryz.ntmps57 rfl ?_
  refine s2 ?_
  refine bx fun bk2 => ?_
  refine s6 ?_
  refine L_load rfl rfl (by first | exact RdC.blk mm) one9.h rfl ?_
  refine s1 ?_
  refine L_binV rfl rfl rfl (bv_subR (by unfold inR; omega)) ?_
  refine s8 ?_
  refine kp [1, 2, 11] ?_
  refine W_cond rfl (fun hc2 => ?_) (fun hc2 => ?_)
  · have hb3 : left - (a4.size : Int) < 0 := by simpa using hc2
    refine s5 ?_
    -- return 1 (R3)
    refine res1 rfl (ResOK.tmp rfl) ⟨?_, rfl⟩ ms
    try simp only [bulk_pair, bulk_int, bulk_bool, bulk_str, Int.natCast_add, Int.natCast_zero] at *
    all_goals first
      | rfl
      | (rw [if_pos (by omega)] <;> (congr 1 <;> omega))
      | (rw [if_neg (by omega)])
  · have hb3 : ¬ (left - (a4.size : Int) < 0) := by simpa using hc2
    refine s5 ?_
    refine L_load rfl rfl (by first | exact RdC.blk mm) one9.h rfl ?_
    refine s1 ?_
    refine L_binV rfl rfl rfl (bv_subR (by unfold inR; omega)) ?_
    refine s8 ?_
    refine kp [1, 2, 18] ?_
    refine W_cond rfl (fun hc5 => ?_) (fun hc5 => ?_)
    · have hb4 : left - (a4.size : Int) - (a5.size : Int) < 0 := by simpa using hc5
      refine s5 ?_
      -- return 2 (R6)
      refine res1 rfl (ResOK.tmp rfl) ⟨?_, rfl⟩ ms
      try simp only [bulk_pair, bulk_int, bulk_bool, bulk_str, Int.natCast_add, Int.natCast_zero] at *
      all_goals first
        | rfl
        | (rw [if_pos (by omega)] <;> (congr 1 <;> omega))
        | (rw [if_neg (by omega)])
    · have hb4 : ¬ (left - (a4.size : Int) - (a5.size : Int) < 0) := by simpa using hc5
      refine s5 ?_
      refine L_load rfl rfl (by first | exact RdC.blk mm) one9.h rfl ?_
      refine s1 ?_
      refine L_binV rfl rfl rfl (bv_subR (by unfold inR; omega)) ?_
      refine s8 ?_
      refine kp [1, 2, 25] ?_
      refine W_cond rfl (fun hc8 => ?_) (fun hc8 => ?_)
      · have hb5 : left - (a4.size : Int) - (a5.size : Int) - (a6.size : Int) < 0 := by simpa using hc8
        refine s5 ?_
        -- return 3 (R9)
        refine res1 rfl (ResOK.tmp rfl) ⟨?_, rfl⟩ ms
        try simp only [bulk_pair, bulk_int, bulk_bool, bulk_str, Int.natCast_add, Int.natCast_zero] at *
        all_goals first
          | rfl
          | (rw [if_pos (by omega)] <;> (congr 1 <;> omega))
          | (rw [if_neg (by omega)])
      · have hb5 : ¬ (left - (a4.size : Int) - (a5.size : Int) - (a6.size : Int) < 0) := by simpa using hc8
        refine s4 ?_
        refine L_load rfl rfl (by first | exact RdC.blk mm) one63.h rfl ?_
        refine s1 ?_
        refine L_callX rfl fn108.h rfl (by exact fun w hw => szStringS_spec w _ (left - (a4.size : Int) - (a5.size : Int) - (a6.size : Int)) (by omega) (by omega) (rd_carry (h1.2.2.2.2.2.2.2) hw) ho.2.2.2.2.2.2.2) ?_
        refine s8 ?_
        refine kp [1, 31] ?_
        refine W_cond rfl (fun hc11 => ?_) (fun hc11 => ?_)
        · have hb7 : ¬ ((Bk.bulk a8 : Int) ≤ left - (a4.size : Int) - (a5.size : Int) - (a6.size : Int)) := by
            intro hn
            rw [if_pos hn] at hc11; simp at hc11; omega
          refine s5 ?_
          -- return 4 (R12)
          refine res1 rfl (ResOK.tmp rfl) ⟨?_, rfl⟩ ms
          try simp only [bulk_pair, bulk_int, bulk_bool, bulk_str, Int.natCast_add, Int.natCast_zero] at *
          all_goals first
            | rfl
            | (rw [if_pos (by omega)] <;> (congr 1 <;> omega))
            | (rw [if_neg (by omega)])
        · have hb7 : (Bk.bulk a8 : Int) ≤ left - (a4.size : Int) - (a5.size : Int) - (a6.size : Int) := by
            rcases Int.decLt (left - (a4.size : Int) - (a5.size : Int) - (a6.size : Int)) (Bk.bulk a8 : Int) with hn | hn
            · omega
            · rw [if_neg (by omega)] at hc11; simp at hc11
          rw [if_pos hb7]
          refine s7 ?_
          -- return 5 (R13)
          refine res1 rfl (ResOK.tmp rfl) ⟨?_, rfl⟩ ms
          try simp only [bulk_pair, bulk_int, bulk_bool, bulk_str, Int.natCast_add, Int.natCast_zero] at *
          all_goals first
            | rfl
            | (rw [if_pos (by omega)] <;> (congr 1 <;> omega))
            | (rw [if_neg (by omega)])
theorem toCmd_spec (w : World) (t1 : T_Cmd) (h1 : GT.rd w [] t1) (hb : Bk.bulk t1 ≤ 1048576) : Spec Tryz.prog 73 [.agg (GT.cells t1).toArray].toArray w [] (fun v M => ∃ t2 : T_Cmd, v = .agg (GT.cells t2).toArray ∧ GT.dat t2 = GT.dat t1 ∧ M = [treeH t2]) := by
  obtain ⟨a1, a2, a3, a4, a5, a6, a7, a8⟩ := t1
  have hbk_7 : Bk.bulk a8 ≤ 1048576 := by (try simp only [bulk_pair, bulk_int, bulk_bool, bulk_str] at hb ⊢); omega
  change Spec _ _ [Value.agg #[.int .i64 a1, .int .i64 a2, .int .i64 a3, .string a4, .string a5, .string a6, .int .i64 a7, a8.hdr]].toArray w [] _
  refine Spec.intro Tryz.func73 rfl Tryz.ntmps73 rfl ?_
  refine s2 ?_
  refine bx fun bk1 => ?_
  refine al fun bk2 => ?_
  refine s3 ?_
  refine al fun bk3 => ?_
  refine s4 ?_
  refine L_load rfl rfl (by first | exact RdC.blk mm) one3.h rfl ?_
  refine s6 ?_
  refine L_load rfl rfl (by first | exact RdC.blk mm) one3.h rfl ?_
  refine s6 ?_
  refine L_load rfl rfl (by first | exact RdC.blk mm) one3.h rfl ?_
  refine s6 ?_
  refine L_load rfl rfl (by first | exact RdC.blk mm) one9.h rfl ?_
  refine s6 ?_
  refine L_load rfl rfl (by first | exact RdC.blk mm) one9.h rfl ?_
  refine s6 ?_
  refine L_load rfl rfl (by first | exact RdC.blk mm) one9.h rfl ?_
  refine s6 ?_
  refine L_load rfl rfl (by first | exact RdC.blk mm) one3.h rfl ?_
  refine s6 ?_
  refine L_load rfl rfl (by first | exact RdC.blk mm) one63.h rfl ?_
  refine L_callR rfl fn117.h rfl (by exact fun w hw => toStringS_spec w _ (rd_carry (h1.2.2.2.2.2.2.2) hw) hbk_7) ?_
  rintro v M1 ⟨n8t, hv, hd7, rfl⟩
  subst hv
  simp only [List.cons_append, List.nil_append]
  refine s5 ?_
  refine L_loadW rfl rfl (by first | exact RdC.blk mm) (by exact agg72.h) ?_
  refine L_storeW rfl rfl pk (by exact agg72.h) (by rfl) (by first | (simp [Value.oneCell', TL.hdr]; done) | (simp [Value.oneCell', TL.hdr, Value.cells]; done) | exact fun v hv => GT.one _ v hv) ?_
  refine s1 ?_
  refine W_conv (M' := treeH ((a1, a2, a3, a4, a5, a6, a7, n8t) : T_Cmd) :: _) (fun w h => (tree_snd (flat_int (h1.1)) (tree_snd (flat_int (h1.2.1)) (tree_snd (flat_int (h1.2.2.1)) (tree_snd (flat_str (h1.2.2.2.1)) (tree_snd (flat_str (h1.2.2.2.2.1)) (tree_snd (flat_str (h1.2.2.2.2.2.1)) (tree_snd (flat_int (h1.2.2.2.2.2.2.1)) (frontPick pk h))))))))) ?_
  refine s1 ?_
  -- return 1 (R10)
  refine res1 rfl (ResOK.cell rfl mm (by exact agg72.h)) ⟨(a1, a2, a3, a4, a5, a6, a7, n8t), rfl, by simp only [dat_pair, hd7], rfl⟩ ms
theorem markIdS_spec (w : World) (t1 : TL T_Id) (k0 : Nat) (hk0 : 0 < k0) (hb : k0 + Mk.cnt t1 < 9223372036854775807) : Spec Tryz.prog 54 [t1.hdr, .int .i64 (k0 : Int)].toArray w [treeH t1] (fun v M => v = .int .i64 ((k0 + Mk.cnt t1 : Nat) : Int) ∧ M = [treeH (Mk.mkd k0 t1)]) := by
  obtain ⟨a1, c1, e1, x1, y1⟩ := t1
  replace hb : k0 + cnts x1 < 9223372036854775807 := hb
  dsimp only [TL.hdr]
  refine Spec.intro Tryz.func54 rfl Tryz.ntmps54 rfl ?_
  refine W_fact (fun w h => ow_facts (h.prs _ (List.mem_cons_self ..))) fun hF => ?_
  replace hF : x1.length ≤ 9223372036854775807 ∧ (0 < x1.length → ∃ g, a1 = some ⟨g, 0, none⟩) := hF
  refine s10 ?_
  refine W_conv (M' := [treeH (⟨a1, c1, e1, half k0 0 x1, y1⟩ : TL T_Id)]) (fun w h => by rw [half_zero]; exact h) ?_
  refine W_loopC (σ := Nat) 0 (fun (i : Nat) => [(1, .int .i64 ((k0 + cnts (x1.take i) : Nat) : Int)), (5, .int .i64 (i : Int))]) (fun (i : Nat) => [treeH (⟨a1, c1, e1, half k0 i x1, y1⟩ : TL T_Id)]) (fun (i : Nat) => i ≤ x1.length) (fun (i : Nat) => x1.length - i) [(0, _)] [] ?_ sb ms ?_
  · exact Nat.zero_le _
  · rintro i hi
    refine kq [0, 1, 5] ?_
    refine s5 ?_
    refine L_lenS rfl rfl el51.h ?_
    refine s2 ?_
    refine kp [0, 1, 5, 9] ?_
    refine W_cond rfl (fun hc2 => ?_) (fun hc2 => ?_)
    · have hk1 : i < x1.length := by simpa using hc2
      obtain ⟨g, rfl⟩ := hF.2 (by omega)
      obtain ⟨u, hu⟩ := getEl hk1
      have hs := cnts_take_succ hu
      have hle := cnts_take_le x1 (i + 1)
      have hlh := half_length k0 i x1
      obtain ⟨b1, b2⟩ := u
      simp only [cnt_pair, cnt_int, cnt_str] at hs
      refine s8 ?_
      refine L_indexAddr rfl rfl rfl el51.h rfl (by omega) ?_
      refine s1 ?_
      refine L_storeElF (fo := 0) (x' := (((((k0 + cnts (x1.take i)) : Nat) : Int), b2) : T_Id)) rfl rfl pk rfl (show ((half k0 i x1) : List T_Id)[i]? = some ((b1, b2) : T_Id) from half_get (k := k0) hu) rfl rfl (by decide) rfl (fun w h => by exact ⟨(by exact trivial), h.2⟩) one3.h ?_
      refine s4 ?_
      refine L_binV rfl rfl rfl (bv_addR (by unfold inR; omega)) ?_
      refine s2 ?_
      rw [show (((k0 + cnts (x1.take i)) : Nat) : Int) + 1 = ((((k0 + cnts (x1.take i)) + 1) : Nat) : Int) from rfl]
      refine s5 ?_
      refine L_indexAddr rfl rfl rfl el51.h rfl (by omega) ?_
      refine s1 ?_
      refine L_storeElF (fo := 1) (x' := (((((k0 + cnts (x1.take i)) : Nat) : Int), ((((k0 + cnts (x1.take i)) + 1) : Nat) : Int)) : T_Id)) rfl rfl pk rfl (show (((half k0 i x1).set i (((((k0 + cnts (x1.take i)) : Nat) : Int), b2) : T_Id)) : List T_Id)[i]? = some (((((k0 + cnts (x1.take i)) : Nat) : Int), b2) : T_Id) from set_get (half_get (k := k0) hu)) rfl rfl (by decide) rfl (fun w h => by exact ⟨h.1, (by exact trivial)⟩) one3.h ?_
      rw [List.set_set]
      refine s3 ?_
      refine L_binV rfl rfl rfl (bv_addR (by unfold inR; omega)) ?_
      refine s2 ?_
      rw [show ((((k0 + cnts (x1.take i)) + 1) : Nat) : Int) + 1 = ((((k0 + cnts (x1.take i)) + 2) : Nat) : Int) from rfl]
      have hfin : ((half k0 i x1).set i (((((k0 + cnts (x1.take i)) : Nat) : Int), ((((k0 + cnts (x1.take i)) + 1) : Nat) : Int)) : T_Id)) = half k0 (i + 1) x1 := by
        have h9 := half_set (k := k0) hu
        try simp only [mk_pair, mk_int, mk_str, cnt_pair, cnt_int, cnt_str, ← Nat.add_assoc] at h9
        try simp only [List.set_set]
        exact h9
      refine W_conv (M' := treeH (⟨some ⟨g, 0, none⟩, c1, e1, (half k0 (i + 1) x1), y1⟩ : TL T_Id) :: _) (fun w h => by rw [← hfin]; exact h) ?_
      have hE : ((k0 + cnts (x1.take i)) + 2) = k0 + cnts (x1.take (i + 1)) := by rw [hs]; (try simp only [cnt_pair, cnt_int, cnt_str]); omega
      rw [hE]
      refine s2 ?_
      refine L_binV rfl rfl rfl (bv_addR (by unfold inR; omega)) ?_
      refine s2 ?_
      refine ⟨i + 1, sb, ms, ?_, ?_⟩
      · show i + 1 ≤ x1.length
        omega
      · show x1.length - (i + 1) < x1.length - i
        omega
    · refine W_exit ?_
      refine s6 ?_
      -- return 1 (R8)
      have hk2 : x1.length ≤ i := by simpa using hc2
      rw [half_all k0 hk2]
      refine res1 rfl (ResOK.tmp rfl) ⟨?_, rfl⟩ ms
      have hk2 : x1.length ≤ i := by simpa using hc2
      rw [List.take_of_length_le hk2]; rfl
theorem markStringS_spec (w : World) (t1 : TL ByteArray) (k0 : Nat) (hk0 : 0 < k0) (hb : k0 + Mk.cnt t1 < 9223372036854775807) : Spec Tryz.prog 53 [t1.hdr, .int .i64 (k0 : Int)].toArray w [treeH t1] (fun v M => v = .int .i64 ((k0 + Mk.cnt t1 : Nat) : Int) ∧ M = [treeH (Mk.mkd k0 t1)]) := by
  obtain ⟨a1, c1, e1, x1, y1⟩ := t1
  replace hb : k0 + cnts x1 < 9223372036854775807 := hb
  dsimp only [TL.hdr]
  refine Spec.intro Tryz.func53 rfl Tryz.ntmps53 rfl ?_
  refine W_fact (fun w h => ow_facts (h.prs _ (List.mem_cons_self ..))) fun hF => ?_
  replace hF : x1.length ≤ 9223372036854775807 ∧ (0 < x1.length → ∃ g, a1 = some ⟨g, 0, none⟩) := hF
  refine s10 ?_
  refine W_conv (M' := [treeH (⟨a1, c1, e1, half k0 0 x1, y1⟩ : TL ByteArray)]) (fun w h => by rw [half_zero]; exact h) ?_
  refine W_loopC (σ := Nat) 0 (fun (i : Nat) => [(1, .int .i64 ((k0 + cnts (x1.take i) : Nat) : Int)), (5, .int .i64 (i : Int))]) (fun (i : Nat) => [treeH (⟨a1, c1, e1, half k0 i x1, y1⟩ : TL ByteArray)]) (fun (i : Nat) => i ≤ x1.length) (fun (i : Nat) => x1.length - i) [(0, _)] [] ?_ sb ms ?_
  · exact Nat.zero_le _
  · rintro i hi
    refine kq [0, 1, 5] ?_
    refine s5 ?_
    refine L_lenS rfl rfl el63.h ?_
    refine s2 ?_
    refine kp [0, 1, 5, 9] ?_
    refine W_cond rfl (fun hc2 => ?_) (fun hc2 => ?_)
    · have hk1 : i < x1.length := by simpa using hc2
      obtain ⟨g, rfl⟩ := hF.2 (by omega)
      obtain ⟨u, hu⟩ := getEl hk1
      have hs := cnts_take_succ hu
      have hle := cnts_take_le x1 (i + 1)
      have hlh := half_length k0 i x1
      try simp only [cnt_int, cnt_str] at hs
      refine s8 ?_
      refine L_callX rfl fn52.h rfl (by exact fun w hw => markText_spec w (k0 + cnts (x1.take i)) (by omega) (by omega)) ?_
      refine L_indexAddr rfl rfl rfl el63.h rfl (by omega) ?_
      refine L_storeElV (mtx (k0 + cnts (x1.take i))) rfl rfl pk rfl (show ((half k0 i x1) : List ByteArray)[i]? = some (u : ByteArray) from half_get (k := k0) hu) rfl (flat_str trivial) (.inr ⟨one9.h, rfl⟩) ?_
      refine s3 ?_
      refine L_binV rfl rfl rfl (bv_addR (by unfold inR; omega)) ?_
      refine s2 ?_
      rw [show (((k0 + cnts (x1.take i)) : Nat) : Int) + 1 = ((((k0 + cnts (x1.take i)) + 1) : Nat) : Int) from rfl]
      have hfin : ((half k0 i x1).set i (mtx (k0 + cnts (x1.take i)))) = half k0 (i + 1) x1 := by
        have h9 := half_set (k := k0) hu
        try simp only [mk_pair, mk_int, mk_str, cnt_pair, cnt_int, cnt_str, ← Nat.add_assoc] at h9
        try simp only [List.set_set]
        exact h9
      refine W_conv (M' := treeH (⟨some ⟨g, 0, none⟩, c1, e1, (half k0 (i + 1) x1), y1⟩ : TL ByteArray) :: _) (fun w h => by rw [← hfin]; exact h) ?_
      have hE : ((k0 + cnts (x1.take i)) + 1) = k0 + cnts (x1.take (i + 1)) := by rw [hs]; (try simp only [cnt_pair, cnt_int, cnt_str]); omega
      rw [hE]
      refine s2 ?_
      refine L_binV rfl rfl rfl (bv_addR (by unfold inR; omega)) ?_
      refine s2 ?_
      refine ⟨i + 1, sb, ms, ?_, ?_⟩
      · show i + 1 ≤ x1.length
        omega
      · show x1.length - (i + 1) < x1.length - i
        omega
    · refine W_exit ?_
      refine s6 ?_
      -- return 1 (R6)
      have hk2 : x1.length ≤ i := by simpa using hc2
      rw [half_all k0 hk2]
      refine res1 rfl (ResOK.tmp rfl) ⟨?_, rfl⟩ ms
      have hk2 : x1.length ≤ i := by simpa using hc2
      rw [List.take_of_length_le hk2]; rfl
end Go.Proofs.SL
