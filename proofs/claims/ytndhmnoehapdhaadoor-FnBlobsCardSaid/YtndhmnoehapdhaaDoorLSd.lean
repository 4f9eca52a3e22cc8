/- The order of chunks by their names, and their sort on data. -/
import Derived.Test.YtndhmnoehapdhaaDoorB3
import Derived.Test.YtndhmnoehapdhaaDoorPO
namespace Go.Proofs.SL
open Go
def cfB (x y : ByteArray × ByteArray × Bool) : Int := if sLt x.1 y.1 then -1 else if (!sLt x.1 y.1 && !decide (x.1 = y.1)) then 1 else 0
noncomputable def sortBlobs (l : List (ByteArray × ByteArray × Bool)) : Option (List (ByteArray × ByteArray × Bool)) := sortFP (τ := ByteArray × ByteArray × Bool) (Go.Proofs.ltOf cfB) l
theorem ltB_eq (x y : (ByteArray × ByteArray × Bool)) : Go.Proofs.ltOf cfB x y = sLt x.1 y.1 := by
  unfold Go.Proofs.ltOf cfB
  cases h : sLt x.1 y.1 with
  | true => rfl
  | false =>
    simp only [Bool.false_eq_true, if_false, Bool.not_false, Bool.true_and]
    split <;> rfl
theorem swoB : Sort.SWO (Go.Proofs.ltOf cfB) where
  irrefl x := by rw [ltB_eq]; exact sLt_irrefl _
  trans x y z h1 h2 := by rw [ltB_eq] at *; exact sLt_trans h1 h2
  ntrans x y z h1 h2 := by
    rw [ltB_eq] at *
    cases h : sLt x.1 z.1 with
    | false => rfl
    | true =>
      cases h3 : sLt y.1 x.1 with
      | true => rw [sLt_trans h3 h] at h2; cases h2
      | false =>
        have e := sLt_tri h1 h3
        rw [← e, h] at h2; cases h2
end Go.Proofs.SL
