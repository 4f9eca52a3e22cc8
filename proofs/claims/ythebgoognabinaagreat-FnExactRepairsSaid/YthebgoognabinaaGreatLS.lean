/- Contracts of library functions at their instances. -/
import Derived.Test.YthebgoognabinaaGreatSH
namespace Go.Proofs.SL
open Go
theorem sl_Sort_stringstring_walk (w : World) (a0 : TL ByteArray) (r : List ByteArray) (hp : sortSP (GT.dat a0) = some r) : Spec Tryz.prog 55 [(TL.hdr a0)].toArray w [treeH a0] (fun v M => ∃ (y0 : TL ByteArray), v = .tuple #[] ∧ GT.dat y0 = r ∧ M = [treeH y0] ∧ y0.hdr = a0.hdr) := Spec.sortS w a0 r hp (Any.slices_Sort_string Tryz.lays190) (Any.slices_Sort_string_none Tryz.lays190)
theorem sl_Compact_stringstring_walk (w : World) (a0 : TL ByteArray) (r : List ByteArray) (hp : compactSP (GT.dat a0) = some r) : Spec Tryz.prog 56 [(TL.hdr a0)].toArray w [treeH a0] (fun v M => ∃ (x0 : TL ByteArray), v = (TL.hdr x0) ∧ GT.dat x0 = r ∧ M = [treeH x0]) := Spec.compactS w a0 r hp (Any.slices_Compact_string Tryz.lays194) (Any.slices_Compact_string_empty Tryz.lays194)
end Go.Proofs.SL
