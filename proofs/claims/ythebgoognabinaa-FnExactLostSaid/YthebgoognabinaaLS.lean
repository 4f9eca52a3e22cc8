/- Contracts of library functions at their instances. -/
import Derived.Test.YthebgoognabinaaSH
namespace Go.Proofs.SL
open Go
theorem sl_Sort_intint_walk (w : World) (a0 : TL Int) (r : List Int) (hp : sortIP (GT.dat a0) = some r) : Spec Try.prog 190 [(TL.hdr a0)].toArray w [treeH a0] (fun v M => ∃ (y0 : TL Int), v = .tuple #[] ∧ GT.dat y0 = r ∧ M = [treeH y0] ∧ y0.hdr = a0.hdr) := Spec.sortI w a0 r hp (Any.slices_Sort_int Try.lays189) (Any.slices_Sort_int_none Try.lays189)
theorem sl_Sort_stringstring_walk (w : World) (a0 : TL ByteArray) (r : List ByteArray) (hp : sortSP (GT.dat a0) = some r) : Spec Try.prog 215 [(TL.hdr a0)].toArray w [treeH a0] (fun v M => ∃ (y0 : TL ByteArray), v = .tuple #[] ∧ GT.dat y0 = r ∧ M = [treeH y0] ∧ y0.hdr = a0.hdr) := Spec.sortS w a0 r hp (Any.slices_Sort_string Try.lays190) (Any.slices_Sort_string_none Try.lays190)
theorem sl_Compact_stringstring_walk (w : World) (a0 : TL ByteArray) (r : List ByteArray) (hp : compactSP (GT.dat a0) = some r) : Spec Try.prog 216 [(TL.hdr a0)].toArray w [treeH a0] (fun v M => ∃ (x0 : TL ByteArray), v = (TL.hdr x0) ∧ GT.dat x0 = r ∧ M = [treeH x0]) := Spec.compactS w a0 r hp (Any.slices_Compact_string Try.lays194) (Any.slices_Compact_string_empty Try.lays194)
end Go.Proofs.SL
