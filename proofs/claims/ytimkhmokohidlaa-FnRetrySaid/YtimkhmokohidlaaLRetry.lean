/- The law FnRetry. -/
import Derived.Test.YtimkhmokohidlaaPRt2
namespace Go.Proofs.SL
open Go
theorem lawFnRetry (w : World) (t1 : TL UInt8) (h1 : GT.rd w [] t1) (ho1 : Ok.ok (GT.dat t1)) : Spec Try.prog 6 [t1.hdr].toArray w [] (IsV (.bool true)) := w_FnRetry_walk w t1 h1 true (fnRetry_true _)
end Go.Proofs.SL
