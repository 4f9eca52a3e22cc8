/- The law FnFrames. -/
import Derived.Test.YtimkhmokohidlaaPFf
namespace Go.Proofs.SL
open Go
theorem lawFnFrames (w : World) (t1 : TL UInt8) (h1 : GT.rd w [] t1) (ho1 : Ok.ok (GT.dat t1)) : Spec Try.prog 3 [t1.hdr].toArray w [] (IsV (.bool true)) := w_FnFrames_walk w t1 h1 true (fnFrames_true _)
end Go.Proofs.SL
