/- The law FnBlobs. -/
import Derived.Test.YtndhmnoehapdhaaDoorPBc
namespace Go.Proofs.SL
open Go
theorem lawFnBlobs (w : World) (t1 : TL UInt8) (h1 : GT.rd w [] t1) (ho1 : Ok.ok (GT.dat t1)) (hg0 : GT.rd w [] gV0) : Spec Tryd.prog 10 [t1.hdr].toArray w [] (IsV (.bool true)) := w_FnBlobs_walk w t1 h1 hg0 true (fnBlobs_true _)
end Go.Proofs.SL
