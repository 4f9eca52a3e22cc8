/- The law FnCut. -/
import Derived.Test.YtndhmnoehapdhaaDoorPD3
namespace Go.Proofs.SL
open Go
theorem lawFnCut (w : World) (t1 : TL UInt8) (h1 : GT.rd w [] t1) (ho1 : Ok.ok (GT.dat t1)) (hg0 : GT.rd w [] gV0) : Spec Tryd.prog 12 [t1.hdr].toArray w [] (IsV (.bool true)) := w_FnCut_walk w t1 h1 hg0 true fnCut_true
end Go.Proofs.SL
