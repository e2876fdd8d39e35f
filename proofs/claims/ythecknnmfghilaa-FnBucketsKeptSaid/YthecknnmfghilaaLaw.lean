/- Worlds one behind the other; no condition. -/
import Derived.Test.YthecknnmfghilaaPA0
namespace Go.Proofs.Ythecknnmfghilaa.PA
open Go.RowKit Go.Proofs.YthecknnmfghilaaW.PrintWords Go.Proofs.YthecknnmfghilaaW.PrintLast Go.Proofs.YthecknnmfghilaaW.PrintMore
theorem lw_then {w W w1 : World} (h : Below w.heap.size w W) (k : Below W.heap.size W w1) : Below w.heap.size w w1 := below_then h h.size k
end Go.Proofs.Ythecknnmfghilaa.PA
