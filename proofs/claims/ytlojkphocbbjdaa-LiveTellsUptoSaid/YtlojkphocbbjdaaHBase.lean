/- Small words beside the printed ones: an empty row made here. -/
import Derived.Test.YtlojkphocbbjdaaWWords
import Derived.Test.YtlojkphocbbjdaaWLast
import Derived.Test.YtlojkphocbbjdaaWMore
import Derived.Lib.SliceRun
namespace Go.Proofs.YtlojkphocbbjdaaW.Bas
open Go.RowKit Go.Proofs.YtlojkphocbbjdaaW.PrintWords Go.Proofs.YtlojkphocbbjdaaW.PrintLast
set_option linter.unusedVariables false

theorem heap_alloc_self (w : World) (o : Obj) : (w.alloc o).heap[w.heap.size]? = some o := by
  show (w.heap.push o)[w.heap.size]? = _
  simp
end Go.Proofs.YtlojkphocbbjdaaW.Bas
