/- Small words beside the printed ones: an empty row made here. -/
import Derived.Test.YtlojkphocbbjdabWWords
import Derived.Test.YtlojkphocbbjdabWLast
import Derived.Test.YtlojkphocbbjdabWMore
import Derived.Lib.SliceRun
namespace Go.Proofs.YtlojkphocbbjdabW.Bas
open Go.RowKit Go.Proofs.YtlojkphocbbjdabW.PrintWords Go.Proofs.YtlojkphocbbjdabW.PrintLast
set_option linter.unusedVariables false

theorem heap_alloc_self (w : World) (o : Obj) : (w.alloc o).heap[w.heap.size]? = some o := by
  show (w.heap.push o)[w.heap.size]? = _
  simp
end Go.Proofs.YtlojkphocbbjdabW.Bas
