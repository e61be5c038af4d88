/- Small words beside the printed ones: an empty row made here. -/
import Derived.Test.YtlojkphocbbjdaaWWords
import Derived.Test.YtlojkphocbbjdaaWLast
import Derived.Test.YtlojkphocbbjdaaWMore
import Derived.Lib.SliceRun
namespace Go.Proofs.YtlojkphocbbjdaaW.Bas
open Go.RowKit Go.Proofs.YtlojkphocbbjdaaW.PrintWords Go.Proofs.YtlojkphocbbjdaaW.PrintLast
set_option linter.unusedVariables false

end Go.Proofs.YtlojkphocbbjdaaW.Bas
