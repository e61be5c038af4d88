/- Small words for the pure statements: rounds, lists by index. -/
import Derived.Test.YtlojkphocbbjdabWWords
import Derived.Test.YtlojkphocbbjdabWMore
namespace Go.Proofs.YtlojkphocbbjdabW.Pur
open Go.RowKit Go.Proofs.YtlojkphocbbjdabW.PrintWords
set_option linter.unusedVariables false

end Go.Proofs.YtlojkphocbbjdabW.Pur
