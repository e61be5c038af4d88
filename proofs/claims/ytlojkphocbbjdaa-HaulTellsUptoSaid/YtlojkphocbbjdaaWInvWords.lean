-- Out of the words that the print lays for this claim: those that it needs (a program of this session, dce.py).
import Derived.Test.YtlojkphocbbjdaaWInv
import Derived.Test.YtlojkphocbbjdaaWFootNe
namespace Go.Proofs.YtlojkphocbbjdaaW.PrintWords
open Go.RowKit
end Go.Proofs.YtlojkphocbbjdaaW.PrintWords
namespace Go.Proofs.YtlojkphocbbjdaaW.PrintLast
section
variable {ops : Array Oper} {a : Act} {o og : Oper} {g : Nat} {t : Tmp} {u : Bool}
end
end Go.Proofs.YtlojkphocbbjdaaW.PrintLast
