-- Out of the words that the print lays for this claim: those that it needs (a program of this session, dce.py).
import Derived.Test.YtlojkphocbbjdabWInv
import Derived.Test.YtlojkphocbbjdabWFootNe
namespace Go.Proofs.YtlojkphocbbjdabW.PrintWords
open Go.RowKit
end Go.Proofs.YtlojkphocbbjdabW.PrintWords
namespace Go.Proofs.YtlojkphocbbjdabW.PrintLast
section
variable {ops : Array Oper} {a : Act} {o og : Oper} {g : Nat} {t : Tmp} {u : Bool}
end
end Go.Proofs.YtlojkphocbbjdabW.PrintLast
