-- Out of the words that the print lays for this claim: those that it needs (a program of this session, dce.py).
import Derived.Test.YtlojkphocbbjdabWTab
/-! ### 56. Four, five, six operations that may come up next, in any order -/
namespace Go.Proofs.YtlojkphocbbjdabW.PrintLast
section
variable {P : Program} {ops : Array Oper} {Q : Exit → Act → World → Prop} {md : Region.Mode} {S : World → Prop} {ds : List Nat} {T : Bool × List (List Nat × List Nat)}
end
end Go.Proofs.YtlojkphocbbjdabW.PrintLast
