-- Out of the words that the print lays for this claim: those that it needs (a program of this session, dce.py).
import Derived.Test.YtlojkphocbbjdabWWords
import Derived.Laws.StructEq
/-! ### 53. '==' of structs as_ one Bool -/
namespace Go.Proofs.YtlojkphocbbjdabW.PrintWords
open Go.RowKit
section
variable {P : Program} {d : Nat} {xs ys : Array Value} {f : Field} {fs : List Field} {a b : Value} {r s : Bool} {w : World}
end
end Go.Proofs.YtlojkphocbbjdabW.PrintWords
