/- A drawn region that ends with writes: the numbers ds behind which nothing is shown any more (beside HReg's steps). -/
import Derived.Test.YtlojkphocbbjdabHReg
namespace Go.Proofs.YtlojkphocbbjdabW.Reg
open Go.Proofs.YtlojkphocbbjdabW.PrintWords Go.Proofs.YtlojkphocbbjdabW.PrintLast
section
variable {P : Program} {md : Region.Mode} {ops : Array Oper} {Q : Exit → Act → World → Prop} {S : World → Prop} {ds : List Nat} {T : Bool × List (List Nat × List Nat)} {B : List Nat} {fuel : Nat} {l : Array Bool} {oi : Oper} {v : Value} {a a' : Act} {w : World}
end
end Go.Proofs.YtlojkphocbbjdabW.Reg
