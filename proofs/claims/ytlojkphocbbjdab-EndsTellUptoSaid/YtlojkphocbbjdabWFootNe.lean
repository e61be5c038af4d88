-- Out of the words that the print lays for this claim: those that it needs (a program of this session, dce.py).
import Derived.Test.YtlojkphocbbjdabWN
/-! ### 52. A row that stays read whatever happens to a block (a set of blocks) doesn't lie there -/
namespace Go.Proofs.YtlojkphocbbjdabW.PrintWords
open Go.RowKit
namespace Kd
section
variable {α : Type} {d : Kd α} {W : World} {g n : Nat} {S ok : Nat → Prop} {A : Option Addr} {ad : Addr} {xs : List α}
end
end Kd
end Go.Proofs.YtlojkphocbbjdabW.PrintWords
