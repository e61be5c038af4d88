/- Maps of a call's own in the separating state: a map from numbers to numbers, and a set of numbers, told by functions. -/
import Derived.Maps.OwnSet
import Derived.Maps.OwnOps
import Derived.Test.YtlojkphocbbjdabHSep
namespace Go.Proofs.YtlojkphocbbjdabW.Mapw
open Go.RowKit Go.Maps Go.Proofs.YtlojkphocbbjdabW.PrintWords Go.Proofs.YtlojkphocbbjdabW.PrintLast Go.Proofs.YtlojkphocbbjdabW.PrintMore Go.Proofs.YtlojkphocbbjdabW.Sep
set_option linter.unusedVariables false
abbrev DU := DataW Unit
theorem own_lt {w : World} {P : Program} {k : TypeId} {R : Value → Option (DU × List MemPlace)} {b n : Nat} {D : DU} (h : w.ownsMap P k R b n D) : b < w.heap.size := by
  obtain ⟨es, c, hb, _⟩ := h
  exact blk_lt hb
end Go.Proofs.YtlojkphocbbjdabW.Mapw
namespace Go.Proofs.YtlojkphocbbjdabW.Sep
open Go.RowKit Go.Maps Go.Proofs.YtlojkphocbbjdabW.PrintWords Go.Proofs.YtlojkphocbbjdabW.PrintLast Go.Proofs.YtlojkphocbbjdabW.PrintMore Go.Proofs.YtlojkphocbbjdabW.Mapw
section
variable {w0 w w' : World} {L : List Asn} {P : Program} {k e : TypeId} {b n : Nat} {f : Int → Option Int} {s : Int → Bool}
end
end Go.Proofs.YtlojkphocbbjdabW.Sep
