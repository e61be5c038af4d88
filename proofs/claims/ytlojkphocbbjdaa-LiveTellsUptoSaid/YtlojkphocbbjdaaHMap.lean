/- Maps of a call's own in the separating state: a map from numbers to numbers, and a set of numbers, told by functions. -/
import Derived.Maps.OwnSet
import Derived.Maps.OwnOps
import Derived.Test.YtlojkphocbbjdaaHSep
namespace Go.Proofs.YtlojkphocbbjdaaW.Mapw
open Go.RowKit Go.Maps Go.Proofs.YtlojkphocbbjdaaW.PrintWords Go.Proofs.YtlojkphocbbjdaaW.PrintLast Go.Proofs.YtlojkphocbbjdaaW.PrintMore Go.Proofs.YtlojkphocbbjdaaW.Sep
set_option linter.unusedVariables false
abbrev DU := DataW Unit
theorem own_lt {w : World} {P : Program} {k : TypeId} {R : Value → Option (DU × List MemPlace)} {b n : Nat} {D : DU} (h : w.ownsMap P k R b n D) : b < w.heap.size := by
  obtain ⟨es, c, hb, _⟩ := h
  exact blk_lt hb
end Go.Proofs.YtlojkphocbbjdaaW.Mapw
namespace Go.Proofs.YtlojkphocbbjdaaW.Sep
open Go.RowKit Go.Maps Go.Proofs.YtlojkphocbbjdaaW.PrintWords Go.Proofs.YtlojkphocbbjdaaW.PrintLast Go.Proofs.YtlojkphocbbjdaaW.PrintMore Go.Proofs.YtlojkphocbbjdaaW.Mapw
section
variable {w0 w w' : World} {L : List Asn} {P : Program} {k e : TypeId} {b n : Nat} {f : Int → Option Int} {s : Int → Bool}
end
end Go.Proofs.YtlojkphocbbjdaaW.Sep
