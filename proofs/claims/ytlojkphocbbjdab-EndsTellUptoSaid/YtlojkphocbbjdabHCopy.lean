/- copy, at elements of any width; rows of flat elements written over. -/
import Derived.Test.YtlojkphocbbjdabHSep
import Derived.Laws.CopyRow
namespace Go.Proofs.YtlojkphocbbjdabW.Cpy
open Go.RowKit Go.Proofs.YtlojkphocbbjdabW.PrintWords Go.Proofs.YtlojkphocbbjdabW.PrintLast Go.Proofs.YtlojkphocbbjdabW.PrintMore Go.Proofs.YtlojkphocbbjdabW.Sep
set_option linter.unusedVariables false
set_option linter.unusedSimpArgs false
section
variable {P : Program}
end
section
variable {P : Program} {ops : Array Oper} {rest : List Oper} {o : Oper} {a : Act} {Q : Exit → Act → World → Prop}
end
section
variable {α : Type} {d : Kd α} {e base n cap g : Nat} {ok : Nat → Prop} {W w0 : World} {xs ys : List α}
end
/-! a row filled with one element, piece by piece (slices.Repeat) -/
section
variable {α : Type} {d : Kd α} {e base N cp g : Nat} {ok : Nat → Prop} {W w0 : World} {x z : α} {P : Program}
end
end Go.Proofs.YtlojkphocbbjdabW.Cpy
