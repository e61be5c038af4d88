/- Small words beside the printed ones: what is written behind a row's end; clear. -/
import Derived.Test.YtlojkphocbbjdaaWWords
import Derived.Test.YtlojkphocbbjdaaWLast
import Derived.Test.YtlojkphocbbjdaaWKept
import Derived.Test.YtlojkphocbbjdaaWMore
import Derived.Test.YtlojkphocbbjdaaHBase
import Derived.Lib.SliceRun
namespace Go.Proofs.YtlojkphocbbjdaaW.Bas
open Go.RowKit Go.Proofs.YtlojkphocbbjdaaW.PrintWords Go.Proofs.YtlojkphocbbjdaaW.PrintLast Go.Proofs.YtlojkphocbbjdaaW.PrintMore
set_option linter.unusedVariables false
section
variable {α : Type} {d : Kd α} {e base n m cap g : Nat} {ok : Nat → Prop} {W w0 : World} {xs ys : List α}

end
section
variable {P : Program}
end
section
variable {α : Type} {p : α → Bool} {l cur : List α} {i j : Nat} {x : α}
end
end Go.Proofs.YtlojkphocbbjdaaW.Bas
