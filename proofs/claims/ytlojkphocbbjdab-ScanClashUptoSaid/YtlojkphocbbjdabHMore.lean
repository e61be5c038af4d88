/- Small words beside the printed ones: what is written behind a row's end; clear. -/
import Derived.Test.YtlojkphocbbjdabWWords
import Derived.Test.YtlojkphocbbjdabWLast
import Derived.Test.YtlojkphocbbjdabWKept
import Derived.Test.YtlojkphocbbjdabWMore
import Derived.Test.YtlojkphocbbjdabHBase
import Derived.Lib.SliceRun
namespace Go.Proofs.YtlojkphocbbjdabW.Bas
open Go.RowKit Go.Proofs.YtlojkphocbbjdabW.PrintWords Go.Proofs.YtlojkphocbbjdabW.PrintLast Go.Proofs.YtlojkphocbbjdabW.PrintMore
set_option linter.unusedVariables false
section
variable {α : Type} {d : Kd α} {e base n m cap g : Nat} {ok : Nat → Prop} {W w0 : World} {xs ys : List α}

theorem R_has (h : d.R e W base ok (.slice (some ⟨g, 0, none⟩) n cap) xs) (o : Nat) (ho : o < cap * d.sz) : (W.cell? ⟨g, o, none⟩).isSome = true ∧ W.frozen? ⟨g, o, none⟩ = false := by
  obtain ⟨inner, hw⟩ := Kd.R_own h
  rcases hw.2 with ⟨he, h0⟩ | ⟨g', cap', cur, he, hb, hh, hnc, hcm, hcs, ht⟩
  · cases he
  · injection he with ha hn hc
    injection ha with ha
    injection ha with ha
    subst ha; subst hc
    refine ⟨?_, blk_frozen hh o⟩
    rw [blk_cell hh o]
    simp [hcs, ho]
theorem grown_setCells (W : World) (g o : Nat) (vs : List Value) : W.grownBy (W.setCells g o vs) (some g) := by
  obtain ⟨h1, h2, h3, h4⟩ := setCells_same g vs o W
  exact ⟨h1, h2, h3, Nat.le_of_eq h4.symm, fun i _ hne => setCells_far vs o i (fun e => hne (by rw [e]))⟩
end
section
variable {P : Program}
end
section
variable {α : Type} {p : α → Bool} {l cur : List α} {i j : Nat} {x : α}
end
end Go.Proofs.YtlojkphocbbjdabW.Bas
