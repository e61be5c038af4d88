/- Small words beside the printed ones: an empty row made here. -/
import Derived.Test.YtlojkphocbbjdabWWords
import Derived.Test.YtlojkphocbbjdabWLast
import Derived.Test.YtlojkphocbbjdabWMore
import Derived.Lib.SliceRun
namespace Go.Proofs.YtlojkphocbbjdabW.Bas
open Go.RowKit Go.Proofs.YtlojkphocbbjdabW.PrintWords Go.Proofs.YtlojkphocbbjdabW.PrintLast
set_option linter.unusedVariables false

theorem heap_alloc_self (w : World) (o : Obj) : (w.alloc o).heap[w.heap.size]? = some o := by
  show (w.heap.push o)[w.heap.size]? = _
  simp
theorem R_empty {α : Type} (d : Kd α) (e : Nat) (w : World) (ok : Nat → Prop) (hok : ok w.heap.size) : d.R e (w.alloc (.cells #[] e)) w.heap.size ok (.slice (some ⟨w.heap.size, 0, none⟩) 0 0) [] := by
  refine ⟨fun k hk => ?_, [], ⟨by simp, .inr ⟨w.heap.size, 0, #[], rfl, Nat.le_refl _, heap_alloc_self _ _, Nat.le_refl _, by simp [maxLen], by simp, by simp⟩⟩, Reps.none _ _⟩
  simp [Value.ownBlock] at hk
  subst hk
  exact hok
theorem nil_of_none {α : Type} {d : Kd α} {w : World} {n : Nat} {xs : List α} (h : d.C w none n xs) : xs = [] ∧ n = 0 := by
  rcases Nat.eq_zero_or_pos n with h0 | h0
  · exact ⟨List.eq_nil_of_length_eq_zero (h.1.trans h0), h0⟩
  · obtain ⟨ad, e, _⟩ := h.2.2 h0
    cases e
end Go.Proofs.YtlojkphocbbjdabW.Bas
