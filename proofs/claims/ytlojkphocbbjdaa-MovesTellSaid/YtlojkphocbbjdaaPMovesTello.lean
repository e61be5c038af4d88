-- Printed for this claim by a program of this session (inj.py), beside the kit's print. Not trusted: Lean checks it.
import Derived.Test.YtlojkphocbbjdaaHOpen
import Derived.Test.YtlojkphocbbjdaaPMovesTellx5
namespace Go.Proofs.Ytlojkphocbbjdaa.PMovesTell
open Go.RowKit Go.Proofs.YtlojkphocbbjdaaW Go.Proofs.YtlojkphocbbjdaaW.PrintWords Go.Proofs.YtlojkphocbbjdaaW.PrintLast Go.Proofs.YtlojkphocbbjdaaW.PrintMore
set_option linter.unusedVariables false

def wf71 (x : S71) : Prop := (Lit.int .i64 x.f0).wf = true ∧ (Lit.int .i64 x.f1).wf = true
theorem op71 : Opn.Opens Try.prog 71 k71 wf71 := by
  have h1 := Opn.opensF_last (P := Try.prog) (t := 3) (off := 1) (Opn.opens_int Try.underlying3 (by kernel_rfl))
  have h0 := Opn.opensF_cons (P := Try.prog) (t := 3) (off := 0) (off' := 1) rfl (Opn.opens_int Try.underlying3 (by kernel_rfl)) h1
  have h := Opn.opens_struct (P := Try.prog) (t := 71) (fun x : S71 => (x.f0, x.f1)) (fun p => ⟨p.1, p.2⟩) (fun _ => rfl) Try.underlying71 rfl (by kernel_rfl) h0
  exact h
/-- The one pure statement. -/
def backstitchlaw3_MovesTell.Pure : Prop := ∀ (x0 : List (S71)), ∀ (x1 : Int), (x0.length * 16 ≤ 140737488351232 ∧ ∀ z ∈ x0, wf71 z) → ((Lit.int .i64 x1).wf = true) → ∃ k, backstitchlaw3_MovesTell.f k x0 x1 = some true
end Go.Proofs.Ytlojkphocbbjdaa.PMovesTell
