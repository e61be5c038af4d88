-- Printed for this claim by a program of this session (inj.py), beside the kit's print. Not trusted: Lean checks it.
import Derived.Test.YtlojkphocbbjdaaHOpenU
import Derived.Test.YtlojkphocbbjdaaPLiveMostx7
namespace Go.Proofs.Ytlojkphocbbjdaa.PLiveMost
open Go.RowKit Go.Proofs.YtlojkphocbbjdaaW Go.Proofs.YtlojkphocbbjdaaW.PrintWords Go.Proofs.YtlojkphocbbjdaaW.PrintLast Go.Proofs.YtlojkphocbbjdaaW.PrintMore
set_option linter.unusedVariables false

def wf129 (x : S129) : Prop := (Lit.int .i64 x.f0).wf = true ∧ (Lit.int .i64 x.f1).wf = true
theorem op129 : OpnU.Opens Try.prog 129 k129 wf129 := by
  have h1 := OpnU.opensF_last (P := Try.prog) (t := 3) (off := 1) (OpnU.opens_int Try.underlying3 (by kernel_rfl))
  have h0 := OpnU.opensF_cons (P := Try.prog) (t := 3) (off := 0) (off' := 1) rfl (OpnU.opens_int Try.underlying3 (by kernel_rfl)) h1
  have h := OpnU.opens_struct (P := Try.prog) (t := 129) (fun x : S129 => (x.f0, x.f1)) (fun p => ⟨p.1, p.2⟩) (fun _ => rfl) Try.underlying129 rfl (by kernel_rfl) h0
  exact h
/-- The one pure statement. -/
def backstitchlaw3_LiveMost.Pure : Prop := ∀ (x0 : List (S129)), (x0.length ≤ 1048576 ∧ ∀ z ∈ x0, wf129 z) → ∃ k, backstitchlaw3_LiveMost.f k x0 = some true
end Go.Proofs.Ytlojkphocbbjdaa.PLiveMost
