-- Printed for this claim by a program of this session (inj.py), beside the kit's print. Not trusted: Lean checks it.
import Derived.Test.YtlojkphocbbjdaaHOpen
import Derived.Test.YtlojkphocbbjdaaPNanboxTellsx4
namespace Go.Proofs.Ytlojkphocbbjdaa.PNanboxTells
open Go.RowKit Go.Proofs.YtlojkphocbbjdaaW Go.Proofs.YtlojkphocbbjdaaW.PrintWords Go.Proofs.YtlojkphocbbjdaaW.PrintLast Go.Proofs.YtlojkphocbbjdaaW.PrintMore
set_option linter.unusedVariables false

def wf23 (x : S23) : Prop := (Lit.int .i64 x.f0).wf = true ∧ (Lit.int .i64 x.f1).wf = true
theorem op23 : Opn.Opens Try.prog 23 k23 wf23 := by
  have h1 := Opn.opensF_last (P := Try.prog) (t := 3) (off := 1) (Opn.opens_int Try.underlying3 (by kernel_rfl))
  have h0 := Opn.opensF_cons (P := Try.prog) (t := 3) (off := 0) (off' := 1) rfl (Opn.opens_int Try.underlying3 (by kernel_rfl)) h1
  have h := Opn.opens_struct (P := Try.prog) (t := 23) (fun x : S23 => (x.f0, x.f1)) (fun p => ⟨p.1, p.2⟩) (fun _ => rfl) Try.underlying23 rfl (by kernel_rfl) h0
  exact h
/-- The one pure statement. -/
def backstitchlaw3_NanboxTells.Pure : Prop := ∀ (x0 : S23), ∀ (x1 : Int), (wf23 x0) → ((Lit.int .u64 x1).wf = true) → ∃ k, backstitchlaw3_NanboxTells.f k x0.f0 x0.f1 x1 = some true
end Go.Proofs.Ytlojkphocbbjdaa.PNanboxTells
