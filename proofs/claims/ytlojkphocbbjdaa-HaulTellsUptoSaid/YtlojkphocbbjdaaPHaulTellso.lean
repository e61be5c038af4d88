-- Printed for this claim by a program of this session (inj.py), beside the kit's print. Not trusted: Lean checks it.
import Derived.Test.YtlojkphocbbjdaaHOpenU
import Derived.Test.YtlojkphocbbjdaaPHaulTellsx8
namespace Go.Proofs.Ytlojkphocbbjdaa.PHaulTells
open Go.RowKit Go.Proofs.YtlojkphocbbjdaaW Go.Proofs.YtlojkphocbbjdaaW.PrintWords Go.Proofs.YtlojkphocbbjdaaW.PrintLast Go.Proofs.YtlojkphocbbjdaaW.PrintMore
set_option linter.unusedVariables false

def wf106 (x : S106) : Prop := (x.f0.length ≤ 1048576 ∧ ∀ z ∈ x.f0, (Lit.int .u64 z).wf = true) ∧ (x.f1.length ≤ 1048576 ∧ ∀ z ∈ x.f1, (Lit.int .u64 z).wf = true)
theorem op106 : OpnU.Opens Try.prog 106 k106 wf106 := by
  have h1 := OpnU.opensF_last (P := Try.prog) (t := 74) (off := 1) (OpnU.opens_slice Try.underlying74 (by kernel_rfl) (OpnU.opens_int Try.underlying46 (by kernel_rfl)))
  have h0 := OpnU.opensF_cons (P := Try.prog) (t := 74) (off := 0) (off' := 1) rfl (OpnU.opens_slice Try.underlying74 (by kernel_rfl) (OpnU.opens_int Try.underlying46 (by kernel_rfl))) h1
  have h := OpnU.opens_struct (P := Try.prog) (t := 106) (fun x : S106 => (x.f0, x.f1)) (fun p => ⟨p.1, p.2⟩) (fun _ => rfl) Try.underlying106 rfl (by kernel_rfl) h0
  exact h
/-- The one pure statement. -/
def backstitchlaw3_HaulTells.Pure : Prop := ∀ (x0 : S106), (wf106 x0) → ∃ k, backstitchlaw3_HaulTells.f k x0.f0 x0.f1 = some true
end Go.Proofs.Ytlojkphocbbjdaa.PHaulTells
