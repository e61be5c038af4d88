-- Printed for this claim by a program of this session (inj.py), beside the kit's print. Not trusted: Lean checks it.
import Derived.Test.YtlojkphocbbjdabHOpenU
import Derived.Test.YtlojkphocbbjdabPEndsTellx7
namespace Go.Proofs.Ytlojkphocbbjdab.PEndsTell
open Go.RowKit Go.Proofs.YtlojkphocbbjdabW Go.Proofs.YtlojkphocbbjdabW.PrintWords Go.Proofs.YtlojkphocbbjdabW.PrintLast Go.Proofs.YtlojkphocbbjdabW.PrintMore
set_option linter.unusedVariables false

def wf41 (x : S41) : Prop := (x.f0.length ≤ 1048576 ∧ ∀ z ∈ x.f0, z.length ≤ 1048576 ∧ ∀ zz ∈ z, (Lit.int .i64 zz).wf = true) ∧ (x.f1.length ≤ 1048576 ∧ ∀ z ∈ x.f1, (Lit.int .i64 z).wf = true)
theorem op41 : OpnU.Opens Try.prog 41 k41 wf41 := by
  have h1 := OpnU.opensF_last (P := Try.prog) (t := 36) (off := 1) (OpnU.opens_slice Try.underlying36 (by kernel_rfl) (OpnU.opens_int Try.underlying3 (by kernel_rfl)))
  have h0 := OpnU.opensF_cons (P := Try.prog) (t := 39) (off := 0) (off' := 1) rfl (OpnU.opens_slice Try.underlying39 (by kernel_rfl) (OpnU.opens_slice Try.underlying36 (by kernel_rfl) (OpnU.opens_int Try.underlying3 (by kernel_rfl)))) h1
  have h := OpnU.opens_struct (P := Try.prog) (t := 41) (fun x : S41 => (x.f0, x.f1)) (fun p => ⟨p.1, p.2⟩) (fun _ => rfl) Try.underlying41 rfl (by kernel_rfl) h0
  exact h
/-- The one pure statement. -/
def backstitchlaw3_EndsTell.Pure : Prop := ∀ (x0 : S41), ∀ (x1 : List Int), (wf41 x0) → (x1.length ≤ 1048576 ∧ ∀ z ∈ x1, (Lit.int .i64 z).wf = true) → ∃ k, backstitchlaw3_EndsTell.f k x0.f0 x0.f1 x1 = some true
end Go.Proofs.Ytlojkphocbbjdab.PEndsTell
