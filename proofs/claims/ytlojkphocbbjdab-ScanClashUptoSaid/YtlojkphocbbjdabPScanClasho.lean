-- Printed for this claim by a program of this session (inj.py), beside the kit's print. Not trusted: Lean checks it.
import Derived.Test.YtlojkphocbbjdabHOpenU
import Derived.Test.YtlojkphocbbjdabPScanClashx7
namespace Go.Proofs.Ytlojkphocbbjdab.PScanClash
open Go.RowKit Go.Proofs.YtlojkphocbbjdabW Go.Proofs.YtlojkphocbbjdabW.PrintWords Go.Proofs.YtlojkphocbbjdabW.PrintLast Go.Proofs.YtlojkphocbbjdabW.PrintMore
set_option linter.unusedVariables false

def wf60 (x : S60) : Prop := (Lit.int .i64 x.f0).wf = true ∧ (Lit.int .i64 x.f1).wf = true
theorem op60 : OpnU.Opens Try.prog 60 k60 wf60 := by
  have h1 := OpnU.opensF_last (P := Try.prog) (t := 3) (off := 1) (OpnU.opens_int Try.underlying3 (by kernel_rfl))
  have h0 := OpnU.opensF_cons (P := Try.prog) (t := 3) (off := 0) (off' := 1) rfl (OpnU.opens_int Try.underlying3 (by kernel_rfl)) h1
  have h := OpnU.opens_struct (P := Try.prog) (t := 60) (fun x : S60 => (x.f0, x.f1)) (fun p => ⟨p.1, p.2⟩) (fun _ => rfl) Try.underlying60 rfl (by kernel_rfl) h0
  exact h
def wf54 (x : S54) : Prop := (Lit.int .i64 x.f0).wf = true ∧ (Lit.int .i64 x.f1).wf = true
theorem op54 : OpnU.Opens Try.prog 54 k54 wf54 := by
  have h1 := OpnU.opensF_last (P := Try.prog) (t := 3) (off := 1) (OpnU.opens_int Try.underlying3 (by kernel_rfl))
  have h0 := OpnU.opensF_cons (P := Try.prog) (t := 3) (off := 0) (off' := 1) rfl (OpnU.opens_int Try.underlying3 (by kernel_rfl)) h1
  have h := OpnU.opens_struct (P := Try.prog) (t := 54) (fun x : S54 => (x.f0, x.f1)) (fun p => ⟨p.1, p.2⟩) (fun _ => rfl) Try.underlying54 rfl (by kernel_rfl) h0
  exact h
/-- The one pure statement. -/
def backstitchlaw3_ScanClash.Pure : Prop := ∀ (x0 : List (S60)), ∀ (x1 : List (S54)), (x0.length ≤ 1048576 ∧ ∀ z ∈ x0, wf60 z) → (x1.length ≤ 1048576 ∧ ∀ z ∈ x1, wf54 z) → ∃ k, backstitchlaw3_ScanClash.f k x0 x1 = some true
end Go.Proofs.Ytlojkphocbbjdab.PScanClash
