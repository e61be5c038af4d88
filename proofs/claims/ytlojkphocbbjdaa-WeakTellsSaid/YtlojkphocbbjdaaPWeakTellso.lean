-- Printed for this claim by a program of this session (inj.py), beside the kit's print. Not trusted: Lean checks it.
import Derived.Test.YtlojkphocbbjdaaHOpen
import Derived.Test.YtlojkphocbbjdaaPWeakTellsx6
namespace Go.Proofs.Ytlojkphocbbjdaa.PWeakTells
open Go.RowKit Go.Proofs.YtlojkphocbbjdaaW Go.Proofs.YtlojkphocbbjdaaW.PrintWords Go.Proofs.YtlojkphocbbjdaaW.PrintLast Go.Proofs.YtlojkphocbbjdaaW.PrintMore
set_option linter.unusedVariables false

def wf87 (x : S87) : Prop := (x.f0.length * 24 ≤ 140737488351232 ∧ ∀ z ∈ x.f0, z.length * 8 ≤ 140737488351232 ∧ ∀ zz ∈ z, (Lit.int .i64 zz).wf = true) ∧ (x.f1.length * 8 ≤ 140737488351232 ∧ ∀ z ∈ x.f1, (Lit.int .i64 z).wf = true)
theorem op87 : Opn.Opens Try.prog 87 k87 wf87 := by
  have h1 := Opn.opensF_last (P := Try.prog) (t := 40) (off := 1) (Opn.opens_slice (B := 8) Try.underlying40 (by kernel_rfl) (by kernel_rfl) (Opn.opens_int Try.underlying3 (by kernel_rfl)))
  have h0 := Opn.opensF_cons (P := Try.prog) (t := 85) (off := 0) (off' := 1) rfl (Opn.opens_slice (B := 24) Try.underlying85 (by kernel_rfl) (by kernel_rfl) (Opn.opens_slice (B := 8) Try.underlying40 (by kernel_rfl) (by kernel_rfl) (Opn.opens_int Try.underlying3 (by kernel_rfl)))) h1
  have h := Opn.opens_struct (P := Try.prog) (t := 87) (fun x : S87 => (x.f0, x.f1)) (fun p => ⟨p.1, p.2⟩) (fun _ => rfl) Try.underlying87 rfl (by kernel_rfl) h0
  exact h
def wf100 (x : S100) : Prop := (Lit.int .i64 x.f0).wf = true ∧ (Lit.int .i64 x.f1).wf = true
theorem op100 : Opn.Opens Try.prog 100 k100 wf100 := by
  have h1 := Opn.opensF_last (P := Try.prog) (t := 3) (off := 1) (Opn.opens_int Try.underlying3 (by kernel_rfl))
  have h0 := Opn.opensF_cons (P := Try.prog) (t := 3) (off := 0) (off' := 1) rfl (Opn.opens_int Try.underlying3 (by kernel_rfl)) h1
  have h := Opn.opens_struct (P := Try.prog) (t := 100) (fun x : S100 => (x.f0, x.f1)) (fun p => ⟨p.1, p.2⟩) (fun _ => rfl) Try.underlying100 rfl (by kernel_rfl) h0
  exact h
/-- The one pure statement. -/
def backstitchlaw3_WeakTells.Pure : Prop := ∀ (x0 : S87), ∀ (x1 : List (S100)), (wf87 x0) → (x1.length * 16 ≤ 140737488351232 ∧ ∀ z ∈ x1, wf100 z) → ∃ k, backstitchlaw3_WeakTells.f k x0.f0 x0.f1 x1 = some true
end Go.Proofs.Ytlojkphocbbjdaa.PWeakTells
