-- Printed for this claim by a program of this session (inj.py), beside the kit's print. Not trusted: Lean checks it.
import Derived.Test.YtlojkphocbbjdaaHOpenU
import Derived.Test.YtlojkphocbbjdaaPLiveTellsx10
namespace Go.Proofs.Ytlojkphocbbjdaa.PLiveTells
open Go.RowKit Go.Proofs.YtlojkphocbbjdaaW Go.Proofs.YtlojkphocbbjdaaW.PrintWords Go.Proofs.YtlojkphocbbjdaaW.PrintLast Go.Proofs.YtlojkphocbbjdaaW.PrintMore
set_option linter.unusedVariables false

def wf23 (x : S23) : Prop := (Lit.int .i64 x.f0).wf = true ∧ (Lit.int .i64 x.f1).wf = true
theorem op23 : OpnU.Opens Try.prog 23 k23 wf23 := by
  have h1 := OpnU.opensF_last (P := Try.prog) (t := 3) (off := 1) (OpnU.opens_int Try.underlying3 (by kernel_rfl))
  have h0 := OpnU.opensF_cons (P := Try.prog) (t := 3) (off := 0) (off' := 1) rfl (OpnU.opens_int Try.underlying3 (by kernel_rfl)) h1
  have h := OpnU.opens_struct (P := Try.prog) (t := 23) (fun x : S23 => (x.f0, x.f1)) (fun p => ⟨p.1, p.2⟩) (fun _ => rfl) Try.underlying23 rfl (by kernel_rfl) h0
  exact h
def wf181 (x : S181) : Prop := (Lit.int .i64 x.f0).wf = true ∧ (Lit.int .i64 x.f1).wf = true ∧ (Lit.int .i64 x.f2).wf = true ∧ (Lit.int .i64 x.f3).wf = true ∧ (Lit.int .i64 x.f4).wf = true ∧ (Lit.int .i64 x.f5).wf = true ∧ wf23 x.f6
theorem op181 : OpnU.Opens Try.prog 181 k181 wf181 := by
  have h6 := OpnU.opensF_last (P := Try.prog) (t := 23) (off := 6) op23
  have h5 := OpnU.opensF_cons (P := Try.prog) (t := 3) (off := 5) (off' := 6) rfl (OpnU.opens_int Try.underlying3 (by kernel_rfl)) h6
  have h4 := OpnU.opensF_cons (P := Try.prog) (t := 3) (off := 4) (off' := 5) rfl (OpnU.opens_int Try.underlying3 (by kernel_rfl)) h5
  have h3 := OpnU.opensF_cons (P := Try.prog) (t := 3) (off := 3) (off' := 4) rfl (OpnU.opens_int Try.underlying3 (by kernel_rfl)) h4
  have h2 := OpnU.opensF_cons (P := Try.prog) (t := 3) (off := 2) (off' := 3) rfl (OpnU.opens_int Try.underlying3 (by kernel_rfl)) h3
  have h1 := OpnU.opensF_cons (P := Try.prog) (t := 3) (off := 1) (off' := 2) rfl (OpnU.opens_int Try.underlying3 (by kernel_rfl)) h2
  have h0 := OpnU.opensF_cons (P := Try.prog) (t := 3) (off := 0) (off' := 1) rfl (OpnU.opens_int Try.underlying3 (by kernel_rfl)) h1
  have h := OpnU.opens_struct (P := Try.prog) (t := 181) (fun x : S181 => (x.f0, x.f1, x.f2, x.f3, x.f4, x.f5, x.f6)) (fun p => ⟨p.1, p.2.1, p.2.2.1, p.2.2.2.1, p.2.2.2.2.1, p.2.2.2.2.2.1, p.2.2.2.2.2.2⟩) (fun _ => rfl) Try.underlying181 rfl (by kernel_rfl) h0
  exact h
def wf38 (x : S38) : Prop := (Lit.int .i64 x.f0).wf = true ∧ (Lit.int .i64 x.f1).wf = true
theorem op38 : OpnU.Opens Try.prog 38 k38 wf38 := by
  have h1 := OpnU.opensF_last (P := Try.prog) (t := 3) (off := 1) (OpnU.opens_int Try.underlying3 (by kernel_rfl))
  have h0 := OpnU.opensF_cons (P := Try.prog) (t := 3) (off := 0) (off' := 1) rfl (OpnU.opens_int Try.underlying3 (by kernel_rfl)) h1
  have h := OpnU.opens_struct (P := Try.prog) (t := 38) (fun x : S38 => (x.f0, x.f1)) (fun p => ⟨p.1, p.2⟩) (fun _ => rfl) Try.underlying38 rfl (by kernel_rfl) h0
  exact h
def wf63 (x : S63) : Prop := (Lit.int .i64 x.f0).wf = true ∧ (Lit.int .i64 x.f1).wf = true ∧ (Lit.int .i64 x.f2).wf = true ∧ (x.f3.length ≤ 1048576 ∧ ∀ z ∈ x.f3, (Lit.int .i64 z).wf = true)
theorem op63 : OpnU.Opens Try.prog 63 k63 wf63 := by
  have h3 := OpnU.opensF_last (P := Try.prog) (t := 40) (off := 3) (OpnU.opens_slice Try.underlying40 (by kernel_rfl) (OpnU.opens_int Try.underlying3 (by kernel_rfl)))
  have h2 := OpnU.opensF_cons (P := Try.prog) (t := 3) (off := 2) (off' := 3) rfl (OpnU.opens_int Try.underlying3 (by kernel_rfl)) h3
  have h1 := OpnU.opensF_cons (P := Try.prog) (t := 3) (off := 1) (off' := 2) rfl (OpnU.opens_int Try.underlying3 (by kernel_rfl)) h2
  have h0 := OpnU.opensF_cons (P := Try.prog) (t := 3) (off := 0) (off' := 1) rfl (OpnU.opens_int Try.underlying3 (by kernel_rfl)) h1
  have h := OpnU.opens_struct (P := Try.prog) (t := 63) (fun x : S63 => (x.f0, x.f1, x.f2, x.f3)) (fun p => ⟨p.1, p.2.1, p.2.2.1, p.2.2.2⟩) (fun _ => rfl) Try.underlying63 rfl (by kernel_rfl) h0
  exact h
def wf31 (x : S31) : Prop := (Lit.int .i64 x.f0).wf = true ∧ (Lit.int .i64 x.f1).wf = true ∧ (x.f2.length ≤ 1048576 ∧ ∀ z ∈ x.f2, wf38 z) ∧ (x.f3.length ≤ 1048576 ∧ ∀ z ∈ x.f3, wf63 z)
theorem op31 : OpnU.Opens Try.prog 31 k31 wf31 := by
  have h3 := OpnU.opensF_last (P := Try.prog) (t := 29) (off := 3) (OpnU.opens_slice Try.underlying29 (by kernel_rfl) op63)
  have h2 := OpnU.opensF_cons (P := Try.prog) (t := 28) (off := 2) (off' := 3) rfl (OpnU.opens_slice Try.underlying28 (by kernel_rfl) op38) h3
  have h1 := OpnU.opensF_cons (P := Try.prog) (t := 3) (off := 1) (off' := 2) rfl (OpnU.opens_int Try.underlying3 (by kernel_rfl)) h2
  have h0 := OpnU.opensF_cons (P := Try.prog) (t := 3) (off := 0) (off' := 1) rfl (OpnU.opens_int Try.underlying3 (by kernel_rfl)) h1
  have h := OpnU.opens_struct (P := Try.prog) (t := 31) (fun x : S31 => (x.f0, x.f1, x.f2, x.f3)) (fun p => ⟨p.1, p.2.1, p.2.2.1, p.2.2.2⟩) (fun _ => rfl) Try.underlying31 rfl (by kernel_rfl) h0
  exact h
def wf123 (x : S123) : Prop := (Lit.int .i64 x.f0).wf = true ∧ (Lit.int .i64 x.f1).wf = true ∧ (Lit.int .i64 x.f2).wf = true ∧ (x.f3.length ≤ 1048576 ∧ ∀ z ∈ x.f3, wf181 z) ∧ (x.f4.length ≤ 1048576 ∧ ∀ z ∈ x.f4, wf31 z) ∧ wf31 x.f5 ∧ wf31 x.f6
theorem op123 : OpnU.Opens Try.prog 123 k123 wf123 := by
  have h6 := OpnU.opensF_last (P := Try.prog) (t := 31) (off := 9) op31
  have h5 := OpnU.opensF_cons (P := Try.prog) (t := 31) (off := 5) (off' := 9) rfl op31 h6
  have h4 := OpnU.opensF_cons (P := Try.prog) (t := 121) (off := 4) (off' := 5) rfl (OpnU.opens_slice Try.underlying121 (by kernel_rfl) op31) h5
  have h3 := OpnU.opensF_cons (P := Try.prog) (t := 120) (off := 3) (off' := 4) rfl (OpnU.opens_slice Try.underlying120 (by kernel_rfl) op181) h4
  have h2 := OpnU.opensF_cons (P := Try.prog) (t := 3) (off := 2) (off' := 3) rfl (OpnU.opens_int Try.underlying3 (by kernel_rfl)) h3
  have h1 := OpnU.opensF_cons (P := Try.prog) (t := 3) (off := 1) (off' := 2) rfl (OpnU.opens_int Try.underlying3 (by kernel_rfl)) h2
  have h0 := OpnU.opensF_cons (P := Try.prog) (t := 3) (off := 0) (off' := 1) rfl (OpnU.opens_int Try.underlying3 (by kernel_rfl)) h1
  have h := OpnU.opens_struct (P := Try.prog) (t := 123) (fun x : S123 => (x.f0, x.f1, x.f2, x.f3, x.f4, x.f5, x.f6)) (fun p => ⟨p.1, p.2.1, p.2.2.1, p.2.2.2.1, p.2.2.2.2.1, p.2.2.2.2.2.1, p.2.2.2.2.2.2⟩) (fun _ => rfl) Try.underlying123 rfl (by kernel_rfl) h0
  exact h
/-- The one pure statement. -/
def backstitchlaw3_LiveTells.Pure : Prop := ∀ (x0 : S123), (wf123 x0) → ∃ k, backstitchlaw3_LiveTells.f k x0.f0 x0.f1 x0.f2 x0.f3 x0.f4 x0.f5.f0 x0.f5.f1 x0.f5.f2 x0.f5.f3 x0.f6.f0 x0.f6.f1 x0.f6.f2 x0.f6.f3 = some true
end Go.Proofs.Ytlojkphocbbjdaa.PLiveTells
