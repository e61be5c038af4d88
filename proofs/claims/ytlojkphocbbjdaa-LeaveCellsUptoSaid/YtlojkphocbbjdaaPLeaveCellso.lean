-- Printed for this claim by a program of this session (inj.py), beside the kit's print. Not trusted: Lean checks it.
import Derived.Test.YtlojkphocbbjdaaHOpenU
import Derived.Test.YtlojkphocbbjdaaPLeaveCellsx4
namespace Go.Proofs.Ytlojkphocbbjdaa.PLeaveCells
open Go.RowKit Go.Proofs.YtlojkphocbbjdaaW Go.Proofs.YtlojkphocbbjdaaW.PrintWords Go.Proofs.YtlojkphocbbjdaaW.PrintLast Go.Proofs.YtlojkphocbbjdaaW.PrintMore
set_option linter.unusedVariables false

def wf23 (x : S23) : Prop := (Lit.int .i64 x.f0).wf = true ∧ (Lit.int .i64 x.f1).wf = true
theorem op23 : OpnU.Opens Try.prog 23 k23 wf23 := by
  have h1 := OpnU.opensF_last (P := Try.prog) (t := 3) (off := 1) (OpnU.opens_int Try.underlying3 (by kernel_rfl))
  have h0 := OpnU.opensF_cons (P := Try.prog) (t := 3) (off := 0) (off' := 1) rfl (OpnU.opens_int Try.underlying3 (by kernel_rfl)) h1
  have h := OpnU.opens_struct (P := Try.prog) (t := 23) (fun x : S23 => (x.f0, x.f1)) (fun p => ⟨p.1, p.2⟩) (fun _ => rfl) Try.underlying23 rfl (by kernel_rfl) h0
  exact h
def wf44 (x : S44) : Prop := (Lit.int .i64 x.f0).wf = true ∧ (Lit.int .i64 x.f1).wf = true
theorem op44 : OpnU.Opens Try.prog 44 k44 wf44 := by
  have h1 := OpnU.opensF_last (P := Try.prog) (t := 3) (off := 1) (OpnU.opens_int Try.underlying3 (by kernel_rfl))
  have h0 := OpnU.opensF_cons (P := Try.prog) (t := 3) (off := 0) (off' := 1) rfl (OpnU.opens_int Try.underlying3 (by kernel_rfl)) h1
  have h := OpnU.opens_struct (P := Try.prog) (t := 44) (fun x : S44 => (x.f0, x.f1)) (fun p => ⟨p.1, p.2⟩) (fun _ => rfl) Try.underlying44 rfl (by kernel_rfl) h0
  exact h
def wf27 (x : S27) : Prop := (Lit.int .i64 x.f0).wf = true ∧ (Lit.int .i64 x.f1).wf = true ∧ (Lit.int .i64 x.f2).wf = true ∧ (Lit.int .i64 x.f3).wf = true ∧ wf23 x.f4 ∧ (x.f5.length ≤ 1048576 ∧ ∀ z ∈ x.f5, wf23 z) ∧ (x.f6.length ≤ 1048576 ∧ ∀ z ∈ x.f6, wf44 z)
theorem op27 : OpnU.Opens Try.prog 27 k27 wf27 := by
  have h6 := OpnU.opensF_last (P := Try.prog) (t := 25) (off := 7) (OpnU.opens_slice Try.underlying25 (by kernel_rfl) op44)
  have h5 := OpnU.opensF_cons (P := Try.prog) (t := 24) (off := 6) (off' := 7) rfl (OpnU.opens_slice Try.underlying24 (by kernel_rfl) op23) h6
  have h4 := OpnU.opensF_cons (P := Try.prog) (t := 23) (off := 4) (off' := 6) rfl op23 h5
  have h3 := OpnU.opensF_cons (P := Try.prog) (t := 3) (off := 3) (off' := 4) rfl (OpnU.opens_int Try.underlying3 (by kernel_rfl)) h4
  have h2 := OpnU.opensF_cons (P := Try.prog) (t := 3) (off := 2) (off' := 3) rfl (OpnU.opens_int Try.underlying3 (by kernel_rfl)) h3
  have h1 := OpnU.opensF_cons (P := Try.prog) (t := 3) (off := 1) (off' := 2) rfl (OpnU.opens_int Try.underlying3 (by kernel_rfl)) h2
  have h0 := OpnU.opensF_cons (P := Try.prog) (t := 3) (off := 0) (off' := 1) rfl (OpnU.opens_int Try.underlying3 (by kernel_rfl)) h1
  have h := OpnU.opens_struct (P := Try.prog) (t := 27) (fun x : S27 => (x.f0, x.f1, x.f2, x.f3, x.f4, x.f5, x.f6)) (fun p => ⟨p.1, p.2.1, p.2.2.1, p.2.2.2.1, p.2.2.2.2.1, p.2.2.2.2.2.1, p.2.2.2.2.2.2⟩) (fun _ => rfl) Try.underlying27 rfl (by kernel_rfl) h0
  exact h
def wf61 (x : S61) : Prop := (Lit.int .i64 x.f0).wf = true ∧ (Lit.int .i64 x.f1).wf = true ∧ (x.f2.length ≤ 1048576 ∧ ∀ z ∈ x.f2, wf23 z) ∧ (x.f3.length ≤ 1048576 ∧ ∀ z ∈ x.f3, wf27 z)
theorem op61 : OpnU.Opens Try.prog 61 k61 wf61 := by
  have h3 := OpnU.opensF_last (P := Try.prog) (t := 59) (off := 3) (OpnU.opens_slice Try.underlying59 (by kernel_rfl) op27)
  have h2 := OpnU.opensF_cons (P := Try.prog) (t := 24) (off := 2) (off' := 3) rfl (OpnU.opens_slice Try.underlying24 (by kernel_rfl) op23) h3
  have h1 := OpnU.opensF_cons (P := Try.prog) (t := 3) (off := 1) (off' := 2) rfl (OpnU.opens_int Try.underlying3 (by kernel_rfl)) h2
  have h0 := OpnU.opensF_cons (P := Try.prog) (t := 3) (off := 0) (off' := 1) rfl (OpnU.opens_int Try.underlying3 (by kernel_rfl)) h1
  have h := OpnU.opens_struct (P := Try.prog) (t := 61) (fun x : S61 => (x.f0, x.f1, x.f2, x.f3)) (fun p => ⟨p.1, p.2.1, p.2.2.1, p.2.2.2⟩) (fun _ => rfl) Try.underlying61 rfl (by kernel_rfl) h0
  exact h
def wf38 (x : S38) : Prop := (Lit.int .i64 x.f0).wf = true ∧ (Lit.int .i64 x.f1).wf = true
theorem op38 : OpnU.Opens Try.prog 38 k38 wf38 := by
  have h1 := OpnU.opensF_last (P := Try.prog) (t := 3) (off := 1) (OpnU.opens_int Try.underlying3 (by kernel_rfl))
  have h0 := OpnU.opensF_cons (P := Try.prog) (t := 3) (off := 0) (off' := 1) rfl (OpnU.opens_int Try.underlying3 (by kernel_rfl)) h1
  have h := OpnU.opens_struct (P := Try.prog) (t := 38) (fun x : S38 => (x.f0, x.f1)) (fun p => ⟨p.1, p.2⟩) (fun _ => rfl) Try.underlying38 rfl (by kernel_rfl) h0
  exact h
def wf63 (x : S63) : Prop := (Lit.int .i64 x.f0).wf = true ∧ (Lit.int .i64 x.f1).wf = true ∧ (Lit.int .i64 x.f2).wf = true ∧ (x.f3.length ≤ 1048576 ∧ ∀ z ∈ x.f3, (Lit.int .i64 z).wf = true)
theorem op63 : OpnU.Opens Try.prog 63 k63 wf63 := by
  have h3 := OpnU.opensF_last (P := Try.prog) (t := 40) (off := 3) (OpnU.opens_slice Try.underlying40 (by kernel_rfl) (OpnU.opens_int Try.underlying3 (by kernel_rfl)))
  have h2 := OpnU.opensF_cons (P := Try.prog) (t := 3) (off := 2) (off' := 3) rfl (OpnU.opens_int Try.underlying3 (by kernel_rfl)) h3
  have h1 := OpnU.opensF_cons (P := Try.prog) (t := 3) (off := 1) (off' := 2) rfl (OpnU.opens_int Try.underlying3 (by kernel_rfl)) h2
  have h0 := OpnU.opensF_cons (P := Try.prog) (t := 3) (off := 0) (off' := 1) rfl (OpnU.opens_int Try.underlying3 (by kernel_rfl)) h1
  have h := OpnU.opens_struct (P := Try.prog) (t := 63) (fun x : S63 => (x.f0, x.f1, x.f2, x.f3)) (fun p => ⟨p.1, p.2.1, p.2.2.1, p.2.2.2⟩) (fun _ => rfl) Try.underlying63 rfl (by kernel_rfl) h0
  exact h
def wf31 (x : S31) : Prop := (Lit.int .i64 x.f0).wf = true ∧ (Lit.int .i64 x.f1).wf = true ∧ (x.f2.length ≤ 1048576 ∧ ∀ z ∈ x.f2, wf38 z) ∧ (x.f3.length ≤ 1048576 ∧ ∀ z ∈ x.f3, wf63 z)
theorem op31 : OpnU.Opens Try.prog 31 k31 wf31 := by
  have h3 := OpnU.opensF_last (P := Try.prog) (t := 29) (off := 3) (OpnU.opens_slice Try.underlying29 (by kernel_rfl) op63)
  have h2 := OpnU.opensF_cons (P := Try.prog) (t := 28) (off := 2) (off' := 3) rfl (OpnU.opens_slice Try.underlying28 (by kernel_rfl) op38) h3
  have h1 := OpnU.opensF_cons (P := Try.prog) (t := 3) (off := 1) (off' := 2) rfl (OpnU.opens_int Try.underlying3 (by kernel_rfl)) h2
  have h0 := OpnU.opensF_cons (P := Try.prog) (t := 3) (off := 0) (off' := 1) rfl (OpnU.opens_int Try.underlying3 (by kernel_rfl)) h1
  have h := OpnU.opens_struct (P := Try.prog) (t := 31) (fun x : S31 => (x.f0, x.f1, x.f2, x.f3)) (fun p => ⟨p.1, p.2.1, p.2.2.1, p.2.2.2⟩) (fun _ => rfl) Try.underlying31 rfl (by kernel_rfl) h0
  exact h
/-- The one pure statement. -/
def backstitchlaw3_LeaveCells.Pure : Prop := ∀ (x0 : List (S61)), ∀ (x1 : S31), ∀ (x2 : List (S23)), (x0.length ≤ 1048576 ∧ ∀ z ∈ x0, wf61 z) → (wf31 x1) → (x2.length ≤ 1048576 ∧ ∀ z ∈ x2, wf23 z) → ∃ k, backstitchlaw3_LeaveCells.f k x0 x1.f0 x1.f1 x1.f2 x1.f3 x2 = some true
end Go.Proofs.Ytlojkphocbbjdaa.PLeaveCells
