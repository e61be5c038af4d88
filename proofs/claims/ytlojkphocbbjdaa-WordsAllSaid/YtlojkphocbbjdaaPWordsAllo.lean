-- Printed for this claim by a program of this session (inj.py), beside the kit's print. Not trusted: Lean checks it.
import Derived.Test.YtlojkphocbbjdaaHOpen
import Derived.Test.YtlojkphocbbjdaaPWordsAllx7
namespace Go.Proofs.Ytlojkphocbbjdaa.PWordsAll
open Go.RowKit Go.Proofs.YtlojkphocbbjdaaW Go.Proofs.YtlojkphocbbjdaaW.PrintWords Go.Proofs.YtlojkphocbbjdaaW.PrintLast Go.Proofs.YtlojkphocbbjdaaW.PrintMore
set_option linter.unusedVariables false

def wf23 (x : S23) : Prop := (Lit.int .i64 x.f0).wf = true ∧ (Lit.int .i64 x.f1).wf = true
theorem op23 : Opn.Opens Try.prog 23 k23 wf23 := by
  have h1 := Opn.opensF_last (P := Try.prog) (t := 3) (off := 1) (Opn.opens_int Try.underlying3 (by kernel_rfl))
  have h0 := Opn.opensF_cons (P := Try.prog) (t := 3) (off := 0) (off' := 1) rfl (Opn.opens_int Try.underlying3 (by kernel_rfl)) h1
  have h := Opn.opens_struct (P := Try.prog) (t := 23) (fun x : S23 => (x.f0, x.f1)) (fun p => ⟨p.1, p.2⟩) (fun _ => rfl) Try.underlying23 rfl (by kernel_rfl) h0
  exact h
def wf44 (x : S44) : Prop := (Lit.int .i64 x.f0).wf = true ∧ (Lit.int .i64 x.f1).wf = true
theorem op44 : Opn.Opens Try.prog 44 k44 wf44 := by
  have h1 := Opn.opensF_last (P := Try.prog) (t := 3) (off := 1) (Opn.opens_int Try.underlying3 (by kernel_rfl))
  have h0 := Opn.opensF_cons (P := Try.prog) (t := 3) (off := 0) (off' := 1) rfl (Opn.opens_int Try.underlying3 (by kernel_rfl)) h1
  have h := Opn.opens_struct (P := Try.prog) (t := 44) (fun x : S44 => (x.f0, x.f1)) (fun p => ⟨p.1, p.2⟩) (fun _ => rfl) Try.underlying44 rfl (by kernel_rfl) h0
  exact h
def wf27 (x : S27) : Prop := (Lit.int .i64 x.f0).wf = true ∧ (Lit.int .i64 x.f1).wf = true ∧ (Lit.int .i64 x.f2).wf = true ∧ (Lit.int .i64 x.f3).wf = true ∧ wf23 x.f4 ∧ (x.f5.length * 16 ≤ 140737488351232 ∧ ∀ z ∈ x.f5, wf23 z) ∧ (x.f6.length * 16 ≤ 140737488351232 ∧ ∀ z ∈ x.f6, wf44 z)
theorem op27 : Opn.Opens Try.prog 27 k27 wf27 := by
  have h6 := Opn.opensF_last (P := Try.prog) (t := 25) (off := 7) (Opn.opens_slice (B := 16) Try.underlying25 (by kernel_rfl) (by kernel_rfl) op44)
  have h5 := Opn.opensF_cons (P := Try.prog) (t := 24) (off := 6) (off' := 7) rfl (Opn.opens_slice (B := 16) Try.underlying24 (by kernel_rfl) (by kernel_rfl) op23) h6
  have h4 := Opn.opensF_cons (P := Try.prog) (t := 23) (off := 4) (off' := 6) rfl op23 h5
  have h3 := Opn.opensF_cons (P := Try.prog) (t := 3) (off := 3) (off' := 4) rfl (Opn.opens_int Try.underlying3 (by kernel_rfl)) h4
  have h2 := Opn.opensF_cons (P := Try.prog) (t := 3) (off := 2) (off' := 3) rfl (Opn.opens_int Try.underlying3 (by kernel_rfl)) h3
  have h1 := Opn.opensF_cons (P := Try.prog) (t := 3) (off := 1) (off' := 2) rfl (Opn.opens_int Try.underlying3 (by kernel_rfl)) h2
  have h0 := Opn.opensF_cons (P := Try.prog) (t := 3) (off := 0) (off' := 1) rfl (Opn.opens_int Try.underlying3 (by kernel_rfl)) h1
  have h := Opn.opens_struct (P := Try.prog) (t := 27) (fun x : S27 => (x.f0, x.f1, x.f2, x.f3, x.f4, x.f5, x.f6)) (fun p => ⟨p.1, p.2.1, p.2.2.1, p.2.2.2.1, p.2.2.2.2.1, p.2.2.2.2.2.1, p.2.2.2.2.2.2⟩) (fun _ => rfl) Try.underlying27 rfl (by kernel_rfl) h0
  exact h
def wf61 (x : S61) : Prop := (Lit.int .i64 x.f0).wf = true ∧ (Lit.int .i64 x.f1).wf = true ∧ (x.f2.length * 16 ≤ 140737488351232 ∧ ∀ z ∈ x.f2, wf23 z) ∧ (x.f3.length * 96 ≤ 140737488351232 ∧ ∀ z ∈ x.f3, wf27 z)
theorem op61 : Opn.Opens Try.prog 61 k61 wf61 := by
  have h3 := Opn.opensF_last (P := Try.prog) (t := 59) (off := 3) (Opn.opens_slice (B := 96) Try.underlying59 (by kernel_rfl) (by kernel_rfl) op27)
  have h2 := Opn.opensF_cons (P := Try.prog) (t := 24) (off := 2) (off' := 3) rfl (Opn.opens_slice (B := 16) Try.underlying24 (by kernel_rfl) (by kernel_rfl) op23) h3
  have h1 := Opn.opensF_cons (P := Try.prog) (t := 3) (off := 1) (off' := 2) rfl (Opn.opens_int Try.underlying3 (by kernel_rfl)) h2
  have h0 := Opn.opensF_cons (P := Try.prog) (t := 3) (off := 0) (off' := 1) rfl (Opn.opens_int Try.underlying3 (by kernel_rfl)) h1
  have h := Opn.opens_struct (P := Try.prog) (t := 61) (fun x : S61 => (x.f0, x.f1, x.f2, x.f3)) (fun p => ⟨p.1, p.2.1, p.2.2.1, p.2.2.2⟩) (fun _ => rfl) Try.underlying61 rfl (by kernel_rfl) h0
  exact h
/-- The one pure statement. -/
def backstitchlaw3_WordsAll.Pure : Prop := ∀ (x0 : List (S61)), (x0.length * 64 ≤ 140737488351232 ∧ ∀ z ∈ x0, wf61 z) → ∃ k, backstitchlaw3_WordsAll.f k x0 = some true
end Go.Proofs.Ytlojkphocbbjdaa.PWordsAll
