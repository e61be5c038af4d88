/- NanboxTells: for every value and every word the law's printed function answers true. -/
import Derived.Test.YtlojkphocbbjdaaUNanboxTells
namespace Go.Proofs.Ytlojkphocbbjdaa.Pure
open Go.RowKit Go.Proofs.Ytlojkphocbbjdaa.PNanboxTells Go.Proofs.YtlojkphocbbjdaaW Go.Proofs.YtlojkphocbbjdaaW.PrintWords Go.Proofs.YtlojkphocbbjdaaW.PrintLast

theorem NanboxTells : backstitchlaw3_NanboxTells.Pure := by
  intro x0 x1 h0 h1
  obtain ⟨_, hn⟩ := h0
  have hn := Pur.int_bounds hn
  have hw : 0 ≤ x1 ∧ x1 < 18446744073709551616 := by
    simp [Lit.wf, IntKind.min, IntKind.max, IntKind.signed, IntKind.bits] at h1
    omega
  refine Ev.rounds (g := fun k => backstitchlaw3_NanboxTells.f k x0.f0 x0.f1 x1) ?_
  unfold backstitchlaw3_NanboxTells.f
  refine Ev.bind (a := true) (Ev.of (fun k => backstitchlaw3_boxed.mono k) (k := 5) (by kernel_rfl)) ?_
  simp only [if_true]
  refine Ev.bind (box_ev x0.f0 x0.f1 hn) ?_
  refine Ev.bind (rbox_ev x0.f0 x0.f1 hn) ?_
  refine Ev.bind (unbox_ev x1 hw.1 hw.2) ?_
  refine Ev.bind (runbox_ev x1 hw.1 hw.2) ?_
  have hk : ∀ r, unboxS x1 = r → Ev (fun k => nanbox_Kind.f k x1) (match r with | some v => v.1 | none => -1) := by
    intro r hr
    unfold nanbox_Kind.f
    refine Ev.bind (unbox_ev x1 hw.1 hw.2) ?_
    rw [hr]
    cases r with
    | none => exact Pur.ev_some (fun _ => rfl)
    | some v => exact Pur.ev_some (fun _ => rfl)
  rcases hu : unboxS x1 with _ | ⟨a, b⟩
  · have h2 := hk _ hu
    simp only [outS, routS, Bool.false_eq_true, if_false, if_true, beq_self_eq_true, Bool.and_self]
    refine Ev.congr (fun k => ?_) (Ev.bind (f := fun _ t => some (t == -1)) h2 (Ev.now _))
    rfl
  · have h2 := hk _ hu
    simp only [outS, routS, if_true, beq_self_eq_true, Bool.and_self]
    refine Ev.congr (fun k => ?_) (Ev.bind (f := fun _ t => some (t == a)) h2 (by simp only [beq_self_eq_true]; exact Ev.now _))
    rfl
end Go.Proofs.Ytlojkphocbbjdaa.Pure
