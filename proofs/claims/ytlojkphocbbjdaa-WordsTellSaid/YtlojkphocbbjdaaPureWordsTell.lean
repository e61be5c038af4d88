/- WordsTell: for every cell the law's printed function answers true. -/
import Derived.Test.YtlojkphocbbjdaaCwWordsTell
namespace Go.Proofs.Ytlojkphocbbjdaa.Pure
open Go.RowKit Go.Proofs.Ytlojkphocbbjdaa.PWordsTell Go.Proofs.YtlojkphocbbjdaaW Go.Proofs.YtlojkphocbbjdaaW.PrintWords Go.Proofs.YtlojkphocbbjdaaW.PrintLast
set_option linter.unusedVariables false

theorem WordsTell : backstitchlaw3_WordsTell.Pure := by
  intro x hx
  have h64 := cell64 hx
  have h3 : x.f3.length < 4611686018427387904 := by have := hx.2.2.2.1; omega
  obtain ⟨a0, a1, l2, l3⟩ := x
  clear hx
  refine Ev.rounds ?_
  show Ev (fun k => backstitchlaw3_WordsTell.f k a0 a1 l2 l3) true
  unfold backstitchlaw3_WordsTell.f
  refine Ev.bind worded_ev ?_
  simp only [if_true]
  refine Ev.bind (Of_ev a0 a1 l2 l3 h3 h64) (Ev.bind (cf_ev a0 a1 l2 l3 h64) ?_)
  cases h : large a0 l2 l3 with
  | true =>
    simp only [ofS, h, if_true]
    exact Pur.ev_some (fun _ => by rw [if_neg (by decide)]; rfl)
  | false =>
    have hok := large_ok h
    by_cases h0 : fe 0 (cv l2 l3) = 0
    · simp only [ofS, h, h0, Bool.false_eq_true, if_false, if_true]
      have := cw_len a0 a1 l2 l3 hok
      exact Ev.bind (cwd_ev a0 a1 l2 l3 hok h64) (Ev.bind (equ_ev _ (by omega)) (Ev.now _))
    · simp only [ofS, h, if_neg h0, Bool.false_eq_true, if_false, if_true]
      exact Pur.ev_some (fun _ => rfl)
end Go.Proofs.Ytlojkphocbbjdaa.Pure
