/- Moves: both orders are one list; the two faults are one; rows are equal to themselves. -/
import Derived.Test.YtlojkphocbbjdaaPMovesTello
import Derived.Test.YtlojkphocbbjdaaHPure
namespace Go.Proofs.Ytlojkphocbbjdaa.PMovesTell
open Go.RowKit Go.Proofs.YtlojkphocbbjdaaW Go.Proofs.YtlojkphocbbjdaaW.PrintWords Go.Proofs.YtlojkphocbbjdaaW.PrintLast
set_option linter.unusedVariables false
set_option linter.unusedSimpArgs false

theorem rung_ev : Ev (fun k => backstitchlaw3_rung.f k) true := Pur.ev_of (fun k => backstitchlaw3_rung.mono k) 40 (by decide +kernel)
theorem mq_l0 (l : List S71) (hl : l.length < 4611686018427387904) : ∀ (d i : Nat), i + d = l.length → Ev (fun k => api_RMove_32.l0 k l l l.length i) true
  | 0, i, hi => by
    refine Ev.step (f := fun _ => some true) (fun k => ?_) (Ev.now _)
    show api_RMove_32.l0 (k + 1) l l l.length i = _
    rw [api_RMove_32.l0, if_neg (by omega)]
  | d + 1, i, hi => by
    refine Ev.step (f := fun k => api_RMove_32.l0 k l l l.length ((i + 1 : Nat) : Int)) (fun k => ?_) (mq_l0 l hl d (i + 1) (by omega))
    show api_RMove_32.l0 (k + 1) l l l.length i = _
    rw [api_RMove_32.l0, if_pos (by omega), if_pos (by omega), if_pos (by omega), if_pos (by omega), if_neg (by simp), Pur.wrap_succ (by omega)]
theorem mq_ev (l : List S71) (hl : l.length < 4611686018427387904) : Ev (fun k => api_RMove_32.f k l l) true := by
  refine Ev.congr (f := fun k => api_RMove_32.l0 k l l l.length ((0 : Nat) : Int)) (fun k => ?_) (mq_l0 l hl l.length 0 (by omega))
  show api_RMove_32.f k l l = _
  rw [api_RMove_32.f, if_pos rfl]
  rfl
end Go.Proofs.Ytlojkphocbbjdaa.PMovesTell
