/- MovesRun: for all moves and registers the law's printed function answers true. -/
import Derived.Test.YtlojkphocbbjdaaMvMovesRun
namespace Go.Proofs.Ytlojkphocbbjdaa.Pure
open Go.RowKit Go.Proofs.Ytlojkphocbbjdaa.PMovesRun Go.Proofs.YtlojkphocbbjdaaW Go.Proofs.YtlojkphocbbjdaaW.PrintWords Go.Proofs.YtlojkphocbbjdaaW.PrintLast Go.Proofs.YtlojkphocbbjdaaW.PrintMore
set_option linter.unusedVariables false
set_option linter.unusedSimpArgs false

theorem mn_ge (a b c : Int) : (c ≤ mn a b) ↔ c ≤ a ∧ c ≤ b := by unfold mn; split <;> omega
theorem mx_lt (a b c : Int) : (mx a b < c) ↔ a < c ∧ b < c := by unfold mx; split <;> omega
theorem eq_l0 (l : List Int) (hl : l.length < 4611686018427387904) : ∀ (d i : Nat), i + d = l.length → Ev (fun k => backstitchref3_Eq_int.l0 k l l l.length i) true
  | 0, i, hi => by
    refine Ev.step (f := fun _ => some true) (fun k => ?_) (Ev.now _)
    show backstitchref3_Eq_int.l0 (k + 1) l l l.length i = _
    rw [backstitchref3_Eq_int.l0, if_neg (by omega)]
  | d + 1, i, hi => by
    refine Ev.step (f := fun k => backstitchref3_Eq_int.l0 k l l l.length ((i + 1 : Nat) : Int)) (fun k => ?_) (eq_l0 l hl d (i + 1) (by omega))
    show backstitchref3_Eq_int.l0 (k + 1) l l l.length i = _
    rw [backstitchref3_Eq_int.l0, if_pos (by omega), if_pos (by omega), if_pos (by omega), if_pos (by omega), if_pos rfl, Pur.wrap_succ (by omega)]
theorem eq_ev (l : List Int) (hl : l.length < 4611686018427387904) : Ev (fun k => backstitchref3_Eq_int.f k l l) true := by
  refine Ev.congr (f := fun k => backstitchref3_Eq_int.l0 k l l l.length ((0 : Nat) : Int)) (fun k => ?_) (eq_l0 l hl l.length 0 (by omega))
  show backstitchref3_Eq_int.f k l l = _
  rw [backstitchref3_Eq_int.f, if_pos rfl]
  rfl
theorem law_l0 (l : List S71) (regs : List Int) (hl : l.length < 4611686018427387904) (hr : regs.length < 17592186044416) : ∀ (d i : Nat) (r : List Int), i + d = l.length → r.length = regs.length → (l.drop i).foldl runSt r = l.foldl runSt regs → Ev (fun k => backstitchlaw3_MovesRun.l0 k l regs r l l.length i) true
  | 0, i, r, hi, hn, hx => by
    rw [List.drop_eq_nil_of_le (by omega), List.foldl_nil] at hx
    have he : moves_Run.f l regs = some r := by rw [moves_Run.f, if_pos hr, ← hx]
    refine Ev.step (f := fun k => (backstitchref3_Eq_int.f k r r).bind fun t139 => (some t139)) (fun k => ?_) (Ev.bind (eq_ev r (by omega)) (Ev.now _))
    show backstitchlaw3_MovesRun.l0 (k + 1) l regs r l l.length i = _
    rw [backstitchlaw3_MovesRun.l0, if_neg (by omega), he, Option.bind_some]
  | d + 1, i, r, hi, hn, hx => by
    have hlt : i < l.length := by omega
    rw [Pur.drop_cons l i hlt z71, List.foldl_cons] at hx
    have ex : rd_T71 l (i : Int) = l.getD i z71 := rfl
    have ih := law_l0 l regs hl hr d (i + 1) (runSt r (l.getD i z71)) (by omega) (by rw [runSt_len, hn]) hx
    clear hx
    generalize l.getD i z71 = m at *
    refine Ev.step (fun k => ?_) ih
    show backstitchlaw3_MovesRun.l0 (k + 1) l regs r l l.length i = _
    rw [backstitchlaw3_MovesRun.l0, if_pos (by omega), if_pos (by omega), if_pos (by omega), ex, Pur.wrap_succ (by omega)]
    unfold runSt
    by_cases h1 : m.f0 ≥ 0
    · rw [if_pos h1]
      by_cases h2 : m.f0 < r.length
      · rw [if_pos h2]
        by_cases h3 : m.f1 ≥ 0
        · rw [if_pos h3]
          by_cases h4 : m.f1 < r.length
          · rw [if_pos h4, if_pos h3, if_pos h1, if_pos ⟨h1, h2, h3, h4⟩]
          · rw [if_neg h4, if_neg (fun h => h4 h.2.2.2)]
        · rw [if_neg h3, if_neg (fun h => h3 h.2.2.1)]
      · rw [if_neg h2, if_neg (fun h => h2 h.2.1)]
    · rw [if_neg h1, if_neg (fun h => h1 h.1)]
theorem MovesRun : backstitchlaw3_MovesRun.Pure := by
  intro l regs hl hr
  refine Ev.rounds ?_
  show Ev (fun k => backstitchlaw3_MovesRun.f k l regs) true
  unfold backstitchlaw3_MovesRun.f
  refine Ev.bind rung_ev ?_
  simp only [if_true]
  have h0 : 0 ≤ mn (l.length : Int) 100 := (mn_ge _ _ _).2 ⟨by omega, by omega⟩
  have h1 : mn (l.length : Int) 100 ≤ l.length := by unfold mn; split <;> omega
  have hn : regs.length < 17592186044416 := by have := hr.1; omega
  simp only [if_pos h0, if_pos h1, Option.bind_some, backstitchref3_Copy_int.f, if_pos hn]
  exact law_l0 _ regs (by have := hl.1; rw [List.length_take]; omega) hn (l.take (mn (l.length : Int) 100).toNat).length 0 regs (by omega) rfl (by simp)
end Go.Proofs.Ytlojkphocbbjdaa.Pure
