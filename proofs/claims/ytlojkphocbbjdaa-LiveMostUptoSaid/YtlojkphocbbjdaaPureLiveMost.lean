/- LiveMost: for every list of spans the law's printed function answers true. -/
import Derived.Test.YtlojkphocbbjdaaPLiveMosto
import Derived.Test.YtlojkphocbbjdaaHPure
namespace Go.Proofs.Ytlojkphocbbjdaa.Pure
open Go.RowKit Go.Proofs.Ytlojkphocbbjdaa.PLiveMost Go.Proofs.YtlojkphocbbjdaaW Go.Proofs.YtlojkphocbbjdaaW.PrintWords Go.Proofs.YtlojkphocbbjdaaW.PrintLast Go.Proofs.YtlojkphocbbjdaaW.PrintMore
set_option linter.unusedVariables false
set_option linter.unusedSimpArgs false

/-- How many go over a place. -/
def ov : List S129 → Int → Int
  | [], _ => 0
  | b :: l, n => (if 0 ≤ b.f0 ∧ b.f0 ≤ n ∧ n < b.f1 then 1 else 0) + ov l n
/-- The most over the begins of some. -/
def mo (l : List S129) : List S129 → Int → Int
  | [], m => m
  | a :: t, m => if 0 ≤ a.f0 ∧ a.f0 < a.f1 then mo l t (mx m (ov l a.f0)) else mo l t m

theorem most_in (x0 x9 : List S129) (m : Int) (n9 : Int) (i9 : Int) (l : List S129) (hl : l.length < 4611686018427387904) (f0 f1 : Int) (r : Int) (d : Nat) : ∀ (i : Nat) (c : Int), i + d = l.length → 0 ≤ c → c ≤ i →
    Ev (fun k => live_Most.l0 k x0 (mx m (c + ov (l.drop i) f0)) x9 n9 (wrap64 (i9 + 1))) r → Ev (fun k => live_Most.l1 k x0 m c x9 n9 i9 l l.length i f0 f1) r := by
  induction d with
  | zero =>
    intro i c hi h0 h1 h
    rw [List.drop_eq_nil_of_le (by omega), ov, Int.add_zero] at h
    refine Ev.step (fun k => ?_) h
    simp only [live_Most.l1]
    rw [if_neg (by omega)]
  | succ d ih =>
    intro i c hi h0 h1 h
    have hlt : i < l.length := by omega
    have e : rd_T129 l (i : Int) = l.getD i z129 := rfl
    rw [Pur.drop_cons l i hlt z129, ov] at h
    generalize hs : l.getD i z129 = b at *
    by_cases c1 : b.f0 ≥ 0
    · by_cases c2 : b.f0 ≤ f0
      · by_cases c3 : b.f1 > f0
        · rw [if_pos ⟨c1, c2, c3⟩, ← Int.add_assoc] at h
          refine Ev.step (fun k => ?_) (ih (i + 1) (c + 1) (by omega) (by omega) (by omega) h)
          simp only [live_Most.l1]
          rw [if_pos (by omega), if_pos (by omega), if_pos (by omega), e, if_pos c1, if_pos c2, if_pos c3, Pur.wrap_succ (by omega), Pur.wrap_id (by omega) (by omega)]
        · rw [if_neg (fun h => c3 h.2.2), Int.zero_add] at h
          refine Ev.step (fun k => ?_) (ih (i + 1) c (by omega) h0 (by omega) h)
          simp only [live_Most.l1]
          rw [if_pos (by omega), if_pos (by omega), if_pos (by omega), e, if_pos c1, if_pos c2, if_neg c3, Pur.wrap_succ (by omega)]
      · rw [if_neg (fun h => c2 h.2.1), Int.zero_add] at h
        refine Ev.step (fun k => ?_) (ih (i + 1) c (by omega) h0 (by omega) h)
        simp only [live_Most.l1]
        rw [if_pos (by omega), if_pos (by omega), if_pos (by omega), e, if_pos c1, if_neg c2, Pur.wrap_succ (by omega)]
    · rw [if_neg (fun h => c1 h.1), Int.zero_add] at h
      refine Ev.step (fun k => ?_) (ih (i + 1) c (by omega) h0 (by omega) h)
      simp only [live_Most.l1]
      rw [if_pos (by omega), if_pos (by omega), if_pos (by omega), e, if_neg c1, Pur.wrap_succ (by omega)]

theorem most_out (x0 l : List S129) (hx : x0.length < 4611686018427387904) (hl : l.length < 4611686018427387904) (d : Nat) : ∀ (i : Nat) (m : Int), i + d = l.length → Ev (fun k => live_Most.l0 k x0 m l l.length i) (mo x0 (l.drop i) m) := by
  induction d with
  | zero =>
    intro i m hi
    refine Ev.step (f := fun _ => _) (fun k => ?_) (Ev.now _)
    simp only [live_Most.l0]
    rw [if_neg (by omega), List.drop_eq_nil_of_le (by omega)]
    rfl
  | succ d ih =>
    intro i m hi
    have hlt : i < l.length := by omega
    have e : rd_T129 l (i : Int) = l.getD i z129 := rfl
    rw [Pur.drop_cons l i hlt z129, mo]
    generalize hs : l.getD i z129 = a at *
    refine Ev.step (f := fun k => live_Most.j1 k x0 m l l.length i (if a.f0 < 0 then true else decide (a.f0 ≥ a.f1)) a.f0 a.f1) (fun k => by
      simp only [live_Most.l0]
      rw [if_pos (by omega), if_pos (by omega), if_pos (by omega), e]
      split <;> rfl) ?_
    by_cases c : 0 ≤ a.f0 ∧ a.f0 < a.f1
    · rw [if_pos c, if_neg (by omega), decide_eq_false (by omega)]
      refine Ev.step (f := fun k => live_Most.l1 k x0 m 0 l l.length i x0 x0.length 0 a.f0 a.f1) (fun k => by
        simp only [live_Most.j1]
        rw [if_neg (by decide)]) ?_
      refine most_in x0 l m l.length i x0 hx a.f0 a.f1 _ x0.length 0 0 (by omega) (by omega) (by omega) ?_
      rw [List.drop_zero, Int.zero_add, Pur.wrap_succ (by omega)]
      exact ih (i + 1) _ (by omega)
    · have hb : (if a.f0 < 0 then true else decide (a.f0 ≥ a.f1)) = true := by
        split
        · rfl
        · exact decide_eq_true (by omega)
      rw [if_neg c, hb]
      refine Ev.step (fun k => ?_) (ih (i + 1) m (by omega))
      simp only [live_Most.j1, if_true]
      rw [Pur.wrap_succ (by omega)]

theorem over_ev (n : Int) (l : List S129) (hl : l.length < 4611686018427387904) (d : Nat) : ∀ (i : Nat) (c : Int), i + d = l.length → 0 ≤ c → c ≤ i → Ev (fun k => backstitchref3_Over.l0 k n c l l.length i) (c + ov (l.drop i) n) := by
  induction d with
  | zero =>
    intro i c hi h0 h1
    refine Ev.step (f := fun _ => _) (fun k => ?_) (Ev.now _)
    simp only [backstitchref3_Over.l0]
    rw [if_neg (by omega), List.drop_eq_nil_of_le (by omega), ov, Int.add_zero]
  | succ d ih =>
    intro i c hi h0 h1
    have hlt : i < l.length := by omega
    have e : rd_T129 l (i : Int) = l.getD i z129 := rfl
    rw [Pur.drop_cons l i hlt z129, ov]
    generalize hs : l.getD i z129 = b at *
    have step0 : ∀ k, backstitchref3_Over.l0 (k + 1) n c l l.length i = (backstitchref3_Counts.f b.f0 b.f1).bind fun t156 => (if t156 = true then (if b.f0 ≤ n then (if n < b.f1 then (backstitchref3_Over.l0 k n (wrap64 (c + 1)) l l.length (wrap64 ((i : Int) + 1))) else (backstitchref3_Over.l0 k n c l l.length (wrap64 ((i : Int) + 1)))) else (backstitchref3_Over.l0 k n c l l.length (wrap64 ((i : Int) + 1)))) else (backstitchref3_Over.l0 k n c l l.length (wrap64 ((i : Int) + 1)))) := fun k => by
      simp only [backstitchref3_Over.l0]
      rw [if_pos (by omega), if_pos (by omega), if_pos (by omega), e]
    by_cases c1 : b.f0 ≥ 0 ∧ b.f0 < b.f1
    · have hc : backstitchref3_Counts.f b.f0 b.f1 = some true := by unfold backstitchref3_Counts.f; rw [if_pos c1.1, decide_eq_true c1.2]
      by_cases c2 : b.f0 ≤ n
      · by_cases c3 : n < b.f1
        · rw [if_pos ⟨c1.1, c2, c3⟩, ← Int.add_assoc]
          refine Ev.step (fun k => ?_) (ih (i + 1) (c + 1) (by omega) (by omega) (by omega))
          rw [step0, hc, Option.bind_some, if_pos rfl, if_pos c2, if_pos c3, Pur.wrap_succ (by omega), Pur.wrap_id (by omega) (by omega)]
        · rw [if_neg (fun h => c3 h.2.2), Int.zero_add]
          refine Ev.step (fun k => ?_) (ih (i + 1) c (by omega) h0 (by omega))
          rw [step0, hc, Option.bind_some, if_pos rfl, if_pos c2, if_neg c3, Pur.wrap_succ (by omega)]
      · rw [if_neg (fun h => c2 h.2.1), Int.zero_add]
        refine Ev.step (fun k => ?_) (ih (i + 1) c (by omega) h0 (by omega))
        rw [step0, hc, Option.bind_some, if_pos rfl, if_neg c2, Pur.wrap_succ (by omega)]
    · have hc : backstitchref3_Counts.f b.f0 b.f1 = some false := by
        unfold backstitchref3_Counts.f
        by_cases c0 : b.f0 ≥ 0
        · rw [if_pos c0, decide_eq_false (by omega)]
        · rw [if_neg c0]
      rw [if_neg (by omega), Int.zero_add]
      refine Ev.step (fun k => ?_) (ih (i + 1) c (by omega) h0 (by omega))
      rw [step0, hc, Option.bind_some, if_neg (by decide), Pur.wrap_succ (by omega)]

theorem mover_ev (x0 l : List S129) (hx : x0.length < 4611686018427387904) (hl : l.length < 4611686018427387904) (d : Nat) : ∀ (i : Nat) (m : Int), i + d = l.length → Ev (fun k => backstitchref3_MostOver.l0 k x0 m l l.length i) (mo x0 (l.drop i) m) := by
  induction d with
  | zero =>
    intro i m hi
    refine Ev.step (f := fun _ => _) (fun k => ?_) (Ev.now _)
    simp only [backstitchref3_MostOver.l0]
    rw [if_neg (by omega), List.drop_eq_nil_of_le (by omega)]
    rfl
  | succ d ih =>
    intro i m hi
    have hlt : i < l.length := by omega
    have e : rd_T129 l (i : Int) = l.getD i z129 := rfl
    rw [Pur.drop_cons l i hlt z129, mo]
    generalize hs : l.getD i z129 = a at *
    by_cases c : 0 ≤ a.f0 ∧ a.f0 < a.f1
    · have hc : backstitchref3_Counts.f a.f0 a.f1 = some true := by unfold backstitchref3_Counts.f; rw [if_pos c.1, decide_eq_true c.2]
      rw [if_pos c]
      have ho : Ev (fun k => backstitchref3_Over.f k x0 a.f0) (ov x0 a.f0) := by
        have := over_ev a.f0 x0 hx x0.length 0 0 (by omega) (by omega) (by omega)
        rw [List.drop_zero, Int.zero_add] at this
        exact this
      refine Ev.step (f := fun k => (backstitchref3_Over.f k x0 a.f0).bind fun t => backstitchref3_MostOver.l0 k x0 (mx m t) l l.length ((i + 1 : Nat) : Int)) (fun k => by
        simp only [backstitchref3_MostOver.l0]
        rw [if_pos (by omega), if_pos (by omega), if_pos (by omega), e, hc, Option.bind_some, if_pos rfl, Pur.wrap_succ (by omega)]) ?_
      exact Ev.bind ho (ih (i + 1) _ (by omega))
    · have hc : backstitchref3_Counts.f a.f0 a.f1 = some false := by
        unfold backstitchref3_Counts.f
        by_cases c0 : a.f0 ≥ 0
        · rw [if_pos c0, decide_eq_false (by omega)]
        · rw [if_neg c0]
      rw [if_neg c]
      refine Ev.step (fun k => ?_) (ih (i + 1) m (by omega))
      simp only [backstitchref3_MostOver.l0]
      rw [if_pos (by omega), if_pos (by omega), if_pos (by omega), e, hc, Option.bind_some, if_neg (by decide), Pur.wrap_succ (by omega)]

theorem lived_ev : Ev (fun k => backstitchlaw3_lived.f k) true := Ev.of (fun k => backstitchlaw3_lived.mono k) (k := 12) (by kernel_rfl)

theorem LiveMost : backstitchlaw3_LiveMost.Pure := by
  intro x0 h0
  obtain ⟨hn, _⟩ := h0
  refine Ev.rounds (g := fun k => backstitchlaw3_LiveMost.f k x0) ?_
  unfold backstitchlaw3_LiveMost.f
  refine Ev.bind lived_ev ?_
  simp only [if_true]
  have h1 : 0 ≤ mn (x0.length : Int) 60 := by unfold mn; split <;> omega
  have h2 : mn (x0.length : Int) 60 ≤ (x0.length : Int) := by unfold mn; split <;> omega
  simp only [if_pos h1, if_pos h2, Option.bind_some]
  have hl : (x0.take (mn (x0.length : Int) 60).toNat).length < 4611686018427387904 := by rw [List.length_take]; omega
  generalize x0.take (mn (x0.length : Int) 60).toNat = l at *
  have e1 : Ev (fun k => live_Most.f k l) (mo l l 0) := by
    have := most_out l l hl hl l.length 0 0 (by omega)
    rwa [List.drop_zero] at this
  have e2 : Ev (fun k => backstitchref3_MostOver.f k l) (mo l l 0) := by
    have := mover_ev l l hl hl l.length 0 0 (by omega)
    rwa [List.drop_zero] at this
  refine Ev.bind e1 ?_
  refine Ev.bind e2 ?_
  exact Pur.ev_some (fun _ => by simp)

end Go.Proofs.Ytlojkphocbbjdaa.Pure
