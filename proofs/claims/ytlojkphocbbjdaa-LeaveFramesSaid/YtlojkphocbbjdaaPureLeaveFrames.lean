/- LeaveFrames: for every frame, every exit and every list of values the law's printed function answers true. -/
import Derived.Test.YtlojkphocbbjdaaPLeaveFrameso
import Derived.Test.YtlojkphocbbjdaaHPure
namespace Go.Proofs.Ytlojkphocbbjdaa.Pure
open Go.RowKit Go.Proofs.Ytlojkphocbbjdaa.PLeaveFrames Go.Proofs.YtlojkphocbbjdaaW Go.Proofs.YtlojkphocbbjdaaW.PrintWords Go.Proofs.YtlojkphocbbjdaaW.PrintLast
set_option linter.unusedVariables false
set_option linter.unusedSimpArgs false

/-- The registers behind the sets; none: one is of no value or no register. -/
def go (vals : List S23) : List S38 → List S23 → Option (List S23)
  | [], regs => some regs
  | s :: ss, regs => if s.f1 < 0 ∨ s.f1 ≥ vals.length ∨ s.f0 < 0 ∨ s.f0 ≥ regs.length then none else go vals ss (regs.set s.f0.toNat (vals.getD s.f1.toNat z23))

theorem told_one (n : Int) (vals : List S23) : Ev (fun k => leave_told.f k [n] vals) (if n < 0 ∨ n ≥ vals.length then (([] : List S23), false) else ([vals.getD n.toNat z23], true)) := by
  refine ⟨2, fun k hk => ?_⟩
  obtain ⟨m, rfl⟩ : ∃ m, k = m + 2 := ⟨k - 2, by omega⟩
  simp only [leave_told.f, leave_told.l0, List.length_singleton]
  rw [if_pos (by decide), if_pos (by decide), if_pos (by decide)]
  have e : rd [n] 0 = n := rfl
  rw [e]
  by_cases h0 : n < 0
  · rw [if_pos h0, if_pos (.inl h0)]
  · rw [if_neg h0]
    by_cases h1 : n ≥ (vals.length : Int)
    · rw [if_pos h1, if_pos (.inr h1)]
    · have w : wrap64 (0 + 1) = 1 := by unfold wrap64; omega
      rw [if_neg h1, if_pos (by omega), if_pos (by omega), if_pos (by simp), w, if_neg (by decide), if_neg (by omega)]
      rfl

def res (p0 p2 p3 p4 p5 at_ : Int) (tries : List S44) : Option (List S23) → Int × Int × Int × Int × Int × Int × List S23 × List S44 × Int
  | some r => (p0, at_, p2, p3, p4, p5, r, tries, 0)
  | none => (0, 0, 0, 0, 0, 0, [], [], 3)

theorem frame_loop (vals : List S23) (l : List S38) (hl : l.length < 4611686018427387904) (p0 p1 p2 p3 p4 p5 : Int) (tries : List S44) (at_ st : Int) (l2 : List S38) (l3 : List S63) (d : Nat) :
    ∀ (i : Nat) (regs : List S23), i + d = l.length →
    Ev (fun k => leave_Frame.l0 k vals l l.length i p0 p1 p2 p3 p4 p5 regs tries at_ st l2 l3) (res p0 p2 p3 p4 p5 at_ tries (go vals (l.drop i) regs)) := by
  induction d with
  | zero =>
    intro i regs hi
    refine Ev.step (f := fun _ => _) (fun k => ?_) (Ev.now _)
    simp only [leave_Frame.l0]
    rw [if_neg (by omega), List.drop_eq_nil_of_le (by omega)]
    rfl
  | succ d ih =>
    intro i regs hi
    have hlt : i < l.length := by omega
    rw [Pur.drop_cons l i hlt z38]
    have e : rd_T38 l (i : Int) = l.getD i z38 := rfl
    generalize hs : l.getD i z38 = s at *
    refine Ev.step (fun k => by
      simp only [leave_Frame.l0]
      rw [if_pos (by omega), if_pos (by omega), if_pos (by omega), e]) ?_
    refine Ev.bind (told_one s.f1 vals) ?_
    unfold go
    by_cases h0 : s.f1 < 0 ∨ s.f1 ≥ vals.length
    · rw [if_pos h0, if_pos (by omega)]
      exact Pur.ev_some (fun _ => rfl)
    · rw [if_neg h0]
      simp only [if_true, rd_T23, Int.toNat_zero, List.getD_cons_zero]
      by_cases h1 : s.f0 < 0
      · rw [if_pos (by omega)]
        exact Pur.ev_some (fun _ => by rw [if_pos h1]; rfl)
      · by_cases h2 : s.f0 ≥ (regs.length : Int)
        · rw [if_pos (by omega)]
          exact Pur.ev_some (fun _ => by rw [if_neg h1, if_pos h2]; rfl)
        · rw [if_neg (by omega)]
          have := ih (i + 1) (regs.set s.f0.toNat (vals.getD s.f1.toNat z23)) (by omega)
          refine Ev.congr (fun k => ?_) this
          rw [if_neg h1, if_neg h2, if_pos (by simp), if_pos (by omega), if_pos (by omega), Pur.wrap_succ (by omega)]

theorem frame_ev (p0 p1 p2 p3 p4 p5 : Int) (regs : List S23) (tries : List S44) (at_ st : Int) (l2 : List S38) (l3 : List S63) (vals : List S23) (h2 : l2.length < 4611686018427387904) (h6 : regs.length < 8796093022208) (h7 : tries.length < 8796093022208) :
    Ev (fun k => leave_Frame.f k p0 p1 p2 p3 p4 p5 regs tries at_ st l2 l3 vals) (res p0 p2 p3 p4 p5 at_ tries (go vals l2 regs)) := by
  unfold leave_Frame.f
  simp only [api_Val_73.f, api_Try_74.f, if_pos h6, if_pos h7, Option.bind_some]
  exact frame_loop vals l2 h2 p0 p1 p2 p3 p4 p5 tries at_ st l2 l3 l2.length 0 regs (by omega)

theorem left_ev : Ev (fun k => backstitchlaw3_leftBy.f k) true := Ev.of (fun k => backstitchlaw3_leftBy.mono k) (k := 5) (by kernel_rfl)

theorem in_one (n m : Int) : Ev (fun k => backstitchlaw3_valuesIn.f k [n] m) (decide (0 ≤ n ∧ n < m)) := by
  refine ⟨2, fun k hk => ?_⟩
  obtain ⟨j, rfl⟩ : ∃ j, k = j + 2 := ⟨k - 2, by omega⟩
  simp only [backstitchlaw3_valuesIn.f, backstitchlaw3_valuesIn.l0, List.length_singleton]
  rw [if_pos (by decide), if_pos (by decide), if_pos (by decide)]
  have e : rd [n] 0 = n := rfl
  have w : wrap64 (0 + 1) = 1 := by unfold wrap64; omega
  rw [e, w]
  by_cases h0 : n < 0
  · rw [if_pos h0, decide_eq_false (by omega)]
  · rw [if_neg h0]
    by_cases h1 : n ≥ m
    · rw [if_pos h1, decide_eq_false (by omega)]
    · rw [if_neg h1, if_neg (by decide), decide_eq_true (by omega)]

theorem same23 (l : List S23) (hl : l.length < 4611686018427387904) (d : Nat) : ∀ i : Nat, i + d = l.length → Ev (fun k => api_Val_19.l0 k l l l.length i) true := by
  induction d with
  | zero =>
    intro i hi
    refine Ev.step (f := fun _ => _) (fun k => ?_) (Ev.now _)
    simp only [api_Val_19.l0]
    rw [if_neg (by omega)]
  | succ d ih =>
    intro i hi
    refine Ev.step (fun k => ?_) (ih (i + 1) (by omega))
    simp only [api_Val_19.l0]
    rw [if_pos (by omega), if_pos (by omega), if_pos (by omega), Pur.wrap_succ (by omega)]
    simp
    omega
theorem same44 (l : List S44) (hl : l.length < 4611686018427387904) (d : Nat) : ∀ i : Nat, i + d = l.length → Ev (fun k => api_Try_20.l0 k l l l.length i) true := by
  induction d with
  | zero =>
    intro i hi
    refine Ev.step (f := fun _ => _) (fun k => ?_) (Ev.now _)
    simp only [api_Try_20.l0]
    rw [if_neg (by omega)]
  | succ d ih =>
    intro i hi
    refine Ev.step (fun k => ?_) (ih (i + 1) (by omega))
    simp only [api_Try_20.l0]
    rw [if_pos (by omega), if_pos (by omega), if_pos (by omega), Pur.wrap_succ (by omega)]
    simp
    omega
theorem eq23 (l : List S23) (hl : l.length < 4611686018427387904) : Ev (fun k => api_Val_19.f k l l) true := by
  unfold api_Val_19.f
  simp only [if_true]
  exact same23 l hl l.length 0 (by omega)
theorem eq44 (l : List S44) (hl : l.length < 4611686018427387904) : Ev (fun k => api_Try_20.f k l l) true := by
  unfold api_Try_20.f
  simp only [if_true]
  exact same44 l hl l.length 0 (by omega)
theorem go_length (vals : List S23) : ∀ (ss : List S38) (regs r : List S23), go vals ss regs = some r → r.length = regs.length
  | [], regs, r, h => by simp only [go, Option.some.injEq] at h; rw [h]
  | s :: ss, regs, r, h => by
    unfold go at h
    split at h
    · cases h
    · have := go_length vals ss _ r h
      simpa using this

theorem law_loop (vals : List S23) (l : List S38) (hl : l.length < 4611686018427387904) (p0 p1 p2 p3 p4 p5 : Int) (regs0 : List S23) (tries : List S44) (ht : tries.length < 4611686018427387904) (at_ st : Int) (l2 : List S38) (l3 : List S63)
    (q : Option (List S23)) (hq : ∀ r, q = some r → r.length < 4611686018427387904) (d : Nat) :
    ∀ (i : Nat) (regs : List S23), i + d = l.length → go vals (l.drop i) regs = q →
    Ev (fun k => backstitchlaw3_LeaveFrames.l0 k vals (res p0 p2 p3 p4 p5 at_ tries q).2.2.2.2.2.2.2.2 regs l l.length i p0 p1 p2 p3 p4 p5 regs0 tries at_ st l2 l3 (res p0 p2 p3 p4 p5 at_ tries q).1 (res p0 p2 p3 p4 p5 at_ tries q).2.1 (res p0 p2 p3 p4 p5 at_ tries q).2.2.1 (res p0 p2 p3 p4 p5 at_ tries q).2.2.2.1 (res p0 p2 p3 p4 p5 at_ tries q).2.2.2.2.1 (res p0 p2 p3 p4 p5 at_ tries q).2.2.2.2.2.1 (res p0 p2 p3 p4 p5 at_ tries q).2.2.2.2.2.2.1 (res p0 p2 p3 p4 p5 at_ tries q).2.2.2.2.2.2.2.1) true := by
  induction d with
  | zero =>
    intro i regs hi hg
    rw [List.drop_eq_nil_of_le (by omega)] at hg
    unfold go at hg
    subst hg
    refine Ev.step (fun k => by
      simp only [backstitchlaw3_LeaveFrames.l0]
      rw [if_neg (by omega)]) ?_
    simp only [res, if_true]
    refine Ev.bind (eq23 regs (hq _ rfl)) ?_
    simp only [if_true]
    refine Ev.bind (eq44 tries ht) ?_
    simp only [if_true, beq_self_eq_true, Bool.and_self]
    exact Ev.now _
  | succ d ih =>
    intro i regs hi hg
    have hlt : i < l.length := by omega
    rw [Pur.drop_cons l i hlt z38] at hg
    have e : rd_T38 l (i : Int) = l.getD i z38 := rfl
    generalize hs : l.getD i z38 = s at *
    refine Ev.step (fun k => by
      simp only [backstitchlaw3_LeaveFrames.l0]
      rw [if_pos (by omega), if_pos (by omega), if_pos (by omega), e]) ?_
    refine Ev.bind (in_one s.f1 vals.length) ?_
    unfold go at hg
    by_cases h0 : 0 ≤ s.f1 ∧ s.f1 < vals.length
    · rw [decide_eq_true h0]
      simp only [if_true]
      by_cases h1 : s.f0 < 0
      · rw [if_pos (by omega)] at hg
        subst hg
        refine Pur.ev_some (fun _ => ?_)
        rw [if_pos h1]
        simp [res, wrap64]
      · by_cases h2 : s.f0 ≥ (regs.length : Int)
        · rw [if_pos (by omega)] at hg
          subst hg
          refine Pur.ev_some (fun _ => ?_)
          rw [if_neg h1, if_pos h2]
          simp [res, wrap64]
        · rw [if_neg (by omega)] at hg
          refine Ev.congr (fun k => ?_) (ih (i + 1) _ (by omega) hg)
          rw [if_neg h1, if_neg h2, if_pos h0.1, if_pos h0.2, if_pos (by omega), if_pos (by omega), Pur.wrap_succ (by omega)]
          rfl
    · rw [if_pos (by omega)] at hg
      subst hg
      rw [decide_eq_false h0]
      exact Pur.ev_some (fun _ => by simp [res, wrap64])

theorem LeaveFrames : backstitchlaw3_LeaveFrames.Pure := by
  intro x0 x1 x2 h0 h1 h2
  obtain ⟨_, _, _, _, _, hr, ht⟩ := h0
  obtain ⟨_, _, hs, _⟩ := h1
  refine Ev.rounds (g := fun k => backstitchlaw3_LeaveFrames.f k x0.f0 x0.f1 x0.f2 x0.f3 x0.f4.f0 x0.f4.f1 x0.f5 x0.f6 x1.f0 x1.f1 x1.f2 x1.f3 x2) ?_
  unfold backstitchlaw3_LeaveFrames.f
  refine Ev.bind left_ev ?_
  simp only [if_true]
  refine Ev.bind (frame_ev x0.f0 x0.f1 x0.f2 x0.f3 x0.f4.f0 x0.f4.f1 x0.f5 x0.f6 x1.f0 x1.f1 x1.f2 x1.f3 x2 (by have := hs.1; omega) (by have := hr.1; omega) (by have := ht.1; omega)) ?_
  simp only [api_Val_17.f, if_pos (show x0.f5.length < 8796093022208 by have := hr.1; omega), Option.bind_some]
  refine law_loop x2 x1.f2 (by have := hs.1; omega) x0.f0 x0.f1 x0.f2 x0.f3 x0.f4.f0 x0.f4.f1 x0.f5 x0.f6 (by have := ht.1; omega) x1.f0 x1.f1 x1.f2 x1.f3 _ (fun r hr' => ?_) x1.f2.length 0 x0.f5 (by omega) (by rw [List.drop_zero])
  have := go_length _ _ _ _ hr'
  have := hr.1
  omega
end Go.Proofs.Ytlojkphocbbjdaa.Pure
