/- LeaveCells: for every list of cells, every exit and every list of values the law's printed function answers true. -/
import Derived.Test.YtlojkphocbbjdaaPLeaveCellso
import Derived.Test.YtlojkphocbbjdaaHPure
namespace Go.Proofs.Ytlojkphocbbjdaa.Pure
open Go.RowKit Go.Proofs.Ytlojkphocbbjdaa.PLeaveCells Go.Proofs.YtlojkphocbbjdaaW Go.Proofs.YtlojkphocbbjdaaW.PrintWords Go.Proofs.YtlojkphocbbjdaaW.PrintLast
set_option linter.unusedVariables false
set_option linter.unusedSimpArgs false

theorem told_loop (vals : List S23) (l : List Int) (hl : l.length < 8796093022208) (d : Nat) : ∀ (i : Nat) (acc : List S23), i + d = l.length → acc.length = i →
    Ev (fun k => leave_told.l0 k vals acc l l.length i) (if lcVi vals.length (l.drop i) = true then (acc ++ (l.drop i).map (rd_T23 vals), true) else ([], false)) := by
  induction d with
  | zero =>
    intro i acc hi ha
    refine Ev.step (f := fun _ => _) (fun k => ?_) (Ev.now _)
    simp only [leave_told.l0]
    rw [if_neg (by omega), List.drop_eq_nil_of_le (by omega), if_pos (by rfl), List.map_nil, List.append_nil]
  | succ d ih =>
    intro i acc hi ha
    have hlt : i < l.length := by omega
    have ex : rd l (i : Int) = l.getD i 0 := rfl
    rw [Pur.drop_cons l i hlt 0]
    generalize hx : l.getD i 0 = x at *
    by_cases h0 : x < 0
    · have hv : lcVi (vals.length : Int) (x :: l.drop (i + 1)) = false := by unfold lcVi; rw [List.all_cons, decide_eq_false (by omega : ¬ 0 ≤ x)]; rfl
      rw [hv, if_neg (by decide)]
      refine Ev.step (f := fun _ => _) (fun k => ?_) (Ev.now _)
      simp only [leave_told.l0]
      rw [if_pos (by omega), if_pos (by omega), if_pos (by omega), ex, if_pos h0]
    · by_cases h1 : x ≥ (vals.length : Int)
      · have hv : lcVi (vals.length : Int) (x :: l.drop (i + 1)) = false := by unfold lcVi; rw [List.all_cons, decide_eq_false (by omega : ¬ x < (vals.length : Int)), Bool.and_false]; rfl
        rw [hv, if_neg (by decide)]
        refine Ev.step (f := fun _ => _) (fun k => ?_) (Ev.now _)
        simp only [leave_told.l0]
        rw [if_pos (by omega), if_pos (by omega), if_pos (by omega), ex, if_neg h0, if_pos h1]
      · have hv : lcVi (vals.length : Int) (x :: l.drop (i + 1)) = lcVi (vals.length : Int) (l.drop (i + 1)) := by unfold lcVi; rw [List.all_cons, decide_eq_true (by omega : 0 ≤ x), decide_eq_true (by omega : x < (vals.length : Int))]; rfl
        rw [hv, List.map_cons]
        have := ih (i + 1) (acc ++ [rd_T23 vals x]) (by omega) (by simp [ha])
        rw [List.append_assoc] at this
        refine Ev.step (fun k => ?_) this
        simp only [leave_told.l0]
        rw [if_pos (by omega), if_pos (by omega), if_pos (by omega), ex, if_neg h0, if_neg h1, if_pos (by omega), if_pos (by omega), if_pos (by omega), Pur.wrap_succ (by omega)]
theorem told_ev (vals : List S23) (l : List Int) (hl : l.length < 8796093022208) : Ev (fun k => leave_told.f k l vals) (if lcVi vals.length l = true then (l.map (rd_T23 vals), true) else ([], false)) := by
  have := told_loop vals l hl l.length 0 [] (by omega) rfl
  simpa [leave_told.f] using this

open Classical in
noncomputable def mk (vals : List S23) : List S63 → List S61 → List S61 × Int
  | [], x => (x, 0)
  | m :: ms, x => if lcVi vals.length (m.f0 :: m.f3) = false then ([], 3) else if lcBad x (rd_T23 vals m.f0) then ([], 8) else mk vals ms (x.set (rd_T23 vals m.f0).f1.toNat ⟨m.f1, m.f2, m.f3.map (rd_T23 vals), []⟩)
theorem mk_lcL (vals : List S23) : ∀ (ms : List S63) (x : List S61), (∀ m ∈ ms, m.f3.length < 8796093022208) → lcL vals (mk vals ms x).1 (mk vals ms x).2 ms x
  | [], x, _ => by
    unfold mk lcL
    exact ⟨rfl, rfl, fun i _ => ⟨rfl, rfl, rfl, rfl⟩⟩
  | m :: ms, x, h => by
    unfold mk lcL
    refine ⟨h m List.mem_cons_self, ?_⟩
    by_cases hv : lcVi vals.length (m.f0 :: m.f3) = false
    · rw [if_pos hv]
      exact .inl ⟨hv, rfl, rfl⟩
    · rw [if_neg hv]
      refine .inr ⟨by simpa using hv, ?_⟩
      by_cases hb : lcBad x (rd_T23 vals m.f0)
      · rw [if_pos hb]
        exact .inl ⟨hb, rfl, rfl⟩
      · rw [if_neg hb]
        exact .inr ⟨hb, mk_lcL vals ms _ (fun y hy => h y (List.mem_cons_of_mem _ hy))⟩

theorem cells_loop (vals : List S23) (ms : List S63) (hl : ms.length < 4611686018427387904) (h3 : ∀ m ∈ ms, m.f3.length < 8796093022208) (d : Nat) : ∀ (i : Nat) (x : List S61), i + d = ms.length →
    Ev (fun k => leave_Cells.l0 k vals x ms ms.length i) (mk vals (ms.drop i) x) := by
  induction d with
  | zero =>
    intro i x hi
    refine Ev.step (f := fun _ => _) (fun k => ?_) (Ev.now _)
    simp only [leave_Cells.l0]
    rw [if_neg (by omega), List.drop_eq_nil_of_le (by omega)]
    rfl
  | succ d ih =>
    intro i x hi
    have hlt : i < ms.length := by omega
    have e : rd_T63 ms (i : Int) = ms.getD i z63 := rfl
    have hm : ms.getD i z63 ∈ ms := by
      rw [List.getD_eq_getElem?_getD, List.getElem?_eq_getElem hlt, Option.getD_some]
      exact List.getElem_mem _
    rw [Pur.drop_cons ms i hlt z63]
    generalize hs : ms.getD i z63 = m at *
    refine Ev.step (fun k => by
      simp only [leave_Cells.l0]
      rw [if_pos (by omega), if_pos (by omega), if_pos (by omega), e]) ?_
    have hsplit : lcVi vals.length (m.f0 :: m.f3) = (lcVi vals.length [m.f0] && lcVi vals.length m.f3) := by
      unfold lcVi
      simp
    refine Ev.bind (told_ev vals [m.f0] (by simp)) ?_
    refine Ev.bind (told_ev vals m.f3 (h3 m hm)) ?_
    unfold mk
    rw [hsplit]
    rcases ha : lcVi vals.length [m.f0] with _ | _
    · simp only [Bool.false_eq_true, if_false, Bool.false_and, if_true]
      refine Ev.step (f := fun _ => _) (fun k => ?_) (Ev.now _)
      simp only [leave_Cells.j1, if_true]
    · simp only [if_true, Bool.true_and]
      rcases hb : lcVi vals.length m.f3 with _ | _
      · simp only [Bool.false_eq_true, if_false, if_true]
        refine Ev.step (f := fun _ => _) (fun k => ?_) (Ev.now _)
        simp only [leave_Cells.j1, Bool.not_false, if_true]
      · simp only [if_true, Bool.true_eq_false, if_false, List.map_cons, List.map_nil, Bool.not_true]
        have ev : rd_T23 [rd_T23 vals m.f0] 0 = rd_T23 vals m.f0 := rfl
        generalize rd_T23 vals m.f0 = v at *
        refine Ev.step (fun k => by
          simp only [leave_Cells.j1]
          rw [if_neg (by decide), if_pos (by simp), ev]) ?_
        by_cases c1 : v.f0 = 5
        · by_cases c2 : v.f1 < 0
          · rw [if_pos (show lcBad x v from .inr (.inl c2))]
            exact Pur.ev_some (fun _ => by rw [if_pos c1, if_pos c2])
          · by_cases c3 : v.f1 ≥ (x.length : Int)
            · rw [if_pos (show lcBad x v from .inr (.inr (.inl c3)))]
              exact Pur.ev_some (fun _ => by rw [if_pos c1, if_neg c2, if_pos c3])
            · by_cases c4 : (rd_T61 x v.f1).f0 = 0
              · rw [if_neg (show ¬ lcBad x v from by rintro (h | h | h | h) <;> first | exact h c1 | exact c2 h | exact c3 h | exact h c4)]
                refine Ev.congr (fun k => ?_) (ih (i + 1) _ (by omega))
                rw [if_pos c1, if_neg c2, if_neg c3, if_pos (by omega), if_pos (by omega), if_pos c4, Pur.wrap_succ (by omega)]
              · rw [if_pos (show lcBad x v from .inr (.inr (.inr c4)))]
                exact Pur.ev_some (fun _ => by rw [if_pos c1, if_neg c2, if_neg c3, if_pos (by omega), if_pos (by omega), if_neg c4])
        · rw [if_pos (show lcBad x v from .inl c1)]
          exact Pur.ev_some (fun _ => by rw [if_neg c1])

theorem left_ev : Ev (fun k => backstitchlaw3_leftBy.f k) true := Ev.of (fun k => backstitchlaw3_leftBy.mono k) (k := 5) (by kernel_rfl)

theorem LeaveCells : backstitchlaw3_LeaveCells.Pure := by
  intro x0 x1 x2 h0 h1 h2
  obtain ⟨hn, h0⟩ := h0
  obtain ⟨_, _, _, hm, h1⟩ := h1
  have h3 : ∀ m ∈ x1.f3, m.f3.length < 8796093022208 := fun m hmm => by
    have := (h1 m hmm).2.2.2.1
    omega
  refine Ev.rounds (g := fun k => backstitchlaw3_LeaveCells.f k x0 x1.f0 x1.f1 x1.f2 x1.f3 x2) ?_
  unfold backstitchlaw3_LeaveCells.f
  refine Ev.bind left_ev ?_
  simp only [if_true]
  have hc : Ev (fun k => leave_Cells.f k x0 x1.f0 x1.f1 x1.f2 x1.f3 x2) (mk x2 x1.f3 x0) := by
    unfold leave_Cells.f
    have ho : leave_own.f x0 = some x0 := by
      unfold leave_own.f
      rw [if_pos]
      refine ⟨by omega, fun x hx => ?_⟩
      obtain ⟨_, _, ha, hb, hf⟩ := h0 x hx
      refine ⟨by have := ha.1; omega, by omega, fun y hy => ?_⟩
      obtain ⟨_, _, _, _, _, hr, ht⟩ := hf y hy
      exact ⟨by have := hr.1; omega, by have := ht.1; omega⟩
    rw [ho]
    simp only [Option.bind_some]
    exact cells_loop x2 x1.f3 (by omega) h3 x1.f3.length 0 x0 (by omega)
  refine Ev.bind hc ?_
  refine Pur.ev_some (fun _ => ?_)
  rw [if_pos ⟨by omega, mk_lcL x2 x1.f3 x0 h3⟩]

end Go.Proofs.Ytlojkphocbbjdaa.Pure
