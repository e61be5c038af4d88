/- LiveTells: for every trace the law's printed function answers true. -/
import Derived.Test.YtlojkphocbbjdaaPLiveTellso
import Derived.Test.YtlojkphocbbjdaaHPure
namespace Go.Proofs.Ytlojkphocbbjdaa.Pure
open Go.RowKit Go.Proofs.Ytlojkphocbbjdaa.PLiveTells Go.Proofs.YtlojkphocbbjdaaW Go.Proofs.YtlojkphocbbjdaaW.PrintWords Go.Proofs.YtlojkphocbbjdaaW.PrintLast Go.Proofs.YtlojkphocbbjdaaW.PrintMore
set_option linter.unusedVariables false
set_option linter.unusedSimpArgs false

/-! what both know: values of an exit, what an operation asks, which tell -/
theorem has_l (l : List Int) (hl : l.length < 4611686018427387904) (x : Int) (d : Nat) : ∀ (i : Nat), i + d = l.length → Ev (fun k => backstitchref3_Has_int.l0 k x l l.length i) (decide (x ∈ l.drop i)) := by
  induction d with
  | zero =>
    intro i hi
    refine Ev.step (f := fun _ => _) (fun k => ?_) (Ev.now _)
    simp only [backstitchref3_Has_int.l0]
    rw [if_neg (by omega), List.drop_eq_nil_of_le (by omega)]
    simp
  | succ d ih =>
    intro i hi
    have hlt : i < l.length := by omega
    have e : rd l (i : Int) = l.getD i 0 := rfl
    rw [Pur.drop_cons l i hlt 0]
    generalize hs : l.getD i 0 = b at *
    by_cases c : x = b
    · refine Ev.step (f := fun _ => _) (fun k => ?_) (Ev.now _)
      simp only [backstitchref3_Has_int.l0]
      rw [if_pos (by omega), if_pos (by omega), if_pos (by omega), e, if_pos c]
      simp [c]
    · have := ih (i + 1) (by omega)
      rw [show decide (x ∈ b :: l.drop (i + 1)) = decide (x ∈ l.drop (i + 1)) by simp [c]]
      refine Ev.step (fun k => ?_) this
      simp only [backstitchref3_Has_int.l0]
      rw [if_pos (by omega), if_pos (by omega), if_pos (by omega), e, if_neg c, Pur.wrap_succ (by omega)]
theorem has_ev (l : List Int) (hl : l.length < 4611686018427387904) (x : Int) : Ev (fun k => backstitchref3_Has_int.f k l x) (decide (x ∈ l)) := by
  have := has_l l hl x l.length 0 (by omega)
  rw [List.drop_zero] at this
  exact this
theorem small (x : Int) : (x = 1 ∨ x = 2 ∨ x = 3 ∨ x = 4 ∨ x = 5 ∨ x = 6 ∨ x = 7 ∨ x = 8 ∨ x = 9 ∨ x = 10 ∨ x = 11 ∨ x = 12 ∨ x = 13 ∨ x = 14 ∨ x = 15 ∨ x = 16 ∨ x = 17 ∨ x = 18 ∨ x = 19) ∨ (x < 1 ∨ 19 < x) := by omega
theorem tells_ev (op : Int) : Ev (fun k => backstitchref3_Tells.f k op) (tellsB op) := by
  have h := has_ev [1, 2, 3, 7, 8, 10, 13, 15, 16, 18] (by simp) op
  have e : tellsB op = decide (op ∈ ([1, 2, 3, 7, 8, 10, 13, 15, 16, 18] : List Int)) := by
    rcases small op with (rfl | rfl | rfl | rfl | rfl | rfl | rfl | rfl | rfl | rfl | rfl | rfl | rfl | rfl | rfl | rfl | rfl | rfl | rfl) | h
    all_goals first | rfl | skip
    unfold tellsB ir_of.f
    rw [if_neg (by omega), if_neg (by omega), if_neg (by omega), if_neg (by omega), if_neg (by omega), if_neg (by omega), if_neg (by omega), if_neg (by omega), if_neg (by omega), if_neg (by omega), if_neg (by omega), if_neg (by omega), if_neg (by omega), if_neg (by omega), if_neg (by omega), if_neg (by omega), if_neg (by omega), if_neg (by omega), if_neg (by omega)]
    simp
    omega
  rw [e]
  unfold backstitchref3_Tells.f
  exact Ev.bind h (Ev.now _)
def asksL (x : S181) : List Int := if x.f0 = 4 ∨ x.f0 = 5 ∨ x.f0 = 6 ∨ x.f0 = 8 ∨ x.f0 = 9 ∨ x.f0 = 10 ∨ x.f0 = 15 then [x.f1] else if x.f0 = 7 ∨ x.f0 = 11 ∨ x.f0 = 12 ∨ x.f0 = 13 ∨ x.f0 = 17 then [x.f1, x.f2] else if x.f0 = 14 then [x.f1, x.f2, x.f3] else []
theorem asks_len (x : S181) : (asksL x).length ≤ 3 := by
  unfold asksL
  repeat' split
  all_goals simp
theorem irasks (x : S181) : ir_Asks.f x.f0 x.f1 x.f2 x.f3 x.f4 x.f5 x.f6.f0 x.f6.f1 = some (asksL x) := by
  obtain ⟨f0, f1, f2, f3, f4, f5, f6⟩ := x
  rcases small f0 with (rfl | rfl | rfl | rfl | rfl | rfl | rfl | rfl | rfl | rfl | rfl | rfl | rfl | rfl | rfl | rfl | rfl | rfl | rfl) | h
  all_goals first | rfl | skip
  unfold ir_Asks.f ir_of.f asksL
  dsimp only
  rw [if_neg (by omega), if_neg (by omega), if_neg (by omega), if_neg (by omega), if_neg (by omega), if_neg (by omega), if_neg (by omega), if_neg (by omega), if_neg (by omega), if_neg (by omega), if_neg (by omega), if_neg (by omega), if_neg (by omega), if_neg (by omega), if_neg (by omega), if_neg (by omega), if_neg (by omega), if_neg (by omega), if_neg (by omega)]
  rw [if_neg (by omega), if_neg (by omega), if_neg (by omega)]
  simp
theorem rasks (x : S181) : Ev (fun k => backstitchref3_Asks.f k x.f0 x.f1 x.f2 x.f3 x.f4 x.f5 x.f6.f0 x.f6.f1) (asksL x) := by
  obtain ⟨f0, f1, f2, f3, f4, f5, f6⟩ := x
  refine Ev.of (fun k => backstitchref3_Asks.mono _ _ _ _ _ _ _ _ k) (k := 2) ?_
  rcases small f0 with (rfl | rfl | rfl | rfl | rfl | rfl | rfl | rfl | rfl | rfl | rfl | rfl | rfl | rfl | rfl | rfl | rfl | rfl | rfl) | h
  all_goals first | rfl | skip
  have hb : ∀ n : Int, 1 ≤ n → n ≤ 19 → (f0 == n) = false := fun n h1 h2 => beq_eq_false_iff_ne.mpr (by omega)
  unfold backstitchref3_Asks.f asksL
  simp only [backstitchref3_Asks.j0, backstitchref3_Asks.j1]
  rw [if_neg (by omega), if_neg (by omega), if_neg (by omega), if_neg (by omega), if_neg (by omega), if_neg (by omega), hb 15 (by omega) (by omega), if_neg (by decide), if_neg (by omega), if_neg (by omega), if_neg (by omega), if_neg (by omega), hb 17 (by omega) (by omega), if_neg (by decide), if_neg (by omega), if_neg (by omega), if_neg (by omega), if_neg (by omega)]
def okX (x : S31) : Prop := x.f2.length ≤ 1048576 ∧ x.f3.length ≤ 1048576 ∧ ∀ m ∈ x.f3, m.f3.length ≤ 1048576
theorem makes_len : ∀ (l : List S63), (∀ m ∈ l, m.f3.length ≤ 1048576) → (makesL l).length ≤ l.length * 1048577
  | [], _ => by simp [makesL]
  | m :: l, h => by
    have h1 := makes_len l (fun m hm => h m (List.mem_cons_of_mem _ hm))
    have h2 := h m (by simp)
    simp only [makesL, List.length_append, List.length_cons]
    omega
abbrev vx (x : S31) : List Int := valuesL x.f2 x.f3
theorem vlen {x : S31} (h : okX x) : (vx x).length < 4611686018427 := by
  have := makes_len x.f3 h.2.2
  have h1 := h.1
  have h2 := h.2.1
  simp only [vx, valuesL, List.length_append, List.length_map]
  omega
theorem lvals {x : S31} (h : okX x) (k : Nat) : live_Values.f k x.f0 x.f1 x.f2 x.f3 = some (vx x) := by
  have := vlen h
  unfold live_Values.f
  rw [if_pos (by show (vx x).length < _; omega)]
theorem rv1 (l : List S63) (hl : l.length < 4611686018427387904) (d : Nat) : ∀ (i : Nat) (acc : List Int), i + d = l.length → acc.length + (makesL (l.drop i)).length < 17592186044416 → Ev (fun k => backstitchref3_Values.l1 k acc l l.length i) (acc ++ makesL (l.drop i)) := by
  induction d with
  | zero =>
    intro i acc hi ha
    refine Ev.step (f := fun _ => _) (fun k => ?_) (Ev.now _)
    simp only [backstitchref3_Values.l1]
    rw [if_neg (by omega), List.drop_eq_nil_of_le (by omega)]
    simp [makesL]
  | succ d ih =>
    intro i acc hi ha
    have hlt : i < l.length := by omega
    have e : rd_T63 l (i : Int) = l.getD i z63 := rfl
    rw [Pur.drop_cons l i hlt z63] at ha ⊢
    generalize hs : l.getD i z63 = m at *
    simp only [makesL, List.length_append, List.length_cons] at ha
    have := ih (i + 1) ((acc ++ [m.f0]) ++ m.f3) (by omega) (by simp; omega)
    rw [show acc ++ makesL (m :: l.drop (i + 1)) = ((acc ++ [m.f0]) ++ m.f3) ++ makesL (l.drop (i + 1)) by simp [makesL]]
    refine Ev.step (fun k => ?_) this
    simp only [backstitchref3_Values.l1]
    rw [if_pos (by omega), if_pos (by omega), if_pos (by omega), if_pos (by omega), e, Option.bind_some, if_pos (by simp; omega), Pur.wrap_succ (by omega)]
theorem rv0 (x : S31) (hx : x.f3.length < 4611686018427387904) (l : List S38) (hl : l.length < 4611686018427387904) (d : Nat) : ∀ (i : Nat) (acc : List Int), i + d = l.length → acc.length + d + (makesL x.f3).length < 17592186044416 → Ev (fun k => backstitchref3_Values.l0 k acc l l.length i x.f0 x.f1 x.f2 x.f3) (acc ++ (l.drop i).map (fun s => s.f1) ++ makesL x.f3) := by
  induction d with
  | zero =>
    intro i acc hi ha
    have := rv1 x.f3 hx x.f3.length 0 acc (by omega) (by rw [List.drop_zero]; omega)
    rw [List.drop_zero] at this
    rw [List.drop_eq_nil_of_le (by omega), List.map_nil, List.append_nil]
    refine Ev.step (fun k => ?_) this
    simp only [backstitchref3_Values.l0]
    rw [if_neg (by omega)]
    rfl
  | succ d ih =>
    intro i acc hi ha
    have hlt : i < l.length := by omega
    have e : rd_T38 l (i : Int) = l.getD i z38 := rfl
    rw [Pur.drop_cons l i hlt z38]
    generalize hs : l.getD i z38 = s at *
    have := ih (i + 1) (acc ++ [s.f1]) (by omega) (by simp; omega)
    rw [show acc ++ (s :: l.drop (i + 1)).map (fun s => s.f1) ++ makesL x.f3 = (acc ++ [s.f1]) ++ (l.drop (i + 1)).map (fun s => s.f1) ++ makesL x.f3 by simp]
    refine Ev.step (fun k => ?_) this
    simp only [backstitchref3_Values.l0]
    rw [if_pos (by omega), if_pos (by omega), if_pos (by omega), if_pos (by omega), e, Pur.wrap_succ (by omega)]
theorem rvals {x : S31} (h : okX x) : Ev (fun k => backstitchref3_Values.f k x.f0 x.f1 x.f2 x.f3) (vx x) := by
  have hl := vlen h
  simp only [vx, valuesL, List.length_append, List.length_map] at hl
  have h1 := h.1
  have h2 := h.2.1
  have := rv0 x (by omega) x.f2 (by omega) x.f2.length 0 [] (by omega) (by simp; omega)
  rw [List.drop_zero, List.nil_append] at this
  exact this
/-! R: valuesMay, exitLarge -/
section
variable (a0 a1 a2 : Int) (ins : List S181) (exs : List S31) (b0 b1 : Int) (bs : List S38) (bm : List S63) (c0 c1 : Int) (cs : List S38) (cm : List S63)
theorem may_l (at_ : Int) (h0 : 0 ≤ at_) (h1 : at_ ≤ ins.length) (l : List Int) (hl : l.length < 4611686018427387904) (d : Nat) : ∀ (i : Nat), i + d = l.length → Ev (fun k => backstitchref3_valuesMay.l0 k at_ l l.length i a0 a1 a2 ins exs b0 b1 bs bm c0 c1 cs cm) (!(l.drop i).any (allP ins at_)) := by
  induction d with
  | zero =>
    intro i hi
    refine Ev.step (f := fun _ => _) (fun k => ?_) (Ev.now _)
    simp only [backstitchref3_valuesMay.l0]
    rw [if_neg (by omega), List.drop_eq_nil_of_le (by omega)]
    rfl
  | succ d ih =>
    intro i hi
    have hlt : i < l.length := by omega
    have e : rd l (i : Int) = l.getD i 0 := rfl
    rw [Pur.drop_cons l i hlt 0]
    generalize hs : l.getD i 0 = v at *
    have hstep : ∀ k, backstitchref3_valuesMay.l0 (k + 1) at_ l l.length i a0 a1 a2 ins exs b0 b1 bs bm c0 c1 cs cm = if v < 0 then some false else if v ≥ at_ then some false else if 0 ≤ v then (if v < (ins.length : Int) then (backstitchref3_Tells.f k (rd_T181 ins v).f0).bind fun t => if t = true then backstitchref3_valuesMay.l0 k at_ l l.length ((i + 1 : Nat) : Int) a0 a1 a2 ins exs b0 b1 bs bm c0 c1 cs cm else some false else none) else none := fun k => by
      simp only [backstitchref3_valuesMay.l0]
      rw [if_pos (by omega), if_pos (by omega), if_pos (by omega), e, Pur.wrap_succ (by omega)]
    rw [List.any_cons]
    by_cases c1_ : v < 0
    · rw [show allP ins at_ v = true by unfold allP; rw [decide_eq_true c1_]; rfl]
      refine Ev.step (f := fun _ => _) (fun k => ?_) (Ev.now _)
      rw [hstep, if_pos c1_]
      rfl
    by_cases c2_ : v ≥ at_
    · rw [show allP ins at_ v = true by unfold allP; rw [decide_eq_true c2_]; simp]
      refine Ev.step (f := fun _ => _) (fun k => ?_) (Ev.now _)
      rw [hstep, if_neg c1_, if_pos c2_]
      rfl
    have e2 : allP ins at_ v = !tellsB (rd_T181 ins v).f0 := by
      unfold allP
      rw [decide_eq_false c1_, decide_eq_false c2_, decide_eq_false (by omega : ¬ v ≥ (ins.length : Int))]
      rfl
    refine Ev.step (f := fun k => (backstitchref3_Tells.f k (rd_T181 ins v).f0).bind fun t => if t = true then backstitchref3_valuesMay.l0 k at_ l l.length ((i + 1 : Nat) : Int) a0 a1 a2 ins exs b0 b1 bs bm c0 c1 cs cm else some false) (fun k => ?_) (Ev.bind (tells_ev _) ?_)
    · rw [hstep, if_neg c1_, if_neg c2_, if_pos (by omega), if_pos (by omega)]
    · rw [e2]
      cases tellsB (rd_T181 ins v).f0 with
      | true => exact ih (i + 1) (by omega)
      | false => exact Ev.now _
theorem may_ev (at_ : Int) (h0 : 0 ≤ at_) (h1 : at_ ≤ ins.length) (l : List Int) (hl : l.length < 4611686018427387904) : Ev (fun k => backstitchref3_valuesMay.f k a0 a1 a2 ins exs b0 b1 bs bm c0 c1 cs cm l at_) (!l.any (allP ins at_)) := by
  have := may_l a0 a1 a2 ins exs b0 b1 bs bm c0 c1 cs cm at_ h0 h1 l hl l.length 0 (by omega)
  rw [List.drop_zero] at this
  exact this
end
theorem large_l (x : S31) (l : List S63) (hl : l.length < 4611686018427387904) (d : Nat) : ∀ (i : Nat), i + d = l.length → Ev (fun k => backstitchref3_exitLarge.l0 k l l.length i x.f0 x.f1 x.f2 x.f3) (decide (60 < x.f2.length) || decide (300 < x.f3.length) || (l.drop i).any largeM) := by
  induction d with
  | zero =>
    intro i hi
    refine Ev.step (f := fun _ => _) (fun k => ?_) (Ev.now _)
    simp only [backstitchref3_exitLarge.l0]
    rw [if_neg (by omega), List.drop_eq_nil_of_le (by omega), List.any_nil, Bool.or_false]
    by_cases c : (x.f2.length : Int) > 60
    · rw [if_pos c, decide_eq_true (by omega : 60 < x.f2.length)]
      rfl
    · rw [if_neg c, decide_eq_false (by omega : ¬ 60 < x.f2.length), Bool.false_or]
      congr 1
      exact decide_eq_decide.mpr (by omega)
  | succ d ih =>
    intro i hi
    have hlt : i < l.length := by omega
    have e : rd_T63 l (i : Int) = l.getD i z63 := rfl
    rw [Pur.drop_cons l i hlt z63, List.any_cons]
    generalize hs : l.getD i z63 = m at *
    by_cases c : (m.f3.length : Int) > 100
    · refine Ev.step (f := fun _ => _) (fun k => ?_) (Ev.now _)
      simp only [backstitchref3_exitLarge.l0]
      rw [if_pos (by omega), if_pos (by omega), if_pos (by omega), e, if_pos c, show largeM m = true from decide_eq_true (by omega)]
      simp
    · rw [show largeM m = false from decide_eq_false (by omega), Bool.false_or]
      refine Ev.step (fun k => ?_) (ih (i + 1) (by omega))
      simp only [backstitchref3_exitLarge.l0]
      rw [if_pos (by omega), if_pos (by omega), if_pos (by omega), e, if_neg c, Pur.wrap_succ (by omega)]
theorem large_ev {x : S31} (h : okX x) : Ev (fun k => backstitchref3_exitLarge.f k x.f0 x.f1 x.f2 x.f3) (largeX x) := by
  have h2 := h.2.1
  have := large_l x x.f3 (by omega) x.f3.length 0 (by omega)
  rw [List.drop_zero] at this
  exact this
/-! the faults -/
section
variable (a0 a1 a2 : Int) (ins : List S181) (exs : List S31) (b0 b1 : Int) (bs : List S38) (bm : List S63) (c0 c1 : Int) (cs : List S38) (cm : List S63)
def bad (ins : List S181) (n : Int) (x : S31) : Bool := (vx x).any (allP ins n)
def oneS (ins : List S181) (exs : List S31) (i : Int) : Int :=
  if (rd_T181 ins i).f0 < 1 ∨ 20 ≤ (rd_T181 ins i).f0 then 7 else if (asksL (rd_T181 ins i)).any (allP ins i) = true ∨ (rd_T181 ins i).f5 < -1 ∨ (exs.length : Int) ≤ (rd_T181 ins i).f5 then 3
  else if 0 ≤ (rd_T181 ins i).f5 ∧ bad ins i (rd_T31 exs (rd_T181 ins i).f5) = true then 3 else 0
def insS (ins : List S181) (exs : List S31) : Nat → Int → Int
  | 0, _ => 0
  | d + 1, i => if oneS ins exs i = 0 then insS ins exs d (i + 1) else oneS ins exs i
def finS (a2 : Int) (ins : List S181) (exs : List S31) (turn back : S31) : Int :=
  if 0 < a2 ∧ bad ins a2 turn = true then 3 else if (back :: exs).any (bad ins ins.length) = true then 3 else if ((back :: exs) ++ [turn]).any largeX = true then 2 else 0
def faultS (a2 : Int) (ins : List S181) (exs : List S31) (turn back : S31) : Int :=
  if 300 < ins.length ∨ 200 < exs.length then 2 else if a2 < 0 ∨ (ins.length : Int) < a2 then 3 else if insS ins exs ins.length 0 = 0 then finS a2 ins exs turn back else insS ins exs ins.length 0
theorem lall (l : List Int) (hl : l.length < 4611686018427387904) (n : Int) : live_all.f a0 a1 a2 ins exs b0 b1 bs bm c0 c1 cs cm l n = some (!l.any (allP ins n)) := by
  unfold live_all.f
  rw [if_pos hl]
theorem rd_ok {exs : List S31} (hx : ∀ x ∈ exs, okX x) {i : Int} (h0 : 0 ≤ i) (h1 : i < exs.length) : okX (rd_T31 exs i) := by
  refine hx _ ?_
  rw [rd_T31, List.getD_eq_getElem?_getD, List.getElem?_eq_getElem (by omega), Option.getD_some]
  exact List.getElem_mem _
theorem lone_ev (hx : ∀ x ∈ exs, okX x) (i : Int) (h0 : 0 ≤ i) (h1 : i < ins.length) : Ev (fun k => live_one.f k a0 a1 a2 ins exs b0 b1 bs bm c0 c1 cs cm i) (oneS ins exs i) := by
  generalize hX : rd_T181 ins i = x at *
  have hk : live_known.f x.f0 = some (decide (1 ≤ x.f0) && decide (x.f0 < 20)) := rfl
  have ha := asks_len x
  unfold oneS
  rw [hX]
  by_cases c1_ : x.f0 < 1 ∨ 20 ≤ x.f0
  · rw [if_pos c1_]
    refine Ev.congr (f := fun _ => some 7) (fun k => ?_) (Ev.now _)
    unfold live_one.f
    rw [if_pos h0, if_pos h1, hX, hk, Option.bind_some, if_neg (by simp; omega)]
  rw [if_neg c1_]
  have hkt : live_known.f x.f0 = some true := by rw [hk, decide_eq_true (by omega : 1 ≤ x.f0), decide_eq_true (by omega : x.f0 < 20)]; rfl
  have hstep : ∀ k, live_one.f k a0 a1 a2 ins exs b0 b1 bs bm c0 c1 cs cm i = if (!(asksL x).any (allP ins i)) = true then (if x.f5 < -1 then live_one.j0 k i true a0 a1 a2 ins exs b0 b1 bs bm c0 c1 cs cm x.f0 x.f1 x.f2 x.f3 x.f4 x.f5 x.f6.f0 x.f6.f1 else live_one.j0 k i (decide (x.f5 ≥ (exs.length : Int))) a0 a1 a2 ins exs b0 b1 bs bm c0 c1 cs cm x.f0 x.f1 x.f2 x.f3 x.f4 x.f5 x.f6.f0 x.f6.f1) else live_one.j0 k i true a0 a1 a2 ins exs b0 b1 bs bm c0 c1 cs cm x.f0 x.f1 x.f2 x.f3 x.f4 x.f5 x.f6.f0 x.f6.f1 := fun k => by
    unfold live_one.f
    rw [if_pos h0, if_pos h1, hX, hkt, Option.bind_some, if_pos rfl, irasks, Option.bind_some, lall a0 a1 a2 ins exs b0 b1 bs bm c0 c1 cs cm _ (by omega), Option.bind_some]
  have hbad : ∀ c : Bool, c = true → Ev (fun k => live_one.j0 k i c a0 a1 a2 ins exs b0 b1 bs bm c0 c1 cs cm x.f0 x.f1 x.f2 x.f3 x.f4 x.f5 x.f6.f0 x.f6.f1) 3 := fun c hc => by
    refine Ev.step (f := fun _ => some 3) (fun k => ?_) (Ev.now _)
    simp only [live_one.j0]
    rw [if_pos hc]
  by_cases c2_ : (asksL x).any (allP ins i) = true
  · rw [if_pos (.inl c2_)]
    refine Ev.congr (fun k => ?_) (hbad true rfl)
    rw [hstep, if_neg (by rw [c2_]; decide)]
  have c2f : (asksL x).any (allP ins i) = false := by simpa using c2_
  by_cases c3_ : x.f5 < -1
  · rw [if_pos (.inr (.inl c3_))]
    refine Ev.congr (fun k => ?_) (hbad true rfl)
    rw [hstep, if_pos (by rw [c2f]; rfl), if_pos c3_]
  by_cases c4_ : (exs.length : Int) ≤ x.f5
  · rw [if_pos (.inr (.inr c4_))]
    refine Ev.congr (fun k => ?_) (hbad _ (decide_eq_true c4_))
    rw [hstep, if_pos (by rw [c2f]; rfl), if_neg c3_]
  rw [if_neg (fun h => h.elim c2_ (fun h => h.elim c3_ c4_))]
  have hgo : ∀ k, live_one.f (k + 1) a0 a1 a2 ins exs b0 b1 bs bm c0 c1 cs cm i = if x.f5 ≥ 0 then (if 0 ≤ x.f5 then (if x.f5 < (exs.length : Int) then ((live_Values.f k (rd_T31 exs x.f5).f0 (rd_T31 exs x.f5).f1 (rd_T31 exs x.f5).f2 (rd_T31 exs x.f5).f3).bind fun t => (live_all.f a0 a1 a2 ins exs b0 b1 bs bm c0 c1 cs cm t i).bind fun q => if q = true then some 0 else some 3) else none) else none) else some 0 := fun k => by
    rw [hstep, if_pos (by rw [c2f]; rfl), if_neg c3_, decide_eq_false (by omega : ¬ x.f5 ≥ (exs.length : Int))]
    simp only [live_one.j0]
    rw [if_neg (by decide)]
  by_cases c5_ : 0 ≤ x.f5
  · have hok := rd_ok hx c5_ (by omega)
    have hv := vlen hok
    refine Ev.step (f := fun _ => _) (fun k => ?_) (Ev.now _)
    rw [hgo, if_pos c5_, if_pos c5_, if_pos (by omega), lvals hok, Option.bind_some, lall a0 a1 a2 ins exs b0 b1 bs bm c0 c1 cs cm _ (by omega), Option.bind_some]
    unfold bad
    cases (vx (rd_T31 exs x.f5)).any (allP ins i) <;> simp [c5_]
  · refine Ev.step (f := fun _ => _) (fun k => ?_) (Ev.now _)
    rw [hgo, if_neg (by omega), if_neg (fun h => c5_ h.1)]
theorem lins_ev (hx : ∀ x ∈ exs, okX x) : ∀ (d : Nat) (i : Int), 0 ≤ i → i + d = ins.length → Ev (fun k => onesL k a0 a1 a2 ins exs b0 b1 bs bm c0 c1 cs cm d i) (insS ins exs d i)
  | 0, i, _, _ => Ev.now _
  | d + 1, i, h0, h1 => by
    refine Ev.congr (f := fun k => (live_one.f k a0 a1 a2 ins exs b0 b1 bs bm c0 c1 cs cm i).bind fun e => if e = 0 then onesL k a0 a1 a2 ins exs b0 b1 bs bm c0 c1 cs cm d (i + 1) else some e) (fun k => by rw [onesL]) (Ev.bind (lone_ev a0 a1 a2 ins exs b0 b1 bs bm c0 c1 cs cm hx i h0 (by omega)) ?_)
    rw [insS]
    by_cases c : oneS ins exs i = 0
    · simp only [if_pos c]
      exact lins_ev hx d (i + 1) (by omega) (by omega)
    · simp only [if_neg c]
      exact Ev.now _
theorem pv_eq {x : S31} (h : okX x) (k : Nat) (n : Int) : pv k ins n x = bad ins n x := by
  unfold pv
  rw [lvals h]
  rfl
theorem okV_eq {x : S31} (h : okX x) (k : Nat) : okV k x = true := by
  have := vlen h
  have := h.2.1
  unfold okV
  rw [lvals h]
  simp
  omega
theorem check_ev (hx : ∀ x ∈ exs, okX x) (ht : okX ⟨b0, b1, bs, bm⟩) (hb : okX ⟨c0, c1, cs, cm⟩) : Ev (fun k => live_Check.f k a0 a1 a2 ins exs b0 b1 bs bm c0 c1 cs cm) (faultS a2 ins exs ⟨b0, b1, bs, bm⟩ ⟨c0, c1, cs, cm⟩) := by
  unfold live_Check.f faultS
  by_cases c1_ : 300 < ins.length ∨ 200 < exs.length
  · simp only [if_pos c1_]
    exact Ev.now _
  simp only [if_neg c1_]
  by_cases c2_ : a2 < 0 ∨ (ins.length : Int) < a2
  · simp only [if_pos c2_]
    exact Ev.now _
  simp only [if_neg c2_]
  refine Ev.bind (lins_ev a0 a1 a2 ins exs b0 b1 bs bm c0 c1 cs cm hx ins.length 0 (by omega) (by omega)) ?_
  by_cases c3_ : insS ins exs ins.length 0 = 0
  · simp only [if_pos c3_]
    have hall : ∀ x ∈ ((⟨c0, c1, cs, cm⟩ : S31) :: exs) ++ [(⟨b0, b1, bs, bm⟩ : S31)], okX x := by
      intro x hm
      simp only [List.cons_append, List.mem_cons, List.mem_append, List.mem_nil_iff, or_false] at hm
      rcases hm with rfl | hm | rfl
      · exact hb
      · exact hx x hm
      · exact ht
    refine Pur.ev_some (fun k => ?_)
    have hok : chkOk k a0 a1 a2 ins exs b0 b1 bs bm c0 c1 cs cm = true := by
      unfold chkOk
      simp only [Bool.and_eq_true, decide_eq_true_eq, List.all_eq_true]
      exact ⟨by omega, fun x hm => okV_eq (hall x hm) k⟩
    have hany : ((⟨c0, c1, cs, cm⟩ : S31) :: exs).any (pv k ins ins.length) = ((⟨c0, c1, cs, cm⟩ : S31) :: exs).any (bad ins ins.length) := by
      rw [Bool.eq_iff_iff, List.any_eq_true, List.any_eq_true]
      constructor
      · rintro ⟨x, hm, hp⟩
        exact ⟨x, hm, by rw [← pv_eq ins (hall x (List.mem_append_left _ hm)) k]; exact hp⟩
      · rintro ⟨x, hm, hp⟩
        exact ⟨x, hm, by rw [pv_eq ins (hall x (List.mem_append_left _ hm)) k]; exact hp⟩
    rw [if_pos hok]
    unfold chkX finS
    rw [pv_eq ins ht, hany]
  · simp only [if_neg c3_]
    exact Ev.now _
end
section
variable (a0 a1 a2 : Int) (ins : List S181) (exs : List S31) (b0 b1 : Int) (bs : List S38) (bm : List S63) (c0 c1 : Int) (cs : List S38) (cm : List S63)
theorem fmay_ev {x : S31} (h : okX x) (n : Int) (h0 : 0 ≤ n) (h1 : n ≤ ins.length) : Ev (fun k => backstitchref3_TraceFault.may k a0 a1 a2 ins exs b0 b1 bs bm c0 c1 cs cm x n) (!bad ins n x) := by
  have := vlen h
  unfold backstitchref3_TraceFault.may
  exact Ev.bind (rvals h) (may_ev a0 a1 a2 ins exs b0 b1 bs bm c0 c1 cs cm n h0 h1 _ (by omega))
theorem fst_ev (hx : ∀ x ∈ exs, okX x) (i : Int) (h0 : 0 ≤ i) (h1 : i < ins.length) : Ev (fun k => backstitchref3_TraceFault.st k a0 a1 a2 ins exs b0 b1 bs bm c0 c1 cs cm i) (oneS ins exs i) := by
  unfold backstitchref3_TraceFault.st oneS
  have ha := asks_len (rd_T181 ins i)
  generalize hX : rd_T181 ins i = x at *
  by_cases d1 : x.f0 < 1
  · simp only [if_pos d1, if_pos (show x.f0 < 1 ∨ 20 ≤ x.f0 from .inl d1)]
    exact Ev.now _
  by_cases d2 : 20 ≤ x.f0
  · simp only [if_neg d1, if_pos d2, if_pos (show x.f0 < 1 ∨ 20 ≤ x.f0 from .inr d2)]
    exact Ev.now _
  simp only [if_neg d1, if_neg d2, if_neg (show ¬ (x.f0 < 1 ∨ 20 ≤ x.f0) by omega)]
  refine Ev.bind (rasks x) ?_
  refine Ev.bind (may_ev a0 a1 a2 ins exs b0 b1 bs bm c0 c1 cs cm i h0 (by omega) _ (by omega)) ?_
  cases hc : (asksL x).any (allP ins i) with
  | true =>
    rw [if_pos (.inl rfl)]
    exact Ev.now _
  | false =>
    simp only [Bool.not_false, if_true, Bool.false_eq_true, false_or]
    by_cases d3 : x.f5 < -1
    · simp only [if_pos d3, if_pos (show x.f5 < -1 ∨ (exs.length : Int) ≤ x.f5 from .inl d3)]
      exact Ev.now _
    by_cases d4 : (exs.length : Int) ≤ x.f5
    · simp only [if_neg d3, if_pos d4, if_pos (show x.f5 < -1 ∨ (exs.length : Int) ≤ x.f5 from .inr d4)]
      exact Ev.now _
    simp only [if_neg d3, if_neg d4, if_neg (show ¬ (x.f5 < -1 ∨ (exs.length : Int) ≤ x.f5) by omega)]
    by_cases d5 : 0 ≤ x.f5
    · simp only [if_pos d5]
      refine Ev.bind (fmay_ev a0 a1 a2 ins exs b0 b1 bs bm c0 c1 cs cm (rd_ok hx d5 (by omega)) i h0 (by omega)) ?_
      cases hb : bad ins i (rd_T31 exs x.f5) with
      | true => simp only [Bool.not_true, if_pos (And.intro d5 trivial)]; simp [d5]; exact Ev.now _
      | false => simp; exact Ev.now _
    · simp only [if_neg d5, if_neg (fun h : 0 ≤ x.f5 ∧ _ => d5 h.1)]
      exact Ev.now _
theorem fins_ev (hx : ∀ x ∈ exs, okX x) : ∀ (d : Nat) (i : Int), 0 ≤ i → i + d = ins.length → Ev (fun k => backstitchref3_TraceFault.ins k a0 a1 a2 ins exs b0 b1 bs bm c0 c1 cs cm d i) (insS ins exs d i)
  | 0, i, _, _ => Ev.now _
  | d + 1, i, h0, h1 => by
    refine Ev.congr (f := fun k => (backstitchref3_TraceFault.st k a0 a1 a2 ins exs b0 b1 bs bm c0 c1 cs cm i).bind fun e => if e = 0 then backstitchref3_TraceFault.ins k a0 a1 a2 ins exs b0 b1 bs bm c0 c1 cs cm d (i + 1) else some e) (fun k => by rw [backstitchref3_TraceFault.ins]) (Ev.bind (fst_ev a0 a1 a2 ins exs b0 b1 bs bm c0 c1 cs cm hx i h0 (by omega)) ?_)
    rw [insS]
    by_cases c : oneS ins exs i = 0
    · simp only [if_pos c]
      exact fins_ev hx d (i + 1) (by omega) (by omega)
    · simp only [if_neg c]
      exact Ev.now _
theorem fexs_ev : ∀ (l : List S31), (∀ x ∈ l, okX x) → Ev (fun k => backstitchref3_TraceFault.exs k a0 a1 a2 ins exs b0 b1 bs bm c0 c1 cs cm l) (if l.any (bad ins ins.length) = true then 3 else 0)
  | [], _ => Ev.now _
  | x :: l, h => by
    refine Ev.congr (f := fun k => (backstitchref3_TraceFault.may k a0 a1 a2 ins exs b0 b1 bs bm c0 c1 cs cm x ins.length).bind fun b => if b = true then backstitchref3_TraceFault.exs k a0 a1 a2 ins exs b0 b1 bs bm c0 c1 cs cm l else some 3) (fun k => by rw [backstitchref3_TraceFault.exs]) (Ev.bind (fmay_ev a0 a1 a2 ins exs b0 b1 bs bm c0 c1 cs cm (h x (by simp)) ins.length (by omega) (by omega)) ?_)
    rw [List.any_cons]
    cases hb : bad ins ins.length x with
    | true => exact Ev.now _
    | false =>
      have := fexs_ev l (fun y hy => h y (List.mem_cons_of_mem _ hy))
      rw [Bool.false_or]
      exact this
theorem flrg_ev : ∀ (l : List S31), (∀ x ∈ l, okX x) → Ev (fun k => backstitchref3_TraceFault.lrg k l) (if l.any largeX = true then 2 else 0)
  | [], _ => Ev.now _
  | x :: l, h => by
    refine Ev.congr (f := fun k => (backstitchref3_exitLarge.f k x.f0 x.f1 x.f2 x.f3).bind fun b => if b = true then some 2 else backstitchref3_TraceFault.lrg k l) (fun k => by rw [backstitchref3_TraceFault.lrg]) (Ev.bind (large_ev (h x (by simp))) ?_)
    rw [List.any_cons]
    cases hb : largeX x with
    | true => exact Ev.now _
    | false =>
      have := flrg_ev l (fun y hy => h y (List.mem_cons_of_mem _ hy))
      rw [Bool.false_or]
      exact this
theorem fault_ev (hx : ∀ x ∈ exs, okX x) (ht : okX ⟨b0, b1, bs, bm⟩) (hb : okX ⟨c0, c1, cs, cm⟩) : Ev (fun k => backstitchref3_TraceFault.f k a0 a1 a2 ins exs b0 b1 bs bm c0 c1 cs cm) (faultS a2 ins exs ⟨b0, b1, bs, bm⟩ ⟨c0, c1, cs, cm⟩) := by
  unfold backstitchref3_TraceFault.f faultS
  by_cases c1_ : 300 < ins.length ∨ 200 < exs.length
  · simp only [if_pos c1_]
    exact Ev.now _
  simp only [if_neg c1_]
  by_cases c2_ : a2 < 0 ∨ (ins.length : Int) < a2
  · simp only [if_pos c2_]
    exact Ev.now _
  simp only [if_neg c2_]
  refine Ev.bind (fins_ev a0 a1 a2 ins exs b0 b1 bs bm c0 c1 cs cm hx ins.length 0 (by omega) (by omega)) ?_
  by_cases c3_ : insS ins exs ins.length 0 = 0
  · simp only [if_pos c3_]
    unfold backstitchref3_TraceFault.mid backstitchref3_TraceFault.turn finS
    have hfin : bad ins ins.length ⟨c0, c1, cs, cm⟩ = false → Ev (fun k => backstitchref3_TraceFault.fin k a0 a1 a2 ins exs b0 b1 bs bm c0 c1 cs cm) (if ((⟨c0, c1, cs, cm⟩ : S31) :: exs).any (bad ins ins.length) = true then 3 else if (((⟨c0, c1, cs, cm⟩ : S31) :: exs) ++ [(⟨b0, b1, bs, bm⟩ : S31)]).any largeX = true then 2 else 0) := fun hbk => by
      unfold backstitchref3_TraceFault.fin
      refine Ev.bind (fexs_ev a0 a1 a2 ins exs b0 b1 bs bm c0 c1 cs cm exs hx) ?_
      rw [List.any_cons, hbk, Bool.false_or]
      by_cases c : exs.any (bad ins ins.length) = true
      · simp only [if_pos c]
        exact Ev.now _
      · simp only [if_neg c, if_true]
        have := flrg_ev ((⟨b0, b1, bs, bm⟩ : S31) :: ⟨c0, c1, cs, cm⟩ :: exs) (by
          intro x hm
          simp only [List.mem_cons] at hm
          rcases hm with rfl | rfl | hm
          · exact ht
          · exact hb
          · exact hx x hm)
        rw [show (((⟨c0, c1, cs, cm⟩ : S31) :: exs) ++ [(⟨b0, b1, bs, bm⟩ : S31)]).any largeX = ((⟨b0, b1, bs, bm⟩ : S31) :: ⟨c0, c1, cs, cm⟩ :: exs).any largeX by
          simp only [List.any_append, List.any_cons, List.any_nil, Bool.or_false]
          rw [Bool.or_comm]]
        exact this
    have hback : Ev (fun k => backstitchref3_TraceFault.one3 (backstitchref3_TraceFault.may k a0 a1 a2 ins exs b0 b1 bs bm c0 c1 cs cm ⟨c0, c1, cs, cm⟩ ins.length)) (if bad ins ins.length ⟨c0, c1, cs, cm⟩ = true then 3 else 0) := by
      unfold backstitchref3_TraceFault.one3
      refine Ev.bind (fmay_ev a0 a1 a2 ins exs b0 b1 bs bm c0 c1 cs cm hb ins.length (by omega) (by omega)) ?_
      cases bad ins ins.length ⟨c0, c1, cs, cm⟩ <;> exact Ev.now _
    have hrest : Ev (fun k => (backstitchref3_TraceFault.one3 (backstitchref3_TraceFault.may k a0 a1 a2 ins exs b0 b1 bs bm c0 c1 cs cm ⟨c0, c1, cs, cm⟩ ins.length)).bind fun e => if e = 0 then backstitchref3_TraceFault.fin k a0 a1 a2 ins exs b0 b1 bs bm c0 c1 cs cm else some e) (if ((⟨c0, c1, cs, cm⟩ : S31) :: exs).any (bad ins ins.length) = true then 3 else if (((⟨c0, c1, cs, cm⟩ : S31) :: exs) ++ [(⟨b0, b1, bs, bm⟩ : S31)]).any largeX = true then 2 else 0) := by
      refine Ev.bind hback ?_
      cases hbk : bad ins ins.length ⟨c0, c1, cs, cm⟩ with
      | true =>
        rw [List.any_cons, hbk]
        exact Ev.now _
      | false => exact hfin hbk
    by_cases c4_ : 0 < a2
    · simp only [if_pos c4_]
      refine Ev.congr (f := fun k => (backstitchref3_TraceFault.may k a0 a1 a2 ins exs b0 b1 bs bm c0 c1 cs cm ⟨b0, b1, bs, bm⟩ a2).bind fun b => (if b = true then backstitchref3_TraceFault.one3 (backstitchref3_TraceFault.may k a0 a1 a2 ins exs b0 b1 bs bm c0 c1 cs cm ⟨c0, c1, cs, cm⟩ ins.length) else some 3).bind fun e => if e = 0 then backstitchref3_TraceFault.fin k a0 a1 a2 ins exs b0 b1 bs bm c0 c1 cs cm else some e) (fun k => by rw [Option.bind_assoc]) (Ev.bind (fmay_ev a0 a1 a2 ins exs b0 b1 bs bm c0 c1 cs cm ht a2 (by omega) (by omega)) ?_)
      cases hbt : bad ins a2 ⟨b0, b1, bs, bm⟩ with
      | true =>
        rw [if_pos ⟨c4_, rfl⟩]
        exact Ev.now _
      | false =>
        rw [if_neg (by simp)]
        exact hrest
    · simp only [if_neg c4_]
      rw [if_neg (fun h => c4_ h.1)]
      exact hrest
  · simp only [if_neg c3_]
    exact Ev.now _
end
/-! the spans -/
theorem mx_idem (a b : Int) : mx (mx a b) b = mx a b := by
  unfold mx
  repeat' split
  all_goals omega
theorem askS_ok (loop n at_ : Int) : ∀ (l : List Int) (o : List S129), (∀ u ∈ l, 0 ≤ u ∧ u < (o.length : Int)) → ∃ o', askS loop n at_ l o = some o' ∧ o'.length = o.length ∧
    ∀ v : Nat, v < o.length → o'.getD v z129 = if (v : Int) ∈ l then ⟨v, mx (o.getD v z129).f1 (askTo loop n at_ v)⟩ else o.getD v z129
  | [], o, _ => ⟨o, rfl, rfl, fun v hv => by simp⟩
  | u :: l, o, h => by
    have hu := h u (by simp)
    obtain ⟨o', h1, h2, h3⟩ := askS_ok loop n at_ l (o.set u.toNat ⟨u, mx (rd_T129 o u).f1 (askTo loop n at_ u)⟩) (fun w hw => by rw [List.length_set]; exact h w (List.mem_cons_of_mem _ hw))
    rw [List.length_set] at h2 h3
    refine ⟨o', by rw [askS, if_pos hu]; exact h1, h2, fun v hv => ?_⟩
    rw [h3 v hv]
    have hget : (o.set u.toNat ⟨u, mx (rd_T129 o u).f1 (askTo loop n at_ u)⟩).getD v z129 = if (v : Int) = u then ⟨u, mx (rd_T129 o u).f1 (askTo loop n at_ u)⟩ else o.getD v z129 := by
      rw [List.getD_eq_getElem?_getD, List.getElem?_set]
      by_cases e : (v : Int) = u
      · rw [if_pos (by omega), if_pos (by omega), if_pos e, Option.getD_some]
      · rw [if_neg (by omega), if_neg e, List.getD_eq_getElem?_getD]
    rw [hget]
    by_cases e : (v : Int) = u
    · subst e
      have hr : rd_T129 o (v : Int) = o.getD v z129 := rfl
      simp only [if_true, hr, List.mem_cons, true_or]
      by_cases hm : (v : Int) ∈ l
      · rw [if_pos hm]
        congr 1
        exact mx_idem _ _
      · rw [if_neg hm]
    · rw [if_neg e]
      by_cases hm : (v : Int) ∈ l <;> simp [hm, e]
theorem turnS_ok (loop : Int) : ∀ (l : List Int) (o : List S129), (∀ u ∈ l, 0 ≤ u ∧ u < (o.length : Int)) → ∃ o', turnS loop l o = some o' ∧ o'.length = o.length ∧
    ∀ v : Nat, v < o.length → o'.getD v z129 = if (v : Int) ∈ l then ⟨v, mx (o.getD v z129).f1 loop⟩ else o.getD v z129
  | [], o, _ => ⟨o, rfl, rfl, fun v hv => by simp⟩
  | u :: l, o, h => by
    have hu := h u (by simp)
    obtain ⟨o', h1, h2, h3⟩ := turnS_ok loop l (o.set u.toNat ⟨u, mx (rd_T129 o u).f1 loop⟩) (fun w hw => by rw [List.length_set]; exact h w (List.mem_cons_of_mem _ hw))
    rw [List.length_set] at h2 h3
    refine ⟨o', by rw [turnS, if_pos hu]; exact h1, h2, fun v hv => ?_⟩
    rw [h3 v hv]
    have hget : (o.set u.toNat ⟨u, mx (rd_T129 o u).f1 loop⟩).getD v z129 = if (v : Int) = u then ⟨u, mx (rd_T129 o u).f1 loop⟩ else o.getD v z129 := by
      rw [List.getD_eq_getElem?_getD, List.getElem?_set]
      by_cases e : (v : Int) = u
      · rw [if_pos (by omega), if_pos (by omega), if_pos e, Option.getD_some]
      · rw [if_neg (by omega), if_neg e, List.getD_eq_getElem?_getD]
    rw [hget]
    by_cases e : (v : Int) = u
    · subst e
      have hr : rd_T129 o (v : Int) = o.getD v z129 := rfl
      simp only [if_true, hr, List.mem_cons, true_or]
      by_cases hm : (v : Int) ∈ l
      · rw [if_pos hm]
        congr 1
        exact mx_idem _ _
      · rw [if_neg hm]
    · rw [if_neg e]
      by_cases hm : (v : Int) ∈ l <;> simp [hm, e]
/-- Is v asked at place j (without what the loop adds)? -/
def E_ (ins : List S181) (exs : List S31) (back : S31) (v : Int) (j : Nat) : Bool :=
  if j = ins.length then decide (v ∈ vx back) else decide (v ∈ asksL (rd_T181 ins j)) || (decide (0 ≤ (rd_T181 ins j).f5) && decide (v ∈ vx (rd_T31 exs (rd_T181 ins j).f5)))
/-- What is told of v behind j places. -/
def S_ (a2 : Int) (ins : List S181) (exs : List S31) (back : S31) (v : Int) : Nat → S129
  | 0 => ⟨-1, -1⟩
  | j + 1 => if E_ ins exs back v j = true then ⟨v, mx (S_ a2 ins exs back v j).f1 (askTo a2 ins.length j v)⟩ else S_ a2 ins exs back v j
def F_ (a2 : Int) (ins : List S181) (exs : List S31) (turn back : S31) (v : Int) : S129 :=
  if 0 < a2 ∧ v ∈ vx turn then ⟨v, mx (S_ a2 ins exs back v (ins.length + 1)).f1 a2⟩ else S_ a2 ins exs back v (ins.length + 1)
theorem any_range {ins : List S181} {n : Int} {l : List Int} (h : l.any (allP ins n) = false) : ∀ u ∈ l, 0 ≤ u ∧ u < (ins.length : Int) ∧ u < n := by
  intro u hu
  rw [List.any_eq_false] at h
  have h1 := h u hu
  unfold allP at h1
  simp only [Bool.or_eq_true, decide_eq_true_eq, not_or] at h1
  omega
theorem insS_zero (ins : List S181) (exs : List S31) : ∀ (d : Nat) (i : Int), insS ins exs d i = 0 → ∀ j : Int, i ≤ j → j < i + d → oneS ins exs j = 0
  | 0, i, _, j, h1, h2 => by omega
  | d + 1, i, h, j, h1, h2 => by
    rw [insS] at h
    by_cases c : oneS ins exs i = 0
    · rw [if_pos c] at h
      by_cases e : j = i
      · rw [e]
        exact c
      · exact insS_zero ins exs d (i + 1) h j (by omega) (by omega)
    · rw [if_neg c] at h
      exact absurd h c
theorem oneS_zero {ins : List S181} {exs : List S31} {i : Int} (h : oneS ins exs i = 0) : (asksL (rd_T181 ins i)).any (allP ins i) = false ∧ (rd_T181 ins i).f5 < exs.length ∧ (0 ≤ (rd_T181 ins i).f5 → bad ins i (rd_T31 exs (rd_T181 ins i).f5) = false) := by
  unfold oneS at h
  split at h
  · cases h
  split at h
  · cases h
  rename_i h2
  split at h
  · cases h
  rename_i h3
  simp only [not_or] at h2
  refine ⟨by simpa using h2.1, by omega, fun h0 => ?_⟩
  cases hb : bad ins i (rd_T31 exs (rd_T181 ins i).f5) with
  | false => rfl
  | true => exact absurd ⟨h0, hb⟩ h3
theorem finS_zero {a2 : Int} {ins : List S181} {exs : List S31} {turn back : S31} (h : finS a2 ins exs turn back = 0) : (0 < a2 → bad ins a2 turn = false) ∧ bad ins ins.length back = false := by
  unfold finS at h
  split at h
  · cases h
  rename_i h1
  split at h
  · cases h
  rename_i h2
  constructor
  · intro h0
    cases hb : bad ins a2 turn with
    | false => rfl
    | true => exact absurd ⟨h0, hb⟩ h1
  · simp only [List.any_cons, Bool.or_eq_true, not_or] at h2
    simpa using h2.1
/-- What a right trace has. -/
structure Right (a2 : Int) (ins : List S181) (exs : List S31) (turn back : S31) : Prop where
  n : ins.length ≤ 300
  lo : 0 ≤ a2
  hi : a2 ≤ ins.length
  one : ∀ i : Nat, i < ins.length → (∀ u ∈ asksL (rd_T181 ins i), 0 ≤ u ∧ u < (ins.length : Int)) ∧ (rd_T181 ins i).f5 < exs.length ∧ (0 ≤ (rd_T181 ins i).f5 → ∀ u ∈ vx (rd_T31 exs (rd_T181 ins i).f5), 0 ≤ u ∧ u < (ins.length : Int))
  back : ∀ u ∈ vx back, 0 ≤ u ∧ u < (ins.length : Int)
  turn : 0 < a2 → ∀ u ∈ vx turn, 0 ≤ u ∧ u < (ins.length : Int)
theorem right_of {a2 : Int} {ins : List S181} {exs : List S31} {turn back : S31} (h : faultS a2 ins exs turn back = 0) : Right a2 ins exs turn back := by
  unfold faultS at h
  split at h
  · cases h
  split at h
  · cases h
  split at h
  case isFalse hc => exact absurd h hc
  rename_i h1 h2 h3
  obtain ⟨f1, f2⟩ := finS_zero h
  have ho := insS_zero ins exs ins.length 0 h3
  refine ⟨by omega, by omega, by omega, fun i hi => ?_, fun u hu => ?_, fun h0 u hu => ?_⟩
  · obtain ⟨g1, g2, g3⟩ := oneS_zero (ho i (by omega) (by omega))
    exact ⟨fun u hu => by have := any_range g1 u hu; omega, g2, fun h0 u hu => by have := any_range (g3 h0) u hu; omega⟩
  · have := any_range f2 u hu
    omega
  · have := any_range (f1 h0) u hu
    omega
section
variable (a0 a1 a2 : Int) (ins : List S181) (exs : List S31) (b0 b1 : Int) (bs : List S38) (bm : List S63) (c0 c1 : Int) (cs : List S38) (cm : List S63)
theorem spanIns_ok (hx : ∀ x ∈ exs, okX x) (hr : Right a2 ins exs (⟨b0, b1, bs, bm⟩ : S31) (⟨c0, c1, cs, cm⟩ : S31)) : ∀ (d i : Nat) (o : List S129), i + d = ins.length → o.length = ins.length → (∀ v : Nat, v < ins.length → o.getD v z129 = S_ a2 ins exs (⟨c0, c1, cs, cm⟩ : S31) v i) →
    ∃ o', (∀ k, spanIns k a0 a1 a2 ins exs b0 b1 bs bm c0 c1 cs cm d i o = some o') ∧ o'.length = ins.length ∧ ∀ v : Nat, v < ins.length → o'.getD v z129 = S_ a2 ins exs (⟨c0, c1, cs, cm⟩ : S31) v ins.length
  | 0, i, o, hi, hl, ho => ⟨o, fun _ => rfl, hl, fun v hv => by rw [ho v hv, show i = ins.length by omega]⟩
  | d + 1, i, o, hi, hl, ho => by
    obtain ⟨g1, g2, g3⟩ := hr.one i (by omega)
    obtain ⟨o1, h1, h2, h3⟩ := askS_ok a2 ins.length i (asksL (rd_T181 ins i)) o (fun u hu => by rw [hl]; exact g1 u hu)
    rw [hl] at h2 h3
    by_cases c : 0 ≤ (rd_T181 ins i).f5
    · have hok := rd_ok hx c (by omega)
      obtain ⟨o2, k1, k2, k3⟩ := askS_ok a2 ins.length i (vx (rd_T31 exs (rd_T181 ins i).f5)) o1 (fun u hu => by rw [h2]; exact g3 c u hu)
      rw [h2] at k2 k3
      have hS : ∀ v : Nat, v < ins.length → o2.getD v z129 = S_ a2 ins exs (⟨c0, c1, cs, cm⟩ : S31) v (i + 1) := by
        intro v hv
        have hE : E_ ins exs (⟨c0, c1, cs, cm⟩ : S31) v i = (decide ((v : Int) ∈ asksL (rd_T181 ins i)) || decide ((v : Int) ∈ vx (rd_T31 exs (rd_T181 ins i).f5))) := by
          unfold E_
          rw [if_neg (by omega), decide_eq_true c, Bool.true_and]
        rw [k3 v hv, h3 v hv, ho v hv, S_, hE]
        by_cases e1 : (v : Int) ∈ asksL (rd_T181 ins i)
        · by_cases e2 : (v : Int) ∈ vx (rd_T31 exs (rd_T181 ins i).f5)
          · simp [e1, e2, mx_idem]
          · simp [e1, e2]
        · by_cases e2 : (v : Int) ∈ vx (rd_T31 exs (rd_T181 ins i).f5)
          · simp [e1, e2]
          · simp [e1, e2]
      obtain ⟨o', m1, m2, m3⟩ := spanIns_ok hx hr d (i + 1) o2 (by omega) k2 hS
      refine ⟨o', fun k => ?_, m2, m3⟩
      rw [spanIns, irasks, Option.bind_some, h1, Option.bind_some, if_pos c, if_pos g2, lvals hok, Option.bind_some, k1, Option.bind_some]
      exact m1 k
    · have hS : ∀ v : Nat, v < ins.length → o1.getD v z129 = S_ a2 ins exs (⟨c0, c1, cs, cm⟩ : S31) v (i + 1) := by
        intro v hv
        have hE : E_ ins exs (⟨c0, c1, cs, cm⟩ : S31) v i = decide ((v : Int) ∈ asksL (rd_T181 ins i)) := by
          unfold E_
          rw [if_neg (by omega), decide_eq_false c, Bool.false_and, Bool.or_false]
        rw [h3 v hv, ho v hv, S_, hE]
        by_cases e1 : (v : Int) ∈ asksL (rd_T181 ins i) <;> simp [e1]
      obtain ⟨o', m1, m2, m3⟩ := spanIns_ok hx hr d (i + 1) o1 (by omega) h2 hS
      refine ⟨o', fun k => ?_, m2, m3⟩
      rw [spanIns, irasks, Option.bind_some, h1, Option.bind_some, if_neg c]
      exact m1 k
theorem spans_ok (hx : ∀ x ∈ exs, okX x) (ht : okX (⟨b0, b1, bs, bm⟩ : S31)) (hb : okX (⟨c0, c1, cs, cm⟩ : S31)) (hr : Right a2 ins exs (⟨b0, b1, bs, bm⟩ : S31) (⟨c0, c1, cs, cm⟩ : S31)) : ∃ o', (∀ k, (spanIns k a0 a1 a2 ins exs b0 b1 bs bm c0 c1 cs cm ins.length 0 (List.replicate ins.length ⟨-1, -1⟩)).bind (spansFin k a0 a1 a2 ins exs b0 b1 bs bm c0 c1 cs cm) = some (o', 0)) ∧ o'.length = ins.length ∧
    ∀ v : Nat, v < ins.length → o'.getD v z129 = F_ a2 ins exs (⟨b0, b1, bs, bm⟩ : S31) (⟨c0, c1, cs, cm⟩ : S31) v := by
  obtain ⟨o, h1, h2, h3⟩ := spanIns_ok a0 a1 a2 ins exs b0 b1 bs bm c0 c1 cs cm hx hr ins.length 0 (List.replicate ins.length ⟨-1, -1⟩) (by omega) (by simp) (fun v hv => by rw [List.getD_eq_getElem?_getD, List.getElem?_replicate, if_pos hv]; rfl)
  have h1z : ∀ k, spanIns k a0 a1 a2 ins exs b0 b1 bs bm c0 c1 cs cm ins.length 0 (List.replicate ins.length ⟨-1, -1⟩) = some o := h1
  obtain ⟨o1, k1, k2, k3⟩ := askS_ok a2 ins.length ins.length (vx (⟨c0, c1, cs, cm⟩ : S31)) o (fun u hu => by rw [h2]; exact hr.back u hu)
  rw [h2] at k2 k3
  have hS : ∀ v : Nat, v < ins.length → o1.getD v z129 = S_ a2 ins exs (⟨c0, c1, cs, cm⟩ : S31) v (ins.length + 1) := by
    intro v hv
    have hE : E_ ins exs (⟨c0, c1, cs, cm⟩ : S31) v ins.length = decide ((v : Int) ∈ vx (⟨c0, c1, cs, cm⟩ : S31)) := by
      unfold E_
      rw [if_pos rfl]
    rw [k3 v hv, h3 v hv, S_, hE]
    by_cases e1 : (v : Int) ∈ vx (⟨c0, c1, cs, cm⟩ : S31) <;> simp [e1]
  by_cases c : 0 < a2
  · obtain ⟨o2, m1, m2, m3⟩ := turnS_ok a2 (vx (⟨b0, b1, bs, bm⟩ : S31)) o1 (fun u hu => by rw [k2]; exact hr.turn c u hu)
    rw [k2] at m2 m3
    refine ⟨o2, fun k => ?_, m2, fun v hv => ?_⟩
    · rw [h1z, Option.bind_some, spansFin, lvals hb, Option.bind_some, k1, Option.bind_some, if_pos c, lvals ht, Option.bind_some, m1, Option.bind_some]
    · rw [m3 v hv, hS v hv]
      unfold F_
      by_cases e : (v : Int) ∈ vx (⟨b0, b1, bs, bm⟩ : S31)
      · rw [if_pos e, if_pos ⟨c, e⟩]
      · rw [if_neg e, if_neg (fun h => e h.2)]
  · refine ⟨o1, fun k => ?_, k2, fun v hv => ?_⟩
    · rw [h1z, Option.bind_some, spansFin, lvals hb, Option.bind_some, k1, Option.bind_some, if_neg c]
    · rw [hS v hv]
      unfold F_
      rw [if_neg (fun h => c h.1)]
end
/-! R.Span -/
theorem S_two (a2 : Int) (ins : List S181) (exs : List S31) (back : S31) (v : Int) (h0 : 0 ≤ a2) : ∀ j : Nat, j ≤ ins.length + 1 → ((S_ a2 ins exs back v j).f0 = -1 ∧ (S_ a2 ins exs back v j).f1 = -1) ∨ ((S_ a2 ins exs back v j).f0 = v ∧ 0 ≤ (S_ a2 ins exs back v j).f1 ∧ (S_ a2 ins exs back v j).f1 ≤ ins.length)
  | 0, _ => .inl ⟨rfl, rfl⟩
  | j + 1, hj => by
    have ih := S_two a2 ins exs back v h0 j (by omega)
    rw [S_]
    split
    · refine .inr ⟨rfl, ?_, ?_⟩
      · show 0 ≤ mx _ _
        unfold mx askTo
        split <;> split <;> omega
      · show mx _ _ ≤ _
        unfold mx askTo
        split <;> split <;> omega
    · exact ih
theorem S_mono (a2 : Int) (ins : List S181) (exs : List S31) (back : S31) (v : Int) (i : Nat) : ∀ j : Nat, i ≤ j → (S_ a2 ins exs back v i).f1 ≤ (S_ a2 ins exs back v j).f1
  | 0, h => by
    obtain rfl : i = 0 := by omega
    exact Int.le_refl _
  | j + 1, h => by
    by_cases e : i = j + 1
    · rw [e]
      exact Int.le_refl _
    · have ih := S_mono a2 ins exs back v i j (by omega)
      rw [S_]
      split
      · show _ ≤ mx _ _
        unfold mx
        split <;> omega
      · exact ih
section
variable (a0 a1 a2 : Int) (ins : List S181) (exs : List S31) (b0 b1 : Int) (bs : List S38) (bm : List S63) (c0 c1 : Int) (cs : List S38) (cm : List S63)
theorem vh_ev {x : S31} (h : okX x) (v : Int) : Ev (fun k => backstitchref3_asked.vh k x v) (decide (v ∈ vx x)) := by
  have := vlen h
  unfold backstitchref3_asked.vh
  exact Ev.bind (rvals h) (has_ev _ (by omega) v)
theorem ah_ev (x : S181) (v : Int) : Ev (fun k => backstitchref3_asked.ah k x v) (decide (v ∈ asksL x)) := by
  have := asks_len x
  unfold backstitchref3_asked.ah
  exact Ev.bind (rasks x) (has_ev _ (by omega) v)
theorem xh_ev (hx : ∀ x ∈ exs, okX x) (x : S181) (h : x.f5 < exs.length) (v : Int) : Ev (fun k => backstitchref3_asked.xh k exs x v) (decide (0 ≤ x.f5) && decide (v ∈ vx (rd_T31 exs x.f5))) := by
  unfold backstitchref3_asked.xh
  by_cases c : 0 ≤ x.f5
  · simp only [if_pos c, if_pos h, decide_eq_true c, Bool.true_and]
    exact vh_ev (rd_ok hx c h) v
  · simp only [if_neg c, decide_eq_false c, Bool.false_and]
    exact Ev.now _
theorem asked_ev (hx : ∀ x ∈ exs, okX x) (ht : okX (⟨b0, b1, bs, bm⟩ : S31)) (hb : okX (⟨c0, c1, cs, cm⟩ : S31)) (hr : Right a2 ins exs (⟨b0, b1, bs, bm⟩ : S31) (⟨c0, c1, cs, cm⟩ : S31)) (v : Int) (i : Nat) (hi : i ≤ ins.length) : Ev (fun k => backstitchref3_asked.f k a0 a1 a2 ins exs b0 b1 bs bm c0 c1 cs cm v i) (E_ ins exs (⟨c0, c1, cs, cm⟩ : S31) v i || decide (0 < a2 ∧ (i : Int) = a2 ∧ v ∈ vx (⟨b0, b1, bs, bm⟩ : S31))) := by
  unfold backstitchref3_asked.f E_
  by_cases c : i = ins.length
  · subst c
    simp only [if_true]
    refine Ev.bind (vh_ev hb v) ?_
    by_cases e : v ∈ vx (⟨c0, c1, cs, cm⟩ : S31)
    · rw [decide_eq_true e]
      exact Ev.now _
    · rw [decide_eq_false e, Bool.false_or]
      simp only [Bool.false_eq_true, if_false]
      by_cases e2 : a2 = (ins.length : Int)
      · simp only [if_pos e2]
        by_cases e3 : 0 < (ins.length : Int)
        · simp only [if_pos e3]
          rw [show decide (0 < a2 ∧ (ins.length : Int) = a2 ∧ v ∈ vx (⟨b0, b1, bs, bm⟩ : S31)) = decide (v ∈ vx (⟨b0, b1, bs, bm⟩ : S31)) from decide_eq_decide.mpr ⟨fun h => h.2.2, fun h => ⟨by omega, e2.symm, h⟩⟩]
          exact vh_ev ht v
        · simp only [if_neg e3]
          rw [decide_eq_false (fun h => e3 (by omega))]
          exact Ev.now _
      · simp only [if_neg e2]
        rw [decide_eq_false (fun h => e2 h.2.1.symm)]
        exact Ev.now _
  · obtain ⟨g1, g2, g3⟩ := hr.one i (by omega)
    simp only [if_neg c, if_neg (show ¬ (i : Int) = (ins.length : Int) by omega), if_pos (show (0 : Int) ≤ i by omega), if_pos (show (i : Int) < ins.length by omega)]
    refine Ev.bind (ah_ev _ v) ?_
    by_cases e : v ∈ asksL (rd_T181 ins i)
    · rw [decide_eq_true e]
      exact Ev.now _
    · rw [decide_eq_false e, Bool.false_or]
      simp only [Bool.false_eq_true, if_false]
      refine Ev.bind (xh_ev exs hx _ g2 v) ?_
      cases hq : (decide (0 ≤ (rd_T181 ins i).f5) && decide (v ∈ vx (rd_T31 exs (rd_T181 ins i).f5))) with
      | true => exact Ev.now _
      | false =>
        rw [Bool.false_or]
        simp only [Bool.false_eq_true, if_false]
        by_cases e2 : 0 < a2
        · simp only [if_pos e2]
          by_cases e3 : (i : Int) = a2
          · simp only [if_pos e3]
            rw [show decide (0 < a2 ∧ (i : Int) = a2 ∧ v ∈ vx (⟨b0, b1, bs, bm⟩ : S31)) = decide (v ∈ vx (⟨b0, b1, bs, bm⟩ : S31)) from decide_eq_decide.mpr ⟨fun h => h.2.2, fun h => ⟨e2, e3, h⟩⟩]
            exact vh_ev ht v
          · simp only [if_neg e3]
            rw [decide_eq_false (fun h => e3 h.2.1)]
            exact Ev.now _
        · simp only [if_neg e2]
          rw [decide_eq_false (fun h => e2 h.1)]
          exact Ev.now _
theorem wi_ev (hx : ∀ x ∈ exs, okX x) (ht : okX (⟨b0, b1, bs, bm⟩ : S31)) (hb : okX (⟨c0, c1, cs, cm⟩ : S31)) (hr : Right a2 ins exs (⟨b0, b1, bs, bm⟩ : S31) (⟨c0, c1, cs, cm⟩ : S31)) (v : Int) (i : Nat) (hi : i ≤ ins.length) : Ev (fun k => backstitchref3_Span.wi k a0 a1 a2 ins exs b0 b1 bs bm c0 c1 cs cm v i) (decide (i = ins.length ∨ a2 ≤ (i : Int)) && E_ ins exs (⟨c0, c1, cs, cm⟩ : S31) v i) := by
  unfold backstitchref3_Span.wi E_
  by_cases c : i = ins.length
  · subst c
    simp only [if_true, true_or, decide_true, Bool.true_and]
    exact vh_ev hb v
  · obtain ⟨g1, g2, g3⟩ := hr.one i (by omega)
    simp only [if_neg c, if_neg (show ¬ (i : Int) = (ins.length : Int) by omega), c, false_or]
    by_cases c2 : a2 ≤ (i : Int)
    · simp only [if_pos c2, decide_eq_true c2, Bool.true_and]
      refine Ev.bind (ah_ev _ v) ?_
      by_cases e : v ∈ asksL (rd_T181 ins i)
      · rw [decide_eq_true e]
        exact Ev.now _
      · rw [decide_eq_false e, Bool.false_or]
        simp only [Bool.false_eq_true, if_false]
        exact xh_ev exs hx _ g2 v
    · simp only [if_neg c2, decide_eq_false c2, Bool.false_and]
      exact Ev.now _
theorem srch (hx : ∀ x ∈ exs, okX x) (ht : okX (⟨b0, b1, bs, bm⟩ : S31)) (hb : okX (⟨c0, c1, cs, cm⟩ : S31)) (hr : Right a2 ins exs (⟨b0, b1, bs, bm⟩ : S31) (⟨c0, c1, cs, cm⟩ : S31)) (v : Int) : ∀ (d i : Nat) (last : Int), i + d = ins.length + 1 → -1 ≤ (S_ a2 ins exs (⟨c0, c1, cs, cm⟩ : S31) v i).f1 → (S_ a2 ins exs (⟨c0, c1, cs, cm⟩ : S31) v i).f1 < i →
    last = mx (S_ a2 ins exs (⟨c0, c1, cs, cm⟩ : S31) v i).f1 (if (0 < a2 ∧ v ∈ vx (⟨b0, b1, bs, bm⟩ : S31)) ∧ a2 < i then a2 else -1) → Ev (fun k => backstitchref3_Span.l k a0 a1 a2 ins exs b0 b1 bs bm c0 c1 cs cm v d i last) (F_ a2 ins exs (⟨b0, b1, bs, bm⟩ : S31) (⟨c0, c1, cs, cm⟩ : S31) v).f1
  | 0, i, last, hi, h1, h2, hl => by
    have hlo := hr.hi
    obtain rfl : i = ins.length + 1 := by omega
    rw [hl]
    unfold F_
    by_cases c : 0 < a2 ∧ v ∈ vx (⟨b0, b1, bs, bm⟩ : S31)
    · rw [if_pos c, if_pos ⟨c, by omega⟩]
      exact Ev.now _
    · rw [if_neg c, if_neg (fun h => c h.1)]
      rw [show mx (S_ a2 ins exs (⟨c0, c1, cs, cm⟩ : S31) v (ins.length + 1)).f1 (-1) = (S_ a2 ins exs (⟨c0, c1, cs, cm⟩ : S31) v (ins.length + 1)).f1 by unfold mx; split <;> omega]
      exact Ev.now _
  | d + 1, i, last, hi, h1, h2, hl => by
    have hlo := hr.lo
    have hhi := hr.hi
    have hSn : S_ a2 ins exs (⟨c0, c1, cs, cm⟩ : S31) v (i + 1) = if E_ ins exs (⟨c0, c1, cs, cm⟩ : S31) v i = true then ⟨v, mx (S_ a2 ins exs (⟨c0, c1, cs, cm⟩ : S31) v i).f1 (askTo a2 ins.length i v)⟩ else S_ a2 ins exs (⟨c0, c1, cs, cm⟩ : S31) v i := by rw [S_]
    refine Ev.congr (f := fun k => (backstitchref3_asked.f k a0 a1 a2 ins exs b0 b1 bs bm c0 c1 cs cm v i).bind fun b => if b = true then (backstitchref3_Span.wi k a0 a1 a2 ins exs b0 b1 bs bm c0 c1 cs cm v i).bind fun q => if q = true then (if v < a2 then some (ins.length : Int) else backstitchref3_Span.l k a0 a1 a2 ins exs b0 b1 bs bm c0 c1 cs cm v d (i + 1) i) else backstitchref3_Span.l k a0 a1 a2 ins exs b0 b1 bs bm c0 c1 cs cm v d (i + 1) i else backstitchref3_Span.l k a0 a1 a2 ins exs b0 b1 bs bm c0 c1 cs cm v d (i + 1) last) (fun k => by rw [backstitchref3_Span.l]) (Ev.bind (asked_ev a0 a1 a2 ins exs b0 b1 bs bm c0 c1 cs cm hx ht hb hr v i (by omega)) ?_)
    have hi1 : ((i + 1 : Nat) : Int) = (i : Int) + 1 := by omega
    cases hE : E_ ins exs (⟨c0, c1, cs, cm⟩ : S31) v i with
    | true =>
      simp only [Bool.true_or, if_true]
      rw [hE] at hSn
      simp only [if_true] at hSn
      refine Ev.bind (wi_ev a0 a1 a2 ins exs b0 b1 bs bm c0 c1 cs cm hx ht hb hr v i (by omega)) ?_
      rw [hE, Bool.and_true]
      by_cases hbr : v < a2 ∧ a2 ≤ (i : Int)
      · rw [decide_eq_true (show i = ins.length ∨ a2 ≤ (i : Int) from .inr hbr.2)]
        simp only [if_true, if_pos hbr.1]
        have e1 : (S_ a2 ins exs (⟨c0, c1, cs, cm⟩ : S31) v (i + 1)).f1 = ins.length := by
          rw [hSn]
          show mx _ (askTo _ _ _ _) = _
          unfold askTo mx
          rw [if_pos hbr]
          split <;> omega
        have e2 := S_mono a2 ins exs (⟨c0, c1, cs, cm⟩ : S31) v (i + 1) (ins.length + 1) (by omega)
        have e3 := S_two a2 ins exs (⟨c0, c1, cs, cm⟩ : S31) v hr.lo (ins.length + 1) (by omega)
        have e4 : (F_ a2 ins exs (⟨b0, b1, bs, bm⟩ : S31) (⟨c0, c1, cs, cm⟩ : S31) v).f1 = ins.length := by
          unfold F_
          split
          · show mx _ _ = _
            unfold mx
            split <;> omega
          · omega
        rw [e4]
        exact Ev.now _
      · have e1 : (S_ a2 ins exs (⟨c0, c1, cs, cm⟩ : S31) v (i + 1)).f1 = i := by
          rw [hSn]
          show mx _ (askTo _ _ _ _) = _
          unfold askTo mx
          rw [if_neg hbr]
          split <;> omega
        have hgo : Ev (fun k => backstitchref3_Span.l k a0 a1 a2 ins exs b0 b1 bs bm c0 c1 cs cm v d ((i : Int) + 1) i) (F_ a2 ins exs (⟨b0, b1, bs, bm⟩ : S31) (⟨c0, c1, cs, cm⟩ : S31) v).f1 := by
          have := srch hx ht hb hr v d (i + 1) i (by omega) (by omega) (by omega) (by
            rw [e1]
            unfold mx
            split <;> split <;> omega)
          rw [hi1] at this
          exact this
        by_cases hw : i = ins.length ∨ a2 ≤ (i : Int)
        · rw [decide_eq_true hw]
          simp only [if_true]
          by_cases hv : v < a2
          · have : i = ins.length ∧ ¬ a2 ≤ (i : Int) := by omega
            omega
          · simp only [if_neg hv]
            exact hgo
        · rw [decide_eq_false hw]
          simp only [Bool.false_eq_true, if_false]
          exact hgo
    | false =>
      rw [hE] at hSn
      simp only [Bool.false_eq_true, if_false] at hSn
      rw [Bool.false_or]
      by_cases ct : 0 < a2 ∧ (i : Int) = a2 ∧ v ∈ vx (⟨b0, b1, bs, bm⟩ : S31)
      · rw [decide_eq_true ct]
        simp only [if_true]
        refine Ev.bind (wi_ev a0 a1 a2 ins exs b0 b1 bs bm c0 c1 cs cm hx ht hb hr v i (by omega)) ?_
        rw [hE, Bool.and_false]
        simp only [Bool.false_eq_true, if_false]
        have := srch hx ht hb hr v d (i + 1) i (by omega) (by rw [hSn]; omega) (by rw [hSn]; omega) (by
          rw [hSn, if_pos ⟨⟨ct.1, ct.2.2⟩, by omega⟩]
          unfold mx
          split <;> omega)
        rw [hi1] at this
        exact this
      · rw [decide_eq_false ct]
        simp only [Bool.false_eq_true, if_false]
        have := srch hx ht hb hr v d (i + 1) last (by omega) (by rw [hSn]; omega) (by rw [hSn]; omega) (by
          rw [hSn, hl]
          by_cases c2 : 0 < a2 ∧ v ∈ vx (⟨b0, b1, bs, bm⟩ : S31)
          · have : (i : Int) ≠ a2 := fun e => ct ⟨c2.1, e, c2.2⟩
            by_cases c3 : a2 < (i : Int)
            · rw [if_pos ⟨c2, c3⟩, if_pos ⟨c2, by omega⟩]
            · rw [if_neg (fun h => c3 h.2), if_neg (fun h => by have := h.2; omega)]
          · rw [if_neg (fun h => c2 h.1), if_neg (fun h => c2 h.1)])
        rw [hi1] at this
        exact this
theorem span_ev (hx : ∀ x ∈ exs, okX x) (ht : okX (⟨b0, b1, bs, bm⟩ : S31)) (hb : okX (⟨c0, c1, cs, cm⟩ : S31)) (hr : Right a2 ins exs (⟨b0, b1, bs, bm⟩ : S31) (⟨c0, c1, cs, cm⟩ : S31)) (v : Int) : Ev (fun k => backstitchref3_Span.f k a0 a1 a2 ins exs b0 b1 bs bm c0 c1 cs cm v) ((F_ a2 ins exs (⟨b0, b1, bs, bm⟩ : S31) (⟨c0, c1, cs, cm⟩ : S31) v).f0, (F_ a2 ins exs (⟨b0, b1, bs, bm⟩ : S31) (⟨c0, c1, cs, cm⟩ : S31) v).f1) := by
  have hn := hr.n
  have hlo := hr.lo
  unfold backstitchref3_Span.f
  simp only [if_pos (show ins.length < 4611686018427387904 by omega)]
  refine Ev.bind (srch a0 a1 a2 ins exs b0 b1 bs bm c0 c1 cs cm hx ht hb hr v (ins.length + 1) 0 (-1) (by omega) (show (-1 : Int) ≤ -1 by decide) (show (-1 : Int) < ((0 : Nat) : Int) by decide) (by
    rw [if_neg (fun h => by have := h.2; omega)]
    rfl)) ?_
  unfold backstitchref3_Span.fin
  have h2 := S_two a2 ins exs (⟨c0, c1, cs, cm⟩ : S31) v hr.lo (ins.length + 1) (by omega)
  have h3 : ((F_ a2 ins exs (⟨b0, b1, bs, bm⟩ : S31) (⟨c0, c1, cs, cm⟩ : S31) v).f0 = -1 ∧ (F_ a2 ins exs (⟨b0, b1, bs, bm⟩ : S31) (⟨c0, c1, cs, cm⟩ : S31) v).f1 = -1) ∨ ((F_ a2 ins exs (⟨b0, b1, bs, bm⟩ : S31) (⟨c0, c1, cs, cm⟩ : S31) v).f0 = v ∧ 0 ≤ (F_ a2 ins exs (⟨b0, b1, bs, bm⟩ : S31) (⟨c0, c1, cs, cm⟩ : S31) v).f1) := by
    unfold F_
    split
    · refine .inr ⟨rfl, ?_⟩
      show 0 ≤ mx _ _
      unfold mx
      split <;> omega
    · rcases h2 with h2 | h2
      · exact .inl h2
      · exact .inr ⟨h2.1, h2.2.1⟩
  rcases h3 with ⟨e0, e1⟩ | ⟨e0, e1⟩
  · rw [e0, e1]
    exact Ev.now _
  · rw [if_neg (by omega), e0]
    exact Ev.now _
theorem all_l (hx : ∀ x ∈ exs, okX x) (ht : okX (⟨b0, b1, bs, bm⟩ : S31)) (hb : okX (⟨c0, c1, cs, cm⟩ : S31)) (hr : Right a2 ins exs (⟨b0, b1, bs, bm⟩ : S31) (⟨c0, c1, cs, cm⟩ : S31)) (o : List S129) (ho : o.length = ins.length) (hS : ∀ v : Nat, v < ins.length → o.getD v z129 = F_ a2 ins exs (⟨b0, b1, bs, bm⟩ : S31) (⟨c0, c1, cs, cm⟩ : S31) v) (d : Nat) : ∀ (i : Nat), i + d = o.length → Ev (fun k => backstitchlaw3_LiveTells.l0 k o o.length i a0 a1 a2 ins exs b0 b1 bs bm c0 c1 cs cm) true := by
  have hn := hr.n
  induction d with
  | zero =>
    intro i hi
    refine Ev.step (f := fun _ => _) (fun k => ?_) (Ev.now _)
    simp only [backstitchlaw3_LiveTells.l0]
    rw [if_neg (by omega)]
  | succ d ih =>
    intro i hi
    have e : rd_T129 o (i : Int) = o.getD i z129 := rfl
    refine Ev.step (f := fun k => (backstitchref3_Span.f k a0 a1 a2 ins exs b0 b1 bs bm c0 c1 cs cm i).bind fun bt => if (!((F_ a2 ins exs (⟨b0, b1, bs, bm⟩ : S31) (⟨c0, c1, cs, cm⟩ : S31) i).f0 == bt.1) || !((F_ a2 ins exs (⟨b0, b1, bs, bm⟩ : S31) (⟨c0, c1, cs, cm⟩ : S31) i).f1 == bt.2)) = true then some false else backstitchlaw3_LiveTells.l0 k o o.length ((i + 1 : Nat) : Int) a0 a1 a2 ins exs b0 b1 bs bm c0 c1 cs cm) (fun k => by
      simp only [backstitchlaw3_LiveTells.l0]
      rw [if_pos (by omega), if_pos (by omega), if_pos (by omega), e, hS i (by omega), Pur.wrap_succ (by omega)]) (Ev.bind (span_ev a0 a1 a2 ins exs b0 b1 bs bm c0 c1 cs cm hx ht hb hr i) ?_)
    simp only [beq_self_eq_true, Bool.not_true, Bool.or_false, Bool.false_eq_true, if_false]
    exact ih (i + 1) (by omega)
end
theorem lived_ev : Ev (fun k => backstitchlaw3_lived.f k) true := Ev.of (fun k => backstitchlaw3_lived.mono k) (k := 12) (by kernel_rfl)
theorem okX_of {x : S31} (h : wf31 x) : okX x := ⟨h.2.2.1.1, h.2.2.2.1, fun m hm => (h.2.2.2.2 m hm).2.2.2.1⟩
theorem LiveTells : backstitchlaw3_LiveTells.Pure := by
  intro x0 h0
  obtain ⟨_, _, _, h3, h4, h5, h6⟩ := h0
  have hx : ∀ x ∈ x0.f4, okX x := fun x hm => okX_of (h4.2 x hm)
  have ht : okX ⟨x0.f5.f0, x0.f5.f1, x0.f5.f2, x0.f5.f3⟩ := okX_of h5
  have hb : okX ⟨x0.f6.f0, x0.f6.f1, x0.f6.f2, x0.f6.f3⟩ := okX_of h6
  refine Ev.rounds (g := fun k => backstitchlaw3_LiveTells.f k x0.f0 x0.f1 x0.f2 x0.f3 x0.f4 x0.f5.f0 x0.f5.f1 x0.f5.f2 x0.f5.f3 x0.f6.f0 x0.f6.f1 x0.f6.f2 x0.f6.f3) ?_
  generalize x0.f0 = a0, x0.f1 = a1, x0.f2 = a2, x0.f3 = ins, x0.f4 = exs, x0.f5.f0 = b0, x0.f5.f1 = b1, x0.f5.f2 = bs, x0.f5.f3 = bm, x0.f6.f0 = c0, x0.f6.f1 = c1, x0.f6.f2 = cs, x0.f6.f3 = cm at *
  unfold backstitchlaw3_LiveTells.f
  refine Ev.bind lived_ev ?_
  simp only [if_true]
  have hc := check_ev a0 a1 a2 ins exs b0 b1 bs bm c0 c1 cs cm hx ht hb
  refine Ev.bind (fault_ev a0 a1 a2 ins exs b0 b1 bs bm c0 c1 cs cm hx ht hb) ?_
  by_cases hf : faultS a2 ins exs (⟨b0, b1, bs, bm⟩ : S31) (⟨c0, c1, cs, cm⟩ : S31) = 0
  · have hr := right_of hf
    have hn := hr.n
    obtain ⟨o, o1, o2, o3⟩ := spans_ok a0 a1 a2 ins exs b0 b1 bs bm c0 c1 cs cm hx ht hb hr
    have hsp : Ev (fun k => live_Spans.f k a0 a1 a2 ins exs b0 b1 bs bm c0 c1 cs cm) (o, 0) := by
      unfold live_Spans.f
      refine Ev.bind hc ?_
      rw [hf]
      simp only [if_true, if_pos (show ins.length < 2147483648 by omega)]
      exact Pur.ev_some o1
    refine Ev.bind hsp ?_
    refine Ev.bind hc ?_
    rw [hf]
    simp only [if_true]
    refine Ev.step (f := fun k => backstitchlaw3_LiveTells.l0 k o o.length 0 a0 a1 a2 ins exs b0 b1 bs bm c0 c1 cs cm) (fun k => by
      simp only [backstitchlaw3_LiveTells.j0]
      rw [if_neg (by decide), if_pos trivial, if_pos (by omega)]) ?_
    exact all_l a0 a1 a2 ins exs b0 b1 bs bm c0 c1 cs cm hx ht hb hr o o2 o3 o.length 0 (by omega)
  · have hsp : Ev (fun k => live_Spans.f k a0 a1 a2 ins exs b0 b1 bs bm c0 c1 cs cm) ([], faultS a2 ins exs (⟨b0, b1, bs, bm⟩ : S31) (⟨c0, c1, cs, cm⟩ : S31)) := by
      unfold live_Spans.f
      refine Ev.bind hc ?_
      simp only [if_neg hf]
      exact Ev.now _
    refine Ev.bind hsp ?_
    refine Ev.bind hc ?_
    simp only [if_true]
    refine Ev.step (f := fun _ => some true) (fun k => by
      simp only [backstitchlaw3_LiveTells.j0]
      rw [if_neg (by simp), if_neg hf]
      rfl) (Ev.now _)
end Go.Proofs.Ytlojkphocbbjdaa.Pure
