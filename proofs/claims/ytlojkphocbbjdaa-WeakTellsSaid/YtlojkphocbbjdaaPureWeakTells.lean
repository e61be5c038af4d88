/- WeakTells: for every graph and all pairs the law's printed function answers true. -/
import Derived.Test.YtlojkphocbbjdaaRWeakTells
namespace Go.Proofs.Ytlojkphocbbjdaa.Pure
open Go.RowKit Go.Proofs.Ytlojkphocbbjdaa.PWeakTells Go.Proofs.YtlojkphocbbjdaaW Go.Proofs.YtlojkphocbbjdaaW.PrintWords Go.Proofs.YtlojkphocbbjdaaW.PrintLast Go.Proofs.Ytlojkphocbbjdaa.PureWeakTells
set_option linter.unusedVariables false
set_option linter.unusedSimpArgs false

/- live -/
theorem liveP_ok (has : List (List Int)) (hg : GrOk has) : ∀ (ps : List S100) (s : List Bool) (t : List Int) (m : Bool), Inv has s t → PsOk has.length ps →
    ∃ s' t' m', liveP ps s t m = some (s', t', m') ∧ Inv has s' t' ∧ s'.count false ≤ s.count false ∧ (∀ i, Tr s i → Tr s' i) ∧ (m' = true → m = true ∨ s'.count false < s.count false) ∧ (m' = false → m = false ∧ s' = s ∧ t' = t ∧ ClosedP ps (Tr s)) ∧ (∀ P : Nat → Prop, ClosedP ps P → (∀ j, Tr s j → P j) → ∀ j, Tr s' j → P j)
  | [], s, t, m, h, _ => ⟨s, t, m, rfl, h, Nat.le_refl _, fun _ h => h, .inl, fun e => ⟨e, rfl, rfl, fun p hp => by cases hp⟩, fun _ _ h => h⟩
  | p :: ps, s, t, m, h, hr => by
    have hp := hr p List.mem_cons_self
    rw [liveP, if_pos (show (0 ≤ p.f0 ∧ p.f0 < (s.length : Int)) ∧ 0 ≤ p.f1 ∧ p.f1 < (s.length : Int) by rw [h.len]; exact ⟨hp.1, hp.2⟩)]
    have hxn : p.f1.toNat < s.length := by rw [h.len]; have := hp.2.1; have := hp.2.2; omega
    by_cases hc : rdOf false s p.f0 = true ∧ rdOf false s p.f1 = false
    · rw [if_pos hc]
      have hk : Tr s p.f0.toNat := hc.1
      have hv : ¬ Tr s p.f1.toNat := fun h2 => by have h3 : rdOf false s p.f1 = true := h2; rw [hc.2] at h3; cases h3
      obtain ⟨s1, t1, e1, i1, c1, d1, u1⟩ := h.reach [p.f1] (fun x hx => by rw [List.mem_singleton.1 hx]; exact hp.2)
      have hlt : s1.count false < s.count false := by
        have h1 : reachS [p.f1] s t = some (s.set p.f1.toNat true, t ++ [p.f1]) := by
          rw [reachS, if_pos (show 0 ≤ p.f1 ∧ p.f1 < (s.length : Int) by rw [h.len]; exact hp.2), if_neg (by rw [hc.2]; decide), if_pos (by have := h.few; omega), reachS]
        rw [h1] at e1
        simp only [Option.some.injEq, Prod.mk.injEq] at e1
        rw [← e1.1]
        have := cf_set hxn hv
        omega
      obtain ⟨s2, t2, m2, e2, i2, d2, u2, a2, b2, f2⟩ := liveP_ok has hg ps s1 t1 true i1 (fun y hy => hr y (List.mem_cons_of_mem _ hy))
      refine ⟨s2, t2, m2, by rw [e1]; exact e2, i2, by omega, fun i hi => u2 i ((u1 i).2 (.inl hi)), fun _ => .inr (by omega), fun e => ?_, fun P hP h0 => f2 P (fun y hy => hP y (List.mem_cons_of_mem _ hy)) fun j hj => ?_⟩
      · cases (b2 e).1
      · rcases (u1 j).1 hj with h8 | ⟨x, h8, h9⟩
        · exact h0 j h8
        · rw [← h9, List.mem_singleton.1 h8]
          exact hP p List.mem_cons_self (h0 _ hk)
    · rw [if_neg hc]
      obtain ⟨s2, t2, m2, e2, i2, d2, u2, a2, b2, f2⟩ := liveP_ok has hg ps s t m h (fun y hy => hr y (List.mem_cons_of_mem _ hy))
      refine ⟨s2, t2, m2, e2, i2, d2, u2, a2, fun e => ?_, fun P hP h0 => f2 P (fun y hy => hP y (List.mem_cons_of_mem _ hy)) h0⟩
      obtain ⟨e3, e4, e5, e6⟩ := b2 e
      refine ⟨e3, e4, e5, fun y hy => ?_⟩
      rcases List.mem_cons.1 hy with rfl | hy
      · intro hk
        by_cases h3 : rdOf false s y.f1 = true
        · exact h3
        · exact absurd ⟨hk, by simpa using h3⟩ hc
      · exact e6 y hy
theorem liveR_ok (has : List (List Int)) (ps : List S100) (hg : GrOk has) (hp : PsOk has.length ps) : ∀ (N : Nat) (s : List Bool) (t : List Int), s.count false ≤ N → Inv has s t →
    ∃ s', Ev (fun k => liveR has ps k s t) s' ∧ s'.length = has.length ∧ (∀ i, Tr s i → Tr s' i) ∧ ClosedB has ps (Tr s') ∧ (∀ P : Nat → Prop, ClosedB has ps P → (∀ i, Tr s i → P i) → ∀ i, Tr s' i → P i) := by
  intro N
  induction N with
  | zero =>
    intro s t hN h
    obtain ⟨s1, a1, a2, a3, a4, a5⟩ := all_ok has hg _ s t (Nat.le_refl _) h
    obtain ⟨s2, t2, m2, e2, i2, d2, u2, b2, q2, f2⟩ := liveP_ok has hg ps s1 [] false a2 hp
    cases m2 with
    | true =>
      rcases b2 rfl with h1 | h1
      · cases h1
      · omega
    | false =>
      obtain ⟨_, rfl, rfl, e6⟩ := q2 rfl
      refine ⟨s2, Ev.step (f := fun k => (allS has k s t).bind fun s1 => (liveP ps s1 [] false).bind fun q => if q.2.2 = true then liveR has ps k q.1 q.2.1 else some q.1) (fun k => rfl) (Ev.bind a1 (Ev.congr (f := fun _ => some s2) (fun k => ?_) (Ev.now _))), a2.len, a4, ⟨a2.closed, e6⟩, fun P hP => a5 P hP.1⟩
      rw [e2]
      rfl
  | succ N ih =>
    intro s t hN h
    obtain ⟨s1, a1, a2, a3, a4, a5⟩ := all_ok has hg _ s t (Nat.le_refl _) h
    obtain ⟨s2, t2, m2, e2, i2, d2, u2, b2, q2, f2⟩ := liveP_ok has hg ps s1 [] false a2 hp
    cases m2 with
    | true =>
      have hlt : s2.count false < s1.count false := by
        rcases b2 rfl with h1 | h1
        · cases h1
        · exact h1
      obtain ⟨s', j1, j2, j3, j4, j5⟩ := ih s2 t2 (by omega) i2
      refine ⟨s', Ev.step (f := fun k => (allS has k s t).bind fun s1 => (liveP ps s1 [] false).bind fun q => if q.2.2 = true then liveR has ps k q.1 q.2.1 else some q.1) (fun k => rfl) (Ev.bind a1 (Ev.congr (f := fun k => liveR has ps k s2 t2) (fun k => ?_) j1)), j2, fun i hi => j3 i (u2 i (a4 i hi)), j4, fun P hP h0 => j5 P hP fun i hi => f2 P hP.2 (fun j hj => a5 P hP.1 h0 j hj) i hi⟩
      rw [e2]
      rfl
    | false =>
      obtain ⟨_, rfl, rfl, e6⟩ := q2 rfl
      refine ⟨s2, Ev.step (f := fun k => (allS has k s t).bind fun s1 => (liveP ps s1 [] false).bind fun q => if q.2.2 = true then liveR has ps k q.1 q.2.1 else some q.1) (fun k => rfl) (Ev.bind a1 (Ev.congr (f := fun _ => some s2) (fun k => ?_) (Ev.now _))), a2.len, a4, ⟨a2.closed, e6⟩, fun P hP => a5 P hP.1⟩
      rw [e2]
      rfl
theorem liveOk_iff (n : Nat) : ∀ ps, liveOk n ps = true ↔ PsOk n ps
  | [] => by simp [liveOk, PsOk]
  | p :: ps => by
    rw [liveOk, Bool.and_eq_true, Bool.and_eq_true, liveOk_iff n ps, decide_eq_true_iff, decide_eq_true_iff]
    constructor
    · rintro ⟨h1, h2, h3⟩ y hy
      rcases List.mem_cons.1 hy with rfl | hy
      · exact ⟨h1, h2⟩
      · exact h3 y hy
    · intro h
      exact ⟨(h p List.mem_cons_self).1, (h p List.mem_cons_self).2, fun y hy => h y (List.mem_cons_of_mem _ hy)⟩
theorem liveF_ok (has : List (List Int)) (roots : List Int) (ps : List S100) (hg : GrOk has) (hn : has.length < 17592186044416) (hr : ∀ x ∈ roots, InR has.length x) (hp : PsOk has.length ps) :
    ∃ s, Ev (fun k => liveF k has roots ps) (s, 0) ∧ Least has (ClosedB has ps) roots s := by
  obtain ⟨s1, t1, e, h1, h2, h3, h4⟩ := (Inv.start has hn).reach roots hr
  obtain ⟨s', i1, i2, i3, i4, i5⟩ := liveR_ok has ps hg hp _ s1 t1 (Nat.le_refl _) h1
  refine ⟨s', ?_, i2, fun x hx => i3 _ ((h4 _).2 (.inr ⟨x, hx, rfl⟩)), i4, fun P hc hP => i5 P hc fun i hi => ?_⟩
  · refine Ev.congr (f := fun k => (liveR has ps k s1 t1).bind fun s => some (s, 0)) (fun k => ?_) (Ev.bind i1 (Ev.now _))
    unfold liveF
    rw [if_pos (by omega), if_pos ((liveOk_iff _ _).2 hp), e]
    rfl
  · rcases (h4 i).1 hi with h8 | ⟨x, h8, h9⟩
    · exact absurd h8 (tr_none _ _)
    · rw [← h9]; exact hP x h8

/- faults -/
def okL (n : Nat) (l : List Int) : Bool := l.all fun x => decide (0 ≤ x ∧ x < (n : Int))
def big (l : List Int) : Bool := decide (10 < l.length)
def fault (has : List (List Int)) (roots : List Int) : Int := if has.length > 100 ∨ roots.length > 100 then 2 else if has.any big = true then 2 else if (okL has.length roots && has.all (okL has.length)) = true then 0 else 3
theorem in_ev (x : Int) (n : Nat) : weak_in.f x n = some (decide (0 ≤ x ∧ x < (n : Int))) := by
  unfold weak_in.f
  by_cases h : x ≥ 0
  · rw [if_pos h]; simp [h]
  · rw [if_neg h]; simp; omega
theorem chk_l2 (n : Nat) (rows : List (List Int)) (i : Nat) (row : List Int) (hrow : row.length < 4611686018427387904) (r : Int) (hnext : Ev (fun k => weak_Check.l1 k n rows rows.length (wrap64 ((i : Int) + 1))) r) :
    ∀ (e j : Nat), j + e = row.length → Ev (fun k => weak_Check.l2 k n rows rows.length i row row.length j) (if okL n (row.drop j) = true then r else 3)
  | 0, j, hj => by
    rw [List.drop_eq_nil_of_le (by omega), okL, List.all_nil, if_pos rfl]
    refine Ev.step (f := fun k => weak_Check.l1 k n rows rows.length (wrap64 ((i : Int) + 1))) (fun k => ?_) hnext
    show weak_Check.l2 (k + 1) n rows rows.length i row row.length j = _
    rw [weak_Check.l2, if_neg (by omega)]
  | e + 1, j, hj => by
    have hlt : j < row.length := by omega
    rw [Pur.drop_cons row j hlt 0, okL, List.all_cons]
    have ex : rd row (j : Int) = row.getD j 0 := rfl
    generalize hx : row.getD j 0 = x at *
    by_cases h : 0 ≤ x ∧ x < (n : Int)
    · rw [decide_eq_true h, Bool.true_and]
      refine Ev.step (f := fun k => weak_Check.l2 k n rows rows.length i row row.length ((j + 1 : Nat) : Int)) (fun k => ?_) (chk_l2 n rows i row hrow r hnext e (j + 1) (by omega))
      show weak_Check.l2 (k + 1) n rows rows.length i row row.length j = _
      rw [weak_Check.l2, if_pos (by omega), if_pos (by omega), if_pos (by omega), ex, in_ev, Option.bind_some, decide_eq_true h, if_pos rfl, Pur.wrap_succ (by omega)]
    · rw [decide_eq_false h, Bool.false_and, if_neg (by simp)]
      refine Ev.step (f := fun _ => some 3) (fun k => ?_) (Ev.now _)
      show weak_Check.l2 (k + 1) n rows rows.length i row row.length j = _
      rw [weak_Check.l2, if_pos (by omega), if_pos (by omega), if_pos (by omega), ex, in_ev, Option.bind_some, decide_eq_false h, if_neg (by simp)]
theorem chk_l1 (n : Nat) (rows : List (List Int)) (hrows : rows.length < 4611686018427387904) (hrow : ∀ l ∈ rows, l.length < 4611686018427387904) :
    ∀ (d i : Nat), i + d = rows.length → Ev (fun k => weak_Check.l1 k n rows rows.length i) (if (rows.drop i).all (okL n) = true then 0 else 3)
  | 0, i, hi => by
    rw [List.drop_eq_nil_of_le (by omega), List.all_nil, if_pos rfl]
    refine Ev.step (f := fun _ => some 0) (fun k => ?_) (Ev.now _)
    show weak_Check.l1 (k + 1) n rows rows.length i = _
    rw [weak_Check.l1, if_neg (by omega)]
  | d + 1, i, hi => by
    have hlt : i < rows.length := by omega
    rw [Pur.drop_cons rows i hlt [], List.all_cons]
    have ex : rd_L1 rows (i : Int) = rows.getD i [] := rfl
    have hm : rows.getD i [] ∈ rows := by
      rw [List.getD_eq_getElem?_getD, List.getElem?_eq_getElem hlt, Option.getD_some]
      exact List.getElem_mem _
    have hl := hrow _ hm
    generalize rows.getD i [] = row at *
    have ih := chk_l1 n rows hrows hrow d (i + 1) (by omega)
    have h2 := chk_l2 n rows i row hl _ (by rw [Pur.wrap_succ (by omega)]; exact ih) row.length 0 (by omega)
    rw [List.drop_zero] at h2
    have e : (if (okL n row && (rows.drop (i + 1)).all (okL n)) = true then (0 : Int) else 3) = (if okL n row = true then (if (rows.drop (i + 1)).all (okL n) = true then 0 else 3) else 3) := by
      cases okL n row <;> simp
    rw [e]
    refine Ev.step (f := fun k => weak_Check.l2 k n rows rows.length i row row.length ((0 : Nat) : Int)) (fun k => ?_) h2
    show weak_Check.l1 (k + 1) n rows rows.length i = _
    rw [weak_Check.l1, if_pos (by omega), if_pos (by omega), if_pos (by omega), ex]
    rfl
theorem chk_l0 (has : List (List Int)) (roots : List Int) (hn : has.length ≤ 100) (hr : roots.length ≤ 100) (hrow : ∀ l ∈ has, l.length < 4611686018427387904) :
    ∀ (d i : Nat), i + d = has.length → Ev (fun k => weak_Check.l0 k has.length has has.length i has roots) (if (has.drop i).any big = true then 2 else if (okL has.length roots && has.all (okL has.length)) = true then 0 else 3)
  | 0, i, hi => by
    rw [List.drop_eq_nil_of_le (by omega), List.any_nil, if_neg (by decide)]
    have h := chk_l1 has.length ([roots] ++ has) (by simp; omega) (fun l hl => by
      rcases List.mem_append.1 hl with h | h
      · rw [List.mem_singleton.1 h]; omega
      · exact hrow l h) ([roots] ++ has).length 0 (by omega)
    rw [List.drop_zero, List.all_append, List.all_cons, List.all_nil, Bool.and_true] at h
    refine Ev.step (f := fun k => weak_Check.l1 k has.length ([roots] ++ has) ([roots] ++ has).length ((0 : Nat) : Int)) (fun k => ?_) h
    show weak_Check.l0 (k + 1) has.length has has.length i has roots = _
    rw [weak_Check.l0, if_neg (by omega), Option.bind_some, if_pos (by simp; omega), Option.bind_some]
    rfl
  | d + 1, i, hi => by
    have hlt : i < has.length := by omega
    rw [Pur.drop_cons has i hlt [], List.any_cons]
    have ex : rd_L1 has (i : Int) = has.getD i [] := rfl
    generalize has.getD i [] = row at *
    by_cases h : 10 < row.length
    · rw [show big row = true from decide_eq_true h, Bool.true_or, if_pos rfl]
      refine Ev.step (f := fun _ => some 2) (fun k => ?_) (Ev.now _)
      show weak_Check.l0 (k + 1) has.length has has.length i has roots = _
      rw [weak_Check.l0, if_pos (by omega), if_pos (by omega), if_pos (by omega), ex, if_pos (by omega)]
    · rw [show big row = false from decide_eq_false h, Bool.false_or]
      refine Ev.step (f := fun k => weak_Check.l0 k has.length has has.length ((i + 1 : Nat) : Int) has roots) (fun k => ?_) (chk_l0 has roots hn hr hrow d (i + 1) (by omega))
      show weak_Check.l0 (k + 1) has.length has has.length i has roots = _
      rw [weak_Check.l0, if_pos (by omega), if_pos (by omega), if_pos (by omega), ex, if_neg (by omega), Pur.wrap_succ (by omega)]
theorem check_ev (has : List (List Int)) (roots : List Int) (hrow : ∀ l ∈ has, l.length < 4611686018427387904) : Ev (fun k => weak_Check.f k has roots) (fault has roots) := by
  unfold fault
  by_cases h1 : has.length > 100
  · rw [if_pos (.inl h1)]
    refine ⟨1, fun k hk => ?_⟩
    obtain ⟨m, rfl⟩ : ∃ m, k = m + 1 := ⟨k - 1, by omega⟩
    show weak_Check.f (m + 1) has roots = some 2
    rw [weak_Check.f, if_pos (by omega), weak_Check.j0, if_pos rfl]
  · by_cases h2 : roots.length > 100
    · rw [if_pos (.inr h2)]
      refine ⟨1, fun k hk => ?_⟩
      obtain ⟨m, rfl⟩ : ∃ m, k = m + 1 := ⟨k - 1, by omega⟩
      show weak_Check.f (m + 1) has roots = some 2
      rw [weak_Check.f, if_neg (by omega), weak_Check.j0, if_pos (decide_eq_true (by omega))]
    · rw [if_neg (by omega)]
      have h := chk_l0 has roots (by omega) (by omega) hrow has.length 0 (by omega)
      rw [List.drop_zero] at h
      refine Ev.step (f := fun k => weak_Check.l0 k has.length has has.length ((0 : Nat) : Int) has roots) (fun k => ?_) (h)
      show weak_Check.f (k + 1) has roots = _
      rw [weak_Check.f, if_neg (by omega), weak_Check.j0, if_neg (by simp; omega)]
      rfl
theorem gf_l1 (has : List (List Int)) (roots all : List Int) (hl : all.length < 4611686018427387904) :
    ∀ (d i : Nat), i + d = all.length → Ev (fun k => backstitchref3_GraphFault.l1 k all all.length i has roots) (if okL has.length (all.drop i) = true then 0 else 3)
  | 0, i, hi => by
    rw [List.drop_eq_nil_of_le (by omega), okL, List.all_nil, if_pos rfl]
    refine Ev.step (f := fun _ => some 0) (fun k => ?_) (Ev.now _)
    show backstitchref3_GraphFault.l1 (k + 1) all all.length i has roots = _
    rw [backstitchref3_GraphFault.l1, if_neg (by omega)]
  | d + 1, i, hi => by
    have hlt : i < all.length := by omega
    rw [Pur.drop_cons all i hlt 0, okL, List.all_cons]
    have ex : rd all (i : Int) = all.getD i 0 := rfl
    generalize all.getD i 0 = x at *
    by_cases h : 0 ≤ x ∧ x < (has.length : Int)
    · rw [decide_eq_true h, Bool.true_and]
      refine Ev.step (f := fun k => backstitchref3_GraphFault.l1 k all all.length ((i + 1 : Nat) : Int) has roots) (fun k => ?_) (gf_l1 has roots all hl d (i + 1) (by omega))
      show backstitchref3_GraphFault.l1 (k + 1) all all.length i has roots = _
      rw [backstitchref3_GraphFault.l1, if_pos (by omega), if_pos (by omega), if_pos (by omega), ex, if_neg (by omega), if_neg (by omega), Pur.wrap_succ (by omega)]
    · rw [decide_eq_false h, Bool.false_and, if_neg (by simp)]
      refine Ev.step (f := fun _ => some 3) (fun k => ?_) (Ev.now _)
      show backstitchref3_GraphFault.l1 (k + 1) all all.length i has roots = _
      rw [backstitchref3_GraphFault.l1, if_pos (by omega), if_pos (by omega), if_pos (by omega), ex]
      by_cases h2 : x < 0
      · rw [if_pos h2]
      · rw [if_neg h2, if_pos (by omega)]
theorem gf_l0 (has : List (List Int)) (roots : List Int) (hn : has.length ≤ 100) :
    ∀ (d i : Nat) (acc : List Int), i + d = has.length → acc.length ≤ 100 + 10 * i → Ev (fun k => backstitchref3_GraphFault.l0 k acc has has.length i has roots) (if (has.drop i).any big = true then 2 else if (okL has.length acc && (has.drop i).all (okL has.length)) = true then 0 else 3)
  | 0, i, acc, hi, ha => by
    rw [List.drop_eq_nil_of_le (by omega), List.any_nil, if_neg (by decide), List.all_nil, Bool.and_true]
    have h := gf_l1 has roots acc (by omega) acc.length 0 (by omega)
    rw [List.drop_zero] at h
    refine Ev.step (f := fun k => backstitchref3_GraphFault.l1 k acc acc.length ((0 : Nat) : Int) has roots) (fun k => ?_) h
    show backstitchref3_GraphFault.l0 (k + 1) acc has has.length i has roots = _
    rw [backstitchref3_GraphFault.l0, if_neg (by omega)]
    rfl
  | d + 1, i, acc, hi, ha => by
    have hlt : i < has.length := by omega
    rw [Pur.drop_cons has i hlt [], List.any_cons, List.all_cons]
    have ex : rd_L1 has (i : Int) = has.getD i [] := rfl
    generalize has.getD i [] = row at *
    by_cases h : 10 < row.length
    · rw [show big row = true from decide_eq_true h, Bool.true_or, if_pos rfl]
      refine Ev.step (f := fun _ => some 2) (fun k => ?_) (Ev.now _)
      show backstitchref3_GraphFault.l0 (k + 1) acc has has.length i has roots = _
      rw [backstitchref3_GraphFault.l0, if_pos (by omega), if_pos (by omega), if_pos (by omega), ex, if_pos (by omega)]
    · rw [show big row = false from decide_eq_false h, Bool.false_or, ← Bool.and_assoc, show (okL has.length acc && okL has.length row) = okL has.length (acc ++ row) from List.all_append.symm]
      refine Ev.step (f := fun k => backstitchref3_GraphFault.l0 k (acc ++ row) has has.length ((i + 1 : Nat) : Int) has roots) (fun k => ?_) (gf_l0 has roots hn d (i + 1) (acc ++ row) (by omega) (by simp; omega))
      show backstitchref3_GraphFault.l0 (k + 1) acc has has.length i has roots = _
      rw [backstitchref3_GraphFault.l0, if_pos (by omega), if_pos (by omega), if_pos (by omega), ex, if_neg (by omega), if_pos (by omega), Pur.wrap_succ (by omega)]
theorem gf_ev (has : List (List Int)) (roots : List Int) : Ev (fun k => backstitchref3_GraphFault.f k has roots) (fault has roots) := by
  unfold fault
  by_cases h1 : has.length > 100
  · rw [if_pos (.inl h1)]
    refine ⟨1, fun k hk => ?_⟩
    obtain ⟨m, rfl⟩ : ∃ m, k = m + 1 := ⟨k - 1, by omega⟩
    show backstitchref3_GraphFault.f (m + 1) has roots = some 2
    rw [backstitchref3_GraphFault.f, if_pos (by omega), backstitchref3_GraphFault.j0, if_pos rfl]
  · by_cases h2 : roots.length > 100
    · rw [if_pos (.inr h2)]
      refine ⟨1, fun k hk => ?_⟩
      obtain ⟨m, rfl⟩ : ∃ m, k = m + 1 := ⟨k - 1, by omega⟩
      show backstitchref3_GraphFault.f (m + 1) has roots = some 2
      rw [backstitchref3_GraphFault.f, if_neg (by omega), backstitchref3_GraphFault.j0, if_pos (decide_eq_true (by omega))]
    · rw [if_neg (by omega)]
      have h := gf_l0 has roots (by omega) has.length 0 roots (by omega) (by omega)
      rw [List.drop_zero] at h
      refine Ev.step (f := fun k => backstitchref3_GraphFault.l0 k roots has has.length ((0 : Nat) : Int) has roots) (fun k => ?_) h
      show backstitchref3_GraphFault.f (k + 1) has roots = _
      rw [backstitchref3_GraphFault.f, if_neg (by omega), backstitchref3_GraphFault.j0, if_neg (by simp; omega), backstitchref3_Copy_int.f, if_pos (by omega), Option.bind_some]
      rfl
theorem fault_ok {has : List (List Int)} {roots : List Int} (h : fault has roots = 0) : has.length ≤ 100 ∧ GrOk has ∧ ∀ x ∈ roots, InR has.length x := by
  unfold fault at h
  split at h
  · cases h
  · rename_i h1
    split at h
    · cases h
    · split at h
      · rename_i h3
        rw [Bool.and_eq_true, okL, List.all_eq_true, List.all_eq_true] at h3
        refine ⟨by omega, fun i x hx => ?_, fun x hx => by simpa [InR] using h3.1 x hx⟩
        rw [List.getD_eq_getElem?_getD] at hx
        rcases Nat.lt_or_ge i has.length with hi | hi
        · rw [List.getElem?_eq_getElem hi, Option.getD_some] at hx
          have := h3.2 _ (List.getElem_mem hi)
          rw [okL, List.all_eq_true] at this
          simpa [InR] using this x hx
        · rw [List.getElem?_eq_none hi] at hx
          cases hx
      · cases h
def pfault (has : List (List Int)) (ps : List S100) : Int := if 50 < ps.length then 2 else if liveOk has.length ps = true then 0 else 3
theorem pf_l0 (has : List (List Int)) (roots : List Int) (ps : List S100) (hp : ps.length < 4611686018427387904) :
    ∀ (d i : Nat), i + d = ps.length → Ev (fun k => backstitchref3_PairsFault.l0 k ps ps.length i has roots) (if liveOk has.length (ps.drop i) = true then 0 else 3)
  | 0, i, hi => by
    rw [List.drop_eq_nil_of_le (by omega), liveOk, if_pos rfl]
    refine Ev.step (f := fun _ => some 0) (fun k => ?_) (Ev.now _)
    show backstitchref3_PairsFault.l0 (k + 1) ps ps.length i has roots = _
    rw [backstitchref3_PairsFault.l0, if_neg (by omega)]
  | d + 1, i, hi => by
    have hlt : i < ps.length := by omega
    rw [Pur.drop_cons ps i hlt z100, liveOk]
    have ex : rd_T100 ps (i : Int) = ps.getD i z100 := rfl
    generalize ps.getD i z100 = p at *
    by_cases h : (0 ≤ p.f0 ∧ p.f0 < (has.length : Int)) ∧ 0 ≤ p.f1 ∧ p.f1 < (has.length : Int)
    · rw [decide_eq_true h.1, decide_eq_true h.2, Bool.true_and, Bool.true_and]
      refine Ev.step (f := fun k => backstitchref3_PairsFault.l0 k ps ps.length ((i + 1 : Nat) : Int) has roots) (fun k => ?_) (pf_l0 has roots ps hp d (i + 1) (by omega))
      show backstitchref3_PairsFault.l0 (k + 1) ps ps.length i has roots = _
      rw [backstitchref3_PairsFault.l0, if_pos (by omega), if_pos (by omega), if_pos (by omega), ex, if_neg (by omega), if_neg (by omega), if_neg (by omega), if_neg (by omega), Pur.wrap_succ (by omega)]
    · have hb : (decide (0 ≤ p.f0 ∧ p.f0 < (has.length : Int)) && (decide (0 ≤ p.f1 ∧ p.f1 < (has.length : Int)) && liveOk has.length (ps.drop (i + 1)))) = false := by
        rw [← Bool.and_assoc, ← Bool.decide_and, decide_eq_false h, Bool.false_and]
      rw [hb, if_neg (by decide)]
      refine Ev.step (f := fun _ => some 3) (fun k => ?_) (Ev.now _)
      show backstitchref3_PairsFault.l0 (k + 1) ps ps.length i has roots = _
      rw [backstitchref3_PairsFault.l0, if_pos (by omega), if_pos (by omega), if_pos (by omega), ex]
      by_cases h2 : p.f0 < 0
      · rw [if_pos h2]
      · rw [if_neg h2]
        by_cases h3 : p.f0 ≥ (has.length : Int)
        · rw [if_pos h3]
        · rw [if_neg h3]
          by_cases h4 : p.f1 < 0
          · rw [if_pos h4]
          · rw [if_neg h4, if_pos (by omega)]
/- rows -/
def ris : List Bool → Nat → List Int
  | [], _ => []
  | b :: l, i => if b = true then (i : Int) :: ris l (i + 1) else ris l (i + 1)
theorem wris (s : List Bool) (hs : s.length ≤ 100) : ∀ (d i : Nat) (acc : List Int), i + d = s.length → acc.length ≤ i → Ev (fun k => weak_Rising.l0 k acc s s.length i) (acc ++ ris (s.drop i) i)
  | 0, i, acc, hi, ha => by
    rw [List.drop_eq_nil_of_le (by omega), ris, List.append_nil]
    refine Ev.step (f := fun _ => some acc) (fun k => ?_) (Ev.now _)
    show weak_Rising.l0 (k + 1) acc s s.length i = _
    rw [weak_Rising.l0, if_neg (by omega)]
  | d + 1, i, acc, hi, ha => by
    have hlt : i < s.length := by omega
    rw [Pur.drop_cons s i hlt false, ris]
    have ex : rdOf false s (i : Int) = s.getD i false := rfl
    generalize s.getD i false = b at *
    cases b with
    | true =>
      rw [if_pos rfl, show acc ++ (i : Int) :: ris (s.drop (i + 1)) (i + 1) = (acc ++ [(i : Int)]) ++ ris (s.drop (i + 1)) (i + 1) by simp]
      refine Ev.step (f := fun k => weak_Rising.l0 k (acc ++ [(i : Int)]) s s.length ((i + 1 : Nat) : Int)) (fun k => ?_) (wris s hs d (i + 1) _ (by omega) (by simp; omega))
      show weak_Rising.l0 (k + 1) acc s s.length i = _
      rw [weak_Rising.l0, if_pos (by omega), if_pos (by omega), if_pos (by omega), ex, if_pos rfl, if_pos (by omega), Pur.wrap_succ (by omega)]
    | false =>
      rw [if_neg (by decide)]
      refine Ev.step (f := fun k => weak_Rising.l0 k acc s s.length ((i + 1 : Nat) : Int)) (fun k => ?_) (wris s hs d (i + 1) _ (by omega) (by omega))
      show weak_Rising.l0 (k + 1) acc s s.length i = _
      rw [weak_Rising.l0, if_pos (by omega), if_pos (by omega), if_pos (by omega), ex, if_neg (by decide), Pur.wrap_succ (by omega)]
theorem wris_ev (s : List Bool) (hs : s.length ≤ 100) : Ev (fun k => weak_Rising.f k s) (ris s 0) := by
  have h := wris s hs s.length 0 [] (by omega) (by simp)
  rw [List.drop_zero, List.nil_append] at h
  exact h
theorem rris (s : List Bool) (hs : s.length ≤ 100) : ∀ (d i : Nat) (acc : List Int), i + d = s.length → acc.length ≤ i → Ev (fun k => backstitchref3_Rising.l0 k acc s s.length i) (acc ++ ris (s.drop i) i)
  | 0, i, acc, hi, ha => by
    rw [List.drop_eq_nil_of_le (by omega), ris, List.append_nil]
    refine Ev.step (f := fun _ => some acc) (fun k => ?_) (Ev.now _)
    show backstitchref3_Rising.l0 (k + 1) acc s s.length i = _
    rw [backstitchref3_Rising.l0, if_neg (by omega)]
  | d + 1, i, acc, hi, ha => by
    have hlt : i < s.length := by omega
    rw [Pur.drop_cons s i hlt false, ris]
    have ex : rdOf false s (i : Int) = s.getD i false := rfl
    generalize s.getD i false = b at *
    cases b with
    | true =>
      rw [if_pos rfl, show acc ++ (i : Int) :: ris (s.drop (i + 1)) (i + 1) = (acc ++ [(i : Int)]) ++ ris (s.drop (i + 1)) (i + 1) by simp]
      refine Ev.step (f := fun k => backstitchref3_Rising.l0 k (acc ++ [(i : Int)]) s s.length ((i + 1 : Nat) : Int)) (fun k => ?_) (rris s hs d (i + 1) _ (by omega) (by simp; omega))
      show backstitchref3_Rising.l0 (k + 1) acc s s.length i = _
      rw [backstitchref3_Rising.l0, if_pos (by omega), if_pos (by omega), if_pos (by omega), ex, if_pos rfl, if_pos (by omega), Pur.wrap_succ (by omega)]
    | false =>
      rw [if_neg (by decide)]
      refine Ev.step (f := fun k => backstitchref3_Rising.l0 k acc s s.length ((i + 1 : Nat) : Int)) (fun k => ?_) (rris s hs d (i + 1) _ (by omega) (by omega))
      show backstitchref3_Rising.l0 (k + 1) acc s s.length i = _
      rw [backstitchref3_Rising.l0, if_pos (by omega), if_pos (by omega), if_pos (by omega), ex, if_neg (by decide), Pur.wrap_succ (by omega)]
theorem rris_ev (s : List Bool) (hs : s.length ≤ 100) : Ev (fun k => backstitchref3_Rising.f k s) (ris s 0) := by
  have h := rris s hs s.length 0 [] (by omega) (by simp)
  rw [List.drop_zero, List.nil_append] at h
  exact h
theorem ris_len : ∀ (s : List Bool) (i : Nat), (ris s i).length ≤ s.length
  | [], i => by simp [ris]
  | b :: s, i => by
    have := ris_len s (i + 1)
    rw [ris]
    split <;> simp <;> omega
theorem eq_l0 (l : List Int) (hl : l.length < 4611686018427387904) : ∀ (d i : Nat), i + d = l.length → Ev (fun k => backstitchref3_Eq_int.l0 k l l l.length i) true
  | 0, i, hi => by
    refine Ev.step (f := fun _ => some true) (fun k => ?_) (Ev.now _)
    show backstitchref3_Eq_int.l0 (k + 1) l l l.length i = _
    rw [backstitchref3_Eq_int.l0, if_neg (by omega)]
  | d + 1, i, hi => by
    refine Ev.step (f := fun k => backstitchref3_Eq_int.l0 k l l l.length ((i + 1 : Nat) : Int)) (fun k => ?_) (eq_l0 l hl d (i + 1) (by omega))
    show backstitchref3_Eq_int.l0 (k + 1) l l l.length i = _
    rw [backstitchref3_Eq_int.l0, if_pos (by omega), if_pos (by omega), if_pos (by omega), if_pos (by omega), if_pos rfl, Pur.wrap_succ (by omega)]
theorem eq_ev (l : List Int) (hl : l.length < 4611686018427387904) : Ev (fun k => backstitchref3_Eq_int.f k l l) true := by
  refine Ev.congr (f := fun k => backstitchref3_Eq_int.l0 k l l l.length ((0 : Nat) : Int)) (fun k => ?_) (eq_l0 l hl l.length 0 (by omega))
  show backstitchref3_Eq_int.f k l l = _
  rw [backstitchref3_Eq_int.f, if_pos rfl]
  rfl
theorem pq_l0 (l : List S100) (hl : l.length < 4611686018427387904) : ∀ (d i : Nat), i + d = l.length → Ev (fun k => api_RPair.l0 k l l l.length i) true
  | 0, i, hi => by
    refine Ev.step (f := fun _ => some true) (fun k => ?_) (Ev.now _)
    show api_RPair.l0 (k + 1) l l l.length i = _
    rw [api_RPair.l0, if_neg (by omega)]
  | d + 1, i, hi => by
    refine Ev.step (f := fun k => api_RPair.l0 k l l l.length ((i + 1 : Nat) : Int)) (fun k => ?_) (pq_l0 l hl d (i + 1) (by omega))
    show api_RPair.l0 (k + 1) l l l.length i = _
    rw [api_RPair.l0, if_pos (by omega), if_pos (by omega), if_pos (by omega), if_pos (by omega), if_neg (by simp), Pur.wrap_succ (by omega)]
theorem pq_ev (l : List S100) (hl : l.length < 4611686018427387904) : Ev (fun k => api_RPair.f k l l) true := by
  refine Ev.congr (f := fun k => api_RPair.l0 k l l l.length ((0 : Nat) : Int)) (fun k => ?_) (pq_l0 l hl l.length 0 (by omega))
  show api_RPair.f k l l = _
  rw [api_RPair.f, if_pos rfl]
  rfl

def flt (s : List Bool) (ps : List S100) : List S100 := ps.filter fun p => rdOf false s p.f0
theorem flt_len (s : List Bool) (ps : List S100) : (flt s ps).length ≤ ps.length := List.length_filter_le _ _
theorem kept_l0 (s : List Bool) (ps : List S100) (hp : PsOk s.length ps) (hl : ps.length ≤ 50) : ∀ (d i : Nat) (acc : List S100), i + d = ps.length → acc.length ≤ i → Ev (fun k => weak_Kept.l0 k s acc ps ps.length i) (acc ++ flt s (ps.drop i), 0)
  | 0, i, acc, hi, ha => by
    rw [List.drop_eq_nil_of_le (by omega), show flt s [] = [] from rfl, List.append_nil]
    refine Ev.step (f := fun _ => some (acc, 0)) (fun k => ?_) (Ev.now _)
    show weak_Kept.l0 (k + 1) s acc ps ps.length i = _
    rw [weak_Kept.l0, if_neg (by omega)]
  | d + 1, i, acc, hi, ha => by
    have hlt : i < ps.length := by omega
    rw [Pur.drop_cons ps i hlt z100]
    have ex : rd_T100 ps (i : Int) = ps.getD i z100 := rfl
    have hm : ps.getD i z100 ∈ ps := by
      rw [List.getD_eq_getElem?_getD, List.getElem?_eq_getElem hlt, Option.getD_some]
      exact List.getElem_mem _
    have hb := (hp _ hm).1
    generalize ps.getD i z100 = p at *
    cases h : rdOf false s p.f0 with
    | true =>
      rw [show acc ++ flt s (p :: ps.drop (i + 1)) = (acc ++ [p]) ++ flt s (ps.drop (i + 1)) by simp [flt, List.filter_cons, h]]
      refine Ev.step (f := fun k => weak_Kept.l0 k s (acc ++ [p]) ps ps.length ((i + 1 : Nat) : Int)) (fun k => ?_) (kept_l0 s ps hp hl d (i + 1) _ (by omega) (by simp; omega))
      show weak_Kept.l0 (k + 1) s acc ps ps.length i = _
      rw [weak_Kept.l0, if_pos (by omega), if_pos (by omega), if_pos (by omega), ex, if_pos hb.1, if_pos hb.2, if_pos h, if_pos (by omega), Pur.wrap_succ (by omega)]
    | false =>
      rw [show flt s (p :: ps.drop (i + 1)) = flt s (ps.drop (i + 1)) by simp [flt, List.filter_cons, h]]
      refine Ev.step (f := fun k => weak_Kept.l0 k s acc ps ps.length ((i + 1 : Nat) : Int)) (fun k => ?_) (kept_l0 s ps hp hl d (i + 1) _ (by omega) (by omega))
      show weak_Kept.l0 (k + 1) s acc ps ps.length i = _
      rw [weak_Kept.l0, if_pos (by omega), if_pos (by omega), if_pos (by omega), ex, if_pos hb.1, if_pos hb.2, if_neg (by rw [h]; decide), Pur.wrap_succ (by omega)]
theorem law_l0 (has : List (List Int)) (roots x6 x8 : List Int) (x10 : List S100) (s sg : List Bool) (ps : List S100) (hp : PsOk s.length ps) (hl : ps.length ≤ 50) (hs : s.length ≤ 100) (hsg : sg.length ≤ 100)
    (hf : Ev (fun k => backstitchref3_From.f k has roots roots []) sg) (h6 : x6 = ris sg 0) (h8 : x8 = ris s 0) :
    ∀ (d i : Nat) (acc : List S100), i + d = ps.length → acc.length ≤ i → x10 = acc ++ flt s (ps.drop i) → Ev (fun k => backstitchlaw3_WeakTells.l0 k x6 x8 x10 s acc ps ps.length i has roots) true
  | 0, i, acc, hi, ha, hx => by
    rw [List.drop_eq_nil_of_le (by omega), show flt s [] = [] from rfl, List.append_nil] at hx
    subst h6 h8 hx
    have g1 := ris_len sg 0
    have g2 := ris_len s 0
    refine Ev.step (f := fun k => (backstitchref3_From.f k has roots roots ([] : List (S100))).bind fun t215 => ((backstitchref3_Rising.f k t215).bind fun t218 => ((backstitchref3_Eq_int.f k (ris sg 0) t218).bind fun t221 => (if t221 = true then ((backstitchref3_Rising.f k s).bind fun t222 => ((backstitchref3_Eq_int.f k (ris s 0) t222).bind fun t225 => (if t225 = true then ((api_RPair.f k x10 x10).bind fun t226 => (some t226)) else (some false)))) else (some false))))) (fun k => ?_) ?_
    · show backstitchlaw3_WeakTells.l0 (k + 1) _ _ x10 s x10 ps ps.length i has roots = _
      rw [backstitchlaw3_WeakTells.l0, if_neg (by omega)]
    · refine Ev.bind hf (Ev.bind (rris_ev sg hsg) (Ev.bind (eq_ev _ (by omega)) ?_))
      simp only [if_true]
      refine Ev.bind (rris_ev s hs) (Ev.bind (eq_ev _ (by omega)) ?_)
      simp only [if_true]
      exact Ev.bind (pq_ev _ (by omega)) (Ev.now _)
  | d + 1, i, acc, hi, ha, hx => by
    have hlt : i < ps.length := by omega
    rw [Pur.drop_cons ps i hlt z100] at hx
    have ex : rd_T100 ps (i : Int) = ps.getD i z100 := rfl
    have hm : ps.getD i z100 ∈ ps := by
      rw [List.getD_eq_getElem?_getD, List.getElem?_eq_getElem hlt, Option.getD_some]
      exact List.getElem_mem _
    have hb := (hp _ hm).1
    generalize ps.getD i z100 = p at *
    cases h : rdOf false s p.f0 with
    | true =>
      rw [show acc ++ flt s (p :: ps.drop (i + 1)) = (acc ++ [p]) ++ flt s (ps.drop (i + 1)) by simp [flt, List.filter_cons, h]] at hx
      refine Ev.step (f := fun k => backstitchlaw3_WeakTells.l0 k x6 x8 x10 s (acc ++ [p]) ps ps.length ((i + 1 : Nat) : Int) has roots) (fun k => ?_) (law_l0 has roots x6 x8 x10 s sg ps hp hl hs hsg hf h6 h8 d (i + 1) _ (by omega) (by simp; omega) hx)
      show backstitchlaw3_WeakTells.l0 (k + 1) x6 x8 x10 s acc ps ps.length i has roots = _
      rw [backstitchlaw3_WeakTells.l0, if_pos (by omega), if_pos (by omega), if_pos (by omega), ex, if_pos hb.1, if_pos hb.2, if_pos h, if_pos (by omega), Pur.wrap_succ (by omega)]
    | false =>
      rw [show flt s (p :: ps.drop (i + 1)) = flt s (ps.drop (i + 1)) by simp [flt, List.filter_cons, h]] at hx
      refine Ev.step (f := fun k => backstitchlaw3_WeakTells.l0 k x6 x8 x10 s acc ps ps.length ((i + 1 : Nat) : Int) has roots) (fun k => ?_) (law_l0 has roots x6 x8 x10 s sg ps hp hl hs hsg hf h6 h8 d (i + 1) _ (by omega) (by omega) hx)
      show backstitchlaw3_WeakTells.l0 (k + 1) x6 x8 x10 s acc ps ps.length i has roots = _
      rw [backstitchlaw3_WeakTells.l0, if_pos (by omega), if_pos (by omega), if_pos (by omega), ex, if_pos hb.1, if_pos hb.2, if_neg (by rw [h]; decide), Pur.wrap_succ (by omega)]
theorem paired_ev : Ev (fun k => backstitchlaw3_paired.f k) true := Ev.of (fun k => backstitchlaw3_paired.mono k) (k := 40) (by kernel_rfl)
theorem j1_no (x1 : List S100) (x5 : Int) (x6 x8 : List Int) (x10 : List S100) (x12 : Int) (has : List (List Int)) (roots : List Int) (h : x12 ≠ 0) (h5 : x5 ≠ 0) : Ev (fun k => backstitchlaw3_WeakTells.j1 k x1 x5 x6 x8 x10 x12 false has roots) true := by
  refine Ev.step (f := fun _ => some true) (fun k => ?_) (Ev.now _)
  show backstitchlaw3_WeakTells.j1 (k + 1) x1 x5 x6 x8 x10 x12 false has roots = _
  rw [backstitchlaw3_WeakTells.j1, if_neg (by decide), if_neg h, if_neg h5]
theorem needed_no (has : List (List Int)) (roots : List Int) (hrow : ∀ l ∈ has, l.length < 4611686018427387904) (h : fault has roots ≠ 0) : Ev (fun k => weak_Needed.f k has roots) (([] : List Int), fault has roots) := by
  unfold weak_Needed.f
  refine Ev.bind (check_ev has roots hrow) ?_
  simp only [if_neg h]
  exact Ev.now _
theorem live_no (has : List (List Int)) (roots : List Int) (ps : List S100) (hrow : ∀ l ∈ has, l.length < 4611686018427387904) (h : fault has roots ≠ 0) : Ev (fun k => weak_live.f k has roots ps) (([] : List Bool), fault has roots) := by
  unfold weak_live.f
  refine Ev.bind (check_ev has roots hrow) ?_
  simp only [if_neg h]
  exact Ev.now _
theorem live_no2 (has : List (List Int)) (roots : List Int) (ps : List S100) (hrow : ∀ l ∈ has, l.length < 4611686018427387904) (h : fault has roots = 0) (h2 : pfault has ps ≠ 0) : Ev (fun k => weak_live.f k has roots ps) (([] : List Bool), pfault has ps) := by
  have hn := (fault_ok h).1
  unfold weak_live.f
  refine Ev.bind (check_ev has roots hrow) ?_
  simp only [if_pos h]
  unfold pfault at h2 ⊢
  by_cases h3 : 50 < ps.length
  · rw [if_pos h3]
    exact Pur.ev_some (fun _ => by rw [if_pos (by omega)])
  · rw [if_neg h3] at h2 ⊢
    by_cases h4 : liveOk has.length ps = true
    · rw [if_pos h4] at h2; exact absurd rfl h2
    · rw [if_neg h4]
      exact Pur.ev_some (fun _ => by rw [if_neg (by omega), liveF, if_pos (by omega), if_neg h4])
theorem live_yes (has : List (List Int)) (roots : List Int) (ps : List S100) (s : List Bool) (hrow : ∀ l ∈ has, l.length < 4611686018427387904) (h : fault has roots = 0) (hl : ps.length ≤ 50) (hs : Ev (fun k => liveF k has roots ps) (s, 0)) : Ev (fun k => weak_live.f k has roots ps) (s, 0) := by
  unfold weak_live.f
  refine Ev.bind (check_ev has roots hrow) ?_
  simp only [if_pos h]
  exact Ev.congr (fun k => by rw [if_neg (by omega)]) hs
theorem Live_ev (has : List (List Int)) (roots : List Int) (ps : List S100) (s : List Bool) (e : Int) (hs : s.length ≤ 100) (h : Ev (fun k => weak_live.f k has roots ps) (s, e)) : Ev (fun k => weak_Live.f k has roots ps) (ris s 0, e) := by
  unfold weak_Live.f
  exact Ev.bind h (Ev.bind (wris_ev s hs) (Ev.now _))
theorem Kept_no (has : List (List Int)) (roots : List Int) (ps : List S100) (s : List Bool) (e : Int) (he : e ≠ 0) (h : Ev (fun k => weak_live.f k has roots ps) (s, e)) : Ev (fun k => weak_Kept.f k has roots ps) (([] : List S100), e) := by
  unfold weak_Kept.f
  refine Ev.bind h ?_
  simp only [if_neg he]
  exact Ev.now _
theorem pf_ev (has : List (List Int)) (roots : List Int) (ps : List S100) (hp : ps.length < 4611686018427387904) : Ev (fun k => backstitchref3_PairsFault.f k has roots ps) (if fault has roots = 0 then pfault has ps else fault has roots) := by
  unfold backstitchref3_PairsFault.f
  refine Ev.bind (gf_ev has roots) ?_
  by_cases h : fault has roots = 0
  · simp only [if_pos h]
    unfold pfault
    by_cases h3 : 50 < ps.length
    · rw [if_pos h3]
      exact Pur.ev_some (fun _ => by rw [if_pos (by omega)])
    · rw [if_neg h3]
      have h4 := pf_l0 has roots ps hp ps.length 0 (by omega)
      rw [List.drop_zero] at h4
      exact Ev.congr (fun k => by rw [if_neg (by omega)]; rfl) h4
  · simp only [if_neg h]
    exact Ev.now _
theorem WeakTells : backstitchlaw3_WeakTells.Pure := by
  intro x0 ps hx hps
  obtain ⟨has, roots⟩ := x0
  have hrow : ∀ l ∈ has, l.length < 4611686018427387904 := fun l hl => by have := (hx.1.2 l hl).1; omega
  have hpl : ps.length < 4611686018427387904 := by have := hps.1; omega
  clear hx hps
  refine Ev.rounds ?_
  show Ev (fun k => backstitchlaw3_WeakTells.f k has roots ps) true
  unfold backstitchlaw3_WeakTells.f
  refine Ev.bind paired_ev ?_
  simp only [if_true]
  refine Ev.bind (gf_ev has roots) ?_
  by_cases h : fault has roots = 0
  · obtain ⟨hn, hg, hr⟩ := fault_ok h
    obtain ⟨sg, wg, lg⟩ := wfrom_ok has roots roots hg (by omega) (by omega) hr
    have hsg : sg.length ≤ 100 := by rw [lg.len]; exact hn
    have hneed : Ev (fun k => weak_Needed.f k has roots) (ris sg 0, 0) := by
      unfold weak_Needed.f
      refine Ev.bind (check_ev has roots hrow) ?_
      simp only [if_pos h]
      exact Ev.bind wg (Ev.bind (wris_ev sg hsg) (Ev.now _))
    obtain ⟨sg2, rg, lg2⟩ := rfrom_ok has roots roots [] hg (fun p hp => by cases hp) (by omega) hr
    obtain rfl := lg.same (least_nil lg2)
    refine Ev.bind hneed ?_
    have hpf := pf_ev has roots ps hpl
    rw [if_pos h] at hpf
    by_cases h2 : pfault has ps = 0
    · have hok : ps.length ≤ 50 ∧ PsOk has.length ps := by
        unfold pfault at h2
        split at h2
        · cases h2
        · split at h2
          · rename_i h3 h4
            exact ⟨by omega, (liveOk_iff _ _).1 h4⟩
          · cases h2
      obtain ⟨s, le, ll⟩ := liveF_ok has roots ps hg (by omega) hr hok.2
      have hs : s.length ≤ 100 := by rw [ll.len]; exact hn
      obtain ⟨s2, re, rl⟩ := rfrom_ok has roots roots ps hg hok.2 (by omega) hr
      obtain rfl := ll.same rl
      have hlive := live_yes has roots ps s hrow h hok.1 le
      have hp : PsOk s.length ps := by rw [ll.len]; exact hok.2
      have hkept : Ev (fun k => weak_Kept.f k has roots ps) (flt s ps, 0) := by
        unfold weak_Kept.f
        refine Ev.bind hlive ?_
        simp only [if_true]
        have := kept_l0 s ps hp hok.1 ps.length 0 [] (by omega) (by simp)
        rw [List.drop_zero, List.nil_append] at this
        exact this
      refine Ev.bind (Live_ev has roots ps s 0 hs hlive) (Ev.bind hkept (Ev.bind hpf (Ev.bind (check_ev has roots hrow) ?_)))
      simp only [h, h2, if_true, bne_self_eq_false]
      refine Ev.step (f := fun k => backstitchlaw3_WeakTells.j1 k ps 0 (ris sg 0) (ris s 0) (flt s ps) 0 false has roots) (fun k => ?_) ?_
      · rw [backstitchlaw3_WeakTells.j0, if_neg (by decide), if_pos rfl, if_pos rfl]
      · refine Ev.step (f := fun k => (backstitchref3_From.f k has roots roots ps).bind fun t206 => (backstitchlaw3_WeakTells.l0 k (ris sg 0) (ris s 0) (flt s ps) t206 ([] : List (S100)) ps (ps.length : Int) 0 has roots)) (fun k => ?_) (Ev.bind re ?_)
        · rw [backstitchlaw3_WeakTells.j1, if_neg (by decide), if_pos rfl]
        · exact law_l0 has roots _ _ _ s sg ps hp hok.1 hs hsg rg rfl rfl ps.length 0 [] (by omega) (by simp) (by simp)
    · have hlive := live_no2 has roots ps hrow h h2
      refine Ev.bind (Live_ev has roots ps [] _ (by simp) hlive) (Ev.bind (Kept_no has roots ps [] _ h2 hlive) (Ev.bind hpf (Ev.bind (check_ev has roots hrow) ?_)))
      simp only [h, if_true, bne_self_eq_false]
      refine Ev.step (f := fun k => backstitchlaw3_WeakTells.j1 k ps 0 (ris sg 0) (ris [] 0) [] (pfault has ps) false has roots) (fun k => ?_) ?_
      · rw [backstitchlaw3_WeakTells.j0, if_neg (by decide), if_pos rfl, if_neg h2, show decide (wrap64 (((ris [] 0).length : Int) + (([] : List S100).length : Int)) > 0) = false by simp [ris, wrap64]]
      · refine Ev.step (f := fun k => (backstitchref3_From.f k has roots roots ([] : List (S100))).bind fun t199 => ((backstitchref3_Rising.f k t199).bind fun t202 => ((backstitchref3_Eq_int.f k (ris sg 0) t202).bind fun t205 => (some t205)))) (fun k => ?_) (Ev.bind rg (Ev.bind (rris_ev sg hsg) (Ev.bind (eq_ev _ (by have := ris_len sg 0; omega)) (Ev.now _))))
        rw [backstitchlaw3_WeakTells.j1, if_neg (by decide), if_neg h2, if_pos rfl]
  · have hlive := live_no has roots ps hrow h
    have hpf := pf_ev has roots ps hpl
    rw [if_neg h] at hpf
    refine Ev.bind (needed_no has roots hrow h) (Ev.bind (Live_ev has roots ps [] _ (by simp) hlive) (Ev.bind (Kept_no has roots ps [] _ h hlive) (Ev.bind hpf (Ev.bind (check_ev has roots hrow) ?_))))
    simp only [if_true, bne_self_eq_false]
    refine Ev.step (f := fun k => backstitchlaw3_WeakTells.j1 k ps (fault has roots) [] (ris [] 0) [] (fault has roots) false has roots) (fun k => ?_) (j1_no _ _ _ _ _ _ _ _ h h)
    rw [backstitchlaw3_WeakTells.j0, if_neg (by decide), if_neg h, if_neg (by simp), if_neg h, show decide (wrap64 (((ris [] 0).length : Int) + (([] : List S100).length : Int)) > 0) = false by simp [ris, wrap64]]
end Go.Proofs.Ytlojkphocbbjdaa.Pure
