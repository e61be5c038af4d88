/- Faults of a graph, rising numbers, equal rows: what the printed functions tell. -/
import Derived.Test.YtlojkphocbbjdabREndsTell
namespace Go.Proofs.Ytlojkphocbbjdab.PureEndsTell
open Go.RowKit Go.Proofs.Ytlojkphocbbjdab.PEndsTell Go.Proofs.YtlojkphocbbjdabW Go.Proofs.YtlojkphocbbjdabW.PrintWords Go.Proofs.YtlojkphocbbjdabW.PrintLast
set_option linter.unusedVariables false
set_option linter.unusedSimpArgs false
/- faults -/
def okL (n : Nat) (l : List Int) : Bool := l.all fun x => decide (0 ≤ x ∧ x < (n : Int))
def big (l : List Int) : Bool := decide (10 < l.length)
def fault (has : List (List Int)) (roots : List Int) : Int := if has.length > 100 ∨ roots.length > 100 then 2 else if has.any big = true then 2 else if (okL has.length roots && has.all (okL has.length)) = true then 0 else 3
theorem in_ev (x : Int) (n : Nat) : weak_in.f x n = some (decide (0 ≤ x ∧ x < (n : Int))) := by
  unfold weak_in.f
  by_cases h : x ≥ 0
  · rw [if_pos h]; simp [h]
  · rw [if_neg h]; simp; omega
theorem chk_l2 (n : Nat) (rows : List (List Int)) (i : Nat) (row : List Int) (hrow : row.length < 4611686018427387904) (r : Int) (hnext : Ev (fun k => weak_Check.l1 k n rows rows.length (wrap64 ((i : Int) + 1))) r) :
    ∀ (e j : Nat), j + e = row.length → Ev (fun k => weak_Check.l2 k n rows rows.length i row row.length j) (if okL n (row.drop j) = true then r else 3)
  | 0, j, hj => by
    rw [List.drop_eq_nil_of_le (by omega), okL, List.all_nil, if_pos rfl]
    refine Ev.step (f := fun k => weak_Check.l1 k n rows rows.length (wrap64 ((i : Int) + 1))) (fun k => ?_) hnext
    show weak_Check.l2 (k + 1) n rows rows.length i row row.length j = _
    rw [weak_Check.l2, if_neg (by omega)]
  | e + 1, j, hj => by
    have hlt : j < row.length := by omega
    rw [Pur.drop_cons row j hlt 0, okL, List.all_cons]
    have ex : rd row (j : Int) = row.getD j 0 := rfl
    generalize hx : row.getD j 0 = x at *
    by_cases h : 0 ≤ x ∧ x < (n : Int)
    · rw [decide_eq_true h, Bool.true_and]
      refine Ev.step (f := fun k => weak_Check.l2 k n rows rows.length i row row.length ((j + 1 : Nat) : Int)) (fun k => ?_) (chk_l2 n rows i row hrow r hnext e (j + 1) (by omega))
      show weak_Check.l2 (k + 1) n rows rows.length i row row.length j = _
      rw [weak_Check.l2, if_pos (by omega), if_pos (by omega), if_pos (by omega), ex, in_ev, Option.bind_some, decide_eq_true h, if_pos rfl, Pur.wrap_succ (by omega)]
    · rw [decide_eq_false h, Bool.false_and, if_neg (by simp)]
      refine Ev.step (f := fun _ => some 3) (fun k => ?_) (Ev.now _)
      show weak_Check.l2 (k + 1) n rows rows.length i row row.length j = _
      rw [weak_Check.l2, if_pos (by omega), if_pos (by omega), if_pos (by omega), ex, in_ev, Option.bind_some, decide_eq_false h, if_neg (by simp)]
theorem chk_l1 (n : Nat) (rows : List (List Int)) (hrows : rows.length < 4611686018427387904) (hrow : ∀ l ∈ rows, l.length < 4611686018427387904) :
    ∀ (d i : Nat), i + d = rows.length → Ev (fun k => weak_Check.l1 k n rows rows.length i) (if (rows.drop i).all (okL n) = true then 0 else 3)
  | 0, i, hi => by
    rw [List.drop_eq_nil_of_le (by omega), List.all_nil, if_pos rfl]
    refine Ev.step (f := fun _ => some 0) (fun k => ?_) (Ev.now _)
    show weak_Check.l1 (k + 1) n rows rows.length i = _
    rw [weak_Check.l1, if_neg (by omega)]
  | d + 1, i, hi => by
    have hlt : i < rows.length := by omega
    rw [Pur.drop_cons rows i hlt [], List.all_cons]
    have ex : rd_L1 rows (i : Int) = rows.getD i [] := rfl
    have hm : rows.getD i [] ∈ rows := by
      rw [List.getD_eq_getElem?_getD, List.getElem?_eq_getElem hlt, Option.getD_some]
      exact List.getElem_mem _
    have hl := hrow _ hm
    generalize rows.getD i [] = row at *
    have ih := chk_l1 n rows hrows hrow d (i + 1) (by omega)
    have h2 := chk_l2 n rows i row hl _ (by rw [Pur.wrap_succ (by omega)]; exact ih) row.length 0 (by omega)
    rw [List.drop_zero] at h2
    have e : (if (okL n row && (rows.drop (i + 1)).all (okL n)) = true then (0 : Int) else 3) = (if okL n row = true then (if (rows.drop (i + 1)).all (okL n) = true then 0 else 3) else 3) := by
      cases okL n row <;> simp
    rw [e]
    refine Ev.step (f := fun k => weak_Check.l2 k n rows rows.length i row row.length ((0 : Nat) : Int)) (fun k => ?_) h2
    show weak_Check.l1 (k + 1) n rows rows.length i = _
    rw [weak_Check.l1, if_pos (by omega), if_pos (by omega), if_pos (by omega), ex]
    rfl
theorem chk_l0 (has : List (List Int)) (roots : List Int) (hn : has.length ≤ 100) (hr : roots.length ≤ 100) (hrow : ∀ l ∈ has, l.length < 4611686018427387904) :
    ∀ (d i : Nat), i + d = has.length → Ev (fun k => weak_Check.l0 k has.length has has.length i has roots) (if (has.drop i).any big = true then 2 else if (okL has.length roots && has.all (okL has.length)) = true then 0 else 3)
  | 0, i, hi => by
    rw [List.drop_eq_nil_of_le (by omega), List.any_nil, if_neg (by decide)]
    have h := chk_l1 has.length ([roots] ++ has) (by simp; omega) (fun l hl => by
      rcases List.mem_append.1 hl with h | h
      · rw [List.mem_singleton.1 h]; omega
      · exact hrow l h) ([roots] ++ has).length 0 (by omega)
    rw [List.drop_zero, List.all_append, List.all_cons, List.all_nil, Bool.and_true] at h
    refine Ev.step (f := fun k => weak_Check.l1 k has.length ([roots] ++ has) ([roots] ++ has).length ((0 : Nat) : Int)) (fun k => ?_) h
    show weak_Check.l0 (k + 1) has.length has has.length i has roots = _
    rw [weak_Check.l0, if_neg (by omega), Option.bind_some, if_pos (by simp; omega), Option.bind_some]
    rfl
  | d + 1, i, hi => by
    have hlt : i < has.length := by omega
    rw [Pur.drop_cons has i hlt [], List.any_cons]
    have ex : rd_L1 has (i : Int) = has.getD i [] := rfl
    generalize has.getD i [] = row at *
    by_cases h : 10 < row.length
    · rw [show big row = true from decide_eq_true h, Bool.true_or, if_pos rfl]
      refine Ev.step (f := fun _ => some 2) (fun k => ?_) (Ev.now _)
      show weak_Check.l0 (k + 1) has.length has has.length i has roots = _
      rw [weak_Check.l0, if_pos (by omega), if_pos (by omega), if_pos (by omega), ex, if_pos (by omega)]
    · rw [show big row = false from decide_eq_false h, Bool.false_or]
      refine Ev.step (f := fun k => weak_Check.l0 k has.length has has.length ((i + 1 : Nat) : Int) has roots) (fun k => ?_) (chk_l0 has roots hn hr hrow d (i + 1) (by omega))
      show weak_Check.l0 (k + 1) has.length has has.length i has roots = _
      rw [weak_Check.l0, if_pos (by omega), if_pos (by omega), if_pos (by omega), ex, if_neg (by omega), Pur.wrap_succ (by omega)]
theorem check_ev (has : List (List Int)) (roots : List Int) (hrow : ∀ l ∈ has, l.length < 4611686018427387904) : Ev (fun k => weak_Check.f k has roots) (fault has roots) := by
  unfold fault
  by_cases h1 : has.length > 100
  · rw [if_pos (.inl h1)]
    refine ⟨1, fun k hk => ?_⟩
    obtain ⟨m, rfl⟩ : ∃ m, k = m + 1 := ⟨k - 1, by omega⟩
    show weak_Check.f (m + 1) has roots = some 2
    rw [weak_Check.f, if_pos (by omega), weak_Check.j0, if_pos rfl]
  · by_cases h2 : roots.length > 100
    · rw [if_pos (.inr h2)]
      refine ⟨1, fun k hk => ?_⟩
      obtain ⟨m, rfl⟩ : ∃ m, k = m + 1 := ⟨k - 1, by omega⟩
      show weak_Check.f (m + 1) has roots = some 2
      rw [weak_Check.f, if_neg (by omega), weak_Check.j0, if_pos (decide_eq_true (by omega))]
    · rw [if_neg (by omega)]
      have h := chk_l0 has roots (by omega) (by omega) hrow has.length 0 (by omega)
      rw [List.drop_zero] at h
      refine Ev.step (f := fun k => weak_Check.l0 k has.length has has.length ((0 : Nat) : Int) has roots) (fun k => ?_) (h)
      show weak_Check.f (k + 1) has roots = _
      rw [weak_Check.f, if_neg (by omega), weak_Check.j0, if_neg (by simp; omega)]
      rfl
theorem gf_l1 (has : List (List Int)) (roots all : List Int) (hl : all.length < 4611686018427387904) :
    ∀ (d i : Nat), i + d = all.length → Ev (fun k => backstitchref3_GraphFault.l1 k all all.length i has roots) (if okL has.length (all.drop i) = true then 0 else 3)
  | 0, i, hi => by
    rw [List.drop_eq_nil_of_le (by omega), okL, List.all_nil, if_pos rfl]
    refine Ev.step (f := fun _ => some 0) (fun k => ?_) (Ev.now _)
    show backstitchref3_GraphFault.l1 (k + 1) all all.length i has roots = _
    rw [backstitchref3_GraphFault.l1, if_neg (by omega)]
  | d + 1, i, hi => by
    have hlt : i < all.length := by omega
    rw [Pur.drop_cons all i hlt 0, okL, List.all_cons]
    have ex : rd all (i : Int) = all.getD i 0 := rfl
    generalize all.getD i 0 = x at *
    by_cases h : 0 ≤ x ∧ x < (has.length : Int)
    · rw [decide_eq_true h, Bool.true_and]
      refine Ev.step (f := fun k => backstitchref3_GraphFault.l1 k all all.length ((i + 1 : Nat) : Int) has roots) (fun k => ?_) (gf_l1 has roots all hl d (i + 1) (by omega))
      show backstitchref3_GraphFault.l1 (k + 1) all all.length i has roots = _
      rw [backstitchref3_GraphFault.l1, if_pos (by omega), if_pos (by omega), if_pos (by omega), ex, if_neg (by omega), if_neg (by omega), Pur.wrap_succ (by omega)]
    · rw [decide_eq_false h, Bool.false_and, if_neg (by simp)]
      refine Ev.step (f := fun _ => some 3) (fun k => ?_) (Ev.now _)
      show backstitchref3_GraphFault.l1 (k + 1) all all.length i has roots = _
      rw [backstitchref3_GraphFault.l1, if_pos (by omega), if_pos (by omega), if_pos (by omega), ex]
      by_cases h2 : x < 0
      · rw [if_pos h2]
      · rw [if_neg h2, if_pos (by omega)]
theorem gf_l0 (has : List (List Int)) (roots : List Int) (hn : has.length ≤ 100) :
    ∀ (d i : Nat) (acc : List Int), i + d = has.length → acc.length ≤ 100 + 10 * i → Ev (fun k => backstitchref3_GraphFault.l0 k acc has has.length i has roots) (if (has.drop i).any big = true then 2 else if (okL has.length acc && (has.drop i).all (okL has.length)) = true then 0 else 3)
  | 0, i, acc, hi, ha => by
    rw [List.drop_eq_nil_of_le (by omega), List.any_nil, if_neg (by decide), List.all_nil, Bool.and_true]
    have h := gf_l1 has roots acc (by omega) acc.length 0 (by omega)
    rw [List.drop_zero] at h
    refine Ev.step (f := fun k => backstitchref3_GraphFault.l1 k acc acc.length ((0 : Nat) : Int) has roots) (fun k => ?_) h
    show backstitchref3_GraphFault.l0 (k + 1) acc has has.length i has roots = _
    rw [backstitchref3_GraphFault.l0, if_neg (by omega)]
    rfl
  | d + 1, i, acc, hi, ha => by
    have hlt : i < has.length := by omega
    rw [Pur.drop_cons has i hlt [], List.any_cons, List.all_cons]
    have ex : rd_L1 has (i : Int) = has.getD i [] := rfl
    generalize has.getD i [] = row at *
    by_cases h : 10 < row.length
    · rw [show big row = true from decide_eq_true h, Bool.true_or, if_pos rfl]
      refine Ev.step (f := fun _ => some 2) (fun k => ?_) (Ev.now _)
      show backstitchref3_GraphFault.l0 (k + 1) acc has has.length i has roots = _
      rw [backstitchref3_GraphFault.l0, if_pos (by omega), if_pos (by omega), if_pos (by omega), ex, if_pos (by omega)]
    · rw [show big row = false from decide_eq_false h, Bool.false_or, ← Bool.and_assoc, show (okL has.length acc && okL has.length row) = okL has.length (acc ++ row) from List.all_append.symm]
      refine Ev.step (f := fun k => backstitchref3_GraphFault.l0 k (acc ++ row) has has.length ((i + 1 : Nat) : Int) has roots) (fun k => ?_) (gf_l0 has roots hn d (i + 1) (acc ++ row) (by omega) (by simp; omega))
      show backstitchref3_GraphFault.l0 (k + 1) acc has has.length i has roots = _
      rw [backstitchref3_GraphFault.l0, if_pos (by omega), if_pos (by omega), if_pos (by omega), ex, if_neg (by omega), if_pos (by omega), Pur.wrap_succ (by omega)]
theorem gf_ev (has : List (List Int)) (roots : List Int) : Ev (fun k => backstitchref3_GraphFault.f k has roots) (fault has roots) := by
  unfold fault
  by_cases h1 : has.length > 100
  · rw [if_pos (.inl h1)]
    refine ⟨1, fun k hk => ?_⟩
    obtain ⟨m, rfl⟩ : ∃ m, k = m + 1 := ⟨k - 1, by omega⟩
    show backstitchref3_GraphFault.f (m + 1) has roots = some 2
    rw [backstitchref3_GraphFault.f, if_pos (by omega), backstitchref3_GraphFault.j0, if_pos rfl]
  · by_cases h2 : roots.length > 100
    · rw [if_pos (.inr h2)]
      refine ⟨1, fun k hk => ?_⟩
      obtain ⟨m, rfl⟩ : ∃ m, k = m + 1 := ⟨k - 1, by omega⟩
      show backstitchref3_GraphFault.f (m + 1) has roots = some 2
      rw [backstitchref3_GraphFault.f, if_neg (by omega), backstitchref3_GraphFault.j0, if_pos (decide_eq_true (by omega))]
    · rw [if_neg (by omega)]
      have h := gf_l0 has roots (by omega) has.length 0 roots (by omega) (by omega)
      rw [List.drop_zero] at h
      refine Ev.step (f := fun k => backstitchref3_GraphFault.l0 k roots has has.length ((0 : Nat) : Int) has roots) (fun k => ?_) h
      show backstitchref3_GraphFault.f (k + 1) has roots = _
      rw [backstitchref3_GraphFault.f, if_neg (by omega), backstitchref3_GraphFault.j0, if_neg (by simp; omega), backstitchref3_Copy_int.f, if_pos (by omega), Option.bind_some]
      rfl
theorem fault_ok {has : List (List Int)} {roots : List Int} (h : fault has roots = 0) : has.length ≤ 100 ∧ GrOk has ∧ ∀ x ∈ roots, InR has.length x := by
  unfold fault at h
  split at h
  · cases h
  · rename_i h1
    split at h
    · cases h
    · split at h
      · rename_i h3
        rw [Bool.and_eq_true, okL, List.all_eq_true, List.all_eq_true] at h3
        refine ⟨by omega, fun i x hx => ?_, fun x hx => by simpa [InR] using h3.1 x hx⟩
        rw [List.getD_eq_getElem?_getD] at hx
        rcases Nat.lt_or_ge i has.length with hi | hi
        · rw [List.getElem?_eq_getElem hi, Option.getD_some] at hx
          have := h3.2 _ (List.getElem_mem hi)
          rw [okL, List.all_eq_true] at this
          simpa [InR] using this x hx
        · rw [List.getElem?_eq_none hi] at hx
          cases hx
      · cases h
/- rows -/
def ris : List Bool → Nat → List Int
  | [], _ => []
  | b :: l, i => if b = true then (i : Int) :: ris l (i + 1) else ris l (i + 1)
theorem wris (s : List Bool) (hs : s.length ≤ 100) : ∀ (d i : Nat) (acc : List Int), i + d = s.length → acc.length ≤ i → Ev (fun k => weak_Rising.l0 k acc s s.length i) (acc ++ ris (s.drop i) i)
  | 0, i, acc, hi, ha => by
    rw [List.drop_eq_nil_of_le (by omega), ris, List.append_nil]
    refine Ev.step (f := fun _ => some acc) (fun k => ?_) (Ev.now _)
    show weak_Rising.l0 (k + 1) acc s s.length i = _
    rw [weak_Rising.l0, if_neg (by omega)]
  | d + 1, i, acc, hi, ha => by
    have hlt : i < s.length := by omega
    rw [Pur.drop_cons s i hlt false, ris]
    have ex : rdOf false s (i : Int) = s.getD i false := rfl
    generalize s.getD i false = b at *
    cases b with
    | true =>
      rw [if_pos rfl, show acc ++ (i : Int) :: ris (s.drop (i + 1)) (i + 1) = (acc ++ [(i : Int)]) ++ ris (s.drop (i + 1)) (i + 1) by simp]
      refine Ev.step (f := fun k => weak_Rising.l0 k (acc ++ [(i : Int)]) s s.length ((i + 1 : Nat) : Int)) (fun k => ?_) (wris s hs d (i + 1) _ (by omega) (by simp; omega))
      show weak_Rising.l0 (k + 1) acc s s.length i = _
      rw [weak_Rising.l0, if_pos (by omega), if_pos (by omega), if_pos (by omega), ex, if_pos rfl, if_pos (by omega), Pur.wrap_succ (by omega)]
    | false =>
      rw [if_neg (by decide)]
      refine Ev.step (f := fun k => weak_Rising.l0 k acc s s.length ((i + 1 : Nat) : Int)) (fun k => ?_) (wris s hs d (i + 1) _ (by omega) (by omega))
      show weak_Rising.l0 (k + 1) acc s s.length i = _
      rw [weak_Rising.l0, if_pos (by omega), if_pos (by omega), if_pos (by omega), ex, if_neg (by decide), Pur.wrap_succ (by omega)]
theorem wris_ev (s : List Bool) (hs : s.length ≤ 100) : Ev (fun k => weak_Rising.f k s) (ris s 0) := by
  have h := wris s hs s.length 0 [] (by omega) (by simp)
  rw [List.drop_zero, List.nil_append] at h
  exact h
theorem rris (s : List Bool) (hs : s.length ≤ 100) : ∀ (d i : Nat) (acc : List Int), i + d = s.length → acc.length ≤ i → Ev (fun k => backstitchref3_Rising.l0 k acc s s.length i) (acc ++ ris (s.drop i) i)
  | 0, i, acc, hi, ha => by
    rw [List.drop_eq_nil_of_le (by omega), ris, List.append_nil]
    refine Ev.step (f := fun _ => some acc) (fun k => ?_) (Ev.now _)
    show backstitchref3_Rising.l0 (k + 1) acc s s.length i = _
    rw [backstitchref3_Rising.l0, if_neg (by omega)]
  | d + 1, i, acc, hi, ha => by
    have hlt : i < s.length := by omega
    rw [Pur.drop_cons s i hlt false, ris]
    have ex : rdOf false s (i : Int) = s.getD i false := rfl
    generalize s.getD i false = b at *
    cases b with
    | true =>
      rw [if_pos rfl, show acc ++ (i : Int) :: ris (s.drop (i + 1)) (i + 1) = (acc ++ [(i : Int)]) ++ ris (s.drop (i + 1)) (i + 1) by simp]
      refine Ev.step (f := fun k => backstitchref3_Rising.l0 k (acc ++ [(i : Int)]) s s.length ((i + 1 : Nat) : Int)) (fun k => ?_) (rris s hs d (i + 1) _ (by omega) (by simp; omega))
      show backstitchref3_Rising.l0 (k + 1) acc s s.length i = _
      rw [backstitchref3_Rising.l0, if_pos (by omega), if_pos (by omega), if_pos (by omega), ex, if_pos rfl, if_pos (by omega), Pur.wrap_succ (by omega)]
    | false =>
      rw [if_neg (by decide)]
      refine Ev.step (f := fun k => backstitchref3_Rising.l0 k acc s s.length ((i + 1 : Nat) : Int)) (fun k => ?_) (rris s hs d (i + 1) _ (by omega) (by omega))
      show backstitchref3_Rising.l0 (k + 1) acc s s.length i = _
      rw [backstitchref3_Rising.l0, if_pos (by omega), if_pos (by omega), if_pos (by omega), ex, if_neg (by decide), Pur.wrap_succ (by omega)]
theorem rris_ev (s : List Bool) (hs : s.length ≤ 100) : Ev (fun k => backstitchref3_Rising.f k s) (ris s 0) := by
  have h := rris s hs s.length 0 [] (by omega) (by simp)
  rw [List.drop_zero, List.nil_append] at h
  exact h
theorem ris_len : ∀ (s : List Bool) (i : Nat), (ris s i).length ≤ s.length
  | [], i => by simp [ris]
  | b :: s, i => by
    have := ris_len s (i + 1)
    rw [ris]
    split <;> simp <;> omega
theorem eq_l0 (l : List Int) (hl : l.length < 4611686018427387904) : ∀ (d i : Nat), i + d = l.length → Ev (fun k => backstitchref3_Eq_int.l0 k l l l.length i) true
  | 0, i, hi => by
    refine Ev.step (f := fun _ => some true) (fun k => ?_) (Ev.now _)
    show backstitchref3_Eq_int.l0 (k + 1) l l l.length i = _
    rw [backstitchref3_Eq_int.l0, if_neg (by omega)]
  | d + 1, i, hi => by
    refine Ev.step (f := fun k => backstitchref3_Eq_int.l0 k l l l.length ((i + 1 : Nat) : Int)) (fun k => ?_) (eq_l0 l hl d (i + 1) (by omega))
    show backstitchref3_Eq_int.l0 (k + 1) l l l.length i = _
    rw [backstitchref3_Eq_int.l0, if_pos (by omega), if_pos (by omega), if_pos (by omega), if_pos (by omega), if_pos rfl, Pur.wrap_succ (by omega)]
theorem eq_ev (l : List Int) (hl : l.length < 4611686018427387904) : Ev (fun k => backstitchref3_Eq_int.f k l l) true := by
  refine Ev.congr (f := fun k => backstitchref3_Eq_int.l0 k l l l.length ((0 : Nat) : Int)) (fun k => ?_) (eq_l0 l hl l.length 0 (by omega))
  show backstitchref3_Eq_int.f k l l = _
  rw [backstitchref3_Eq_int.f, if_pos rfl]
  rfl
end Go.Proofs.Ytlojkphocbbjdab.PureEndsTell
