/- EndsTell: for every graph and all things the law's printed function answers true. -/
import Derived.Test.YtlojkphocbbjdabGEndsTell
namespace Go.Proofs.Ytlojkphocbbjdab.Pure
open Go.RowKit Go.Proofs.Ytlojkphocbbjdab.PEndsTell Go.Proofs.YtlojkphocbbjdabW Go.Proofs.YtlojkphocbbjdabW.PrintWords Go.Proofs.YtlojkphocbbjdabW.PrintLast Go.Proofs.Ytlojkphocbbjdab.PureEndsTell
set_option linter.unusedVariables false
set_option linter.unusedSimpArgs false

/- sorted rows -/
theorem sorted_eq : ∀ (a b : List Int), a.Pairwise (· < ·) → b.Pairwise (· < ·) → (∀ x, x ∈ a ↔ x ∈ b) → a = b
  | [], [], _, _, _ => rfl
  | [], y :: b, _, _, h => by have := (h y).2 List.mem_cons_self; cases this
  | x :: a, [], _, _, h => by have := (h x).1 List.mem_cons_self; cases this
  | x :: a, y :: b, ha, hb, h => by
    obtain ⟨ha1, ha2⟩ := List.pairwise_cons.1 ha
    obtain ⟨hb1, hb2⟩ := List.pairwise_cons.1 hb
    have e : x = y := by
      rcases List.mem_cons.1 ((h x).1 List.mem_cons_self) with h1 | h1
      · exact h1
      · rcases List.mem_cons.1 ((h y).2 List.mem_cons_self) with h2 | h2
        · exact h2.symm
        · have := ha1 y h2; have := hb1 x h1; omega
    subst e
    rw [sorted_eq a b ha2 hb2 (fun z => ?_)]
    constructor
    · intro hz
      rcases List.mem_cons.1 ((h z).1 (List.mem_cons_of_mem _ hz)) with h1 | h1
      · have := ha1 z hz; omega
      · exact h1
    · intro hz
      rcases List.mem_cons.1 ((h z).2 (List.mem_cons_of_mem _ hz)) with h1 | h1
      · have := hb1 z hz; omega
      · exact h1
theorem cu_ok (d : Array Int) (hs : ∀ i j, i ≤ j → j < d.size → d[i]! ≤ d[j]!) : ∀ m, m ≤ d.size → (Lib.compactUpTo d m).Pairwise (· < ·) ∧ ∀ x, x ∈ Lib.compactUpTo d m ↔ ∃ j, j < m ∧ d[j]! = x
  | 0, _ => ⟨by simp [Lib.compactUpTo], fun x => by simp [Lib.compactUpTo]⟩
  | m + 1, hm => by
    obtain ⟨h1, h2⟩ := cu_ok d hs m (by omega)
    rw [Lib.compactUpTo_succ]
    by_cases hk : Lib.keeps d m = true
    · rw [if_pos hk]
      have hk' : m = 0 ∨ d[m]! ≠ d[m - 1]! := by simpa [Lib.keeps] using hk
      refine ⟨List.pairwise_append.2 ⟨h1, by simp, fun x hx y hy => ?_⟩, fun x => ?_⟩
      · obtain rfl := List.mem_singleton.1 hy
        obtain ⟨j, hj, rfl⟩ := (h2 x).1 hx
        rcases hk' with h0 | h0
        · omega
        · have a1 := hs j (m - 1) (by omega) (by omega)
          have a2 := hs (m - 1) m (by omega) (by omega)
          omega
      · rw [List.mem_append, h2, List.mem_singleton]
        constructor
        · rintro (⟨j, hj, rfl⟩ | rfl)
          · exact ⟨j, by omega, rfl⟩
          · exact ⟨m, by omega, rfl⟩
        · rintro ⟨j, hj, rfl⟩
          rcases Nat.lt_or_ge j m with h3 | h3
          · exact .inl ⟨j, h3, rfl⟩
          · exact .inr (by rw [show j = m by omega])
    · rw [if_neg hk, List.append_nil]
      have hk' : ¬ (m = 0 ∨ d[m]! ≠ d[m - 1]!) := by simpa [Lib.keeps] using hk
      refine ⟨h1, fun x => ?_⟩
      rw [h2]
      constructor
      · rintro ⟨j, hj, rfl⟩
        exact ⟨j, by omega, rfl⟩
      · rintro ⟨j, hj, rfl⟩
        rcases Nat.lt_or_ge j m with h3 | h3
        · exact ⟨j, h3, rfl⟩
        · refine ⟨m - 1, by omega, ?_⟩
          have e : j = m := by omega
          subst e
          by_cases h4 : d[j]! = d[j - 1]!
          · exact h4.symm
          · exact absurd (.inr h4) hk'
theorem compact_ok (xs : List Int) (hs : xs.Pairwise (· ≤ ·)) : (Lib.compact xs).Pairwise (· < ·) ∧ ∀ x, x ∈ Lib.compact xs ↔ x ∈ xs := by
  obtain ⟨h1, h2⟩ := cu_ok xs.toArray (fun i j hij hj => by
    have hj' : j < xs.length := by simpa using hj
    have hi' : i < xs.length := by omega
    rw [getElem!_pos xs.toArray i (by simpa using hi'), getElem!_pos xs.toArray j (by simpa using hj')]
    simp only [List.getElem_toArray]
    rcases Nat.lt_or_ge i j with h | h
    · exact List.pairwise_iff_getElem.1 hs i j hi' hj' h
    · have e : i = j := by omega
      subst e
      exact Int.le_refl _) xs.length (by simp)
  refine ⟨h1, fun x => ?_⟩
  show x ∈ Lib.compactUpTo xs.toArray xs.length ↔ _
  rw [h2]
  constructor
  · rintro ⟨j, hj, rfl⟩
    rw [getElem!_pos xs.toArray j (by simpa using hj)]
    simp
  · intro hx
    obtain ⟨j, hj, rfl⟩ := List.getElem_of_mem hx
    exact ⟨j, hj, by rw [getElem!_pos xs.toArray j (by simpa using hj)]; simp⟩
theorem ris_mem : ∀ (s : List Bool) (i : Nat) (x : Int), x ∈ ris s i ↔ ∃ j, Tr s j ∧ x = ((i + j : Nat) : Int)
  | [], i, x => by simp [ris, Tr]
  | b :: s, i, x => by
    have ih := ris_mem s (i + 1) x
    have h0 : (∃ j, Tr (b :: s) j ∧ x = ((i + j : Nat) : Int)) ↔ (b = true ∧ x = (i : Int)) ∨ ∃ j, Tr s j ∧ x = ((i + 1 + j : Nat) : Int) := by
      constructor
      · rintro ⟨j, h1, h2⟩
        rcases j with _ | j
        · exact .inl ⟨h1, h2⟩
        · exact .inr ⟨j, h1, by rw [h2]; congr 1; omega⟩
      · rintro (⟨h1, h2⟩ | ⟨j, h1, h2⟩)
        · exact ⟨0, h1, h2⟩
        · exact ⟨j + 1, h1, by rw [h2]; congr 1; omega⟩
    rw [h0, ris]
    cases b
    · rw [if_neg (by decide), ih]; simp
    · rw [if_pos rfl, List.mem_cons, ih]; simp
theorem ris_sorted : ∀ (s : List Bool) (i : Nat), (ris s i).Pairwise (· < ·)
  | [], i => by simp [ris]
  | b :: s, i => by
    rw [ris]
    split
    · refine List.pairwise_cons.2 ⟨fun x hx => ?_, ris_sorted s (i + 1)⟩
      obtain ⟨j, _, rfl⟩ := (ris_mem s (i + 1) x).1 hx
      omega
    · exact ris_sorted s (i + 1)
/-- Which are due: marks. -/
def marks (s : List Bool) : List Int → List Bool → List Bool
  | [], m => m
  | x :: l, m => marks s l (m.set x.toNat (!(rdOf false s x)))
theorem marks_len (s : List Bool) : ∀ (l : List Int) (m : List Bool), (marks s l m).length = m.length
  | [], m => rfl
  | x :: l, m => by rw [marks, marks_len s l]; simp
theorem tr_setb {s : List Bool} {i j : Nat} {b : Bool} (hi : i < s.length) : Tr (s.set i b) j ↔ if j = i then b = true else Tr s j := by
  unfold Tr
  rw [List.getD_eq_getElem?_getD, List.getD_eq_getElem?_getD, List.getElem?_set]
  by_cases h : i = j
  · subst h
    simp [hi]
  · rw [if_neg h, if_neg (fun e => h e.symm)]
theorem marks_ok (s : List Bool) : ∀ (l : List Int) (m : List Bool), (∀ x ∈ l, InR m.length x) → ∀ j, Tr (marks s l m) j ↔ if (j : Int) ∈ l then ¬ Tr s j else Tr m j
  | [], m, _, j => by simp [marks]
  | x :: l, m, hr, j => by
    have hx := hr x List.mem_cons_self
    have hxn : x.toNat < m.length := by have := hx.1; have := hx.2; omega
    rw [marks, marks_ok s l _ (fun y hy => by rw [List.length_set]; exact hr y (List.mem_cons_of_mem _ hy)), tr_setb hxn]
    by_cases h1 : (j : Int) ∈ l
    · rw [if_pos h1, if_pos (List.mem_cons_of_mem _ h1)]
    · rw [if_neg h1]
      by_cases h2 : j = x.toNat
      · have h3 : (j : Int) = x := by have := hx.1; omega
        rw [if_pos h2, if_pos (by rw [h3]; exact List.mem_cons_self)]
        have : rdOf false s x = s.getD j false := by rw [h2]; rfl
        rw [this]
        unfold Tr
        cases s.getD j false <;> simp
      · have h3 : (j : Int) ≠ x := by have := hx.1; omega
        rw [if_neg h2, if_neg (by rw [List.mem_cons]; rintro (h | h); exact h3 h; exact h1 h)]
theorem dueL_eq (s : List Bool) (l : List Int) (n : Nat) (hr : ∀ x ∈ l, InR n x) : dueL s l = ris (marks s l (List.replicate n false)) 0 := by
  unfold dueL
  have hp : ((l.filter (fun x => !(rdOf false s x))).mergeSort fun x y => decide (x ≤ y)).Pairwise (· ≤ ·) := by
    have := List.pairwise_mergeSort (le := fun x y : Int => decide (x ≤ y)) (fun a b c h1 h2 => by simp only [decide_eq_true_eq] at *; omega) (fun a b => by simp only [Bool.or_eq_true, decide_eq_true_eq]; omega) (l.filter (fun x => !(rdOf false s x)))
    exact this.imp (fun h => by simpa using h)
  obtain ⟨h1, h2⟩ := compact_ok _ hp
  refine sorted_eq _ _ h1 (ris_sorted _ _) (fun x => ?_)
  rw [h2, (List.mergeSort_perm _ _).mem_iff, List.mem_filter, ris_mem]
  constructor
  · rintro ⟨hx, hb⟩
    have hxr := hr x hx
    refine ⟨x.toNat, (marks_ok s l _ (fun y hy => by rw [List.length_replicate]; exact hr y hy) _).2 ?_, by have := hxr.1; omega⟩
    rw [if_pos (by rw [show ((x.toNat : Nat) : Int) = x by have := hxr.1; omega]; exact hx)]
    intro ht
    have : rdOf false s x = true := ht
    rw [this] at hb
    cases hb
  · rintro ⟨j, hj, rfl⟩
    have := (marks_ok s l _ (fun y hy => by rw [List.length_replicate]; exact hr y hy) _).1 hj
    split at this
    · rename_i h3
      rw [Nat.zero_add]
      refine ⟨h3, ?_⟩
      have h4 : ¬ rdOf false s (j : Int) = true := this
      simpa using h4
    · exact absurd this (tr_none _ _)
/- due -/
theorem dueOk_eq (n : Nat) : ∀ l : List Int, dueOk n l = okL n l
  | [] => rfl
  | x :: l => by rw [dueOk, dueOk_eq n l, okL, okL, List.all_cons]
def efault (has : List (List Int)) (roots l : List Int) : Int := if fault has roots = 0 then (if 100 < l.length then 2 else if okL has.length l = true then 0 else 3) else fault has roots
theorem ef_l0 (has : List (List Int)) (roots l : List Int) (hl : l.length < 4611686018427387904) :
    ∀ (d i : Nat), i + d = l.length → Ev (fun k => backstitchref3_EndsFault.l0 k l l.length i has roots) (if okL has.length (l.drop i) = true then 0 else 3)
  | 0, i, hi => by
    rw [List.drop_eq_nil_of_le (by omega), okL, List.all_nil, if_pos rfl]
    refine Ev.step (f := fun _ => some 0) (fun k => ?_) (Ev.now _)
    show backstitchref3_EndsFault.l0 (k + 1) l l.length i has roots = _
    rw [backstitchref3_EndsFault.l0, if_neg (by omega)]
  | d + 1, i, hi => by
    have hlt : i < l.length := by omega
    rw [Pur.drop_cons l i hlt 0, okL, List.all_cons]
    have ex : rd l (i : Int) = l.getD i 0 := rfl
    generalize l.getD i 0 = x at *
    by_cases h : 0 ≤ x ∧ x < (has.length : Int)
    · rw [decide_eq_true h, Bool.true_and]
      refine Ev.step (f := fun k => backstitchref3_EndsFault.l0 k l l.length ((i + 1 : Nat) : Int) has roots) (fun k => ?_) (ef_l0 has roots l hl d (i + 1) (by omega))
      show backstitchref3_EndsFault.l0 (k + 1) l l.length i has roots = _
      rw [backstitchref3_EndsFault.l0, if_pos (by omega), if_pos (by omega), if_pos (by omega), ex, if_neg (by omega), if_neg (by omega), Pur.wrap_succ (by omega)]
    · rw [decide_eq_false h, Bool.false_and, if_neg (by simp)]
      refine Ev.step (f := fun _ => some 3) (fun k => ?_) (Ev.now _)
      show backstitchref3_EndsFault.l0 (k + 1) l l.length i has roots = _
      rw [backstitchref3_EndsFault.l0, if_pos (by omega), if_pos (by omega), if_pos (by omega), ex]
      by_cases h2 : x < 0
      · rw [if_pos h2]
      · rw [if_neg h2, if_pos (by omega)]
theorem ef_ev (has : List (List Int)) (roots l : List Int) : Ev (fun k => backstitchref3_EndsFault.f k has roots l) (efault has roots l) := by
  unfold efault
  refine Ev.bind (gf_ev has roots) ?_
  by_cases h : fault has roots = 0
  · rw [h, if_pos rfl]
    by_cases h2 : 100 < l.length
    · rw [if_pos h2]
      exact Pur.ev_some (fun k => by rw [if_pos rfl, if_pos (by omega)])
    · rw [if_neg h2]
      have := ef_l0 has roots l (by omega) l.length 0 (by omega)
      rw [List.drop_zero] at this
      exact Ev.congr (fun k => by rw [if_pos rfl, if_neg (by omega)]; rfl) this
  · rw [if_neg h]
    exact Pur.ev_some (fun k => by rw [if_neg h])
theorem due_bad (has : List (List Int)) (roots l : List Int) (hrow : ∀ l ∈ has, l.length < 4611686018427387904) (h : efault has roots l ≠ 0) : Ev (fun k => ends_due.f k has roots l) (([] : List Int), ([] : List Bool), efault has roots l) := by
  unfold efault at h ⊢
  refine Ev.bind (check_ev has roots hrow) ?_
  by_cases h0 : fault has roots = 0
  · rw [h0, if_pos rfl] at h ⊢
    by_cases h2 : 100 < l.length
    · rw [if_pos h2]
      exact Pur.ev_some (fun k => by rw [if_pos rfl, if_pos h2])
    · rw [if_neg h2] at h ⊢
      by_cases h3 : okL has.length l = true
      · rw [if_pos h3] at h; exact absurd rfl h
      · rw [if_neg h3]
        exact Pur.ev_some (fun k => by rw [if_pos rfl, if_neg h2, dueOk_eq, if_neg h3])
  · rw [if_neg h0]
    exact Pur.ev_some (fun k => by rw [if_neg h0])
/-- A graph and things that may be. -/
structure Good (has : List (List Int)) (roots l : List Int) (s : List Bool) : Prop where
  n : has.length ≤ 100
  gr : GrOk has
  ro : ∀ x ∈ roots, InR has.length x
  l1 : l.length ≤ 100
  li : ∀ x ∈ l, InR has.length x
  ls : Least has (ClosedG has) roots s
theorem good (has : List (List Int)) (roots l : List Int) (h : efault has roots l = 0) : fault has roots = 0 ∧ l.length ≤ 100 ∧ okL has.length l = true ∧ ∃ s, Good has roots l s := by
  unfold efault at h
  by_cases h0 : fault has roots = 0
  · rw [if_pos h0] at h
    by_cases h2 : 100 < l.length
    · rw [if_pos h2] at h; cases h
    · rw [if_neg h2] at h
      by_cases h3 : okL has.length l = true
      · obtain ⟨a, b, c⟩ := fault_ok h0
        obtain ⟨s, _, hs⟩ := wfrom_ok has roots roots b (by omega) (by omega) c
        refine ⟨h0, by omega, h3, s, a, b, c, by omega, fun x hx => ?_, hs⟩
        rw [okL, List.all_eq_true] at h3
        simpa [InR] using h3 x hx
      · rw [if_neg h3] at h; cases h
  · rw [if_neg h0] at h; exact absurd h h0
theorem Good.wf {has : List (List Int)} {roots l : List Int} {s : List Bool} (h : Good has roots l s) (q : List Int) (hq : ∀ x ∈ q, InR has.length x) : ∃ t, Ev (fun k => weak_From.f k has roots q) t ∧ Ev (fun k => backstitchref3_From.f k has roots q []) t ∧ Least has (ClosedG has) q t := by
  obtain ⟨t, h1, h2⟩ := wfrom_ok has roots q h.gr (by have := h.n; omega) (by have := h.n; omega) hq
  obtain ⟨t', h3, h4⟩ := rfrom_ok has roots q [] h.gr (fun p hp => by cases hp) (by have := h.n; omega) hq
  have e := h2.same (least_nil h4)
  subst e
  exact ⟨t, h1, h3, h2⟩
def outs (has : List (List Int)) (l : List Int) (s : List Bool) : List Int := ris (marks s l (List.replicate has.length false)) 0
theorem outs_in {has : List (List Int)} {l : List Int} {s : List Bool} : ∀ x ∈ outs has l s, InR has.length x := fun x hx => by
  obtain ⟨j, hj, rfl⟩ := (ris_mem _ _ _).1 hx
  have := tr_lt hj
  rw [marks_len, List.length_replicate] at this
  exact ⟨by omega, by omega⟩
theorem outs_len {has : List (List Int)} {l : List Int} {s : List Bool} : (outs has l s).length ≤ has.length := by
  have := ris_len (marks s l (List.replicate has.length false)) 0
  rw [marks_len, List.length_replicate] at this
  exact this
theorem due_ev {has : List (List Int)} {roots l : List Int} {s : List Bool} (hrow : ∀ l ∈ has, l.length < 4611686018427387904) (h0 : fault has roots = 0) (h3 : okL has.length l = true) (h : Good has roots l s) : Ev (fun k => ends_due.f k has roots l) (outs has l s, s, 0) := by
  refine Ev.bind (a := fault has roots) (check_ev has roots hrow) ?_
  obtain ⟨t, h1, _, h2⟩ := h.wf roots h.ro
  have e := h2.same h.ls
  subst e
  rw [h0]
  refine Ev.congr (f := fun k => (weak_From.f k has roots roots).bind fun s => if s.length = has.length then some (dueL s l, s, 0) else none) (fun k => by rw [if_pos rfl, if_neg (by have := h.l1; omega), dueOk_eq, if_pos h3]) ?_
  refine Ev.bind h1 (Pur.ev_some fun k => ?_)
  rw [if_pos h2.len, dueL_eq t l has.length h.li]
  rfl
/- stay -/
def andL (nd : List Bool) : Nat → Nat → List Bool → List Bool
  | 0, _, c => c
  | d + 1, i, c => andL nd d (i + 1) (if rdOf false c (i : Int) = true then c.set i (!(rdOf false nd (i : Int))) else c.set i false)
theorem andL_len (nd : List Bool) : ∀ (d i : Nat) (c : List Bool), (andL nd d i c).length = c.length
  | 0, _, _ => rfl
  | d + 1, i, c => by rw [andL, andL_len nd d]; split <;> simp
theorem wstay (out : List Int) (nd : List Bool) (N : Nat) (hN : N ≤ 100) (hnd : nd.length = N) : ∀ (d i : Nat) (c : List Bool), i + d = N → c.length = N → Ev (fun k => ends_Due.l0 k out nd c (N : Int) i) (out, ris (andL nd d i c) 0, 0)
  | 0, i, c, hi, hc => by
    rw [andL]
    refine Ev.step (f := fun k => (weak_Rising.f k c).bind fun t => some (out, t, 0)) (fun k => ?_) (Ev.bind (wris_ev c (by omega)) (Ev.now _))
    show ends_Due.l0 (k + 1) out nd c N i = _
    rw [ends_Due.l0, if_neg (by omega)]
  | d + 1, i, c, hi, hc => by
    rw [andL]
    refine Ev.step (f := fun k => ends_Due.l0 k out nd (if rdOf false c (i : Int) = true then c.set i (!(rdOf false nd (i : Int))) else c.set i false) (N : Int) ((i + 1 : Nat) : Int)) (fun k => ?_) (wstay out nd N hN hnd d (i + 1) _ (by omega) (by split <;> simp [hc]))
    show ends_Due.l0 (k + 1) out nd c N i = _
    rw [ends_Due.l0, if_pos (by omega), if_pos (by omega), if_pos (by omega), Pur.wrap_succ (by omega)]
    split
    · rw [if_pos (by omega)]; rfl
    · rfl
theorem rstay (mk nd : List Bool) (N : Nat) (hN : N ≤ 100) (hnd : nd.length = N) (hmk : mk.length ≤ 100) : ∀ (d i : Nat) (c : List Bool), i + d = N → c.length = N → Ev (fun k => backstitchref3_Due.l1 k nd mk c (N : Int) i) (ris mk 0, ris (andL nd d i c) 0)
  | 0, i, c, hi, hc => by
    rw [andL]
    refine Ev.step (f := fun k => (backstitchref3_Rising.f k mk).bind fun t => (backstitchref3_Rising.f k c).bind fun t2 => some (t, t2)) (fun k => ?_) (Ev.bind (rris_ev mk hmk) (Ev.bind (rris_ev c (by omega)) (Ev.now _)))
    show backstitchref3_Due.l1 (k + 1) nd mk c N i = _
    rw [backstitchref3_Due.l1, if_neg (by omega)]
  | d + 1, i, c, hi, hc => by
    rw [andL]
    refine Ev.step (f := fun k => backstitchref3_Due.l1 k nd mk (if rdOf false c (i : Int) = true then c.set i (!(rdOf false nd (i : Int))) else c.set i false) (N : Int) ((i + 1 : Nat) : Int)) (fun k => ?_) (rstay mk nd N hN hnd hmk d (i + 1) _ (by omega) (by split <;> simp [hc]))
    show backstitchref3_Due.l1 (k + 1) nd mk c N i = _
    rw [backstitchref3_Due.l1, if_pos (by omega), if_pos (by omega), if_pos (by omega), Pur.wrap_succ (by omega)]
    split
    · rw [if_pos (by omega)]; rfl
    · rfl
theorem rmarks (has : List (List Int)) (roots l : List Int) (s st : List Bool) (hs : s.length = has.length) (hn : has.length ≤ 100) (hl : l.length ≤ 100) (hin : ∀ x ∈ l, InR has.length x) (r : List Int × List Int)
    (hnext : Ev (fun k => (backstitchref3_Rising.f k (marks s l (List.replicate has.length false))).bind fun t => (backstitchref3_From.f k has roots t []).bind fun t2 => backstitchref3_Due.l1 k s (marks s l (List.replicate has.length false)) t2 (t2.length : Int) 0) r) :
    ∀ (d i : Nat) (m : List Bool), i + d = l.length → m.length = has.length → marks s (l.drop i) m = marks s l (List.replicate has.length false) → Ev (fun k => backstitchref3_Due.l0 k s m l (l.length : Int) i has roots) r
  | 0, i, m, hi, hm, he => by
    rw [List.drop_eq_nil_of_le (by omega), marks] at he
    subst he
    refine Ev.step (fun k => ?_) hnext
    show backstitchref3_Due.l0 (k + 1) s _ l l.length i has roots = _
    rw [backstitchref3_Due.l0, if_neg (by omega)]
  | d + 1, i, m, hi, hm, he => by
    have hlt : i < l.length := by omega
    have hmem : l.getD i 0 ∈ l := by
      rw [List.getD_eq_getElem?_getD, List.getElem?_eq_getElem hlt, Option.getD_some]
      exact List.getElem_mem _
    have hx := hin _ hmem
    rw [Pur.drop_cons l i hlt 0, marks] at he
    have ex : rd l (i : Int) = l.getD i 0 := rfl
    generalize l.getD i 0 = x at *
    have hx1 := hx.1
    have hx2 := hx.2
    refine Ev.step (f := fun k => backstitchref3_Due.l0 k s (m.set x.toNat (!(rdOf false s x))) l (l.length : Int) ((i + 1 : Nat) : Int) has roots) (fun k => ?_) (rmarks has roots l s st hs hn hl hin r hnext d (i + 1) _ (by omega) (by simp [hm]) he)
    show backstitchref3_Due.l0 (k + 1) s m l l.length i has roots = _
    rw [backstitchref3_Due.l0, if_pos (by omega), if_pos (by omega), if_pos (by omega), ex, if_pos hx1, if_pos (by rw [hs]; exact hx2), if_pos (by rw [hm]; exact hx2), Pur.wrap_succ (by omega)]
theorem dues_ev {has : List (List Int)} {roots l : List Int} {s : List Bool} (hrow : ∀ l ∈ has, l.length < 4611686018427387904) (h0 : fault has roots = 0) (h3 : okL has.length l = true) (h : Good has roots l s) :
    ∃ st : List Int, st.length ≤ 100 ∧ Ev (fun k => ends_Due.f k has roots l) (outs has l s, st, 0) ∧ Ev (fun k => backstitchref3_Due.f k has roots l) (outs has l s, st) := by
  obtain ⟨t, h1, h2, h4⟩ := h.wf (outs has l s) outs_in
  obtain ⟨s', h5, h6, h7⟩ := h.wf roots h.ro
  have e := h7.same h.ls
  subst e
  have hn := h.n
  refine ⟨ris (andL s' has.length 0 t) 0, ?_, ?_, ?_⟩
  · have := ris_len (andL s' has.length 0 t) 0
    rw [andL_len, h4.len] at this
    omega
  · refine Ev.bind (due_ev hrow h0 h3 h) ?_
    refine Ev.congr (f := fun k => (weak_From.f k has roots (outs has l s')).bind fun t126 => ends_Due.l0 k (outs has l s') s' t126 (t126.length : Int) 0) (fun k => if_pos rfl) ?_
    refine Ev.bind h1 ?_
    rw [h4.len]
    exact wstay (outs has l s') s' has.length hn h7.len has.length 0 t (by omega) h4.len
  · refine Ev.bind h6 ?_
    refine Ev.congr (f := fun k => backstitchref3_Due.l0 k s' (List.replicate has.length false) l (l.length : Int) ((0 : Nat) : Int) has roots) (fun k => by rw [if_pos (by omega), if_pos (by omega)]; rfl) ?_
    refine rmarks has roots l s' t h7.len hn h.l1 h.li _ ?_ l.length 0 _ (by omega) (by simp) (by rw [List.drop_zero])
    refine Ev.bind (rris_ev _ (by rw [marks_len, List.length_replicate]; exact hn)) (Ev.bind h2 ?_)
    rw [h4.len]
    exact rstay _ s' has.length hn h7.len (by rw [marks_len, List.length_replicate]; exact hn) has.length 0 t (by omega) h4.len
/- rounds -/
/-- What each has: rows that are the least. -/
def Had (has : List (List Int)) (M : Int → Option (List Bool)) (l : List Int) : Prop := ∀ x ∈ l, ∃ s, M x = some s ∧ Least has (ClosedG has) (has.getD x.toNat []) s
theorem had_ev {has : List (List Int)} {roots l : List Int} {s : List Bool} (h : Good has roots l s) : ∀ (q : List Int) (M : Int → Option (List Bool)) (all : List Int), (∀ x ∈ q, InR has.length x) → Had has M all → ∃ M', Ev (fun k => hadF k has roots q M) M' ∧ Had has M' (q ++ all)
  | [], M, all, _, hM => ⟨M, Ev.now _, hM⟩
  | x :: q, M, all, hq, hM => by
    have hx := hq x List.mem_cons_self
    obtain ⟨t, h1, _, h2⟩ := h.wf (has.getD x.toNat []) (h.gr x.toNat)
    obtain ⟨M', h3, h4⟩ := had_ev h q (fun c => if c = x then some t else M c) (x :: all) (fun y hy => hq y (List.mem_cons_of_mem _ hy)) (fun y hy => by
      by_cases hyx : y = x
      · exact ⟨t, if_pos hyx, by rw [hyx]; exact h2⟩
      · rcases List.mem_cons.1 hy with hy | hy
        · exact absurd hy hyx
        · obtain ⟨s', h5, h6⟩ := hM y hy
          exact ⟨s', (if_neg hyx).trans h5, h6⟩)
    refine ⟨M', ?_, fun y hy => h4 y (by simp only [List.mem_append, List.mem_cons, List.cons_append] at hy ⊢; rcases hy with h | h | h <;> simp [h])⟩
    have hn := h.n
    refine Ev.congr (f := fun k => (weak_From.f k has roots (has.getD x.toNat [])).bind fun s => hadF k has roots q (fun c => if c = x then some s else M c)) (fun k => ?_) (Ev.bind h1 h3)
    rw [hadF, if_pos ⟨hx.1, hx.2, by have := hx.2; omega⟩]
def hadB (M : Int → Option (List Bool)) (left : List Int) (x : Int) : Bool := left.any fun j => j != x && rdOf false ((M j).getD []) x
theorem hadR_ev {has : List (List Int)} {roots l : List Int} {s : List Bool} (h : Good has roots l s) {M : Int → Option (List Bool)} (n : Int) (hn : InR has.length n) : ∀ (q : List Int) (b : Bool), (∀ x ∈ q, InR has.length x) → Had has M q → Ev (fun k => hadR k has roots n q b) (b || hadB M q n)
  | [], b, _, _ => Pur.ev_some (fun k => by simp [hadR, hadB])
  | j :: q, b, hq, hM => by
    have ih : ∀ b, Ev (fun k => hadR k has roots n q b) (b || hadB M q n) := fun b => hadR_ev h n hn q b (fun y hy => hq y (List.mem_cons_of_mem _ hy)) (fun y hy => hM y (List.mem_cons_of_mem _ hy))
    have hj := hq j List.mem_cons_self
    have e0 : hadB M (j :: q) n = ((j != n && rdOf false ((M j).getD []) n) || hadB M q n) := by simp [hadB]
    rw [e0]
    cases b with
    | true => exact Ev.congr (f := fun k => hadR k has roots n q true) (fun k => by rw [hadR, if_pos rfl]) (by have := ih true; simpa using this)
    | false =>
      by_cases he : j = n
      · refine Ev.congr (f := fun k => hadR k has roots n q false) (fun k => by rw [hadR, if_neg (by decide), if_pos he]) ?_
        have := ih false
        rw [show (j != n) = false from by simp [he]]
        simpa using this
      · obtain ⟨t, h1, h2⟩ := hM j List.mem_cons_self
        obtain ⟨t', _, h3, h4⟩ := h.wf (has.getD j.toNat []) (h.gr j.toNat)
        have e := h4.same h2
        subst e
        refine Ev.congr (f := fun k => (backstitchref3_From.f k has roots (has.getD j.toNat []) []).bind fun s => if 0 ≤ n ∧ n < (s.length : Int) then hadR k has roots n q (rdOf false s n) else none) (fun k => by rw [hadR, if_neg (by decide), if_neg he, if_pos ⟨hj.1, hj.2⟩]) ?_
        refine Ev.bind h3 (Ev.congr (f := fun k => hadR k has roots n q (rdOf false t' n)) (fun k => if_pos ⟨hn.1, by rw [h4.len]; exact hn.2⟩) ?_)
        rw [h1, show (j != n) = true from by simp [he], Bool.true_and, Option.getD_some, Bool.false_or]
        exact ih _
theorem split_ev {has : List (List Int)} {roots l : List Int} {s : List Bool} (h : Good has roots l s) {M : Int → Option (List Bool)} (left : List Int) (hl : ∀ x ∈ left, InR has.length x) (hM : Had has M left) : ∀ (q now next : List Int), (∀ x ∈ q, InR has.length x) → Ev (fun k => splitR k has roots left q now next) (now ++ q.filter (fun x => !(hadB M left x)), next ++ q.filter (fun x => hadB M left x))
  | [], now, next, _ => Pur.ev_some (fun k => by simp [splitR])
  | n :: q, now, next, hq => by
    have h1 := hadR_ev h n (hq n List.mem_cons_self) left false hl hM
    rw [Bool.false_or] at h1
    refine Ev.bind h1 ?_
    cases hb : hadB M left n with
    | true =>
      refine Ev.congr (f := fun k => splitR k has roots left q now (next ++ [n])) (fun k => if_pos rfl) ?_
      have := split_ev h left hl hM q now (next ++ [n]) (fun y hy => hq y (List.mem_cons_of_mem _ hy))
      simpa [List.filter_cons, hb] using this
    | false =>
      refine Ev.congr (f := fun k => splitR k has roots left q (now ++ [n]) next) (fun k => if_neg (by decide)) ?_
      have := split_ev h left hl hM q (now ++ [n]) next (fun y hy => hq y (List.mem_cons_of_mem _ hy))
      simpa [List.filter_cons, hb] using this
theorem filter_not_mem (p : Int → Bool) (l : List Int) : l.filter (fun x => !((l.filter (fun x => !(p x))).contains x)) = l.filter p := by
  apply List.filter_congr
  intro x hx
  have : ((l.filter (fun x => !(p x))).contains x) = !(p x) := by
    rw [List.contains_eq_mem]
    cases hp : p x
    · simp [hx, hp]
    · simp [hp]
  rw [this, Bool.not_not]
theorem rounds_ok {has : List (List Int)} {roots l : List Int} {s : List Bool} (h : Good has roots l s) {M : Int → Option (List Bool)} : ∀ (N : Nat) (left : List Int) (out : List (List Int)), left.length ≤ N → out.length + left.length ≤ 100 → (∀ q ∈ out, q.length ≤ 100) → (∀ x ∈ left, InR has.length x) → Had has M left →
    ∃ Z : List (List Int), Z.length ≤ 100 ∧ (∀ q ∈ Z, q.length ≤ 100) ∧ Ev (fun k => roundsF k M left out) Z ∧ ∃ K0, ∀ K k, K0 ≤ K → K0 ≤ k → roundsR K has roots k left out = some Z := by
  intro N
  have nil : ∀ out : List (List Int), out.length ≤ 100 → (∀ q ∈ out, q.length ≤ 100) → ∃ Z : List (List Int), Z.length ≤ 100 ∧ (∀ q ∈ Z, q.length ≤ 100) ∧ Ev (fun k => roundsF k M [] out) Z ∧ ∃ K0, ∀ K k, K0 ≤ K → K0 ≤ k → roundsR K has roots k [] out = some Z := by
    intro out ho hq
    refine ⟨out, ho, hq, Ev.step (f := fun _ => some out) (fun k => by rw [roundsF, if_pos List.length_nil]) (Ev.now _), 1, fun K k _ hk => ?_⟩
    obtain ⟨m, rfl⟩ : ∃ m, k = m + 1 := ⟨k - 1, by omega⟩
    rw [roundsR, if_pos List.length_nil]
  induction N with
  | zero =>
    intro left out h1 h2 h3 h4 h5
    obtain rfl := List.eq_nil_of_length_eq_zero (show left.length = 0 by omega)
    exact nil out (by simpa using h2) h3
  | succ N ih =>
    intro left out h1 h2 h3 h4 h5
    rcases Nat.eq_zero_or_pos left.length with h0 | h0
    · obtain rfl := List.eq_nil_of_length_eq_zero h0
      exact nil out (by simpa using h2) h3
    have hin : roundIn M left = true := by
      rw [roundIn, List.all_eq_true]
      intro x hx
      have hxr := h4 x hx
      have hn := h.n
      simp only [Bool.and_eq_true, decide_eq_true_eq, List.all_eq_true, Bool.or_eq_true]
      refine ⟨⟨hxr.1, by have := hxr.2; omega⟩, fun n hnl => .inr ?_⟩
      obtain ⟨t, e1, e2⟩ := h5 x hx
      rw [e1]
      show decide (n < (t.length : Int)) = true
      rw [e2.len]
      exact decide_eq_true (h4 n hnl).2
    have hnow : nowF M left = left.filter (fun x => !(hadB M left x)) := rfl
    obtain ⟨K1, hsp⟩ := split_ev h left h4 h5 left [] [] h4
    simp only [List.nil_append] at hsp
    have hle : (nowF M left).length ≤ left.length := by rw [hnow]; exact List.length_filter_le _ _
    by_cases h9 : (nowF M left).length = 0
    · have e1 : left.filter (fun x => !(left.contains x)) = [] := by
        rw [List.filter_eq_nil_iff]
        intro x hx
        simp [List.contains_eq_mem, hx]
      obtain ⟨Z, z1, z2, z3, K0, z4⟩ := nil (out ++ [left]) (by simp; omega) (fun q hq => by
        rcases List.mem_append.1 hq with hq | hq
        · exact h3 q hq
        · rw [List.mem_singleton.1 hq]; omega)
      refine ⟨Z, z1, z2, Ev.step (f := fun k => roundsF k M [] (out ++ [left])) (fun k => ?_) z3, K0 + K1 + 1, fun K k hK hk => ?_⟩
      · rw [roundsF, if_neg (by omega), if_pos ⟨⟨hin, by omega⟩, by omega⟩, if_pos h9, e1]
      · obtain ⟨m, rfl⟩ : ∃ m, k = m + 1 := ⟨k - 1, by omega⟩
        rw [roundsR, if_neg (by omega), if_pos ⟨by omega, by omega⟩, hsp K (by omega), Option.bind_some, if_pos (by rw [← hnow]; exact h9)]
        exact z4 K m (by omega) (by omega)
    · have e1 : left.filter (fun x => !((nowF M left).contains x)) = left.filter (fun x => hadB M left x) := filter_not_mem _ _
      have hlt : (left.filter (fun x => hadB M left x)).length < left.length := by
        rcases Nat.lt_or_ge (left.filter (fun x => hadB M left x)).length left.length with h6 | h6
        · exact h6
        · exfalso
          have h7 : left.filter (fun x => hadB M left x) = left := List.filter_eq_self.2 (List.length_filter_eq_length_iff.1 (Nat.le_antisymm (List.length_filter_le _ _) h6))
          apply h9
          rw [hnow, List.length_eq_zero_iff, List.filter_eq_nil_iff]
          intro x hx
          have := List.filter_eq_self.1 h7 x hx
          simp [this]
      obtain ⟨Z, z1, z2, z3, K0, z4⟩ := ih (left.filter (fun x => hadB M left x)) (out ++ [nowF M left]) (by omega) (by simp; omega) (fun q hq => by
        rcases List.mem_append.1 hq with hq | hq
        · exact h3 q hq
        · rw [List.mem_singleton.1 hq]; omega) (fun x hx => h4 x ((List.mem_filter.1 hx).1)) (fun x hx => h5 x ((List.mem_filter.1 hx).1))
      refine ⟨Z, z1, z2, Ev.step (f := fun k => roundsF k M (left.filter (fun x => hadB M left x)) (out ++ [nowF M left])) (fun k => ?_) z3, K0 + K1 + 1, fun K k hK hk => ?_⟩
      · rw [roundsF, if_neg (by omega), if_pos ⟨⟨hin, by omega⟩, by omega⟩, if_neg h9, e1]
      · obtain ⟨m, rfl⟩ : ∃ m, k = m + 1 := ⟨k - 1, by omega⟩
        rw [roundsR, if_neg (by omega), if_pos ⟨by omega, by omega⟩, hsp K (by omega), Option.bind_some, if_neg (by rw [← hnow]; exact h9)]
        exact z4 K m (by omega) (by omega)
theorem rounds_ev {has : List (List Int)} {roots l : List Int} {s : List Bool} (hrow : ∀ l ∈ has, l.length < 4611686018427387904) (h0 : fault has roots = 0) (h3 : okL has.length l = true) (h : Good has roots l s) :
    ∃ Z : List (List Int), Z.length ≤ 100 ∧ (∀ q ∈ Z, q.length ≤ 100) ∧ Ev (fun k => ends_Rounds.f k has roots l) (Z, 0) ∧ Ev (fun k => backstitchref3_Rounds.f k has roots l) Z := by
  have hn := h.n
  have ho := outs_len (has := has) (l := l) (s := s)
  obtain ⟨M, h1, h2⟩ := had_ev h (outs has l s) (fun _ => none) [] outs_in (fun x hx => by cases hx)
  rw [List.append_nil] at h2
  obtain ⟨Z, z1, z2, z3, K0, z4⟩ := rounds_ok h (outs has l s).length (outs has l s) [] (Nat.le_refl _) (by simp; omega) (fun q hq => by cases hq) outs_in h2
  refine ⟨Z, z1, z2, ?_, ?_⟩
  · refine Ev.bind (due_ev hrow h0 h3 h) ?_
    refine Ev.congr (f := fun k => (hadF k has roots (outs has l s) (fun _ => none)).bind fun M => (roundsF k M (outs has l s) []).bind fun o => some (o, 0)) (fun k => by rw [if_pos rfl, if_pos (by show (outs has l s).length ≤ 1000; omega)]) ?_
    exact Ev.bind h1 (Ev.bind z3 (Ev.now _))
  · obtain ⟨st, _, _, h5⟩ := dues_ev hrow h0 h3 h
    exact Ev.bind h5 ⟨K0, fun k hk => z4 k k hk hk⟩
theorem rows_l0 (Z : List (List Int)) (hZ : Z.length ≤ 100) (hq : ∀ q ∈ Z, q.length ≤ 100) : ∀ (d i : Nat), i + d = Z.length → Ev (fun k => backstitchlaw3_EndsTell.l0 k Z Z (Z.length : Int) i) true
  | 0, i, hi => by
    refine Ev.step (f := fun _ => some true) (fun k => ?_) (Ev.now _)
    show backstitchlaw3_EndsTell.l0 (k + 1) Z Z Z.length i = _
    rw [backstitchlaw3_EndsTell.l0, if_neg (by omega)]
  | d + 1, i, hi => by
    have hlt : i < Z.length := by omega
    have hm : rd_L1 Z (i : Int) ∈ Z := by
      show Z.getD i [] ∈ Z
      rw [List.getD_eq_getElem?_getD, List.getElem?_eq_getElem hlt, Option.getD_some]
      exact List.getElem_mem _
    have he := eq_ev (rd_L1 Z (i : Int)) (by have := hq _ hm; omega)
    refine Ev.step (f := fun k => (backstitchref3_Eq_int.f k (rd_L1 Z (i : Int)) (rd_L1 Z (i : Int))).bind fun t => if t = true then backstitchlaw3_EndsTell.l0 k Z Z (Z.length : Int) ((i + 1 : Nat) : Int) else some false) (fun k => ?_) (Ev.bind he (Ev.congr (fun k => if_pos rfl) (rows_l0 Z hZ hq d (i + 1) (by omega))))
    show backstitchlaw3_EndsTell.l0 (k + 1) Z Z Z.length i = _
    rw [backstitchlaw3_EndsTell.l0, if_pos (by omega), if_pos (by omega), if_pos (by omega), if_pos (by omega), Pur.wrap_succ (by omega)]
theorem ended_ev : Ev (fun k => backstitchlaw3_ended.f k) true := by
  have hrow : ∀ l ∈ ([[1], [], []] : List (List Int)), l.length < 4611686018427387904 := by decide
  have hf : fault [[1], [], []] [2] = 0 := by decide
  have he : efault [[1], [], []] [2] [0, 2] = 0 := by decide
  obtain ⟨_, _, hok, s, hg⟩ := good _ _ _ he
  have w1 : Ev (fun k => weak_From.f k [[1], [], []] [2] [2]) [false, false, true] := Ev.of (fun k => weak_From.mono _ _ _ k) (k := 20) (by kernel_rfl)
  have w2 : Ev (fun k => weak_From.f k [[1], [], []] [2] [0]) [true, true, false] := Ev.of (fun k => weak_From.mono _ _ _ k) (k := 20) (by kernel_rfl)
  obtain ⟨t, a1, _, a2⟩ := hg.wf [2] hg.ro
  have e1 : t = [false, false, true] := by
    obtain ⟨K1, b1⟩ := a1
    obtain ⟨K2, b2⟩ := w1
    have c1 := b1 (K1 + K2) (by omega)
    have c2 := b2 (K1 + K2) (by omega)
    simp only at c1 c2
    rw [c1] at c2
    exact Option.some.inj c2
  have e2 := a2.same hg.ls
  subst e1
  subst e2
  have ho : outs [[1], [], []] [0, 2] [false, false, true] = [0] := by decide
  have hd := due_ev hrow hf hok hg
  rw [ho] at hd
  have hD : Ev (fun k => ends_Due.f k [[1], [], []] [2] [0, 2]) ([0], [0, 1], 0) := by
    refine Ev.bind hd ?_
    refine Ev.congr (f := fun k => (weak_From.f k [[1], [], []] [2] [0]).bind fun t126 => ends_Due.l0 k [0] [false, false, true] t126 (t126.length : Int) 0) (fun k => if_pos rfl) ?_
    refine Ev.bind w2 ?_
    have := wstay [0] [false, false, true] 3 (by decide) rfl 3 0 [true, true, false] rfl rfl
    exact this
  refine Ev.bind hD ?_
  refine Ev.congr (f := fun k => (backstitchref3_Eq_int.f k ([0] : List Int) [0]).bind fun t160 => if t160 = true then (backstitchref3_Eq_int.f k ([0, 1] : List Int) [0, 1]).bind fun t164 => some t164 else some false) (fun k => if_pos rfl) ?_
  refine Ev.bind (eq_ev _ (by decide)) (Ev.congr (fun k => if_pos rfl) (Ev.bind (eq_ev _ (by decide)) (Ev.now _)))
theorem EndsTell : backstitchlaw3_EndsTell.Pure := by
  intro x0 l hx0 hl
  have hrow : ∀ q ∈ x0.f0, q.length < 4611686018427387904 := fun q hq => by have := (hx0.1.2 q hq).1; omega
  generalize x0.f0 = has at *
  generalize x0.f1 = roots at *
  refine Ev.rounds ?_
  refine Ev.bind ended_ev (Ev.congr (fun k => if_pos rfl) ?_)
  refine Ev.bind (ef_ev has roots l) ?_
  by_cases hf : efault has roots l = 0
  · obtain ⟨h0, h1, h3, s, hg⟩ := good has roots l hf
    obtain ⟨st, s1, d1, d2⟩ := dues_ev hrow h0 h3 hg
    obtain ⟨Z, z1, z2, r1, r2⟩ := rounds_ev hrow h0 h3 hg
    have hn := hg.n
    have ho := outs_len (has := has) (l := l) (s := s)
    rw [hf]
    refine Ev.bind d1 (Ev.bind r1 (Ev.congr (fun k => if_pos rfl) ?_))
    refine Ev.step (f := fun k => (backstitchref3_Due.f k has roots l).bind fun bt223 => ((backstitchref3_Rounds.f k has roots l).bind fun t229 => ((backstitchref3_Eq_int.f k (outs has l s) bt223.1).bind fun t232 => (if t232 = true then ((backstitchref3_Eq_int.f k st bt223.2).bind fun t233 => (if t233 = true then (backstitchlaw3_EndsTell.j1 k Z t229 ((Z.length : Int) != (t229.length : Int))) else (backstitchlaw3_EndsTell.j1 k Z t229 true))) else (backstitchlaw3_EndsTell.j1 k Z t229 true))))) (fun k => ?_) ?_
    · show backstitchlaw3_EndsTell.j0 (k + 1) l 0 (outs has l s) st Z ((0 : Int) != 0) has roots = _
      rw [backstitchlaw3_EndsTell.j0, if_neg (by decide), if_pos rfl]
    · refine Ev.bind d2 (Ev.bind r2 (Ev.bind (eq_ev _ (by omega)) (Ev.congr (fun k => if_pos rfl) (Ev.bind (eq_ev _ (by omega)) (Ev.congr (fun k => if_pos rfl) ?_)))))
      refine Ev.step (f := fun k => backstitchlaw3_EndsTell.l0 k Z Z (Z.length : Int) ((0 : Nat) : Int)) (fun k => ?_) (rows_l0 Z z1 z2 Z.length 0 (by omega))
      rw [backstitchlaw3_EndsTell.j1, if_neg (by simp)]
      rfl
  · have hd := due_bad has roots l hrow hf
    have d1 : Ev (fun k => ends_Due.f k has roots l) (([] : List Int), ([] : List Int), efault has roots l) := Ev.bind hd (Pur.ev_some fun k => if_neg hf)
    have r1 : Ev (fun k => ends_Rounds.f k has roots l) (([] : List (List Int)), efault has roots l) := Ev.bind hd (Pur.ev_some fun k => if_neg hf)
    refine Ev.bind d1 (Ev.bind r1 (Ev.congr (fun k => if_pos rfl) ?_))
    refine Ev.step (f := fun _ => some true) (fun k => ?_) (Ev.now _)
    show backstitchlaw3_EndsTell.j0 (k + 1) l (efault has roots l) [] [] [] (efault has roots l != efault has roots l) has roots = _
    rw [backstitchlaw3_EndsTell.j0, if_neg (by simp), if_neg hf]
    have e : wrap64 (wrap64 ((([] : List Int).length : Int) + (([] : List Int).length : Int)) + (([] : List (List Int)).length : Int)) = 0 := by unfold wrap64; simp
    exact congrArg some (beq_iff_eq.2 e)
end Go.Proofs.Ytlojkphocbbjdab.Pure
