/- What is reached: weak.From and the reference's From tell the same things. -/
import Derived.Test.YtlojkphocbbjdabPEndsTello
import Derived.Test.YtlojkphocbbjdabHPure
namespace Go.Proofs.Ytlojkphocbbjdab.PureEndsTell
open Go.RowKit Go.Proofs.Ytlojkphocbbjdab.PEndsTell Go.Proofs.YtlojkphocbbjdabW Go.Proofs.YtlojkphocbbjdabW.PrintWords Go.Proofs.YtlojkphocbbjdabW.PrintLast
set_option linter.unusedVariables false
set_option linter.unusedSimpArgs false

abbrev Tr (s : List Bool) (i : Nat) : Prop := s.getD i false = true
theorem tr_lt {s : List Bool} {i : Nat} (h : Tr s i) : i < s.length := by
  rcases Nat.lt_or_ge i s.length with h1 | h1
  · exact h1
  · unfold Tr at h
    rw [List.getD_eq_getElem?_getD, List.getElem?_eq_none h1] at h
    simp at h
theorem tr_set {s : List Bool} {i j : Nat} (hi : i < s.length) : Tr (s.set i true) j ↔ Tr s j ∨ j = i := by
  unfold Tr
  rw [List.getD_eq_getElem?_getD, List.getD_eq_getElem?_getD, List.getElem?_set]
  by_cases h : i = j
  · subst h
    simp [hi]
  · rw [if_neg h]
    constructor
    · exact .inl
    · rintro (h2 | h2)
      · exact h2
      · exact absurd h2.symm h
theorem cf_set {s : List Bool} {i : Nat} (hi : i < s.length) (h : ¬ Tr s i) : (s.set i true).count false + 1 = s.count false := by
  have h1 : s[i] = false := by
    unfold Tr at h
    rw [List.getD_eq_getElem?_getD, List.getElem?_eq_getElem hi, Option.getD_some] at h
    simpa using h
  have h2 : 0 < s.count false := List.count_pos_iff.2 (by rw [← h1]; exact List.getElem_mem hi)
  rw [List.count_set hi, h1]
  simp
  omega
theorem set_same {s : List Bool} {i : Nat} (h : Tr s i) : s.set i true = s := by
  have hi := tr_lt h
  have h1 : s[i] = true := by
    unfold Tr at h
    rw [List.getD_eq_getElem?_getD, List.getElem?_eq_getElem hi, Option.getD_some] at h
    exact h
  conv => lhs; rw [← h1]
  exact List.set_getElem_self hi
theorem tr_ext {s t : List Bool} (hl : s.length = t.length) (h : ∀ i, Tr s i ↔ Tr t i) : s = t := by
  refine List.ext_getElem hl fun i h1 h2 => ?_
  have := h i
  unfold Tr at this
  rw [List.getD_eq_getElem?_getD, List.getElem?_eq_getElem h1, List.getD_eq_getElem?_getD, List.getElem?_eq_getElem h2] at this
  simp only [Option.getD_some] at this
  cases hs : s[i] <;> cases ht : t[i] <;> simp_all
theorem tr_none (n i : Nat) : ¬ Tr (List.replicate n false) i := by
  unfold Tr
  rw [List.getD_eq_getElem?_getD]
  by_cases h : i < n
  · rw [List.getElem?_eq_getElem (by simpa using h)]; simp
  · rw [List.getElem?_eq_none (by simpa using h)]; simp
def InR (n : Nat) (x : Int) : Prop := 0 ≤ x ∧ x < (n : Int)

theorem reach_ok : ∀ (l : List Int) (s : List Bool) (t : List Int), (∀ x ∈ l, InR s.length x) → t.length + s.count false < 17592186044416 →
    ∃ s' t', reachS l s t = some (s', t') ∧ s'.length = s.length ∧ t'.length + s'.count false = t.length + s.count false ∧ s'.count false ≤ s.count false ∧ (∀ i, Tr s' i ↔ (Tr s i ∨ ∃ x ∈ l, x.toNat = i)) ∧ (∀ y ∈ t', y ∈ t ∨ y ∈ l) ∧ (∀ y ∈ t, y ∈ t') ∧ (∀ x ∈ l, Tr s x.toNat ∨ x ∈ t')
  | [], s, t, _, _ => ⟨s, t, rfl, rfl, rfl, Nat.le_refl _, by simp, fun y h => .inl h, fun y h => h, by simp⟩
  | x :: l, s, t, hr, hb => by
    have hx := hr x List.mem_cons_self
    have hxn : x.toNat < s.length := by have := hx.1; have := hx.2; omega
    rw [reachS, if_pos (show 0 ≤ x ∧ x < (s.length : Int) from hx)]
    by_cases h : rdOf false s x = true
    · rw [if_pos h]
      obtain ⟨s', t', e, h1, h2, h3, h4, h5, h6, h7⟩ := reach_ok l s t (fun y hy => hr y (List.mem_cons_of_mem _ hy)) hb
      refine ⟨s', t', e, h1, h2, h3, fun i => ?_, fun y hy => ?_, h6, fun y hy => ?_⟩
      · rw [h4]
        constructor
        · rintro (h8 | ⟨y, h8, h9⟩)
          · exact .inl h8
          · exact .inr ⟨y, List.mem_cons_of_mem _ h8, h9⟩
        · rintro (h8 | ⟨y, h8, h9⟩)
          · exact .inl h8
          · rcases List.mem_cons.1 h8 with rfl | h8
            · exact .inl (by rw [← h9]; exact h)
            · exact .inr ⟨y, h8, h9⟩
      · rcases h5 y hy with h8 | h8
        · exact .inl h8
        · exact .inr (List.mem_cons_of_mem _ h8)
      · rcases List.mem_cons.1 hy with rfl | hy
        · exact .inl h
        · exact h7 y hy
    · rw [if_neg h, if_pos (by omega)]
      have hc := cf_set hxn h
      obtain ⟨s', t', e, h1, h2, h3, h4, h5, h6, h7⟩ := reach_ok l (s.set x.toNat true) (t ++ [x]) (fun y hy => by rw [List.length_set]; exact hr y (List.mem_cons_of_mem _ hy)) (by simp; omega)
      rw [List.length_set] at h1
      simp only [List.length_append, List.length_singleton] at h2
      refine ⟨s', t', e, h1, by omega, by omega, fun i => ?_, fun y hy => ?_, fun y hy => h6 y (List.mem_append_left _ hy), fun y hy => ?_⟩
      · rw [h4, tr_set hxn]
        constructor
        · rintro ((h8 | h8) | ⟨y, h8, h9⟩)
          · exact .inl h8
          · exact .inr ⟨x, List.mem_cons_self, h8.symm⟩
          · exact .inr ⟨y, List.mem_cons_of_mem _ h8, h9⟩
        · rintro (h8 | ⟨y, h8, h9⟩)
          · exact .inl (.inl h8)
          · rcases List.mem_cons.1 h8 with rfl | h8
            · exact .inl (.inr h9.symm)
            · exact .inr ⟨y, h8, h9⟩
      · rcases h5 y hy with h8 | h8
        · rcases List.mem_append.1 h8 with h8 | h8
          · exact .inl h8
          · exact .inr (by rw [List.mem_singleton.1 h8]; exact List.mem_cons_self)
        · exact .inr (List.mem_cons_of_mem _ h8)
      · rcases List.mem_cons.1 hy with rfl | hy
        · exact .inr (h6 _ (by simp))
        · rcases h7 y hy with h8 | h8
          · rcases (tr_set hxn).1 h8 with h9 | h9
            · exact .inl h9
            · right
              have : y = x := by have := (hr y (List.mem_cons_of_mem _ hy)).1; have := hx.1; omega
              rw [this]
              exact h6 _ (by simp)
          · exact .inr h8

/-- A graph whose numbers are of things. -/
def GrOk (has : List (List Int)) : Prop := ∀ i, ∀ x ∈ has.getD i [], InR has.length x
def ClosedG (has : List (List Int)) (P : Nat → Prop) : Prop := ∀ i, P i → ∀ x ∈ has.getD i [], P x.toNat
/-- Weak's state: what was seen and is not to be done is done. -/
structure Inv (has : List (List Int)) (s : List Bool) (t : List Int) : Prop where
  len : s.length = has.length
  todo : ∀ y ∈ t, InR has.length y ∧ Tr s y.toNat
  done : ∀ i, Tr s i → (i : Int) ∈ t ∨ ∀ x ∈ has.getD i [], Tr s x.toNat
  few : t.length + s.count false < 17592186044416
theorem Inv.reach {has : List (List Int)} {s : List Bool} {t : List Int} (h : Inv has s t) (l : List Int) (hl : ∀ x ∈ l, InR has.length x) :
    ∃ s' t', reachS l s t = some (s', t') ∧ Inv has s' t' ∧ t'.length + s'.count false = t.length + s.count false ∧ s'.count false ≤ s.count false ∧ (∀ i, Tr s' i ↔ (Tr s i ∨ ∃ x ∈ l, x.toNat = i)) := by
  obtain ⟨s', t', e, h1, h2, h3, h4, h5, h6, h7⟩ := reach_ok l s t (fun x hx => by rw [h.len]; exact hl x hx) h.few
  refine ⟨s', t', e, ⟨h1.trans h.len, fun y hy => ?_, fun i hi => ?_, by have := h.few; omega⟩, h2, h3, h4⟩
  · rcases h5 y hy with h8 | h8
    · exact ⟨(h.todo y h8).1, (h4 _).2 (.inl (h.todo y h8).2)⟩
    · exact ⟨hl y h8, (h4 _).2 (.inr ⟨y, h8, rfl⟩)⟩
  · have old : Tr s i → (i : Int) ∈ t' ∨ ∀ x ∈ has.getD i [], Tr s' x.toNat := fun h8 => by
      rcases h.done i h8 with h9 | h9
      · exact .inl (h6 _ h9)
      · exact .inr (fun x hx => (h4 _).2 (.inl (h9 x hx)))
    rcases (h4 i).1 hi with h8 | ⟨x, h8, h9⟩
    · exact old h8
    · rcases h7 x h8 with h10 | h10
      · exact old (by rw [← h9]; exact h10)
      · left
        have : (i : Int) = x := by have := (hl x h8).1; omega
        rw [this]; exact h10
theorem all_ok (has : List (List Int)) (hg : GrOk has) : ∀ (N : Nat) (s : List Bool) (t : List Int), 2 * s.count false + t.length ≤ N → Inv has s t →
    ∃ s', Ev (fun k => allS has k s t) s' ∧ Inv has s' [] ∧ s'.count false ≤ s.count false ∧ (∀ i, Tr s i → Tr s' i) ∧ (∀ P : Nat → Prop, ClosedG has P → (∀ i, Tr s i → P i) → ∀ i, Tr s' i → P i) := by
  intro N
  induction N with
  | zero =>
    intro s t hN h
    obtain rfl : t = [] := List.eq_nil_of_length_eq_zero (by omega)
    exact ⟨s, Ev.step (f := fun _ => some s) (fun k => by simp [allS]) (Ev.now _), h, Nat.le_refl _, fun _ h => h, fun _ _ h => h⟩
  | succ N ih =>
    intro s t hN h
    rcases Nat.eq_zero_or_pos t.length with h0 | h0
    · obtain rfl := List.eq_nil_of_length_eq_zero h0
      exact ⟨s, Ev.step (f := fun _ => some s) (fun k => by simp [allS]) (Ev.now _), h, Nat.le_refl _, fun _ h => h, fun _ _ h => h⟩
    · have hy : rd t ((t.length : Int) - 1) ∈ t := by
        rw [rd, List.getD_eq_getElem?_getD, List.getElem?_eq_getElem (by omega), Option.getD_some]
        exact List.getElem_mem _
      have hsp : ∀ z ∈ t, z ∈ t.take (t.length - 1) ∨ z = rd t ((t.length : Int) - 1) := by
        intro z hz
        rw [← List.take_append_drop (t.length - 1) t] at hz
        rcases List.mem_append.1 hz with hz | hz
        · exact .inl hz
        · right
          rw [List.drop_eq_getElem_cons (by omega), show t.length - 1 + 1 = t.length by omega, List.drop_length] at hz
          rw [List.mem_singleton.1 hz, rd, List.getD_eq_getElem?_getD, List.getElem?_eq_getElem (by omega), Option.getD_some]
          congr 1
          omega
      generalize hyy : rd t ((t.length : Int) - 1) = y at *
      have hyr := (h.todo y hy).1
      have hln : (t.take (t.length - 1)).length = t.length - 1 := by simp
      have hown : ∀ x ∈ has.getD y.toNat [], InR has.length x := hg y.toNat
      obtain ⟨s', t', e, h1, h2, h3, h4, h5, h6, h7⟩ := reach_ok (has.getD y.toNat []) s (t.take (t.length - 1)) (fun x hx => by rw [h.len]; exact hown x hx) (by rw [hln]; have := h.few; omega)
      have hinv : Inv has s' t' := by
        refine ⟨h1.trans h.len, fun z hz => ?_, fun i hi => ?_, by have := h.few; omega⟩
        · rcases h5 z hz with h8 | h8
          · have := h.todo z (List.mem_of_mem_take h8)
            exact ⟨this.1, (h4 _).2 (.inl this.2)⟩
          · exact ⟨hown z h8, (h4 _).2 (.inr ⟨z, h8, rfl⟩)⟩
        · have old : Tr s i → (i : Int) ∈ t' ∨ ∀ x ∈ has.getD i [], Tr s' x.toNat := fun h8 => by
            rcases h.done i h8 with h9 | h9
            · rcases hsp _ h9 with h10 | h10
              · exact .inl (h6 _ h10)
              · right
                intro x hx
                refine (h4 _).2 (.inr ⟨x, ?_, rfl⟩)
                rw [← h10]
                exact hx
            · exact .inr (fun x hx => (h4 _).2 (.inl (h9 x hx)))
          rcases (h4 i).1 hi with h8 | ⟨x, h8, h9⟩
          · exact old h8
          · rcases h7 x h8 with h10 | h10
            · exact old (by rw [← h9]; exact h10)
            · left
              have : (i : Int) = x := by have := (hown x h8).1; omega
              rw [this]; exact h10
      obtain ⟨s2, i1, i2, i3, i4, i5⟩ := ih s' t' (by omega) hinv
      refine ⟨s2, ?_, i2, by omega, fun i hi => i4 i ((h4 i).2 (.inl hi)), fun P hc hP => i5 P hc fun i hi => ?_⟩
      · refine Ev.step (f := fun k => allS has k s' t') (fun k => ?_) i1
        show allS has (k + 1) s t = _
        rw [allS, if_neg (by omega), hyy, if_pos (show 0 ≤ y ∧ y < (has.length : Int) from hyr)]
        show (reachS (rd_L1 has y) s (List.take (t.length - 1) t)).bind _ = _
        rw [show rd_L1 has y = has.getD y.toNat [] from rfl, e]
        rfl
      · rcases (h4 i).1 hi with h8 | ⟨x, h8, h9⟩
        · exact hP i h8
        · rw [← h9]
          exact hc y.toNat (hP _ (h.todo y hy).2) x h8
theorem Inv.closed {has : List (List Int)} {s : List Bool} (h : Inv has s []) : ClosedG has (Tr s) := fun i hi => by
  rcases h.done i hi with h1 | h1
  · cases h1
  · exact h1
theorem Inv.start (has : List (List Int)) (hn : has.length < 17592186044416) : Inv has (List.replicate has.length false) [] :=
  ⟨by simp, by simp, fun i h => absurd h (tr_none _ _), by rw [List.count_replicate]; simp; exact hn⟩
/-- What weak.From tells: the least that holds the first ones and is closed. -/
structure Least (has : List (List Int)) (Cl : (Nat → Prop) → Prop) (roots : List Int) (s : List Bool) : Prop where
  len : s.length = has.length
  root : ∀ x ∈ roots, Tr s x.toNat
  cl : Cl (Tr s)
  least : ∀ P : Nat → Prop, Cl P → (∀ x ∈ roots, P x.toNat) → ∀ i, Tr s i → P i
theorem Least.same {has : List (List Int)} {Cl : (Nat → Prop) → Prop} {roots : List Int} {s s' : List Bool} (h : Least has Cl roots s) (h' : Least has Cl roots s') : s = s' :=
  tr_ext (h.len.trans h'.len.symm) fun i => ⟨fun hi => h.least _ h'.cl h'.root i hi, fun hi => h'.least _ h.cl h.root i hi⟩
theorem wfrom_ok (has : List (List Int)) (r0 roots : List Int) (hg : GrOk has) (hn : has.length < 281474976710656) (hn2 : has.length < 17592186044416) (hr : ∀ x ∈ roots, InR has.length x) :
    ∃ s, Ev (fun k => weak_From.f k has r0 roots) s ∧ Least has (ClosedG has) roots s := by
  obtain ⟨s1, t1, e, h1, h2, h3, h4⟩ := (Inv.start has hn2).reach roots hr
  obtain ⟨s', i1, i2, i3, i4, i5⟩ := all_ok has hg _ s1 t1 (Nat.le_refl _) h1
  refine ⟨s', ?_, i2.len, fun x hx => i4 _ ((h4 _).2 (.inr ⟨x, hx, rfl⟩)), i2.closed, fun P hc hP => i5 P hc fun i hi => ?_⟩
  · refine Ev.congr (f := fun k => allS has k s1 t1) (fun k => ?_) i1
    unfold weak_From.f
    rw [if_pos (by omega), e]
    rfl
  · rcases (h4 i).1 hi with h8 | ⟨x, h8, h9⟩
    · exact absurd h8 (tr_none _ _)
    · rw [← h9]; exact hP x h8
/-- What the reference's round does to (s, m). -/
structure Seen (s : List Bool) (m : Bool) (s' : List Bool) (m' : Bool) : Prop where
  len : s'.length = s.length
  up : ∀ i, Tr s i → Tr s' i
  cf : s'.count false ≤ s.count false
  more : m' = true → m = true ∨ s'.count false < s.count false
  quiet : m' = false → m = false ∧ s' = s
theorem Seen.refl (s : List Bool) (m : Bool) : Seen s m s m := ⟨rfl, fun _ h => h, Nat.le_refl _, .inl, fun h => ⟨h, rfl⟩⟩
theorem Seen.trans {s s1 s2 : List Bool} {m m1 m2 : Bool} (h : Seen s m s1 m1) (h' : Seen s1 m1 s2 m2) : Seen s m s2 m2 :=
  ⟨h'.len.trans h.len, fun i hi => h'.up i (h.up i hi), Nat.le_trans h'.cf h.cf, fun e => by
    rcases h'.more e with e1 | e1
    · rcases h.more e1 with e2 | e2
      · exact .inl e2
      · exact .inr (Nat.lt_of_le_of_lt h'.cf e2)
    · exact .inr (Nat.lt_of_lt_of_le e1 h.cf), fun e => by
    obtain ⟨e1, rfl⟩ := h'.quiet e
    exact h.quiet e1⟩
theorem see_ok (s : List Bool) (m : Bool) (x : Int) (hx : InR s.length x) :
    ∃ s' m', seeS x s m = some (s', m') ∧ Seen s m s' m' ∧ (∀ i, Tr s' i ↔ Tr s i ∨ i = x.toNat) ∧ (m' = false → Tr s x.toNat) := by
  have hxn : x.toNat < s.length := by have := hx.1; have := hx.2; omega
  refine ⟨_, _, by rw [seeS, if_pos (show 0 ≤ x ∧ x < (s.length : Int) from hx)], ?_, fun i => tr_set hxn, ?_⟩
  · by_cases h : Tr s x.toNat
    · have h' : rdOf false s x = true := h
      rw [set_same h, h']
      simp only [Bool.not_true, Bool.or_false]
      exact Seen.refl s m
    · have hc := cf_set hxn h
      have h' : rdOf false s x = false := by simpa using (show ¬ rdOf false s x = true from h)
      refine ⟨by simp, fun i hi => (tr_set hxn).2 (.inl hi), by omega, fun _ => .inr (by omega), fun e => ?_⟩
      rw [h'] at e
      simp at e
  · intro e
    have : rdOf false s x = true := by
      cases h : rdOf false s x
      · rw [h] at e; simp at e
      · rfl
    exact this
theorem set_ok : ∀ (l : List Int) (s : List Bool), (∀ x ∈ l, InR s.length x) → ∃ s', setS l s = some s' ∧ s'.length = s.length ∧ (∀ i, Tr s' i ↔ (Tr s i ∨ ∃ x ∈ l, x.toNat = i))
  | [], s, _ => ⟨s, rfl, rfl, by simp⟩
  | x :: l, s, hr => by
    have hx := hr x List.mem_cons_self
    have hxn : x.toNat < s.length := by have := hx.1; have := hx.2; omega
    rw [setS, if_pos (show 0 ≤ x ∧ x < (s.length : Int) from hx)]
    obtain ⟨s', e, h1, h2⟩ := set_ok l (s.set x.toNat true) (fun y hy => by rw [List.length_set]; exact hr y (List.mem_cons_of_mem _ hy))
    refine ⟨s', e, h1.trans (by simp), fun i => ?_⟩
    rw [h2, tr_set hxn]
    constructor
    · rintro ((h8 | h8) | ⟨y, h8, h9⟩)
      · exact .inl h8
      · exact .inr ⟨x, List.mem_cons_self, h8.symm⟩
      · exact .inr ⟨y, List.mem_cons_of_mem _ h8, h9⟩
    · rintro (h8 | ⟨y, h8, h9⟩)
      · exact .inl (.inl h8)
      · rcases List.mem_cons.1 h8 with rfl | h8
        · exact .inl (.inr h9.symm)
        · exact .inr ⟨y, h8, h9⟩
theorem own_ok (n : Nat) (i : Nat) : ∀ (o : List Int) (s : List Bool) (m : Bool), s.length = n → i < n → (∀ x ∈ o, InR n x) →
    ∃ s' m', ownS o i s m = some (s', m') ∧ Seen s m s' m' ∧ (m' = false → Tr s i → ∀ x ∈ o, Tr s x.toNat) ∧ (∀ P : Nat → Prop, (P i → ∀ x ∈ o, P x.toNat) → (∀ j, Tr s j → P j) → ∀ j, Tr s' j → P j)
  | [], s, m, _, _, _ => ⟨s, m, rfl, Seen.refl _ _, by simp, fun _ _ h => h⟩
  | x :: o, s, m, hl, hi, hr => by
    rw [ownS, if_pos (by omega)]
    by_cases h : rdOf false s (i : Int) = true
    · rw [if_pos h]
      have h' : Tr s i := h
      obtain ⟨s1, m1, e1, q1, t1, f1⟩ := see_ok s m x (by rw [hl]; exact hr x List.mem_cons_self)
      obtain ⟨s2, m2, e2, q2, t2, f2⟩ := own_ok n i o s1 m1 (q1.len.trans hl) hi (fun y hy => hr y (List.mem_cons_of_mem _ hy))
      refine ⟨s2, m2, by rw [e1]; exact e2, q1.trans q2, fun e _ y hy => ?_, fun P hP h0 j hj => ?_⟩
      · obtain ⟨e3, e4⟩ := q2.quiet e
        have e5 := (q1.quiet e3).2
        rcases List.mem_cons.1 hy with rfl | hy
        · exact f1 e3
        · have := t2 e (by rw [e5]; exact h') y hy
          rw [e5] at this
          exact this
      · refine f2 P (fun hp y hy => hP hp y (List.mem_cons_of_mem _ hy)) (fun j hj => ?_) j hj
        rcases (t1 j).1 hj with h8 | h8
        · exact h0 j h8
        · rw [h8]; exact hP (h0 i h') x List.mem_cons_self
    · rw [if_neg h]
      obtain ⟨s2, m2, e2, q2, t2, f2⟩ := own_ok n i o s m hl hi (fun y hy => hr y (List.mem_cons_of_mem _ hy))
      exact ⟨s2, m2, e2, q2, fun _ ht => absurd ht h, fun P hP h0 j hj => f2 P (fun hp y hy => hP hp y (List.mem_cons_of_mem _ hy)) h0 j hj⟩
theorem has_ok (has : List (List Int)) (hg : GrOk has) : ∀ (d i : Nat) (s : List Bool) (m : Bool), i + d = has.length → s.length = has.length →
    ∃ s' m', hasS (has.drop i) i s m = some (s', m') ∧ Seen s m s' m' ∧ (m' = false → ∀ j, i ≤ j → Tr s j → ∀ x ∈ has.getD j [], Tr s x.toNat) ∧ (∀ P : Nat → Prop, ClosedG has P → (∀ j, Tr s j → P j) → ∀ j, Tr s' j → P j)
  | 0, i, s, m, hi, hl => by
    rw [List.drop_eq_nil_of_le (by omega), hasS]
    exact ⟨s, m, rfl, Seen.refl _ _, fun _ j hj ht => by have := tr_lt ht; omega, fun _ _ h => h⟩
  | d + 1, i, s, m, hi, hl => by
    rw [Pur.drop_cons has i (by omega) [], hasS]
    obtain ⟨s1, m1, e1, q1, t1, f1⟩ := own_ok has.length i (has.getD i []) s m hl (by omega) (hg i)
    obtain ⟨s2, m2, e2, q2, t2, f2⟩ := has_ok has hg d (i + 1) s1 m1 (by omega) (q1.len.trans hl)
    refine ⟨s2, m2, by rw [e1]; exact e2, q1.trans q2, fun e j hj ht x hx => ?_, fun P hc h0 j hj => f2 P hc (fun j hj => f1 P (hc i) h0 j hj) j hj⟩
    obtain ⟨e3, e4⟩ := q2.quiet e
    have e5 := (q1.quiet e3).2
    rcases Nat.eq_or_lt_of_le hj with rfl | hj
    · exact t1 e3 ht x hx
    · have := t2 e j hj (by rw [e5]; exact ht) x hx
      rw [e5] at this
      exact this
def ClosedP (ps : List S236) (P : Nat → Prop) : Prop := ∀ p ∈ ps, P p.f0.toNat → P p.f1.toNat
def PsOk (n : Nat) (ps : List S236) : Prop := ∀ p ∈ ps, InR n p.f0 ∧ InR n p.f1
theorem pr_ok (n : Nat) : ∀ (ps : List S236) (s : List Bool) (m : Bool), s.length = n → PsOk n ps →
    ∃ s' m', prS ps s m = some (s', m') ∧ Seen s m s' m' ∧ (m' = false → ClosedP ps (Tr s)) ∧ (∀ P : Nat → Prop, ClosedP ps P → (∀ j, Tr s j → P j) → ∀ j, Tr s' j → P j)
  | [], s, m, _, _ => ⟨s, m, rfl, Seen.refl _ _, (fun _ p hp => by cases hp), fun _ _ h => h⟩
  | p :: ps, s, m, hl, hr => by
    have hp := hr p List.mem_cons_self
    rw [prS, if_pos (show 0 ≤ p.f0 ∧ p.f0 < (s.length : Int) by rw [hl]; exact hp.1)]
    by_cases h : rdOf false s p.f0 = true
    · rw [if_pos h]
      obtain ⟨s1, m1, e1, q1, t1, f1⟩ := see_ok s m p.f1 (by rw [hl]; exact hp.2)
      obtain ⟨s2, m2, e2, q2, t2, f2⟩ := pr_ok n ps s1 m1 (q1.len.trans hl) (fun y hy => hr y (List.mem_cons_of_mem _ hy))
      refine ⟨s2, m2, by rw [e1]; exact e2, q1.trans q2, fun e y hy => ?_, fun P hP h0 j hj => ?_⟩
      · obtain ⟨e3, e4⟩ := q2.quiet e
        have e5 := (q1.quiet e3).2
        rcases List.mem_cons.1 hy with rfl | hy
        · exact fun _ => f1 e3
        · have := t2 e y hy
          rw [e5] at this
          exact this
      · refine f2 P (fun y hy => hP y (List.mem_cons_of_mem _ hy)) (fun j hj => ?_) j hj
        rcases (t1 j).1 hj with h8 | h8
        · exact h0 j h8
        · rw [h8]; exact hP p List.mem_cons_self (h0 _ h)
    · rw [if_neg h]
      obtain ⟨s2, m2, e2, q2, t2, f2⟩ := pr_ok n ps s m hl (fun y hy => hr y (List.mem_cons_of_mem _ hy))
      refine ⟨s2, m2, e2, q2, fun e y hy => ?_, fun P hP h0 j hj => f2 P (fun y hy => hP y (List.mem_cons_of_mem _ hy)) h0 j hj⟩
      rcases List.mem_cons.1 hy with rfl | hy
      · exact fun h2 => absurd h2 h
      · exact t2 e y hy
def ClosedB (has : List (List Int)) (ps : List S236) (P : Nat → Prop) : Prop := ClosedG has P ∧ ClosedP ps P
theorem fromR_ok (has : List (List Int)) (ps : List S236) (hg : GrOk has) (hp : PsOk has.length ps) : ∀ (N : Nat) (s : List Bool), s.count false ≤ N → s.length = has.length →
    ∃ s', Ev (fun k => fromR has ps k s) s' ∧ s'.length = has.length ∧ (∀ i, Tr s i → Tr s' i) ∧ ClosedB has ps (Tr s') ∧ (∀ P : Nat → Prop, ClosedB has ps P → (∀ i, Tr s i → P i) → ∀ i, Tr s' i → P i) := by
  intro N
  induction N with
  | zero =>
    intro s hN hl
    obtain ⟨s1, m1, e1, q1, t1, f1⟩ := has_ok has hg has.length 0 s false (by omega) hl
    obtain ⟨s2, m2, e2, q2, t2, f2⟩ := pr_ok has.length ps s1 m1 (q1.len.trans hl) hp
    have q := q1.trans q2
    cases m2 with
    | true =>
      rcases q.more rfl with h | h
      · cases h
      · omega
    | false =>
      obtain ⟨e3, e4⟩ := q2.quiet rfl
      have e5 := (q1.quiet e3).2
      subst e4
      subst e5
      refine ⟨s2, Ev.step (f := fun _ => some s2) (fun k => ?_) (Ev.now _), hl, fun _ h => h, ⟨fun i hi => t1 e3 i (Nat.zero_le _) hi, t2 rfl⟩, fun _ _ h => h⟩
      rw [List.drop_zero] at e1
      rw [fromR, show (0 : Int) = ((0 : Nat) : Int) from rfl, e1, Option.bind_some, e2, Option.bind_some, if_neg (by simp)]
  | succ N ih =>
    intro s hN hl
    obtain ⟨s1, m1, e1, q1, t1, f1⟩ := has_ok has hg has.length 0 s false (by omega) hl
    obtain ⟨s2, m2, e2, q2, t2, f2⟩ := pr_ok has.length ps s1 m1 (q1.len.trans hl) hp
    have q := q1.trans q2
    rw [List.drop_zero] at e1
    cases m2 with
    | true =>
      have hlt : s2.count false < s.count false := by
        rcases q.more rfl with h | h
        · cases h
        · exact h
      obtain ⟨s', i1, i2, i3, i4, i5⟩ := ih s2 (by omega) (q.len.trans hl)
      refine ⟨s', Ev.step (f := fun k => fromR has ps k s2) (fun k => ?_) i1, i2, fun i hi => i3 i (q.up i hi), i4, fun P hP h0 => i5 P hP fun i hi => f2 P hP.2 (fun j hj => f1 P hP.1 h0 j hj) i hi⟩
      show fromR has ps (k + 1) s = _
      rw [fromR, show (0 : Int) = ((0 : Nat) : Int) from rfl, e1, Option.bind_some, e2, Option.bind_some, if_pos rfl]
    | false =>
      obtain ⟨e3, e4⟩ := q2.quiet rfl
      have e5 := (q1.quiet e3).2
      subst e4
      subst e5
      refine ⟨s2, Ev.step (f := fun _ => some s2) (fun k => ?_) (Ev.now _), hl, fun _ h => h, ⟨fun i hi => t1 e3 i (Nat.zero_le _) hi, t2 rfl⟩, fun _ _ h => h⟩
      rw [fromR, show (0 : Int) = ((0 : Nat) : Int) from rfl, e1, Option.bind_some, e2, Option.bind_some, if_neg (by simp)]
theorem rfrom_ok (has : List (List Int)) (r0 roots : List Int) (ps : List S236) (hg : GrOk has) (hp : PsOk has.length ps) (hn : has.length < 281474976710656) (hr : ∀ x ∈ roots, InR has.length x) :
    ∃ s, Ev (fun k => backstitchref3_From.f k has r0 roots ps) s ∧ Least has (ClosedB has ps) roots s := by
  obtain ⟨s1, e, h1, h2⟩ := set_ok roots (List.replicate has.length false) (fun x hx => by rw [List.length_replicate]; exact hr x hx)
  obtain ⟨s', i1, i2, i3, i4, i5⟩ := fromR_ok has ps hg hp _ s1 (Nat.le_refl _) (h1.trans (by simp))
  refine ⟨s', ?_, i2, fun x hx => i3 _ ((h2 _).2 (.inr ⟨x, hx, rfl⟩)), i4, fun P hc hP => i5 P hc fun i hi => ?_⟩
  · refine Ev.congr (f := fun k => fromR has ps k s1) (fun k => ?_) i1
    unfold backstitchref3_From.f
    rw [if_pos (by omega), e]
    rfl
  · rcases (h2 i).1 hi with h8 | ⟨x, h8, h9⟩
    · exact absurd h8 (tr_none _ _)
    · rw [← h9]; exact hP x h8
theorem least_nil {has : List (List Int)} {roots : List Int} {s : List Bool} (h : Least has (ClosedB has []) roots s) : Least has (ClosedG has) roots s :=
  ⟨h.len, h.root, h.cl.1, fun P hc hP => h.least P ⟨hc, fun p hp => by cases hp⟩ hP⟩
end Go.Proofs.Ytlojkphocbbjdab.PureEndsTell
