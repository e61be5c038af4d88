/- Words that are values: what the program's Unbox, and the reference's, answer: the same. -/
import Derived.Test.YtlojkphocbbjdaaBHaulTells
namespace Go.Proofs.Ytlojkphocbbjdaa.Pure
open Go.RowKit Go.Proofs.Ytlojkphocbbjdaa.PHaulTells Go.Proofs.YtlojkphocbbjdaaW Go.Proofs.YtlojkphocbbjdaaW.PrintWords Go.Proofs.YtlojkphocbbjdaaW.PrintLast
set_option linter.unusedVariables false
set_option linter.unusedSimpArgs false

/-- The kind by a word's tag, and what stands behind it. -/
def kindS (t : Int) : Int := if t < 65532 then t - 65529 else t - 65528
def numS (k x : Int) : Int := if k = 2 ∧ x ≥ 2147483648 then x - 4294967296 else x
/-- A word's value; none: it is no value's. -/
def unboxS (w : Int) : Option (Int × Int) :=
  if w / 281474976710656 < 65529 ∨ w / 281474976710656 > 65534 then (if oddW w ∧ w ≠ 9221120237041090561 then none else some (3, wrap64 w))
  else if boxS (kindS (w / 281474976710656)) (numS (kindS (w / 281474976710656)) (w % 4294967296)) = (w, 0) then some (kindS (w / 281474976710656), numS (kindS (w / 281474976710656)) (w % 4294967296)) else none
def outS : Option (Int × Int) → Int × Int × Int
  | some (k, n) => (k, n, 0)
  | none => (0, 0, 3)
def routS : Option (Int × Int) → Int × Int × Bool
  | some (k, n) => (k, n, true)
  | none => (0, 0, false)

theorem again_eq (k x w : Int) (hx : 0 ≤ x) (hx2 : x < 4294967296) : Ev (fun j => (nanbox_Box.f j k (numS k x)).bind fun b => if b.2 = 0 then (if b.1 = w then some (k, numS k x, (0 : Int)) else some (0, 0, 3)) else some (0, 0, 3))
    (outS (if boxS k (numS k x) = (w, 0) then some (k, numS k x) else none)) := by
  refine Ev.bind (box_ev k (numS k x) (by unfold numS; split <;> omega)) ?_
  by_cases h : boxS k (numS k x) = (w, 0)
  · rw [h]
    exact Pur.ev_some (fun _ => by simp [outS])
  · rw [if_neg h]
    refine Pur.ev_some (fun _ => ?_)
    by_cases h2 : (boxS k (numS k x)).2 = 0
    · have h1 : (boxS k (numS k x)).1 ≠ w := fun e => h (Prod.ext e h2)
      rw [if_pos h2, if_neg h1]
      rfl
    · rw [if_neg h2]
      rfl
theorem wrap32_eq (x : Int) (h0 : 0 ≤ x) (h1 : x < 4294967296) : wrap64 (wrap32 x) = numS 2 x := by
  unfold numS wrap64 wrap32
  split <;> omega
theorem unbox_ev (w : Int) (h0 : 0 ≤ w) (h1 : w < 18446744073709551616) : Ev (fun k => nanbox_Unbox.f k w) (outS (unboxS w)) := by
  have hs := spoilt_eq w h0 h1
  unfold unboxS
  by_cases ht : w / 281474976710656 < 65529 ∨ w / 281474976710656 > 65534
  · rw [if_pos ht]
    have hf : ∀ k, nanbox_Unbox.f k w = nanbox_Unbox.j0 k w true := by
      intro k
      unfold nanbox_Unbox.f
      by_cases h : w / 281474976710656 < 65529
      · rw [if_pos h]
      · rw [if_neg h, decide_eq_true (by omega)]
    refine ⟨1, fun k hk => ?_⟩
    obtain ⟨m, rfl⟩ : ∃ m, k = m + 1 := ⟨k - 1, by omega⟩
    show nanbox_Unbox.f (m + 1) w = _
    rw [hf]
    by_cases ho : oddW w
    · rw [decide_eq_true ho] at hs
      by_cases he : w = 9221120237041090561
      · subst he
        simp [nanbox_Unbox.j0, hs, outS]
      · simp [nanbox_Unbox.j0, hs, he, ho, outS]
    · rw [decide_eq_false ho] at hs
      simp [nanbox_Unbox.j0, hs, ho, outS]
  · rw [if_neg ht]
    have hx0 : 0 ≤ w % 4294967296 := Int.emod_nonneg _ (by decide)
    have hx1 : w % 4294967296 < 4294967296 := Int.emod_lt_of_pos _ (by decide)
    generalize hk : kindS (w / 281474976710656) = kd
    have hkd : kd ≠ 2 → numS kd (w % 4294967296) = w % 4294967296 := fun h => by unfold numS; rw [if_neg (fun hq => h hq.1)]
    have hj1 : ∀ k, nanbox_Unbox.j1 (k + 1) w kd (w % 4294967296) = (nanbox_Box.f k kd (numS kd (w % 4294967296))).bind fun b => if b.2 = 0 then (if b.1 = w then some (kd, numS kd (w % 4294967296), (0 : Int)) else some (0, 0, 3)) else some (0, 0, 3) := by
      intro k
      by_cases h2 : kd = 2
      · subst h2
        simp only [nanbox_Unbox.j1, if_true, wrap32_eq _ hx0 hx1]
      · simp only [nanbox_Unbox.j1, if_neg h2, hkd h2]
    have hf : ∀ k, nanbox_Unbox.f (k + 2) w = nanbox_Unbox.j1 (k + 1) w kd (w % 4294967296) := by
      intro k
      have e1 : wrap64 (wrap64 (w / 281474976710656) - 65529) = w / 281474976710656 - 65529 := by unfold wrap64; omega
      have e2 : wrap64 (w / 281474976710656 - 65529 + 1) = w / 281474976710656 - 65528 := by unfold wrap64; omega
      simp only [nanbox_Unbox.f, if_neg (show ¬ w / 281474976710656 < 65529 by omega), decide_eq_false (show ¬ w / 281474976710656 > 65534 by omega), nanbox_Unbox.j0, Bool.false_eq_true, if_false, e1, e2]
      unfold kindS at hk
      split
      · rename_i hq
        rw [if_neg (by omega)] at hk
        rw [hk]
      · rename_i hq
        rw [if_pos (by omega)] at hk
        rw [hk]
    obtain ⟨K, hK⟩ := again_eq kd (w % 4294967296) w hx0 hx1
    refine ⟨K + 2, fun k hk2 => ?_⟩
    obtain ⟨m, rfl⟩ : ∃ m, k = m + 2 := ⟨k - 2, by omega⟩
    show nanbox_Unbox.f (m + 2) w = _
    rw [hf, hj1]
    exact hK m (by omega)

/-- A value by a list of kinds. -/
def stepS (w k : Int) (a : Int × Int) : Int × Int :=
  if w / 281474976710656 = tagS k then (k, numS k (w % 281474976710656)) else a
theorem runbox_loop (w : Int) (h0 : 0 ≤ w) (h1 : w < 18446744073709551616) (l : List Int) (hl : l.length < 100) (hm : ∀ k ∈ l, 0 ≤ k ∧ k ≤ 6 ∧ k ≠ 3) (r : Int × Int × Bool) (v : Int × Int)
    (hend : Ev (fun k => (backstitchref3_Box.f k v.1 v.2).bind fun b => if b.2 = 0 then (if b.1 = w then some (v.1, v.2, true) else some (0, 0, false)) else some (0, 0, false)) r) (d : Nat) :
    ∀ (i : Nat) (a : Int × Int), i + d = l.length → (l.drop i).foldl (fun a k => stepS w k a) a = v → Ev (fun k => backstitchref3_Unbox.l0 k w l l.length i a.1 a.2) r := by
  induction d with
  | zero =>
    intro i a hi ha
    rw [List.drop_eq_nil_of_le (by omega)] at ha
    simp only [List.foldl_nil] at ha
    subst ha
    refine Ev.step (fun k => ?_) hend
    simp only [backstitchref3_Unbox.l0]
    rw [if_neg (by omega)]
  | succ d ih =>
    intro i a hi ha
    rw [Pur.drop_cons l i (by omega) 0, List.foldl_cons] at ha
    have e : rd l (i : Int) = l.getD i 0 := rfl
    have hmem : l.getD i 0 ∈ l := by
      rw [List.getD_eq_getElem?_getD, List.getElem?_eq_getElem (by omega)]
      exact List.getElem_mem _
    obtain ⟨k0, k6, k3⟩ := hm _ hmem
    generalize hs : l.getD i 0 = s at *
    refine Ev.step (fun k => ?_) (ih (i + 1) (stepS w s a) (by omega) ha)
    simp only [backstitchref3_Unbox.l0]
    have et : wrap64 (Int.tmod w 281474976710656) = w % 281474976710656 := by
      rw [Int.tmod_eq_emod_of_nonneg h0]
      unfold wrap64
      omega
    rw [if_pos (by omega), if_pos (by omega), if_pos (by omega), e, rtag_eq s k0 k6 k3, Pur.wrap_succ (by omega), et]
    simp only [Option.bind_some]
    unfold stepS numS
    by_cases ht : w / 281474976710656 = tagS s
    · rw [if_pos ht, if_pos ht]
      by_cases h2 : s = 2
      · rw [if_pos h2]
        by_cases h3 : w % 281474976710656 ≥ 2147483648
        · rw [if_pos h3, if_pos ⟨h2, h3⟩]
          have : wrap64 (w % 281474976710656 - 4294967296) = w % 281474976710656 - 4294967296 := by unfold wrap64; omega
          rw [this]
        · rw [if_neg h3, if_neg (fun hq => h3 hq.2)]
      · rw [if_neg h2, if_neg (fun hq => h2 hq.1)]
    · rw [if_neg ht, if_neg ht]
theorem runbox_ev (w : Int) (h0 : 0 ≤ w) (h1 : w < 18446744073709551616) : Ev (fun k => backstitchref3_Unbox.f k w) (routS (unboxS w)) := by
  have hw : wrap64 w % 18446744073709551616 = w := by unfold wrap64; omega
  unfold backstitchref3_Unbox.f
  simp only [Option.bind_some]
  refine runbox_loop w h0 h1 [0, 1, 2, 4, 5, 6] (by decide) (by decide) _ ([0, 1, 2, 4, 5, 6].foldl (fun a k => stepS w k a) (3, wrap64 w)) ?_ 6 0 (3, wrap64 w) rfl rfl
  have hx0 : 0 ≤ w % 281474976710656 := Int.emod_nonneg _ (by decide)
  have hx1 : w % 281474976710656 < 281474976710656 := Int.emod_lt_of_pos _ (by decide)
  unfold unboxS
  by_cases ht : w / 281474976710656 < 65529 ∨ w / 281474976710656 > 65534
  · have hv : [0, 1, 2, 4, 5, 6].foldl (fun a k => stepS w k a) (3, wrap64 w) = (3, wrap64 w) := by
      have hno : ∀ k, 0 ≤ k → k ≤ 6 → k ≠ 3 → ∀ a, stepS w k a = a := fun k a0 a6 a3 a => by
        unfold stepS
        rw [if_neg]
        unfold tagS
        split <;> omega
      simp [List.foldl, hno]
    rw [hv, if_pos ht]
    refine Ev.bind (rbox_ev 3 (wrap64 w) (by unfold wrap64; omega)) ?_
    have hb : boxS 3 (wrap64 w) = (if oddW w then (9221120237041090561, 0) else (w, 0)) := by
      unfold boxS
      rw [hw]
      simp
    rw [hb]
    refine Pur.ev_some (fun _ => ?_)
    by_cases ho : oddW w
    · by_cases he : w = 9221120237041090561
      · simp [ho, he, routS]
      · have he2 : ¬ (9221120237041090561 = w) := fun h => he h.symm
        simp [ho, he, he2, routS]
    · simp [ho, routS]
  · rw [if_neg ht]
    generalize hk : kindS (w / 281474976710656) = kd
    have hkd : 0 ≤ kd ∧ kd ≤ 6 ∧ kd ≠ 3 ∧ w / 281474976710656 = tagS kd := by
      unfold kindS at hk
      unfold tagS
      split at hk <;> (subst hk; refine ⟨by omega, by omega, by omega, ?_⟩; split <;> omega)
    obtain ⟨c0, c6, c3, ct⟩ := hkd
    have hv : [0, 1, 2, 4, 5, 6].foldl (fun a k => stepS w k a) (3, wrap64 w) = (kd, numS kd (w % 281474976710656)) := by
      have hno : ∀ k, k ≠ kd → 0 ≤ k → k ≤ 6 → k ≠ 3 → ∀ a, stepS w k a = a := fun k hne a0 a6 a3 a => by
        unfold stepS
        rw [if_neg]
        rw [ct]
        unfold tagS
        split <;> split <;> omega
      have hyes : ∀ a, stepS w kd a = (kd, numS kd (w % 281474976710656)) := fun a => by
        unfold stepS
        rw [if_pos ct]
      obtain rfl | rfl | rfl | rfl | rfl | rfl : kd = 0 ∨ kd = 1 ∨ kd = 2 ∨ kd = 4 ∨ kd = 5 ∨ kd = 6 := by omega
      all_goals simp only [List.foldl_cons, List.foldl_nil, hyes]
      · rw [hno 6 (by decide) (by decide) (by decide) (by decide), hno 5 (by decide) (by decide) (by decide) (by decide), hno 4 (by decide) (by decide) (by decide) (by decide), hno 2 (by decide) (by decide) (by decide) (by decide), hno 1 (by decide) (by decide) (by decide) (by decide)]
      · rw [hno 6 (by decide) (by decide) (by decide) (by decide), hno 5 (by decide) (by decide) (by decide) (by decide), hno 4 (by decide) (by decide) (by decide) (by decide), hno 2 (by decide) (by decide) (by decide) (by decide)]
      · rw [hno 6 (by decide) (by decide) (by decide) (by decide), hno 5 (by decide) (by decide) (by decide) (by decide), hno 4 (by decide) (by decide) (by decide) (by decide)]
      · rw [hno 6 (by decide) (by decide) (by decide) (by decide), hno 5 (by decide) (by decide) (by decide) (by decide)]
      · rw [hno 6 (by decide) (by decide) (by decide) (by decide)]
    rw [hv]
    refine Ev.bind (rbox_ev _ _ (by dsimp only; unfold numS; split <;> omega)) ?_
    refine Pur.ev_some (fun _ => ?_)
    dsimp only
    -- the two numbers: by 48 bits, and by 32
    have hdm := Int.emod_add_mul_ediv w 281474976710656
    have hmod : ∀ x, numS kd x % 4294967296 = x % 4294967296 := fun x => by unfold numS; split <;> omega
    have hin : ∀ x, boxS kd (numS kd x) = (w, 0) → x % 4294967296 = w % 281474976710656 := fun x h => by
      unfold boxS at h
      rw [if_neg (by omega), if_neg c3, hmod] at h
      split at h
      · simp at h
      · have := (Prod.mk.inj h).1
        omega
    have key : (boxS kd (numS kd (w % 281474976710656)) = (w, 0)) ↔ (boxS kd (numS kd (w % 4294967296)) = (w, 0)) := by
      constructor
      · intro h
        have h1 := hin _ h
        have he : w % 4294967296 = w % 281474976710656 := by omega
        rw [he]
        exact h
      · intro h
        have h1 := hin _ h
        have he : w % 281474976710656 = w % 4294967296 := by omega
        rw [he]
        exact h
    by_cases hb : boxS kd (numS kd (w % 281474976710656)) = (w, 0)
    · have hb2 := key.1 hb
      rw [if_pos hb2, hb]
      simp only [if_true, routS]
      congr 2
      have h1 := hin _ hb
      have he : w % 4294967296 = w % 281474976710656 := by omega
      rw [he]
    · rw [if_neg (fun h => hb (key.2 h))]
      by_cases h2 : (boxS kd (numS kd (w % 281474976710656))).2 = 0
      · have h1 : (boxS kd (numS kd (w % 281474976710656))).1 ≠ w := fun e => hb (Prod.ext e h2)
        rw [if_pos h2, if_neg h1]
        rfl
      · rw [if_neg h2]
        rfl
end Go.Proofs.Ytlojkphocbbjdaa.Pure
