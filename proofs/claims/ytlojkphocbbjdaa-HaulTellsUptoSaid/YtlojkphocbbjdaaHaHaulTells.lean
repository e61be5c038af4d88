/- HaulTells, the first part: the heap's fault: the program's Check and the reference's HeapFault answer the same number. -/
import Derived.Test.YtlojkphocbbjdaaUHaulTells
namespace Go.Proofs.Ytlojkphocbbjdaa.Pure
open Go.RowKit Go.Proofs.Ytlojkphocbbjdaa.PHaulTells Go.Proofs.YtlojkphocbbjdaaW Go.Proofs.YtlojkphocbbjdaaW.PrintWords Go.Proofs.YtlojkphocbbjdaaW.PrintLast
set_option linter.unusedVariables false
set_option linter.unusedSimpArgs false

/-- The place that a word tells. -/
def refS (w : Int) : Option Int := match unboxS w with | some v => if v.1 = 5 then some v.2 else none | none => none
theorem ref_unbox {w n : Int} (h : refS w = some n) : unboxS w = some (5, n) := by
  unfold refS at h
  split at h
  · rename_i v hv
    split at h
    · rename_i h5
      injection h with h
      rw [hv, ← h, ← h5]
    · cases h
  · cases h
theorem unbox_kind {w k n : Int} (h : unboxS w = some (k, n)) : 0 ≤ k ∧ (k = 5 → 0 ≤ n ∧ n ≤ 4294967295) := by
  unfold unboxS at h
  split at h
  · split at h
    · cases h
    · simp only [Option.some.injEq, Prod.mk.injEq] at h
      obtain ⟨rfl, rfl⟩ := h
      exact ⟨by omega, by omega⟩
  · rename_i ht
    split at h
    · rename_i hb
      simp only [Option.some.injEq, Prod.mk.injEq] at h
      obtain ⟨hk, hn⟩ := h
      refine ⟨by unfold kindS at hk; split at hk <;> omega, fun h5 => ?_⟩
      rw [hk, h5] at hb hn
      unfold numS at hb hn
      rw [if_neg (by omega)] at hb hn
      rw [hn] at hb
      unfold boxS at hb
      rw [if_neg (by omega), if_neg (by omega)] at hb
      split at hb
      · have := (Prod.mk.inj hb).2
        omega
      · rename_i hr
        unfold loS hiS at hr
        simp only [show ¬ ((5 : Int) = 2) by decide, show ¬ ((5 : Int) = 0) by decide, show ¬ ((5 : Int) = 1) by decide, if_false] at hr
        omega
    · cases h
theorem ref_bounds {w n : Int} (h : refS w = some n) : 0 ≤ n ∧ n ≤ 4294967295 := (unbox_kind (ref_unbox h)).2 rfl
theorem ref_none {w : Int} {v : Int × Int} (hu : unboxS w = some v) (h5 : ¬ v.1 = 5) : refS w = none := by
  unfold refS
  rw [hu]
  exact if_neg h5
def wordB (w : Int) : Prop := 0 ≤ w ∧ w < 18446744073709551616
theorem kind_ev (w : Int) (hw : wordB w) : Ev (fun k => nanbox_Kind.f k w) (match unboxS w with | some v => v.1 | none => -1) := by
  unfold nanbox_Kind.f
  refine Ev.bind (unbox_ev w hw.1 hw.2) ?_
  cases unboxS w with
  | none => exact Pur.ev_some (fun _ => rfl)
  | some v => exact Pur.ev_some (fun _ => rfl)
theorem place_ev (w : Int) (hw : wordB w) : Ev (fun k => haul_place.f k w) (match unboxS w with | some v => (v.2, v.1 == 5) | none => (0, false)) := by
  unfold haul_place.f
  refine Ev.bind (unbox_ev w hw.1 hw.2) ?_
  cases unboxS w with
  | none => exact Pur.ev_some (fun _ => rfl)
  | some v => exact Pur.ev_some (fun _ => rfl)
/-- Is a word right, by a set of places? -/
def rightS (s : Int → Bool) (w : Int) : Bool := match unboxS w with | some v => if v.1 = 5 then s v.2 else true | none => false
theorem wf_small {n : Int} (h0 : 0 ≤ n) (h1 : n ≤ 4294967295) : (Lit.int .i64 n).wf = true := by
  simp [Lit.wf, IntKind.min, IntKind.max, IntKind.signed, IntKind.bits]
  omega
theorem right_ev (s : Int → Bool) (w : Int) (hw : wordB w) : Ev (fun k => haul_right.f k s w) (rightS s w) := by
  unfold haul_right.f
  refine Ev.bind (kind_ev w hw) ?_
  unfold rightS
  rcases hu : unboxS w with _ | ⟨a, n⟩
  · exact Pur.ev_some (fun _ => rfl)
  · have hk := unbox_kind hu
    have hp := place_ev w hw
    rw [hu] at hp
    simp only [if_neg (show ¬ a < 0 by have := hk.1; omega)]
    refine Ev.bind hp ?_
    by_cases h5 : a = 5
    · subst h5
      obtain ⟨b0, b1⟩ := hk.2 rfl
      refine Pur.ev_some (fun _ => ?_)
      show (if (5 : Int) == 5 then (if (Lit.int .i64 n).wf = true then some (s n) else none) else some true) = some (if (5 : Int) = 5 then s n else true)
      rw [if_pos (by decide), if_pos (wf_small b0 b1), if_pos rfl]
    · refine Pur.ev_some (fun _ => ?_)
      have : (a == 5) = false := beq_eq_false_iff_ne.mpr h5
      show (if (a == 5) = true then (if (Lit.int .i64 n).wf = true then some (s n) else none) else some true) = some (if a = 5 then s n else true)
      rw [this, if_neg (by decide), if_neg h5]
theorem has_l0 (x : Int) (l : List Int) (hl : l.length < 4611686018427387904) : ∀ (d i : Nat), i + d = l.length → Ev (fun k => backstitchref3_Has_int.l0 k x l l.length i) (decide (x ∈ l.drop i))
  | 0, i, hi => by
    rw [List.drop_eq_nil_of_le (by omega)]
    refine Ev.step (f := fun _ => some _) (fun k => ?_) (Ev.now _)
    show backstitchref3_Has_int.l0 (k + 1) x l l.length i = _
    rw [backstitchref3_Has_int.l0, if_neg (by omega)]
    simp
  | d + 1, i, hi => by
    have hlt : i < l.length := by omega
    rw [Pur.drop_cons l i hlt 0]
    have ex : rd l (i : Int) = l.getD i 0 := rfl
    by_cases h : x = l.getD i 0
    · refine Ev.step (f := fun _ => some true) (fun k => ?_) ?_
      · show backstitchref3_Has_int.l0 (k + 1) x l l.length i = _
        rw [backstitchref3_Has_int.l0, if_pos (by omega), if_pos (by omega), if_pos (by omega), ex, if_pos h]
      · rw [show decide (x ∈ l.getD i 0 :: l.drop (i + 1)) = true from decide_eq_true (by rw [← h]; exact List.mem_cons_self)]
        exact Ev.now _
    · rw [show decide (x ∈ l.getD i 0 :: l.drop (i + 1)) = decide (x ∈ l.drop (i + 1)) by simp only [List.mem_cons, h, false_or]]
      refine Ev.step (f := fun k => backstitchref3_Has_int.l0 k x l l.length ((i + 1 : Nat) : Int)) (fun k => ?_) (has_l0 x l hl d (i + 1) (by omega))
      show backstitchref3_Has_int.l0 (k + 1) x l l.length i = _
      rw [backstitchref3_Has_int.l0, if_pos (by omega), if_pos (by omega), if_pos (by omega), ex, if_neg h, Pur.wrap_succ (by omega)]
theorem has_ev (l : List Int) (x : Int) (hl : l.length < 4611686018427387904) : Ev (fun k => backstitchref3_Has_int.f k l x) (setF l x) := has_l0 x l hl l.length 0 (by omega)
theorem fits_ev (P : List Int) (hP : P.length < 4611686018427387904) (w : Int) (hw : wordB w) : Ev (fun k => backstitchref3_wordFits.f k w P) (rightS (setF P) w) := by
  unfold backstitchref3_wordFits.f
  refine Ev.bind (runbox_ev w hw.1 hw.2) ?_
  unfold rightS
  rcases hu : unboxS w with _ | ⟨a, n⟩
  · exact Pur.ev_some (fun _ => rfl)
  · show Ev (fun k => if a = 5 then (backstitchref3_Has_int.f k P n).bind fun t => some t else some true) (if a = 5 then setF P n else true)
    by_cases h5 : a = 5
    · rw [if_pos h5]
      exact Ev.congr (fun k => if_pos h5) (Ev.bind (has_ev P n hP) (Ev.now _))
    · rw [if_neg h5]
      exact Ev.congr (fun k => if_neg h5) (Ev.now _)

/-! the places -/
def lnS (l : List Int) (a : Nat) : Nat := (l.getD a 0 % 4294967296).toNat
def Objs (l : List Int) : Nat → List Int → Prop
  | a, [] => a = l.length
  | a, x :: r => x = (a : Int) ∧ a + 1 + lnS l a ≤ l.length ∧ Objs l (a + 1 + lnS l a) r
theorem ln_cast (l : List Int) (a : Nat) : ((lnS l a : Nat) : Int) = l.getD a 0 % 4294967296 := Int.toNat_of_nonneg (Int.emod_nonneg _ (by decide))
theorem ln_lt (l : List Int) (a : Nat) : lnS l a < 4294967296 := by
  have h := ln_cast l a
  have := Int.emod_lt_of_pos (l.getD a 0) (show (0 : Int) < 4294967296 by decide)
  omega
theorem getD_word {l : List Int} (hw : ∀ z ∈ l, wordB z) (a : Nat) : wordB (l.getD a 0) := by
  rw [List.getD_eq_getElem?_getD]
  rcases h : l[a]? with _ | z
  · exact ⟨by simp, by simp⟩
  · exact hw z (List.mem_of_getElem? h)
theorem tmod_ln {l : List Int} (hw : ∀ z ∈ l, wordB z) (a : Nat) : wrap64 (Int.tmod (l.getD a 0) 4294967296) = (lnS l a : Int) := by
  rw [Int.tmod_eq_emod_of_nonneg (getD_word hw a).1, ← ln_cast]
  have := ln_lt l a
  unfold wrap64
  omega
theorem objs_ev (l : List Int) (hl : l.length ≤ 2000) (hw : ∀ z ∈ l, wordB z) : ∀ (d a : Nat) (acc : List Int), l.length ≤ a + d → a ≤ l.length → acc.length ≤ a →
    ∃ (r : List Int) (b : Bool), Ev (fun k => haul_objects.l0 k l acc a) (r, b) ∧ Ev (fun k => backstitchref3_Places.l0 k l acc a) (if b = true then (r, true) else ([], false)) ∧ (b = true → ∃ t, r = acc ++ t ∧ Objs l a t)
  | d, a, acc, hd, ha, hacc => by
    by_cases hlt : a < l.length
    · have ex : rd l (a : Int) = l.getD a 0 := rfl
      have hln := ln_lt l a
      have hlc := ln_cast l a
      have hlf : haul_long.f (rd l (a : Int)) = some (lnS l a : Int) := by rw [ex, hlc]; rfl
      have hwr : wrap64 ((a : Int) + wrap64 (1 + (lnS l a : Int))) = ((a + 1 + lnS l a : Nat) : Int) := by unfold wrap64; omega
      have hwr2 : wrap64 ((a : Int) + (lnS l a : Int)) = ((a + lnS l a : Nat) : Int) := by unfold wrap64; omega
      have so : ∀ k, haul_objects.l0 (k + 1) l acc a = haul_objects.l0 k l (acc ++ [(a : Int)]) ((a + 1 + lnS l a : Nat) : Int) := fun k => by
        rw [haul_objects.l0, if_pos (by omega), if_pos (by omega), if_pos (by omega), hlf, Option.bind_some, hwr]
      by_cases hn : a + 1 + lnS l a ≤ l.length
      · cases d with
        | zero => omega
        | succ d =>
          obtain ⟨r, b, h1, h2, h3⟩ := objs_ev l hl hw d (a + 1 + lnS l a) (acc ++ [(a : Int)]) (by omega) hn (by simp; omega)
          refine ⟨r, b, Ev.step so h1, Ev.step (fun k => ?_) h2, fun hb => ?_⟩
          · rw [backstitchref3_Places.l0, if_pos (by omega), if_pos (by omega), if_pos (by omega), ex, tmod_ln hw, hwr2, if_neg (by omega), hwr]
          · obtain ⟨t, ht, ho⟩ := h3 hb
            exact ⟨(a : Int) :: t, by rw [ht, List.append_assoc]; rfl, rfl, hn, ho⟩
      · refine ⟨acc ++ [(a : Int)], false, Ev.step so (Ev.step (f := fun _ => some _) (fun k => ?_) (Ev.now _)), Ev.step (f := fun _ => some _) (fun k => ?_) (Ev.now _), fun hb => by cases hb⟩
        · rw [haul_objects.l0, if_neg (by omega)]
          congr 2
          exact beq_eq_false_iff_ne.mpr (by omega)
        · rw [backstitchref3_Places.l0, if_pos (by omega), if_pos (by omega), if_pos (by omega), ex, tmod_ln hw, hwr2, if_pos (by omega)]
          rfl
    · obtain rfl : a = l.length := by omega
      refine ⟨acc, true, Ev.step (f := fun _ => some _) (fun k => ?_) (Ev.now _), Ev.step (f := fun _ => some _) (fun k => ?_) (Ev.now _), fun _ => ⟨[], (List.append_nil _).symm, rfl⟩⟩
      · rw [haul_objects.l0, if_neg (by omega)]
        congr 2
        exact beq_iff_eq.mpr rfl
      · rw [backstitchref3_Places.l0, if_neg (by omega)]
        rfl
theorem objs_mem {l : List Int} : ∀ {r : List Int} {a : Nat}, Objs l a r → ∀ x ∈ r, ∃ n : Nat, x = (n : Int) ∧ a ≤ n ∧ n + 1 + lnS l n ≤ l.length
  | [], a, _, x, hx => by simp at hx
  | y :: r, a, ⟨h1, h2, h3⟩, x, hx => by
    rcases List.mem_cons.1 hx with rfl | hx
    · exact ⟨a, h1, Nat.le_refl _, h2⟩
    · obtain ⟨n, e, hn, hl⟩ := objs_mem h3 x hx
      exact ⟨n, e, by omega, hl⟩
theorem objs_gap {l : List Int} : ∀ {r : List Int} {a : Nat}, Objs l a r → ∀ x y : Nat, (x : Int) ∈ r → (y : Int) ∈ r → x < y → x + 1 + lnS l x ≤ y
  | [], a, _, x, y, hx, _, _ => by simp at hx
  | z :: r, a, ⟨h1, h2, h3⟩, x, y, hx, hy, hlt => by
    subst h1
    rcases List.mem_cons.1 hx with h | hx2 <;> rcases List.mem_cons.1 hy with g | hy2
    · omega
    · obtain ⟨n, e, hn, _⟩ := objs_mem h3 _ hy2
      obtain rfl : x = a := by omega
      omega
    · obtain ⟨n, e, hn, _⟩ := objs_mem h3 _ hx2
      obtain rfl : y = a := by omega
      omega
    · exact objs_gap h3 x y hx2 hy2 hlt
theorem objs_len {l : List Int} : ∀ {r : List Int} {a : Nat}, Objs l a r → a + r.length ≤ l.length
  | [], a, h => by
    have : a = l.length := h
    simp
    omega
  | y :: r, a, ⟨h1, h2, h3⟩ => by
    have := objs_len h3
    rw [List.length_cons]
    omega

/-! the fault -/
def ckS (s : Int → Bool) : Nat → List Int → Bool
  | _, [] => true
  | i, x :: l => (s i || rightS s x) && ckS s (i + 1) l
theorem ck_ev (s : Int → Bool) : ∀ (l : List Int) (i : Nat), (∀ z ∈ l, wordB z) → Ev (fun k => haul_Check.ck k s i l) (ckS s i l)
  | [], i, _ => Ev.now _
  | x :: l, i, hw => by
    have ih := ck_ev s l (i + 1) (fun z hz => hw z (List.mem_cons_of_mem _ hz))
    rw [Int.natCast_add] at ih
    unfold haul_Check.ck
    rw [ckS]
    by_cases hs : s i = true
    · simp only [if_pos hs, hs, Bool.true_or, Bool.true_and]
      exact ih
    · rw [Bool.eq_false_iff.2 hs, Bool.false_or]
      simp only [Bool.false_eq_true, if_false]
      refine Ev.bind (right_ev s x (hw x List.mem_cons_self)) ?_
      cases rightS s x with
      | true => simpa using ih
      | false => exact Ev.now _
theorem cr_ev (s : Int → Bool) : ∀ (l : List Int), (∀ z ∈ l, wordB z) → Ev (fun k => haul_Check.cr k s l) (l.all (rightS s))
  | [], _ => Ev.now _
  | x :: l, hw => by
    have ih := cr_ev s l (fun z hz => hw z (List.mem_cons_of_mem _ hz))
    unfold haul_Check.cr
    rw [List.all_cons]
    refine Ev.bind (right_ev s x (hw x List.mem_cons_self)) ?_
    cases rightS s x with
    | true => simpa using ih
    | false => exact Ev.now _
def endS (P roots : List Int) : Int := if roots.all (rightS (setF P)) = true then 0 else 3
def bodyS (P words roots : List Int) : Int := if ckS (setF P) 0 words = true then endS P roots else 3
theorem hf1_ev (P roots : List Int) (hP : P.length < 4611686018427387904) (hr : roots.length ≤ 100) (hw : ∀ z ∈ roots, wordB z) : ∀ (d i : Nat), i + d = roots.length → Ev (fun k => backstitchref3_HeapFault.l1 k P roots roots.length i) (endS P (roots.drop i))
  | 0, i, hi => by
    rw [List.drop_eq_nil_of_le (by omega)]
    refine Ev.step (f := fun _ => some _) (fun k => ?_) (Ev.now _)
    show backstitchref3_HeapFault.l1 (k + 1) P roots roots.length i = _
    rw [backstitchref3_HeapFault.l1, if_neg (by omega)]
    rfl
  | d + 1, i, hi => by
    have hlt : i < roots.length := by omega
    have ex : rd roots (i : Int) = roots.getD i 0 := rfl
    rw [Pur.drop_cons roots i hlt 0]
    refine Ev.step (f := fun k => (backstitchref3_wordFits.f k (roots.getD i 0) P).bind fun t => if t = true then backstitchref3_HeapFault.l1 k P roots roots.length ((i + 1 : Nat) : Int) else some 3) (fun k => ?_) ?_
    · show backstitchref3_HeapFault.l1 (k + 1) P roots roots.length i = _
      rw [backstitchref3_HeapFault.l1, if_pos (by omega), if_pos (by omega), if_pos (by omega), ex, Pur.wrap_succ (by omega)]
    · refine Ev.bind (fits_ev P hP _ (getD_word hw i)) ?_
      have ih := hf1_ev P roots hP hr hw d (i + 1) (by omega)
      unfold endS at ih ⊢
      rw [List.all_cons]
      cases rightS (setF P) (roots.getD i 0) with
      | true => simpa using ih
      | false => exact Ev.now _
theorem hf0_ev (P words roots : List Int) (hP : P.length < 4611686018427387904) (hl : words.length ≤ 2000) (hr : roots.length ≤ 100) (hw : ∀ z ∈ words, wordB z) (hv : ∀ z ∈ roots, wordB z) : ∀ (d i : Nat), i + d = words.length →
    Ev (fun k => backstitchref3_HeapFault.l0 k P words words.length i words roots) (if ckS (setF P) i (words.drop i) = true then endS P roots else 3)
  | 0, i, hi => by
    rw [List.drop_eq_nil_of_le (by omega)]
    have h1 := hf1_ev P roots hP hr hv roots.length 0 (by omega)
    rw [List.drop_zero] at h1
    refine Ev.step (f := fun k => backstitchref3_HeapFault.l1 k P roots roots.length 0) (fun k => ?_) h1
    show backstitchref3_HeapFault.l0 (k + 1) P words words.length i words roots = _
    rw [backstitchref3_HeapFault.l0, if_neg (by omega)]
  | d + 1, i, hi => by
    have hlt : i < words.length := by omega
    have ex : rd words (i : Int) = words.getD i 0 := rfl
    rw [Pur.drop_cons words i hlt 0, ckS]
    have ih := hf0_ev P words roots hP hl hr hw hv d (i + 1) (by omega)
    refine Ev.step (f := fun k => (backstitchref3_Has_int.f k P (i : Int)).bind fun t => if t = true then backstitchref3_HeapFault.l0 k P words words.length ((i + 1 : Nat) : Int) words roots else (backstitchref3_wordFits.f k (words.getD i 0) P).bind fun t => if t = true then backstitchref3_HeapFault.l0 k P words words.length ((i + 1 : Nat) : Int) words roots else some 3) (fun k => ?_) ?_
    · show backstitchref3_HeapFault.l0 (k + 1) P words words.length i words roots = _
      rw [backstitchref3_HeapFault.l0, if_pos (by omega), if_pos (by omega), if_pos (by omega), ex, Pur.wrap_succ (by omega)]
    · refine Ev.bind (has_ev P i hP) ?_
      cases setF P i with
      | true => simpa using ih
      | false =>
        simp only [Bool.false_eq_true, if_false, Bool.false_or]
        refine Ev.bind (fits_ev P hP _ (getD_word hw i)) ?_
        cases rightS (setF P) (words.getD i 0) with
        | true => simpa using ih
        | false => exact Ev.now _
theorem large_ev (words roots : List Int) (h : 2000 < words.length ∨ 100 < roots.length) : Ev (fun k => haul_Check.f k words roots) 2 ∧ Ev (fun k => backstitchref3_HeapFault.f k words roots) 2 := by
  refine ⟨Pur.ev_some (fun k => ?_), ?_⟩
  · unfold haul_Check.f
    rcases h with h | h
    · rw [if_pos h]
    · rw [if_pos h]
      split <;> rfl
  · unfold backstitchref3_HeapFault.f
    by_cases h1 : (words.length : Int) > 2000
    · simp only [if_pos h1]
      refine Ev.step (f := fun _ => some _) (fun k => ?_) (Ev.now _)
      rw [backstitchref3_HeapFault.j0, if_pos rfl]
    · simp only [if_neg h1]
      refine Ev.step (f := fun _ => some _) (fun k => ?_) (Ev.now _)
      rw [backstitchref3_HeapFault.j0, if_pos (decide_eq_true (by omega))]
theorem wfk_of {l : List Int} (hl : l.length ≤ 2000) {r : List Int} {a : Nat} (h : Objs l a r) : r.all wfK = true := by
  rw [List.all_eq_true]
  intro x hx
  obtain ⟨n, e, hn, hle⟩ := objs_mem h x hx
  subst e
  exact wf_small (by omega) (by omega)
/-- The fault of a heap that is not too large, and its places where it has none. -/
theorem fault_ev (words roots : List Int) (hl : words.length ≤ 2000) (hr : roots.length ≤ 100) (hw : ∀ z ∈ words, wordB z) (hv : ∀ z ∈ roots, wordB z) :
    ∃ e : Int, Ev (fun k => haul_Check.f k words roots) e ∧ Ev (fun k => backstitchref3_HeapFault.f k words roots) e ∧
      (e = 0 → ∃ P : List Int, Ev (fun k => haul_objects.f k words) (P, true) ∧ Ev (fun k => backstitchref3_Places.f k words) (P, true) ∧ Objs words 0 P ∧ ckS (setF P) 0 words = true ∧ roots.all (rightS (setF P)) = true) := by
  obtain ⟨P, b, h1, h2, h3⟩ := objs_ev words hl hw words.length 0 [] (by omega) (by omega) (by simp)
  have h1' : Ev (fun k => haul_objects.f k words) (P, b) := h1
  have h2' : Ev (fun k => backstitchref3_Places.f k words) (if b = true then (P, true) else ([], false)) := h2
  have hc : ∀ e, Ev (fun k => (haul_objects.f k words).bind fun q => if q.2 = true then (if q.1.all wfK = true then (haul_Check.ck k (setF q.1) 0 words).bind (haul_Check.g k (setF q.1) roots) else none) else some 3) e → Ev (fun k => haul_Check.f k words roots) e := fun e h => by
    refine Ev.congr (fun k => ?_) h
    rw [haul_Check.f, if_neg (by omega), if_neg (by omega)]
  have hg : ∀ e, Ev (fun k => (backstitchref3_Places.f k words).bind fun q => if q.2 = true then backstitchref3_HeapFault.l0 k q.1 words words.length 0 words roots else some 3) e → Ev (fun k => backstitchref3_HeapFault.f k words roots) e := fun e h => by
    unfold backstitchref3_HeapFault.f
    simp only [if_neg (show ¬ (words.length : Int) > 2000 by omega)]
    refine Ev.step (fun k => ?_) h
    rw [backstitchref3_HeapFault.j0, if_neg (by rw [decide_eq_false (by omega)]; decide)]
  cases b with
  | false => exact ⟨3, hc _ (Ev.bind h1' (Ev.now _)), hg _ (Ev.bind h2' (Ev.now _)), fun h => by cases h⟩
  | true =>
    obtain ⟨t, ht, ho⟩ := h3 rfl
    rw [List.nil_append] at ht
    subst ht
    have hPl := objs_len ho
    have hck := ck_ev (setF P) words 0 hw
    have hcr := cr_ev (setF P) roots hv
    have h0 := hf0_ev P words roots (by omega) hl hr hw hv words.length 0 (by omega)
    rw [List.drop_zero] at h0
    refine ⟨bodyS P words roots, hc _ (Ev.bind h1' ?_), hg _ (Ev.bind h2' ?_), fun he => ⟨P, h1', h2', ho, ?_⟩⟩
    · simp only [if_true, wfk_of hl ho]
      refine Ev.bind hck ?_
      unfold haul_Check.g bodyS endS haul_Check.e
      cases ckS (setF P) 0 words with
      | true =>
        simp only [if_true]
        exact Ev.bind hcr (Ev.now _)
      | false => exact Ev.now _
    · simp only [if_true]
      exact h0
    · unfold bodyS endS at he
      cases h4 : ckS (setF P) 0 words with
      | true =>
        rw [h4, if_pos rfl] at he
        refine ⟨rfl, ?_⟩
        cases h5 : roots.all (rightS (setF P)) with
        | true => rfl
        | false =>
          rw [h5] at he
          cases he
      | false =>
        rw [h4] at he
        cases he
end Go.Proofs.Ytlojkphocbbjdaa.Pure
