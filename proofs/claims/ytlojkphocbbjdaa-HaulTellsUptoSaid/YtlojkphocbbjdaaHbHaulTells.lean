/- HaulTells, the second part: the collector and the reference move the same objects, in the same order, and turn the same words. -/
import Derived.Test.YtlojkphocbbjdaaHaHaulTells
namespace Go.Proofs.Ytlojkphocbbjdaa.Pure
open Go.RowKit Go.Proofs.Ytlojkphocbbjdaa.PHaulTells Go.Proofs.YtlojkphocbbjdaaW Go.Proofs.YtlojkphocbbjdaaW.PrintWords Go.Proofs.YtlojkphocbbjdaaW.PrintLast
set_option linter.unusedVariables false
set_option linter.unusedSimpArgs false

/-! orders of places -/
def new1 (o : List Int) (w : Int) : List Int := match refS w with | some n => if n ∈ o then [] else [n] | none => []
/-- The new ones that words tell, behind an order. -/
def newS : List Int → List Int → List Int
  | _, [] => []
  | o, w :: ws => new1 o w ++ newS (o ++ new1 o w) ws
def addS (o : List Int) (n : Int) : List Int := if n ∈ o then o else o ++ [n]
def moreS : List Int → List Int → List Int
  | [], o => o
  | n :: t, o => moreS t (addS o n)
def rfs (ws : List Int) : List Int := ws.filterMap refS
theorem more_new : ∀ (ws o : List Int), moreS (rfs ws) o = o ++ newS o ws
  | [], o => (List.append_nil o).symm
  | w :: ws, o => by
    rw [newS, rfs, List.filterMap_cons]
    unfold new1
    cases h : refS w with
    | none =>
      simp only [List.nil_append, List.append_nil]
      exact more_new ws o
    | some n =>
      simp only
      show moreS (n :: rfs ws) o = _
      rw [moreS, addS]
      by_cases hn : n ∈ o
      · rw [if_pos hn, if_pos hn, List.nil_append, List.append_nil]
        exact more_new ws o
      · rw [if_neg hn, if_neg hn, ← List.append_assoc]
        exact more_new ws (o ++ [n])
theorem new1_mem {o : List Int} {w n : Int} (h : n ∈ new1 o w) : refS w = some n ∧ n ∉ o := by
  unfold new1 at h
  split at h
  · rename_i m hm
    split at h
    · simp at h
    · rename_i hmo
      obtain rfl := List.mem_singleton.1 h
      exact ⟨hm, hmo⟩
  · simp at h
theorem new1_has {o : List Int} {w n : Int} (h : refS w = some n) : n ∈ o ++ new1 o w := by
  unfold new1
  rw [h]
  by_cases hn : n ∈ o
  · simp [hn]
  · simp [hn]
theorem nodup_new1 {o : List Int} (w : Int) (h : o.Nodup) : (o ++ new1 o w).Nodup := by
  unfold new1
  split
  · split
    · simpa using h
    · rename_i hn
      rw [List.nodup_append]
      exact ⟨h, by simp, fun a ha b hb e => by rw [List.mem_singleton] at hb; subst hb; subst e; exact hn ha⟩
  · simpa using h
theorem nodup_new : ∀ (ws o : List Int), o.Nodup → (o ++ newS o ws).Nodup
  | [], o, h => by simpa [newS] using h
  | w :: ws, o, h => by
    rw [newS, ← List.append_assoc]
    exact nodup_new ws _ (nodup_new1 w h)
theorem sub_new {P : List Int} : ∀ (ws o : List Int), (∀ x ∈ o, x ∈ P) → (∀ w ∈ ws, ∀ n, refS w = some n → n ∈ P) → ∀ x ∈ o ++ newS o ws, x ∈ P
  | [], o, h, _ => by simpa [newS] using h
  | w :: ws, o, h, hw => by
    rw [newS, ← List.append_assoc]
    refine sub_new ws _ (fun x hx => ?_) (fun v hv => hw v (List.mem_cons_of_mem _ hv))
    rcases List.mem_append.1 hx with hx | hx
    · exact h x hx
    · exact hw w List.mem_cons_self x (new1_mem hx).1
theorem has_new : ∀ (ws o : List Int), ∀ w ∈ ws, ∀ n, refS w = some n → n ∈ o ++ newS o ws
  | [], o, w, hw, _, _ => by simp at hw
  | v :: ws, o, w, hw, n, hn => by
    rw [newS, ← List.append_assoc]
    rcases List.mem_cons.1 hw with rfl | hw
    · exact List.mem_append.2 (.inl (new1_has hn))
    · exact has_new ws _ w hw n hn
theorem pigeon : ∀ (o P : List Int), o.Nodup → (∀ x ∈ o, x ∈ P) → o.length ≤ P.length
  | [], P, _, _ => Nat.zero_le _
  | x :: o, P, hn, hs => by
    have hx : x ∈ P := hs x List.mem_cons_self
    have h1 := pigeon o (P.erase x) (List.nodup_cons.1 hn).2 (fun y hy => by
      have hne : y ≠ x := fun e => (List.nodup_cons.1 hn).1 (e ▸ hy)
      exact (List.mem_erase_of_ne hne).2 (hs y (List.mem_cons_of_mem _ hy)))
    have h2 := List.length_erase_of_mem hx
    have h3 : 0 < P.length := List.length_pos_of_mem hx
    rw [List.length_cons]
    omega

/-! objects -/
def hdS (l : List Int) (n : Int) : Int := l.getD n.toNat 0
def tlS (l : List Int) (n : Int) : List Int := (l.take (n.toNat + 1 + lnS l n.toNat)).drop (n.toNat + 1)
def obS (l : List Int) (n : Int) : List Int := hdS l n :: tlS l n
def szN (l : List Int) (n : Int) : Nat := 1 + lnS l n.toNat
/-- What is known of the words, the roots and the places. -/
structure Okay (l P : List Int) : Prop where
  len : l.length ≤ 2000
  word : ∀ z ∈ l, wordB z
  objs : Objs l 0 P
  check : ckS (setF P) 0 l = true
theorem ck_get (s : Int → Bool) : ∀ (l : List Int) (i : Nat), ckS s i l = true → ∀ j, j < l.length → s ((i + j : Nat) : Int) = true ∨ rightS s (l.getD j 0) = true
  | [], i, _, j, hj => by simp at hj
  | x :: l, i, h, j, hj => by
    rw [ckS, Bool.and_eq_true, Bool.or_eq_true] at h
    cases j with
    | zero => exact h.1
    | succ j =>
      have := ck_get s l (i + 1) h.2 j (by simpa using hj)
      rw [show i + (j + 1) = i + 1 + j by omega]
      simpa using this
section
variable {l P : List Int} (H : Okay l P)
include H
theorem okN {n : Int} (hn : n ∈ P) : ∃ a : Nat, n = (a : Int) ∧ a + 1 + lnS l a ≤ l.length := by
  obtain ⟨a, e, _, h⟩ := objs_mem H.objs n hn
  exact ⟨a, e, h⟩
theorem tl_len {n : Int} (hn : n ∈ P) : (tlS l n).length = lnS l n.toNat := by
  obtain ⟨a, rfl, h⟩ := okN H hn
  rw [tlS, List.length_drop, List.length_take, Int.toNat_natCast]
  omega
theorem ob_len {n : Int} (hn : n ∈ P) : (obS l n).length = szN l n := by
  rw [obS, List.length_cons, tl_len H hn, szN]
  omega
theorem sz_le {n : Int} (hn : n ∈ P) : szN l n ≤ 2000 := by
  obtain ⟨a, rfl, h⟩ := okN H hn
  have := H.len
  rw [szN, Int.toNat_natCast]
  omega
theorem ob_cut {n : Int} (hn : n ∈ P) : (l.take (n + 1 + (lnS l n.toNat : Int)).toNat).drop n.toNat = obS l n := by
  obtain ⟨a, rfl, h⟩ := okN H hn
  rw [obS, hdS, tlS, Int.toNat_natCast, show ((a : Int) + 1 + (lnS l a : Int)).toNat = a + 1 + lnS l a by omega, List.drop_eq_getElem_cons (by rw [List.length_take]; omega), List.getElem_take, List.getD_eq_getElem?_getD, List.getElem?_eq_getElem (by omega), Option.getD_some]
theorem tl_get {n : Int} (hn : n ∈ P) {w : Int} (hw : w ∈ tlS l n) : wordB w ∧ ∀ m, refS w = some m → m ∈ P := by
  obtain ⟨a, rfl, h⟩ := okN H hn
  rw [tlS, Int.toNat_natCast] at hw
  obtain ⟨j, hj⟩ := List.mem_iff_getElem?.1 hw
  rw [List.getElem?_drop, List.getElem?_take] at hj
  split at hj
  case isFalse => cases hj
  rename_i hlt
  have hm : w ∈ l := List.mem_of_getElem? hj
  refine ⟨H.word w hm, fun m hr => ?_⟩
  have hg : l.getD (a + 1 + j) 0 = w := by rw [List.getD_eq_getElem?_getD, hj, Option.getD_some]
  rcases ck_get (setF P) l 0 H.check (a + 1 + j) (by omega) with h1 | h1
  · rw [Nat.zero_add] at h1
    have h2 : ((a + 1 + j : Nat) : Int) ∈ P := of_decide_eq_true h1
    have := objs_gap H.objs a (a + 1 + j) hn h2 (by omega)
    omega
  · rw [hg] at h1
    unfold rightS at h1
    rw [ref_unbox hr] at h1
    simp only [if_true] at h1
    exact of_decide_eq_true h1
theorem P_len : P.length ≤ 2000 := by
  have := objs_len H.objs
  have := H.len
  omega
theorem obj_ev {n : Int} (hn : n ∈ P) : backstitchref3_object.f l n = some (obS l n) := by
  have hc := ob_cut H hn
  obtain ⟨a, rfl, h⟩ := okN H hn
  have ho : olen (rd l (a : Int)) = (lnS l a : Int) := tmod_ln H.word a
  rw [Int.toNat_natCast] at hc
  unfold backstitchref3_object.f
  rw [ho, if_pos ⟨by omega, by omega, by omega, by omega⟩, Int.toNat_natCast, hc]
end

theorem more_ev : ∀ (t o : List Int), o.length + t.length < 4000000 → Ev (fun k => moreF k t o) (moreS t o)
  | [], o, _ => Ev.now _
  | n :: t, o, hl => by
    rw [List.length_cons] at hl
    unfold moreF
    rw [moreS, addS]
    simp only [if_pos (show o.length < 17592186044415 by omega)]
    refine Ev.bind (has_ev o n (by omega)) ?_
    by_cases h : n ∈ o
    · rw [show setF o n = true from decide_eq_true h, if_pos h]
      simp only [if_true]
      exact more_ev t o (by omega)
    · rw [show setF o n = false from decide_eq_false h, if_neg h]
      simp only [Bool.false_eq_true, if_false]
      exact more_ev t (o ++ [n]) (by simp; omega)
theorem rfs_len (ws : List Int) : (rfs ws).length ≤ ws.length := List.length_filterMap_le _ _
theorem box_at {t : Int} (h0 : 0 ≤ t) (h1 : t ≤ 4294967295) : Ev (fun k => nanbox_Box.f k 5 t) (boxS 5 t) := box_ev 5 t ⟨by omega, by omega⟩
theorem getD_in {P o : List Int} {i : Nat} (h : i < o.length) (hs : ∀ x ∈ o, x ∈ P) : o.getD i 0 ∈ P := by
  rw [List.getD_eq_getElem?_getD, List.getElem?_eq_getElem h, Option.getD_some]
  exact hs _ (List.getElem_mem h)
theorem told_l0 (ws : List Int) (hb : ∀ w ∈ ws, wordB w) (hl : ws.length < 10000) : ∀ (d i : Nat) (acc : List Int), i + d = ws.length → acc.length ≤ i → Ev (fun k => backstitchref3_told.l0 k acc ws ws.length i) (acc ++ rfs (ws.drop i))
  | 0, i, acc, hi, ha => by
    rw [List.drop_eq_nil_of_le (by omega), rfs, List.filterMap_nil, List.append_nil]
    refine Ev.step (f := fun _ => some _) (fun k => ?_) (Ev.now _)
    show backstitchref3_told.l0 (k + 1) acc ws ws.length i = _
    rw [backstitchref3_told.l0, if_neg (by omega)]
  | d + 1, i, acc, hi, ha => by
    have hlt : i < ws.length := by omega
    have ex : rd ws (i : Int) = ws.getD i 0 := rfl
    have hwb := getD_word hb i
    rw [Pur.drop_cons ws i hlt 0, rfs, List.filterMap_cons]
    refine Ev.step (f := fun k => (backstitchref3_Unbox.f k (ws.getD i 0)).bind fun u => if u.2.2 = true then (if u.1 = 5 then (if acc.length < 17592186044416 then backstitchref3_told.l0 k (acc ++ [u.2.1]) ws ws.length ((i + 1 : Nat) : Int) else none) else backstitchref3_told.l0 k acc ws ws.length ((i + 1 : Nat) : Int)) else backstitchref3_told.l0 k acc ws ws.length ((i + 1 : Nat) : Int)) (fun k => ?_) ?_
    · show backstitchref3_told.l0 (k + 1) acc ws ws.length i = _
      rw [backstitchref3_told.l0, if_pos (by omega), if_pos (by omega), if_pos (by omega), ex, Pur.wrap_succ (by omega)]
    · refine Ev.bind (runbox_ev _ hwb.1 hwb.2) ?_
      rcases hu : unboxS (ws.getD i 0) with _ | ⟨a, n⟩
      · have hn : refS (ws.getD i 0) = none := by unfold refS; rw [hu]
        rw [hn]
        simp only [routS, Bool.false_eq_true, if_false]
        exact told_l0 ws hb hl d (i + 1) acc (by omega) (by omega)
      · by_cases h5 : a = 5
        · subst h5
          have hn : refS (ws.getD i 0) = some n := by unfold refS; rw [hu]; rfl
          rw [hn]
          simp only [routS, if_true, if_pos (show acc.length < 17592186044416 by omega)]
          have ih := told_l0 ws hb hl d (i + 1) (acc ++ [n]) (by omega) (by simp; omega)
          rw [List.append_assoc] at ih
          exact ih
        · have hn : refS (ws.getD i 0) = none := ref_none hu h5
          rw [hn]
          exact Ev.congr (fun k => if_neg h5) (told_l0 ws hb hl d (i + 1) acc (by omega) (by omega))
theorem told_ev (ws : List Int) (hb : ∀ w ∈ ws, wordB w) (hl : ws.length < 10000) : Ev (fun k => backstitchref3_told.f k ws) (rfs ws) := told_l0 ws hb hl ws.length 0 [] (by omega) (by simp)
theorem hd_mod {l : List Int} {n : Int} : hdS l n % 4294967296 = (lnS l n.toNat : Int) := (ln_cast l n.toNat).symm
/-! positions -/
def sumS (l : List Int) : List Int → Nat
  | [] => 0
  | n :: o => szN l n + sumS l o
def mvS (l : List Int) : List Int → Int → List S71
  | [], _ => []
  | n :: o, a => ⟨a, n⟩ :: mvS l o (a + szN l n)
def fO (l : List Int) : List Int → Int → Int → Option Int
  | [], _, _ => none
  | n :: o, a, x => if x = n then some a else fO l o (a + szN l n) x
theorem sum_app (l : List Int) : ∀ o x : List Int, sumS l (o ++ x) = sumS l o + sumS l x
  | [], x => by simp [sumS]
  | n :: o, x => by
    rw [List.cons_append, sumS, sumS, sum_app l o x]
    omega
theorem mv_app (l : List Int) : ∀ (o x : List Int) (a : Int), mvS l (o ++ x) a = mvS l o a ++ mvS l x (a + sumS l o)
  | [], x, a => by simp [mvS, sumS]
  | n :: o, x, a => by
    rw [List.cons_append, mvS, mvS, mv_app l o x, List.cons_append, sumS, show a + (szN l n : Int) + (sumS l o : Int) = a + ((szN l n + sumS l o : Nat) : Int) by omega]
theorem mv_len (l : List Int) : ∀ (o : List Int) (a : Int), (mvS l o a).length = o.length
  | [], a => rfl
  | n :: o, a => by rw [mvS, List.length_cons, mv_len l o, List.length_cons]
theorem fO_app (l : List Int) : ∀ (o x : List Int) (a y : Int), fO l (o ++ x) a y = match fO l o a y with | some t => some t | none => fO l x (a + sumS l o) y
  | [], x, a, y => by simp [fO, sumS]
  | n :: o, x, a, y => by
    rw [List.cons_append, fO, fO]
    by_cases h : y = n
    · rw [if_pos h, if_pos h]
    · rw [if_neg h, if_neg h, fO_app l o x, sumS, show a + (szN l n : Int) + (sumS l o : Int) = a + ((szN l n + sumS l o : Nat) : Int) by omega]
theorem fO_none (l : List Int) : ∀ (o : List Int) (a y : Int), y ∉ o → fO l o a y = none
  | [], _, _, _ => rfl
  | n :: o, a, y, h => by
    rw [fO, if_neg (fun e => h (by rw [e]; exact List.mem_cons_self))]
    exact fO_none l o _ y (fun h2 => h (List.mem_cons_of_mem _ h2))
theorem fO_some (l : List Int) : ∀ (o : List Int) (a y : Int), y ∈ o → ∃ t, fO l o a y = some t ∧ a ≤ t ∧ t ≤ a + sumS l o
  | [], _, _, h => by simp at h
  | n :: o, a, y, h => by
    rw [fO, sumS]
    by_cases e : y = n
    · exact ⟨a, if_pos e, by omega, by omega⟩
    · rw [if_neg e]
      obtain ⟨t, h1, h2, h3⟩ := fO_some l o (a + szN l n) y ((List.mem_cons.1 h).resolve_left e)
      exact ⟨t, h1, by omega, by omega⟩
theorem fO_put (l o : List Int) (n : Int) (hn : n ∉ o) : (fun a => if a = n then some ((sumS l o : Nat) : Int) else fO l o 0 a) = fO l (o ++ [n]) 0 := funext fun a => by
  rw [fO_app, fO, Int.zero_add]
  by_cases h : a = n
  · rw [if_pos h, if_pos h, h, fO_none l o 0 n hn]
  · rw [if_neg h, if_neg h]
    cases fO l o 0 a <;> rfl
theorem sum_le {l P : List Int} (H : Okay l P) : ∀ o : List Int, (∀ x ∈ o, x ∈ P) → sumS l o ≤ o.length * 2000
  | [], _ => by simp [sumS]
  | n :: o, h => by
    have h1 := sum_le H o (fun x hx => h x (List.mem_cons_of_mem _ hx))
    have h2 := sz_le H (h n List.mem_cons_self)
    rw [sumS, List.length_cons, Nat.add_mul]
    omega
theorem flat_sum {l P : List Int} (H : Okay l P) : ∀ o : List Int, (∀ x ∈ o, x ∈ P) → (o.flatMap (obS l)).length = sumS l o
  | [], _ => rfl
  | n :: o, h => by
    rw [List.flatMap_cons, List.length_append, flat_sum H o (fun x hx => h x (List.mem_cons_of_mem _ hx)), ob_len H (h n List.mem_cons_self), sumS]
/-- A word as it is turned by a whole order. -/
def turnS (l O : List Int) (w : Int) : Int := match refS w with | some n => (match fO l O 0 n with | some t => (boxS 5 t).1 | none => w) | none => w
def toS (l O : List Int) (n : Int) : List Int := hdS l n :: (tlS l n).map (turnS l O)
theorem to_len {l P O : List Int} (H : Okay l P) {n : Int} (hn : n ∈ P) : (toS l O n).length = szN l n := by
  rw [toS, List.length_cons, List.length_map, tl_len H hn, szN]
  omega

/-! the collector -/
theorem new_sum {l P : List Int} (H : Okay l P) {o : List Int} {w : Int} {tos : List Int} (hr : ∀ n, refS w = some n → n ∈ P) (ht : tos.length = sumS l o) : (tos ++ (new1 o w).flatMap (obS l)).length = sumS l (o ++ new1 o w) := by
  rw [List.length_append, sum_app, ht, flat_sum H _ (fun y hy => hr y (new1_mem hy).1)]

section
variable {l P O : List Int} (H : Okay l P) (hOP : ∀ x ∈ O, x ∈ P) (hON : O.Nodup)
include H hOP hON
theorem O_len : O.length ≤ 2000 := Nat.le_trans (pigeon O P hON hOP) (P_len H)
theorem pre_sub {o x : List Int} (h : O = o ++ x) : (∀ y ∈ o, y ∈ P) ∧ o.Nodup ∧ o.length ≤ 2000 := by
  have := O_len H hOP hON
  subst h
  refine ⟨fun y hy => hOP y (List.mem_append.2 (.inl hy)), (List.nodup_append.1 hON).1, ?_⟩
  rw [List.length_append] at this
  omega
theorem moved_ev {o x tos : List Int} {w : Int} (hw : wordB w) (hr : ∀ n, refS w = some n → n ∈ P) (hO : O = (o ++ new1 o w) ++ x) (ht : tos.length = sumS l o) :
    Ev (fun k => haul_collector_moved.f k l tos (mvS l o 0) (fO l o 0) w) (turnS l O w, tos ++ (new1 o w).flatMap (obS l), mvS l (o ++ new1 o w) 0, fO l (o ++ new1 o w) 0) := by
  obtain ⟨s1, s2, s3⟩ := pre_sub H hOP hON hO
  have s4 : ∀ y ∈ o, y ∈ P := fun y hy => s1 y (List.mem_append.2 (.inl hy))
  have hol : o.length ≤ 2000 := by rw [List.length_append] at s3; omega
  have hsm := sum_le H o s4
  have hsz : sumS l o ≤ 4000000 := by omega
  unfold haul_collector_moved.f
  refine Ev.bind (place_ev w hw) ?_
  rcases hu : unboxS w with _ | ⟨a, n⟩
  · have hn : refS w = none := by unfold refS; rw [hu]
    have h1 : new1 o w = [] := by unfold new1; rw [hn]
    have h2 : turnS l O w = w := by unfold turnS; rw [hn]
    rw [h1, h2, List.flatMap_nil, List.append_nil, List.append_nil]
    exact Ev.now _
  · by_cases h5 : a = 5
    · subst h5
      have hn : refS w = some n := by unfold refS; rw [hu]; rfl
      obtain ⟨b0, b1⟩ := ref_bounds hn
      have hnP := hr n hn
      simp only [show ((5 : Int) == 5) = true from rfl, if_true, wf_small b0 b1]
      by_cases hno : n ∈ o
      · have h1 : new1 o w = [] := by unfold new1; rw [hn]; exact if_pos hno
        obtain ⟨t, ht1, t0, t1⟩ := fO_some l o 0 n hno
        have h2 : turnS l O w = (boxS 5 t).1 := by
          unfold turnS
          rw [hn, hO, h1, List.append_nil]
          simp only [fO_app, ht1]
        rw [h1, h2, List.flatMap_nil, List.append_nil, List.append_nil]
        simp only [ht1]
        exact Ev.bind (box_at (by omega) (by omega)) (Ev.now _)
      · have h1 : new1 o w = [n] := by unfold new1; rw [hn]; exact if_neg hno
        have ht1 := fO_none l o 0 n hno
        have h2 : turnS l O w = (boxS 5 (sumS l o : Int)).1 := by
          unfold turnS
          rw [hn, hO, h1]
          simp only [fO_app, ht1, fO, if_true, Int.zero_add]
        obtain ⟨na, rfl, hna⟩ := okN H hnP
        have hmd : rd l (na : Int) % 4294967296 = (lnS l na : Int) := (ln_cast l na).symm
        have hcut := ob_cut H hnP
        have hll := H.len
        rw [Int.toNat_natCast] at hcut
        rw [h1, h2]
        simp only [ht1, hmd, if_pos (show 0 ≤ (na : Int) ∧ (na : Int) < (l.length : Int) ∧ (na : Int) + 1 + (lnS l na : Int) ≤ (l.length : Int) ∧ sumS l o + l.length < 17592186044416 ∧ (mvS l o 0).length < 4398046511104 from ⟨by omega, by omega, by omega, by omega, by rw [mv_len]; omega⟩), ht, Int.toNat_natCast, hcut, fO_put l o (na : Int) hno]
        refine Ev.bind (box_at (by omega) (by omega)) ?_
        rw [List.flatMap_cons, List.flatMap_nil, List.append_nil, mv_app, mvS, mvS, Int.zero_add]
        exact Ev.now _
    · have hn : refS w = none := ref_none hu h5
      have h1 : new1 o w = [] := by unfold new1; rw [hn]
      have h2 : turnS l O w = w := by unfold turnS; rw [hn]
      rw [h1, h2, List.flatMap_nil, List.append_nil, List.append_nil]
      simp only [show (a == 5) = false from beq_eq_false_iff_ne.mpr h5, Bool.false_eq_true, if_false]
      exact Ev.now _
theorem roots_ev : ∀ (ws out tos o x : List Int), (∀ w ∈ ws, wordB w) → (∀ w ∈ ws, ∀ n, refS w = some n → n ∈ P) → O = (o ++ newS o ws) ++ x → tos.length = sumS l o → out.length + ws.length < 10000 →
    Ev (fun k => haul_Collect.roots k l ws out tos (mvS l o 0) (fO l o 0)) (out ++ ws.map (turnS l O), tos ++ (newS o ws).flatMap (obS l), mvS l (o ++ newS o ws) 0, fO l (o ++ newS o ws) 0)
  | [], out, tos, o, x, _, _, _, _, _ => by
    simp only [List.map_nil, List.append_nil, newS, List.flatMap_nil]
    exact Ev.now _
  | w :: ws, out, tos, o, x, hb, hr, hO, ht, hlen => by
    rw [List.length_cons] at hlen
    have hr0 := hr w List.mem_cons_self
    unfold haul_Collect.roots
    simp only [if_pos (show out.length < 17592186044415 by omega)]
    have e : o ++ newS o (w :: ws) = (o ++ new1 o w) ++ newS (o ++ new1 o w) ws := by rw [newS, List.append_assoc]
    rw [e] at hO ⊢
    refine Ev.bind (moved_ev H hOP hON (hb w List.mem_cons_self) hr0 (x := newS (o ++ new1 o w) ws ++ x) (by rw [hO, List.append_assoc]) ht) ?_
    have ih := roots_ev ws (out ++ [turnS l O w]) (tos ++ (new1 o w).flatMap (obS l)) (o ++ new1 o w) x (fun v hv => hb v (List.mem_cons_of_mem _ hv)) (fun v hv => hr v (List.mem_cons_of_mem _ hv)) hO (new_sum H hr0 ht) (by simp; omega)
    show Ev (fun k => haul_Collect.roots k l ws (out ++ [turnS l O w]) (tos ++ (new1 o w).flatMap (obS l)) (mvS l (o ++ new1 o w) 0) (fO l (o ++ new1 o w) 0)) _
    rw [show out ++ (w :: ws).map (turnS l O) = out ++ [turnS l O w] ++ ws.map (turnS l O) by rw [List.map_cons, List.append_assoc]; rfl, show tos ++ (newS o (w :: ws)).flatMap (obS l) = tos ++ (new1 o w).flatMap (obS l) ++ (newS (o ++ new1 o w) ws).flatMap (obS l) by rw [newS, List.flatMap_append, List.append_assoc]]
    exact ih
theorem inner_ev : ∀ (ws pre post o x : List Int) (d : Nat), (∀ w ∈ ws, wordB w) → (∀ w ∈ ws, ∀ n, refS w = some n → n ∈ P) → O = (o ++ newS o ws) ++ x → (pre ++ ws ++ post).length = sumS l o → ws.length < d →
    Ev (fun k => haul_Collect.inner k l d (pre.length : Int) ((pre.length : Int) + (ws.length : Int) - 1) (pre ++ ws ++ post) (mvS l o 0) (fO l o 0)) (pre ++ ws.map (turnS l O) ++ post ++ (newS o ws).flatMap (obS l), mvS l (o ++ newS o ws) 0, fO l (o ++ newS o ws) 0)
  | ws, pre, post, o, x, 0, _, _, _, _, hd => by omega
  | [], pre, post, o, x, d + 1, _, _, _, _, _ => by
    unfold haul_Collect.inner
    simp only [List.length_nil, if_neg (show ¬ (pre.length : Int) ≤ (pre.length : Int) + ((0 : Nat) : Int) - 1 by omega), List.map_nil, List.append_nil, newS, List.flatMap_nil]
    exact Ev.now _
  | w :: ws, pre, post, o, x, d + 1, hb, hr, hO, ht, hd => by
    rw [List.length_cons] at hd
    have hr0 := hr w List.mem_cons_self
    have hlen : (pre ++ w :: ws ++ post).length = pre.length + 1 + ws.length + post.length := by simp; omega
    have hrd : rd (pre ++ w :: ws ++ post) (pre.length : Int) = w := by
      rw [rd, Int.toNat_natCast, List.append_assoc, List.getD_eq_getElem?_getD, List.getElem?_append_right (Nat.le_refl _), Nat.sub_self]
      rfl
    have e : o ++ newS o (w :: ws) = (o ++ new1 o w) ++ newS (o ++ new1 o w) ws := by rw [newS, List.append_assoc]
    rw [e] at hO ⊢
    unfold haul_Collect.inner
    simp only [List.length_cons, if_pos (show (pre.length : Int) ≤ (pre.length : Int) + ((ws.length + 1 : Nat) : Int) - 1 by omega), if_pos (show 0 ≤ (pre.length : Int) ∧ (pre.length : Int) < ((pre ++ w :: ws ++ post).length : Int) from ⟨by omega, by rw [hlen]; omega⟩), hrd]
    refine Ev.bind (moved_ev H hOP hON (hb w List.mem_cons_self) hr0 (x := newS (o ++ new1 o w) ws ++ x) (by rw [hO, List.append_assoc]) ht) ?_
    simp only [if_pos (show (pre.length : Int) < (((pre ++ w :: ws ++ post) ++ (new1 o w).flatMap (obS l)).length : Int) by rw [List.length_append, hlen]; omega), Int.toNat_natCast]
    have hset : ((pre ++ w :: ws ++ post) ++ (new1 o w).flatMap (obS l)).set pre.length (turnS l O w) = (pre ++ [turnS l O w]) ++ ws ++ (post ++ (new1 o w).flatMap (obS l)) := by
      rw [List.append_assoc, List.append_assoc, List.set_append_right _ _ (Nat.le_refl _), Nat.sub_self, List.cons_append, List.set_cons_zero]
      simp [List.append_assoc]
    have hs2 := new_sum H hr0 ht
    have ih := inner_ev ws (pre ++ [turnS l O w]) (post ++ (new1 o w).flatMap (obS l)) (o ++ new1 o w) x d (fun v hv => hb v (List.mem_cons_of_mem _ hv)) (fun v hv => hr v (List.mem_cons_of_mem _ hv)) hO (by rw [← hs2]; simp only [List.length_append, List.length_cons, List.length_nil]; omega) (by omega)
    rw [hset]
    rw [List.length_append, List.length_singleton, Int.natCast_add] at ih
    rw [show (pre.length : Int) + ((ws.length + 1 : Nat) : Int) - 1 = (pre.length : Int) + ((1 : Nat) : Int) + (ws.length : Int) - 1 by omega]
    rw [newS, List.map_cons, List.flatMap_append]
    have e2 : pre ++ turnS l O w :: ws.map (turnS l O) ++ post ++ ((new1 o w).flatMap (obS l) ++ (newS (o ++ new1 o w) ws).flatMap (obS l)) = pre ++ [turnS l O w] ++ ws.map (turnS l O) ++ (post ++ (new1 o w).flatMap (obS l)) ++ (newS (o ++ new1 o w) ws).flatMap (obS l) := by simp [List.append_assoc]
    rw [e2]
    exact ih
end

/-! by breadth -/
def bfS (l : List Int) : Nat → Nat → List Int → Option (List Int)
  | 0, _, _ => none
  | d + 1, i, o => if i < o.length then bfS l d (i + 1) (o ++ newS o (tlS l (o.getD i 0))) else some o
section
variable {l P : List Int} (H : Okay l P)
include H
theorem bf_more {o : List Int} {i : Nat} (h : i < o.length) (hs : ∀ x ∈ o, x ∈ P) (hn : o.Nodup) : (∀ x ∈ o ++ newS o (tlS l (o.getD i 0)), x ∈ P) ∧ (o ++ newS o (tlS l (o.getD i 0))).Nodup :=
  ⟨sub_new _ _ hs (fun w hw => (tl_get H (getD_in h hs) hw).2), nodup_new _ _ hn⟩
theorem bf_is : ∀ (d i : Nat) (o : List Int), (∀ x ∈ o, x ∈ P) → o.Nodup → P.length + 1 ≤ d + i → i ≤ o.length → ∃ O, bfS l d i o = some O
  | 0, i, o, hs, hn, hd, hi => by
    have := pigeon o P hn hs
    omega
  | d + 1, i, o, hs, hn, hd, hi => by
    rw [bfS]
    by_cases h : i < o.length
    · rw [if_pos h]
      obtain ⟨h1, h2⟩ := bf_more H h hs hn
      exact bf_is d (i + 1) _ h1 h2 (by omega) (by rw [List.length_append]; omega)
    · exact ⟨o, if_neg h⟩
theorem bf_of : ∀ (d i : Nat) (o O : List Int), (∀ x ∈ o, x ∈ P) → o.Nodup → bfS l d i o = some O → (∃ x, O = o ++ x) ∧ (∀ x ∈ O, x ∈ P) ∧ O.Nodup ∧ ∀ j, i ≤ j → j < O.length → ∀ w ∈ tlS l (O.getD j 0), ∀ m, refS w = some m → m ∈ O
  | 0, i, o, O, _, _, h => by cases h
  | d + 1, i, o, O, hs, hn, h => by
    rw [bfS] at h
    by_cases hi : i < o.length
    · rw [if_pos hi] at h
      obtain ⟨h1, h2⟩ := bf_more H hi hs hn
      obtain ⟨⟨x, hx⟩, h4, h5, h6⟩ := bf_of d (i + 1) _ O h1 h2 h
      refine ⟨⟨newS o (tlS l (o.getD i 0)) ++ x, by rw [hx, List.append_assoc]⟩, h4, h5, fun j hj hj2 w hw m hm => ?_⟩
      by_cases e : j = i
      · subst e
        have hg : O.getD j 0 = o.getD j 0 := by
          rw [hx, List.append_assoc, List.getD_eq_getElem?_getD, List.getElem?_append_left hi, ← List.getD_eq_getElem?_getD]
        rw [hg] at hw
        rw [hx]
        exact List.mem_append.2 (.inl (has_new _ o w hw m hm))
      · exact h6 j (by omega) hj2 w hw m hm
    · rw [if_neg hi] at h
      obtain rfl := Option.some.inj h
      exact ⟨⟨[], (List.append_nil _).symm⟩, hs, hn, fun j hj hj2 => by omega⟩
theorem bf_ev : ∀ (d i : Nat) (o O : List Int), (∀ x ∈ o, x ∈ P) → o.Nodup → bfS l d i o = some O → Ev (fun k => backstitchref3_Moved.bf k l d i o) O
  | 0, i, o, O, _, _, h => by cases h
  | d + 1, i, o, O, hs, hn, h => by
    rw [bfS] at h
    have hol := Nat.le_trans (pigeon o P hn hs) (P_len H)
    unfold backstitchref3_Moved.bf
    by_cases hi : i < o.length
    · rw [if_pos hi] at h
      have hgP := getD_in hi hs
      have hgg : rd o (i : Int) = o.getD i 0 := rfl
      have htl : (tlS l (o.getD i 0)).length ≤ 2000 := by
        have h1 := sz_le H hgP
        rw [tl_len H hgP]
        rw [szN] at h1
        omega
      simp only [if_pos (show (i : Int) < (o.length : Int) by omega), if_pos (show 0 ≤ (i : Int) by omega), hgg, obj_ev H hgP, Option.bind_some, if_pos (show 1 ≤ (obS l (o.getD i 0)).length by rw [obS, List.length_cons]; omega)]
      show Ev (fun k => (backstitchref3_told.f k (tlS l (o.getD i 0))).bind fun t => (moreF k t o).bind fun o2 => backstitchref3_Moved.bf k l d ((i : Int) + 1) o2) O
      refine Ev.bind (told_ev _ (fun w hw => (tl_get H hgP hw).1) (by omega)) ?_
      have hrl := rfs_len (tlS l (o.getD i 0))
      refine Ev.bind (more_ev _ o (by omega)) ?_
      rw [more_new]
      obtain ⟨h1, h2⟩ := bf_more H hi hs hn
      exact bf_ev d (i + 1) _ O h1 h2 h
    · rw [if_neg hi] at h
      obtain rfl := Option.some.inj h
      simp only [if_neg (show ¬ (i : Int) < (o.length : Int) by omega)]
      exact Ev.now _
end
end Go.Proofs.Ytlojkphocbbjdaa.Pure
