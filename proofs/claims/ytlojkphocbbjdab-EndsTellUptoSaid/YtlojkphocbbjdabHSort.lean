/- slices.Sort and slices.Compact at []int, by the shelf, over the separating state. -/
import Derived.Shelf.Lay
import Derived.Shelf.Sort.Plain
import Derived.Shelf.Slices.In.SortNone
import Derived.Shelf.Slices.CompactI
import Derived.Ground.NamesProg
import Derived.Ground.Names2Prog
import Derived.Sort.OwnSortedInts
import Derived.Lib.OwnBridge
import Derived.Test.YtlojkphocbbjdabProg
import Derived.Test.YtlojkphocbbjdabHSep
namespace Go.Proofs
open Go.Shelf
shelf_lay Lays.n189 Nm 189 at Try as Ytlojkphocbbjdab.laysSort
shelf_lay Lays2.n20 Nm2 20 at Try as Ytlojkphocbbjdab.laysCompact
end Go.Proofs
namespace Go.Proofs.YtlojkphocbbjdabW.Sep
open Go.RowKit Go.Sort Go.Proofs.YtlojkphocbbjdabW.PrintWords Go.Proofs.YtlojkphocbbjdabW.PrintLast Go.Proofs.YtlojkphocbbjdabW.PrintMore
set_option linter.unusedVariables false
set_option linter.unusedSimpArgs false
theorem reps_ints {xs : List Int} {inner : List Value} {w : World} {B : Nat} {ok : Nat → Prop} (h : Reps ((Kd.int .i64).M w B ok) (Kd.int .i64).sz xs inner) : inner = xs.map (Value.int .i64) := by
  obtain ⟨hl, hc⟩ := h
  have hl' : inner.length = xs.length := by rw [hl]; exact Nat.mul_one _
  apply List.ext_getElem?
  intro j
  by_cases hj : j < xs.length
  · have h1 := hc j xs[j] (List.getElem?_eq_getElem hj)
    have h2 : (inner.drop (j * 1)).take 1 = [Value.int .i64 xs[j]] := h1
    rw [List.getElem?_map, List.getElem?_eq_getElem hj, Option.map_some, List.getElem?_eq_getElem (by omega)]
    rw [Nat.mul_one, List.drop_eq_getElem_cons (by omega)] at h2
    simp only [List.take_succ_cons, List.take_zero, List.cons.injEq, and_true] at h2
    rw [h2]
  · rw [List.getElem?_eq_none (by omega), List.getElem?_eq_none (by simp; omega)]
theorem R_ints_of {w : World} {B e : Nat} {G : Nat → Prop} {v : Value} {xs : List Int} (h0 : ∀ k, v.ownBlock = some k → G k) (h : w.ownsRow B e 1 v xs.length (xs.map (Value.int .i64))) : Kd.R (Kd.int .i64) e w B G v xs :=
  ⟨h0, xs.map (Value.int .i64), h, Kd.reps_scalar xs⟩
theorem sort_st {w0 w : World} {L : List Asn} {v : Value} {xs : List Int} (h : St w0 w (rowA w0.heap.size (Kd.int .i64) 3 v xs :: L)) (hn : xs.length < 4611686018427387904) :
    Calls Try.prog 139 #[v] w fun e w' => e = .returned (.tuple #[]) ∧ St w0 w' (rowA w0.heap.size (Kd.int .i64) 3 v (xs.mergeSort fun x y => decide (x ≤ y)) :: L) := by
  obtain ⟨G, hG, hr, hs⟩ := h.rput 0 rfl
  obtain ⟨inner, ho, hrp⟩ := hr.2
  obtain rfl := reps_ints hrp
  rcases ho.2 with ⟨hv, hx⟩ | ⟨g, cap, cur, hv, hbase, hb, h1, h2, h3, h4⟩
  · obtain rfl := List.eq_nil_of_length_eq_zero hx
    rw [hv] at h ⊢
    refine (Any.slices_Sort_int_none Ytlojkphocbbjdab.laysSort none 0 w).mono ?_
    rintro e w' ⟨rfl, rfl⟩
    exact ⟨rfl, by rw [List.mergeSort_nil]; exact h⟩
  · subst hv
    refine (Any.slices_Sort_int Ytlojkphocbbjdab.laysSort g 0 cap xs w (holds_of_blockI hb (by have h5 := h4; rwa [show (Kd.int .i64).sz = 1 from rfl, Nat.mul_one] at h5)) (blk_lt hb) hn).mono ?_
    rintro e w' ⟨rfl, q, os, rfl⟩
    refine ⟨rfl, ?_⟩
    have hl : (xs.mergeSort fun x y => decide (x ≤ y)).length = xs.length := List.length_mergeSort _
    have hown := ownsRow_sortedI (n := q) (os := os) (ts := xs.mergeSort fun x y => decide (x ≤ y)) hl hbase hb h1 h2 h3
    exact hs _ _ _ (R_ints_of (fun k hk => hr.1 k hk) (by rw [hl]; exact hown)) (h.below.grown (grownBy_sortedI _) h.size (fun k hk => by injection hk with hk; rw [← hk]; exact hbase)) (grownBy_sortedI _)
theorem compact_st {w0 w : World} {L : List Asn} {v : Value} {xs : List Int} (h : St w0 w (rowA w0.heap.size (Kd.int .i64) 3 v xs :: L)) (hn : xs.length < 4611686018427387904) :
    Calls Try.prog 181 #[v] w fun e w' => ∃ v1, e = .returned v1 ∧ St w0 w' (rowA w0.heap.size (Kd.int .i64) 3 v1 (Lib.compact xs) :: L) := by
  obtain ⟨G, hG, hA, hs⟩ := h.at (i := 0) rfl
  have hr : Kd.R (Kd.int .i64) 3 w w0.heap.size G v xs := hA
  obtain ⟨inner, ho, hrp⟩ := hr.2
  obtain rfl := reps_ints hrp
  rcases ho.2 with ⟨hv, hx⟩ | ⟨g, cap, cur, hv, hbase, hb, h1, h2, h3, h4⟩
  · obtain rfl := List.eq_nil_of_length_eq_zero hx
    rw [hv] at h ⊢
    refine (Any.slices_Compact_int_empty Ytlojkphocbbjdab.laysCompact none 0 w).mono ?_
    rintro e w' ⟨rfl, rfl⟩
    exact ⟨_, rfl, h⟩
  · subst hv
    refine (Any.slices_Compact_int Ytlojkphocbbjdab.laysCompact g 0 cap xs w (holds_of_blockI hb (by have h5 := h4; rwa [show (Kd.int .i64).sz = 1 from rfl, Nat.mul_one] at h5)) (by omega) h1).mono ?_
    rintro e w' ⟨rfl, q, rfl⟩
    refine ⟨_, rfl, ?_⟩
    have hle := Lib.compact_length_le xs
    have hown := Lib.ownsRow_putRow (q := q) (k := (Lib.compact xs).length) (ys := Lib.compact xs ++ List.replicate (xs.length - (Lib.compact xs).length) 0) ho (by simp; omega) hle
    rw [List.take_left] at hown
    refine hs _ _ G (Lib.below_putRow h.below hbase) ?_ (R_ints_of (fun k hk => hr.1 k hk) hown) (fun k hk _ hl => ?_) (fun k hk => .inl hk)
    · simp [putRow, mapBlock, Sort.ahead]
    · have : g ≠ k := fun e => hk (hr.1 k (by rw [← e]; rfl))
      simp [putRow, mapBlock, Sort.ahead, Array.getElem?_modify, this]
end Go.Proofs.YtlojkphocbbjdabW.Sep
