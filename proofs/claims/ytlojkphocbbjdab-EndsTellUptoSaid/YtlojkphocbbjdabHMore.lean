/- Small words beside the printed ones: what is written behind a row's end; clear. -/
import Derived.Test.YtlojkphocbbjdabWWords
import Derived.Test.YtlojkphocbbjdabWLast
import Derived.Test.YtlojkphocbbjdabWKept
import Derived.Test.YtlojkphocbbjdabWMore
import Derived.Test.YtlojkphocbbjdabHBase
import Derived.Lib.SliceRun
namespace Go.Proofs.YtlojkphocbbjdabW.Bas
open Go.RowKit Go.Proofs.YtlojkphocbbjdabW.PrintWords Go.Proofs.YtlojkphocbbjdabW.PrintLast Go.Proofs.YtlojkphocbbjdabW.PrintMore
set_option linter.unusedVariables false
section
variable {α : Type} {d : Kd α} {e base n m cap g : Nat} {ok : Nat → Prop} {W w0 : World} {xs ys : List α}

theorem R_has (h : d.R e W base ok (.slice (some ⟨g, 0, none⟩) n cap) xs) (o : Nat) (ho : o < cap * d.sz) : (W.cell? ⟨g, o, none⟩).isSome = true ∧ W.frozen? ⟨g, o, none⟩ = false := by
  obtain ⟨inner, hw⟩ := Kd.R_own h
  rcases hw.2 with ⟨he, h0⟩ | ⟨g', cap', cur, he, hb, hh, hnc, hcm, hcs, ht⟩
  · cases he
  · injection he with ha hn hc
    injection ha with ha
    injection ha with ha
    subst ha; subst hc
    refine ⟨?_, blk_frozen hh o⟩
    rw [blk_cell hh o]
    simp [hcs, ho]
theorem R_beyond (h : d.R e W base ok (.slice (some ⟨g, 0, none⟩) n cap) xs) (vs : List Value) (o : Nat) (ho : n * d.sz ≤ o) (hl : o + vs.length ≤ cap * d.sz) :
    d.R e (W.setCells g o vs) base ok (.slice (some ⟨g, 0, none⟩) n cap) xs := by
  have hlen := (Kd.R_reads' h).1
  obtain ⟨hok, inner, hw, hr⟩ := h
  refine ⟨hok, inner, ⟨hw.1, ?_⟩, hr.imp_ (fun x cs hM => d.M_step hM ?_)⟩
  · rcases hw.2 with ⟨he, h0⟩ | ⟨g', cap', cur, he, hb, hh, hnc, hcm, hcs, ht⟩
    · cases he
    · injection he with ha hn hc
      injection ha with ha
      injection ha with ha
      subst ha; subst hc
      obtain ⟨cur', h1, h2, h3⟩ := setCells_row vs o W cur hh (by rw [hcs]; exact hl)
      refine .inr ⟨g, cap, cur', by rw [hn], hb, h1, hnc, hcm, by rw [h2, hcs], ?_⟩
      rw [h3, List.append_assoc, List.take_append_of_le_length]
      · rw [List.take_take, Nat.min_eq_left (by rw [← hlen]; exact ho), ht]
      · have hz : cur.toList.length = cap * d.sz := by rw [Array.length_toList, hcs]
        rw [List.length_take, hz, ← hlen]
        omega
  · intro k hk hlt
    exact setCells_far vs o k (fun e => hk.2 (by rw [e]; rfl))
theorem R_clear (h : d.R e W base ok (.slice (some ⟨g, 0, none⟩) n cap) xs) (hm : m ≤ n) (vs : List Value) (hl : m * d.sz + vs.length ≤ cap * d.sz) :
    d.R e (W.setCells g (m * d.sz) vs) base ok (.slice (some ⟨g, 0, none⟩) m cap) (xs.take m) :=
  R_beyond (Kd.R_take h (by have := (Kd.R_reads' h).1; omega)) vs _ (Nat.le_refl _) hl
theorem grown_setCells (W : World) (g o : Nat) (vs : List Value) : W.grownBy (W.setCells g o vs) (some g) := by
  obtain ⟨h1, h2, h3, h4⟩ := setCells_same g vs o W
  exact ⟨h1, h2, h3, Nat.le_of_eq h4.symm, fun i _ hne => setCells_far vs o i (fun e => hne (by rw [e]))⟩
theorem kept_setCells {w : World} {S : Nat → Prop} (h : Kept w W S) (hs : S g ∨ w.heap.size ≤ g) (o : Nat) (vs : List Value) : Kept w (W.setCells g o vs) S :=
  Kept.of_grown (grown_setCells W g o vs) h (fun k hk => by injection hk with hk; rw [← hk]; exact hs)
theorem below_setCells {B : Nat} {w : World} (h : Below B w W) (hB : B ≤ W.heap.size) (hg : B ≤ g) (o : Nat) (vs : List Value) : Below B w (W.setCells g o vs) :=
  h.grown (grown_setCells W g o vs) hB (fun k hk => by injection hk with hk; rw [← hk]; exact hg)
end
section
variable {P : Program}
theorem run_clear_cells (w : World) (t e ty : TypeId) (z : Value) (ht : P.underlying t = some (.slice e)) (hv : ∀ w, (zeroValue e).run P w = .ok z w) (h1 : ∀ v ∈ z.cells.toList, v.oneCell' = true) (b o n c : Nat) (hn : 0 < n)
    (hc : ∀ j, j < n * z.cells.size → (w.cell? ⟨b, o + j, none⟩).isSome = true) (hf : ∀ j, j < n * z.cells.size → w.frozen? ⟨b, o + j, none⟩ = false) :
    (Builtin.clear_ #[t] ty #[.slice (some ⟨b, o, none⟩) n c]).run P w = .ok (.tuple #[]) (w.setCells b o (Builtin.zeroCells z.cells n).toList) := by
  have hlen : (Builtin.zeroCells z.cells n).toList.length = n * z.cells.size := by simp [Builtin.zeroCells]
  have hst := run_storeCells_cells (P := P) b o (Builtin.zeroCells z.cells n).toList 0 w (by rw [hlen]; simpa using hc) (by rw [hlen]; simpa using hf) (by
    intro v hv'
    simp only [Builtin.zeroCells, Array.toList_map, List.mem_map, Array.toList_range, List.mem_range] at hv'
    obtain ⟨i, hi, rfl⟩ := hv'
    have hp : 0 < z.cells.size := Nat.pos_of_ne_zero (fun h => by rw [h] at hi; simp at hi)
    have hm : i % z.cells.size < z.cells.size := Nat.mod_lt _ hp
    apply h1
    rw [getElem!_pos z.cells _ hm]
    exact Array.getElem_mem_toList hm)
  simp only [Nat.add_zero] at hst
  obtain ⟨m, rfl⟩ : ∃ m, n = m + 1 := ⟨n - 1, by omega⟩
  simp [Builtin.clear_, run_underlying ht, hv, hst]
end
section
variable {α : Type} {p : α → Bool} {l cur : List α} {i j : Nat} {x : α}
theorem del_read (h2 : cur.drop j = l.drop j) : cur[j]? = l[j]? := by
  have := congrArg (·[0]?) h2
  simpa using this
theorem del_skip (hj : j < l.length) (h1 : cur.take i = (l.take j).filter (fun x => !p x)) (h2 : cur.drop j = l.drop j) (hx : l[j]? = some x) (hp : p x = true) :
    cur.take i = (l.take (j + 1)).filter (fun x => !p x) ∧ cur.drop (j + 1) = l.drop (j + 1) := by
  have he : l[j] = x := by rw [List.getElem?_eq_getElem hj] at hx; exact Option.some.inj hx
  refine ⟨?_, ?_⟩
  · rw [List.take_succ_eq_append_getElem hj, List.filter_append, h1, he]
    simp [hp]
  · have := congrArg (List.drop 1) h2
    simpa using this
theorem del_step (hl : cur.length = l.length) (hij : i < j) (hj : j < l.length) (h1 : cur.take i = (l.take j).filter (fun x => !p x)) (h2 : cur.drop j = l.drop j) (hx : l[j]? = some x) (hp : p x = false) :
    (cur.set i x).length = l.length ∧ (cur.set i x).take (i + 1) = (l.take (j + 1)).filter (fun x => !p x) ∧ (cur.set i x).drop (j + 1) = l.drop (j + 1) := by
  have he : l[j] = x := by rw [List.getElem?_eq_getElem hj] at hx; exact Option.some.inj hx
  refine ⟨by simp [hl], ?_, ?_⟩
  · have hi : i < (cur.set i x).length := by simp; omega
    rw [List.take_succ_eq_append_getElem hi, List.take_succ_eq_append_getElem hj, List.filter_append, he, ← h1, List.take_set_of_le (Nat.le_refl _)]
    simp [hp]
  · rw [List.drop_set_of_lt (by omega)]
    have := congrArg (List.drop 1) h2
    simpa using this
end
end Go.Proofs.YtlojkphocbbjdabW.Bas
