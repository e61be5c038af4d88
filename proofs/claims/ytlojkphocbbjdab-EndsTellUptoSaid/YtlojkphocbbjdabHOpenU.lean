/- (Of bulk at most 1048576.) What a statement's arguments read as, kind by kind: from a reading ('trod') of a value of type t to the value's kind of the printed words; with it what its numbers and lengths are known to be. -/
import Derived.Test.YtlojkphocbbjdabWWords
import Derived.Test.YtlojkphocbbjdabRows
import Derived.Deep.Slices
import Derived.SizedLaws
import Derived.ChangeOld
namespace Go.Proofs.YtlojkphocbbjdabW.OpnU
open Go.RowKit Go.ChangeShapes Go.WideShapes Go.Proofs.YtlojkphocbbjdabW.PrintWords
set_option linter.unusedVariables false
open Go.Proofs.Ytlojkphocbbjdab (Rows.uptoBulk Rows.uptoBulkAll)

theorem one_le {H : Type} (d : DataW H) : 1 ≤ Rows.uptoBulk d := by
  cases d with
  | lit l => cases l <;> simp [Rows.uptoBulk]
  | nil => simp [Rows.uptoBulk]
  | ptr d => simp [Rows.uptoBulk]
  | slice elems spare => simp [Rows.uptoBulk]
  | agg parts => simp [Rows.uptoBulk]
  | iface t d => simp [Rows.uptoBulk]
  | map entries => simp [Rows.uptoBulk]
  | held h => simp [Rows.uptoBulk]
theorem part_le {H : Type} {d : DataW H} {l : List (DataW H)} (h : d ∈ l) : Rows.uptoBulk d ≤ Rows.uptoBulkAll l := by
  induction l with
  | nil => cases h
  | cons x r ih =>
    simp only [Rows.uptoBulkAll]
    cases List.mem_cons.1 h with
    | inl e => subst e; omega
    | inr e => have := ih e; omega
theorem length_le {H : Type} (l : List (DataW H)) : l.length ≤ Rows.uptoBulkAll l := by
  induction l with
  | nil => simp [Rows.uptoBulkAll]
  | cons x r ih => have := one_le x; simp only [Rows.uptoBulkAll, List.length_cons]; omega

def Opens {α : Type} (P : Program) (t : TypeId) (k : Kd α) (wf : α → Prop) : Prop :=
  P.cellsOf t = k.sz ∧ ∀ {H : Type} {enc : TypeId × Value → H} {w : World} {base : Nat} {spare : Nat → Bool} {held : Bool} {fuel : Nat} {cs : List Value} {x : DataW H × List MemPlace},
    DataW.trod enc P w base spare held fuel t cs = some x → Rows.uptoBulk x.1 ≤ 1048576 → ∃ v, k.K w v cs ∧ wf v

section
variable {P : Program} {t e : TypeId} {α β γ : Type}

theorem opens_int {k : IntKind} (ht : P.underlying t = some (.int k)) (hc : P.cellsOf t = 1) : Opens P t (Kd.int k) (fun x => (Lit.int k x).wf = true) := by
  refine ⟨hc, fun h _ => ?_⟩
  obtain ⟨n, rfl, _, hw⟩ := DataW.trod_int ht h
  exact ⟨n, rfl, hw⟩
theorem cells_get {w : World} {base n : Nat} {a : Addr} {cs : List Value} (h : w.cells? base a n = some cs) : ∀ i u, cs[i]? = some u → w.cell? (a.add i) = some u := by
  intro i u hu
  obtain ⟨_, hl, hc⟩ := World.cells?_some h
  have hi : i < n := by
    have := (List.getElem?_eq_some_iff.1 hu).1
    omega
  rw [hc i hi]
  exact hu

theorem opens_slice {d : Kd α} {wf : α → Prop} (ht : P.underlying t = some (.slice e)) (hc : P.cellsOf t = 1) (hd : Opens P e d wf) : Opens P t (Kd.slice e d) (fun xs => xs.length ≤ 1048576 ∧ ∀ x ∈ xs, wf x) := by
  skip
  refine ⟨hc, ?_⟩
  intro H enc w base spare held fuel cs x h hw
  rcases Deep.open_slice ht h with ⟨rfl, rfl⟩ | ⟨a, len, cap, m, n, D, Pl, rfl, hb, hl, hm, hmm, rfl, hel⟩
  · exact ⟨[], ⟨none, 0, rfl, Nat.le_refl _, ⟨rfl, by simp, fun h => by simp at h⟩⟩, by simp, by simp⟩
  · have hle : len ≤ m := by rw [hmm]; split <;> omega
    have hEl : ∀ i, i < len → ∃ v c, d.K w v c ∧ wf v ∧ c.length = d.sz ∧ ∀ j u, c[j]? = some u → w.cell? (a.add (i * d.sz + j)) = some u := by
      intro i hi
      obtain ⟨c, hcells, ht2⟩ := hel i (by omega)
      obtain ⟨v, hk, hv⟩ := hd.2 ht2 (by
        have h1 : D i ∈ (List.range len).map D := List.mem_map.2 ⟨i, List.mem_range.2 hi, rfl⟩
        have h2 := part_le h1
        simp only [Rows.uptoBulk] at hw
        show Rows.uptoBulk (D i) ≤ _
        omega)
      refine ⟨v, c, hk, hv, d.K_len hk, fun j u hu => ?_⟩
      have := cells_get hcells j u hu
      rw [Deep.add_add, hd.1] at this
      exact this
    have hxs : ∃ xs : List α, xs.length = len ∧ ∀ i v, xs[i]? = some v → ∃ c, d.K w v c ∧ wf v ∧ c.length = d.sz ∧ ∀ j u, c[j]? = some u → w.cell? (a.add (i * d.sz + j)) = some u := by
      clear hw hel
      have key : ∀ q, q ≤ len → ∃ xs : List α, xs.length = q ∧ ∀ i v, xs[i]? = some v → ∃ c, d.K w v c ∧ wf v ∧ c.length = d.sz ∧ ∀ j u, c[j]? = some u → w.cell? (a.add (i * d.sz + j)) = some u := by
        intro q
        induction q with
        | zero => exact fun _ => ⟨[], rfl, fun i v h => by simp at h⟩
        | succ q ih =>
          intro hq
          obtain ⟨xs, hlen, hx⟩ := ih (by omega)
          obtain ⟨v, hv⟩ := hEl q (by omega)
          refine ⟨xs ++ [v], by simp [hlen], fun i u hu => ?_⟩
          rcases Nat.lt_or_ge i xs.length with hi | hi
          · rw [List.getElem?_append_left hi] at hu
            exact hx i u hu
          · have : i = xs.length := by
              have := (List.getElem?_eq_some_iff.1 hu).1
              simp at this
              omega
            subst this
            have : v = u := by simpa using hu
            subst this
            rw [hlen]
            exact hv
      exact key len (Nat.le_refl _)
    obtain ⟨xs, hlen, hx⟩ := hxs
    refine ⟨xs, ⟨some a, cap, by rw [hlen], by omega, ⟨rfl, by rw [hlen]; simp only [maxLen] at hm; omega, fun h0 => ⟨a, rfl, fun j p hp => ?_⟩⟩⟩, ?_, ?_⟩
    · obtain ⟨c, hk, hv, hl2, hc2⟩ := hx j p hp
      exact ⟨c, hl2, hk, hc2⟩
    · rw [hlen]
      have h2 := length_le ((List.range len).map D)
      simp only [Rows.uptoBulk] at hw
      simp only [List.length_map, List.length_range] at h2
      omega
    · intro v hv
      obtain ⟨i, hi⟩ := List.mem_iff_getElem?.1 hv
      obtain ⟨c, hk, hv, _⟩ := hx i v hi
      exact hv

/-- The fields from one on: their types and places. -/
structure OpensF (P : Program) (fs : List (TypeId × Nat)) (k : Kd α) (wf : α → Prop) (off : Nat) : Prop where
  out : ∀ {H : Type} {enc : TypeId × Value → H} {w : World} {base : Nat} {spare : Nat → Bool} {held : Bool} {fuel : Nat} {cs : List Value} {xs : List (DataW H × List MemPlace)},
    cs.length = off + k.sz → xs.length = fs.length → (∀ (j : Nat) f, fs[j]? = some f → ∃ y, xs[j]? = some y ∧ DataW.trod enc P w base spare held fuel f.1 ((cs.drop f.2).take (P.cellsOf f.1)) = some y ∧ Rows.uptoBulk y.1 ≤ 1048576) → ∃ v, k.K w v (cs.drop off) ∧ wf v
theorem opensF_last {t off : Nat} {k : Kd α} {wf : α → Prop} (h : Opens P t k wf) : OpensF P [(t, off)] k wf off := by
  constructor
  intro H enc w base spare held fuel cs xs hl hx hf
  obtain ⟨y, hy, ht, hw⟩ := hf 0 _ rfl
  rw [h.1, List.take_of_length_le (by simp; omega)] at ht
  exact h.2 ht hw
theorem opensF_cons {t off off' : Nat} {fs : List (TypeId × Nat)} {a : Kd α} {b : Kd β} {wa : α → Prop} {wb : β → Prop} (ho : off + a.sz = off') (h : Opens P t a wa) (hs : OpensF P fs b wb off') : OpensF P ((t, off) :: fs) (Kd.pair a b) (fun x => wa x.1 ∧ wb x.2) off := by
  subst ho
  constructor
  intro H enc w base spare held fuel cs xs hl hx hf
  have hl' : cs.length = off + (a.sz + b.sz) := hl
  obtain ⟨y, hy, ht, hw⟩ := hf 0 _ rfl
  rw [h.1] at ht
  obtain ⟨v, hk, hv⟩ := h.2 ht hw
  obtain ⟨u, hk2, hu⟩ := hs.out (cs := cs) (xs := xs.drop 1) (by omega) (by simp [hx]) (fun j g hg => by
    obtain ⟨y, hy, r⟩ := hf (j + 1) g (by simpa using hg)
    exact ⟨y, by rw [List.getElem?_drop, Nat.add_comm]; exact hy, r⟩)
  refine ⟨(v, u), ⟨(cs.drop off).take a.sz, cs.drop (off + a.sz), ?_, hk, hk2⟩, hv, hu⟩
  rw [← List.drop_drop, List.take_append_drop]
theorem opens_struct {l : List (TypeId × Nat)} {fs : Array Field} {k : Kd α} {wf : α → Prop} (f : β → α) (g : α → β) (hg : ∀ x, f (g x) = x) (ht : P.underlying t = some (.struct fs)) (hfl : fs.toList.map (fun f => (f.type, f.offset)) = l) (hc : P.cellsOf t = k.sz) (h : OpensF P l k wf 0) : Opens P t (Kd.iso k f) (fun x => wf (f x)) := by
  refine ⟨hc, ?_⟩
  subst hfl
  intro H enc w base spare held fuel cs x hh hw
  obtain ⟨xs, n, _, rfl, hl, hlen, hf⟩ := DataW.trod_struct ht hh
  obtain ⟨v, hk, hv⟩ := h.out (cs := cs) (xs := xs) (by rw [hl, hc, Nat.zero_add]) (by simpa using hlen) (fun j q hq0 => by
    rw [List.getElem?_map] at hq0
    obtain ⟨g, hg, hq1⟩ := Option.map_eq_some_iff.1 hq0
    clear hq0
    subst hq1
    have hj : j < xs.length := by
      rw [hlen]
      have := (List.getElem?_eq_some_iff.1 hg).1
      simpa using this
    refine ⟨xs[j], List.getElem?_eq_getElem hj, ?_, ?_⟩
    · have := hf j g (by simpa using hg)
      rw [this]
      exact List.getElem?_eq_getElem hj
    · have h1 := part_le (List.getElem_mem (l := xs.map (fun y => y.1)) (n := j) (by simpa using hj))
      simp only [Rows.uptoBulk] at hw
      simp only [List.getElem_map] at h1
      omega)
  refine ⟨g v, ?_, ?_⟩
  · show k.K w (f (g v)) cs
    rw [hg]
    simpa using hk
  · show wf (f (g v))
    rw [hg]
    exact hv
end
end Go.Proofs.YtlojkphocbbjdabW.OpnU
