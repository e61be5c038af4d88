/- A small separating state: things of a call's own that lie apart (blocks, rows, objects), each with its footprint; every event moves the whole of it. -/
import Derived.Test.YtlojkphocbbjdabWWords
import Derived.Test.YtlojkphocbbjdabWLast
import Derived.Test.YtlojkphocbbjdabWKept
import Derived.Test.YtlojkphocbbjdabWMore
import Derived.Test.YtlojkphocbbjdabWApart
import Derived.Test.YtlojkphocbbjdabHBase
import Derived.Test.YtlojkphocbbjdabHMore
namespace Go.Proofs.YtlojkphocbbjdabW.Sep
open Go.RowKit Go.Proofs.YtlojkphocbbjdabW.PrintWords Go.Proofs.YtlojkphocbbjdabW.PrintLast Go.Proofs.YtlojkphocbbjdabW.PrintMore
set_option linter.unusedVariables false
set_option linter.unusedSimpArgs false

/-- What is said of a world and a set of its blocks, and of no others. -/
structure Asn where
  A : World → (Nat → Prop) → Prop
  loc : ∀ {w w' : World} {G : Nat → Prop}, A w G → (∀ k, G k → k < w.heap.size → w'.heap[k]? = w.heap[k]?) → A w' G
/-- One behind the other, each out of what the ones ahead of it leave of F. -/
def Sep (w : World) : List Asn → (Nat → Prop) → Prop
  | [], _ => True
  | a :: L, F => ∃ G : Nat → Prop, (∀ k, G k → F k) ∧ a.A w G ∧ Sep w L (fun k => F k ∧ ¬ G k)
theorem Sep.loc {w w' : World} : ∀ {L : List Asn} {F F' : Nat → Prop}, Sep w L F → (∀ k, F k → F' k) → (∀ k, F k → k < w.heap.size → w'.heap[k]? = w.heap[k]?) → Sep w' L F'
  | [], _, _, _, _, _ => trivial
  | a :: L, F, F', ⟨G, hG, hA, hL⟩, hF, hw => ⟨G, fun k hk => hF k (hG k hk), a.loc hA (fun k hk => hw k (hG k hk)), Sep.loc hL (fun k hk => ⟨hF k hk.1, hk.2⟩) (fun k hk => hw k hk.1)⟩
/-- The one at i: what it holds, and how it turns into another while the rest stays. -/
theorem Sep.at {w : World} {a : Asn} : ∀ {L : List Asn} {i : Nat} {F : Nat → Prop}, Sep w L F → L[i]? = some a →
    ∃ G : Nat → Prop, (∀ k, G k → F k) ∧ a.A w G ∧ ∀ (w' : World) (a' : Asn) (G' F' : Nat → Prop), a'.A w' G' → (∀ k, F k → ¬ G k → k < w.heap.size → w'.heap[k]? = w.heap[k]?) → (∀ k, G' k → F' k ∧ (F k → G k)) → (∀ k, F k → F' k) → Sep w' (L.set i a') F'
  | [], i, F, _, h => by simp at h
  | b :: L, 0, F, ⟨G, hG, hA, hL⟩, h => by
    obtain rfl : b = a := by simpa using h
    exact ⟨G, hG, hA, fun w' a' G' F' hA' hw hG' hF => ⟨G', fun k hk => (hG' k hk).1, hA', Sep.loc hL (fun k hk => ⟨hF k hk.1, fun h' => hk.2 ((hG' k h').2 hk.1)⟩) (fun k hk => hw k hk.1 hk.2)⟩⟩
  | b :: L, i + 1, F, ⟨G0, hG0, hB, hL⟩, h => by
    obtain ⟨G, hG, hA, hs⟩ := Sep.at hL (i := i) (by simpa using h)
    refine ⟨G, fun k hk => (hG k hk).1, hA, fun w' a' G' F' hA' hw hG' hF => ?_⟩
    refine ⟨G0, fun k hk => hF k (hG0 k hk), b.loc hB (fun k hk => hw k (hG0 k hk) (fun hg => (hG k hg).2 hk)), ?_⟩
    exact hs w' a' G' (fun k => F' k ∧ ¬ G0 k) hA' (fun k hk => hw k hk.1) (fun k hk => ⟨⟨(hG' k hk).1, fun h0 => (hG k ((hG' k hk).2 (hG0 k h0))).2 h0⟩, fun hk2 => (hG' k hk).2 hk2.1⟩) (fun k hk => ⟨hF k hk.1, hk.2⟩)
theorem Sep.swap {w : World} {a b : Asn} {L : List Asn} {F : Nat → Prop} (h : Sep w (a :: b :: L) F) : Sep w (b :: a :: L) F := by
  obtain ⟨G, hG, hA, G2, hG2, hB, hL⟩ := h
  exact ⟨G2, fun k hk => (hG2 k hk).1, hB, G, fun k hk => ⟨hG k hk, fun h2 => (hG2 k h2).2 hk⟩, hA, Sep.loc hL (fun k hk => ⟨⟨hk.1.1, hk.2⟩, hk.1.2⟩) (fun _ _ _ => rfl)⟩

/-- The state: what was there at w0 is as it was; the things of L lie apart in what is new. -/
structure St (w0 w : World) (L : List Asn) : Prop where
  below : Below w0.heap.size w0 w
  sep : Sep w L (fun k => w0.heap.size ≤ k ∧ k < w.heap.size)
section
variable {w0 w w' : World} {L : List Asn} {a b : Asn}
theorem St.nil (h : Below w0.heap.size w0 w) : St w0 w [] := ⟨h, trivial⟩
theorem St.size (h : St w0 w L) : w0.heap.size ≤ w.heap.size := h.below.size
/-- A call, or anything else, that leaves all that is there. -/
theorem St.call (h : St w0 w L) (hb : Below w.heap.size w w') : St w0 w' L :=
  ⟨below_step h.below hb, h.sep.loc (fun k hk => ⟨hk.1, Nat.lt_of_lt_of_le hk.2 hb.size⟩) (fun k hk _ => hb.block k hk.2)⟩
theorem St.tail (h : St w0 w (a :: L)) : St w0 w L := by
  obtain ⟨hb, G, hG, hA, hL⟩ := h
  exact ⟨hb, hL.loc (fun k hk => hk.1) (fun _ _ _ => rfl)⟩
theorem St.swap (h : St w0 w (a :: b :: L)) : St w0 w (b :: a :: L) := ⟨h.below, h.sep.swap⟩
/-- Something new: it lies in what is new since w. -/
theorem St.more (h : St w0 w L) (hb : Below w.heap.size w w') (G : Nat → Prop) (hA : a.A w' G) (hG : ∀ k, G k → w.heap.size ≤ k ∧ k < w'.heap.size) : St w0 w' (a :: L) := by
  have h1 := h.size
  exact ⟨below_step h.below hb, G, fun k hk => ⟨by have := (hG k hk).1; omega, (hG k hk).2⟩, hA, h.sep.loc (fun k hk => ⟨⟨hk.1, Nat.lt_of_lt_of_le hk.2 hb.size⟩, fun hg => by have := (hG k hg).1; omega⟩) (fun k hk _ => hb.block k hk.2)⟩
/-- The one at i turns into another; the rest stays. -/
theorem St.at (h : St w0 w L) {i : Nat} (hi : L[i]? = some a) : ∃ G : Nat → Prop, (∀ k, G k → w0.heap.size ≤ k ∧ k < w.heap.size) ∧ a.A w G ∧
    ∀ (w' : World) (a' : Asn) (G' : Nat → Prop), Below w0.heap.size w0 w' → w.heap.size ≤ w'.heap.size → a'.A w' G' → (∀ k, ¬ G k → w0.heap.size ≤ k → k < w.heap.size → w'.heap[k]? = w.heap[k]?) → (∀ k, G' k → G k ∨ (w.heap.size ≤ k ∧ k < w'.heap.size)) → St w0 w' (L.set i a') := by
  obtain ⟨G, hG, hA, hs⟩ := h.sep.at hi
  have h1 := h.size
  refine ⟨G, hG, hA, fun w' a' G' hb hsz hA' hw hG' => ⟨hb, hs w' a' G' _ hA' (fun k hk hn hl => hw k hn hk.1 hl) (fun k hk => ?_) (fun k hk => ⟨hk.1, Nat.lt_of_lt_of_le hk.2 hsz⟩)⟩⟩
  rcases hG' k hk with hg | ⟨h2, h3⟩
  · exact ⟨⟨(hG k hg).1, Nat.lt_of_lt_of_le (hG k hg).2 hsz⟩, fun _ => hg⟩
  · exact ⟨⟨by omega, h3⟩, fun hf => by have := hf.2; omega⟩
theorem St.get (h : St w0 w L) {i : Nat} (hi : L[i]? = some a) : ∃ G : Nat → Prop, (∀ k, G k → w0.heap.size ≤ k ∧ k < w.heap.size) ∧ a.A w G := let ⟨G, h1, h2, _⟩ := h.at hi; ⟨G, h1, h2⟩
end
theorem Sep.front {w : World} {a : Asn} : ∀ {L : List Asn} {i : Nat} {F : Nat → Prop}, Sep w L F → L[i]? = some a → Sep w (a :: L.eraseIdx i) F
  | [], i, F, _, h => by simp at h
  | b :: L, 0, F, hs, h => by
    obtain rfl : b = a := by simpa using h
    exact hs
  | b :: L, i + 1, F, ⟨G, hG, hB, hL⟩, h => by
    have := Sep.front hL (i := i) (by simpa using h)
    exact Sep.swap (L := L.eraseIdx i) ⟨G, hG, hB, this⟩
theorem St.front {w0 w : World} {L : List Asn} {a : Asn} (h : St w0 w L) (i : Nat) (hi : L[i]? = some a) : St w0 w (a :: L.eraseIdx i) := ⟨h.below, h.sep.front hi⟩
theorem St.drop {w0 w : World} {L : List Asn} {a : Asn} (h : St w0 w L) (i : Nat) (hi : L[i]? = some a) : St w0 w (L.eraseIdx i) := (h.front i hi).tail
/-! blocks -/
def blkA (g : Nat) (cs : Array Value) (t : TypeId) : Asn where
  A := fun w G => G g ∧ w.heap[g]? = some (.cells cs t (0, 0))
  loc := fun h hw => ⟨h.1, (hw g h.1 (blk_lt h.2)).trans h.2⟩
section
variable {w0 w w' : World} {L : List Asn} {a b : Asn} {g i : Nat} {cs : Array Value} {t : TypeId}
theorem St.box (h : St w0 w L) (hg : g = w.heap.size) (hx : w'.heap[g]? = some (.cells cs t (0, 0))) (hb : Below w.heap.size w w') : St w0 w' (blkA g cs t :: L) :=
  h.more hb (fun k => k = g) ⟨rfl, hx⟩ (fun k hk => by have := blk_lt hx; omega)
theorem St.blk (h : St w0 w L) (i : Nat) (hi : L[i]? = some (blkA g cs t)) : w.heap[g]? = some (.cells cs t (0, 0)) := let ⟨_, _, hA⟩ := h.get hi; hA.2
theorem St.blkN (h : St w0 w L) (i : Nat) (hi : L[i]? = some (blkA g cs t)) : w0.heap.size ≤ g ∧ g < w.heap.size := let ⟨_, hG, hA⟩ := h.get hi; hG _ hA.1
theorem St.cell (h : St w0 w L) (i : Nat) (hi : L[i]? = some (blkA g cs t)) (j : Nat) : w.cell? ⟨g, j, none⟩ = cs[j]? := blk_cell (h.blk i hi) j
theorem St.frz (h : St w0 w L) (i : Nat) (hi : L[i]? = some (blkA g cs t)) (j : Nat) : w.frozen? ⟨g, j, none⟩ = false := blk_frozen (h.blk i hi) j
theorem St.put (h : St w0 w L) (i : Nat) (hi : L[i]? = some (blkA g cs t)) (j : Nat) (v : Value) {cs' : Array Value} (e : cs.setIfInBounds j v = cs') : St w0 (w.setCell ⟨g, j, none⟩ v) (L.set i (blkA g cs' t)) := by
  obtain ⟨G, hG, hA, hs⟩ := h.at hi
  exact hs _ _ G (below_set h.below (hG g hA.1).1) (by rw [World.setCell]; simp) ⟨hA.1, blk_put hA.2 j v e⟩ (fun k hk _ _ => Below.heap_setCell w _ _ k (fun e => hk (by rw [e]; exact hA.1))) (fun k hk => .inl hk)
end
/-! rows -/
section
variable {α : Type}
def rowA (base : Nat) (d : Kd α) (e : Nat) (v : Value) (xs : List α) : Asn where
  A := fun w G => d.R e w base G v xs
  loc := fun h hw => Kd.R_step h hw
variable {w0 w w' : World} {L : List Asn} {a b : Asn} {g i : Nat} {d : Kd α} {e : Nat} {v v1 : Value} {xs ys : List α} {B : Nat}
/-- A row that a call has made. -/
theorem St.mrow (h : St w0 w L) (hb : Below w.heap.size w w') {ok : Nat → Prop} (hr : d.R e w' w.heap.size ok v xs) : St w0 w' (rowA w0.heap.size d e v xs :: L) :=
  h.more hb _ (Kd.R_lower (Kd.R_bound hr) h.size) (fun k hk => ⟨hk.2.1, hk.2.2.1⟩)
theorem St.nrow (h : St w0 w L) (d : Kd α) (e : Nat) : St w0 w (rowA w0.heap.size d e (.slice none 0 0) [] :: L) :=
  h.more (Below.refl _ _) (fun _ => False) (Kd.R_nil _ _ _ _ _) (fun k hk => hk.elim)
theorem St.row (h : St w0 w L) (i : Nat) (hi : L[i]? = some (rowA B d e v xs)) : d.R e w B (fun _ => True) v xs := let ⟨_, _, hA⟩ := h.get hi; Kd.R_mono hA (fun _ _ => trivial)
theorem St.reads (h : St w0 w L) (i : Nat) (hi : L[i]? = some (rowA B d e v xs)) : ∃ A c, v = .slice A xs.length c ∧ xs.length ≤ c ∧ d.C w A xs.length xs := Kd.R_reads (h.row i hi)
/-- The row at i, ready for an append; and the state behind one. -/
theorem St.app (h : St w0 w L) (i : Nat) (hi : L[i]? = some (rowA w0.heap.size d e v xs)) : ∃ ok : Nat → Prop, (∀ k, w.heap.size ≤ k → ok k) ∧ d.R e w w0.heap.size ok v xs ∧
    ∀ (w' : World) (v1 : Value) (ys : List α), d.R e w' w0.heap.size ok v1 ys → Below w0.heap.size w0 w' → w.grownBy w' v.ownBlock → St w0 w' (L.set i (rowA w0.heap.size d e v1 ys)) := by
  obtain ⟨G, hG, hA, hs⟩ := h.at hi
  refine ⟨fun k => G k ∨ w.heap.size ≤ k, fun k hk => .inr hk, Kd.R_mono hA (fun k hk => .inl hk), fun w' v1 ys hr hb hg => ?_⟩
  refine hs w' _ _ hb hg.size (Kd.R_bound hr) (fun k hn _ hl => hg.block k hl (fun e => hn (hA.1 k e.symm))) (fun k hk => ?_)
  rcases hk.1 with h1 | h1
  · exact .inl h1
  · exact .inr ⟨h1, hk.2.2.1⟩
/-- The row at i turns in place (its own blocks alone are written). -/
theorem St.rput (h : St w0 w L) (i : Nat) (hi : L[i]? = some (rowA w0.heap.size d e v xs)) : ∃ G : Nat → Prop, (∀ k, G k → w0.heap.size ≤ k ∧ k < w.heap.size) ∧ d.R e w w0.heap.size G v xs ∧
    ∀ (w' : World) (v1 : Value) (ys : List α), d.R e w' w0.heap.size G v1 ys → Below w0.heap.size w0 w' → w.grownBy w' v.ownBlock → St w0 w' (L.set i (rowA w0.heap.size d e v1 ys)) := by
  obtain ⟨G, hG, hA, hs⟩ := h.at hi
  exact ⟨G, hG, hA, fun w' v1 ys hr hb hg => hs w' _ G hb hg.size hr (fun k hn _ hl => hg.block k hl (fun e => hn (hA.1 k e.symm))) (fun k hk => .inl hk)⟩
end
/-! an element of a row written over -/
section
variable {α : Type} {w0 w : World} {L : List Asn} {d : Kd α} {e g n cap : Nat} {xs : List α}
end
/-! rows of numbers laid as literals -/
section
variable {w0 w w' : World} {L : List Asn}
theorem St.alloc (h : St w0 w L) (o : Obj) : St w0 (w.alloc o) L := h.call (below_alloc (Below.refl _ _) o)
end
/-! joined, and told open -/
def ex {ι : Type} (f : ι → Asn) : Asn where
  A := fun w G => ∃ x, (f x).A w G
  loc := fun h hw => let ⟨x, hx⟩ := h; ⟨x, (f x).loc hx hw⟩
def pure_ (p : Prop) : Asn where
  A := fun _ _ => p
  loc := fun h _ => h
section
variable {w0 w w' : World} {l L : List Asn} {a b : Asn} {ι : Type} {f : ι → Asn} {p : Prop}
theorem St.drew (h : St w0 w L) : St w0 w.drew L := h.call (below_drew (Below.refl _ _))
theorem St.drewN (h : St w0 w L) (n : Nat) : St w0 (w.drewN n) L := h.call (pw_below_drewN (Below.refl _ _) n)
/-- The head turns into another by an argument of one's own. -/
theorem St.head (h : St w0 w (a :: L)) (hi : ∀ G, a.A w G → b.A w G) : St w0 w (b :: L) := let ⟨G, hG, hA, hL⟩ := h.sep; ⟨h.below, G, hG, hi G hA, hL⟩
end
end Go.Proofs.YtlojkphocbbjdabW.Sep
