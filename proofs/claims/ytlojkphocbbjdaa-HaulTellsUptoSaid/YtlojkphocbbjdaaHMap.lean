/- Maps of a call's own in the separating state: a map from numbers to numbers, and a set of numbers, told by functions. -/
import Derived.Maps.OwnSet
import Derived.Maps.OwnOps
import Derived.Test.YtlojkphocbbjdaaHSep
namespace Go.Proofs.YtlojkphocbbjdaaW.Mapw
open Go.RowKit Go.Maps Go.Proofs.YtlojkphocbbjdaaW.PrintWords Go.Proofs.YtlojkphocbbjdaaW.PrintLast Go.Proofs.YtlojkphocbbjdaaW.PrintMore Go.Proofs.YtlojkphocbbjdaaW.Sep
set_option linter.unusedVariables false
abbrev DU := DataW Unit
theorem own_at {w w' : World} {P : Program} {k : TypeId} {R : Value → Option (DU × List MemPlace)} {b n : Nat} {D : DU} (h : w.ownsMap P k R b n D) (e : w'.heap[b]? = w.heap[b]?) : w'.ownsMap P k R b n D := by
  obtain ⟨es, c, hb, hF, hn, hD⟩ := h
  exact ⟨es, c, e.trans hb, hF, hn, hD⟩
theorem own_lt {w : World} {P : Program} {k : TypeId} {R : Value → Option (DU × List MemPlace)} {b n : Nat} {D : DU} (h : w.ownsMap P k R b n D) : b < w.heap.size := by
  obtain ⟨es, c, hb, _⟩ := h
  exact blk_lt hb
/-- What is at a key. -/
def Reads (D : DU) (f : Int → Option Int) : Prop := IsMap D ∧ ∀ a, Go.Maps.has D (.int .i64 a) = (f a).isSome ∧ ∀ x, f a = some x → ∀ z, D.atKey (.int .i64 a) z = .lit (.int .i64 x)
theorem reads_nil : Reads (.map []) (fun _ => none) := ⟨isMap_empty, fun a => ⟨rfl, fun x h => by cases h⟩⟩
theorem reads_put {D : DU} {f : Int → Option Int} (h : Reads D f) (a x : Int) (ha : WideAt.IsKeyLit (.int .i64 a)) : Reads (D.put (.int .i64 a) (.lit (.int .i64 x))) (fun b => if b = a then some x else f b) := by
  obtain ⟨h1, h2⟩ := h
  refine ⟨h1.put _ _, fun b => ?_⟩
  by_cases e : b = a
  · subst e
    refine ⟨by rw [has_put_same h1 ha]; simp, fun y hy z => ?_⟩
    obtain rfl : x = y := by simpa using hy
    exact atKey_put_same h1 ha _ _
  · have hne : (Lit.int .i64 b) ≠ Lit.int .i64 a := by
      intro he
      injection he with _ h3
      exact e h3
    refine ⟨by rw [has_put_other hne]; simp [e, (h2 b).1], fun y hy z => ?_⟩
    rw [atKey_put_other hne]
    exact (h2 b).2 y (by simpa [e] using hy) z
/-- A set: which are in it. -/
def Holds_ (D : DU) (f : Int → Bool) : Prop := IsMap D ∧ ∀ a, Go.Maps.has D (.int .i64 a) = f a
theorem holds_nil : Holds_ (.map []) (fun _ => false) := ⟨isMap_empty, fun _ => rfl⟩
theorem holds_put {D : DU} {f : Int → Bool} (h : Holds_ D f) (a : Int) (d : DU) (ha : WideAt.IsKeyLit (.int .i64 a)) : Holds_ (D.put (.int .i64 a) d) (fun b => decide (b = a) || f b) := by
  obtain ⟨h1, h2⟩ := h
  refine ⟨h1.put _ _, fun b => ?_⟩
  by_cases e : b = a
  · subst e
    rw [has_put_same h1 ha]
    simp
  · have hne : (Lit.int .i64 b) ≠ Lit.int .i64 a := by
      intro he
      injection he with _ h3
      exact e h3
    rw [has_put_other hne, h2 b]
    simp [e]
def mapA (P : Program) (k e : TypeId) (b n : Nat) (f : Int → Option Int) : Asn where
  A := fun w G => G b ∧ ∃ D : DU, w.ownsMap P k (plainElem P e) b n D ∧ Reads D f
  loc := fun h hw => ⟨h.1, let ⟨D, h1, h2⟩ := h.2; ⟨D, own_at h1 (hw b h.1 (own_lt h1)), h2⟩⟩
def setA (P : Program) (k : TypeId) (b n : Nat) (f : Int → Bool) : Asn where
  A := fun w G => G b ∧ ∃ D : DU, w.ownsMap P k unitElem b n D ∧ Holds_ D f
  loc := fun h hw => ⟨h.1, let ⟨D, h1, h2⟩ := h.2; ⟨D, own_at h1 (hw b h.1 (own_lt h1)), h2⟩⟩
end Go.Proofs.YtlojkphocbbjdaaW.Mapw
namespace Go.Proofs.YtlojkphocbbjdaaW.Sep
open Go.RowKit Go.Maps Go.Proofs.YtlojkphocbbjdaaW.PrintWords Go.Proofs.YtlojkphocbbjdaaW.PrintLast Go.Proofs.YtlojkphocbbjdaaW.PrintMore Go.Proofs.YtlojkphocbbjdaaW.Mapw
section
variable {w0 w w' : World} {L : List Asn} {P : Program} {k e : TypeId} {b n : Nat} {f : Int → Option Int} {s : Int → Bool}
theorem St.mapN (h : St w0 w L) (P : Program) (k e : TypeId) : St w0 (w.alloc (.map #[] 0)) (mapA P k e w.heap.size 0 (fun _ => none) :: L) :=
  h.more (below_alloc (Below.refl _ _) _) (fun j => j = w.heap.size) ⟨rfl, _, World.ownsMap_made _ _ _ _, reads_nil⟩ (fun j hj => by
    have := own_lt (World.ownsMap_made (H := Unit) w P k (plainElem P e))
    omega)
theorem St.setN (h : St w0 w L) (P : Program) (k : TypeId) : St w0 (w.alloc (.map #[] 0)) (setA P k w.heap.size 0 (fun _ => false) :: L) :=
  h.more (below_alloc (Below.refl _ _) _) (fun j => j = w.heap.size) ⟨rfl, _, World.ownsMap_made _ _ _ _, holds_nil⟩ (fun j hj => by
    have := own_lt (World.ownsMap_made (H := Unit) w P k unitElem)
    omega)
theorem St.mapR (h : St w0 w L) (i : Nat) (hi : L[i]? = some (mapA P k e b n f)) : ∃ D : DU, w.ownsMap P k (plainElem P e) b n D ∧ Reads D f := let ⟨_, _, hA⟩ := h.get hi; hA.2
theorem St.setR (h : St w0 w L) (i : Nat) (hi : L[i]? = some (setA P k b n s)) : ∃ D : DU, w.ownsMap P k unitElem b n D ∧ Holds_ D s := let ⟨_, _, hA⟩ := h.get hi; hA.2
theorem St.mapW (h : St w0 w L) (i : Nat) (hi : L[i]? = some (mapA P k e b n f)) {n' : Nat} {D' : DU} {f' : Int → Option Int} (h1 : w'.ownsMap P k (plainElem P e) b n' D') (h2 : Reads D' f') (hg : w.grownBy w' (some b)) : St w0 w' (L.set i (mapA P k e b n' f')) := by
  obtain ⟨G, hG, hA, hs⟩ := h.at hi
  exact hs _ _ G (h.below.grown hg h.size (fun j hj => by injection hj with hj; rw [← hj]; exact (hG b hA.1).1)) hg.size ⟨hA.1, _, h1, h2⟩ (fun j hn _ hl => hg.block j hl (fun e => hn (by injection e with e; rw [e]; exact hA.1))) (fun j hj => .inl hj)
theorem St.setW (h : St w0 w L) (i : Nat) (hi : L[i]? = some (setA P k b n s)) {n' : Nat} {D' : DU} {s' : Int → Bool} (h1 : w'.ownsMap P k unitElem b n' D') (h2 : Holds_ D' s') (hg : w.grownBy w' (some b)) : St w0 w' (L.set i (setA P k b n' s')) := by
  obtain ⟨G, hG, hA, hs⟩ := h.at hi
  exact hs _ _ G (h.below.grown hg h.size (fun j hj => by injection hj with hj; rw [← hj]; exact (hG b hA.1).1)) hg.size ⟨hA.1, _, h1, h2⟩ (fun j hn _ hl => hg.block j hl (fun e => hn (by injection e with e; rw [e]; exact hA.1))) (fun j hj => .inl hj)
end
/-- Two rows of a state lie apart. -/
theorem St.two {α β : Type} {w0 w : World} {L : List Asn} {d : Kd α} {d' : Kd β} {e e' B B' : Nat} {v v' : Value} {xs : List α} {ys : List β} (h : St w0 w (rowA B d e v xs :: rowA B' d' e' v' ys :: L)) :
    d.R e w B (fun k => some k ≠ v'.ownBlock) v xs ∧ d'.R e' w B' (fun k => some k ≠ v.ownBlock) v' ys := by
  obtain ⟨_, G, _, hA, G2, hG2, hB, _⟩ := h
  exact ⟨Kd.R_mono hA (fun k hk e => (hG2 k (hB.1 k e.symm)).2 hk), Kd.R_mono hB (fun k hk e => (hG2 k hk).2 (hA.1 k e.symm))⟩
end Go.Proofs.YtlojkphocbbjdaaW.Sep
