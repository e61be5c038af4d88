/- Maps of a call's own in the separating state: a map from numbers to numbers, and a set of numbers, told by functions. -/
import Derived.Maps.OwnSet
import Derived.Maps.OwnOps
import Derived.Test.YtlojkphocbbjdabHSep
namespace Go.Proofs.YtlojkphocbbjdabW.Mapw
open Go.RowKit Go.Maps Go.Proofs.YtlojkphocbbjdabW.PrintWords Go.Proofs.YtlojkphocbbjdabW.PrintLast Go.Proofs.YtlojkphocbbjdabW.PrintMore Go.Proofs.YtlojkphocbbjdabW.Sep
set_option linter.unusedVariables false
abbrev DU := DataW Unit
theorem own_at {w w' : World} {P : Program} {k : TypeId} {R : Value → Option (DU × List MemPlace)} {b n : Nat} {D : DU} (h : w.ownsMap P k R b n D) (e : w'.heap[b]? = w.heap[b]?) : w'.ownsMap P k R b n D := by
  obtain ⟨es, c, hb, hF, hn, hD⟩ := h
  exact ⟨es, c, e.trans hb, hF, hn, hD⟩
theorem own_lt {w : World} {P : Program} {k : TypeId} {R : Value → Option (DU × List MemPlace)} {b n : Nat} {D : DU} (h : w.ownsMap P k R b n D) : b < w.heap.size := by
  obtain ⟨es, c, hb, _⟩ := h
  exact blk_lt hb
/-- A set: which are in it. -/
def Holds_ (D : DU) (f : Int → Bool) : Prop := IsMap D ∧ ∀ a, Go.Maps.has D (.int .i64 a) = f a
theorem holds_nil : Holds_ (.map []) (fun _ => false) := ⟨isMap_empty, fun _ => rfl⟩
theorem holds_put {D : DU} {f : Int → Bool} (h : Holds_ D f) (a : Int) (d : DU) (ha : WideAt.IsKeyLit (.int .i64 a)) : Holds_ (D.put (.int .i64 a) d) (fun b => decide (b = a) || f b) := by
  obtain ⟨h1, h2⟩ := h
  refine ⟨h1.put _ _, fun b => ?_⟩
  by_cases e : b = a
  · subst e
    rw [has_put_same h1 ha]
    simp
  · have hne : (Lit.int .i64 b) ≠ Lit.int .i64 a := by
      intro he
      injection he with _ h3
      exact e h3
    rw [has_put_other hne, h2 b]
    simp [e]
def setA (P : Program) (k : TypeId) (b n : Nat) (f : Int → Bool) : Asn where
  A := fun w G => G b ∧ ∃ D : DU, w.ownsMap P k unitElem b n D ∧ Holds_ D f
  loc := fun h hw => ⟨h.1, let ⟨D, h1, h2⟩ := h.2; ⟨D, own_at h1 (hw b h.1 (own_lt h1)), h2⟩⟩
end Go.Proofs.YtlojkphocbbjdabW.Mapw
namespace Go.Proofs.YtlojkphocbbjdabW.Sep
open Go.RowKit Go.Maps Go.Proofs.YtlojkphocbbjdabW.PrintWords Go.Proofs.YtlojkphocbbjdabW.PrintLast Go.Proofs.YtlojkphocbbjdabW.PrintMore Go.Proofs.YtlojkphocbbjdabW.Mapw
section
variable {w0 w w' : World} {L : List Asn} {P : Program} {k e : TypeId} {b n : Nat} {f : Int → Option Int} {s : Int → Bool}
theorem St.setN (h : St w0 w L) (P : Program) (k : TypeId) : St w0 (w.alloc (.map #[] 0)) (setA P k w.heap.size 0 (fun _ => false) :: L) :=
  h.more (below_alloc (Below.refl _ _) _) (fun j => j = w.heap.size) ⟨rfl, _, World.ownsMap_made _ _ _ _, holds_nil⟩ (fun j hj => by
    have := own_lt (World.ownsMap_made (H := Unit) w P k unitElem)
    omega)
theorem St.setR (h : St w0 w L) (i : Nat) (hi : L[i]? = some (setA P k b n s)) : ∃ D : DU, w.ownsMap P k unitElem b n D ∧ Holds_ D s := let ⟨_, _, hA⟩ := h.get hi; hA.2
theorem St.setW (h : St w0 w L) (i : Nat) (hi : L[i]? = some (setA P k b n s)) {n' : Nat} {D' : DU} {s' : Int → Bool} (h1 : w'.ownsMap P k unitElem b n' D') (h2 : Holds_ D' s') (hg : w.grownBy w' (some b)) : St w0 w' (L.set i (setA P k b n' s')) := by
  obtain ⟨G, hG, hA, hs⟩ := h.at hi
  exact hs _ _ G (h.below.grown hg h.size (fun j hj => by injection hj with hj; rw [← hj]; exact (hG b hA.1).1)) hg.size ⟨hA.1, _, h1, h2⟩ (fun j hn _ hl => hg.block j hl (fun e => hn (by injection e with e; rw [e]; exact hA.1))) (fun j hj => .inl hj)
end
end Go.Proofs.YtlojkphocbbjdabW.Sep
