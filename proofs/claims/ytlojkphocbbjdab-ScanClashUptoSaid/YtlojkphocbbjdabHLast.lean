/- A drawn region that ends with writes: the numbers ds behind which nothing is shown any more (beside HReg's steps). -/
import Derived.Test.YtlojkphocbbjdabHReg
namespace Go.Proofs.YtlojkphocbbjdabW.Reg
open Go.Proofs.YtlojkphocbbjdabW.PrintWords Go.Proofs.YtlojkphocbbjdabW.PrintLast
section
variable {P : Program} {md : Region.Mode} {ops : Array Oper} {Q : Exit → Act → World → Prop} {S : World → Prop} {ds : List Nat} {T : Bool × List (List Nat × List Nat)} {B : List Nat} {fuel : Nat} {l : Array Bool} {oi : Oper} {v : Value} {a a' : Act} {w : World}
/-- The last ones: an append or a store, behind which S is not asked for. -/
theorem la_ (hT : rtab md ops = T) (i : Nat) (N : Option Tmp) (h : ∀ K : Act → World → Prop, Shut (∀ a' w', wpAnyLast P md ops Q S ds fuel (l.setIfInBounds i true) a' w' → K a' w') → if Region.wanted oi (yielded ops a.tmps) = true then Oper.wp P oi a w K Q else K (a.put N undef) w)
    (hi : ops[i]? = some oi := by rfl) (hN : oi.dst = N := by rfl) (hc : (readyT T.2 l.toList == [i] && l.toList.set i true == (l.setIfInBounds i true).toList) = true := by kernel_rfl) (hd : i ∈ ds := by decide) :
    wpAnyLast P md ops Q S ds (fuel + 1) l a w := last_ _ hi hN (one_of hT hc) hd h
/-- A region begun, with its table and its last ones. -/
theorem std_ {id n : Nat} {a : Act} {w : World} (ds : List Nat) (S : World → Prop) (hT : rtab .any ops = T) (hB : waitsOk T.2 B = true) (hS : S w.drew) (h : Aside0 (rtab .any ops = T) → Aside0 (waitsOk T.2 B = true) → S w.drew → wpAnyLast P .any ops Q S ds n (Array.replicate n false) a w.drew)
    (hm : P.follows .mixedOrders = true := by kernel_rfl) (hn : ops.size = n := by rfl) : (Code.region id ops true).wp P Q a w :=
  start_ _ hm hn rfl hS (fun hh => h ⟨hT⟩ ⟨hB⟩ hh)
end
end Go.Proofs.YtlojkphocbbjdabW.Reg
