-- Printed for this claim by a program of this session (inj.py), beside the kit's print. Not trusted: Lean checks it.
import Derived.JoinedCond
import Derived.Test.YtlojkphocbbjdabRows
import Derived.Test.YtlojkphocbbjdabPScanClashx7
import Derived.Test.YtlojkphocbbjdabPScanClasho
import Derived.Test.YtlojkphocbbjdabPureScanClash
import Derived.WalkKit
import Derived.ProofKit
import Derived.OpenShut
import Derived.ShutString
import Derived.ChangeOld
import Derived.Below
import Derived.SizedLaws
namespace Go.Proofs.Ytlojkphocbbjdab.scanClash
open Go.ChangeShapes Go.WideShapes Go.ChangeAt Go.RowKit
open Go.ChangeMaps (open_string shut_string)
set_option linter.unusedVariables false
theorem own : ownKnob Try.prog.godebug = none := by kernel_rfl
theorem laidOut : laidOutB Try.prog = true := by kernel_rfl
set_option maxRecDepth 100000 in
theorem lifted (os : Os) (started : os.Started) (H : Type) (enc : TypeId × Value → H) (F : Stop.Interp) :
    ReturnsInHanded {} Try.checked os 5 .any ((Rows.OpenSpec.upto Rows.scanClashSpec).pre6 enc Try.prog Try.f5 Rows.scanClashUptoRow.domain false) (((Rows.OpenSpec.upto Rows.scanClashSpec).at F).post enc Try.prog Try.f5 false true false false) := by
  refine returnsInHanded_of_cond (C := Try.checked) (s := Rows.OpenSpec.upto Rows.scanClashSpec) (k := Rows.uptoSmall) rfl own started (by kernel_rfl) Try.func5
    (OpenSpec.witness (enc := enc) (C := Try.checked) (s := Rows.OpenSpec.upto Rows.scanClashSpec) (k := Rows.uptoSmall) rfl false ⟨#[], #[.slice none 0 0, .slice none 0 0], []⟩ 8 (by kernel_rfl) (by kernel_rfl) (by kernel_rfl)
      (x := ([.nil, .nil], [], [])) (by kernel_rfl) rfl (by kernel_rfl)) ?_
  intro W base args ds gs before hval0 hW _ hk _
  have hsz : Rows.uptoBulkAll (ds ++ gs) ≤ 1048576 := of_decide_eq_true hk
  have hsz0 := hsz
  have hval : ∀ (j : Nat) t v, Try.f5.params[j]? = some t → args[j]? = some v → Value.okWide Try.prog W .any base t v := hval0
  have hW' := hW
  obtain ⟨p, q, hA0, hV, rfl, hfz, hnd⟩ := hW
  have hA : DataW.TrodAll enc Try.prog W 0 (fun _ => true) true Try.f5.params.toList args.toList ds p := hA0
  rw [Try.params5] at hA hval
  obtain ⟨v0, vs0, d0, ds0, p0, q0, hargs, rfl, rfl, h0, r0⟩ := trodAll_cons hA
  obtain ⟨v1, vs1, d1, ds1, p1, q1, rfl, rfl, rfl, h1, r1⟩ := trodAll_cons r0
  obtain ⟨rfl, rfl, rfl⟩ := trodAll_nil r1
  obtain rfl : args = #[v0, v1] := by cases args; simp_all
  obtain ⟨rfl, rfl⟩ := trodVars_none hV
  obtain ⟨a0, len0, cap0, rfl⟩ := okWide_slice Try.underlying46 (hval 0 46 v0 rfl rfl)
  have k0 := h0
  have lt0 : ∀ x ∈ p0, x.block < W.heap.size := by obtain ⟨m, hm⟩ := k0; exact DataW.trod_lt m _ _ _ hm
  obtain ⟨x0, hk0, w0⟩ : ∃ x, (YtlojkphocbbjdabW.PrintWords.Kd.slice 60 PScanClash.k60).K W x [.slice a0 len0 cap0] ∧ (x.length ≤ 1048576 ∧ ∀ z ∈ x, PScanClash.wf60 z) := by
    obtain ⟨fuel, hf⟩ := h0
    exact (YtlojkphocbbjdabW.OpnU.opens_slice Try.underlying46 (by kernel_rfl) PScanClash.op60).2 hf (by have := YtlojkphocbbjdabW.OpnU.part_le (d := d0) (l := [d0, d1] ++ []) (by simp); show Rows.uptoBulk d0 ≤ 1048576; omega)
  obtain ⟨A0, c0, e0, l0, g0⟩ := hk0
  obtain ⟨rfl, rfl, rfl⟩ : a0 = A0 ∧ len0 = x0.length ∧ cap0 = c0 := by simpa using e0
  obtain ⟨a1, len1, cap1, rfl⟩ := okWide_slice Try.underlying47 (hval 1 47 v1 rfl rfl)
  have k1 := h1
  have lt1 : ∀ x ∈ p1, x.block < W.heap.size := by obtain ⟨m, hm⟩ := k1; exact DataW.trod_lt m _ _ _ hm
  obtain ⟨x1, hk1, w1⟩ : ∃ x, (YtlojkphocbbjdabW.PrintWords.Kd.slice 54 PScanClash.k54).K W x [.slice a1 len1 cap1] ∧ (x.length ≤ 1048576 ∧ ∀ z ∈ x, PScanClash.wf54 z) := by
    obtain ⟨fuel, hf⟩ := h1
    exact (YtlojkphocbbjdabW.OpnU.opens_slice Try.underlying47 (by kernel_rfl) PScanClash.op54).2 hf (by have := YtlojkphocbbjdabW.OpnU.part_le (d := d1) (l := [d0, d1] ++ []) (by simp); show Rows.uptoBulk d1 ≤ 1048576; omega)
  obtain ⟨A1, c1, e1, l1, g1⟩ := hk1
  obtain ⟨rfl, rfl, rfl⟩ : a1 = A1 ∧ len1 = x1.length ∧ cap1 = c1 := by simpa using e1
  clear hA0 hval0 hsz0 hsz
  obtain ⟨k, hP⟩ := Pure.ScanClash x0 x1 w0 w1
  refine (PScanClash.backstitchlaw3_ScanClash.calls k a0 cap0 x0 a1 cap1 x1 true W g0 l0 g1 l1 hP).mono fun e W' ⟨he, bel0⟩ => ?_
  have bel : Below W.heap.size W W' := bel0
  subst he
  exact ⟨_, rfl, _, _, _, [], _, [], hW', trodAll_mk1 (shut_bool Try.underlying4 _), (trodAll_cons_mk (Below.trod laidOut (by kernel_rfl) (of_decide_eq_true (by kernel_rfl)) k0 bel lt0) (trodAll_cons_mk (Below.trod laidOut (by kernel_rfl) (of_decide_eq_true (by kernel_rfl)) k1 bel lt1) trodAll_mk0)), rfl, bel.frame _, fun h => by cases h⟩
theorem over : Rows.scanClashUptoRow.holds Try.pinned (Rows.OpenSpec.upto Rows.scanClashSpec) :=
  OpenClaim.holds_of_cond 5 Try.f5 rfl rfl rfl rfl rfl rfl rfl ⟨rfl, rfl, rfl, rfl, rfl⟩ rfl rfl rfl rfl rfl (by kernel_rfl) Try.func5 (by kernel_rfl)
    (of_decide_eq_true (by kernel_rfl)) (by unfold Func.isWrapper; first | (rw [if_pos (by decide +kernel)]; kernel_rfl) | (rw [if_neg (by decide +kernel)]; exact ⟨rfl, rfl⟩))
    (fun os started H enc _ F => lifted os started H enc F)
theorem proved : Rows.ScanClashUptoSaid := over
#print axioms proved
end Go.Proofs.Ytlojkphocbbjdab.scanClash
namespace Go.Proofs.Ytlojkphocbbjdab
/-- The row, under a short name, for the claim. -/
theorem scanClashUpto_holds : Rows.ScanClashUptoSaid := scanClash.proved
end Go.Proofs.Ytlojkphocbbjdab
